/- TakeRec DrvApp PeelS DrvTorn -/
import Derived.Deep.RegionHeld3
import Derived.BigGuardPart
import Derived.Deep.DeepCutAuto
import Derived.Deep.RegionLaw
import Derived.Deep.AppendLies
import Derived.Laws.BitsAllLaws
import Derived.ArgAppend
import Derived.Test.YtbpimfhachbcdaaDoorBPageJoins07
import Derived.Test.YtbpimfhachbcdaaDoorBPageJoins09
import Derived.Test.YtbpimfhachbcdaaDoorBPageJoins12
set_option maxRecDepth 20000
set_option linter.unusedSimpArgs false
set_option linter.unusedVariables false
set_option linter.unusedSectionVars false
namespace Wells
open Go Go.RowKit
end Wells
namespace Go.Proofs.YtbpimfhachbcdaaDoor
open Go.RowKit Wells
theorem row8 {w : World} {g : Nat} {t : TypeId} {z0 z1 z2 z3 z4 z5 z6 z7 : Value} (h : Row w g t [z0, z1, z2, z3, z4, z5, z6, z7]) (a0 a1 a2 a3 a4 a5 a6 a7 : Value) : Row ((((((((w.setCell ⟨g, 0, none⟩ a0).setCell ⟨g, 1, none⟩ a1).setCell ⟨g, 2, none⟩ a2).setCell ⟨g, 3, none⟩ a3).setCell ⟨g, 4, none⟩ a4).setCell ⟨g, 5, none⟩ a5).setCell ⟨g, 6, none⟩ a6).setCell ⟨g, 7, none⟩ a7) g t [a0, a1, a2, a3, a4, a5, a6, a7] := ((((((((h.set 0 a0).set 1 a1).set 2 a2).set 3 a3).set 4 a4).set 5 a5).set 6 a6).set 7 a7)
theorem below8 {w0 w : World} {g B : Nat} (h : Below B w0 w) (hg : B ≤ g) (hs : B ≤ w.heap.size) (a0 a1 a2 a3 a4 a5 a6 a7 : Value) : Below B w0 ((((((((w.setCell ⟨g, 0, none⟩ a0).setCell ⟨g, 1, none⟩ a1).setCell ⟨g, 2, none⟩ a2).setCell ⟨g, 3, none⟩ a3).setCell ⟨g, 4, none⟩ a4).setCell ⟨g, 5, none⟩ a5).setCell ⟨g, 6, none⟩ a6).setCell ⟨g, 7, none⟩ a7) :=
  (below_put (below_put (below_put (below_put (below_put (below_put (below_put (below_put h _ _ hg (by simpa [World.setCell] using hs) _) _ _ hg (by simpa [World.setCell] using hs) _) _ _ hg (by simpa [World.setCell] using hs) _) _ _ hg (by simpa [World.setCell] using hs) _) _ _ hg (by simpa [World.setCell] using hs) _) _ _ hg (by simpa [World.setCell] using hs) _) _ _ hg (by simpa [World.setCell] using hs) _) _ _ hg (by simpa [World.setCell] using hs) _)
end Go.Proofs.YtbpimfhachbcdaaDoor

namespace Go.Proofs.YtbpimfhachbcdaaDoor
open Go.RowKit Wells
theorem Lst.set_ {F : Nat → Prop} {w : World} {g : Nat} {t : TypeId} {v : Value} {vs : List Value} {ls : List (List Byte)} {cs : List Value} (h : OBs 0 w v vs ls) (hv : In v F) (hs : ∀ x ∈ vs, In x F) (hr : Row w g t cs) (h1 : 37 ≠ t) (h2 : 5 ≠ t) (i : Nat) (x : Value) : Lst F (w.setCell ⟨g, i, none⟩ x) v vs ls :=
  Lst.far ⟨h, hv, hs⟩ hr h1 h2 i x
theorem OBs.elem {base : Nat} {w : World} {v : Value} {vs : List Value} {ls : List (List Byte)} (h : OBs base w v vs ls) {x : Value} (hx : x ∈ vs) : ∃ l, OB base w x l := by
  have hl : vs.length = ls.length := by have := h.own.1; omega
  obtain ⟨i, hi, rfl⟩ := List.getElem_of_mem hx
  have := h.at_ i (by omega)
  rw [List.getD_eq_getElem?_getD, List.getElem?_eq_getElem hi] at this
  exact ⟨_, this⟩
end Go.Proofs.YtbpimfhachbcdaaDoor

namespace Wells
open Go Go.RowKit
end Wells
namespace Go.Proofs.YtbpimfhachbcdaaDoor
open Go.RowKit Wells
/-- which columns are known, and their values -/
structure KV (base N : Nat) (w : World) (gk gv : Nat) (vs : List Value) (S : PSt) : Prop where
  k : Row w gk 4 (S.known.map Value.bool)
  v : Row w gv 37 vs
  kl : S.known.length = N
  vl : vs.length = N
  sl : S.vals.length = N
  at_ : ∀ i, i < N → OB base w (vs.getD i undef) (S.vals.getD i [])
  gek : base ≤ gk
  gev : base ≤ gv
section
variable {base N : Nat} {w w' : World} {gk gv : Nat} {vs : List Value} {S : PSt}
theorem KV.below (h : KV base N w gk gv vs S) (hb : Below w.heap.size w w') : KV base N w' gk gv vs S :=
  ⟨h.k.below hb h.k.lt, h.v.below hb h.v.lt, h.kl, h.vl, h.sl, fun i hi => (h.at_ i hi).below hb, h.gek, h.gev⟩
end
section
variable {w0 w w' : World} {g4 g5 : Nat} {sc sd : Value} {oc : List Int} {od : List Byte}
end
end Go.Proofs.YtbpimfhachbcdaaDoor

namespace Go.Proofs.YtbpimfhachbcdaaDoor
open Go.RowKit Wells
theorem _root_.Wells.Sl.holds {w : World} {B n : Nat} {A : Option Addr} {xs : List Value} (h : Sl w B 1 A n xs) : ∀ b', A = some b' → ∀ j u, xs[j]? = some u → w.cell? (b'.add j) = some u := by
  intro b' e j u hu
  have hl := h.len
  have hj := (List.getElem?_eq_some_iff.1 hu).1
  obtain ⟨b, o, e2, _, hc⟩ := h.at_ (by omega)
  rw [e] at e2
  injection e2 with e2
  subst e2
  rw [addr_add]
  exact hc j u hu
end Go.Proofs.YtbpimfhachbcdaaDoor

