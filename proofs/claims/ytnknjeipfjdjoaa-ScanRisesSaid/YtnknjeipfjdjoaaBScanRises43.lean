/- Parse Wakes19 -/
import Derived.Test.YtnknjeipfjdjoaaBScanRises03
import Derived.Test.YtnknjeipfjdjoaaBScanRises31
import Derived.Test.YtnknjeipfjdjoaaBScanRises41
set_option maxRecDepth 20000
set_option linter.unusedSimpArgs false
set_option linter.unusedVariables false
namespace Wells
open Go Go.RowKit
theorem row8m {w : World} {g : Nat} {t : TypeId} {z0 z1 z2 z3 z4 z5 z6 z7 : Value} (h : Row w g t [z0, z1, z2, z3, z4, z5, z6, z7]) (a0 a1 a2 a3 a4 a5 a6 a7 : Value) : Row ((((((((w.setCell ⟨g, 0, none⟩ a0).setCell ⟨g, 1, none⟩ a1).setCell ⟨g, 2, none⟩ a2).setCell ⟨g, 3, none⟩ a3).setCell ⟨g, 4, none⟩ a4).setCell ⟨g, 5, none⟩ a5).setCell ⟨g, 6, none⟩ a6).setCell ⟨g, 7, none⟩ a7) g t [a0, a1, a2, a3, a4, a5, a6, a7] :=
  (((((((h.set 0 a0).set 1 a1).set 2 a2).set 3 a3).set 4 a4).set 5 a5).set 6 a6).set 7 a7
theorem grown8m {w w' : World} {r : Nat} (h : w.grownBy w' (some r)) {g : Nat} (hg : w.heap.size ≤ g) (a0 a1 a2 a3 a4 a5 a6 a7 : Value) : w.grownBy ((((((((w'.setCell ⟨g, 0, none⟩ a0).setCell ⟨g, 1, none⟩ a1).setCell ⟨g, 2, none⟩ a2).setCell ⟨g, 3, none⟩ a3).setCell ⟨g, 4, none⟩ a4).setCell ⟨g, 5, none⟩ a5).setCell ⟨g, 6, none⟩ a6).setCell ⟨g, 7, none⟩ a7) (some r) :=
  grown_set (grown_set (grown_set (grown_set (grown_set (grown_set (grown_set (grown_set h (.inr hg) 0 a0) (.inr hg) 1 a1) (.inr hg) 2 a2) (.inr hg) 3 a3) (.inr hg) 4 a4) (.inr hg) 5 a5) (.inr hg) 6 a6) (.inr hg) 7 a7
theorem grown8s (w : World) (g : Nat) (a0 a1 a2 a3 a4 a5 a6 a7 : Value) : w.grownBy ((((((((w.setCell ⟨g, 0, none⟩ a0).setCell ⟨g, 1, none⟩ a1).setCell ⟨g, 2, none⟩ a2).setCell ⟨g, 3, none⟩ a3).setCell ⟨g, 4, none⟩ a4).setCell ⟨g, 5, none⟩ a5).setCell ⟨g, 6, none⟩ a6).setCell ⟨g, 7, none⟩ a7) (some g) :=
  grown_set (grown_set (grown_set (grown_set (grown_set (grown_set (grown_set (grown_set (grown_new (Below.refl _ _) (some g)) (.inl rfl) 0 a0) (.inl rfl) 1 a1) (.inl rfl) 2 a2) (.inl rfl) 3 a3) (.inl rfl) 4 a4) (.inl rfl) 5 a5) (.inl rfl) 6 a6) (.inl rfl) 7 a7
theorem below_of_grown {w w' : World} {r : Nat} (h : w.grownBy w' (some r)) (hr : w.heap.size ≤ r) : Below w.heap.size w w' := (Below.refl _ w).grown h (Nat.le_refl _) (fun k hk => by injection hk with hk; omega)
theorem rdEnts_bad {P : Par} {n : Nat} {st : RSt} (h : st.2 = true) : rdEnts P n st = ([], st) := by
  cases n with
  | zero => rfl
  | succ n => unfold rdEnts; rw [if_pos h]
theorem rdTries_bad {n : Nat} {st : RSt} (h : st.2 = true) : rdTries n st = ([], st) := by
  cases n with
  | zero => rfl
  | succ n => unfold rdTries; rw [if_pos h]
theorem rdTries_go {n : Nat} {st : RSt} (h : st.2 = false) : rdTries (n + 1) st = ((rdNum 1 st).1 :: (rdTries n (rdNum 1 st).2).1, (rdTries n (rdNum 1 st).2).2) := by
  conv => lhs; unfold rdTries
  rw [if_neg (by rw [h]; simp)]
theorem rdEnts_go {P : Par} {n : Nat} {st : RSt} (h : st.2 = false) : rdEnts P (n + 1) st = ((rdEnt P st).1 :: (rdEnts P n (rdEnt P st).2).1, (rdEnts P n (rdEnt P st).2).2) := by
  conv => lhs; unfold rdEnts
  rw [if_neg (by rw [h]; simp)]
end Wells
namespace Go.Proofs.Ytnknjeipfjdjoaa
open Go.RowKit Wells
/-- what 'Parse' leaves -/
def ParseR (w : World) (r : Option Mani) (e : Ending) (w' : World) : Prop :=
  ∃ Ad nd cd Ao no co ts, e = .returned (.tuple #[(r.getD Mani.zero).val (.slice Ad nd cd) (.slice Ao no co), .bool r.isSome]) ∧ OM w.heap.size w' (r.getD Mani.zero) Ad nd cd Ao no co ts ∧ Below w.heap.size w w'
theorem infoI2 : (Try.prog.info? 3).map (fun i => (i.zero, i.size, i.bytes)) = some (some (.int .i64 0), 1, 8) := by kernel_rfl
theorem OM.other {base : Nat} {w w' : World} {m : Mani} {Ad Ao : Option Addr} {nd cd no co : Nat} {ts : List Value} {g : Nat} {t : TypeId} {cs : List Value} (h : OM base w m Ad nd cd Ao no co ts) (hg : w.grownBy w' (some g)) (hr : Row w g t cs) (h1 : 57 ≠ t) (h2 : 3 ≠ t) : OM base w' m Ad nd cd Ao no co ts :=
  ⟨h.d.kept hg (own_ne h.d hr h2), h.dl, h.o.other hg hr h1 h2, h.ol⟩
/-- entries of one's own, so many -/
def OEn (base : Nat) (w : World) (v : Value) (ts : List Value) (es : List Ent) (n : Nat) : Prop := OEs base w v ts es ∧ es.length = n
theorem OEn.own_ {base : Nat} {w : World} {v : Value} {ts : List Value} {es : List Ent} {n : Nat} (h : OEn base w v ts es n) : w.ownsRow base 57 4 v n (entsC es ts) := by rw [← h.2]; exact h.1.own
theorem _root_.Wells.Row.ownr {w w1 : World} {base g size n : Nat} {t e : TypeId} {cs xs : List Value} {v : Value} (h : Row w g t cs) (hv : w.ownsRow base e size v n xs) (hg : w.grownBy w1 v.ownBlock) (hne : e ≠ t) : Row w1 g t cs := by
  refine h.grown hg ?_
  rcases own_ne hv h hne with e1 | e1
  · rw [e1]; intro e2; cases e2
  · exact fun e2 => e1 e2.symm
end Go.Proofs.Ytnknjeipfjdjoaa

namespace Wells
open Go Go.RowKit
def mani0 : Mani := ⟨1, 0, ⟨1, 1, 1⟩, 0, [3], []⟩
theorem mani0_may : mani0.may = true := by decide +kernel
theorem mani0_len : (pack mani0).length = 15 := by decide +kernel
theorem mani0_64 : M64 mani0 := ⟨by unfold i64; decide, by unfold i64; decide, by unfold i64; decide, by unfold i64; decide, by unfold i64; decide, by unfold i64; decide, fun z h => by unfold i64; simp [mani0] at h; omega, fun e h => by cases h⟩
theorem mani0_nm : ∀ e ∈ mani0.objs, e.name.length ≤ 1048576 := fun e h => by cases h
theorem mani0_parse : parseL (pack mani0) = some mani0 := parseL_pack mani0_may
theorem REs.nil_ (w : World) (B : Nat) (A : Option Addr) : REs w B A 0 [] [] := ⟨Sl.nil_, rfl, rfl, fun i hi => absurd hi (by omega)⟩
theorem mani0_rm {w : World} {B g c : Nat} {A : Option Addr} (h : Sl w B 1 (some ⟨g, 0, none⟩) 1 [.int .i64 3]) (hc : 1 ≤ c ∧ c ≤ 9223372036854775807) : RM w B mani0 (some ⟨g, 0, none⟩) 1 c A 0 0 [] :=
  ⟨h, rfl, hc, REs.nil_ _ _ _, by omega⟩
end Wells
namespace Go.Proofs.Ytnknjeipfjdjoaa
open Go.RowKit Wells
end Go.Proofs.Ytnknjeipfjdjoaa

