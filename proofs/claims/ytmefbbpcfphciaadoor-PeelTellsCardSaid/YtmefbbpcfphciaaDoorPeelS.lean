/- The peeler in memory; what a row says of those that are not known. -/
import Derived.Test.YtmefbbpcfphciaaDoorEqs
import Derived.Test.YtmefbbpcfphciaaDoorEqual
import Derived.Test.YtmefbbpcfphciaaDoorOwnPut
import Derived.Deep.DeepCutAuto
namespace Wells
open Go Go.RowKit
/-- the first j bytes with others added -/
def xorTo (s v : List Byte) (j : Nat) : List Byte := xorL (s.take j) (v.take j) ++ s.drop j
theorem xorTo_zero (s v : List Byte) : xorTo s v 0 = s := by unfold xorTo xorL; simp
theorem xorTo_all {s v : List Byte} (h : s.length = v.length) : xorTo s v v.length = xorL s v := by
  unfold xorTo
  rw [List.take_of_length_le (by omega), List.take_of_length_le (Nat.le_refl _), List.drop_of_length_le (by omega), List.append_nil]
theorem xorTo_len {s v : List Byte} (h : s.length = v.length) (j : Nat) : (xorTo s v j).length = s.length := by
  unfold xorTo; rw [List.length_append, xorL_len]; simp; omega
theorem xorTo_get {s v : List Byte} (h : s.length = v.length) {j : Nat} (hj : j < s.length) : (xorTo s v j).getD j 0 = s.getD j 0 := by
  unfold xorTo
  rw [List.getD_eq_getElem?_getD, List.getD_eq_getElem?_getD, List.getElem?_append_right (by rw [xorL_len]; simp; omega), xorL_len]
  simp only [List.length_take, show min j s.length = j by omega, show min j v.length = j by omega, Nat.min_self, Nat.sub_self, List.getElem?_drop, Nat.add_zero]
theorem xorTo_set {s v : List Byte} (h : s.length = v.length) {j : Nat} (hj : j < s.length) : (xorTo s v j).set j (s.getD j 0 ^^^ v.getD j 0) = xorTo s v (j + 1) := by
  have hv : j < v.length := by omega
  have hlen : (xorL (s.take j) (v.take j)).length = j := by rw [xorL_len]; simp; omega
  unfold xorTo
  rw [List.set_append_right _ _ (by omega), hlen, Nat.sub_self, List.drop_eq_getElem_cons hj, List.set_cons_zero]
  rw [List.take_succ_eq_append_getElem hj, List.take_succ_eq_append_getElem hv]
  have : xorL (s.take j ++ [s[j]]) (v.take j ++ [v[j]]) = xorL (s.take j) (v.take j) ++ [s[j] ^^^ v[j]] := by
    unfold xorL
    rw [List.zipWith_append (by simp; omega)]
    rfl
  rw [this, List.append_assoc, List.singleton_append, List.getD_eq_getElem?_getD, List.getD_eq_getElem?_getD, List.getElem?_eq_getElem hj, List.getElem?_eq_getElem hv]
  rfl
theorem xorTo_set' {s v : List Byte} (h : s.length = v.length) {j : Nat} (hj : j < s.length) : (xorTo s v j).set j (s.getD j 0 ^^^ v.getD j 0) = xorTo s v (j + 1) := xorTo_set h hj
end Wells
namespace Go.Proofs.YtmefbbpcfphciaaDoor
open Go.RowKit Wells
/-- which columns are known, and their values -/
structure KV (base N : Nat) (w : World) (gk gv : Nat) (vs : List Value) (S : PSt) : Prop where
  k : Row w gk 4 (S.known.map Value.bool)
  v : Row w gv 24 vs
  kl : S.known.length = N
  vl : vs.length = N
  sl : S.vals.length = N
  at_ : ∀ i, i < N → OB base w (vs.getD i undef) (S.vals.getD i [])
  gek : base ≤ gk
  gev : base ≤ gv
section
variable {base N : Nat} {w w' : World} {gk gv : Nat} {vs : List Value} {S : PSt}
theorem KV.below (h : KV base N w gk gv vs S) (hb : Below w.heap.size w w') : KV base N w' gk gv vs S :=
  ⟨h.k.below hb h.k.lt, h.v.below hb h.v.lt, h.kl, h.vl, h.sl, fun i hi => (h.at_ i hi).below hb, h.gek, h.gev⟩
/-- column c: is it known? -/
theorem KV.cellk (h : KV base N w gk gv vs S) {c : Int} (h0 : 0 ≤ c) (h1 : c < (N : Int)) : w.cell? ⟨gk, c.toNat, none⟩ = some (.bool (S.kn c)) := by
  rw [h.k.cell, List.getElem?_map]
  unfold PSt.kn
  rw [List.getD_eq_getElem?_getD, List.getElem?_eq_getElem (by rw [h.kl]; omega)]
  rfl
/-- column c: its value -/
theorem KV.cellv (h : KV base N w gk gv vs S) {c : Int} (h0 : 0 ≤ c) (h1 : c < (N : Int)) : ∃ A m, w.cell? ⟨gv, c.toNat, none⟩ = some (.slice A (S.val c).length m) ∧ (S.val c).length ≤ m ∧ m ≤ 9223372036854775807 ∧ OB base w (.slice A (S.val c).length m) (S.val c) := by
  have h2 := h.at_ c.toNat (by omega)
  obtain ⟨A, m, e, h3, h4, h5⟩ := own_slice h2
  rw [e] at h2
  refine ⟨A, m, ?_, h3, h4, h2⟩
  rw [h.v.cell]
  rw [List.getD_eq_getElem?_getD, List.getElem?_eq_getElem (by rw [h.vl]; omega)] at e
  rw [List.getElem?_eq_getElem (by rw [h.vl]; omega)]
  exact congrArg some e
end
/-- the row that left makes: the cell of the answer, the row's own cell -/
structure LS (w0 w : World) (g4 g5 : Nat) (sc sd : Value) (oc : List Int) (od : List Byte) : Prop where
  r4 : Row w g4 27 [.slice none 0 0, .slice none 0 0]
  r5 : Row w g5 27 [sc, sd]
  oc : OI w0.heap.size w sc oc
  od : OB w0.heap.size w sd od
  be : Below w0.heap.size w0 w
  ge4 : w0.heap.size ≤ g4
  ge5 : w0.heap.size ≤ g5
  ne : g4 ≠ g5
theorem _root_.Go.World.ownsRow.farC {base size n g : Nat} {w : World} {e t : TypeId} {v : Value} {xs cs : List Value} (h : w.ownsRow base e size v n xs) (hr : Row w g t cs) (hne : e ≠ t) (i : Nat) (x : Value) : (w.setCell ⟨g, i, none⟩ x).ownsRow base e size v n xs :=
  h.kept (row := some g) ⟨rfl, rfl, rfl, by simp [World.setCell], fun k _ hn => Below.heap_setCell w ⟨g, i, none⟩ x k (fun e => hn (by rw [e]))⟩ (own_ne h hr hne)
theorem grown_setC (w : World) (g j : Nat) (u : Value) : w.grownBy (w.setCell ⟨g, j, none⟩ u) (some g) := ⟨rfl, rfl, rfl, by simp [World.setCell], fun k _ hn => Below.heap_setCell w ⟨g, j, none⟩ u k (fun e => hn (by rw [e]))⟩
section
variable {w0 w w' : World} {g4 g5 : Nat} {sc sd : Value} {oc : List Int} {od : List Byte}
theorem LS.below (h : LS w0 w g4 g5 sc sd oc od) (hb : Below w.heap.size w w') : LS w0 w' g4 g5 sc sd oc od :=
  ⟨h.r4.below hb h.r4.lt, h.r5.below hb h.r5.lt, h.oc.below hb, h.od.below hb, h.be.trans (hb.mono h.be.size), h.ge4, h.ge5, h.ne⟩
/-- one column more -/
theorem LS.app (h : LS w0 w g4 g5 sc sd oc od) {c : Int} {A : Option Addr} {m : Nat} (ho : w'.ownsRow w0.heap.size 3 1 (.slice A (oc.length + 1) m) (oc.length + 1) (oc.map iv ++ [iv c])) (hg : w.grownBy w' sc.ownBlock) :
    LS w0 (w'.setCell ⟨g5, 0, none⟩ (.slice A (oc.length + 1) m)) g4 g5 (.slice A (oc.length + 1) m) sd (oc ++ [c]) od ∧ w'.cell? ⟨g5, 0, none⟩ = some sc ∧ w'.frozen? ⟨g5, 0, none⟩ = false := by
  have n4 : some g4 ≠ sc.ownBlock := fun e => by
    rcases own_ne h.oc h.r4 (by decide) with e1 | e1
    · rw [e1] at e; cases e
    · exact e1 e.symm
  have n5 : some g5 ≠ sc.ownBlock := fun e => by
    rcases own_ne h.oc h.r5 (by decide) with e1 | e1
    · rw [e1] at e; cases e
    · exact e1 e.symm
  have h4 := h.r4.grown hg n4
  have h5 := h.r5.grown hg n5
  have hd : OB w0.heap.size w' sd od := h.od.keep hg (own_other h.od h.oc (by decide))
  have hb := h.be.grown hg h.be.size (fun k hk => (h.oc.lt k hk).1)
  refine ⟨⟨h4.far (p := ⟨g5, 0, none⟩) h.ne _, h5.set 0 _, ?_, hd.farC h5 (by decide) 0 _, hb.setCell (p := (⟨g5, 0, none⟩ : Addr)) h.ge5 _, h.ge4, h.ge5, h.ne⟩, ?_, h5.frozen 0⟩
  · unfold OI
    rw [List.length_append, List.map_append]
    exact World.ownsRow.farC ho h5 (by decide) 0 _
  · have := h5.cell 0
    simpa using this
/-- one byte of the data -/
theorem LS.put {g n m : Nat} (h : LS w0 w g4 g5 sc (.slice (some ⟨g, 0, none⟩) n m) oc od) {j : Nat} {b : Byte} (hn : n = od.length) (hs : (w.setCell ⟨g, j, none⟩ (bv8 b)).ownsRow w0.heap.size 5 1 (.slice (some ⟨g, 0, none⟩) n m) n ((od.set j b).map bv8)) (hg : w0.heap.size ≤ g) :
    LS w0 (w.setCell ⟨g, j, none⟩ (bv8 b)) g4 g5 sc (.slice (some ⟨g, 0, none⟩) n m) oc (od.set j b) := by
  have ho : ∀ {t : TypeId} {q : Nat} {cs : List Value}, 5 ≠ t → Row w q t cs → q ≠ g := fun ht hr => by
    rcases own_ne h.od hr ht with e | e
    · cases e
    · exact fun e2 => e (by rw [e2]; rfl)
  refine ⟨h.r4.far (p := ⟨g, j, none⟩) (ho (by decide) h.r4) _, h.r5.far (p := ⟨g, j, none⟩) (ho (by decide) h.r5) _, h.oc.kept (grown_setC w g j _) ?_, ?_, h.be.setCell (p := (⟨g, j, none⟩ : Addr)) hg _, h.ge4, h.ge5, h.ne⟩
  · rcases own_other h.oc h.od (by decide) with e | e
    · exact .inl e
    · exact .inr e
  · unfold OB
    rw [List.length_set, ← hn]
    exact hs
end
end Go.Proofs.YtmefbbpcfphciaaDoor
