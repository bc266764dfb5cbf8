/- Which blocks a change of the world may touch; lists of bytes that own theirs. -/
import Derived.Test.YtcklnkilldeamaaLists
namespace Wells
open Go Go.RowKit
/-- between w and w' only the blocks of F have changed, and new ones came -/
structure Only (F : Nat → Prop) (w w' : World) : Prop where
  os : w'.os = w.os
  tape : w'.tape = w.tape
  output : w'.output = w.output
  size : w.heap.size ≤ w'.heap.size
  block : ∀ k, k < w.heap.size → ¬ F k → w'.heap[k]? = w.heap[k]?
section
variable {F G : Nat → Prop} {w w' w'' : World}
theorem Only.refl (F : Nat → Prop) (w : World) : Only F w w := ⟨rfl, rfl, rfl, Nat.le_refl _, fun _ _ _ => rfl⟩
theorem Only.trans (h : Only F w w') (h' : Only G w' w'') (hs : ∀ k, k < w.heap.size → G k → F k) : Only F w w'' :=
  ⟨h'.os.trans h.os, h'.tape.trans h.tape, h'.output.trans h.output, Nat.le_trans h.size h'.size, fun k hk hn =>
    (h'.block k (Nat.lt_of_lt_of_le hk h.size) (fun hg => hn (hs k hk hg))).trans (h.block k hk hn)⟩
theorem Only.mono (h : Only F w w') (hs : ∀ k, F k → G k) : Only G w w' := ⟨h.os, h.tape, h.output, h.size, fun k hk hn => h.block k hk (fun hf => hn (hs k hf))⟩
theorem Only.of_new (h : Below w.heap.size w w') : Only F w w' := ⟨h.os, h.tape, h.output, h.size, fun k hk _ => h.block k hk⟩
theorem Only.of_below {B : Nat} (h : Below B w w') (hF : ∀ k, k < w.heap.size → B ≤ k → F k) : Only F w w' :=
  ⟨h.os, h.tape, h.output, h.size, fun k hk hn => h.block k (by rcases Nat.lt_or_ge k B with h1 | h1; exact h1; exact absurd (hF k hk h1) hn)⟩
theorem Only.of_grown {row : Option Nat} (h : w.grownBy w' row) (hr : ∀ k, row = some k → F k) : Only F w w' :=
  ⟨h.os, h.tape, h.output, h.size, fun k hk hn => h.block k hk (fun e => hn (hr k e.symm))⟩
theorem Only.below {B : Nat} (h : Only F w w') (hF : ∀ k, F k → B ≤ k) (hB : B ≤ w.heap.size) : Below B w w' :=
  ⟨h.os, h.tape, h.output, h.size, fun k hk => h.block k (by omega) (fun hf => by have := hF k hf; omega)⟩
theorem Only.set {g : Nat} (h : Only F w w') (hg : F g) (i : Nat) (v : Value) : Only F w (w'.setCell ⟨g, i, none⟩ v) :=
  ⟨h.os, h.tape, h.output, by simpa [World.setCell] using h.size, fun k hk hn => (Below.heap_setCell w' ⟨g, i, none⟩ v k (fun e => hn (by rw [e]; exact hg))).trans (h.block k hk hn)⟩
theorem Only.drewN (h : Only F w w') (n : Nat) : Only F w (w'.drewN n) := ⟨h.os, h.tape, h.output, h.size, h.block⟩
theorem Only.drew (h : Only F w w') : Only F w w'.drew := ⟨h.os, h.tape, h.output, h.size, h.block⟩
/-- the blocks of F, and what came between w and w' -/
def Ext (F : Nat → Prop) (w w' : World) : Nat → Prop := fun k => F k ∨ (w.heap.size ≤ k ∧ k < w'.heap.size)
theorem Only.next (h : Only F w w') (h' : Only (Ext F w w') w' w'') : Only F w w'' :=
  h.trans h' fun k hk hg => by
    rcases hg with hg | hg
    · exact hg
    · omega
/-- what a slice's row is, lies in F -/
def In (v : Value) (F : Nat → Prop) : Prop := ∀ k, v.ownBlock = some k → F k
theorem In.mono {v : Value} (h : In v F) (hs : ∀ k, F k → G k) : In v G := fun k hk => hs k (h k hk)
theorem in_nil (F : Nat → Prop) : In (.slice none 0 0) F := fun k h => by cases h
end
theorem own_only {G : Nat → Prop} {w w' : World} {base n size : Nat} {e : TypeId} {v : Value} {xs : List Value} (h : w.ownsRow base e size v n xs) (ho : Only G w w') (hd : ∀ k, v.ownBlock = some k → ¬ G k) : w'.ownsRow base e size v n xs := by
  refine ⟨h.1, ?_⟩
  rcases h.2 with h2 | ⟨g, cap, cur, hv, hg, hh, r⟩
  · exact .inl h2
  · have hlt : g < w.heap.size := by
      rcases Nat.lt_or_ge g w.heap.size with hlt | hge
      · exact hlt
      · rw [Array.getElem?_eq_none hge] at hh; cases hh
    exact .inr ⟨g, cap, cur, hv, hg, (ho.block g hlt (hd g (by rw [hv]; rfl))).trans hh, r⟩
theorem Row.only {G : Nat → Prop} {w w' : World} {g : Nat} {t : TypeId} {cs : List Value} (h : Row w g t cs) (ho : Only G w w') (hd : ¬ G g) : Row w' g t cs := (ho.block g h.lt hd).trans h
end Wells
namespace Go.Proofs.Ytcklnkilldeamaa
open Go.RowKit Wells
theorem OBs.only {G : Nat → Prop} {w w' : World} {base : Nat} {v : Value} {vs : List Value} {ls : List (List Byte)} (h : OBs base w v vs ls) (ho : Only G w w') (hd : ∀ k, v.ownBlock = some k → ¬ G k) (hds : ∀ x ∈ vs, ∀ k, x.ownBlock = some k → ¬ G k) : OBs base w' v vs ls :=
  ⟨own_only h.own ho hd, fun i hi => own_only (h.at_ i hi) ho (by
    have hl : vs.length = ls.length := by have := h.own.1; omega
    rw [List.getD_eq_getElem?_getD, List.getElem?_eq_getElem (by omega)]
    exact hds _ (List.getElem_mem _))⟩
/-- lists of bytes whose rows all lie in F -/
structure Lst (F : Nat → Prop) (w : World) (v : Value) (vs : List Value) (ls : List (List Byte)) : Prop where
  own : OBs 0 w v vs ls
  iv : In v F
  is : ∀ x ∈ vs, In x F
theorem Lst.nil_ (F : Nat → Prop) (w : World) : Lst F w (.slice none 0 0) [] [] := ⟨OBs.nil_ _ _, in_nil F, fun x hx => by cases hx⟩
theorem Lst.mono {F G : Nat → Prop} {w : World} {v : Value} {vs : List Value} {ls : List (List Byte)} (h : Lst F w v vs ls) (hs : ∀ k, F k → G k) : Lst G w v vs ls :=
  ⟨h.own, h.iv.mono hs, fun x hx => (h.is x hx).mono hs⟩
theorem Lst.only {F G : Nat → Prop} {w w' : World} {v : Value} {vs : List Value} {ls : List (List Byte)} (h : Lst F w v vs ls) (ho : Only G w w') (hd : ∀ k, F k → ¬ G k) : Lst F w' v vs ls :=
  ⟨h.own.only ho (fun k hk => hd k (h.iv k hk)) (fun x hx k hk => hd k (h.is x hx k hk)), h.iv, h.is⟩
theorem Lst.len {F : Nat → Prop} {w : World} {v : Value} {vs : List Value} {ls : List (List Byte)} (h : Lst F w v vs ls) : vs.length = ls.length := by have := h.own.own.1; omega
/-- a list of one's own, made between w0 and w -/
theorem Lst.of_own {w0 w : World} {v : Value} {vs : List Value} {ls : List (List Byte)} (h : OBs w0.heap.size w v vs ls) {F : Nat → Prop} (hF : ∀ k, w0.heap.size ≤ k → k < w.heap.size → F k) : Lst F w v vs ls :=
  ⟨h.base (Nat.zero_le _), fun k hk => by have := own_lt h.own k hk; exact hF k this.1 this.2, fun x hx k hk => by
    have hl : vs.length = ls.length := by have := h.own.1; omega
    obtain ⟨i, hi, rfl⟩ := List.getElem_of_mem hx
    have := h.at_ i (by omega)
    rw [List.getD_eq_getElem?_getD, List.getElem?_eq_getElem hi] at this
    have := own_lt this k hk
    exact hF k this.1 this.2⟩
/-- no two rows share a block -/
def Dist (vs : List Value) : Prop := vs.Pairwise fun a b => ∀ k, a.ownBlock = some k → b.ownBlock ≠ some k
end Go.Proofs.Ytcklnkilldeamaa
