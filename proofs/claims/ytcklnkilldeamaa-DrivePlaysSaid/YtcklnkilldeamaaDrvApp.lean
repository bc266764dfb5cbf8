/- Append. -/
import Derived.Test.YtcklnkilldeamaaDrvSync
namespace Go.Proofs.Ytcklnkilldeamaa
open Go.RowKit Wells
theorem Lst.set_ {F : Nat → Prop} {w : World} {g : Nat} {t : TypeId} {v : Value} {vs : List Value} {ls : List (List Byte)} {cs : List Value} (h : OBs 0 w v vs ls) (hv : In v F) (hs : ∀ x ∈ vs, In x F) (hr : Row w g t cs) (h1 : 28 ≠ t) (h2 : 5 ≠ t) (i : Nat) (x : Value) : Lst F (w.setCell ⟨g, i, none⟩ x) v vs ls :=
  Lst.far ⟨h, hv, hs⟩ hr h1 h2 i x
theorem OBs.elem {base : Nat} {w : World} {v : Value} {vs : List Value} {ls : List (List Byte)} (h : OBs base w v vs ls) {x : Value} (hx : x ∈ vs) : ∃ l, OB base w x l := by
  have hl : vs.length = ls.length := by have := h.own.1; omega
  obtain ⟨i, hi, rfl⟩ := List.getElem_of_mem hx
  have := h.at_ i (by omega)
  rw [List.getD_eq_getElem?_getD, List.getElem?_eq_getElem hi] at this
  exact ⟨_, this⟩
theorem Drv.appended {F : Nat → Prop} {w w2 w3 : World} {g pg : Nat} {lv bv lv' xv : Value} {lvs bvs : List Value} {d : Dr} {x : List Byte} (h : Drv F w g pg lv lvs bv bvs d) (hb2 : Below w.heap.size w w2) (hx : OB w.heap.size w2 xv x) (o : Obj)
    (ho3 : w3.ownsRow 0 28 1 lv' (d.L.length + 1) (lvs ++ [xv])) (gr3 : (w2.alloc o).grownBy w3 lv.ownBlock) (hwh : ∀ k, lv'.ownBlock = some k → (lv.ownBlock = some k ∨ k = (w2.alloc o).heap.size) ∧ k < w3.heap.size) :
    Drv (Ext F w w3) (w3.setCell ⟨g, 2, none⟩ lv') g pg lv' (lvs ++ [xv]) bv bvs { d with L := d.L ++ [x] } ∧ Only F w w3 ∧ Row w3 g 60 (drRow pg d lv bv) := by
  have hsz := hb2.size
  have hb2a : Below w.heap.size w (w2.alloc o) := hb2.alloc hsz o
  have hsa : (w2.alloc o).heap.size = w2.heap.size + 1 := by simp
  have hs3 := gr3.size
  have hO : Only (fun k => lv.ownBlock = some k) w w3 := (Only.of_new hb2a).trans (Only.of_grown (F := fun k => lv.ownBlock = some k) gr3 (fun k e => e)) (fun _ _ hk => hk)
  have hOF : Only F w w3 := hO.mono (fun k hk => h.l.iv k hk)
  have row3 := h.row.only hO (fun e => own_row_ne h.l.own.own h.row (by decide) g e rfl)
  have pow3 := h.pow.only hO (fun e => own_row_ne h.l.own.own h.pow (by decide) pg e rfl)
  have L3 : OBs 0 w3 lv' (lvs ++ [xv]) (d.L ++ [x]) := (h.l.own.below hb2a).push (x := x) (OB.below (base := 0) (own_base hx (Nat.zero_le _)) ((Below.refl _ _).alloc (Nat.le_refl _) _)) ho3 gr3
  have B3 : OBs 0 w3 bv bvs d.B := h.b.own.only hO (fun k hk e => h.sep k e hk) (fun y hy k hk e => by
    obtain ⟨l', hl'⟩ := h.b.own.elem hy
    rcases own_other hl' h.l.own.own (by decide) with h1 | h1
    · rw [h1] at hk; cases hk
    · exact h1 (hk.trans e.symm))
  have hxn : ∀ k, xv.ownBlock = some k → w.heap.size ≤ k ∧ k < w3.heap.size := fun k hk => by
    have := own_lt hx k hk
    omega
  have hext : ∀ k, F k → Ext F w w3 k := fun k hk => .inl hk
  have hxe : In xv (Ext F w w3) := fun k hk => .inr (hxn k hk)
  have hve : In lv' (Ext F w w3) := fun k hk => by
    obtain ⟨h1, h2⟩ := hwh k hk
    rcases h1 with h1 | h1
    · exact .inl (h.l.iv k h1)
    · exact .inr ⟨by omega, h2⟩
  have hes : ∀ y ∈ lvs ++ [xv], In y (Ext F w w3) := fun y hy => by
    rcases List.mem_append.1 hy with hy | hy
    · exact (h.l.is y hy).mono hext
    · rw [List.mem_singleton] at hy; subst hy; exact hxe
  refine ⟨⟨row3.set 2 lv', pow3.far (Ne.symm h.ne) _, .inl h.fg, .inl h.fp, fun k hk => ?_, Lst.set_ L3 hve hes row3 (by decide) (by decide) _ _, Lst.set_ B3 (h.b.iv.mono hext) (fun y hy => (h.b.is y hy).mono hext) row3 (by decide) (by decide) _ _, fun k hk e => ?_, ?_⟩, hOF, row3⟩
  · have : k < w3.heap.size := by
      rcases hk with hk | hk
      · have := h.lt k hk; omega
      · exact hk.2
    simpa [World.setCell] using this
  · rcases (hwh k hk).1 with h1 | h1
    · exact h.sep k h1 e
    · have := h.lt k (h.b.iv k e)
      omega
  · have hd := h.dist
    unfold Dist at hd ⊢
    rw [List.pairwise_append] at hd ⊢
    obtain ⟨d1, d2, d3⟩ := hd
    refine ⟨?_, d2, fun a ha b hb k hk e => ?_⟩
    · exact dist_push d1 (m := w.heap.size) (fun a ha k hk => h.lt k (h.l.is a ha k hk)) (fun k hk => (hxn k hk).1)
    · rcases List.mem_append.1 ha with ha | ha
      · exact d3 a ha b hb k hk e
      · rw [List.mem_singleton] at ha
        subst ha
        have := (hxn k hk).1
        have := h.lt k (h.b.is b hb k e)
        omega
end Go.Proofs.Ytcklnkilldeamaa
