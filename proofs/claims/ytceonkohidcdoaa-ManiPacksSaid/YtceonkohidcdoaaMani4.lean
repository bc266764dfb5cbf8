/- May. -/
import Derived.Test.YtceonkohidcdoaaMani3
import Derived.WalkLawsBesides
namespace Wells
open Go Go.RowKit
theorem objs_no {es : List Ent} {o : Int} {k : Nat} (hk : k < es.length) (h : (es.getD k default).obj = o) : es.all (fun y => !decide (y.obj = o)) = false := by
  rw [List.all_eq_false]
  refine ⟨es.getD k default, ?_, by rw [decide_eq_true h]; simp⟩
  rw [List.getD_eq_getElem?_getD, List.getElem?_eq_getElem hk]; exact List.getElem_mem _
theorem objs_yes {es : List Ent} {o : Int} (h : ∀ k, k < es.length → ¬ (es.getD k default).obj = o) : es.all (fun y => !decide (y.obj = o)) = true := by
  rw [List.all_eq_true]
  intro c hc
  obtain ⟨k, hk, rfl⟩ := List.getElem_of_mem hc
  have := h k hk
  rw [List.getD_eq_getElem?_getD, List.getElem?_eq_getElem hk] at this
  simpa using this
end Wells
namespace Go.Proofs.Ytceonkohidcdoaa
open Go.RowKit Wells
theorem sameobj_any (y : Ent) (A : Option Addr) (n c : Nat) (gx : Nat) (o : Int) (b : Bool) (w : World) (hx : w.cell? ⟨gx, 1, none⟩ = some (.int .i64 o)) (hb : decide (y.obj = o) = b) :
    Calls Try.prog 43 #[y.val (.slice A n c), .pointer (some ⟨gx, 0, none⟩)] w fun e w' => e = .returned (.bool b) ∧ Below w.heap.size w w' := by
  have HB := hid hb
  have hce := ECells.new w 52 y (.slice A n c)
  have hb1 := (Below.refl w.heap.size w).alloc (Nat.le_refl _) (entObj 52 y (.slice A n c))
  have hx1 := cell_keep hb1 hx
  obtain ⟨e0, e1, e2, e3⟩ := hce
  clear hb hx
  unfold Ent.val
  go_enter Try.func43, Try.ntmps43
  go_wp2_with fail
  go_ret
  exact ⟨ret_bool (by rw [← HB.out]; first | rfl | (by_cases hq : y.obj = o <;> simp [hq])), hb1⟩
theorem idxobj_any (B : Nat) (A : Option Addr) (n c : Nat) (ts : List Value) (es : List Ent) (gx : Nat) (o : Int) (b : Bool) (w : World) (h : REs w B A n ts es) (hB : B ≤ w.heap.size) (hn : n ≤ 9223372036854775807) (hx : w.cell? ⟨gx, 1, none⟩ = some (.int .i64 o)) (hb : es.all (fun y => !decide (y.obj = o)) = b) :
    Calls Try.prog 57 #[.slice A n c, .func (Fn.func 43) #[] #[.pointer (some ⟨gx, 0, none⟩)]] w fun e w' => (∃ r : Int, e = .returned (.int .i64 r) ∧ decide (0 ≤ r) = !b) ∧ Below w.heap.size w w' := by
  have HL := hid h.len
  have HB := hid hb
  have H := hid h
  have HX := hid hx
  clear hb h hx
  go_enter Try.func57, Try.ntmps57
  go_wp2_with fail
  go_loopw [8] (fun i wr => ∃ k : Nat, k ≤ n ∧ i = .int .i64 k ∧ Below w.heap.size w wr ∧ Hid (∀ j, j < k → ¬ (es.getD j default).obj = o)) (fun i _ => n - (intOf i).toNat)
  case atStart => exact ⟨0, Nat.zero_le _, rfl, Below.refl _ _, hid (fun j hj => absurd hj (by omega))⟩
  case round =>
    obtain ⟨k, hk, rfl, hbr, HK⟩ := hrel
    have hzr := hbr.size
    by_cases hlt : k < n
    · obtain ⟨bb, o', A', c', rfl, hbb, e0, e1, e2, e3, hc1, hc2, hsl⟩ := (H.out.below (hbr.mono hB)).get hlt
      have hxr : wr.cell? ⟨gx, 1, none⟩ = some (.int .i64 o) := (hbr.cell (p := ⟨gx, 1, none⟩) (World.block_lt_of_cell? w _ HX.out)).trans HX.out
      obtain ⟨x, hx⟩ : ∃ x, es.getD k default = x := ⟨_, rfl⟩
      have HXX := hid hx
      rw [hx] at e0 e1 e2 e3 hc1 hsl
      have HXR := hid hxr
      clear hx hxr hsl hc1
      by_cases hq : x.obj = o
      · have hno : b = false := by rw [← HB.out]; exact objs_no (k := k) (by rw [HL.out]; exact hlt) (by rw [HXX.out]; exact hq)
        subst hno
        have HQ := hid (decide_eq_true hq)
        clear hq
        go_wp2_with fail
        refine (sameobj_any x A' x.tries.length c' gx o true wr HXR.out HQ.out).mono ?_
        rintro e w3 ⟨rfl, hb3⟩
        have hb4 := hbr.trans (hb3.mono hzr)
        go_wp2_with fail
        go_ret
        exact ⟨⟨_, rfl, by simp⟩, hb4⟩
      · have HQ := hid (decide_eq_false hq)
        have HQ2 := hid hq
        clear hq
        go_wp2_with fail
        refine (sameobj_any x A' x.tries.length c' gx o false wr HXR.out HQ.out).mono ?_
        rintro e w3 ⟨rfl, hb3⟩
        have hb4 := hbr.trans (hb3.mono hzr)
        go_wp2_with fail
        go_roundw
        case rel => exact ⟨k + 1, by omega, by go_num, hb4, hid (fun j hj => by
          rcases Nat.lt_or_ge j k with h | h
          · exact HK.out j h
          · have e : j = k := by omega
            rw [e, HXX.out]; exact HQ2.out)⟩
        case measure => simp [intOf]; omega
    · obtain rfl : k = n := by omega
      have hyes : b = true := by rw [← HB.out]; exact objs_yes (fun j hj => HK.out j (by rw [HL.out] at hj; exact hj))
      subst hyes
      go_wp2_with fail
      go_ret
      exact ⟨⟨_, rfl, by simp⟩, hbr⟩
theorem hasobj_any (B : Nat) (A : Option Addr) (n c : Nat) (ts : List Value) (es : List Ent) (gx : Nat) (o : Int) (b : Bool) (w : World) (h : REs w B A n ts es) (hB : B ≤ w.heap.size) (hn : n ≤ 9223372036854775807) (hx : w.cell? ⟨gx, 1, none⟩ = some (.int .i64 o)) (hb : es.all (fun y => !decide (y.obj = o)) = b) :
    Calls Try.prog 42 #[.slice A n c, .func (Fn.func 43) #[] #[.pointer (some ⟨gx, 0, none⟩)]] w fun e w' => e = .returned (.bool (!b)) ∧ Below w.heap.size w w' := by
  have HX := hid hx
  clear hx
  go_enter Try.func42, Try.ntmps42
  go_wp2_with fail
  refine (idxobj_any B A n c ts es gx o b w h hB hn HX.out hb).mono ?_
  rintro e w3 ⟨⟨r, rfl, hr⟩, hb3⟩
  have HR := hid hr
  clear hr
  go_wp2_with fail
  go_ret
  exact ⟨ret_bool HR.out, hb3⟩
end Go.Proofs.Ytceonkohidcdoaa
