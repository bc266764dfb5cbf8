/- Copies of bytes, and of lists of bytes. -/
import Derived.Test.YtcklnkilldeamaaLists
namespace Go.Proofs.Ytcklnkilldeamaa
open Go.RowKit Wells
theorem copy_any (B : Nat) (A : Option Addr) (l : List Byte) (n c : Nat) (w : World) (h : Sl w B 1 A n (l.map bv8)) (hB : B ≤ w.heap.size) (hn : n ≤ 70368744177664) :
    Calls Try.prog 39 #[.slice A n c] w fun e w' => ∃ A' c', e = .returned (.slice A' n c') ∧ OB w.heap.size w' (.slice A' n c') l ∧ Below w.heap.size w w' := by
  have HL := hid (show l.length = n by have := h.len; simpa using this)
  obtain ⟨i0, hi, hz0, hz1, hz2⟩ := info_parts infoB
  go_enter Try.func39, Try.ntmps39
  go_wp2_with (first
    | (at_make; refine wpl_make _ rfl (.const (.int .i64 0)) (.tmp 6) 28 rfl 5 i0 (.int .u8 0) 1 Try.underlying28 hi hz0 hz1 hz2 rfl .i64 .i64 _ _ 0 (n + 2) rfl rfl rfl (by omega) (by omega) (by omega) (by omega) ?_; intro w1 r1 b1 s1; have o1 := r1.own (base := w.heap.size) (size := 1) (n := 0) (cap := n + 2) (Nat.le_refl _) (by omega) (by unfold maxLen; omega) (by simp))
    | (at_builtin; go_must (refine wpl_append rfl (.tmp 8) (.tmp 9) 28 rfl w.heap.size 5 i0 (.int .u8 0) 1 1 Try.underlying28 hi hz0 hz1 hz2 rfl (by omega) _ 0 [] rfl o1 B A n c _ rfl (h.below (b1.mono hB)) (u8s_cell _) n (by omega) (l.map bv8) rfl (by omega) (by omega) b1.size ?_); intro A2 c2 w2 o2 g2 _))
  go_ret
  exact ⟨A2, c2, rfl, by unfold OB; rw [HL.out]; exact o2, below_own b1 o1 g2 (Nat.le_refl _) b1.size⟩
theorem copies_any (B : Nat) (A : Option Addr) (vs : List Value) (ls : List (List Byte)) (n c : Nat) (w : World) (h : RBs w B A n vs ls) (hB : B ≤ w.heap.size) (hn : n ≤ 1048576) (hl : ∀ i, i < n → (ls.getD i []).length ≤ 1048576) :
    Calls Try.prog 42 #[.slice A n c] w fun e w' => ∃ A' c' vs', e = .returned (.slice A' n c') ∧ OBs w.heap.size w' (.slice A' n c') vs' ls ∧ Below w.heap.size w w' := by
  have HL := hid h.len
  have HLL := hid hl
  obtain ⟨i1, hi', hz0', hz1', hz2'⟩ := info_parts infoBs
  clear hl
  generalize hg : w.heap.size = G at *
  have HG := hid hg
  clear hg
  go_enter Try.func42, Try.ntmps42
  go_wp2_with fail
  go_loopw [3, 8] (fun v i wr => ∃ (k : Nat) (vs' : List Value) (Ao : Option Addr) (co : Nat), k ≤ n ∧ i = .int .i64 k ∧ v = .slice Ao k co ∧ OBs G wr (.slice Ao k co) vs' (ls.take k) ∧ Below G w wr) (fun _ i _ => n - (intOf i).toNat)
  case atStart => exact ⟨0, [], none, 0, by omega, rfl, rfl, OBs.nil_ _ _, Below.refl _ _⟩
  case round =>
    obtain ⟨k, vs', Ao, co, hk, rfl, rfl, ho, hbw⟩ := hrel
    have hsz : G ≤ wr.heap.size := by have := hbw.size; have := HG.out; omega
    by_cases hlt : k < n
    · obtain ⟨b, o, A1, c1, rfl, hb, hc, hl1, hc1, sl1⟩ := ((h.mono hB).below hbw).get hlt
      have hkl : k < ls.length := by rw [HL.out]; exact hlt
      have HTK := hid (show ls.take (k + 1) = ls.take k ++ [ls.getD k []] by rw [List.take_succ_eq_append_getElem hkl]; simp [hkl])
      have hlk := hid (show (ls.take k).length = k by simp; omega)
      have hxl := HLL.out k hlt
      generalize ls.getD k [] = x at *
      generalize hlx : x.length = lx at *
      have HX := hid hlx
      clear hlx
      go_wp2_with fail
      refine (copy_any G A1 x lx c1 _ sl1 hsz (by omega)).mono ?_
      rintro e w2 ⟨A2, c2, rfl, hx2, hb2⟩
      have ho2 := ho.below hb2
      have hw2 := ho2.own
      rw [hlk.out] at hw2
      go_wp2_with (at_builtin; go_must (refine wpl_append rfl (.tmp 12) (.tmp 15) 27 rfl G 28 i1 (.slice none 0 0) 1 24 Try.underlying27 hi' hz0' hz1' hz2' rfl (by omega) (.slice Ao k co) k vs' rfl (hw2.alloc _) _ _ 1 1 _ rfl (Sl.fresh _ _ _ _ 1 rfl) (by simp [Value.oneCell']) (k + 1) rfl _ rfl (by omega) (by omega) (by have := hb2.size; simp; omega) ?_); intro A6 c6 w6 o6 g6 _)
      have b6 : Below G w w6 := below_own ((hbw.trans (hb2.mono hsz)).alloc (by have := hb2.size; omega) _) (hw2.alloc _) g6 (Nat.le_refl _) (by have := hb2.size; simp; omega)
      have ho6 := (ho2.below ((Below.refl _ _).alloc (Nat.le_refl _) _)).push (x := x) (OB.below (base := G) (own_base hx2 hsz) ((Below.refl _ _).alloc (Nat.le_refl _) _)) (by rw [hlk.out]; exact o6) g6
      go_roundw
      case rel => exact ⟨k + 1, _, A6, c6, by omega, by go_num, rfl, by rw [HTK.out]; exact ho6, b6⟩
      case measure => simp [intOf]; omega
    · have hkn : n = k := by omega
      subst hkn
      go_wp2_with fail
      go_ret
      rw [List.take_of_length_le (by rw [HL.out]; omega)] at ho
      exact ⟨Ao, co, vs', rfl, ho, hbw⟩
end Go.Proofs.Ytcklnkilldeamaa
