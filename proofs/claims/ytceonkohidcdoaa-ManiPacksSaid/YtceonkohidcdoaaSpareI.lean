/- Numbers with spare room behind (XKeep's, for numbers). -/
import Derived.Test.YtceonkohidcdoaaKeepI
import Derived.Test.YtceonkohidcdoaaCopyMani
namespace Go.Proofs.Ytceonkohidcdoaa
open Go.RowKit Wells
def spareRowI (l : List Int) (x : Int) (j : Nat) : List Value := l.map iv ++ (List.replicate j (iv x) ++ List.replicate (2 - j) (.int .i64 0))
theorem spareRowI_zero (l : List Int) (x : Int) : splice (List.replicate (l.length + 2) (Value.int .i64 0)) 0 ((l.map iv).take l.length) = spareRowI l x 0 := by
  have e : (l.map iv).take l.length = l.map iv := List.take_of_length_le (by simp)
  unfold splice spareRowI
  rw [e]
  simp
theorem spareRowI_set (l : List Int) (x : Int) (j : Nat) (h : j < 2) : (spareRowI l x j).set (l.length + j) (iv x) = spareRowI l x (j + 1) := by
  unfold spareRowI
  rw [List.set_append_right _ _ (by simp)]
  congr 1
  obtain rfl | rfl : j = 0 ∨ j = 1 := by omega
  · simp [List.replicate_succ]
  · simp [List.replicate_succ]
theorem spareRowI_len (l : List Int) (x : Int) (j : Nat) (h : j ≤ 2) : (spareRowI l x j).length = l.length + 2 := by
  unfold spareRowI; simp; omega
/-- 'Spare': the bytes in a row of their own, two marks behind them -/
theorem spareI_any (B : Nat) (A : Option Addr) (l : List Int) (n c : Nat) (x : Int) (w : World) (h : Sl w B 1 A n (l.map iv)) (hB : B ≤ w.heap.size) (hn : n ≤ 1048576) :
    Calls Try.prog 14 #[.slice A n c, iv x] w fun e w' => ∃ g, e = .returned (.slice (some ⟨g, 0, none⟩) n (n + 2)) ∧ w.heap.size ≤ g ∧ Row w' g 3 (l.map iv ++ [iv x, iv x]) ∧ Below w.heap.size w w' := by
  have HL := hid (show l.length = n by have := h.len; simpa using this)
  obtain ⟨i0, hi, hz0, hz1, hz2⟩ := info_parts infoI2
  have hsz : (Try.prog.info? 3).map (·.size) = some 1 := by rw [hi]; simp [hz1]
  have hX : iv x = .int .i64 x := rfl
  rw [hX]
  go_enter Try.func14, Try.ntmps14
  go_wp2_with (first
    | (at_make; refine wpl_make _ rfl (.tmp 9) (.tmp 12) 24 rfl 3 i0 (.int .i64 0) 8 Try.underlying24 hi hz0 hz1 hz2 rfl .i64 .i64 _ _ n (n + 2) rfl rfl rfl (by omega) (by omega) (by omega) (by omega) ?_; intro w1 r1 b1 s1)
    | ((with_reducible show wpList _ _ _ (⟨some 16, _, _, _, _, _⟩ :: _) _ _); go_must (refine wpl_copy rfl (.tmp 14) (.tmp 15) 24 24 rfl 3 Try.underlying24 hsz _ A n (n + 2) n c rfl rfl w.heap.size 0 _ 3 r1 B _ (h.below (b1.mono hB)) (fun _ => rfl) (by simp) (ivs_one l) ?_); intro w2 r2 b2))
  have R0 : Row w2 w.heap.size 3 (spareRowI l x 0) := by
    rw [← spareRowI_zero l x, HL.out]; exact r2
  have B0 : Below w.heap.size w w2 := below_only b1 b2 (Nat.le_refl _) (by omega)
  generalize hg : w.heap.size = g at *
  have HG := hid hg
  clear hg r2 r1 b1 b2
  go_loopw [7] (fun i wr => ∃ j : Nat, j ≤ 2 ∧ i = .int .i64 ((n + j : Nat) : Int) ∧ Row wr g 3 (spareRowI l x j) ∧ Below g w wr) (fun i _ => n + 2 - (intOf i).toNat)
  case atStart => exact ⟨0, by omega, by go_num, R0, B0⟩
  case round =>
    obtain ⟨j, hj, rfl, hr, hbw⟩ := hrel
    have hfz := hr.frozen (n + j)
    have hcl := hr.cell (n + j)
    by_cases hlt : j < 2
    · have hset := hr.set (n + j) (iv x)
      rw [show n = l.length from HL.out.symm, spareRowI_set l x j hlt, ← show n = l.length from HL.out.symm] at hset
      obtain ⟨u, hu⟩ : ∃ u, (spareRowI l x j)[n + j]? = some u := ⟨_, List.getElem?_eq_getElem (by rw [spareRowI_len l x j hj, HL.out]; omega)⟩
      rw [hu] at hcl
      go_wp2
      go_roundw
      case rel => exact ⟨j + 1, by omega, by go_num, hset, hbw.setCell (Nat.le_refl _) _⟩
      case measure => simp [intOf]; omega
    · obtain rfl : j = 2 := by omega
      go_wp2
      go_ret
      have h2 : spareRowI l x 2 = l.map iv ++ [iv x, iv x] := by simp [spareRowI, List.replicate_succ]
      rw [h2] at hr
      exact ⟨g, rfl, Nat.le_of_eq HG.out, hr, by rw [HG.out]; exact hbw⟩

/-- 'Kept', of a row that 'Spare' made and nobody wrote -/
theorem keptI_any (B : Nat) (A : Option Addr) (g : Nat) (l : List Int) (n c : Nat) (x : Int) (w : World) (h : Sl w B 1 A n (l.map iv)) (hg : Row w g 3 (l.map iv ++ [iv x, iv x])) (hn : n ≤ 1048576) :
    Calls Try.prog 21 #[.slice (some ⟨g, 0, none⟩) n (n + 2), .slice A n c, iv x] w fun e w' => e = .returned (.bool true) ∧ ∃ d, w' = w.drewN d := by
  have HL := hid (show l.length = n by have := h.len; simpa using this)
  have hs : Sl w (g + 1) 1 (some ⟨g, 0, none⟩) n (l.map iv) := by
    have := hg.sl (B := g + 1) (m := n) (by omega) (by simp [HL.out])
    rwa [List.take_append_of_le_length (by simp [HL.out]), List.take_of_length_le (by simp [HL.out])] at this
  have hxx : (x != x) = false := by simp
  have hc0 := hg.cell (n + 0)
  have hc1 := hg.cell (n + 1)
  rw [List.getElem?_append_right (by simp [HL.out])] at hc0 hc1
  simp only [List.length_map, HL.out, Nat.add_sub_cancel_left, Nat.sub_self, List.getElem?_cons_zero, List.getElem?_cons_succ, Nat.add_zero] at hc0 hc1
  have hX : iv x = .int .i64 x := rfl
  rw [hX] at hc0 hc1 ⊢
  clear hX hg
  go_enter Try.func21, Try.ntmps21
  go_wp2_with fail
  refine (sameI_is true (B + g + 1) _ _ l l n n _ _ _ (hs.mono (by omega)) (h.mono (by omega)) (by omega) (by omega) (decide_eq_true rfl)).mono ?_
  rintro e w1 ⟨rfl, d, rfl⟩
  go_wp2
  go_loopw [8] (fun i wr => ∃ j d : Nat, j ≤ 2 ∧ i = .int .i64 ((n + j : Nat) : Int) ∧ wr = w.drewN d) (fun i _ => n + 2 - (intOf i).toNat)
  case atStart => exact ⟨0, d, by omega, by go_num, rfl⟩
  case round =>
    obtain ⟨j, d, hj, rfl, rfl⟩ := hrel
    by_cases hlt : j < 2
    · have hcj : w.cell? ⟨g, n + j, none⟩ = some (.int .i64 x) := by
        obtain rfl | rfl : j = 0 ∨ j = 1 := by omega
        · exact hc0
        · exact hc1
      clear hc0 hc1
      go_wp2
      go_roundw
      case rel => exact ⟨j + 1, d, by omega, by go_num, rfl⟩
      case measure => simp [intOf]; omega
    · go_wp2
      go_ret
      exact ⟨rfl, _, rfl⟩
end Go.Proofs.Ytceonkohidcdoaa
