/- Numbers with spare room behind (XKeep's, for numbers). -/
import Derived.Test.YtmefbbpcfphciaaDoorKeepI
import Derived.Test.YtmefbbpcfphciaaDoorIv
namespace Go.Proofs.YtmefbbpcfphciaaDoor
open Go.RowKit Wells
def spareRowI (l : List Int) (x : Int) (j : Nat) : List Value := l.map iv ++ (List.replicate j (iv x) ++ List.replicate (2 - j) (.int .i64 0))
theorem spareRowI_zero (l : List Int) (x : Int) : splice (List.replicate (l.length + 2) (Value.int .i64 0)) 0 ((l.map iv).take l.length) = spareRowI l x 0 := by
  have e : (l.map iv).take l.length = l.map iv := List.take_of_length_le (by simp)
  unfold splice spareRowI
  rw [e]
  simp
theorem spareRowI_set (l : List Int) (x : Int) (j : Nat) (h : j < 2) : (spareRowI l x j).set (l.length + j) (iv x) = spareRowI l x (j + 1) := by
  unfold spareRowI
  rw [List.set_append_right _ _ (by simp)]
  congr 1
  obtain rfl | rfl : j = 0 ∨ j = 1 := by omega
  · simp [List.replicate_succ]
  · simp [List.replicate_succ]
theorem spareRowI_len (l : List Int) (x : Int) (j : Nat) (h : j ≤ 2) : (spareRowI l x j).length = l.length + 2 := by
  unfold spareRowI; simp; omega
/-- 'Spare': the bytes in a row of their own, two marks behind them -/
theorem spareI_any (B : Nat) (A : Option Addr) (l : List Int) (n c : Nat) (x : Int) (w : World) (h : Sl w B 1 A n (l.map iv)) (hB : B ≤ w.heap.size) (hn : n ≤ 1048576) :
    Calls Tryd.prog 11 #[.slice A n c, iv x] w fun e w' => ∃ g, e = .returned (.slice (some ⟨g, 0, none⟩) n (n + 2)) ∧ w.heap.size ≤ g ∧ Row w' g 3 (l.map iv ++ [iv x, iv x]) ∧ Below w.heap.size w w' := by
  have HL := hid (show l.length = n by have := h.len; simpa using this)
  obtain ⟨i0, hi, hz0, hz1, hz2⟩ := info_parts infoInt
  have hsz : (Tryd.prog.info? 3).map (·.size) = some 1 := by rw [hi]; simp [hz1]
  have hX : iv x = .int .i64 x := rfl
  rw [hX]
  go_enter Tryd.func11, Tryd.ntmps11
  go_wp2_with (first
    | (at_make; refine wpl_make _ rfl (.tmp 9) (.tmp 12) 23 rfl 3 i0 (.int .i64 0) 8 Tryd.underlying23 hi hz0 hz1 hz2 rfl .i64 .i64 _ _ n (n + 2) rfl rfl rfl (by omega) (by omega) (by omega) (by omega) ?_; intro w1 r1 b1 s1)
    | ((with_reducible show wpList _ _ _ (⟨some 16, _, _, _, _, _⟩ :: _) _ _); go_must (refine wpl_copy rfl (.tmp 14) (.tmp 15) 23 23 rfl 3 Tryd.underlying23 hsz _ A n (n + 2) n c rfl rfl w.heap.size 0 _ 3 r1 B _ (h.below (b1.mono hB)) (fun _ => rfl) (by simp) (ints_cell l) ?_); intro w2 r2 b2))
  have R0 : Row w2 w.heap.size 3 (spareRowI l x 0) := by
    rw [← spareRowI_zero l x, HL.out]; exact r2
  have B0 : Below w.heap.size w w2 := below_only b1 b2 (Nat.le_refl _) (by omega)
  generalize hg : w.heap.size = g at *
  have HG := hid hg
  clear hg r2 r1 b1 b2
  go_loopw [7] (fun i wr => ∃ j : Nat, j ≤ 2 ∧ i = .int .i64 ((n + j : Nat) : Int) ∧ Row wr g 3 (spareRowI l x j) ∧ Below g w wr) (fun i _ => n + 2 - (intOf i).toNat)
  case atStart => exact ⟨0, by omega, by go_num, R0, B0⟩
  case round =>
    obtain ⟨j, hj, rfl, hr, hbw⟩ := hrel
    have hfz := hr.frozen (n + j)
    have hcl := hr.cell (n + j)
    by_cases hlt : j < 2
    · have hset := hr.set (n + j) (iv x)
      rw [show n = l.length from HL.out.symm, spareRowI_set l x j hlt, ← show n = l.length from HL.out.symm] at hset
      obtain ⟨u, hu⟩ : ∃ u, (spareRowI l x j)[n + j]? = some u := ⟨_, List.getElem?_eq_getElem (by rw [spareRowI_len l x j hj, HL.out]; omega)⟩
      rw [hu] at hcl
      go_wp2
      go_roundw
      case rel => exact ⟨j + 1, by omega, by go_num, hset, hbw.setCell (Nat.le_refl _) _⟩
      case measure => simp [intOf]; omega
    · obtain rfl : j = 2 := by omega
      go_wp2
      go_ret
      have h2 : spareRowI l x 2 = l.map iv ++ [iv x, iv x] := by simp [spareRowI, List.replicate_succ]
      rw [h2] at hr
      exact ⟨g, rfl, Nat.le_of_eq HG.out, hr, by rw [HG.out]; exact hbw⟩

end Go.Proofs.YtmefbbpcfphciaaDoor
