/- The small things of package wellspringkeep, over bytes: what each call returns, and that it writes nothing that was there. -/
import Derived.Test.YtmefbbpcfphciaaDoorProg
import Derived.Test.YtmefbbpcfphciaaDoorWithin
import Derived.Deep.LoopGhost
import Derived.Deep.QuietTactic
import Derived.BigQuiet
import Derived.Deep.DeepMust
namespace Go.Proofs.YtmefbbpcfphciaaDoor
open Go.RowKit Wells

theorem u8_get (l : List Byte) (k : Nat) (h : k < l.length) : (l.map bv8)[k]? = some (bv8 (l.getD k 0)) := by
  rw [List.getElem?_map, List.getElem?_eq_getElem h]; simp [h]
theorem take_eq_step (l l' : List Byte) (k : Nat) (h : k < l.length) (h' : k < l'.length) (ht : l.take k = l'.take k) (hx : l.getD k 0 = l'.getD k 0) :  l.take (k + 1) = l'.take (k + 1) := by
  rw [List.take_succ_eq_append_getElem h, List.take_succ_eq_append_getElem h', ht]
  simp [h, h'] at hx
  rw [hx]
theorem byte_ne {x y : Byte} (h : ((x.toNat : Int) != (y.toNat : Int)) = true) : x ≠ y := by rintro rfl; simp at h
theorem byte_eq {x y : Byte} (h : ((x.toNat : Int) != (y.toNat : Int)) = false) : x = y := by
  simp at h
  exact BitVec.eq_of_toNat_eq (by omega)
/-- 'Same' of two byte lists -/
theorem same_any (B : Nat) (A A' : Option Addr) (l l' : List Byte) (n n' c c' : Nat) (w : World) (h : Sl w B 1 A n (l.map bv8)) (h' : Sl w B 1 A' n' (l'.map bv8)) (hnl : n ≤ 9223372036854775807) (hn'l : n' ≤ 9223372036854775807) :
    Calls Tryd.prog 17 #[.slice A n c, .slice A' n' c'] w fun e w' => e = .returned (.bool (decide (l = l'))) ∧ ∃ d, w' = w.drewN d := by
  have HL := hid (show l.length = n by have := h.len; simpa using this)
  have HL' := hid (show l'.length = n' by have := h'.len; simpa using this)
  by_cases hlen : n = n'
  · subst hlen
    have hb : ((n : Int) != (n : Int)) = false := by simp
    go_enter Tryd.func17, Tryd.ntmps17
    go_wp2
    go_loopw [13] (fun i wr => ∃ k d : Nat, k ≤ n ∧ i = .int .i64 k ∧ Hid (l.take k = l'.take k) ∧ wr = w.drewN d) (fun i _ => n - (intOf i).toNat)
    case atStart => exact ⟨0, 0, Nat.zero_le _, rfl, rfl, rfl⟩
    case round =>
      obtain ⟨k, d, hk, rfl, ht, rfl⟩ := hrel
      by_cases hlt : k < n
      · have hlt' : (k : Int) < (n : Int) := by omega
        have hk0 : (0 : Int) ≤ (k : Int) := by omega
        obtain ⟨b, o, rfl, hb, hc⟩ := h.get hlt (u8_get l k (by rw [HL.out]; exact hlt))
        obtain ⟨b', o', rfl, hb', hc'⟩ := h'.get hlt (u8_get l' k (by rw [HL'.out]; exact hlt))
        have HT := hid (take_eq_step l l' k (by rw [HL.out]; exact hlt) (by rw [HL'.out]; exact hlt) ht.out)
        generalize hx : l.getD k 0 = x at *
        generalize hy : l'.getD k 0 = y at *
        have HX := hid hx
        have HY := hid hy
        clear hx hy
        unfold bv8 at hc hc'
        go_wp2
        go_quiet (fail)
        go_wp2
        · have hne : decide (l = l') = false := by
            have hxy := byte_ne (x := x) (y := y) (by assumption)
            simp; rintro rfl
            exact hxy (HX.out.symm.trans HY.out)
          go_ret
          exact ⟨ret_bool hne.symm, _, World.drewN_drewN _ _ _⟩
        · go_roundw
          case rel => exact ⟨k + 1, _, by omega, by go_num, HT.out (byte_eq (by assumption)), rfl⟩
          case measure => simp [intOf]; omega
      · have he : decide (l = l') = true := by
          have h1 := ht.out
          rw [List.take_of_length_le (by rw [HL.out]; omega), List.take_of_length_le (by rw [HL'.out]; omega)] at h1
          simpa using h1
        go_wp2
        go_ret
        exact ⟨ret_bool he.symm, _, rfl⟩
  · have hb : ((n : Int) != (n' : Int)) = true := by simp; omega
    have hne : decide (l = l') = false := by
      simp; rintro rfl; exact hlen (HL.out.symm.trans HL'.out)
    go_enter Tryd.func17, Tryd.ntmps17
    go_wp2
    go_ret
    exact ⟨ret_bool hne.symm, 0, rfl⟩

theorem same_is (r : Bool) (B : Nat) (A A' : Option Addr) (l l' : List Byte) (n n' c c' : Nat) (w : World) (h : Sl w B 1 A n (l.map bv8)) (h' : Sl w B 1 A' n' (l'.map bv8)) (hnl : n ≤ 9223372036854775807) (hn'l : n' ≤ 9223372036854775807) (hr : decide (l = l') = r) :
    Calls Tryd.prog 17 #[.slice A n c, .slice A' n' c'] w fun e w' => e = .returned (.bool r) ∧ ∃ d, w' = w.drewN d := by
  subst hr
  exact same_any B A A' l l' n n' c c' w h h' hnl hn'l
theorem infoU8 : (Tryd.prog.info? 5).map (fun i => (i.zero, i.size, i.bytes)) = some (some (.int .u8 0), 1, 1) := by kernel_rfl
theorem u8_one (b : Byte) : (bv8 b).oneCell' = true := rfl
theorem u8s_one (l : List Byte) : ∀ v ∈ l.map bv8, v.oneCell' = true := by
  intro v hv
  obtain ⟨b, _, rfl⟩ := List.mem_map.1 hv
  rfl
def spareRow (l : List Byte) (x : Byte) (j : Nat) : List Value := l.map bv8 ++ (List.replicate j (bv8 x) ++ List.replicate (2 - j) (.int .u8 0))
theorem spareRow_zero (l : List Byte) (x : Byte) : splice (List.replicate (l.length + 2) (Value.int .u8 0)) 0 ((l.map bv8).take l.length) = spareRow l x 0 := by
  have e : (l.map bv8).take l.length = l.map bv8 := List.take_of_length_le (by simp)
  unfold splice spareRow
  rw [e]
  simp
theorem spareRow_set (l : List Byte) (x : Byte) (j : Nat) (h : j < 2) : (spareRow l x j).set (l.length + j) (bv8 x) = spareRow l x (j + 1) := by
  unfold spareRow
  rw [List.set_append_right _ _ (by simp)]
  congr 1
  obtain rfl | rfl : j = 0 ∨ j = 1 := by omega
  · simp [List.replicate_succ]
  · simp [List.replicate_succ]
theorem spareRow_len (l : List Byte) (x : Byte) (j : Nat) (h : j ≤ 2) : (spareRow l x j).length = l.length + 2 := by
  unfold spareRow; simp; omega
/-- 'Spare': the bytes in a row of their own, two marks behind them -/
theorem spare_any (B : Nat) (A : Option Addr) (l : List Byte) (n c : Nat) (x : Byte) (w : World) (h : Sl w B 1 A n (l.map bv8)) (hB : B ≤ w.heap.size) (hn : n ≤ 70368744177664) :
    Calls Tryd.prog 12 #[.slice A n c, bv8 x] w fun e w' => ∃ g, e = .returned (.slice (some ⟨g, 0, none⟩) n (n + 2)) ∧ w.heap.size ≤ g ∧ Row w' g 5 (l.map bv8 ++ [bv8 x, bv8 x]) ∧ Below w.heap.size w w' := by
  have HL := hid (show l.length = n by have := h.len; simpa using this)
  obtain ⟨i0, hi, hz0, hz1, hz2⟩ := info_parts infoU8
  have hsz : (Tryd.prog.info? 5).map (·.size) = some 1 := by rw [hi]; simp [hz1]
  have hxo : (x.toNat : Int) ≤ 255 := by have := x.isLt; omega
  have hX : bv8 x = .int .u8 (x.toNat : Int) := rfl
  rw [hX]
  go_enter Tryd.func12, Tryd.ntmps12
  go_wp2_with (first
    | (at_make; refine wpl_make _ rfl (.tmp 9) (.tmp 12) 24 rfl 5 i0 (.int .u8 0) 1 Tryd.underlying24 hi hz0 hz1 hz2 rfl .i64 .i64 _ _ n (n + 2) rfl rfl rfl (by omega) (by omega) (by omega) (by omega) ?_; intro w1 r1 b1 s1)
    | ((with_reducible show wpList _ _ _ (⟨some 16, _, _, _, _, _⟩ :: _) _ _); go_must (refine wpl_copy rfl (.tmp 14) (.tmp 15) 24 24 rfl 5 Tryd.underlying24 hsz _ A n (n + 2) n c rfl rfl w.heap.size 0 _ 5 r1 B _ (h.below (b1.mono hB)) (fun _ => rfl) (by simp) (u8s_one l) ?_); intro w2 r2 b2))
  have R0 : Row w2 w.heap.size 5 (spareRow l x 0) := by
    rw [← spareRow_zero l x, HL.out]; exact r2
  have B0 : Below w.heap.size w w2 := below_only b1 b2 (Nat.le_refl _) (by omega)
  generalize hg : w.heap.size = g at *
  have HG := hid hg
  clear hg r2 r1 b1 b2
  go_loopw [7] (fun i wr => ∃ j : Nat, j ≤ 2 ∧ i = .int .i64 ((n + j : Nat) : Int) ∧ Row wr g 5 (spareRow l x j) ∧ Below g w wr) (fun i _ => n + 2 - (intOf i).toNat)
  case atStart => exact ⟨0, by omega, by go_num, R0, B0⟩
  case round =>
    obtain ⟨j, hj, rfl, hr, hbw⟩ := hrel
    have hfz := hr.frozen (n + j)
    have hcl := hr.cell (n + j)
    by_cases hlt : j < 2
    · have hset := hr.set (n + j) (bv8 x)
      rw [show n = l.length from HL.out.symm, spareRow_set l x j hlt, ← show n = l.length from HL.out.symm] at hset
      obtain ⟨u, hu⟩ : ∃ u, (spareRow l x j)[n + j]? = some u := ⟨_, List.getElem?_eq_getElem (by rw [spareRow_len l x j hj, HL.out]; omega)⟩
      rw [hu] at hcl
      go_wp2
      go_roundw
      case rel => exact ⟨j + 1, by omega, by go_num, hset, hbw.setCell (Nat.le_refl _) _⟩
      case measure => simp [intOf]; omega
    · obtain rfl : j = 2 := by omega
      go_wp2
      go_ret
      have h2 : spareRow l x 2 = l.map bv8 ++ [bv8 x, bv8 x] := by simp [spareRow, List.replicate_succ]
      rw [h2] at hr
      exact ⟨g, rfl, Nat.le_of_eq HG.out, hr, by rw [HG.out]; exact hbw⟩

end Go.Proofs.YtmefbbpcfphciaaDoor
