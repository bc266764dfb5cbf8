/- The document's sum of bytes. -/
import Derived.Test.YtmefbbpcfphciaaDoorPeelS
import Derived.Test.YtmefbbpcfphciaaDoorOrdG
import Derived.BigGuardPart
namespace Wells
open Go Go.RowKit
theorem mul_lo : ∀ (b : Fin 256) (k : Fin 8), (bits .and .u8 (((b.val : Nat) : Int) / 2 ^ k.val) 1 == 1) = false → b.val % 2 ^ k.val = b.val % 2 ^ (k.val + 1) := by decide +kernel
theorem mul_hi : ∀ (b : Fin 256) (k : Fin 8), (bits .and .u8 (((b.val : Nat) : Int) / 2 ^ k.val) 1 == 1) = true → bits .xor .u16 (((b.val % 2 ^ k.val : Nat) : Int)) (IntKind.u16.wrap (2 ^ k.val)) = ((b.val % 2 ^ (k.val + 1) : Nat) : Int) := by decide +kernel
theorem mul_no : ∀ (b : Fin 256) (k : Fin 8), (bits .and .u16 (((b.val : Nat) : Int) / 2 ^ (k.val + 8)) 1 == 1) = false := by decide +kernel
end Wells
namespace Go.Proofs.YtmefbbpcfphciaaDoor
open Go.RowKit Wells
theorem mul_one (b : Byte) (w : World) : Calls Tryd.prog 46 #[.int .u8 1, .int .u8 (b.toNat : Int)] w fun e w' => e = .returned (.int .u8 (b.toNat : Int)) ∧ w = w' := by
  have hb := b.isLt
  go_enter Tryd.func46, Tryd.ntmps46
  go_wp2_with fail
  go_loop [5, 6] (fun p i => ∃ k : Nat, k ≤ 8 ∧ i = .int .i64 (k : Int) ∧ p = .int .u16 ((b.toNat % 2 ^ k : Nat) : Int)) (fun _ i => 8 - (intOf i).toNat)
  case atStart => exact ⟨0, by omega, rfl, by simp [Nat.mod_one]⟩
  case round =>
    obtain ⟨k, hk, rfl, rfl⟩ := hrel
    by_cases hlt : k < 8
    · have hlt' : (k : Int) < 8 := by omega
      cases hbit : (bits .and .u8 ((b.toNat : Int) / 2 ^ k) 1 == 1) with
      | false =>
        have H := hid (mul_lo ⟨b.toNat, hb⟩ ⟨k, hlt⟩ hbit)
        go_wp2_with fail
        go_round
        case rel => exact ⟨k + 1, by omega, by go_num, by rw [← H.out]⟩
        case measure => simp [intOf]; omega
      | true =>
        have H := hid (mul_hi ⟨b.toNat, hb⟩ ⟨k, hlt⟩ hbit)
        go_wp2_with fail
        go_round
        case rel => exact ⟨k + 1, by omega, by go_num, by rw [← H.out]; first | rfl | (simp)⟩
        case measure => simp [intOf]; omega
    · obtain rfl : k = 8 := by omega
      have hp : b.toNat % 2 ^ 8 = b.toNat := Nat.mod_eq_of_lt hb
      rw [hp]
      have HP := hid hp
      clear hp
      go_wp2_with fail
      go_loop [5, 7] (fun p i => ∃ k : Nat, k ≤ 8 ∧ p = .int .u16 (b.toNat : Int) ∧ i = .int .i64 ((k : Int) + 7)) (fun _ i => (intOf i).toNat)
      case atStart => exact ⟨8, by omega, rfl, rfl⟩
      case round =>
        obtain ⟨k, hk, rfl, rfl⟩ := hrel
        by_cases h0 : 0 < k
        · obtain ⟨k', rfl⟩ : ∃ k', k = k' + 1 := ⟨k - 1, by omega⟩
          rw [show ((k' + 1 : Nat) : Int) + 7 = ((k' + 8 : Nat) : Int) by omega]
          have hbit := mul_no ⟨b.toNat, hb⟩ ⟨k', by omega⟩
          simp only at hbit
          have hge : (8 : Int) ≤ ((k' + 8 : Nat) : Int) := by omega
          have hle : ((k' + 8 : Nat) : Int) ≤ 15 := by omega
          generalize k' + 8 = z at *
          go_wp2_with fail
          go_round
          case rel => exact ⟨z - 8, by omega, rfl, by congr 1; omega⟩
          case measure => simp [intOf]; omega
        · obtain rfl : k = 0 := by omega
          rw [show ((0 : Nat) : Int) + 7 = 7 from rfl]
          go_wp2_with fail
          go_ret
          exact ⟨rfl, rfl⟩
/-- what Axpy has made after j rounds -/
def outTo (s v : List Byte) (j : Nat) : List Byte := (xorL s v).take j ++ List.replicate (s.length - j) 0#8
theorem outTo_zero (s v : List Byte) : outTo s v 0 = List.replicate s.length 0#8 := by unfold outTo; simp
theorem outTo_all {s v : List Byte} (h : s.length = v.length) : outTo s v s.length = xorL s v := by
  unfold outTo
  rw [List.take_of_length_le (by rw [xorL_len]; omega)]
  simp
theorem outTo_set {s v : List Byte} (h : s.length = v.length) {j : Nat} (hj : j < s.length) : (outTo s v j).set j (s.getD j 0 ^^^ v.getD j 0) = outTo s v (j + 1) := by
  have hl : (xorL s v).length = s.length := by rw [xorL_len]; omega
  have hx : (xorL s v)[j]? = some (s.getD j 0 ^^^ v.getD j 0) := by
    rw [xorL_get, List.getD_eq_getElem?_getD, List.getD_eq_getElem?_getD, List.getElem?_eq_getElem hj, List.getElem?_eq_getElem (show j < v.length by omega)]
    rfl
  unfold outTo
  rw [List.set_append_right _ _ (by simp; omega)]
  rw [List.take_add_one, hx]
  simp only [List.length_take, hl, show min j s.length = j by omega, Nat.sub_self, Option.toList_some, List.append_assoc]
  congr 1
  rw [show s.length - j = (s.length - (j + 1)) + 1 by omega, List.replicate_succ]
  rfl
set_option maxHeartbeats 2000000 in
theorem axpy_any (B : Nat) (A A2 : Option Addr) (v s : List Byte) (n c c2 : Nat) (w : World) (h : Sl w B 1 A n (v.map bv8)) (h2 : Sl w B 1 A2 n (s.map bv8)) (hB : B ≤ w.heap.size) (hn : n ≤ 1048576) :
    Calls Tryd.prog 41 #[.int .u8 1, .slice A n c, .slice A2 n c2] w fun e w' => ∃ v', e = .returned v' ∧ OB w.heap.size w' v' (xorL s v) ∧ Below w.heap.size w w' := by
  obtain ⟨i0, hi, hz0, hz1, hz2⟩ := info_parts infoB
  have HV := hid (show v.length = n by have := h.len; simpa using this)
  have HS := hid (show s.length = n by have := h2.len; simpa using this)
  have H := hid h
  have H2 := hid h2
  clear h h2
  go_enter Tryd.func41, Tryd.ntmps41
  go_wp2_with ((at_make; refine wpl_make _ rfl (.tmp 10) (.tmp 10) 24 rfl 5 i0 (.int .u8 0) 1 Tryd.underlying24 hi hz0 hz1 hz2 rfl .i64 .i64 _ _ n n rfl rfl rfl (by omega) (by omega) (by omega) (by omega) ?_; intro w1 r1 b1 s1))
  have R0 : Row w1 w.heap.size 5 ((outTo s v 0).map bv8) := by rw [outTo_zero, HS.out, List.map_replicate]; exact r1
  generalize hg : w.heap.size = g at *
  have HG := hid hg
  clear hg r1
  go_loopw [14] (fun i wr => ∃ j : Nat, j ≤ n ∧ i = .int .i64 (j : Int) ∧ Row wr g 5 ((outTo s v j).map bv8) ∧ Below g w wr) (fun i _ => n - (intOf i).toNat)
  case atStart => exact ⟨0, by omega, rfl, R0, b1⟩
  case round =>
    obtain ⟨j, hj, rfl, hr, hbw⟩ := hrel
    by_cases hlt : j < n
    · obtain ⟨ba, oa, ea, hba, ca⟩ := (H.out.below (hbw.mono hB)).get hlt (u8s_get v j (by rw [HV.out]; exact hlt))
      obtain ⟨bs, os, es, hbs, cs⟩ := (H2.out.below (hbw.mono hB)).get hlt (u8s_get s j (by rw [HS.out]; exact hlt))
      subst ea es
      have hset := hr.set j (bv8 (s.getD j 0 ^^^ v.getD j 0))
      rw [← List.map_set, outTo_set (by rw [HS.out, HV.out]) (by rw [HS.out]; exact hlt)] at hset
      have hfz := hr.frozen j
      obtain ⟨u, hu⟩ : ∃ u, ((outTo s v j).map bv8)[j]? = some u := ⟨_, List.getElem?_eq_getElem (by simp [outTo, HS.out, xorL_len, HV.out]; omega)⟩
      have hcl := hr.cell j
      rw [hu] at hcl
      obtain ⟨x, hx⟩ : ∃ x, v.getD j 0 = x := ⟨_, rfl⟩
      obtain ⟨y, hy⟩ : ∃ y, s.getD j 0 = y := ⟨_, rfl⟩
      rw [hx] at ca hset
      rw [hy] at cs hset
      unfold bv8 at ca cs
      have hlt' : (j : Int) < (n : Int) := by omega
      have hj0 : (0 : Int) ≤ (j : Int) := by omega
      have HSET := hid hset
      have HBE := hid (below_drew' (hbw.setCell (p := (⟨g, j, none⟩ : Addr)) (Nat.le_refl g) (bv8 (y ^^^ x))))
      have bits_of := x8' y x
      have HX8 := hid bits_of
      clear hset hr hu hx hy bits_of
      go_wp2_with fail
      refine Org.begin [14] (fun w' => w'.cell? ⟨bs, os + j, none⟩ = some (.int .u8 (y.toNat : Int)) ∧ w'.cell? ⟨ba, oa + j, none⟩ = some (.int .u8 (x.toNat : Int))) [0, 1, 2, 3, 4, 5, 6, 7, 8, 9, 10, 11, 12, 13, 14] (by kernel_rfl) (⟨cs, ca⟩) (fun hS => ?_)
      (refine Org.yes (v := ?_) rfl (by kernel_rfl) (by kernel_rfl) (by kernel_rfl) (by kernel_rfl) (by kernel_rfl) (fun _ _ _ h => h) (by kernel_rfl) (SM.of hS) ?_ ?_; rotate_left; (focus (intro w hSw; (try dsimp only at hSw); refine Pure.val ?_; go_simp; (try with_reducible rfl); done)); try simp only [Act.put, List.setIfInBounds_toArray, List.set_cons_zero, List.set_cons_succ])
      (refine Org.yes (v := ?_) rfl (by kernel_rfl) (by kernel_rfl) (by kernel_rfl) (by kernel_rfl) (by kernel_rfl) (fun _ _ _ h => h) (by kernel_rfl) (SM.of hS) ?_ ?_; rotate_left; (focus (intro w hSw; (try dsimp only at hSw); refine Pure.val ?_; go_simp; (try with_reducible rfl); done)); try simp only [Act.put, List.setIfInBounds_toArray, List.set_cons_zero, List.set_cons_succ])
      (refine Org.yes (v := ?_) rfl (by kernel_rfl) (by kernel_rfl) (by kernel_rfl) (by kernel_rfl) (by kernel_rfl) (fun _ _ _ h => h) (by kernel_rfl) (SM.of hS) ?_ ?_; rotate_left; (focus (intro w hSw; (try dsimp only at hSw); refine Pure.val ?_; go_simp; (try with_reducible rfl); done)); try simp only [Act.put, List.setIfInBounds_toArray, List.set_cons_zero, List.set_cons_succ])
      (refine Org.yes (v := ?_) rfl (by kernel_rfl) (by kernel_rfl) (by kernel_rfl) (by kernel_rfl) (by kernel_rfl) (fun _ _ _ h => h) (by kernel_rfl) (SM.of hS) ?_ ?_; rotate_left; (focus (intro w hSw; (try dsimp only at hSw); refine Pure.val ?_; go_simp; (try with_reducible rfl); done)); try simp only [Act.put, List.setIfInBounds_toArray, List.set_cons_zero, List.set_cons_succ])
      (refine Org.yes (v := ?_) rfl (by kernel_rfl) (by kernel_rfl) (by kernel_rfl) (by kernel_rfl) (by kernel_rfl) (fun _ _ _ h => h) (by kernel_rfl) (SM.of hS) ?_ ?_; rotate_left; (focus (intro w hSw; (try dsimp only at hSw); refine Pure.val ?_; go_simp; (try with_reducible rfl); done)); try simp only [Act.put, List.setIfInBounds_toArray, List.set_cons_zero, List.set_cons_succ])
      (refine Org.yes (v := ?_) rfl (by kernel_rfl) (by kernel_rfl) (by kernel_rfl) (by kernel_rfl) (by kernel_rfl) (fun _ _ _ h => h) (by kernel_rfl) (SM.of hS) ?_ ?_; rotate_left; (focus (intro w hSw; (try dsimp only at hSw); have q0 := hSw.1; have q1 := hSw.2; refine Pure.val ?_; go_simp; (try with_reducible rfl); done)); try simp only [Act.put, List.setIfInBounds_toArray, List.set_cons_zero, List.set_cons_succ])
      (refine Org.yes (v := ?_) rfl (by kernel_rfl) (by kernel_rfl) (by kernel_rfl) (by kernel_rfl) (by kernel_rfl) (fun _ _ _ h => h) (by kernel_rfl) (SM.of hS) ?_ ?_; rotate_left; (focus (intro w hSw; (try dsimp only at hSw); refine Pure.val ?_; go_simp; (try with_reducible rfl); done)); try simp only [Act.put, List.setIfInBounds_toArray, List.set_cons_zero, List.set_cons_succ])
      (refine Org.yes (v := ?_) rfl (by kernel_rfl) (by kernel_rfl) (by kernel_rfl) (by kernel_rfl) (by kernel_rfl) (fun _ _ _ h => h) (by kernel_rfl) (SM.of hS) ?_ ?_; rotate_left; (focus (intro w hSw; (try dsimp only at hSw); refine Pure.val ?_; go_simp; (try with_reducible rfl); done)); try simp only [Act.put, List.setIfInBounds_toArray, List.set_cons_zero, List.set_cons_succ])
      (refine Org.yes (v := ?_) rfl (by kernel_rfl) (by kernel_rfl) (by kernel_rfl) (by kernel_rfl) (by kernel_rfl) (fun _ _ _ h => h) (by kernel_rfl) (SM.of hS) ?_ ?_; rotate_left; (focus (intro w hSw; (try dsimp only at hSw); refine Pure.val ?_; go_simp; (try with_reducible rfl); done)); try simp only [Act.put, List.setIfInBounds_toArray, List.set_cons_zero, List.set_cons_succ])
      (refine Org.yes (v := ?_) rfl (by kernel_rfl) (by kernel_rfl) (by kernel_rfl) (by kernel_rfl) (by kernel_rfl) (fun _ _ _ h => h) (by kernel_rfl) (SM.of hS) ?_ ?_; rotate_left; (focus (intro w hSw; (try dsimp only at hSw); refine Pure.val ?_; go_simp; (try with_reducible rfl); done)); try simp only [Act.put, List.setIfInBounds_toArray, List.set_cons_zero, List.set_cons_succ])
      (refine Org.yes (v := ?_) rfl (by kernel_rfl) (by kernel_rfl) (by kernel_rfl) (by kernel_rfl) (by kernel_rfl) (fun _ _ _ h => h) (by kernel_rfl) (SM.of hS) ?_ ?_; rotate_left; (focus (intro w hSw; (try dsimp only at hSw); have q0 := hSw.1; have q1 := hSw.2; refine Pure.val ?_; go_simp; (try with_reducible rfl); done)); try simp only [Act.put, List.setIfInBounds_toArray, List.set_cons_zero, List.set_cons_succ])
      (refine Org.yes (v := ?_) rfl (by kernel_rfl) (by kernel_rfl) (by kernel_rfl) (by kernel_rfl) (by kernel_rfl) (fun _ _ _ h => h) (by kernel_rfl) (SM.of hS) ?_ ?_; rotate_left; (focus (intro w hSw; (try dsimp only at hSw); refine Pure.call 46 #[.int .u8 1, .int .u8 (x.toNat : Int)] (by go_simp; first | done | rfl) ?_; refine (mul_one x w).mono ?_; rintro e w' ⟨rfl, rfl⟩; refine ⟨?_, rfl⟩; with_reducible rfl)); try simp only [Act.put, List.setIfInBounds_toArray, List.set_cons_zero, List.set_cons_succ])
      (refine Org.yes (v := ?_) rfl (by kernel_rfl) (by kernel_rfl) (by kernel_rfl) (by kernel_rfl) (by kernel_rfl) (fun _ _ _ h => h) (by kernel_rfl) (SM.of hS) ?_ ?_; rotate_left; (focus (intro w hSw; (try dsimp only at hSw); refine Pure.val ?_; go_simp; (try with_reducible rfl); done)); try simp only [Act.put, List.setIfInBounds_toArray, List.set_cons_zero, List.set_cons_succ])
      (refine Org.yes (v := ?_) rfl (by kernel_rfl) (by kernel_rfl) (by kernel_rfl) (by kernel_rfl) (by kernel_rfl) (fun _ _ _ h => h) (by kernel_rfl) (SM.of hS) ?_ ?_; rotate_left; (focus (intro w hSw; (try dsimp only at hSw); refine Pure.val ?_; go_simp; (try with_reducible rfl); done)); try simp only [Act.put, List.setIfInBounds_toArray, List.set_cons_zero, List.set_cons_succ])
      refine Org.mark (p := 14) rfl (by kernel_rfl) (by kernel_rfl) (by kernel_rfl) (by kernel_rfl) (fun K hK => ?_)
      go_simp
      refine hK.out _ _ ?_
      clear hK K hS
      try simp only [Act.put, List.setIfInBounds_toArray, List.set_cons_zero, List.set_cons_succ]
      refine Org.done (by kernel_rfl) ?_
      go_wp2_with fail
      go_roundw
      case rel => exact ⟨j + 1, by omega, by go_num, by rw [HX8.out]; exact HSET.out, by rw [HX8.out]; exact HBE.out⟩
      case measure => simp [intOf]; omega
    · obtain rfl : j = n := by omega
      rw [show j = s.length from HS.out.symm, outTo_all (by rw [HS.out, HV.out])] at hr
      go_wp2_with fail
      go_ret
      refine ⟨_, rfl, ?_, by rw [HG.out]; exact hbw⟩
      have h9 := Row.own (base := g) (size := 1) (n := s.length) (cap := s.length) hr (Nat.le_refl _) (Nat.le_refl _) (by rw [HS.out]; unfold maxLen; omega) (by simp [xorL_len, HS.out, HV.out])
      unfold OB
      rw [show (xorL s v).length = s.length by rw [xorL_len, HS.out, HV.out]; omega, HG.out]
      rw [List.take_of_length_le (by simp [xorL_len, HS.out, HV.out])] at h9
      rw [HS.out] at h9
      rw [HS.out]
      exact h9
theorem sum01_any (B : Nat) (A A2 : Option Addr) (v s : List Byte) (n c c2 : Nat) (w : World) (h : Sl w B 1 A n (v.map bv8)) (h2 : Sl w B 1 A2 n (s.map bv8)) (hB : B ≤ w.heap.size) (hn : n ≤ 1048576) :
    Calls Tryd.prog 33 #[.slice A n c, .slice A2 n c2] w fun e w' => ∃ v', e = .returned v' ∧ OB w.heap.size w' v' (xorL s v) ∧ Below w.heap.size w w' := by
  have H := hid h
  have H2 := hid h2
  clear h h2
  go_enter Tryd.func33, Tryd.ntmps33
  go_wp2_with fail
  refine (axpy_any B A A2 v s n c c2 w H.out H2.out hB hn).mono ?_
  rintro e w1 ⟨v', rfl, ho, hb⟩
  go_wp2_with fail
  go_ret
  exact ⟨_, rfl, ho, hb⟩
end Go.Proofs.YtmefbbpcfphciaaDoor
