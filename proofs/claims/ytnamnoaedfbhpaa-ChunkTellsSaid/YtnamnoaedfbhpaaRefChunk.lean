/- The document's blocks. -/
import Derived.Test.YtnamnoaedfbhpaaSplit
namespace Wells
open Go Go.RowKit
theorem count_alt (n s : Int) (hn : 0 ≤ n) (hs : 1 ≤ s) : (n / s + if 0 < n % s then 1 else 0) = if 0 < n then (n - 1) / s + 1 else 0 := by
  have h1 := Int.mul_ediv_add_emod n s
  have h2 := Int.emod_nonneg n (show s ≠ 0 by omega)
  have h3 := Int.emod_lt_of_pos n (show 0 < s by omega)
  have key : ∀ a q r : Int, a = s * q + r → 0 ≤ r → r < s → a / s = q := by
    intro a q r ha h0 h4
    rw [ha, Int.add_comm, Int.add_mul_ediv_left _ _ (by omega), Int.ediv_eq_zero_of_lt h0 h4, Int.zero_add]
  generalize n / s = q at *
  generalize n % s = r at *
  by_cases hp : 0 < n
  · rw [if_pos hp]
    by_cases hr : 0 < r
    · rw [if_pos hr, key (n - 1) q (r - 1) (by omega) (by omega) (by omega)]
    · rw [if_neg hr, key (n - 1) (q - 1) (s - 1) (by rw [Int.mul_sub]; omega) (by omega) (by omega)]
      omega
  · rw [if_neg hp]
    have hn0 : n = 0 := by omega
    subst hn0
    have hq : q = 0 := by
      have h5 : s * q ≤ 0 := by omega
      have h6 : 0 ≤ s * q + r := by omega
      rcases Int.lt_trichotomy q 0 with hh | hh | hh
      · have : s * q ≤ s * (-1) := Int.mul_le_mul_of_nonneg_left (by omega) (by omega)
        omega
      · exact hh
      · have : s * 1 ≤ s * q := Int.mul_le_mul_of_nonneg_left (by omega) (by omega)
        omega
    subst hq
    have : r = 0 := by omega
    subst this
    simp
end Wells
namespace Go.Proofs.Ytnamnoaedfbhpaa
open Go.RowKit Wells
theorem refcount_any (p : Par) (n m : Int) (w : World) (hn : -9223372036854775808 ≤ n ∧ n ≤ 9223372036854775807) (hm : countP p n = m) : Calls Try.prog 15 #[p.val, .int .i64 n] w fun e w' => e = .returned (.int .i64 m) ∧ Below w.heap.size w w' := by
  have HM := hid hm
  clear hm
  have hv : p.val = .agg #[.int .i64 p.K, .int .i64 p.H, .int .i64 p.S] := rfl
  rw [hv]
  clear hv
  by_cases h1 : p.may = true
  · by_cases h2 : n < 0
    · have hz := hid (show countP p n = 0 from countP_no (fun h => by omega))
      go_enter Try.func15, Try.ntmps15
      go_wp2_with fail
      refine (refmay_any p true _ h1).mono ?_
      rintro e w1 ⟨rfl, hb⟩
      go_wp2
      go_ret
      exact ⟨ret_int (hz.out.symm.trans HM.out), ((Below.refl _ _).alloc (Nat.le_refl _) _).trans (hb.mono (by simp))⟩
    · have hok := Par.may_ok h1
      have hsz := Par.size_le hok
      have ha := count_alt n p.size (by omega) hsz.1
      have hq0 : 0 ≤ n / p.size := Int.ediv_nonneg (by omega) (by omega)
      have hq1 : n / p.size ≤ n := Int.ediv_le_self _ (by omega)
      have hcp : countP p n = if 0 < n then (n - 1) / p.size + 1 else 0 := by
        unfold countP
        by_cases h3 : 0 < n <;> simp [h1, h3]
      have HC := hid (hcp.symm.trans HM.out)
      have HA := hid ha
      have H1 := hid h1
      have hr := Int.emod_nonneg n (show p.size ≠ 0 by omega)
      have hq2 : 0 < n % p.size → n / p.size + 1 ≤ n := by
        intro h5
        have h6 := Int.mul_ediv_add_emod n p.size
        have h7 : 1 * (n / p.size) ≤ p.size * (n / p.size) := Int.mul_le_mul_of_nonneg_right hsz.1 hq0
        omega
      unfold Par.size at *
      obtain ⟨o1, o2, o3, o4, o5, o6⟩ := hok
      clear h1 ha hcp
      by_cases h3 : 0 < n % (p.K * p.S)
      all_goals
        first | have hq3 := hq2 h3 | skip
        clear hq2
        first | rw [if_pos h3] at HA | rw [if_neg h3] at HA
      all_goals
       go_enter Try.func15, Try.ntmps15
       go_wp2_with fail
       refine (refmay_any p true _ H1.out).mono ?_
       rintro e w1 ⟨rfl, hb⟩
       obtain ⟨c0, c1, c2⟩ := (PCells.new w p 23).keep hb (by simp)
       have b1 : Below w.heap.size w w1 := ((Below.refl _ _).alloc (Nat.le_refl _) _).trans (hb.mono (by simp))
       clear hb
       go_wp2
       go_ret
       first | exact ⟨ret_int (HA.out.trans HC.out), b1⟩ | exact ⟨ret_int ((Int.add_zero _).symm.trans (HA.out.trans HC.out)), b1⟩
  · have h1' : p.may = false := by simpa using h1
    have hz := hid (show countP p n = 0 from countP_no (fun h => h1 h.1))
    go_enter Try.func15, Try.ntmps15
    go_wp2_with fail
    refine (refmay_any p false _ h1').mono ?_
    rintro e w1 ⟨rfl, hb⟩
    go_wp2
    go_ret
    exact ⟨ret_int (hz.out.symm.trans HM.out), ((Below.refl _ _).alloc (Nat.le_refl _) _).trans (hb.mono (by simp))⟩
theorem refblocks_any (p : Par) (B : Nat) (A : Option Addr) (n c : Nat) (l : List Byte) (w : World) (h : Sl w B 1 A n (l.map bv8)) (hB : B ≤ w.heap.size) (hn : n ≤ 1048576) (hc : n ≤ c) :
    Calls Try.prog 14 #[p.val, .slice A n c] w fun e w' => ∃ v vs, e = .returned v ∧ OBs w.heap.size w' v vs (blocks p l) ∧ Below w.heap.size w w' := by
  have HL := hid (show l.length = n by have := h.len; simpa using this)
  obtain ⟨i0, hi, hz0, hz1, hz2⟩ := info_parts infoB
  obtain ⟨i1, hi', hz0', hz1', hz2'⟩ := info_parts infoBs
  have hsz : (Try.prog.info? 5).map (·.size) = some 1 := by rw [hi]; simp [hz1]
  obtain ⟨m, hm⟩ : ∃ m : Nat, countP p n = (m : Int) := ⟨(countP p n).toNat, by have := (countP_le p n).1; omega⟩
  have hmn : m ≤ n := by have := (countP_le p n).2 (by omega); omega
  have HM := hid hm
  clear hm
  have hv : p.val = .agg #[.int .i64 p.K, .int .i64 p.H, .int .i64 p.S] := rfl
  rw [hv]
  clear hv
  by_cases hmay : p.may = true
  · have hok := Par.may_ok hmay
    have hs1 := Par.size_le hok
    obtain ⟨z, hz⟩ : ∃ z : Nat, p.size = (z : Int) := ⟨p.size.toNat, by omega⟩
    have hzl : 1 ≤ z := by omega
    have hzu : z ≤ 384 := by omega
    have hks : p.K * p.S = (z : Int) := hz
    have HZ := hid hz
    have H1 := hid hmay
    have hzn := hid (show p.size.toNat = z by omega)
    obtain ⟨o1, o2, o3, o4, o5, o6⟩ := hok
    clear hs1 hmay hz
    go_enter Try.func14, Try.ntmps14
    go_wp2_with fail
    refine (refmay_any p true _ H1.out).mono ?_
    rintro e w1 ⟨rfl, hb⟩
    have pc := (PCells.new w p 23).keep hb (by simp)
    have b1 : Below w.heap.size w w1 := ((Below.refl _ _).alloc (Nat.le_refl _) _).trans (hb.mono (by simp))
    have hlt0 := pc.lt
    clear hb
    generalize hg : w.heap.size = g at *
    have HG := hid hg
    clear hg
    obtain ⟨G, hG⟩ : ∃ G, G = w1.heap.size := ⟨_, rfl⟩
    have g1 : g ≤ G := by omega
    have s1 : G ≤ w1.heap.size := by omega
    have hlt0 : g < G := by omega
    have GG := hid hG
    clear hG
    obtain ⟨c0, c1, c2⟩ := id pc
    go_wp2_with fail
    clear c0 c1 c2
    go_loopw [5, 7] (fun v i wr => ∃ (k : Nat) (vs : List Value) (Ao : Option Addr) (co : Nat), k ≤ m ∧ i = .int .i64 k ∧ v = .slice Ao k co ∧ OBs G wr (.slice Ao k co) vs ((List.range k).map (blk p.size.toNat l)) ∧ Below G w1 wr) (fun _ i _ => m - (intOf i).toNat)
    case atStart => exact ⟨0, [], none, 0, by omega, rfl, rfl, OBs.nil_ _ _, Below.refl _ _⟩
    case round =>
      obtain ⟨k, vs, Ao, co, hk, rfl, rfl, ho, hbw⟩ := hrel
      have hlen := hid (show ((List.range k).map (blk p.size.toNat l)).length = k by simp)
      obtain ⟨c0, c1, c2⟩ := pc.keep hbw hlt0
      go_wp2_with fail
      refine (refcount_any p n m _ (by omega) HM.out).mono ?_
      rintro e w2 ⟨rfl, hb2⟩
      have ho2 := ho.below hb2
      have b2 : Below G w1 w2 := hbw.trans (hb2.mono (by have := hbw.size; omega))
      clear c0 c1 c2 ho
      by_cases hlt : k < m
      · have hn0 : 0 < n := by
          rcases Nat.eq_zero_or_pos n with h0 | h0
          · have := HM.out; rw [h0] at this; rw [countP_no (by simp)] at this; omega
          · exact h0
        obtain ⟨q, hq⟩ : ∃ q : Nat, (k : Int) * (z : Int) = (q : Int) := ⟨k * z, by simp⟩
        have hqn : q < n := by
          have h1 := HM.out
          rw [countP_yes H1.out (by omega), HZ.out] at h1
          have h2 : (k : Int) ≤ ((n : Int) - 1) / (z : Int) := by omega
          have h3 : (k : Int) * (z : Int) ≤ ((n : Int) - 1) / (z : Int) * (z : Int) := Int.mul_le_mul_of_nonneg_right h2 (by omega)
          have h4 := Int.ediv_mul_le ((n : Int) - 1) (show (z : Int) ≠ 0 by omega)
          omega
        have hqk : q = k * z := by
          have : ((k * z : Nat) : Int) = (q : Int) := by rw [Int.natCast_mul]; exact hq
          omega
        have HQ := hid hqk
        clear hqk
        have hne : ¬ c = q := by omega
        have sx : ∀ W, Below G w1 W → Sl W G 1 (A.map (·.add q)) (n - q) ((l.drop q).map bv8) := by
          intro W hW
          have := ((h.below (b1.mono hB)).mono (by omega : B ≤ G)).below hW
          have := this.cut (k := q) (m := n) (c := c) (by omega) (by omega) hc
          rw [if_neg hne, Nat.mul_one, Nat.mul_one, ← List.map_drop, ← List.map_take, List.take_of_length_le (by rw [List.length_drop, HL.out]; omega)] at this
          exact this
        have SX := hid sx
        clear sx
        generalize hr : w2.heap.size = r at *
        have hr1 : w2.heap.size ≤ r := by omega
        have HR := hid hr
        clear hr
        go_wp2_with (first
          | (at_make; refine wpl_make _ rfl (.tmp 25) (.tmp 25) 30 rfl 5 i0 (.int .u8 0) 1 Try.underlying30 hi hz0 hz1 hz2 rfl .i64 .i64 _ _ z z rfl rfl rfl rfl (by omega) (by omega) (by omega) ?_; intro w3 x3 b3 s3; have b3' : Below G w1 w3 := b2.trans (b3.mono (by have := b2.size; omega)); have sx := SX.out w3 b3'; rw [HR.out] at x3)
          | ((with_reducible show wpList _ _ _ (⟨some 33, _, _, _, _, _⟩ :: _) _ _); go_must (rw [HR.out]; refine wpl_copy rfl (.tmp 27) (.tmp 32) 30 30 rfl 5 Try.underlying30 hsz _ _ z z (n - q) (c - q) rfl rfl r 0 _ 5 x3 G _ sx (fun _ => rfl) (by simp; omega) (u8s_cell _) ?_); intro w5 x5 g5; rw [blk_at l hzn.out HQ.out] at x5; have ob := blk_own (g := G) hzn.out x5 (by have := b2.size; omega) (by omega); have b5 := below_fresh b3 g5 hr1; have ho5 := ho2.below b5; have hw5 := ho5.own; rw [hlen.out] at hw5)
          | (at_builtin; go_must (refine wpl_append rfl (.tmp 34) (.tmp 36) 31 rfl G 30 i1 (.slice none 0 0) 1 24 Try.underlying31 hi' hz0' hz1' hz2' rfl (by omega) (.slice Ao k co) k vs rfl (hw5.alloc _) _ _ 1 1 _ rfl (Sl.fresh _ _ _ _ 1 rfl) (by simp [Value.oneCell']) (k + 1) rfl _ rfl (by omega) (by omega) (by have := b5.size; have := b2.size; simp; omega) ?_); intro A6 c6 w6 o6 g6 _))
        have b6 : Below G w1 w6 := below_own ((b2.trans (b5.mono (by have := b2.size; omega))).alloc (by have := b2.size; have := b5.size; omega) _) (hw5.alloc _) g6 (Nat.le_refl _) (by have := b2.size; have := b5.size; simp; omega)
        have ho6 := (ho5.below ((Below.refl _ _).alloc (Nat.le_refl _) _)).push (ob.below ((Below.refl _ _).alloc (Nat.le_refl _) _)) (by rw [hlen.out]; exact o6) g6
        go_roundw
        case rel => exact ⟨k + 1, _, A6, c6, by omega, by go_num, rfl, by rw [List.range_succ, List.map_append]; exact ho6, b6⟩
        case measure => simp [intOf]; omega
      · have hkm : m = k := by omega
        subst hkm
        go_wp2_with fail
        go_ret
        refine ⟨_, vs, rfl, ?_, ?_⟩
        · have hbl : blocks p l = (List.range m).map (blk p.size.toNat l) := by
            unfold blocks; rw [HL.out, HM.out]; simp
          rw [hbl, HG.out]
          exact ho2.base g1
        · rw [HG.out]
          exact b1.trans (b2.mono g1)
  · have h1' : p.may = false := by simpa using hmay
    have hz := hid (show blocks p l = [] by unfold blocks; rw [countP_no (fun h => hmay h.1)]; rfl)
    go_enter Try.func14, Try.ntmps14
    go_wp2_with fail
    refine (refmay_any p false _ h1').mono ?_
    rintro e w1 ⟨rfl, hb⟩
    go_wp2
    go_ret
    refine ⟨_, [], rfl, ?_, ((Below.refl _ _).alloc (Nat.le_refl _) _).trans (hb.mono (by simp))⟩
    rw [hz.out]; exact OBs.nil_ _ _
end Go.Proofs.Ytnamnoaedfbhpaa
