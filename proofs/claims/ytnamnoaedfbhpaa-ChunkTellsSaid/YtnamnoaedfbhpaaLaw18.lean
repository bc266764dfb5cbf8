/- The walks of chapter 18's laws. -/
import Derived.Test.YtnamnoaedfbhpaaWhole
import Derived.Test.YtnamnoaedfbhpaaBlocks
import Derived.Test.YtnamnoaedfbhpaaParams
import Derived.Test.YtnamnoaedfbhpaaAlike
import Derived.Test.YtnamnoaedfbhpaaFrame
import Derived.StillTailTactics
namespace Wells
theorem counts_law (s n : Int) (hs : 1 ≤ s) (hn : 0 ≤ n) (k : Int) (hk : k = if 0 < n then (n - 1) / s + 1 else 0) :
    n ≤ k * s ∧ (k - 1) * s < max n 1 ∧ n / s + 1 - k = (if n % s = 0 then 1 else 0) ∧ 0 ≤ k ∧ k ≤ n ∧ (if 0 < k * s then (k * s - 1) / s + 1 else 0) = k := by
  have h1 := Int.mul_ediv_add_emod n s
  have h2 := Int.emod_nonneg n (show s ≠ 0 by omega)
  have h3 := Int.emod_lt_of_pos n (show 0 < s by omega)
  have ha := count_alt n s hn hs
  rw [← hk] at ha
  have hq : 0 ≤ n / s := Int.ediv_nonneg hn (by omega)
  have hlast : ∀ j : Int, 0 < j → (if 0 < j * s then (j * s - 1) / s + 1 else 0) = j := by
    intro j hj
    have : 1 * s ≤ j * s := Int.mul_le_mul_of_nonneg_right hj (by omega)
    rw [if_pos (by omega), show j * s - 1 = (s - 1) + (j - 1) * s by rw [Int.sub_mul]; omega, Int.add_mul_ediv_right _ _ (by omega), Int.ediv_eq_zero_of_lt (by omega) (by omega)]
    omega
  generalize n / s = q at *
  generalize n % s = r at *
  have hsq : q * s = s * q := Int.mul_comm _ _
  have hqs : 1 * q ≤ s * q := Int.mul_le_mul_of_nonneg_right hs hq
  by_cases hr : 0 < r
  · rw [if_pos hr] at ha
    subst ha
    refine ⟨by rw [Int.add_mul]; omega, by rw [Int.add_sub_cancel]; omega, by rw [if_neg (by omega)]; omega, by omega, by omega, hlast _ (by omega)⟩
  · rw [if_neg hr] at ha
    have hr0 : r = 0 := by omega
    subst hr0
    have hqk : k = q := by omega
    subst hqk
    refine ⟨by omega, by rw [Int.sub_mul]; omega, by rw [if_pos rfl]; omega, hq, by omega, ?_⟩
    by_cases hk0 : 0 < k
    · exact hlast _ hk0
    · have : k = 0 := by omega
      subst this
      simp
end Wells
namespace Go.Proofs.Ytnamnoaedfbhpaa
open Go.RowKit Wells
theorem countP_eq {p : Par} (h : p.may = true) (n : Int) : countP p n = if 0 < n then (n - 1) / p.size + 1 else 0 := by
  unfold countP
  by_cases h3 : 0 < n <;> simp [h, h3]
theorem blocks_len (p : Par) (l : List Byte) : (blocks p l).length = (countP p l.length).toNat := by unfold blocks; simp
theorem wakes18 (w : World) : Calls Try.prog 11 #[] w fun e w' => e = .returned (.bool true) ∧ Below w.heap.size w w' := by
  have p0 := PCells.new w ⟨2, 1, 3⟩ 23
  have b0 : Below w.heap.size w (w.alloc (.cells #[.int .i64 2, .int .i64 1, .int .i64 3] 23)) := (Below.refl _ _).alloc (Nat.le_refl _) _
  go_enter Try.func11, Try.ntmps11
  go_wp2_with fail
  refine (count_any ⟨2, 1, 3⟩ 0 0 _ (by decide) rfl).mono ?_
  rintro e w1 ⟨rfl, hb⟩
  have p1 := p0.keep hb p0.lt
  have b1 := b0.trans (hb.mono (by simp))
  clear p0 b0 hb
  obtain ⟨c0, c1, c2⟩ := id p1
  dsimp only at c0 c1 c2
  go_wp2_with fail
  refine (count_any ⟨2, 1, 3⟩ 7 2 _ (by decide) rfl).mono ?_
  rintro e w2 ⟨rfl, hb⟩
  have p2 := p1.keep hb p1.lt
  have b2 := b1.trans (hb.mono b1.size)
  clear p1 b1 hb c0 c1 c2
  obtain ⟨c0, c1, c2⟩ := id p2
  dsimp only at c0 c1 c2
  go_wp2_with fail
  have s2 : Sl (w2.alloc (.cells #[bv8 1#8] 5)) (w2.heap.size + 1) 1 (some ⟨w2.heap.size, 0, none⟩) 1 ([1#8].map bv8) := Sl.fresh w2 [bv8 1#8] _ _ 1 rfl
  refine (split_any ⟨2, 1, 3⟩ (w2.heap.size + 1) _ 1 1 [1#8] _ s2 (by simp) (by omega) (by omega)).mono ?_
  rintro e w3 ⟨v, vs, rfl, ho, hb⟩
  obtain ⟨A, c, rfl, _, _⟩ := ho.form
  have e1 : (blocks ⟨2, 1, 3⟩ [1#8]).length = 1 := rfl
  rw [e1]
  go_wp2
  go_ret
  exact ⟨rfl, (b2.alloc b2.size _).trans (hb.mono (by have := b2.size; simp; omega))⟩
theorem walk_ChunkCounts (a b c n : Int) (w : World) (ha : -9223372036854775808 ≤ a ∧ a ≤ 9223372036854775807) (hb : -9223372036854775808 ≤ b ∧ b ≤ 9223372036854775807) (hc : -9223372036854775808 ≤ c ∧ c ≤ 9223372036854775807) (hn : -9223372036854775808 ≤ n ∧ n ≤ 9223372036854775807) :
    Calls Try.prog 3 #[.int .i64 a, .int .i64 b, .int .i64 c, .int .i64 n] w fun e w' => e = .returned (.bool true) ∧ Below w.heap.size w w' := by
  obtain ⟨p, hp⟩ : ∃ p, parOf a b c = p := ⟨_, rfl⟩
  have hok : p.Ok := hp ▸ parOf_ok a b c
  have hmay := Par.ok_may hok
  have hsz := Par.size_le hok
  obtain ⟨N, hN⟩ : ∃ N, n % 1099511627776 = N := ⟨_, rfl⟩
  have hN0 : 0 ≤ N := by omega
  have hN1 : N < 1099511627776 := by omega
  obtain ⟨k, hk⟩ : ∃ k, countP p N = k := ⟨_, rfl⟩
  obtain ⟨k1, hk1⟩ : ∃ k1, countP p (N + 1) = k1 := ⟨_, rfl⟩
  obtain ⟨f1, f2, f3, f4, f5, f6⟩ := counts_law p.size N hsz.1 hN0 k (by rw [← hk, countP_eq hmay])
  have hk1' : k1 = N / p.size + 1 := by rw [← hk1, countP_yes hmay (by omega), Int.add_sub_cancel]
  have f6' : countP p (k * p.size) = k := by rw [countP_eq hmay]; exact f6
  obtain ⟨s, hs⟩ : ∃ s, p.size = s := ⟨_, rfl⟩
  rw [hs] at f1 f2 f3 f6' hk1' hsz
  obtain ⟨ks, hks⟩ : ∃ ks, k * s = ks := ⟨_, rfl⟩
  rw [hks] at f1 f6'
  rw [Int.sub_mul, Int.one_mul, hks] at f2
  have hksu : ks ≤ 1099511627776 + 384 := by omega
  have HP := hid hp
  have HN := hid hN
  have HK := hid hk
  have HK1 := hid hk1
  have HS := hid hs
  have H6 := hid f6'
  have HM := hid hmay
  have HKS := hid hks
  have hd : k1 - k = if N % s = 0 then 1 else 0 := by rw [hk1']; exact f3
  have HD := hid hd
  have hd0 : 0 ≤ k1 - k ∧ k1 - k ≤ 1 := by rw [hd]; split <;> omega
  obtain ⟨hd0, hd1⟩ := hd0
  clear hp hN hk hk1 hs f6' hmay hd hk1' f3 f6 hks
  have eq1 : p.K * p.S = s := HS.out
  have eq2 : k * s = ks := HKS.out
  have eq3 : (k - 1) * s = ks - s := by rw [Int.sub_mul, Int.one_mul, eq2]
  obtain ⟨r, hr⟩ : ∃ r, N % s = r := ⟨_, rfl⟩
  have hneg := hid (show countP p (-1 - N) = 0 from countP_no (by omega))
  have hs1 := hsz.1
  have hs2 := hsz.2
  clear hsz
  have hdc : (k1 - k = 1 ∧ N % s = 0) ∨ (k1 - k = 0 ∧ (r == 0) = false ∧ N % s = r) := by
    have := HD.out
    by_cases hr0 : r = 0
    · rw [hr, if_pos hr0] at this; exact .inl ⟨this, by omega⟩
    · rw [hr, if_neg hr0] at this; exact .inr ⟨this, by simp [hr0], hr⟩
  clear hr HD
  rcases hdc with ⟨hdd, hrr⟩ | ⟨hdd, hr0, hrr⟩
  all_goals
    go_enter Try.func3, Try.ntmps3
    go_wp2_with fail
    refine (params_any p a b c _ ha hb hc HP.out).mono ?_
    rintro e w1 ⟨rfl, hbw⟩
    go_wp2_with fail
    refine (within_any n 1099511627776 _ hn.1 hn.2 (by omega) (by omega)).mono ?_
    rintro e w2 ⟨rfl, rfl⟩
    rw [HN.out]
    go_wp2_with fail
    refine (count_any p N k _ (by omega) HK.out).mono ?_
    rintro e w2 ⟨rfl, hb2⟩
    have p2 := (PCells.new w1 p 23).keep hb2 (by simp)
    have b2 := (hbw.alloc hbw.size _).trans (hb2.mono (by have := hbw.size; simp; omega))
    obtain ⟨c0, c1, c2⟩ := id p2
    clear hbw hb2
    go_wp2_with fail
    refine (count_any p (N + 1) k1 _ (by omega) HK1.out).mono ?_
    rintro e w3 ⟨rfl, hb3⟩
    have p3 := p2.keep hb3 p2.lt
    have b3 := b2.trans (hb3.mono b2.size)
    clear c0 c1 c2 p2 b2 hb3
    obtain ⟨c0, c1, c2⟩ := id p3
    go_wp2_with fail
    all_goals
      refine (count_any p ks k _ (by omega) H6.out).mono ?_
      rintro e w4 ⟨rfl, hb4⟩
      have p4 := p3.keep hb4 p3.lt
      have b4 := b3.trans (hb4.mono b3.size)
      clear c0 c1 c2 hb4
      obtain ⟨c0, c1, c2⟩ := id p4
      go_wp2_with fail
      refine (count_any p (-1 - N) 0 _ (by omega) hneg.out).mono ?_
      rintro e w5 ⟨rfl, hb5⟩
      have p5 := p4.keep hb5 p4.lt
      have b5 := b4.trans (hb5.mono b4.size)
      clear c0 c1 c2 hb5
      obtain ⟨c0, c1, c2⟩ := id p5
      go_wp2_with fail
      refine (premay_any p true _ HM.out).mono ?_
      rintro e w6 ⟨rfl, hb6⟩
      have b6 := b5.trans (hb6.mono b5.size)
      go_wp2_with fail
      refine (wakes18 _).mono ?_
      rintro e w7 ⟨rfl, hb7⟩
      go_wp2
      go_ret
      exact ⟨rfl, b6.trans (hb7.mono b6.size)⟩
end Go.Proofs.Ytnamnoaedfbhpaa
