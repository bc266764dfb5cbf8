/- The walk of CellBurst. -/
import Derived.Test.YthplfhjdlbhmlaaLaw16
import Derived.Test.YthplfhjdlbhmlaaTurn
namespace Wells
theorem made_cell {kind x : Int} (hx : kind % 255 = x) {l : BL} (hl : l.length ≤ 55) : ∃ k : BitVec 8, k ≠ 0#8 ∧ (1 + x = (k.toNat : Int)) ∧ cellL (1 + x) l = frame k l := by
  have h0 : 0 ≤ x ∧ x ≤ 254 := by omega
  refine ⟨BitVec.ofNat 8 (1 + x).toNat, ?_, ?_, cellL_yes ⟨by omega, by omega, hl⟩⟩
  · intro h
    have := congrArg BitVec.toNat h
    rw [BitVec.toNat_ofNat] at this
    simp at this
    omega
  · rw [BitVec.toNat_ofNat]; omega
theorem frame_isCell {k : BitVec 8} (hk : k ≠ 0#8) {l : BL} (hl : l.length ≤ 55) : IsCell (frame k l) := ⟨k, pad l, hk, pad_len hl, (frame_pad hl).symm⟩
end Wells
namespace Go.Proofs.Ythplfhjdlbhmlaa
open Go.RowKit Wells
theorem own_form2 {base : Nat} {w : World} {v : Value} {l : List Byte} (h : OB base w v l) : ∃ A c, v = .slice A l.length c ∧ l.length ≤ c ∧ c ≤ 9223372036854775807 := by
  obtain ⟨A, c, e, h1, h2, _⟩ := own_slice h
  exact ⟨A, c, e, h1, h2⟩
theorem walk_CellBurst (kind : Int) (A : Option Addr) (n0 c0 : Nat) (l0 : List Byte) (at_ a2 : Int) (w : World) (hk : -9223372036854775808 ≤ kind ∧ kind ≤ 9223372036854775807) (h : IsBytes w A n0 c0 l0) (ha : -9223372036854775808 ≤ at_ ∧ at_ ≤ 9223372036854775807) (ha2 : 0 ≤ a2 ∧ a2 ≤ 18446744073709551615) :
    Calls Try.prog 7 #[.int .i64 kind, .slice A n0 c0, .int .i64 at_, .int .u64 a2] w fun e w' => e = .returned (.bool true) ∧ Below w.heap.size w w' := by
  obtain ⟨hs, hle, hcap⟩ := h
  obtain ⟨n, hn⟩ : ∃ n, n = min n0 55 := ⟨_, rfl⟩
  have hn55 : n ≤ 55 := by omega
  have hnn : n ≤ n0 := by omega
  have hs' : Sl w w.heap.size 1 A n ((l0.take n).map bv8) := by
    have := hs.take hnn
    rwa [Nat.mul_one, ← List.map_take] at this
  generalize l0.take n = l at hs'
  have hll : l.length = n := by have := hs'.len; simpa using this
  have HN := hid hn
  obtain ⟨x, hx⟩ : ∃ x, kind % 255 = x := ⟨_, rfl⟩
  have hx0 : 0 ≤ x ∧ x ≤ 254 := by omega
  obtain ⟨hx0, hx1⟩ := hx0
  obtain ⟨k, hk0, hkx, hce⟩ := made_cell hx (show l.length ≤ 55 by omega)
  have hic := frame_isCell hk0 (show l.length ≤ 55 by omega)
  have hfl := frame_len (k := k) (show l.length ≤ 55 by omega)
  obtain ⟨bit, hbit⟩ : ∃ bit : Nat, (bit : Int) = at_ % 512 := ⟨(at_ % 512).toNat, by omega⟩
  have hb8 : bit < 8 * 64 := by omega
  obtain ⟨mask, hmask⟩ : ∃ mask : BitVec 32, (mask.toNat : Int) = a2 % 4294967296 := ⟨BitVec.ofNat 32 a2.toNat, by rw [BitVec.toNat_ofNat]; omega⟩
  have hcb := cell_burst hic bit mask (by omega)
  have htk := take_isSome (xr (frame k l) (errL 64 bit mask 32))
  obtain ⟨T, hT⟩ : ∃ T, turnN 64 bit mask 32 = T := ⟨_, rfl⟩
  rw [hT] at hcb
  have hlx : (xr (frame k l) (errL 64 bit mask 32)).length = 64 := by rw [xr_length, errL_length, hfl]; omega
  have HLX := hid hlx
  have HX := hid hx
  have HCE := hid hce
  have HB := hid hbit
  have HK := hid hmask
  have HT := hid hT
  generalize hfr : frame k l = fr at *
  have HFL := hid hfl
  have hcase : (T = 0 ∧ Hid ((takeP (xr fr (errL 64 bit mask 32))).isSome = true)) ∨ (((T : Int) == 0) = false ∧ Hid ((takeP (xr fr (errL 64 bit mask 32))).isSome = false)) := by
    by_cases h0 : T = 0
    · exact .inl ⟨h0, htk.2 (hcb.2 h0)⟩
    · refine .inr ⟨by simp; omega, ?_⟩
      cases hi : (takeP (xr fr (errL 64 bit mask 32))).isSome with
      | false => exact rfl
      | true => exact absurd (hcb.1 (htk.1 hi)) h0
  clear hn hx hce hbit hmask hT hfr hfl hcb htk hic hll hlx hkx
  go_enter Try.func7, Try.ntmps7
  go_wp2_with fail
  refine (within_any kind 255 _ hk.1 hk.2 (by omega) (by omega)).mono ?_
  rintro e w1 ⟨rfl, rfl⟩
  rw [HX.out]
  go_wp2_with fail
  refine (cut_any A n0 c0 n 55 _ (by omega) (by omega) (by omega) hle HN.out).mono ?_
  rintro e w1 ⟨rfl, rfl⟩
  go_wp2_with fail
  refine (put_any (1 + x) _ A l n c0 _ (by omega) hs' (Nat.le_refl _) (by omega)).mono ?_
  rintro e w1 ⟨v, rfl, hv, hb1⟩
  rw [HCE.out] at hv
  obtain ⟨A1, c1, rfl, hc1, hc2⟩ := own_form2 hv
  unfold OB at hv
  rw [HFL.out] at hv hc1 ⊢
  go_wp2_with fail
  refine (within_any at_ 512 _ ha.1 ha.2 (by omega) (by omega)).mono ?_
  rintro e w2 ⟨rfl, rfl⟩
  rw [← HB.out]
  go_wp2_with fail
  rw [← HK.out]
  refine (walk_Turn w.heap.size A1 64 c1 _ bit mask _ hv (by omega) (by omega) hb8).mono ?_
  rintro e w3 ⟨rfl, o3, g3⟩
  rw [HT.out]
  have b3 : Below w.heap.size w w3 := below_own hb1 hv g3 (Nat.le_refl _) hb1.size
  have s3 := Sl.own o3
  go_wp2_with fail
  refine (take_any _ A1 _ 64 c1 _ s3 (Nat.le_refl _) (by omega) hc1 hc2).mono ?_
  rintro e w4 ⟨v4, rfl, hv4, hb4⟩
  generalize hy : takeP (xr fr (errL 64 bit mask 32)) = y at *
  clear hv4
  generalize hys : y.isSome = yb at *
  rcases hcase with ⟨rfl, hyb⟩ | ⟨hT0, hyb⟩
  · obtain rfl : yb = true := hyb
    unfold tkV
    generalize (y.getD (0#8, [])).1.toNat = kk
    go_wp2_with fail
    refine (wakes16 _).mono ?_
    rintro e w9 ⟨rfl, hb9⟩
    go_wp2
    go_ret
    exact ⟨rfl, (b3.trans (hb4.mono b3.size)).trans (hb9.mono (by have := hb4.size; have := b3.size; omega))⟩
  · obtain rfl : yb = false := hyb
    unfold tkV
    generalize (y.getD (0#8, [])).1.toNat = kk
    go_wp2_with fail
    refine (wakes16 _).mono ?_
    rintro e w9 ⟨rfl, hb9⟩
    go_wp2
    go_ret
    exact ⟨rfl, (b3.trans (hb4.mono b3.size)).trans (hb9.mono (by have := hb4.size; have := b3.size; omega))⟩
end Go.Proofs.Ythplfhjdlbhmlaa
