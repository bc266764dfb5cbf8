/- The walk of CellBack. -/
import Derived.Test.YthplfhjdlbhmlaaLaw16b
import Derived.Test.YthplfhjdlbhmlaaZeros
namespace Go.Proofs.Ythplfhjdlbhmlaa
open Go.RowKit Wells
theorem walk_CellBack (kind : Int) (A : Option Addr) (n0 c0 : Nat) (l0 : List Byte) (at_ cc : Int) (w : World) (hk : -9223372036854775808 ≤ kind ∧ kind ≤ 9223372036854775807) (h : IsBytes w A n0 c0 l0) (ha : -9223372036854775808 ≤ at_ ∧ at_ ≤ 9223372036854775807) (hcc : 0 ≤ cc ∧ cc ≤ 255) :
    Calls Try.prog 5 #[.int .i64 kind, .slice A n0 c0, .int .i64 at_, .int .u8 cc] w fun e w' => e = .returned (.bool true) ∧ Below w.heap.size w w' := by
  obtain ⟨hs, hle, hcap⟩ := h
  obtain ⟨n, hn⟩ : ∃ n, n = min n0 55 := ⟨_, rfl⟩
  have hn55 : n ≤ 55 := by omega
  have hnn : n ≤ n0 := by omega
  have hs' : Sl w w.heap.size 1 A n ((l0.take n).map bv8) := by
    have := hs.take hnn
    rwa [Nat.mul_one, ← List.map_take] at this
  generalize l0.take n = l at hs'
  have hll : l.length = n := by have := hs'.len; simpa using this
  have HN := hid hn
  obtain ⟨x, hx⟩ : ∃ x, kind % 255 = x := ⟨_, rfl⟩
  have hx0 : 0 ≤ x ∧ x ≤ 254 := by omega
  obtain ⟨hx0, hx1⟩ := hx0
  obtain ⟨k, hk0, hkx, hce⟩ := made_cell hx (show l.length ≤ 55 by omega)
  have hfl := frame_len (k := k) (show l.length ≤ 55 by omega)
  have hic := frame_isCell hk0 (show l.length ≤ 55 by omega)
  have htf := take_frame hk0 (show l.length ≤ 55 by omega)
  have hpl := pad_len (show l.length ≤ 55 by omega)
  have hcp : cellL (1 + x) (pad l) = frame k l := by
    rw [hkx, cellL_yes ⟨by omega, by omega, by omega⟩, ofNat_toNat8, frame_pad (by omega)]
  obtain ⟨m, hm⟩ : ∃ m : Nat, (m : Int) = at_ % 64 := ⟨(at_ % 64).toNat, by omega⟩
  have hm64 : m < 64 := by omega
  obtain ⟨c, hc⟩ : ∃ c : Byte, cc = (c.toNat : Int) := ⟨BitVec.ofNat 8 cc.toNat, by rw [BitVec.toNat_ofNat]; omega⟩
  subst hc
  have hfc := cell_flip hic m c hm64
  have hlen2 : ∀ u, ((frame k l).set m u).length = 64 := by intro u; rw [List.length_set, hfl]
  generalize hfr : frame k l = fr at *
  obtain ⟨y, hy⟩ : ∃ y, fr.getD m 0 = y := ⟨_, rfl⟩
  rw [hy] at hfc
  have htk := take_isSome (fr.set m (y ^^^ c))
  have hcase : (c = 0#8 ∧ Hid ((takeP (fr.set m (y ^^^ c))).isSome = true)) ∨ (((c.toNat : Int) == 0) = false ∧ Hid ((takeP (fr.set m (y ^^^ c))).isSome = false)) := by
    by_cases h0 : c = 0#8
    · exact .inl ⟨h0, htk.2 (hfc.2 h0)⟩
    · refine .inr ⟨?_, ?_⟩
      · have : c.toNat ≠ 0 := fun e => h0 (BitVec.eq_of_toNat_eq (by simpa using e))
        simp; omega
      · cases hi : (takeP (fr.set m (y ^^^ c))).isSome with
        | false => exact rfl
        | true => exact absurd (hfc.1 (htk.1 hi)) h0
  rw [hkx] at hce hcp
  have HX := hid hx
  have HCE := hid hce
  have HCP := hid hcp
  have HKX := hid hkx
  have HM := hid hm
  have HY := hid hy
  have HFL := hid hfl
  have HTF := hid htf
  have HPL := hid hpl
  have HLL := hid hll
  have HL2 := hid hlen2
  have hkb := k.isLt
  have hyb := y.isLt
  have hcb := c.isLt
  obtain ⟨i0, hi, hz0, hz1, hz2⟩ := info_parts infoB
  have hsub : IntKind.i64.wrap (55 - (n : Int)) = ((55 - n : Nat) : Int) := by rw [IntKind.wrap_i64]; omega
  have hkk : 1 + x = (k.toNat : Int) := hkx
  clear hn hx hce hcp hkx hm hy hfl hic htf hpl hll hlen2 htk hfc hfr
  go_enter Try.func5, Try.ntmps5
  go_wp2_with fail
  refine (within_any kind 255 _ hk.1 hk.2 (by omega) (by omega)).mono ?_
  rintro e w1 ⟨rfl, rfl⟩
  rw [HX.out]
  go_wp2_with fail
  refine (cut_any A n0 c0 n 55 _ (by omega) (by omega) (by omega) hle HN.out).mono ?_
  rintro e w1 ⟨rfl, rfl⟩
  go_wp2_with fail
  refine (put_any (k.toNat : Int) _ A l n c0 _ (by omega) hs' (Nat.le_refl _) (by omega)).mono ?_
  rintro e w1 ⟨v, rfl, hv, hb1⟩
  rw [HCE.out] at hv
  obtain ⟨A1, c1, rfl, hc1, hc2⟩ := own_form2 hv
  unfold OB at hv
  rw [HFL.out] at hv hc1 ⊢
  have s1 := Sl.own hv
  have hsw1 := hb1.size
  go_wp2_with fail
  refine (take_any _ A1 _ 64 c1 _ s1 (Nat.le_refl _) (by omega) hc1 hc2).mono ?_
  rintro e w2 ⟨v2, rfl, hv2, hb2⟩
  rw [HTF.out] at hv2 ⊢
  obtain ⟨A2, c2, e2, hc21, hc22⟩ := own_form2 hv2
  have e2' : v2 = .slice A2 (pad l).length c2 := e2
  subst e2'
  rw [HPL.out]
  have hv2' : w2.ownsRow w1.heap.size 5 1 (.slice A2 55 c2) 55 ((pad l).map bv8) := by
    have h2 : OB w1.heap.size w2 (.slice A2 (pad l).length c2) (pad l) := hv2
    unfold OB at h2
    rwa [HPL.out] at h2
  have hc21' : 55 ≤ c2 := by have h3 : (pad l).length ≤ c2 := hc21; rwa [HPL.out] at h3
  have hvk : tkV (some (k, pad l)) = .int .i64 (k.toNat : Int) := rfl
  rw [hvk]
  clear hv2 e2 hc21
  have b2 := hb1.trans (hb2.mono hsw1)
  have hs2 := hs'.below b2
  have hv12 := hv.kept (grown_of_below hb2 none) (by cases (Value.slice A1 64 c1).ownBlock <;> simp)
  have hsw2 := b2.size
  have hsb2 := hb2.size
  go_wp2_with (first
    | ((with_reducible show wpList _ _ _ (⟨some 32, _, _, _, _, _⟩ :: _) _ _); go_must (refine wpl_append rfl (.const (.slice none 0 0)) (.tmp 31) 22 rfl w2.heap.size 5 i0 (.int .u8 0) 1 1 Try.underlying22 hi hz0 hz1 hz2 rfl (by omega) (.slice none 0 0) 0 [] rfl (World.ownsRow_nil _ _ _ _) _ A n c0 _ rfl hs2 (u8s_cell _) n (by omega) (l.map bv8) rfl (by omega) (by omega) (Nat.le_refl _) ?_); intro A3 c3 w3 o3 g3 _; have b3 : Below w2.heap.size w2 w3 := below_own (Below.refl _ _) (World.ownsRow_nil w2 w2.heap.size 5 1) g3 (Nat.le_refl _) (Nat.le_refl _))
    | ((with_reducible show wpList _ _ _ (⟨some 36, _, _, _, _, _⟩ :: _) _ _); go_must (refine wpl_append_zeros rfl (.tmp 32) (.tmp 35) 22 3 rfl w2.heap.size 5 i0 (.int .u8 0) 1 Try.underlying22 Try.underlying3 hi hz0 hz1 hz2 rfl rfl (by omega) (.slice A3 n c3) n _ rfl o3 (55 - n) rfl 55 (by omega) ((pad l).map bv8) (by unfold pad; rw [List.map_append, List.map_replicate, HLL.out]; rfl) (by omega) (by omega) b3.size ?_); intro A4 c4 w4 o4 g4))
  have b4 : Below w2.heap.size w2 w4 := below_own b3 o3 g4 (Nat.le_refl _) b3.size
  have hsw4 := b4.size
  have s2 := ((Sl.own hv2').below b4).mono hsw4
  have hv14 := hv12.kept (grown_of_below b4 none) (by cases (Value.slice A1 64 c1).ownBlock <;> simp)
  refine (same_is true _ _ _ (pad l) (pad l) _ _ _ _ _ s2 (Sl.own o4) (by omega) (by omega) (decide_eq_true rfl)).mono ?_
  rintro e w5 ⟨rfl, d, rfl⟩
  go_wp2_with fail
  have hdd : Below w4.heap.size w4 (w4.drewN d) := below_drewN (Below.refl _ _) d
  refine (put_any (k.toNat : Int) w4.heap.size A2 (pad l) 55 c2 _ (by omega) (s2.drewN d) (Nat.le_refl _) (by omega)).mono ?_
  rintro e w6 ⟨v6, rfl, hv6, hb6⟩
  rw [HCP.out] at hv6
  have hb6' : Below w4.heap.size (w4.drewN d) w6 := hb6
  have b46 : Below w4.heap.size w4 w6 := hdd.trans hb6'
  have hv16 := hv14.kept (grown_of_below b46 none) (by cases (Value.slice A1 64 c1).ownBlock <;> simp)
  have hsw6 := b46.size
  obtain ⟨A6, c6, rfl, hc61, hc62⟩ := own_form2 hv6
  have s6 := (hv6.read)
  obtain ⟨A6', c6', e6, _, _, s6⟩ := s6
  injection e6 with e61 _ e62
  subst e61 e62
  rw [HFL.out] at s6 hc61 ⊢
  go_wp2_with fail
  refine (same_is true _ _ _ fr fr _ _ _ _ _ s6 (Sl.own hv16) (by omega) (by omega) (decide_eq_true rfl)).mono ?_
  rintro e w7 ⟨rfl, d2, rfl⟩
  have b26 : Below w2.heap.size w2 w6 := b4.trans (b46.mono hsw4)
  have b6 : Below w.heap.size w w6 := b2.trans (b26.mono hsw2)
  have b7 : Below w.heap.size w (w6.drewN d2) := below_drewN b6 d2
  have hv17 : (w6.drewN d2).ownsRow w.heap.size 5 1 (.slice A1 64 c1) 64 (fr.map bv8) := hv16
  generalize w6.drewN d2 = w7 at *
  obtain ⟨g, cur, rfl, hbg, hrow, hcl, hct, _, hcm⟩ := own_row hv17 (by omega)
  have hcy : w7.cell? ⟨g, m, none⟩ = some (.int .u8 (y.toNat : Int)) := by
    rw [hrow.cell m]
    have h1 : (fr.map bv8)[m]? = some (bv8 y) := by rw [u8s_get fr m (by rw [HFL.out]; exact hm64), HY.out]
    rw [← hct, List.getElem?_take, if_pos hm64] at h1
    exact h1
  have hfz := hrow.frozen m
  have hmi : (0 : Int) ≤ (m : Int) := by omega
  have hmi2 : (m : Int) < 64 := by omega
  clear hv16 hv14 hv12 hv17 hv s1 hv6 s6 s2
  go_wp2_with fail
  refine (within_any at_ 64 _ ha.1 ha.2 (by omega) (by omega)).mono ?_
  rintro e w8 ⟨rfl, rfl⟩
  rw [← HM.out]
  go_wp2_with fail
  rw [x8]
  have hset : (cur.set m (bv8 (y ^^^ c))).take 64 = (fr.set m (y ^^^ c)).map bv8 := by
    rw [List.take_set, hct, List.map_set]
  have hcl64 : 64 ≤ cur.length := by have := congrArg List.length hct; rw [List.length_take, List.length_map, HFL.out] at this; omega
  have row8 := hrow.set m (bv8 (y ^^^ c))
  have hgl := hrow.lt
  have b8 : Below w.heap.size w (w7.setCell ⟨g, m, none⟩ (bv8 (y ^^^ c))) := below_put b7 _ _ hbg b7.size _
  have s8 : Sl (w7.setCell ⟨g, m, none⟩ (bv8 (y ^^^ c))) (g + 1) 1 (some ⟨g, 0, none⟩) 64 ((fr.set m (y ^^^ c)).map bv8) := by
    have := row8.sl (B := g + 1) (m := 64) (by omega) (by rw [List.length_set]; exact hcl64)
    rwa [hset] at this
  have hsz8 : g + 1 ≤ (w7.setCell ⟨g, m, none⟩ (bv8 (y ^^^ c))).heap.size := row8.lt
  refine (take_any _ _ _ 64 c1 _ s8 hsz8 (by omega) hc1 hc2).mono ?_
  rintro e w9 ⟨v9, rfl, hv9, hb9⟩
  have b9 := b8.trans (hb9.mono b8.size)
  clear hv9 hb9 b8 s8 row8 hset hsz8
  generalize takeP (fr.set m (y ^^^ c)) = yy at *
  generalize hys : yy.isSome = yb at *
  unfold tkV
  generalize (yy.getD (0#8, [])).1.toNat = kk
  rcases hcase with ⟨rfl, hyb2⟩ | ⟨hT0, hyb2⟩
  · obtain rfl : yb = true := hyb2
    have hz0 : (((0#8 : Byte).toNat : Nat) : Int) = 0 := rfl
    rw [hz0]
    go_wp2_with fail
    refine (wakes16 _).mono ?_
    rintro e w10 ⟨rfl, hb10⟩
    go_wp2
    go_ret
    exact ⟨rfl, b9.trans (hb10.mono b9.size)⟩
  · obtain rfl : yb = false := hyb2
    go_wp2_with fail
    refine (wakes16 _).mono ?_
    rintro e w10 ⟨rfl, hb10⟩
    go_wp2
    go_ret
    exact ⟨rfl, b9.trans (hb10.mono b9.size)⟩
end Go.Proofs.Ythplfhjdlbhmlaa
