/- RecordBack. -/
import Derived.Test.YthafodblffgmmaaLaw17
namespace Wells
open Go Go.RowKit
theorem takeR_kind {r : Rec} (h : r.may = true) {x : Int} (hx : 0 ≤ x ∧ x ≤ 254) : (takeR (cellL (1 + x) (pad (recB r)))).isSome = ((1 + x : Int) == 1) := by
  have hs := rec_short h
  have hp := pad_len hs
  rw [cellL_yes ⟨by omega, by omega, by omega⟩, frame_pad hs]
  by_cases h0 : x = 0
  · subst h0
    have := take_put h
    rw [putR_frame h] at this
    have e : BitVec.ofNat 8 (1 + 0 : Int).toNat = 1#8 := rfl
    rw [e, this]
    rfl
  · obtain ⟨k, hk⟩ : ∃ k, BitVec.ofNat 8 (1 + x : Int).toNat = k := ⟨_, rfl⟩
    have hkn : k.toNat = (1 + x).toNat := by rw [← hk, BitVec.toNat_ofNat]; omega
    have hk0 : k ≠ 0#8 := fun e => by rw [e] at hkn; simp at hkn; omega
    have hk1 : k ≠ 1#8 := fun e => by rw [e] at hkn; simp at hkn; omega
    rw [hk, takeR_of (take_frame hk0 hs), if_neg (fun hh => hk1 hh.1)]
    symm
    simp
    omega
end Wells
namespace Go.Proofs.Ythafodblffgmmaa
open Go.RowKit Wells
set_option maxRecDepth 20000 in
set_option maxHeartbeats 8000000 in
theorem walk_RecordBack (o b i a1 b1 c1 x s : Int) (kind : Int) (w : World) (ho : -9223372036854775808 ≤ o ∧ o ≤ 9223372036854775807) (hb : -9223372036854775808 ≤ b ∧ b ≤ 9223372036854775807) (hi : -9223372036854775808 ≤ i ∧ i ≤ 9223372036854775807) (ha1 : -9223372036854775808 ≤ a1 ∧ a1 ≤ 9223372036854775807) (hb1 : -9223372036854775808 ≤ b1 ∧ b1 ≤ 9223372036854775807) (hc1 : -9223372036854775808 ≤ c1 ∧ c1 ≤ 9223372036854775807) (hx : -9223372036854775808 ≤ x ∧ x ≤ 9223372036854775807) (hs : 0 ≤ s ∧ s ≤ 18446744073709551615) (hk : -9223372036854775808 ≤ kind ∧ kind ≤ 9223372036854775807) :
    Calls Try.prog 5 #[.int .i64 o, .int .i64 b, .int .i64 i, .int .i64 a1, .int .i64 b1, .int .i64 c1, .int .i64 x, .int .u64 s, .int .i64 kind] w fun e w' => e = .returned (.bool true) ∧ Below w.heap.size w w' := by
  obtain ⟨xk, hxk⟩ : ∃ r, kind % 255 = r := ⟨_, rfl⟩
  have hxk0 : 0 ≤ xk ∧ xk ≤ 254 := by omega
  have HXK := hid hxk
  have HXK0 := hid hxk0
  obtain ⟨hxk1, hxk2⟩ := hxk0
  clear hxk
  go_enter Try.func5, Try.ntmps5
  go_wp2_with fail
  refine (made_any o b i a1 b1 c1 x s _ ho hb hi ha1 hb1 hc1 hx hs).mono ?_
  rintro e w1 ⟨r, A, c, rfl, hm, hv, hbw⟩
  have hz1 := hbw.size
  have ht := hid (take_put hm)
  have hln := hid (putR_len hm)
  have HM := hid hm
  have HTK := hid (takeR_kind hm HXK0.out)
  have hsh := rec_short hm
  rw [recB_len] at hsh
  have hpad := hid (pad_len (rec_short hm))
  have htp := hid (show takeP (putR r) = some (1#8, pad (recB r)) by rw [putR_frame hm]; exact take_frame (by decide) (rec_short hm))
  obtain ⟨n, hn⟩ : ∃ n, r.D.length = n := ⟨_, rfl⟩
  rw [hn] at hsh hv ⊢
  have HN := hid hn
  have sa := ob_sl hv hn
  obtain ⟨_, _, ee, hc2, hc3⟩ := own_form3 hv hn
  injection ee with e1 e2 e3
  subst e1 e3
  clear hn hm hv e2
  unfold Rec.val
  have hbx := (Below.refl w1.heap.size w1).alloc (Nat.le_refl _) (recObj 27 r (.slice A n c))
  have sa := Sl.below sa (hbx.mono (by omega))
  have hbw := hbw.trans (hbx.mono (by omega))
  have rca := RCells.new w1 r (.slice A n c) 27
  have ltrca := rca.lt
  have hzbw2 := hbx.size
  clear hbx
  have rcaH := hid rca
  obtain ⟨rca0, rca1, rca2, rca3, rca4, rca5, rca6, rca7⟩ := rca
  try dsimp only at rca0 rca1 rca2 rca3 rca4 rca5 rca6 rca7
  have rca := rcaH
  go_wp2_with fail
  generalize w1.alloc (recObj 27 r (.slice A n c)) = w2 at *
  clear rca0 rca1 rca2 rca3 rca4 rca5 rca6 rca7
  refine (putrec_any w2.heap.size r A n c w2 (sa.mono (by omega)) (Nat.le_refl _)).mono ?_
  rintro e w3 ⟨y, rfl, hy, hb3⟩
  obtain ⟨Ay, cy, rfl, hcy1, hcy2⟩ := own_form3 hy hln.out
  have sy := ob_sl hy hln.out
  have hzw3 : w2.heap.size ≤ w3.heap.size := hb3.size
  have rca := RCells.keep rca hb3 (by omega)
  have sa := Sl.below sa (hb3.mono (by omega))
  have hbw := hbw.trans (hb3.mono (by omega))
  clear hb3 hy
  have rcaH := hid rca
  obtain ⟨rca0, rca1, rca2, rca3, rca4, rca5, rca6, rca7⟩ := rca
  try dsimp only at rca0 rca1 rca2 rca3 rca4 rca5 rca6 rca7
  have rca := rcaH
  go_wp2_with fail
  clear rca0 rca1 rca2 rca3 rca4 rca5 rca6 rca7
  refine (takerec_any w3.heap.size Ay (putR r) 64 cy w3 sy (Nat.le_refl _) (by omega) hcy1 hcy2).mono ?_
  rintro e w4 ⟨d2, rfl, hd2, hb4⟩
  rw [ht.out] at hd2 ⊢
  obtain ⟨A2, c2, rfl, hc21, hc22, sb⟩ := rb_sl hd2
  try dsimp only [Option.getD, Option.isSome] at sb hc21 ⊢
  rw [HN.out] at sb hc21 ⊢
  have hzw4 : w3.heap.size ≤ w4.heap.size := hb4.size
  have rca := RCells.keep rca hb4 (by omega)
  have sa := Sl.below sa (hb4.mono (by omega))
  have sy := Sl.below sy (hb4.mono (by omega))
  have hbw := hbw.trans (hb4.mono (by omega))
  unfold Rec.val
  clear hb4 hd2
  have hbx := (Below.refl w4.heap.size w4).alloc (Nat.le_refl _) (recObj 27 r (.slice A2 n c2))
  have rca := RCells.keep rca hbx (by omega)
  have sa := Sl.below sa (hbx.mono (by omega))
  have sy := Sl.below sy (hbx.mono (by omega))
  have sb := Sl.below sb (hbx.mono (by omega))
  have hbw := hbw.trans (hbx.mono (by omega))
  have rcb := RCells.new w4 r (.slice A2 n c2) 27
  have ltrcb := rcb.lt
  have hzbw5 := hbx.size
  clear hbx
  have rcaH := hid rca
  obtain ⟨rca0, rca1, rca2, rca3, rca4, rca5, rca6, rca7⟩ := rca
  try dsimp only at rca0 rca1 rca2 rca3 rca4 rca5 rca6 rca7
  have rca := rcaH
  have rcbH := hid rcb
  obtain ⟨rcb0, rcb1, rcb2, rcb3, rcb4, rcb5, rcb6, rcb7⟩ := rcb
  try dsimp only at rcb0 rcb1 rcb2 rcb3 rcb4 rcb5 rcb6 rcb7
  have rcb := rcbH
  go_wp2_with fail
  generalize w4.alloc (recObj 27 r (.slice A2 n c2)) = w5 at *
  clear rca0 rca1 rca2 rca3 rca4 rca5 rca6 rca7
  clear rcb0 rcb1 rcb2 rcb3 rcb4 rcb5 rcb6 rcb7
  refine (recmay_any r A n c true w5 HN.out HM.out).mono ?_
  rintro e w6 ⟨rfl, hb6⟩
  have hzw6 : w5.heap.size ≤ w6.heap.size := hb6.size
  have rca := RCells.keep rca hb6 (by omega)
  have rcb := RCells.keep rcb hb6 (by omega)
  have sa := Sl.below sa (hb6.mono (by omega))
  have sy := Sl.below sy (hb6.mono (by omega))
  have sb := Sl.below sb (hb6.mono (by omega))
  have hbw := hbw.trans (hb6.mono (by omega))
  clear hb6
  have rcaH := hid rca
  obtain ⟨rca0, rca1, rca2, rca3, rca4, rca5, rca6, rca7⟩ := rca
  try dsimp only at rca0 rca1 rca2 rca3 rca4 rca5 rca6 rca7
  have rca := rcaH
  have rcbH := hid rcb
  obtain ⟨rcb0, rcb1, rcb2, rcb3, rcb4, rcb5, rcb6, rcb7⟩ := rcb
  try dsimp only at rcb0 rcb1 rcb2 rcb3 rcb4 rcb5 rcb6 rcb7
  have rcb := rcbH
  go_wp2_with fail
  clear rca0 rca1 rca2 rca3 rca4 rca5 rca6 rca7
  clear rcb0 rcb1 rcb2 rcb3 rcb4 rcb5 rcb6 rcb7
  refine (samerec_any r r A2 A n n c2 c true w6.heap.size w6 (sb.mono (by omega)) (sa.mono (by omega)) (Nat.le_refl _) (by omega) (by omega) (decide_eq_true rfl)).mono ?_
  rintro e w7 ⟨rfl, hb7⟩
  have hzw7 : w6.heap.size ≤ w7.heap.size := hb7.size
  have rca := RCells.keep rca hb7 (by omega)
  have rcb := RCells.keep rcb hb7 (by omega)
  have sa := Sl.below sa (hb7.mono (by omega))
  have sy := Sl.below sy (hb7.mono (by omega))
  have sb := Sl.below sb (hb7.mono (by omega))
  have hbw := hbw.trans (hb7.mono (by omega))
  clear hb7
  have rcaH := hid rca
  obtain ⟨rca0, rca1, rca2, rca3, rca4, rca5, rca6, rca7⟩ := rca
  try dsimp only at rca0 rca1 rca2 rca3 rca4 rca5 rca6 rca7
  have rca := rcaH
  have rcbH := hid rcb
  obtain ⟨rcb0, rcb1, rcb2, rcb3, rcb4, rcb5, rcb6, rcb7⟩ := rcb
  try dsimp only at rcb0 rcb1 rcb2 rcb3 rcb4 rcb5 rcb6 rcb7
  have rcb := rcbH
  go_wp2_with fail
  clear rca0 rca1 rca2 rca3 rca4 rca5 rca6 rca7
  clear rcb0 rcb1 rcb2 rcb3 rcb4 rcb5 rcb6 rcb7
  refine (putrec_any w7.heap.size r A2 n c2 w7 (sb.mono (by omega)) (Nat.le_refl _)).mono ?_
  rintro e w8 ⟨y2, rfl, hy2, hb8⟩
  obtain ⟨Ay2, cy2, rfl, hcy21, hcy22⟩ := own_form3 hy2 hln.out
  have sy2 := ob_sl hy2 hln.out
  have hzw8 : w7.heap.size ≤ w8.heap.size := hb8.size
  have rca := RCells.keep rca hb8 (by omega)
  have rcb := RCells.keep rcb hb8 (by omega)
  have sa := Sl.below sa (hb8.mono (by omega))
  have sy := Sl.below sy (hb8.mono (by omega))
  have sb := Sl.below sb (hb8.mono (by omega))
  have hbw := hbw.trans (hb8.mono (by omega))
  clear hb8 hy2
  have rcaH := hid rca
  obtain ⟨rca0, rca1, rca2, rca3, rca4, rca5, rca6, rca7⟩ := rca
  try dsimp only at rca0 rca1 rca2 rca3 rca4 rca5 rca6 rca7
  have rca := rcaH
  have rcbH := hid rcb
  obtain ⟨rcb0, rcb1, rcb2, rcb3, rcb4, rcb5, rcb6, rcb7⟩ := rcb
  try dsimp only at rcb0 rcb1 rcb2 rcb3 rcb4 rcb5 rcb6 rcb7
  have rcb := rcbH
  go_wp2_with fail
  clear rca0 rca1 rca2 rca3 rca4 rca5 rca6 rca7
  clear rcb0 rcb1 rcb2 rcb3 rcb4 rcb5 rcb6 rcb7
  refine (same_is true w8.heap.size _ _ (putR r) (putR r) _ _ _ _ _ (sy2.mono (by omega)) (sy.mono (by omega)) (by omega) (by omega) (decide_eq_true rfl)).mono ?_
  rintro e w9 ⟨rfl, dn, rfl⟩
  have hb9 : Below w8.heap.size w8 (w8.drewN dn) := below_drewN (Below.refl _ _) dn
  generalize w8.drewN dn = w9 at *
  have hzw9 : w8.heap.size ≤ w9.heap.size := hb9.size
  have rca := RCells.keep rca hb9 (by omega)
  have rcb := RCells.keep rcb hb9 (by omega)
  have sa := Sl.below sa (hb9.mono (by omega))
  have sy := Sl.below sy (hb9.mono (by omega))
  have sb := Sl.below sb (hb9.mono (by omega))
  have sy2 := Sl.below sy2 (hb9.mono (by omega))
  have hbw := hbw.trans (hb9.mono (by omega))
  clear hb9
  have rcaH := hid rca
  obtain ⟨rca0, rca1, rca2, rca3, rca4, rca5, rca6, rca7⟩ := rca
  try dsimp only at rca0 rca1 rca2 rca3 rca4 rca5 rca6 rca7
  have rca := rcaH
  have rcbH := hid rcb
  obtain ⟨rcb0, rcb1, rcb2, rcb3, rcb4, rcb5, rcb6, rcb7⟩ := rcb
  try dsimp only at rcb0 rcb1 rcb2 rcb3 rcb4 rcb5 rcb6 rcb7
  have rcb := rcbH
  go_wp2_with fail
  clear rca0 rca1 rca2 rca3 rca4 rca5 rca6 rca7
  clear rcb0 rcb1 rcb2 rcb3 rcb4 rcb5 rcb6 rcb7
  refine (take_any w9.heap.size Ay (putR r) 64 cy w9 (sy.mono (by omega)) (Nat.le_refl _) (by omega) hcy1 hcy2).mono ?_
  rintro e w10 ⟨v10, rfl, hv10, hb10⟩
  rw [htp.out] at hv10 ⊢
  unfold tkV
  try dsimp only [Option.getD, Option.isSome] at hv10 ⊢
  obtain ⟨Ab, cb, rfl, hcb1, hcb2⟩ := own_form3 hv10 hpad.out
  have spb := ob_sl hv10 hpad.out
  have hzw10 : w9.heap.size ≤ w10.heap.size := hb10.size
  have rca := RCells.keep rca hb10 (by omega)
  have rcb := RCells.keep rcb hb10 (by omega)
  have sa := Sl.below sa (hb10.mono (by omega))
  have sy := Sl.below sy (hb10.mono (by omega))
  have sb := Sl.below sb (hb10.mono (by omega))
  have sy2 := Sl.below sy2 (hb10.mono (by omega))
  have hbw := hbw.trans (hb10.mono (by omega))
  clear hb10 hv10
  have rcaH := hid rca
  obtain ⟨rca0, rca1, rca2, rca3, rca4, rca5, rca6, rca7⟩ := rca
  try dsimp only at rca0 rca1 rca2 rca3 rca4 rca5 rca6 rca7
  have rca := rcaH
  have rcbH := hid rcb
  obtain ⟨rcb0, rcb1, rcb2, rcb3, rcb4, rcb5, rcb6, rcb7⟩ := rcb
  try dsimp only at rcb0 rcb1 rcb2 rcb3 rcb4 rcb5 rcb6 rcb7
  have rcb := rcbH
  go_wp2_with fail
  clear rca0 rca1 rca2 rca3 rca4 rca5 rca6 rca7
  clear rcb0 rcb1 rcb2 rcb3 rcb4 rcb5 rcb6 rcb7
  refine (within_any kind 255 _ hk.1 hk.2 (by omega) (by omega)).mono ?_
  rintro e w11 ⟨rfl, rfl⟩
  rw [HXK.out]

  have rcaH := hid rca
  obtain ⟨rca0, rca1, rca2, rca3, rca4, rca5, rca6, rca7⟩ := rca
  try dsimp only at rca0 rca1 rca2 rca3 rca4 rca5 rca6 rca7
  have rca := rcaH
  have rcbH := hid rcb
  obtain ⟨rcb0, rcb1, rcb2, rcb3, rcb4, rcb5, rcb6, rcb7⟩ := rcb
  try dsimp only at rcb0 rcb1 rcb2 rcb3 rcb4 rcb5 rcb6 rcb7
  have rcb := rcbH
  go_wp2_with fail
  clear rca0 rca1 rca2 rca3 rca4 rca5 rca6 rca7
  clear rcb0 rcb1 rcb2 rcb3 rcb4 rcb5 rcb6 rcb7
  refine (put_any (1 + xk) _ Ab (pad (recB r)) 55 cb _ (by omega) spb (by omega) (by omega)).mono ?_
  rintro e w12 ⟨v12, rfl, hv12, hb12⟩
  obtain ⟨pl, hpl⟩ : ∃ p, cellL (1 + xk) (pad (recB r)) = p := ⟨_, rfl⟩
  rw [hpl] at hv12
  have hpl64 : pl.length ≤ 64 := by rw [← hpl, cellL_len]; split <;> omega
  have HTB := hid (show (takeR pl).isSome = ((1 + xk : Int) == 1) by rw [← hpl]; exact HTK.out)
  clear hpl
  obtain ⟨m, hm⟩ : ∃ m, pl.length = m := ⟨_, rfl⟩
  rw [hm] at hpl64
  obtain ⟨Ap, cp, rfl, hcp1, hcp2⟩ := own_form3 hv12 hm
  have sp := ob_sl hv12 hm
  have hzw12 : w10.heap.size ≤ w12.heap.size := hb12.size
  have rca := RCells.keep rca hb12 (by omega)
  have rcb := RCells.keep rcb hb12 (by omega)
  have sa := Sl.below sa (hb12.mono (by omega))
  have sy := Sl.below sy (hb12.mono (by omega))
  have sb := Sl.below sb (hb12.mono (by omega))
  have sy2 := Sl.below sy2 (hb12.mono (by omega))
  have spb := Sl.below spb (hb12.mono (by omega))
  have hbw := hbw.trans (hb12.mono (by omega))
  clear hb12 hv12 hm
  have rcaH := hid rca
  obtain ⟨rca0, rca1, rca2, rca3, rca4, rca5, rca6, rca7⟩ := rca
  try dsimp only at rca0 rca1 rca2 rca3 rca4 rca5 rca6 rca7
  have rca := rcaH
  have rcbH := hid rcb
  obtain ⟨rcb0, rcb1, rcb2, rcb3, rcb4, rcb5, rcb6, rcb7⟩ := rcb
  try dsimp only at rcb0 rcb1 rcb2 rcb3 rcb4 rcb5 rcb6 rcb7
  have rcb := rcbH
  go_wp2_with fail
  clear rca0 rca1 rca2 rca3 rca4 rca5 rca6 rca7
  clear rcb0 rcb1 rcb2 rcb3 rcb4 rcb5 rcb6 rcb7
  refine (takerec_any w12.heap.size Ap pl m cp w12 (sp.mono (by omega)) (Nat.le_refl _) (by omega) hcp1 hcp2).mono ?_
  rintro e w13 ⟨d3, rfl, hd3, hb13⟩
  rw [HTB.out]
  obtain ⟨A3, c3, rfl, _, _, _⟩ := rb_sl hd3
  obtain ⟨q3, hq3⟩ : ∃ q, (takeR pl).getD Rec.zero = q := ⟨_, rfl⟩
  rw [hq3]
  generalize q3.D.length = n3
  clear hq3 hd3
  obtain ⟨tb, htb⟩ : ∃ tb, ((1 + xk : Int) == 1) = tb := ⟨_, rfl⟩
  rw [htb]
  have hzw13 : w12.heap.size ≤ w13.heap.size := hb13.size
  have rca := RCells.keep rca hb13 (by omega)
  have rcb := RCells.keep rcb hb13 (by omega)
  have sa := Sl.below sa (hb13.mono (by omega))
  have sy := Sl.below sy (hb13.mono (by omega))
  have sb := Sl.below sb (hb13.mono (by omega))
  have sy2 := Sl.below sy2 (hb13.mono (by omega))
  have spb := Sl.below spb (hb13.mono (by omega))
  have sp := Sl.below sp (hb13.mono (by omega))
  have hbw := hbw.trans (hb13.mono (by omega))
  unfold Rec.val
  clear hb13
  have hbx := (Below.refl w13.heap.size w13).alloc (Nat.le_refl _) (recObj 27 q3 (.slice A3 n3 c3))
  have rca := RCells.keep rca hbx (by omega)
  have rcb := RCells.keep rcb hbx (by omega)
  have sa := Sl.below sa (hbx.mono (by omega))
  have sy := Sl.below sy (hbx.mono (by omega))
  have sb := Sl.below sb (hbx.mono (by omega))
  have sy2 := Sl.below sy2 (hbx.mono (by omega))
  have spb := Sl.below spb (hbx.mono (by omega))
  have sp := Sl.below sp (hbx.mono (by omega))
  have hbw := hbw.trans (hbx.mono (by omega))
  have rcc := RCells.new w13 q3 (.slice A3 n3 c3) 27
  have ltrcc := rcc.lt
  have hzbw14 := hbx.size
  clear hbx
  have rcaH := hid rca
  obtain ⟨rca0, rca1, rca2, rca3, rca4, rca5, rca6, rca7⟩ := rca
  try dsimp only at rca0 rca1 rca2 rca3 rca4 rca5 rca6 rca7
  have rca := rcaH
  have rcbH := hid rcb
  obtain ⟨rcb0, rcb1, rcb2, rcb3, rcb4, rcb5, rcb6, rcb7⟩ := rcb
  try dsimp only at rcb0 rcb1 rcb2 rcb3 rcb4 rcb5 rcb6 rcb7
  have rcb := rcbH
  have rccH := hid rcc
  obtain ⟨rcc0, rcc1, rcc2, rcc3, rcc4, rcc5, rcc6, rcc7⟩ := rcc
  try dsimp only at rcc0 rcc1 rcc2 rcc3 rcc4 rcc5 rcc6 rcc7
  have rcc := rccH
  go_wp2_with fail
  generalize w13.alloc (recObj 27 q3 (.slice A3 n3 c3)) = w14 at *
  clear rca0 rca1 rca2 rca3 rca4 rca5 rca6 rca7
  clear rcb0 rcb1 rcb2 rcb3 rcb4 rcb5 rcb6 rcb7
  clear rcc0 rcc1 rcc2 rcc3 rcc4 rcc5 rcc6 rcc7
  refine (wakes17 _).mono ?_
  rintro e w15 ⟨rfl, hb15⟩
  have hbt := hbw.trans (hb15.mono (by omega))
  clear hb15
  go_wp2_with fail
  go_ret
  exact ⟨rfl, hbt⟩
end Go.Proofs.Ythafodblffgmmaa
