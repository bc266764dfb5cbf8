/- RecordTakes. -/
import Derived.Test.YthafodblffgmmaaLaw17
import Derived.Test.YthafodblffgmmaaOwnAt
namespace Wells
open Go Go.RowKit
theorem takeR_short (l : BL) : ((takeR l).getD Rec.zero).D.length ≤ 42 := by
  cases h : takeR l with
  | none => simp [Rec.zero]
  | some r =>
    have := rec_short (takeR_some h).1
    rw [recB_len] at this
    simp only [Option.getD_some]
    omega
end Wells
namespace Go.Proofs.Ythafodblffgmmaa
open Go.RowKit Wells
set_option maxRecDepth 20000 in
set_option maxHeartbeats 16000000 in
theorem walk_RecordTakes (A0 : Option Addr) (n0 c0 : Nat) (l0 : List Byte) (A1 : Option Addr) (n1 cc1 : Nat) (l1 : List Byte) (o b i a1 b1 c1 x s : Int) (at_ v : Int) (w : World) (h0 : IsBytes w A0 n0 c0 l0) (h1 : IsBytes w A1 n1 cc1 l1) (ho : -9223372036854775808 ≤ o ∧ o ≤ 9223372036854775807) (hb : -9223372036854775808 ≤ b ∧ b ≤ 9223372036854775807) (hi : -9223372036854775808 ≤ i ∧ i ≤ 9223372036854775807) (ha1 : -9223372036854775808 ≤ a1 ∧ a1 ≤ 9223372036854775807) (hb1 : -9223372036854775808 ≤ b1 ∧ b1 ≤ 9223372036854775807) (hc1 : -9223372036854775808 ≤ c1 ∧ c1 ≤ 9223372036854775807) (hx : -9223372036854775808 ≤ x ∧ x ≤ 9223372036854775807) (hs : 0 ≤ s ∧ s ≤ 18446744073709551615) (hat : -9223372036854775808 ≤ at_ ∧ at_ ≤ 9223372036854775807) (hvv : 0 ≤ v ∧ v ≤ 255) :
    Calls Try.prog 4 #[.slice A0 n0 c0, .slice A1 n1 cc1, .int .i64 o, .int .i64 b, .int .i64 i, .int .i64 a1, .int .i64 b1, .int .i64 c1, .int .i64 x, .int .u64 s, .int .i64 at_, .int .u8 v] w fun e w' => e = .returned (.bool true) ∧ Below w.heap.size w w' := by
  obtain ⟨s0, hle0, hcap0⟩ := h0
  obtain ⟨s1, hle1, hcap1⟩ := h1
  by_cases h80 : 80 < n0
  · go_enter Try.func4, Try.ntmps4
    go_wp2_with fail
    refine (wakes17 _).mono ?_
    rintro e w9 ⟨rfl, hb9⟩
    go_wp2
    go_ret
    exact ⟨rfl, hb9⟩
  obtain ⟨m, hm⟩ : ∃ m : Nat, (m : Int) = at_ % 55 := ⟨(at_ % 55).toNat, by omega⟩
  have hm55 : m < 55 := by omega
  have hmi : (0 : Int) ≤ (m : Int) := by omega
  have hmi2 : (m : Int) < 55 := by omega
  have HMM := hid hm
  obtain ⟨cb, hcb⟩ : ∃ c : Byte, v = (c.toNat : Int) := ⟨BitVec.ofNat 8 v.toNat, by rw [BitVec.toNat_ofNat]; omega⟩
  subst hcb
  have hcbb := cb.isLt
  obtain ⟨nk, hnk⟩ : ∃ k, k = min n1 55 := ⟨_, rfl⟩
  have hnk55 : nk ≤ 55 := by omega
  have hnkn : nk ≤ n1 := by omega
  have sk : Sl w w.heap.size 1 A1 nk ((l1.take nk).map bv8) := by
    have := s1.take hnkn
    rwa [Nat.mul_one, ← List.map_take] at this
  generalize l1.take nk = lk at sk
  have HNK := hid hnk
  clear hm hnk s1
  have hbw0 := Below.refl w.heap.size w
  go_enter Try.func4, Try.ntmps4
  go_wp2_with fail
  refine (made_any o b i a1 b1 c1 x s _ ho hb hi ha1 hb1 hc1 hx hs).mono ?_
  rintro e w1 ⟨r, A, c, rfl, hmay, hv, hbw⟩
  have hz1 := hbw.size
  have hsh := rec_short hmay
  rw [recB_len] at hsh
  have hln := hid (putR_len hmay)
  have HM := hid hmay
  have htp := hid (show takeP (putR r) = some (1#8, pad (recB r)) by rw [putR_frame hmay]; exact take_frame (by decide) (rec_short hmay))
  have hpad := hid (pad_len (rec_short hmay))
  obtain ⟨n, hn⟩ : ∃ n, r.D.length = n := ⟨_, rfl⟩
  rw [hn] at hsh hv ⊢
  have sa := ob_sl hv hn
  have s0 := s0.below hbw
  have sk := sk.below hbw
  clear hn hmay hv
  unfold Rec.val
  go_wp2_with fail
  refine (refputrec_any w1.heap.size r A n c w1 sa (Nat.le_refl _)).mono ?_
  rintro e w2 ⟨y, rfl, hy, hb2⟩
  obtain ⟨Ay, cy, rfl, hcy1, hcy2⟩ := own_form3 hy hln.out
  have sy := ob_sl hy hln.out
  have hzw2 : w1.heap.size ≤ w2.heap.size := hb2.size
  have s0 := Sl.below s0 (hb2.mono (by omega))
  have sk := Sl.below sk (hb2.mono (by omega))
  have hbw := hbw.trans (hb2.mono (by omega))
  clear hb2 hy sa
  go_wp2_with fail
  refine (reftake_any w2.heap.size Ay (putR r) 64 cy w2 sy (Nat.le_refl _) (by omega) hcy1 hcy2).mono ?_
  rintro e w3 ⟨v3, rfl, hv3, hb3⟩
  rw [htp.out] at hv3 ⊢
  unfold tkV
  try dsimp only [Option.getD, Option.isSome] at hv3 ⊢
  obtain ⟨Ab, cbb, rfl, hcb1, hcb2⟩ := own_form3 hv3 hpad.out
  have hzw3 : w2.heap.size ≤ w3.heap.size := hb3.size
  have s0 := Sl.below s0 (hb3.mono (by omega))
  have sk := Sl.below sk (hb3.mono (by omega))
  have sy := Sl.below sy (hb3.mono (by omega))
  have hbw := hbw.trans (hb3.mono (by omega))
  clear hb3
  unfold OB at hv3
  rw [hpad.out] at hv3
  obtain ⟨pl, hpl⟩ : ∃ p, p = pad (recB r) := ⟨_, rfl⟩
  rw [← hpl] at hv3
  have HPL := hid (show pl.length = 55 by rw [hpl]; exact hpad.out)
  clear hpl
  go_wp2_with fail
  refine (within_any at_ 55 _ hat.1 hat.2 (by omega) (by omega)).mono ?_
  rintro e w3' ⟨rfl, hw3⟩
  rw [← HMM.out, ← hw3]
  clear hw3 w3'
  obtain ⟨yb, hyb⟩ : ∃ y, pl.getD m 0 ^^^ cb = y := ⟨_, rfl⟩
  obtain ⟨g, rfl, hgb, hgl, hcy, hfz, hset⟩ := own_put hv3 hm55 yb
  have hyc : bits .xor .u8 (((pl.getD m 0).toNat : Nat) : Int) (cb.toNat : Int) = (yb.toNat : Int) := by rw [← hyb]; exact x8' _ _
  have hybb := yb.isLt
  have hold := (pl.getD m 0).isLt
  generalize pl.getD m 0 = old at *
  clear hyb hv3
  rw [show bv8 yb = Value.int .u8 (yb.toNat : Int) from rfl] at hset
  have hbset : Below w2.heap.size w3 (w3.setCell ⟨g, m, none⟩ (.int .u8 (yb.toNat : Int))) := below_put (Below.refl _ _) g m hgb hzw3 _
  have HPL2 := hid (show (pl.set m yb).length = 55 by rw [List.length_set, HPL.out])
  generalize pl.set m yb = il at *
  have s0 := s0.below (hbset.mono (by omega))
  have sk := sk.below (hbset.mono (by omega))
  have sy := sy.below (hbset.mono (by omega))
  have hbw := hbw.trans (hbset.mono (by omega))
  have hzs : w2.heap.size ≤ (w3.setCell ⟨g, m, none⟩ (.int .u8 (yb.toNat : Int))).heap.size := Nat.le_trans hzw3 hbset.size
  clear hbset
  go_wp2_with fail
  generalize w3.setCell ⟨g, m, none⟩ (.int .u8 (yb.toNat : Int)) = w4 at *
  have hoi : OB w2.heap.size w4 (.slice (some ⟨g, 0, none⟩) 55 cbb) il := by unfold OB; rw [HPL2.out]; exact hset
  have si := ob_sl hoi HPL2.out
  clear hoi hset
  refine (refput_any 1 _ (some ⟨g, 0, none⟩) il 55 cbb _ (by omega) si (by omega) (by omega)).mono ?_
  rintro e w5 ⟨vp, rfl, hvp, hb5⟩
  obtain ⟨lp, hlp⟩ : ∃ p, cellL 1 il = p := ⟨_, rfl⟩
  rw [hlp] at hvp
  have hlp64 : lp.length ≤ 64 := by rw [← hlp, cellL_len]; split <;> omega
  clear hlp
  obtain ⟨np, hnp⟩ : ∃ m, lp.length = m := ⟨_, rfl⟩
  rw [hnp] at hlp64
  obtain ⟨Ap, cp, rfl, hcp1, hcp2⟩ := own_form3 hvp hnp
  have sp := ob_sl hvp hnp
  have hzw5 : w4.heap.size ≤ w5.heap.size := hb5.size
  have s0 := Sl.below s0 (hb5.mono (by omega))
  have sk := Sl.below sk (hb5.mono (by omega))
  have sy := Sl.below sy (hb5.mono (by omega))
  have si := Sl.below si (hb5.mono (by omega))
  have hbw := hbw.trans (hb5.mono (by omega))
  clear hb5 hvp hnp
  go_wp2_with fail
  refine (cut_any A1 n1 cc1 nk 55 _ (by omega) (by omega) (by omega) hle1 (by have := HNK.out; omega)).mono ?_
  rintro e w5' ⟨rfl, hw5⟩
  rw [← hw5]
  clear hw5 w5'
  go_wp2_with fail
  refine (refput_any 1 _ A1 lk nk _ _ (by omega) sk (by omega) (by omega)).mono ?_
  rintro e w6 ⟨vq, rfl, hvq, hb6⟩
  obtain ⟨lq, hlq⟩ : ∃ p, cellL 1 lk = p := ⟨_, rfl⟩
  rw [hlq] at hvq
  have hlq64 : lq.length ≤ 64 := by rw [← hlq, cellL_len]; split <;> omega
  clear hlq
  obtain ⟨nq, hnq⟩ : ∃ m, lq.length = m := ⟨_, rfl⟩
  rw [hnq] at hlq64
  obtain ⟨Aq, cq, rfl, hcq1, hcq2⟩ := own_form3 hvq hnq
  have sq := ob_sl hvq hnq
  have hzw6 : w5.heap.size ≤ w6.heap.size := hb6.size
  have s0 := Sl.below s0 (hb6.mono (by omega))
  have sk := Sl.below sk (hb6.mono (by omega))
  have sy := Sl.below sy (hb6.mono (by omega))
  have si := Sl.below si (hb6.mono (by omega))
  have sp := Sl.below sp (hb6.mono (by omega))
  have hbw := hbw.trans (hb6.mono (by omega))
  clear hb6 hvq hnq
  go_wp2_with fail
  refine (refput_any 2 _ (some ⟨g, 0, none⟩) il 55 cbb _ (by omega) si (by omega) (by omega)).mono ?_
  rintro e w7 ⟨vt, rfl, hvt, hb7⟩
  obtain ⟨lt, hlt⟩ : ∃ p, cellL 2 il = p := ⟨_, rfl⟩
  rw [hlt] at hvt
  have hlt64 : lt.length ≤ 64 := by rw [← hlt, cellL_len]; split <;> omega
  clear hlt
  obtain ⟨nt, hnt⟩ : ∃ m, lt.length = m := ⟨_, rfl⟩
  rw [hnt] at hlt64
  obtain ⟨At, ct, rfl, hct1, hct2⟩ := own_form3 hvt hnt
  have st := ob_sl hvt hnt
  have hzw7 : w6.heap.size ≤ w7.heap.size := hb7.size
  have s0 := Sl.below s0 (hb7.mono (by omega))
  have sk := Sl.below sk (hb7.mono (by omega))
  have sy := Sl.below sy (hb7.mono (by omega))
  have si := Sl.below si (hb7.mono (by omega))
  have sp := Sl.below sp (hb7.mono (by omega))
  have sq := Sl.below sq (hb7.mono (by omega))
  have hbw := hbw.trans (hb7.mono (by omega))
  clear hb7 hvt hnt
  go_wp2_with fail
  have hrw := Row.new w7 25 #[.slice A0 n0 c0, .slice Ay 64 cy, .slice Ap np cp, .slice Aq nq cq, .slice At nt ct]
  have hb8 : Below w7.heap.size w7 (w7.alloc (.cells #[.slice A0 n0 c0, .slice Ay 64 cy, .slice Ap np cp, .slice Aq nq cq, .slice At nt ct] 25)) := (Below.refl _ _).alloc (Nat.le_refl _) _
  have hcell : ∀ j : Nat, j < 5 → ∃ Az nz cz lz, Sl w7 w7.heap.size 1 Az nz (List.map bv8 lz) ∧ nz ≤ 80 ∧ nz ≤ cz ∧ cz ≤ 9223372036854775807 ∧ (w7.alloc (.cells #[.slice A0 n0 c0, .slice Ay 64 cy, .slice Ap np cp, .slice Aq nq cq, .slice At nt ct] 25)).cell? ⟨w7.heap.size, j, none⟩ = some (.slice Az nz cz) := by
    intro j hj2
    obtain rfl | rfl | rfl | rfl | rfl : j = 0 ∨ j = 1 ∨ j = 2 ∨ j = 3 ∨ j = 4 := by omega
    · exact ⟨A0, n0, c0, _, s0.mono (by omega), by omega, hle0, hcap0, by rw [hrw.cell]; rfl⟩
    · exact ⟨Ay, 64, cy, _, sy.mono (by omega), by omega, hcy1, hcy2, by rw [hrw.cell]; rfl⟩
    · exact ⟨Ap, np, cp, _, sp.mono (by omega), by omega, hcp1, hcp2, by rw [hrw.cell]; rfl⟩
    · exact ⟨Aq, nq, cq, _, sq.mono (by omega), by omega, hcq1, hcq2, by rw [hrw.cell]; rfl⟩
    · exact ⟨At, nt, ct, _, st.mono (by omega), by omega, hct1, hct2, by rw [hrw.cell]; rfl⟩
  have hgl := hrw.lt
  have hbw8 := hbw.trans (hb8.mono (by omega))
  clear hrw s0 sk sy si sp sq st hcp1 hcp2 hcq1 hcq2 hct1 hct2 hbw
  generalize w7.alloc (.cells #[.slice A0 n0 c0, .slice Ay 64 cy, .slice Ap np cp, .slice Aq nq cq, .slice At nt ct] 25) = w8 at *
  obtain ⟨Gy, hGy⟩ : ∃ G, G = w7.heap.size := ⟨_, rfl⟩
  have hwy : w.heap.size ≤ Gy := by omega
  rw [← hGy] at hcell hb8 hgl
  rw [← hGy]
  clear hGy
  obtain ⟨G, hG⟩ : ∃ G, G = w8.heap.size := ⟨_, rfl⟩
  rw [← hG] at hgl
  have hG2 : G ≤ w8.heap.size := by omega
  have hwG : w.heap.size ≤ G := by omega
  have HC := hid hcell
  have HB8 := hid hb8
  clear hG hcell hb8
  go_loopw [74] (fun i wr => ∃ j : Nat, j ≤ 5 ∧ i = .int .i64 j ∧ Below G w8 wr) (fun i _ => 5 - (intOf i).toNat)
  case atStart => exact ⟨0, by omega, rfl, Below.refl _ _⟩
  case round =>
    obtain ⟨j, hj2, rfl, hbr⟩ := hrel
    have hwr := hbr.size
    by_cases hlt : j < 5
    · obtain ⟨Az, nz, cz, lz, sz, hnz, hnc, hcz, hcv⟩ := HC.out j hlt
      rw [← hbr.cell (p := ⟨Gy, j, none⟩) hgl] at hcv
      have sz := (sz.below HB8.out).below (hbr.mono (show Gy ≤ G by omega))
      have hbw := hbr
      go_wp2_with fail
      refine (takerec_any wr.heap.size Az lz nz cz wr (sz.mono (by omega)) (Nat.le_refl _) (by omega) hnc hcz).mono ?_
      rintro e w9 ⟨d4, rfl, hd4, hb9⟩
      obtain ⟨T, hT⟩ : ∃ T, takeR lz = T := ⟨_, rfl⟩
      have HTT := hid hT
      rw [hT] at hd4 ⊢
      clear hT
      obtain ⟨tb, htb⟩ : ∃ tb, T.isSome = tb := ⟨_, rfl⟩
      rw [htb]
      have HTB := hid htb
      clear htb
      obtain ⟨q, hq⟩ : ∃ q, T.getD Rec.zero = q := ⟨_, rfl⟩
      rw [hq] at hd4 ⊢
      have HQ := hid hq
      clear hq
      obtain ⟨A4, c4, rfl, hc41, hc42, s4⟩ := rb_sl hd4
      obtain ⟨n4, hn4⟩ : ∃ n, q.D.length = n := ⟨_, rfl⟩
      rw [hn4] at hc41 s4 ⊢
      have hn42 : n4 ≤ 42 := by rw [← hn4, ← HQ.out, ← HTT.out]; exact takeR_short lz
      have HN4 := hid hn4
      clear hn4 hd4
      have hzw9 : wr.heap.size ≤ w9.heap.size := hb9.size
      have sz := Sl.below sz (hb9.mono (by omega))
      have hbw := hbw.trans (hb9.mono (by omega))
      clear hb9
      unfold Rec.val
      have hbx := (Below.refl w9.heap.size w9).alloc (Nat.le_refl _) (recObj 27 q (.slice A4 n4 c4))
      have sz := Sl.below sz (hbx.mono (by omega))
      have s4 := Sl.below s4 (hbx.mono (by omega))
      have hbw := hbw.trans (hbx.mono (by omega))
      have rca := RCells.new w9 q (.slice A4 n4 c4) 27
      have ltrca := rca.lt
      have hzbw21 := hbx.size
      clear hbx
      have rcaH := hid rca
      obtain ⟨rca0, rca1, rca2, rca3, rca4, rca5, rca6, rca7⟩ := rca
      try dsimp only at rca0 rca1 rca2 rca3 rca4 rca5 rca6 rca7
      have rca := rcaH
      go_wp2_with fail
      generalize w9.alloc (recObj 27 q (.slice A4 n4 c4)) = w21 at *
      clear rca0 rca1 rca2 rca3 rca4 rca5 rca6 rca7
      refine (reftakerec_any w21.heap.size Az lz nz cz w21 (sz.mono (by omega)) (Nat.le_refl _) (by omega) hnc hcz).mono ?_
      rintro e w10 ⟨d5, rfl, hd5, hb10⟩
      rw [HTT.out] at hd5 ⊢
      rw [HTB.out]
      rw [HQ.out] at hd5 ⊢
      obtain ⟨A5, c5, rfl, hc51, hc52, s5⟩ := rb_sl hd5
      rw [HN4.out] at hc51 s5 ⊢
      clear hd5
      have hzw10 : w21.heap.size ≤ w10.heap.size := hb10.size
      have rca := RCells.keep rca hb10 (by omega)
      have sz := Sl.below sz (hb10.mono (by omega))
      have s4 := Sl.below s4 (hb10.mono (by omega))
      have hbw := hbw.trans (hb10.mono (by omega))
      clear hb10
      unfold Rec.val
      have htbn : (tb != tb) = false := by simp
      have hbx := (Below.refl w10.heap.size w10).alloc (Nat.le_refl _) (recObj 27 q (.slice A5 n4 c5))
      have rca := RCells.keep rca hbx (by omega)
      have sz := Sl.below sz (hbx.mono (by omega))
      have s4 := Sl.below s4 (hbx.mono (by omega))
      have s5 := Sl.below s5 (hbx.mono (by omega))
      have hbw := hbw.trans (hbx.mono (by omega))
      have rcb := RCells.new w10 q (.slice A5 n4 c5) 27
      have ltrcb := rcb.lt
      have hzbw22 := hbx.size
      clear hbx
      have rcaH := hid rca
      obtain ⟨rca0, rca1, rca2, rca3, rca4, rca5, rca6, rca7⟩ := rca
      try dsimp only at rca0 rca1 rca2 rca3 rca4 rca5 rca6 rca7
      have rca := rcaH
      have rcbH := hid rcb
      obtain ⟨rcb0, rcb1, rcb2, rcb3, rcb4, rcb5, rcb6, rcb7⟩ := rcb
      try dsimp only at rcb0 rcb1 rcb2 rcb3 rcb4 rcb5 rcb6 rcb7
      have rcb := rcbH
      go_wp2_with fail
      generalize w10.alloc (recObj 27 q (.slice A5 n4 c5)) = w22 at *
      clear rca0 rca1 rca2 rca3 rca4 rca5 rca6 rca7
      clear rcb0 rcb1 rcb2 rcb3 rcb4 rcb5 rcb6 rcb7
      refine (samerec_any q q A4 A5 n4 n4 c4 c5 true w22.heap.size w22 (s4.mono (by omega)) (s5.mono (by omega)) (Nat.le_refl _) (by omega) (by omega) (decide_eq_true rfl)).mono ?_
      rintro e w11 ⟨rfl, hb11⟩
      have hzw11 : w22.heap.size ≤ w11.heap.size := hb11.size
      have rca := RCells.keep rca hb11 (by omega)
      have rcb := RCells.keep rcb hb11 (by omega)
      have sz := Sl.below sz (hb11.mono (by omega))
      have s4 := Sl.below s4 (hb11.mono (by omega))
      have s5 := Sl.below s5 (hb11.mono (by omega))
      have hbw := hbw.trans (hb11.mono (by omega))
      clear hb11 rca rcb
      go_wp2_with fail
      go_roundw
      case rel => exact ⟨j + 1, by omega, by go_num, hbw⟩
      case measure => simp [intOf]; omega
    · have bw9 := hbw8.trans (hbr.mono hwG)
      have hbws := bw9.size
      go_wp2_with fail
      refine (wakes17 _).mono ?_
      rintro e w19 ⟨rfl, hb19⟩
      go_wp2
      go_ret
      exact ⟨rfl, bw9.trans (hb19.mono hbws)⟩
end Go.Proofs.Ythafodblffgmmaa
