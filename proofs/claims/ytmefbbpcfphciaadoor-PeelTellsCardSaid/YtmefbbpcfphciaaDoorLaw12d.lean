/- PeelTells: the walk. -/
import Derived.Test.YtmefbbpcfphciaaDoorWakes12
import Derived.Test.YtmefbbpcfphciaaDoorPeelUse
import Derived.Test.YtmefbbpcfphciaaDoorSame12
import Derived.Test.YtmefbbpcfphciaaDoorRefPeel
import Derived.Test.YtmefbbpcfphciaaDoorSpareI
import Derived.Test.YtmefbbpcfphciaaDoorBent12
import Derived.Test.YtmefbbpcfphciaaDoorEqsOpen
import Derived.Test.YtmefbbpcfphciaaDoorOpApp
import Derived.Test.YtmefbbpcfphciaaDoorOpMake
import Derived.Test.YtmefbbpcfphciaaDoorOrdG
import Derived.Deep.DeepCutAuto
namespace Go.Proofs.YtmefbbpcfphciaaDoor
open Go.RowKit Wells
def LightE (rows : List Eqn) : Prop := ∀ q ∈ rows, q.cols.length ≤ 64 ∧ q.data.length ≤ 1000 ∧ ∀ x ∈ q.cols, -9223372036854775808 ≤ x ∧ x ≤ 9223372036854775807
/-- rows that can be peeled -/
def XR (w : World) (v : Value) : Prop := ∃ A n c ps rows, v = .slice A n c ∧ n ≤ 60 ∧ REqs w w.heap.size A n ps rows ∧ LightE rows ∧ n ≤ c ∧ c ≤ 9223372036854775807
theorem XR.below {w w' : World} {v : Value} (h : XR w v) (hb : Below w.heap.size w w') : XR w' v := by
  obtain ⟨A, n, c, ps, rows, e, h1, h2, h3⟩ := h
  exact ⟨A, n, c, ps, rows, e, h1, (h2.below hb).mono hb.size, h3⟩
theorem row_two {w : World} {g : Nat} {t : TypeId} {x y : Value} (h : Row w g t [x, y]) : Sl w (g + 1) 2 (some ⟨g, 0, none⟩) 1 [x, y] :=
  ⟨rfl, fun _ => ⟨_, 0, rfl, by omega, fun j u hu => by rw [Nat.zero_add, h.cell]; exact hu⟩⟩
theorem spare_oi {w : World} {g base n : Nat} {l : List Int} (h : Row w g 3 (l.map iv ++ [iv 71, iv 71])) (hl : l.length = n) (hb : base ≤ g) (hn : n ≤ 1048576) : OI base w (.slice (some ⟨g, 0, none⟩) n (n + 2)) l := by
  have h9 := Row.own (base := base) (size := 1) (n := n) (cap := n + 2) h hb (by omega) (by unfold maxLen; omega) (by simp [hl])
  unfold OI
  rw [hl]
  rwa [Nat.mul_one, List.take_append_of_le_length (by simp [hl]), List.take_of_length_le (by simp [hl])] at h9
theorem spare_ob {w : World} {g base n : Nat} {l : List Byte} (h : Row w g 5 (l.map bv8 ++ [bv8 71#8, bv8 71#8])) (hl : l.length = n) (hb : base ≤ g) (hn : n ≤ 1048576) : OB base w (.slice (some ⟨g, 0, none⟩) n (n + 2)) l := by
  have h9 := Row.own (base := base) (size := 1) (n := n) (cap := n + 2) h hb (by omega) (by unfold maxLen; omega) (by simp [hl])
  unfold OB
  rw [hl]
  rwa [Nat.mul_one, List.take_append_of_le_length (by simp [hl]), List.take_of_length_le (by simp [hl])] at h9
set_option maxRecDepth 20000 in
set_option maxHeartbeats 2000000 in
theorem walk_PeelTells (a0 : Int) (A1 : Option Addr) (n1 c1 : Nat) (ps1 : List (Value × Value)) (l1 : List Eqn) (A2 : Option Addr) (n2 c2 : Nat) (l2 : List Int) (A3 : Option Addr) (n3 c3 : Nat) (l3 : List Byte) (a4 a5 : Int) (w : World) (h0 : -9223372036854775808 ≤ a0 ∧ a0 ≤ 9223372036854775807) (h1 : IsEqs w A1 n1 c1 ps1 l1) (h2 : IsInts w A2 n2 c2 l2) (h3 : IsBytes w A3 n3 c3 l3)
    (h4 : -9223372036854775808 ≤ a4 ∧ a4 ≤ 9223372036854775807) (h5 : -9223372036854775808 ≤ a5 ∧ a5 ≤ 9223372036854775807) :
    Calls Tryd.prog 3 #[.int .i64 a0, .slice A1 n1 c1, .slice A2 n2 c2, .slice A3 n3 c3, .int .i64 a4, .int .i64 a5] w fun e w' => e = .returned (.bool true) ∧ Below w.heap.size w w' := by
  obtain ⟨i0, hi, hz0, hz1, hz2⟩ := info_parts infoB
  obtain ⟨ie, hie, hz0ie, hz1ie, hz2ie⟩ := info_parts infoEq
  obtain ⟨r1, le1, cap1, wf1⟩ := h1
  obtain ⟨s2, le2, cap2, wf2⟩ := h2
  obtain ⟨s3, le3, cap3⟩ := h3
  obtain ⟨h01, h02⟩ := h0
  obtain ⟨h41, h42⟩ := h4
  obtain ⟨h51, h52⟩ := h5
  have R1 := hid r1
  have WF1 := hid wf1
  have HL1 := hid r1.len
  have S2 := hid (show Sl w w.heap.size 1 A2 n2 (l2.map iv) from s2)
  have S3 := hid s3
  have WF2 := hid wf2
  clear r1 wf1 s2 s3 wf2
  by_cases hbig : 24 < n1
  · have hb1 : (24 : Int) < (n1 : Int) := by omega
    go_enter Tryd.func3, Tryd.ntmps3
    go_wp2_with fail
    refine (wakes12 w).mono ?_
    rintro e w7 ⟨rfl, hb7⟩
    go_wp2_with fail
    go_ret
    exact ⟨rfl, hb7⟩
  have hn1 : n1 ≤ 24 := by omega
  have hn1' : ¬ (24 : Int) < (n1 : Int) := by omega
  go_enter Tryd.func3, Tryd.ntmps3
  go_wp2_with fail
  go_loop [38] (fun i => ∃ k : Nat, k ≤ n1 ∧ i = .int .i64 (k : Int) ∧ Hid (∀ j, j < k → (l1.getD j default).cols.length ≤ 24 ∧ (l1.getD j default).data.length ≤ 24)) (fun i => n1 - (intOf i).toNat)
  case atStart => exact ⟨0, Nat.zero_le _, rfl, hid (fun j hj => absurd hj (by omega))⟩
  case round =>
    obtain ⟨k, hk, rfl, HK⟩ := hrel
    by_cases hlt : k < n1
    · obtain ⟨bb, o, A7, c7, A8, c8, eA, hbb, e0, e1, l1', l2', s7, l3', l4', s8⟩ := R1.out.get hlt
      subst eA
      obtain ⟨q, hq⟩ : ∃ q, l1.getD k default = q := ⟨_, rfl⟩
      rw [hq] at e0 e1 l1' s7 l3' s8
      have HQ := hid hq
      obtain ⟨nc, hnc⟩ : ∃ nc, q.cols.length = nc := ⟨_, rfl⟩
      obtain ⟨nd, hnd⟩ : ∃ nd, q.data.length = nd := ⟨_, rfl⟩
      rw [hnc] at e0 l1'
      rw [hnd] at e1 l3'
      have HNC := hid hnc
      have HND := hid hnd
      clear s7 s8 hq hnc hnd
      by_cases hc : 24 < nc
      · have hc' : (24 : Int) < (nc : Int) := by omega
        go_wp2_with fail
        refine (wakes12 w).mono ?_
        rintro e w7 ⟨rfl, hb7⟩
        go_wp2_with fail
        go_ret
        exact ⟨rfl, hb7⟩
      have hc' : ¬ (24 : Int) < (nc : Int) := by omega
      by_cases hd : 24 < nd
      · have hd' : (24 : Int) < (nd : Int) := by omega
        go_wp2_with fail
        refine (wakes12 w).mono ?_
        rintro e w7 ⟨rfl, hb7⟩
        go_wp2_with fail
        go_ret
        exact ⟨rfl, hb7⟩
      have hd' : ¬ (24 : Int) < (nd : Int) := by omega
      go_wp2_with fail
      go_round
      case rel => exact ⟨k + 1, by omega, by go_num, hid (fun j hj => by
        rcases Nat.lt_or_ge j k with h9 | h9
        · exact HK.out j h9
        · obtain rfl : j = k := by omega
          rw [HQ.out, HNC.out, HND.out]; omega)⟩
      case measure => simp [intOf]; omega
    · obtain rfl : n1 = k := by omega
      have HLE1 : Hid (LightE l1) := hid (fun q hq => by
        obtain ⟨i, hi, rfl⟩ := List.getElem_of_mem hq
        have h9 := HK.out i (by rw [← HL1.out]; exact hi)
        rw [List.getD_eq_getElem?_getD, List.getElem?_eq_getElem hi] at h9
        simp only [Option.getD_some] at h9
        exact ⟨by omega, by omega, WF1.out _ (List.getElem_mem hi)⟩)
      clear HK hk hlt
      obtain ⟨N, hN, hN1, hN14⟩ : ∃ N : Nat, 1 + a0 % 12 = (N : Int) ∧ 1 ≤ N ∧ N ≤ 12 := ⟨(1 + a0 % 12).toNat, by omega, by omega, by omega⟩
      obtain ⟨D, hD, hD4⟩ : ∃ D : Nat, a4 % 4 = (D : Int) ∧ D ≤ 3 := ⟨(a4 % 4).toNat, by omega, by omega⟩
      have hM0 := Int.emod_nonneg a0 (show (12 : Int) ≠ 0 by omega)
      have hM1 := Int.emod_lt_of_pos a0 (show (0 : Int) < 12 by omega)
      have HN := hid hN
      have HD := hid hD
      clear hN hD
      go_wp2_with fail
      refine (within_any a0 12 _ h01 h02 (by omega) (by omega)).mono ?_
      rintro e w1 ⟨rfl, rfl⟩
      go_wp2_with fail
      rw [HN.out]
      refine (within_any a4 4 _ h41 h42 (by omega) (by omega)).mono ?_
      rintro e w1 ⟨rfl, rfl⟩
      go_wp2_with fail
      rw [HD.out]
      refine (vals_any l3 w.heap.size A3 n3 c3 N D w S3.out (Nat.le_refl _) (by omega) (by omega) (by omega)).mono ?_
      rintro e w2 ⟨A4, c4, vv, rfl, ov, b2⟩
      have hz2 := b2.size
      have HLV : Hid (∀ i, i < N → ((valsP l3 N D).getD i []).length = D) := hid (fun i hi => by rw [valsP_get _ _ _ _ hi, valAt_len])
      have HRV := hid (ov.read (valsP_len l3 N D))
      have HB2 := hid b2
      obtain ⟨vals, hvals⟩ : ∃ vals, valsP l3 N D = vals := ⟨_, rfl⟩
      rw [hvals] at HRV HLV
      clear ov b2 hvals
      go_wp2_with fail
      refine (rows_any l2 N 20 D vals vv w2.heap.size A2 A4 n2 c2 c4 w2 ((S2.out.below HB2.out).mono hz2) HRV.out (Nat.le_refl _) HLV.out hN1 (by omega) (by omega) (by omega) WF2.out (by omega)).mono ?_
      rintro e w3 ⟨Am, m, cm, psm, rowsm, rfl, hrl, hm20, oe, b3, hmade⟩
      have hz3 := b3.size
      have HRL := hid hrl
      have HB3 := hid (HB2.out.trans (b3.mono hz2))
      have hre := oe.read hrl hz3
      have HREM := hid hre
      have hcap : m ≤ cm ∧ cm ≤ 9223372036854775807 := by have h9 := oe.own; rw [hrl] at h9; exact own_cap h9
      obtain ⟨hcm, hcm'⟩ := hcap
      have hln := made_len hmade HLV.out
      have HLEM : Hid (LightE rowsm) := hid (fun q hq => ⟨by have := cols_count (hmade q hq).1; omega, by rw [hln q hq]; omega, fun x hx => by have := cols_bd (hmade q hq).1 x hx; omega⟩)
      have HDL := hid hln
      have HONE := hid (eqC_one (reqs_one hre))
      clear oe b3 hmade hrl hre hln
      have hz30 : w.heap.size ≤ w3.heap.size := by omega
      have HRE1 := hid ((R1.out.below HB3.out).mono hz30)
      clear HRV HB2 HLV
      go_upto_region 12 with (at_builtin; go_must (refine wpl_append rfl (.const (.slice none 0 0)) (.tmp 70) 22 rfl w3.heap.size 27 ie (.agg #[.slice none 0 0, .slice none 0 0]) 2 48 Tryd.underlying22 hie hz0ie hz1ie hz2ie rfl (by omega) (.slice none 0 0) 0 [] rfl (World.ownsRow_nil _ _ _ _) w3.heap.size Am m cm (eqC psm) rfl HREM.out.sl HONE.out m (by omega) (eqC psm) rfl (by omega) (by omega) (Nat.le_refl _) ?_); intro A5 c5 w5 o5 g5 _; have b5 : Below w3.heap.size w3 w5 := (Below.refl _ _).grown g5 (Nat.le_refl _) (fun k hk => by simp [Value.ownBlock] at hk); have hz5 := b5.size; have HO5 := hid o5; have HB5 := hid b5; clear o5 g5 b5)
      have HRE5 := hid ((show REqs w5 w5.heap.size A5 m psm rowsm from ⟨Sl.own HO5.out, HREM.out.pl, HREM.out.len, fun i hi => ((HREM.out.at_ i hi).keep HB5.out).mono hz5⟩))
      go_cut [86] (fun s86 wx => ∃ b : Bool, s86 = .bool b ∧ w5 = wx ∧ Hid (b = true → 0 < m ∧ 0 < D))
      case first =>
        by_cases hm0 : m = 0
        · have hm0' : ¬ (0 : Int) < (m : Int) := by omega
          clear hm0
          go_wp2_with fail
          go_meet
          exact ⟨false, rfl, rfl, hid (fun h => by cases h)⟩
        have hm0' : (0 : Int) < (m : Int) := by omega
        have hmp : 0 < m := by omega
        by_cases hs3 : 3 < a4
        · obtain ⟨bb, o, A7, c7, A8, c8, eA, hbb, e0, e1, l1', l2', s7, l3', l4', s8⟩ := HRE5.out.get hmp
          subst eA
          rw [HDL.out _ (mem_getD (by rw [HRL.out]; exact hmp))] at e1
          have e1' : w5.cell? ⟨bb, o + 1, none⟩ = some (.slice A8 D c8) := by simpa using e1
          clear e1 s7 s8 e0
          by_cases hD0 : 0 < D
          · have hD0' : (0 : Int) < (D : Int) := by omega
            go_wp2_with fail
            go_meet
            exact ⟨true, rfl, rfl, hid (fun _ => ⟨hmp, hD0⟩)⟩
          · have hD0' : ¬ (0 : Int) < (D : Int) := by omega
            go_wp2_with fail
            go_meet
            exact ⟨false, rfl, rfl, hid (fun h => by cases h)⟩
        · go_wp2_with fail
          go_meet
          exact ⟨false, rfl, rfl, hid (fun h => by cases h)⟩
      case rest =>
      obtain ⟨b86, rfl, rfl, H86⟩ := hcut
      go_upto_if 86 with fail
      go_cut [] (fun wx => (∃ ps' rows', REqs wx wx.heap.size A5 m ps' rows' ∧ LightE rows') ∧ Below w3.heap.size w3 wx)
      case first =>
        cases b86 with
        | false =>
          go_wp2_with fail
          go_meet
          exact ⟨⟨_, _, HRE5.out, HLEM.out⟩, HB5.out⟩
        | true =>
          obtain ⟨hmp, hDp⟩ := H86.out rfl
          obtain ⟨t, ht, htm⟩ : ∃ t : Nat, a5 % (m : Int) = (t : Int) ∧ t < m := by
            have g0 := Int.emod_nonneg a5 (show (m : Int) ≠ 0 by omega)
            have g1 := Int.emod_lt_of_pos a5 (show (0 : Int) < (m : Int) by omega)
            exact ⟨(a5 % (m : Int)).toNat, by omega, by omega⟩
          have HT := hid ht
          clear ht
          have htm' : (t : Int) < (m : Int) := by omega
          have ht0 : (0 : Int) ≤ (t : Int) := by omega
          obtain ⟨gb, cb, cur, eb, hgb, hrow, hcl, hct, hnc, hcm2⟩ := ownrow2_ HO5.out hmp
          injection eb with eb eb2 eb3
          subst eb eb3
          obtain ⟨bb, o, A7, c7, A8, c8, eA, hbb, e0, e1, l1', l2', s7, l3', l4', s8⟩ := HRE5.out.get htm
          injection eA with eA
          injection eA with eA1 eA2
          subst eA1 eA2
          have hdl : (rowsm.getD t default).data.length = D := HDL.out _ (mem_getD (by rw [HRL.out]; exact htm))
          obtain ⟨q, hq⟩ : ∃ q, rowsm.getD t default = q := ⟨_, rfl⟩
          rw [hq] at e0 e1 l1' s7 l3' s8 hdl
          rw [hdl] at e1 l3' s8
          have hfz := hrow.frozen (t * 2 + 1)
          have hgbl := hrow.lt
          have e1' : w5.cell? ⟨gb, t * 2 + 1, none⟩ = some (.slice A8 D c8) := by simpa using e1
          have HQ := hid hq
          have HDQ := hid hdl
          have S8 := hid s8
          have S7 := hid s7
          clear e0 e1 s7 s8 hq hdl
          go_wp2_with fail
          refine (within_any a5 (m : Int) _ h51 h52 (by omega) (by omega)).mono ?_
          rintro e w6 ⟨rfl, rfl⟩
          rw [HT.out]
          go_wp2_with (at_builtin; go_must (refine wpl_append rfl (.const (.slice none 0 0)) (.tmp 97) 24 rfl w5.heap.size 5 i0 (.int .u8 0) 1 1 Tryd.underlying24 hi hz0 hz1 (by assumption) rfl (by omega) (.slice none 0 0) 0 [] rfl (World.ownsRow_nil _ _ _ _) w5.heap.size A8 D c8 (q.data.map bv8) rfl S8.out (u8s_cell _) D (by omega) (q.data.map bv8) rfl (by omega) (by omega) (Nat.le_refl _) ?_); intro A9 c9 w6 o6 g6 _; have b6 : Below w5.heap.size w5 w6 := (Below.refl _ _).grown g6 (Nat.le_refl _) (fun k hk => by simp [Value.ownBlock] at hk); have x1 := (b6.cell (p := ⟨gb, t * 2 + 1, none⟩) hgbl).trans e1'; have x2 := (b6.frozen (p := ⟨gb, t * 2 + 1, none⟩) hgbl).trans hfz; obtain ⟨g9, e9, hg9, hg9l, hc9, hf9, hset9⟩ := own_put o6 hDp (q.data.getD 0 0 + 1#8); subst e9; obtain ⟨x, hx⟩ : ∃ x, q.data.getD 0 0 = x := ⟨_, rfl⟩; rw [hx] at hc9; clear hx hset9; have HO6 := hid o6; have HB6 := hid b6; clear o6 b6)
          go_meet
          have hbx : ((x.toNat : Int) + 1) % 256 = ((x + 1#8).toNat : Int) := by
            rw [BitVec.toNat_add]
            simp
          have hW := bent_reqs (b := x + 1#8) HREM.out HB5.out hrow hgb hct (by rw [hcl]; omega) HB6.out (by rw [HQ.out]; exact HO6.out) hDp htm hg9
          unfold bv8 at hW
          rw [← hbx] at hW
          refine ⟨⟨_, _, hW.1, fun p hp => ?_⟩, hW.2⟩
          rcases List.mem_or_eq_of_mem_set hp with h9 | h9
          · exact HLEM.out p h9
          · have h8 := HLEM.out _ (mem_getD (rows := rowsm) (i := t) (by rw [HRL.out]; exact htm))
            subst h9
            exact ⟨h8.1, by rw [List.length_set]; exact h8.2.1, h8.2.2⟩
      case rest =>
      obtain ⟨⟨psb, rowsb, hrb, hlb⟩, hbc⟩ := hcut
      have HRB := hid hrb
      have HLB := hid hlb
      have HBC := hid hbc
      have hzc := hbc.size
      have hc5 := own_cap HO5.out
      obtain ⟨hc51, hc52⟩ := hc5
      clear hrb hlb hbc
      obtain ⟨w6, hw6⟩ : ∃ w6, wc = w6 := ⟨_, rfl⟩
      rw [hw6] at HRB HBC hzc ⊢
      clear hw6
      have HRM6 := hid (HREM.out.below HBC.out)
      have HR16 := hid (HRE1.out.below HBC.out)
      have HONE1 := hid (eqC_one (reqs_one HRE1.out))
      clear H86 HO5 HB5 HRE5
      go_wp2_with (first
        | ((with_reducible show wpList _ _ _ (⟨some 114, _, _, _, _, _⟩ :: _) _ _); go_must (refine wpl_append rfl (.const (.slice none 0 0)) (.tmp 113) 22 rfl w6.heap.size 27 ie (.agg #[.slice none 0 0, .slice none 0 0]) 2 48 Tryd.underlying22 hie hz0ie hz1ie hz2ie rfl (by omega) (.slice none 0 0) 0 [] rfl (World.ownsRow_nil _ _ _ _) w3.heap.size Am m cm (eqC psm) rfl HRM6.out.sl HONE.out m (by omega) (eqC psm) rfl (by omega) (by omega) (Nat.le_refl _) ?_); intro A8 c8 w8 o8 g8 _; have b8 : Below w6.heap.size w6 w8 := (Below.refl _ _).grown g8 (Nat.le_refl _) (fun k hk => by simp [Value.ownBlock] at hk); have hz8 := b8.size; have HO8 := hid o8; have HB8 := hid b8; have HR18 := hid (HR16.out.below (b8.mono hzc)); clear o8 g8 b8)
        | ((with_reducible show wpList _ _ _ (⟨some 116, _, _, _, _, _⟩ :: _) _ _); go_must (refine wpl_append rfl (.tmp 114) (.tmp 115) 22 rfl w6.heap.size 27 ie (.agg #[.slice none 0 0, .slice none 0 0]) 2 48 Tryd.underlying22 hie hz0ie hz1ie hz2ie rfl (by omega) (.slice A8 m c8) m (eqC psm) rfl HO8.out w3.heap.size A1 n1 c1 (eqC ps1) rfl HR18.out.sl HONE1.out (m + n1) rfl _ rfl (by omega) (by omega) hz8 ?_); intro A9 c9 w9 o9 g9 _; have hb9 := below_own HB8.out HO8.out g9 (Nat.le_refl _) hz8; have hz9 := hb9.size; have HB9 := hid hb9; have HO9 := hid o9; clear hb9 o9 g9))
      have hc9 := own_cap HO9.out
      obtain ⟨hc91, hc92⟩ := hc9
      have hbl : Below w9.heap.size w9 (w9.alloc (.cells #[.slice A1 n1 c1, .slice Am m cm, .slice A5 m c5, .slice A9 (m + n1) c9] 22)) := (Below.refl _ _).alloc (Nat.le_refl _) _
      have hrow := Row.new w9 22 #[.slice A1 n1 c1, .slice Am m cm, .slice A5 m c5, .slice A9 (m + n1) c9]
      have b3l : Below w3.heap.size w3 (w9.alloc (.cells #[.slice A1 n1 c1, .slice Am m cm, .slice A5 m c5, .slice A9 (m + n1) c9] 22)) := HBC.out.trans ((HB9.out.trans (hbl.mono (by omega))).mono (by omega))
      have b6l : Below w6.heap.size w6 (w9.alloc (.cells #[.slice A1 n1 c1, .slice Am m cm, .slice A5 m c5, .slice A9 (m + n1) c9] 22)) := HB9.out.trans (hbl.mono (by omega))
      have hsz : (w9.alloc (.cells #[.slice A1 n1 c1, .slice Am m cm, .slice A5 m c5, .slice A9 (m + n1) c9] 22)).heap.size = w9.heap.size + 1 := by simp
      have X0 : XR (w9.alloc (.cells #[.slice A1 n1 c1, .slice Am m cm, .slice A5 m c5, .slice A9 (m + n1) c9] 22)) (.slice A1 n1 c1) := ⟨A1, n1, c1, ps1, l1, rfl, by omega, (HRE1.out.below b3l).mono (by omega), HLE1.out, le1, by omega⟩
      have X1 : XR (w9.alloc (.cells #[.slice A1 n1 c1, .slice Am m cm, .slice A5 m c5, .slice A9 (m + n1) c9] 22)) (.slice Am m cm) := ⟨Am, m, cm, psm, rowsm, rfl, by omega, (HREM.out.below b3l).mono (by omega), HLEM.out, hcm, hcm'⟩
      have X2 : XR (w9.alloc (.cells #[.slice A1 n1 c1, .slice Am m cm, .slice A5 m c5, .slice A9 (m + n1) c9] 22)) (.slice A5 m c5) := ⟨A5, m, c5, psb, rowsb, rfl, by omega, (HRB.out.below b6l).mono (by omega), HLB.out, hc51, hc52⟩
      have X3 : XR (w9.alloc (.cells #[.slice A1 n1 c1, .slice Am m cm, .slice A5 m c5, .slice A9 (m + n1) c9] 22)) (.slice A9 (m + n1) c9) := ⟨A9, m + n1, c9, psm ++ ps1, rowsm ++ l1, rfl, by omega, REqs.app2 HREM.out HRE1.out (((Sl.own HO9.out).below hbl).mono (by omega)) b3l (by omega), fun q hq => by
        rcases List.mem_append.1 hq with h9 | h9
        · exact HLEM.out q h9
        · exact HLE1.out q h9, hc91, hc92⟩
      have HCELLS : Hid (∀ k, k < 4 → ∃ v, (w9.alloc (.cells #[.slice A1 n1 c1, .slice Am m cm, .slice A5 m c5, .slice A9 (m + n1) c9] 22)).cell? ⟨w9.heap.size, k, none⟩ = some v ∧ XR (w9.alloc (.cells #[.slice A1 n1 c1, .slice Am m cm, .slice A5 m c5, .slice A9 (m + n1) c9] 22)) v) := hid (fun k hk => by
        obtain rfl | rfl | rfl | rfl : k = 0 ∨ k = 1 ∨ k = 2 ∨ k = 3 := by omega
        · exact ⟨_, hrow.cell 0, X0⟩
        · exact ⟨_, hrow.cell 1, X1⟩
        · exact ⟨_, hrow.cell 2, X2⟩
        · exact ⟨_, hrow.cell 3, X3⟩)
      have HBL := hid (HB3.out.trans (b3l.mono hz30))
      have hgl := hrow.lt
      clear hbl hrow b3l b6l X0 X1 X2 X3
      generalize w9.alloc (.cells #[.slice A1 n1 c1, .slice Am m cm, .slice A5 m c5, .slice A9 (m + n1) c9] 22) = wl at *
      generalize w9.heap.size = g117 at *
      go_loopw [119] (fun i wr => ∃ k : Nat, k ≤ 4 ∧ i = .int .i64 (k : Int) ∧ Below wl.heap.size wl wr) (fun i _ => 4 - (intOf i).toNat)
      case atStart => exact ⟨0, by omega, rfl, Below.refl _ _⟩
      case round =>
        obtain ⟨k, hk, rfl, hbr⟩ := hrel
        have hzr := hbr.size
        by_cases hlt : k < 4
        · have hk4 : (k : Int) < 4 := by omega
          have hk0 : (0 : Int) ≤ (k : Int) := by omega
          obtain ⟨v, hv, hxr⟩ := HCELLS.out k hlt
          have hxr2 := hxr.below hbr
          obtain ⟨Ax, nx, cx, psx, rows, rfl, hnx, hrx, hlx, hcx1, hcx2⟩ := hxr2
          have hv2 := (hbr.cell (p := ⟨g117, k, none⟩) hgl).trans hv
          have HRXX := hid hrx
          have HLX := hid hlx
          have HBR := hid hbr
          clear hxr hrx hlx hv hbr
          obtain ⟨wo, hwo⟩ : ∃ wo, wr = wo := ⟨_, rfl⟩
          rw [hwo] at HRXX HBR hzr hv2 ⊢
          clear hwo
          go_upto_if 126 with fail
          go_cut [20] (fun s20 wx => ∃ z : Int, s20 = .int .i64 z ∧ (-9223372036854775808 ≤ z ∧ z ≤ 9223372036854775807) ∧ wo = wx)
          case first =>
            by_cases hk00 : k = 0
            · subst hk00
              go_wp2_with fail
              go_meet
              exact ⟨a0, rfl, ⟨h01, h02⟩, rfl⟩
            · have hb9 : ((k : Int) == 0) = false := by simp; omega
              go_wp2_with fail
              go_meet
              exact ⟨(N : Int), rfl, by omega, rfl⟩
          case rest =>
          obtain ⟨z, rfl, hz64, rfl⟩ := hcut
          go_wp2_with fail
          obtain ⟨hz1', hz2'⟩ := hz64
          have HLN := hid HRXX.out.len
          go_loopw [21, 130] (fun v i wr => ∃ (j : Nat) (Ai : Option Addr) (ci : Nat) (psi : List (Value × Value)), j ≤ nx ∧ i = .int .i64 (j : Int) ∧ v = .slice Ai j ci ∧ OEqs wo.heap.size wr (.slice Ai j ci) psi (rows.take j) ∧ Below wo.heap.size wo wr ∧ wo.heap.size ≤ wr.heap.size) (fun _ i _ => nx - (intOf i).toNat)
          case atStart => exact ⟨0, none, 0, [], Nat.zero_le _, rfl, rfl, OEqs.nil_ _ _, Below.refl _ _, Nat.le_refl _⟩
          case round =>
            obtain ⟨j, Ai, ci, psi, hj, rfl, rfl, hoe, hbo, hzo⟩ := hrel
            have HOE := hid hoe
            have HBO0 := hid hbo
            have HJL : Hid ((rows.take j).length = j) := hid (by rw [List.length_take, HLN.out]; omega)
            clear hoe
            by_cases hlj : j < nx
            · obtain ⟨bb, o, A7, c7, A8, c8, eA, hbb, e0, e1, l1', l2', s7, l3', l4', s8⟩ := HRXX.out.get hlj
              subst eA
              have e0 := (hbo.cell (p := ⟨bb, o + j * 2, none⟩) hbb).trans e0
              have e1 := (hbo.cell (p := ⟨bb, o + j * 2 + 1, none⟩) hbb).trans e1
              have hqm : rows.getD j default ∈ rows := mem_getD (by rw [HLN.out]; exact hlj)
              obtain ⟨hq1, hq2, _⟩ := HLX.out _ hqm
              have htk : rows.take (j + 1) = rows.take j ++ [rows.getD j default] := by
                rw [List.take_succ_eq_append_getElem (by rw [HLN.out]; exact hlj), List.getD_eq_getElem?_getD, List.getElem?_eq_getElem (by rw [HLN.out]; exact hlj)]
                rfl
              obtain ⟨q, hq⟩ : ∃ q, rows.getD j default = q := ⟨_, rfl⟩
              rw [hq] at e0 e1 l1' s7 l3' s8 hq1 hq2 htk
              have HTK := hid htk
              obtain ⟨nc, hnc⟩ : ∃ nc, q.cols.length = nc := ⟨_, rfl⟩
              obtain ⟨nd, hnd⟩ : ∃ nd, q.data.length = nd := ⟨_, rfl⟩
              rw [hnc] at e0 l1' s7 hq1
              rw [hnd] at e1 l3' s8 hq2
              have HNC := hid hnc
              have HND := hid hnd
              have hx := Row.new wr 27 #[.slice A7 nc c7, .slice A8 nd c8]
              have hbx : Below wr.heap.size wr (wr.alloc (.cells #[.slice A7 nc c7, .slice A8 nd c8] 27)) := (Below.refl _ _).alloc (Nat.le_refl _) _
              have x0 := hx.cell 0
              have x1 := hx.cell 1
              simp only [List.getElem?_cons_succ, List.getElem?_cons_zero] at x0 x1
              have hg23 := hx.lt
              have hszx : (wr.alloc (.cells #[.slice A7 nc c7, .slice A8 nd c8] 27)).heap.size = wr.heap.size + 1 := by simp
              have H7 := hid s7
              have H8 := hid s8
              have HXR := hid hx
              have hlt9 : ∀ k, (Value.slice Ai j ci).ownBlock = some k → k < wr.heap.size := fun k hk9 => (HOE.out.own.lt k hk9).2
              have HNE : Hid (∀ u : Unit, some wr.heap.size ≠ (Value.slice Ai j ci).ownBlock) := hid (fun _ e9 => by have := hlt9 _ e9.symm; omega)
              have HOE2 := hid (HOE.out.below hbx hzo)
              have HBO := hid (hbo.trans (hbx.mono hzo))
              clear hqm hq hnc hnd htk hx hbx s7 s8 hbo hlt9
              go_wp2_with fail
              generalize wr.alloc (.cells #[.slice A7 nc c7, .slice A8 nd c8] 27) = wx at *
              obtain ⟨g23, hg9⟩ : ∃ g23, wr.heap.size = g23 := ⟨_, rfl⟩
              rw [hg9] at x0 x1 hg23 hszx hzo HXR HNE
              try simp only [hg9]
              clear hg9
              have hzox : wo.heap.size ≤ wx.heap.size := by omega
              refine Org.begin [] (fun w' => Row w' g23 27 [.slice A7 nc c7, .slice A8 nd c8] ∧ Below wo.heap.size wo w' ∧ wx.heap.size ≤ w'.heap.size) [0, 1, 2, 4, 5, 3, 6, 7, 8, 9, 10] (by kernel_rfl) (⟨HXR.out, below_drew' HBO.out, Nat.le_refl _⟩) (fun hS => ?_)
              (refine Org.yes (v := ?_) rfl (by kernel_rfl) (by kernel_rfl) (by kernel_rfl) (by kernel_rfl) (by kernel_rfl) (fun _ _ _ h => h) (by kernel_rfl) (SM.of hS) ?_ ?_; rotate_left; (focus (intro w hSw; (try dsimp only at hSw); refine Pure.val ?_; go_simp; (try with_reducible rfl); done)); try simp only [Act.put, List.setIfInBounds_toArray, List.set_cons_zero, List.set_cons_succ])
              (refine Org.yes (v := ?_) rfl (by kernel_rfl) (by kernel_rfl) (by kernel_rfl) (by kernel_rfl) (by kernel_rfl) (fun _ _ _ h => h) (by kernel_rfl) (SM.of hS) ?_ ?_; rotate_left; (focus (intro w hSw; (try dsimp only at hSw); refine Pure.val ?_; go_simp; (try with_reducible rfl); done)); try simp only [Act.put, List.setIfInBounds_toArray, List.set_cons_zero, List.set_cons_succ])
              (refine Org.yes (v := ?_) rfl (by kernel_rfl) (by kernel_rfl) (by kernel_rfl) (by kernel_rfl) (by kernel_rfl) (fun _ _ _ h => h) (by kernel_rfl) (SM.of hS) ?_ ?_; rotate_left; (focus (intro w hSw; (try dsimp only at hSw); have q0 := hSw.1.cell 0; have q1 := hSw.1.cell 1; simp only [List.getElem?_cons_succ, List.getElem?_cons_zero] at q0 q1; refine Pure.val ?_; go_simp; (try with_reducible rfl); done)); try simp only [Act.put, List.setIfInBounds_toArray, List.set_cons_zero, List.set_cons_succ])
              (refine Org.yes (v := ?_) rfl (by kernel_rfl) (by kernel_rfl) (by kernel_rfl) (by kernel_rfl) (by kernel_rfl) (fun _ _ _ h => h) (by kernel_rfl) (SM.of hS) ?_ ?_; rotate_left; (focus (intro w hSw; (try dsimp only at hSw); refine Pure.val ?_; go_simp; (try with_reducible rfl); done)); try simp only [Act.put, List.setIfInBounds_toArray, List.set_cons_zero, List.set_cons_succ])
              (refine Org.yes (v := ?_) rfl (by kernel_rfl) (by kernel_rfl) (by kernel_rfl) (by kernel_rfl) (by kernel_rfl) (fun _ _ _ h => h) (by kernel_rfl) (SM.of hS) ?_ ?_; rotate_left; (focus (intro w hSw; (try dsimp only at hSw); have q0 := hSw.1.cell 0; have q1 := hSw.1.cell 1; simp only [List.getElem?_cons_succ, List.getElem?_cons_zero] at q0 q1; refine Pure.val ?_; go_simp; (try with_reducible rfl); done)); try simp only [Act.put, List.setIfInBounds_toArray, List.set_cons_zero, List.set_cons_succ])
              refine Org.go rfl (by kernel_rfl) (by kernel_rfl) (fun K hK => ?_)
              go_simp
              refine (spareI_any wo.heap.size A7 q.cols nc c7 71 _ (H7.out.below hS.2.1) (Nat.le_trans hzox hS.2.2) (by omega)).mono ?_
              rintro e w7 ⟨g7, rfl, hg7, r7, b7⟩
              have HR7 := hid r7
              have hz7 := b7.size
              have HOE3 := hid ((HOE2.out.below (below_drew' (Below.refl _ _)) hzox).below b7 (Nat.le_trans hzox hS.2.2))
              have hg7o := Nat.le_trans (Nat.le_trans hzox hS.2.2) hg7
              have hS3 := And.intro (hS.1.below b7 hS.1.lt) (And.intro (hS.2.1.trans (b7.mono (Nat.le_trans hzox hS.2.2))) (Nat.le_trans hS.2.2 hz7))
              have hw7 := hS3.2.2
              clear r7 b7
              go_wp2_with fail
              refine hK.out _ _ hS3 (fun hS2 => ?_)
              clear hK K hS
              have hS := hS2
              clear hS2
              try simp only [Act.put, List.setIfInBounds_toArray, List.set_cons_zero, List.set_cons_succ]
              refine Org.go rfl (by kernel_rfl) (by kernel_rfl) (fun K hK => ?_)
              go_simp
              refine (spare_any wo.heap.size A8 q.data nd c8 71#8 _ (H8.out.below hS.2.1) (Nat.le_trans hzox hS.2.2) (by omega)).mono ?_
              rintro e w8 ⟨g8, rfl, hg8, r8, b8⟩
              have HR8 := hid r8
              have hz8 := b8.size
              have HOE4 := hid (HOE3.out.below b8 (by omega))
              have HR7b := hid (HR7.out.below b8 HR7.out.lt)
              have hg8o : wo.heap.size ≤ g8 := by omega
              have hS3 := And.intro (hS.1.below b8 hS.1.lt) (And.intro (hS.2.1.trans (b8.mono (Nat.le_trans hzox hS.2.2))) (Nat.le_trans hS.2.2 hz8))
              clear r8 b8
              go_wp2_with fail
              refine hK.out _ _ hS3 (fun hS2 => ?_)
              clear hK K hS
              have hS := hS2
              clear hS2
              try simp only [Act.put, List.setIfInBounds_toArray, List.set_cons_zero, List.set_cons_succ]
              (refine Org.yes (v := ?_) rfl (by kernel_rfl) (by kernel_rfl) (by kernel_rfl) (by kernel_rfl) (by kernel_rfl) (fun _ _ _ h => h) (by kernel_rfl) (SM.of hS) ?_ ?_; rotate_left; (focus (intro w hSw; (try dsimp only at hSw); refine Pure.val ?_; go_simp; (try with_reducible rfl); done)); try simp only [Act.put, List.setIfInBounds_toArray, List.set_cons_zero, List.set_cons_succ])
              refine Org.go rfl (by kernel_rfl) (by kernel_rfl) (fun K hK => ?_)
              (refine op_build2 22 27 (.tmp 141) (by rfl) (.slice (some ⟨g7, 0, none⟩) nc (nc + 2)) (.slice (some ⟨g8, 0, none⟩) nd (nd + 2)) (by rfl) ie (.slice none 0 0) (.slice none 0 0) Tryd.underlying22 hie hz0ie hz1ie ?_)
              intro w9 g9 hg9 r9 b9 s9
              have hz9 : w8.heap.size ≤ w9.heap.size := by omega
              have HR9 := hid r9
              have b9' : Below w8.heap.size w8 w9 := hg9 ▸ b9
              have HOE5 := hid (HOE4.out.below b9' (by omega))
              have HR7c := hid (HR7b.out.below b9' HR7b.out.lt)
              have HR8c := hid (HR8.out.below b9' HR8.out.lt)
              have hS3 := And.intro (hS.1.below b9' hS.1.lt) (And.intro (hS.2.1.trans (b9'.mono (Nat.le_trans hzox hS.2.2))) (Nat.le_trans hS.2.2 hz9))
              clear r9 b9 b9' s9 hg9
              refine hK.out _ _ hS3 (fun hS2 => ?_)
              clear hK K hS
              have hS := hS2
              clear hS2
              try simp only [Act.put, List.setIfInBounds_toArray, List.set_cons_zero, List.set_cons_succ]
              refine Org.go rfl (by kernel_rfl) (by kernel_rfl) (fun K hK => ?_)
              have howq := HOE5.out.own
              rw [HJL.out] at howq
              (refine op_append (.tmp 134) (.tmp 142) 22 (by rfl) wo.heap.size 27 ie (.agg #[.slice none 0 0, .slice none 0 0]) 2 48 Tryd.underlying22 hie hz0ie hz1ie hz2ie rfl (by omega) (.slice Ai j ci) j (eqC psi) (by rfl) howq (g9 + 1) (some ⟨g9, 0, none⟩) 1 1 [.slice (some ⟨g7, 0, none⟩) nc (nc + 2), .slice (some ⟨g8, 0, none⟩) nd (nd + 2)] (by rfl) (row_two HR9.out) (by simp [Value.oneCell']) (j + 1) (by omega) _ rfl (by omega) (by omega) (Nat.le_trans hzox hS.2.2) ?_)
              intro A9 c9 w10 o10 g10 _
              have hoe6 : OEqs wo.heap.size w10 (.slice A9 (j + 1) c9) (psi ++ [(.slice (some ⟨g7, 0, none⟩) nc (nc + 2), .slice (some ⟨g8, 0, none⟩) nd (nd + 2))]) (rows.take (j + 1)) := by
                rw [HTK.out]
                refine HOE5.out.app (ps2 := [(.slice (some ⟨g7, 0, none⟩) nc (nc + 2), .slice (some ⟨g8, 0, none⟩) nd (nd + 2))]) (rows2 := [q]) rfl (fun i hi => ?_) ?_ g10 (Nat.le_trans hzox hS.2.2)
                · obtain rfl : i = 0 := by simpa using hi
                  exact ⟨.inr (spare_oi HR7c.out HNC.out hg7o (by omega)), .inr (spare_ob HR8c.out HND.out hg8o (by omega))⟩
                · rw [HJL.out]; exact o10
              have hb10 := below_own hS.2.1 howq g10 (Nat.le_refl _) (Nat.le_trans hzox hS.2.2)
              have HOE6 := hid hoe6
              have HB10 := hid hb10
              have hS3 := And.intro (hS.1.grown g10 (HNE.out ())) (And.intro hb10 (Nat.le_trans hS.2.2 g10.size))
              clear hoe6 hb10 o10 g10 howq
              refine hK.out _ _ hS3 (fun hS2 => ?_)
              clear hK K hS
              have hS := hS2
              clear hS2
              try simp only [Act.put, List.setIfInBounds_toArray, List.set_cons_zero, List.set_cons_succ]
              (refine Org.yes (v := ?_) rfl (by kernel_rfl) (by kernel_rfl) (by kernel_rfl) (by kernel_rfl) (by kernel_rfl) (fun _ _ _ h => h) (by kernel_rfl) (SM.of hS) ?_ ?_; rotate_left; (focus (intro w hSw; (try dsimp only at hSw); refine Pure.val ?_; go_simp; (try with_reducible rfl); done)); try simp only [Act.put, List.setIfInBounds_toArray, List.set_cons_zero, List.set_cons_succ])
              refine Org.done (by kernel_rfl) ?_
              go_wp2_with fail
              go_roundw
              case rel => exact ⟨j + 1, A9, c9, _, by omega, by go_num, rfl, HOE6.out, HB10.out, by have h9 := HB10.out.size; omega⟩
              case measure => simp [intOf]; omega
            · obtain rfl : nx = j := by omega
              rw [show rows.take nx = rows by rw [← HLN.out, List.take_length]] at HOE
              have hin := HOE.out.read HLN.out hzo
              have HIN := hid hin
              have HXW := hid ((HRXX.out.below hbo).mono hzo)
              have HBOW := hid hbo
              have HC1 : Hid (∀ q ∈ rows, ∀ x ∈ q.cols, -9223372036854775808 ≤ x ∧ x ≤ 9223372036854775807) := hid (fun q hq => (HLX.out q hq).2.2)
              have HC2 : Hid (∀ q ∈ rows, q.cols.length ≤ 1048576) := hid (fun q hq => by have := (HLX.out q hq).1; omega)
              have HC3 : Hid (∀ q ∈ rows, q.data.length ≤ 1048576) := hid (fun q hq => by have := (HLX.out q hq).2.1; omega)
              obtain ⟨wi, hwi⟩ : ∃ wi, wr = wi := ⟨_, rfl⟩
              rw [hwi] at HIN HXW HBOW hzo ⊢
              clear hwi hin hbo HOE
              go_wp2_with fail
              refine (peel_any z wi.heap.size Ai nx ci psi rows wi HIN.out (Nat.le_refl _) (by omega) ⟨hz1', hz2'⟩ HC1.out HC2.out HC3.out).mono ?_
              rintro e wp ⟨hbp, hor⟩
              have hzp := hbp.size
              have HBP := hid hbp
              have HXP := hid ((HXW.out.below hbp).mono hzp)
              have HINP := hid ((HIN.out.below hbp).mono hzp)
              clear hbp
              rcases hor with ⟨hno, rfl⟩ | ⟨hyes, T, hT, hF, hor⟩
              · have HNO := hid hno
                clear hno
                go_wp2_with fail
                refine (refpeel_any z wp.heap.size Ax nx cx psx rows wp HXP.out (Nat.le_refl _) (by omega) ⟨hz1', hz2'⟩ HC1.out HC2.out HC3.out).mono ?_
                rintro e wf ⟨hbf, hor2⟩
                have hzf := hbf.size
                have HBF := hid (HBR.out.trans ((HBOW.out.trans ((HBP.out.trans (hbf.mono hzp)).mono hzo)).mono hzr))
                have HXF := hid ((HXP.out.below hbf).mono hzf)
                have HINF := hid ((HINP.out.below hbf).mono hzf)
                have HBFF := hid hbf
                clear hbf
                rcases hor2 with ⟨_, rfl⟩ | ⟨hyes2, _⟩
                · skip
                  go_wp2_with fail
                  refine (same12_is [] [] [] [] [] [] [] wf.heap.size none none none none none none 0 0 0 0 0 0 0 0 0 wf Sl.nil_ Sl.nil_ ⟨Sl.nil_, rfl, fun i hi => absurd hi (by omega)⟩ ⟨Sl.nil_, rfl, fun i hi => absurd hi (by omega)⟩ REqs.nil_ REqs.nil_ (by omega) (by omega) (by omega)).mono ?_
                  rintro e wq ⟨rfl, d1, rfl⟩
                  go_wp2_with fail
                  refine (sameE_is true wf.heap.size Ai Ax psi psx rows rows nx nx ci cx _ (HINF.out.below (below_drewN (Below.refl _ _) d1)) (HXF.out.below (below_drewN (Below.refl _ _) d1)) (by omega) (by omega) (decide_eq_true rfl)).mono ?_
                  rintro e wq2 ⟨rfl, d2, rfl⟩
                  go_wp2_with fail
                  go_roundw
                  case rel => exact ⟨k + 1, by omega, by go_num, below_drewN HBF.out (d1 + d2)⟩
                  case measure => simp [intOf]; omega
                · exact absurd hyes2 HNO.out
              rcases hor with ⟨hns, rfl⟩ | ⟨hs, vk, v5, vr, vs, ps2, rfl, ok, ov, orr⟩
              · have HYES := hid hyes
                have HT := hid hT
                have HF := hid hF
                have HNS := hid hns
                clear hyes hT hF hns
                go_wp2_with fail
                refine (refpeel_any z wp.heap.size Ax nx cx psx rows wp HXP.out (Nat.le_refl _) (by omega) ⟨hz1', hz2'⟩ HC1.out HC2.out HC3.out).mono ?_
                rintro e wf ⟨hbf, hor2⟩
                have hzf := hbf.size
                have HBF := hid (HBR.out.trans ((HBOW.out.trans ((HBP.out.trans (hbf.mono hzp)).mono hzo)).mono hzr))
                have HXF := hid ((HXP.out.below hbf).mono hzf)
                have HINF := hid ((HINP.out.below hbf).mono hzf)
                have HBFF := hid hbf
                clear hbf
                rcases hor2 with ⟨hno2, _⟩ | ⟨_, T2, hT2, hF2, hor2⟩
                · exact absurd HYES.out hno2
                rcases hor2 with ⟨_, rfl⟩ | ⟨hs2, _⟩
                · clear hT2 hF2
                  go_wp2_with fail
                  refine (same12_is [] [] [] [] [] [] [] wf.heap.size none none none none none none 0 0 0 0 0 0 0 0 0 wf Sl.nil_ Sl.nil_ ⟨Sl.nil_, rfl, fun i hi => absurd hi (by omega)⟩ ⟨Sl.nil_, rfl, fun i hi => absurd hi (by omega)⟩ REqs.nil_ REqs.nil_ (by omega) (by omega) (by omega)).mono ?_
                  rintro e wq ⟨rfl, d1, rfl⟩
                  go_wp2_with fail
                  refine (sameE_is true wf.heap.size Ai Ax psi psx rows rows nx nx ci cx _ (HINF.out.below (below_drewN (Below.refl _ _) d1)) (HXF.out.below (below_drewN (Below.refl _ _) d1)) (by omega) (by omega) (decide_eq_true rfl)).mono ?_
                  rintro e wq2 ⟨rfl, d2, rfl⟩
                  go_wp2_with fail
                  go_roundw
                  case rel => exact ⟨k + 1, by omega, by go_num, below_drewN HBF.out (d1 + d2)⟩
                  case measure => simp [intOf]; omega
                · have h9 := both_sound (right_of HYES.out) HT.out hT2 HF.out hF2 hs2
                  exact absurd (h9 ▸ hs2) HNS.out
              · have HYES := hid hyes
                have HT := hid hT
                have HF := hid hF
                have HS := hid hs
                obtain ⟨Ak, ck, rfl, hck, hck2, sk⟩ := own_slice ok
                obtain ⟨Av, cv, rfl, hcv, hcv2⟩ := ov.form
                obtain ⟨Ar, cr, rfl, hcr, hcr2⟩ := orr.form
                have SK := hid sk
                have RV := hid (ov.read rfl)
                have RR := hid (orr.read rfl hzp)
                clear hyes hT hF hs ok ov orr sk
                go_wp2_with fail
                refine (refpeel_any z wp.heap.size Ax nx cx psx rows wp HXP.out (Nat.le_refl _) (by omega) ⟨hz1', hz2'⟩ HC1.out HC2.out HC3.out).mono ?_
                rintro e wf ⟨hbf, hor2⟩
                have hzf := hbf.size
                have HBF := hid (HBR.out.trans ((HBOW.out.trans ((HBP.out.trans (hbf.mono hzp)).mono hzo)).mono hzr))
                have HXF := hid ((HXP.out.below hbf).mono hzf)
                have HINF := hid ((HINP.out.below hbf).mono hzf)
                have HBFF := hid hbf
                clear hbf
                rcases hor2 with ⟨hno2, _⟩ | ⟨_, T2, hT2, hF2, hor2⟩
                · exact absurd HYES.out hno2
                have h9 := both_sound (right_of HYES.out) hT2 HT.out hF2 HF.out HS.out
                subst h9
                rcases hor2 with ⟨hns2, _⟩ | ⟨_, vk2, v52, vr2, vs2, ps22, rfl, ok2, ov2, orr2⟩
                · exact absurd HS.out hns2
                obtain ⟨Ak2, ck2, rfl, hckb, hckb2, sk2⟩ := own_slice ok2
                obtain ⟨Av2, cv2, rfl, hcvb, hcvb2⟩ := ov2.form
                obtain ⟨Ar2, cr2, rfl, hcrb, hcrb2⟩ := orr2.form
                have SK2 := hid sk2
                have RV2 := hid (ov2.read rfl)
                have RR2 := hid (orr2.read rfl hzf)
                have SKF := hid ((SK.out.below HBFF.out).mono hzf)
                have RVF := hid ((RV.out.below HBFF.out).mono hzf)
                have RRF := hid ((RR.out.below HBFF.out).mono hzf)
                clear hT2 hF2 ok2 ov2 orr2 sk2
                obtain ⟨lk, hlk⟩ : ∃ lk, T2.known.length = lk := ⟨_, rfl⟩
                obtain ⟨lv, hlv⟩ : ∃ lv, T2.vals.length = lv := ⟨_, rfl⟩
                obtain ⟨lr, hlr⟩ : ∃ lr, (T2.left rows).length = lr := ⟨_, rfl⟩
                rw [hlk] at SKF SK2 hck
                rw [hlv] at RVF RV2 hcv
                rw [hlr] at RRF RR2 hcr
                rw [hlk, hlv, hlr]
                clear hlk hlv hlr
                go_wp2_with fail
                refine (same12_is T2.known T2.vals (T2.left rows) vs vs2 ps2 ps22 wf.heap.size Ak Ak2 Av Av2 Ar Ar2 lk lv lr ck ck2 cv cv2 cr cr2 wf SKF.out SK2.out RVF.out RV2.out RRF.out RR2.out (by omega) (by omega) (by omega)).mono ?_
                rintro e wq ⟨rfl, d1, rfl⟩
                go_wp2_with fail
                refine (sameE_is true wf.heap.size Ai Ax psi psx rows rows nx nx ci cx _ (HINF.out.below (below_drewN (Below.refl _ _) d1)) (HXF.out.below (below_drewN (Below.refl _ _) d1)) (by omega) (by omega) (decide_eq_true rfl)).mono ?_
                rintro e wq2 ⟨rfl, d2, rfl⟩
                go_wp2_with fail
                go_roundw
                case rel => exact ⟨k + 1, by omega, by go_num, below_drewN HBF.out (d1 + d2)⟩
                case measure => simp [intOf]; omega
        · obtain rfl : k = 4 := by omega
          go_wp2_with fail
          refine (wakes12 wr).mono ?_
          rintro e w12 ⟨rfl, hb12⟩
          go_wp2_with fail
          go_ret
          exact ⟨rfl, HBL.out.trans ((hbr.trans (hb12.mono hzr)).mono (by omega))⟩
end Go.Proofs.YtmefbbpcfphciaaDoor
