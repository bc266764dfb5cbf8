/- PeelTrue: the walk. -/
import Derived.Test.YtmefbbpcfphciaaDoorWakes12
import Derived.Test.YtmefbbpcfphciaaDoorPeelEnd
import Derived.Test.YtmefbbpcfphciaaDoorFrame
import Derived.Test.YtmefbbpcfphciaaDoorOrdG
namespace Go.Proofs.YtmefbbpcfphciaaDoor
open Go.RowKit Wells
theorem two_bytes {l : List Byte} (h : l.length = 2) : ∃ a b, l = [a, b] := by
  match l with
  | [a, b] => exact ⟨a, b, rfl⟩
  | [] => simp at h
  | [_] => simp at h
  | _ :: _ :: _ :: _ => simp at h
set_option maxRecDepth 20000 in
set_option maxHeartbeats 4000000 in
theorem walk_PeelTrue (a0 : Int) (A1 : Option Addr) (n1 c1 : Nat) (l1 : List Int) (A2 : Option Addr) (n2 c2 : Nat) (l2 : List Byte) (w : World) (h0 : -9223372036854775808 ≤ a0 ∧ a0 ≤ 9223372036854775807) (h1 : IsInts w A1 n1 c1 l1) (h2 : IsBytes w A2 n2 c2 l2) :
    Calls Tryd.prog 4 #[.int .i64 a0, .slice A1 n1 c1, .slice A2 n2 c2] w fun e w' => e = .returned (.bool true) ∧ Below w.heap.size w w' := by
  obtain ⟨s1, le1, cap1, wf1⟩ := h1
  obtain ⟨s2, le2, cap2⟩ := h2
  obtain ⟨h01, h02⟩ := h0
  obtain ⟨N, hN, hN1, hN14⟩ : ∃ N : Nat, 1 + a0 % 14 = (N : Int) ∧ 1 ≤ N ∧ N ≤ 14 := ⟨(1 + a0 % 14).toNat, by omega, by omega, by omega⟩
  have hM0 := Int.emod_nonneg a0 (show (14 : Int) ≠ 0 by omega)
  have hM1 := Int.emod_lt_of_pos a0 (show (0 : Int) < 14 by omega)
  have HN := hid hN
  have S1 := hid (show Sl w w.heap.size 1 A1 n1 (l1.map iv) from s1)
  have S2 := hid s2
  have WF1 := hid wf1
  clear s1 s2 wf1 hN
  go_enter Tryd.func4, Tryd.ntmps4
  go_wp2_with fail
  refine (within_any a0 14 _ h01 h02 (by omega) (by omega)).mono ?_
  rintro e w1 ⟨rfl, rfl⟩
  go_wp2_with fail
  rw [HN.out]
  refine (vals_any l2 w.heap.size A2 n2 c2 N 2 w S2.out (Nat.le_refl _) (by omega) (by omega) (by omega)).mono ?_
  rintro e w2 ⟨A3, c3, vv, rfl, ov, b2⟩
  have hz2 := b2.size
  have HLV : Hid (∀ i, i < N → ((valsP l2 N 2).getD i []).length = 2) := hid (fun i hi => by rw [valsP_get _ _ _ _ hi, valAt_len])
  have hrv := ov.read (valsP_len l2 N 2)
  have HRV := hid hrv
  have HOV := hid ov
  have HB2 := hid b2
  obtain ⟨vals, hvals⟩ : ∃ vals, valsP l2 N 2 = vals := ⟨_, rfl⟩
  have HVL : Hid (vals.length = N) := hid (by rw [← hvals]; exact valsP_len l2 N 2)
  rw [hvals] at HRV HLV HOV
  clear hrv ov b2 hvals
  go_wp2_with fail
  refine (rows_any l1 N 24 2 vals vv w2.heap.size A1 A3 n1 c1 c3 w2 ((S1.out.below HB2.out).mono hz2) HRV.out (Nat.le_refl _) HLV.out hN1 (by omega) (by omega) (by omega) WF1.out (by omega)).mono ?_
  rintro e w3 ⟨A4, m, c4, ps, rows, rfl, hrl, hm24, oe, b3, hmade⟩
  have hz3 := b3.size
  have HMADE := hid hmade
  have HRE := hid (oe.read hrl (Nat.le_trans (Nat.le_refl _) hz3))
  have HRV3 := hid (HRV.out.below b3)
  have HB3 := hid b3
  have HRP := hid (made_rightP hmade HLV.out (by omega))
  have HLN := hid (made_len hmade HLV.out)
  clear oe b3 hmade
  have HCI : Hid (∀ q ∈ rows, ∀ x ∈ q.cols, -9223372036854775808 ≤ x ∧ x ≤ 9223372036854775807) := hid (fun q hq x hx => by
    have := cols_bd (HMADE.out q hq).1 x hx
    omega)
  have HCL : Hid (∀ q ∈ rows, q.cols.length ≤ 1048576) := hid (fun q hq => by
    have h9 := cols_count (HMADE.out q hq).1
    omega)
  go_wp2_with fail
  refine (peel_any (N : Int) w3.heap.size A4 m c4 ps rows w3 HRE.out (Nat.le_refl _) (by omega) (by omega) HCI.out HCL.out (fun q hq => by rw [HLN.out q hq]; omega)).mono ?_
  rintro e w4 ⟨b4, hor⟩
  rcases hor with ⟨hno, _⟩ | ⟨_, T, hT, hF, hor⟩
  · exact absurd HRP.out hno
  rw [Int.toNat_natCast] at hT
  have hend := true_end HMADE.out HLV.out hT hF
  rcases hor with ⟨hno, _⟩ | ⟨_, vk, v5, vr, vs, ps2, rfl, ok, ov, orr⟩
  · exact absurd hend.sound hno
  have HE := hid hend
  have hz4 := b4.size
  obtain ⟨Ak, ck, rfl, hck, hck2, sk⟩ := own_slice ok
  obtain ⟨Av, cv, rfl, hcv, hcv2⟩ := ov.form
  obtain ⟨Ar, cr, rfl, hcr, hcr2⟩ := orr.form
  rw [hend.kl] at sk hck ⊢
  have HSK := hid sk
  rw [hend.vl] at ov hcv ⊢
  have HRVV := hid (ov.read hend.vl)
  obtain ⟨mr, hmr⟩ : ∃ mr, (T.left rows).length = mr := ⟨_, rfl⟩
  rw [hmr] at orr hcr ⊢
  have hmrm : mr ≤ 24 := by rw [← hmr]; exact Nat.le_trans (left_le _ _) (by rw [hrl]; exact hm24)
  have HRR := hid (orr.read hmr hz4)
  have HMR := hid hmr
  have HRV4 := hid (HRV3.out.below (b4.mono (Nat.le_trans (Nat.le_refl _) hz3)))
  have HB4 := hid (HB2.out.trans ((HB3.out.trans (b4.mono hz3)).mono hz2))
  clear ok ov orr hT hF hend b4 sk hmr HB3 HRV3 HRE HRV HOV HCI HCL HLN HRP
  have hNN : ((N : Int) != (N : Int)) = false := by simp
  go_wp2_with fail
  go_loopw [53] (fun i wr => ∃ k : Nat, k ≤ N ∧ i = .int .i64 (k : Int) ∧ Below w4.heap.size w4 wr) (fun i _ => N - (intOf i).toNat)
  case atStart => exact ⟨0, Nat.zero_le _, rfl, Below.refl _ _⟩
  case round =>
    obtain ⟨k, hk, rfl, hbr⟩ := hrel
    by_cases hlt : k < N
    · have hlt' : (k : Int) < (N : Int) := by omega
      have hk0 : (0 : Int) ≤ (k : Int) := by omega
      obtain ⟨bk, okk, ek, hbk, kk⟩ := (HSK.out.below hbr).get hlt (bools_get T.known k (by rw [HE.out.kl]; exact hlt))
      subst ek
      obtain ⟨bv5, ov5, A5, c5, ev5, hbv5, kv5, l51, l52, s5⟩ := (HRVV.out.below hbr).get hlt
      subst ev5
      obtain ⟨bv6, ov6, A6, c6, ev6, hbv6, kv6, l61, l62, s6⟩ := (HRV4.out.below (hbr.mono (by omega))).get hlt
      subst ev6
      have hyes := HE.out.yes k hlt
      have hno := HE.out.no k hlt
      have hlv := HLV.out k hlt
      obtain ⟨x5, hx5⟩ : ∃ x5, T.vals.getD k [] = x5 := ⟨_, rfl⟩
      obtain ⟨x6, hx6⟩ : ∃ x6, vals.getD k [] = x6 := ⟨_, rfl⟩
      rw [hx5] at kv5 l51 s5 hyes hno
      rw [hx6] at kv6 l61 s6 hyes hlv
      rw [hlv] at kv6 l61 s6
      have S5 := hid s5
      have S6 := hid s6
      have HLV6 := hid hlv
      clear hx5 hx6 hlv s5 s6
      cases hkn : T.known.getD k false with
      | true =>
        rw [hkn] at kk
        have hxx := hyes hkn
        subst hxx
        rw [HLV6.out] at kv5 l51 S5
        have C1 := hid (fun (w' : World) (s : Sl w' (w4.heap.size + w2.heap.size) 1 A5 2 (x5.map bv8)) (s' : Sl w' (w4.heap.size + w2.heap.size) 1 A6 2 (x5.map bv8)) => same_is true _ A5 A6 x5 x5 2 2 c5 c6 w' s s' (by omega) (by omega) (decide_eq_true rfl))
        clear hyes hno hkn
        go_wp2_with fail
        go_quiet ((go_at_call 17; exact Calls.quiet_of (C1.out _ ((S5.out.drewN _).mono (by omega)) ((S6.out.drewN _).mono (by omega)))))
        go_wp2_with fail
        go_roundw
        case rel => exact ⟨k + 1, by omega, by go_num, below_drewN hbr _⟩
        case measure => simp [intOf]; omega
      | false =>
        rw [hkn] at kk
        have hxx := hno hkn
        subst hxx
        have kv5' : wr.cell? ⟨bv5, ov5 + k, none⟩ = some (.slice A5 0 c5) := kv5
        clear hyes hno hkn kv5
        go_wp2_with fail
        go_quiet (fail)
        go_wp2_with fail
        go_roundw
        case rel => exact ⟨k + 1, by omega, by go_num, below_drewN hbr _⟩
        case measure => simp [intOf]; omega
    · obtain rfl : N = k := by omega
      obtain ⟨w5, hw5⟩ : ∃ w5, wr = w5 := ⟨_, rfl⟩
      rw [hw5] at hbr ⊢
      have HBR := hid hbr
      have hz5 := hbr.size
      clear hw5 hbr
      go_wp2_with fail
      go_loopw [90] (fun i wr => ∃ k : Nat, k ≤ mr ∧ i = .int .i64 (k : Int) ∧ Below w4.heap.size w4 wr) (fun i _ => mr - (intOf i).toNat)
      case atStart => exact ⟨0, Nat.zero_le _, rfl, HBR.out⟩
      case round =>
        obtain ⟨k, hk, rfl, hbr⟩ := hrel
        have hzr := hbr.size
        by_cases hlt : k < mr
        · have hre := HRR.out.below hbr
          obtain ⟨bb, o, A7, c7, A8, c8, eA, hbb, e0, e1, l1', l2', s7, l3', l4', s8⟩ := hre.get hlt
          subst eA
          have hym : (T.left rows).getD k default ∈ T.left rows := mem_getD (by rw [HMR.out]; exact hlt)
          have hy := HE.out.left _ hym
          obtain ⟨q, hq⟩ : ∃ q, (T.left rows).getD k default = q := ⟨_, rfl⟩
          rw [hq] at e0 e1 l1' s7 l3' s8 hy
          obtain ⟨hy2, hyok, hyl, hyk, hyd⟩ := hy
          rw [hyl] at e1 l3' s8
          obtain ⟨nc, hnc⟩ : ∃ nc, q.cols.length = nc := ⟨_, rfl⟩
          rw [hnc] at e0 l1' s7 hy2
          have hncN : nc ≤ N := by rw [← hnc]; exact cols_count hyok
          have hris : ∀ j, 0 < j → j < nc → q.cols.getD (j - 1) 0 < q.cols.getD j 0 := fun j h0 hj => (hyok j (by rw [hnc]; exact hj)).2.2 h0
          have hx := Row.new wr 27 #[.slice A7 nc c7, .slice A8 2 c8]
          have hbx : Below wr.heap.size wr (wr.alloc (.cells #[.slice A7 nc c7, .slice A8 2 c8] 27)) := (Below.refl _ _).alloc (Nat.le_refl _) _
          have x0 := hx.cell 0
          have x1 := hx.cell 1
          simp only [List.getElem?_cons_succ, List.getElem?_cons_zero] at x0 x1
          have hg15 := hx.lt
          have HBW := hid (hbr.trans (hbx.mono hzr))
          have S7 := hid (s7.below (hbx.mono hzr))
          have S8 := hid (s8.below (hbx.mono hzr))
          have HNC := hid hnc
          have HYOK := hid hyok
          have HYK := hid hyk
          have HYD := hid hyd
          have HRIS := hid hris
          have h2i : ¬ (nc : Int) < 2 := by omega
          clear hre hym hq hnc hyok hyk hyd hyl hris hx hbx s7 s8 hbr
          go_wp2_with fail
          generalize wr.alloc (.cells #[.slice A7 nc c7, .slice A8 2 c8] 27) = wx at *
          obtain ⟨g15, hg9⟩ : ∃ g15, wr.heap.size = g15 := ⟨_, rfl⟩
          rw [hg9] at x0 x1 hg15
          try simp only [hg9]
          clear hg9
          refine (rises_yes w4.heap.size A7 q.cols nc c7 wx S7.out (by omega) HRIS.out).mono ?_
          rintro e w6 ⟨rfl, d6, rfl⟩
          have x0' : (wx.drewN d6).cell? ⟨g15, 0, none⟩ = some (.slice A7 nc c7) := x0
          have x1' : (wx.drewN d6).cell? ⟨g15, 1, none⟩ = some (.slice A8 2 c8) := x1
          have hzx := HBW.out.size
          have hrs := Row.new (wx.drewN d6) 5 #[.int .u8 0, .int .u8 0]
          have hbs : Below (wx.drewN d6).heap.size (wx.drewN d6) ((wx.drewN d6).alloc (.cells #[.int .u8 0, .int .u8 0] 5)) := (Below.refl _ _).alloc (Nat.le_refl _) _
          have HROW0 := hid hrs
          have HBS := hid hbs
          have HBW2 := hid ((below_drewN HBW.out d6).trans (hbs.mono hzx))
          have x2' := (hbs.cell (p := ⟨g15, 0, none⟩) hg15).trans x0'
          have x3' := (hbs.cell (p := ⟨g15, 1, none⟩) hg15).trans x1'
          clear hrs hbs
          go_wp2_with fail
          obtain ⟨gs, hgs⟩ : ∃ gs, wx.heap.size = gs := ⟨_, rfl⟩
          have hgs2 : (wx.drewN d6).heap.size = gs := hgs
          rw [hgs2] at HROW0 HBS
          try simp only [hgs, hgs2]
          have HGS := hid hgs
          have hg15s : g15 < gs := by omega
          have hz4s : w4.heap.size ≤ gs := by omega
          have HB0 := hid (show Below gs wx _ from (below_drewN (Below.refl gs wx) d6).trans HBS.out)
          have HBWX := hid HBW.out
          have X1CELL := hid x1
          clear hgs hgs2 x0 x1 x0' x1' HBS
          go_loopw [114] (fun i w3 => ∃ (j : Nat) (b0 b1 : Byte), j ≤ nc ∧ i = .int .i64 (j : Int) ∧ Row w3 gs 5 [bv8 b0, bv8 b1] ∧ Below gs wx w3 ∧ Hid ([b0, b1] = sumV (vAt vals) (q.cols.take j) (zeroL 2))) (fun i _ => nc - (intOf i).toNat)
          case atStart => exact ⟨0, 0, 0, Nat.zero_le _, rfl, HROW0.out, HB0.out, hid rfl⟩
          case round =>
            obtain ⟨j, x0, x1, hj, rfl, hrow, hb3, HS⟩ := hrel
            by_cases hlj : j < nc
            · obtain ⟨b3, o3, e3, hb3x, hce⟩ := (S7.out.below (hb3.mono hz4s)).get hlj (ints_get q.cols j (by rw [HNC.out]; exact hlj))
              subst e3
              have hxm : q.cols.getD j 0 ∈ q.cols := by rw [List.getD_eq_getElem?_getD, List.getElem?_eq_getElem (by rw [HNC.out]; exact hlj)]; exact List.getElem_mem _
              obtain ⟨hx0, hx1⟩ := cols_bd HYOK.out _ hxm
              have hkn := HYK.out _ hxm
              have htk : sumV (vAt vals) (q.cols.take (j + 1)) (zeroL 2) = xorL (sumV (vAt vals) (q.cols.take j) (zeroL 2)) (vAt vals (q.cols.getD j 0)) := by
                rw [List.take_succ_eq_append_getElem (by rw [HNC.out]; exact hlj), sumV_append, List.getD_eq_getElem?_getD, List.getElem?_eq_getElem (by rw [HNC.out]; exact hlj)]
                rfl
              obtain ⟨x', hx'⟩ : ∃ x', q.cols.getD j 0 = x' := ⟨_, rfl⟩
              rw [hx'] at hce hx0 hx1 hkn htk
              obtain ⟨x, rfl⟩ := Int.eq_ofNat_of_zero_le hx0
              rw [Int.toNat_natCast] at hkn
              have hxN : x < N := by omega
              have hbw3 : Below w4.heap.size w4 wr := HBWX.out.trans (hb3.mono hz4s)
              obtain ⟨bk, okk, ek, hbk, kk⟩ := (HSK.out.below hbw3).get hxN (bools_get T.known x (by rw [HE.out.kl]; exact hxN))
              subst ek
              rw [hkn] at kk
              obtain ⟨bv, ov, Az, cz, ev, hbv, k3, l61, l62, s6⟩ := (HRV4.out.below (hbw3.mono (by omega))).get hxN
              subst ev
              obtain ⟨y0, y1, hyy⟩ := two_bytes (HLV.out x hxN)
              rw [hyy] at k3 s6
              obtain ⟨bz, oz, ez, hbz, hzc⟩ := s6.at_ (by simp)
              subst ez
              have z0 := hzc 0 (bv8 y0) rfl
              have z1 := hzc 1 (bv8 y1) rfl
              have c0 := hrow.cell 0
              have c1 := hrow.cell 1
              simp only [List.getElem?_cons_succ, List.getElem?_cons_zero] at c0 c1
              have f0 := hrow.frozen 0
              have f1 := hrow.frozen 1
              unfold bv8 at z0 z1 c0 c1
              have HROW := hid ((hrow.set 0 (bv8 (x0 ^^^ y0))).set 1 (bv8 (x1 ^^^ y1)))
              have HBE := hid (below_drew' ((hb3.setCell (p := (⟨gs, 0, none⟩ : Addr)) (Nat.le_refl gs) (bv8 (x0 ^^^ y0))).setCell (p := (⟨gs, 1, none⟩ : Addr)) (Nat.le_refl gs) (bv8 (x1 ^^^ y1))))
              have HXa := hid (x8' x0 y0)
              have HXb := hid (x8' x1 y1)
              have HSUM : Hid ([x0 ^^^ y0, x1 ^^^ y1] = sumV (vAt vals) (q.cols.take (j + 1)) (zeroL 2)) := hid (by
                rw [htk, ← HS.out]
                unfold vAt
                rw [Int.toNat_natCast, hyy]
                rfl)
              have k3' : wr.cell? ⟨bv, ov + x, none⟩ = some (.slice (some ⟨bz, oz, none⟩) 2 cz) := k3
              have z0' : wr.cell? ⟨bz, oz, none⟩ = some (.int .u8 (y0.toNat : Int)) := z0
              have hlt2 : (x : Int) < (N : Int) := by omega
              clear hyy hzc s6 htk hkn hrow hb3 hx' hxm hbw3 k3 z0
              have k3 := k3'
              have z0 := z0'
              clear k3' z0'
              go_wp2_with fail
              refine Org.begin [23, 25] (fun w' => w'.cell? ⟨gs, 0, none⟩ = some (.int .u8 (x0.toNat : Int)) ∧ w'.cell? ⟨gs, 1, none⟩ = some (.int .u8 (x1.toNat : Int)) ∧ w'.cell? ⟨bv, ov + x, none⟩ = some (.slice (some ⟨bz, oz, none⟩) 2 cz) ∧ w'.cell? ⟨bz, oz, none⟩ = some (.int .u8 (y0.toNat : Int)) ∧ w'.cell? ⟨bz, oz + 1, none⟩ = some (.int .u8 (y1.toNat : Int))) [0, 1, 2, 3, 4, 5, 6, 7, 8, 9, 10, 11, 12, 13, 14, 15, 16, 17, 18, 19, 20, 21, 22, 23, 24, 25] (by kernel_rfl) (⟨c0, c1, k3, z0, z1⟩) (fun hS => ?_)
              (refine Org.yes (v := ?_) rfl (by kernel_rfl) (by kernel_rfl) (by kernel_rfl) (by kernel_rfl) (by kernel_rfl) (fun _ _ _ h => h) (by kernel_rfl) (SM.of hS) ?_ ?_; rotate_left; (focus (intro w hSw; (try dsimp only at hSw); refine Pure.val ?_; go_simp; (try with_reducible rfl); done)); try simp only [Act.put, List.setIfInBounds_toArray, List.set_cons_zero, List.set_cons_succ])
              (refine Org.free (v := ?_) rfl (by kernel_rfl) (by kernel_rfl) (by kernel_rfl) (by kernel_rfl) (by kernel_rfl) (fun _ _ _ h => h) (by kernel_rfl) (SM.of hS) ?_ ?_; rotate_left; (focus (intro w; refine Pure.val ?_; go_simp; (try with_reducible rfl); done)); try simp only [Act.put, List.setIfInBounds_toArray, List.set_cons_zero, List.set_cons_succ])
              (refine Org.yes (v := ?_) rfl (by kernel_rfl) (by kernel_rfl) (by kernel_rfl) (by kernel_rfl) (by kernel_rfl) (fun _ _ _ h => h) (by kernel_rfl) (SM.of hS) ?_ ?_; rotate_left; (focus (intro w hSw; (try dsimp only at hSw); refine Pure.val ?_; go_simp; (try with_reducible rfl); done)); try simp only [Act.put, List.setIfInBounds_toArray, List.set_cons_zero, List.set_cons_succ])
              (refine Org.yes (v := ?_) rfl (by kernel_rfl) (by kernel_rfl) (by kernel_rfl) (by kernel_rfl) (by kernel_rfl) (fun _ _ _ h => h) (by kernel_rfl) (SM.of hS) ?_ ?_; rotate_left; (focus (intro w hSw; (try dsimp only at hSw); refine Pure.val ?_; go_simp; (try with_reducible rfl); done)); try simp only [Act.put, List.setIfInBounds_toArray, List.set_cons_zero, List.set_cons_succ])
              (refine Org.yes (v := ?_) rfl (by kernel_rfl) (by kernel_rfl) (by kernel_rfl) (by kernel_rfl) (by kernel_rfl) (fun _ _ _ h => h) (by kernel_rfl) (SM.of hS) ?_ ?_; rotate_left; (focus (intro w hSw; (try dsimp only at hSw); have q0 := hSw.1; have q1 := hSw.2.1; have q2 := hSw.2.2.1; have q3 := hSw.2.2.2.1; have q4 := hSw.2.2.2.2; refine Pure.val ?_; go_simp; (try with_reducible rfl); done)); try simp only [Act.put, List.setIfInBounds_toArray, List.set_cons_zero, List.set_cons_succ])
              (refine Org.yes (v := ?_) rfl (by kernel_rfl) (by kernel_rfl) (by kernel_rfl) (by kernel_rfl) (by kernel_rfl) (fun _ _ _ h => h) (by kernel_rfl) (SM.of hS) ?_ ?_; rotate_left; (focus (intro w hSw; (try dsimp only at hSw); refine Pure.val ?_; go_simp; (try with_reducible rfl); done)); try simp only [Act.put, List.setIfInBounds_toArray, List.set_cons_zero, List.set_cons_succ])
              (refine Org.yes (v := ?_) rfl (by kernel_rfl) (by kernel_rfl) (by kernel_rfl) (by kernel_rfl) (by kernel_rfl) (fun _ _ _ h => h) (by kernel_rfl) (SM.of hS) ?_ ?_; rotate_left; (focus (intro w hSw; (try dsimp only at hSw); refine Pure.val ?_; go_simp; (try with_reducible rfl); done)); try simp only [Act.put, List.setIfInBounds_toArray, List.set_cons_zero, List.set_cons_succ])
              (refine Org.yes (v := ?_) rfl (by kernel_rfl) (by kernel_rfl) (by kernel_rfl) (by kernel_rfl) (by kernel_rfl) (fun _ _ _ h => h) (by kernel_rfl) (SM.of hS) ?_ ?_; rotate_left; (focus (intro w hSw; (try dsimp only at hSw); refine Pure.val ?_; go_simp; (try with_reducible rfl); done)); try simp only [Act.put, List.setIfInBounds_toArray, List.set_cons_zero, List.set_cons_succ])
              (refine Org.yes (v := ?_) rfl (by kernel_rfl) (by kernel_rfl) (by kernel_rfl) (by kernel_rfl) (by kernel_rfl) (fun _ _ _ h => h) (by kernel_rfl) (SM.of hS) ?_ ?_; rotate_left; (focus (intro w hSw; (try dsimp only at hSw); have q0 := hSw.1; have q1 := hSw.2.1; have q2 := hSw.2.2.1; have q3 := hSw.2.2.2.1; have q4 := hSw.2.2.2.2; refine Pure.val ?_; go_simp; (try with_reducible rfl); done)); try simp only [Act.put, List.setIfInBounds_toArray, List.set_cons_zero, List.set_cons_succ])
              (refine Org.yes (v := ?_) rfl (by kernel_rfl) (by kernel_rfl) (by kernel_rfl) (by kernel_rfl) (by kernel_rfl) (fun _ _ _ h => h) (by kernel_rfl) (SM.of hS) ?_ ?_; rotate_left; (focus (intro w hSw; (try dsimp only at hSw); refine Pure.val ?_; go_simp; (try with_reducible rfl); done)); try simp only [Act.put, List.setIfInBounds_toArray, List.set_cons_zero, List.set_cons_succ])
              (refine Org.yes (v := ?_) rfl (by kernel_rfl) (by kernel_rfl) (by kernel_rfl) (by kernel_rfl) (by kernel_rfl) (fun _ _ _ h => h) (by kernel_rfl) (SM.of hS) ?_ ?_; rotate_left; (focus (intro w hSw; (try dsimp only at hSw); have q0 := hSw.1; have q1 := hSw.2.1; have q2 := hSw.2.2.1; have q3 := hSw.2.2.2.1; have q4 := hSw.2.2.2.2; refine Pure.val ?_; go_simp; (try with_reducible rfl); done)); try simp only [Act.put, List.setIfInBounds_toArray, List.set_cons_zero, List.set_cons_succ])
              (refine Org.yes (v := ?_) rfl (by kernel_rfl) (by kernel_rfl) (by kernel_rfl) (by kernel_rfl) (by kernel_rfl) (fun _ _ _ h => h) (by kernel_rfl) (SM.of hS) ?_ ?_; rotate_left; (focus (intro w hSw; (try dsimp only at hSw); refine Pure.val ?_; go_simp; (try with_reducible rfl); done)); try simp only [Act.put, List.setIfInBounds_toArray, List.set_cons_zero, List.set_cons_succ])
              (refine Org.free (v := ?_) rfl (by kernel_rfl) (by kernel_rfl) (by kernel_rfl) (by kernel_rfl) (by kernel_rfl) (fun _ _ _ h => h) (by kernel_rfl) (SM.of hS) ?_ ?_; rotate_left; (focus (intro w; refine Pure.val ?_; go_simp; (try with_reducible rfl); done)); try simp only [Act.put, List.setIfInBounds_toArray, List.set_cons_zero, List.set_cons_succ])
              (refine Org.free (v := ?_) rfl (by kernel_rfl) (by kernel_rfl) (by kernel_rfl) (by kernel_rfl) (by kernel_rfl) (fun _ _ _ h => h) (by kernel_rfl) (SM.of hS) ?_ ?_; rotate_left; (focus (intro w; refine Pure.val ?_; go_simp; (try with_reducible rfl); done)); try simp only [Act.put, List.setIfInBounds_toArray, List.set_cons_zero, List.set_cons_succ])
              (refine Org.yes (v := ?_) rfl (by kernel_rfl) (by kernel_rfl) (by kernel_rfl) (by kernel_rfl) (by kernel_rfl) (fun _ _ _ h => h) (by kernel_rfl) (SM.of hS) ?_ ?_; rotate_left; (focus (intro w hSw; (try dsimp only at hSw); have q0 := hSw.1; have q1 := hSw.2.1; have q2 := hSw.2.2.1; have q3 := hSw.2.2.2.1; have q4 := hSw.2.2.2.2; refine Pure.val ?_; go_simp; (try with_reducible rfl); done)); try simp only [Act.put, List.setIfInBounds_toArray, List.set_cons_zero, List.set_cons_succ])
              (refine Org.free (v := ?_) rfl (by kernel_rfl) (by kernel_rfl) (by kernel_rfl) (by kernel_rfl) (by kernel_rfl) (fun _ _ _ h => h) (by kernel_rfl) (SM.of hS) ?_ ?_; rotate_left; (focus (intro w; refine Pure.val ?_; go_simp; (try with_reducible rfl); done)); try simp only [Act.put, List.setIfInBounds_toArray, List.set_cons_zero, List.set_cons_succ])
              (refine Org.free (v := ?_) rfl (by kernel_rfl) (by kernel_rfl) (by kernel_rfl) (by kernel_rfl) (by kernel_rfl) (fun _ _ _ h => h) (by kernel_rfl) (SM.of hS) ?_ ?_; rotate_left; (focus (intro w; refine Pure.val ?_; go_simp; (try with_reducible rfl); done)); try simp only [Act.put, List.setIfInBounds_toArray, List.set_cons_zero, List.set_cons_succ])
              (refine Org.free (v := ?_) rfl (by kernel_rfl) (by kernel_rfl) (by kernel_rfl) (by kernel_rfl) (by kernel_rfl) (fun _ _ _ h => h) (by kernel_rfl) (SM.of hS) ?_ ?_; rotate_left; (focus (intro w; refine Pure.val ?_; go_simp; (try with_reducible rfl); done)); try simp only [Act.put, List.setIfInBounds_toArray, List.set_cons_zero, List.set_cons_succ])
              (refine Org.yes (v := ?_) rfl (by kernel_rfl) (by kernel_rfl) (by kernel_rfl) (by kernel_rfl) (by kernel_rfl) (fun _ _ _ h => h) (by kernel_rfl) (SM.of hS) ?_ ?_; rotate_left; (focus (intro w hSw; (try dsimp only at hSw); have q0 := hSw.1; have q1 := hSw.2.1; have q2 := hSw.2.2.1; have q3 := hSw.2.2.2.1; have q4 := hSw.2.2.2.2; refine Pure.val ?_; go_simp; (try with_reducible rfl); done)); try simp only [Act.put, List.setIfInBounds_toArray, List.set_cons_zero, List.set_cons_succ])
              (refine Org.free (v := ?_) rfl (by kernel_rfl) (by kernel_rfl) (by kernel_rfl) (by kernel_rfl) (by kernel_rfl) (fun _ _ _ h => h) (by kernel_rfl) (SM.of hS) ?_ ?_; rotate_left; (focus (intro w; refine Pure.val ?_; go_simp; (try with_reducible rfl); done)); try simp only [Act.put, List.setIfInBounds_toArray, List.set_cons_zero, List.set_cons_succ])
              (refine Org.yes (v := ?_) rfl (by kernel_rfl) (by kernel_rfl) (by kernel_rfl) (by kernel_rfl) (by kernel_rfl) (fun _ _ _ h => h) (by kernel_rfl) (SM.of hS) ?_ ?_; rotate_left; (focus (intro w hSw; (try dsimp only at hSw); have q0 := hSw.1; have q1 := hSw.2.1; have q2 := hSw.2.2.1; have q3 := hSw.2.2.2.1; have q4 := hSw.2.2.2.2; refine Pure.val ?_; go_simp; (try with_reducible rfl); done)); try simp only [Act.put, List.setIfInBounds_toArray, List.set_cons_zero, List.set_cons_succ])
              (refine Org.free (v := ?_) rfl (by kernel_rfl) (by kernel_rfl) (by kernel_rfl) (by kernel_rfl) (by kernel_rfl) (fun _ _ _ h => h) (by kernel_rfl) (SM.of hS) ?_ ?_; rotate_left; (focus (intro w; refine Pure.val ?_; go_simp; (try with_reducible rfl); done)); try simp only [Act.put, List.setIfInBounds_toArray, List.set_cons_zero, List.set_cons_succ])
              (refine Org.yes (v := ?_) rfl (by kernel_rfl) (by kernel_rfl) (by kernel_rfl) (by kernel_rfl) (by kernel_rfl) (fun _ _ _ h => h) (by kernel_rfl) (SM.of hS) ?_ ?_; rotate_left; (focus (intro w hSw; (try dsimp only at hSw); refine Pure.val ?_; go_simp; (try with_reducible rfl); done)); try simp only [Act.put, List.setIfInBounds_toArray, List.set_cons_zero, List.set_cons_succ])
              refine Org.mark (p := 23) rfl (by kernel_rfl) (by kernel_rfl) (by kernel_rfl) (by kernel_rfl) (fun K hK => ?_)
              go_simp
              refine hK.out _ _ ?_
              clear hK K hS
              try simp only [Act.put, List.setIfInBounds_toArray, List.set_cons_zero, List.set_cons_succ]
              (refine Org.free (v := ?_) rfl (by kernel_rfl) (by kernel_rfl) (by kernel_rfl) (by kernel_rfl) (by kernel_rfl) (fun _ _ _ h => h) (by kernel_rfl) (SM.past (p := 23) (by kernel_rfl) (by kernel_rfl)) ?_ ?_; rotate_left; (focus (intro w; refine Pure.val ?_; go_simp; (try with_reducible rfl); done)); try simp only [Act.put, List.setIfInBounds_toArray, List.set_cons_zero, List.set_cons_succ])
              refine Org.mark (p := 23) rfl (by kernel_rfl) (by kernel_rfl) (by kernel_rfl) (by kernel_rfl) (fun K hK => ?_)
              go_simp
              refine hK.out _ _ ?_
              clear hK K
              try simp only [Act.put, List.setIfInBounds_toArray, List.set_cons_zero, List.set_cons_succ]
              refine Org.done (by kernel_rfl) ?_
              go_wp2_with fail
              go_roundw
              case rel => exact ⟨j + 1, x0 ^^^ y0, x1 ^^^ y1, by omega, by go_num, by rw [HXa.out, HXb.out]; exact HROW.out, by rw [HXa.out, HXb.out]; exact HBE.out, HSUM.out⟩
              case measure => simp [intOf]; omega
            · obtain rfl : nc = j := by omega
              rw [show q.cols.take nc = q.cols by rw [← HNC.out, List.take_length], ← HYD.out] at HS
              have hs1 := hrow.sl (B := wr.heap.size) (m := 2) hrow.lt (Nat.le_refl _)
              have HS1 := hid (show Sl wr wr.heap.size 1 _ 2 ([x0, x1].map bv8) from hs1)
              have hzw := hb3.size
              have HS8 := hid ((S8.out.below (hb3.mono hz4s)).mono (by omega : w4.heap.size ≤ wr.heap.size))
              have q1 := (hb3.cell (p := ⟨g15, 1, none⟩) hg15s).trans X1CELL.out
              have HBB := hid (HBWX.out.trans (hb3.mono hz4s))
              clear hs1 hrow hb3
              go_wp2_with fail
              refine (same_is true wr.heap.size _ A8 [x0, x1] q.data 2 2 2 c8 wr HS1.out HS8.out (by omega) (by omega) (decide_eq_true HS.out)).mono ?_
              rintro e w8 ⟨rfl, d8, rfl⟩
              go_wp2_with fail
              go_roundw
              case rel => exact ⟨k + 1, by omega, by go_num, below_drewN HBB.out d8⟩
              case measure => simp [intOf]; omega
        · obtain rfl : mr = k := by omega
          go_wp2_with fail
          refine (wakes12 wr).mono ?_
          rintro e w7 ⟨rfl, hb7⟩
          go_wp2_with fail
          go_ret
          exact ⟨rfl, HB4.out.trans ((hbr.trans (hb7.mono hzr)).mono (by omega))⟩
end Go.Proofs.YtmefbbpcfphciaaDoor
