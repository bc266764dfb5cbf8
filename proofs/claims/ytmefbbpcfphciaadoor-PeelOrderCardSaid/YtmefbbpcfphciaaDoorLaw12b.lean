/- PeelOrder: the walk. -/
import Derived.Test.YtmefbbpcfphciaaDoorWakes12
import Derived.Test.YtmefbbpcfphciaaDoorPeelUse
import Derived.Test.YtmefbbpcfphciaaDoorSameEqs
import Derived.Test.YtmefbbpcfphciaaDoorFrame
namespace Go.Proofs.YtmefbbpcfphciaaDoor
open Go.RowKit Wells
set_option maxRecDepth 20000 in
set_option maxHeartbeats 800000 in
theorem walk_PeelOrder (a0 : Int) (A1 : Option Addr) (n1 c1 : Nat) (l1 : List Int) (A2 : Option Addr) (n2 c2 : Nat) (l2 : List Byte) (a3 : Int) (w : World) (h0 : -9223372036854775808 ≤ a0 ∧ a0 ≤ 9223372036854775807) (h1 : IsInts w A1 n1 c1 l1) (h2 : IsBytes w A2 n2 c2 l2) (h3 : -9223372036854775808 ≤ a3 ∧ a3 ≤ 9223372036854775807) :
    Calls Tryd.prog 5 #[.int .i64 a0, .slice A1 n1 c1, .slice A2 n2 c2, .int .i64 a3] w fun e w' => e = .returned (.bool true) ∧ Below w.heap.size w w' := by
  obtain ⟨ie, hie, hz0ie, hz1ie, hz2ie⟩ := info_parts infoEq
  obtain ⟨s1, le1, cap1, wf1⟩ := h1
  obtain ⟨s2, le2, cap2⟩ := h2
  obtain ⟨h01, h02⟩ := h0
  obtain ⟨h31, h32⟩ := h3
  obtain ⟨N, hN, hN1, hN14⟩ : ∃ N : Nat, 1 + a0 % 12 = (N : Int) ∧ 1 ≤ N ∧ N ≤ 12 := ⟨(1 + a0 % 12).toNat, by omega, by omega, by omega⟩
  have hM0 := Int.emod_nonneg a0 (show (12 : Int) ≠ 0 by omega)
  have hM1 := Int.emod_lt_of_pos a0 (show (0 : Int) < 12 by omega)
  have HN := hid hN
  have S1 := hid (show Sl w w.heap.size 1 A1 n1 (l1.map iv) from s1)
  have S2 := hid s2
  have WF1 := hid wf1
  clear s1 s2 wf1 hN
  go_enter Tryd.func5, Tryd.ntmps5
  go_wp2_with fail
  refine (within_any a0 12 _ h01 h02 (by omega) (by omega)).mono ?_
  rintro e w1 ⟨rfl, rfl⟩
  go_wp2_with fail
  rw [HN.out]
  refine (vals_any l2 w.heap.size A2 n2 c2 N 1 w S2.out (Nat.le_refl _) (by omega) (by omega) (by omega)).mono ?_
  rintro e w2 ⟨A3, c3, vv, rfl, ov, b2⟩
  have hz2 := b2.size
  have HLV : Hid (∀ i, i < N → ((valsP l2 N 1).getD i []).length = 1) := hid (fun i hi => by rw [valsP_get _ _ _ _ hi, valAt_len])
  have HRV := hid (ov.read (valsP_len l2 N 1))
  have HB2 := hid b2
  obtain ⟨vals, hvals⟩ : ∃ vals, valsP l2 N 1 = vals := ⟨_, rfl⟩
  rw [hvals] at HRV HLV
  clear ov b2 hvals
  go_wp2_with fail
  refine (rows_any l1 N 20 1 vals vv w2.heap.size A1 A3 n1 c1 c3 w2 ((S1.out.below HB2.out).mono hz2) HRV.out (Nat.le_refl _) HLV.out hN1 (by omega) (by omega) (by omega) WF1.out (by omega)).mono ?_
  rintro e w3 ⟨A4, m, c4, ps, rows, rfl, hrl, hm20, oe, b3, hmade⟩
  have hz3 := b3.size
  have HMADE := hid hmade
  have HRL := hid hrl
  have HB3 := hid (HB2.out.trans (b3.mono hz2))
  have HOE := hid oe
  have hcap : m ≤ c4 ∧ c4 ≤ 9223372036854775807 := by have h9 := oe.own; rw [hrl] at h9; exact own_cap h9
  obtain ⟨hc4, hc4'⟩ := hcap
  clear oe b3 hmade hrl
  obtain ⟨kt, hkt, hkm⟩ : ∃ kt : Nat, a3 % ((m : Int) + 1) = (kt : Int) ∧ kt ≤ m := by
    have g0 := Int.emod_nonneg a3 (show ((m : Int) + 1) ≠ 0 by omega)
    have g1 := Int.emod_lt_of_pos a3 (show (0 : Int) < (m : Int) + 1 by omega)
    exact ⟨(a3 % ((m : Int) + 1)).toNat, by omega, by omega⟩
  have HKT := hid hkt
  clear hkt
  go_wp2_with fail
  refine (within_any a3 ((m : Int) + 1) _ h31 h32 (by omega) (by omega)).mono ?_
  rintro e w4 ⟨rfl, rfl⟩
  rw [HKT.out]
  have hre := HOE.out.read HRL.out hz3
  have HRE := hid hre
  have hone := eqC_one (reqs_one hre)
  have HONE := hid hone
  have hcut := hre.sl.cut (c := c4) hkm (Nat.le_refl m) (by omega)
  rw [eqC_drop, List.take_of_length_le (by rw [eqC_len, List.length_drop, hre.pl]; exact Nat.le_refl _)] at hcut
  obtain ⟨Ac, hAc⟩ : ∃ Ac, (if c4 = kt then A4 else A4.map (fun x => x.add (kt * 2))) = Ac := ⟨_, rfl⟩
  have hcut2 : Sl w3 w3.heap.size 2 Ac (m - kt) (eqC (ps.drop kt)) := hAc ▸ hcut
  have HCUT := hid hcut2
  have HONE2 := hid (eqC_one (ps := ps.drop kt) (fun p hp => reqs_one hre p (List.mem_of_mem_drop hp)))
  clear hre hone hcut hcut2
  go_wp2_with (first
    | ((with_reducible show wpList _ _ _ (⟨some 42, _, _, _, _, _⟩ :: _) _ _); go_must (refine wpl_append rfl (.const (.slice none 0 0)) (.tmp 41) 22 rfl w3.heap.size 27 ie (.agg #[.slice none 0 0, .slice none 0 0]) 2 48 Tryd.underlying22 hie hz0ie hz1ie hz2ie rfl (by omega) (.slice none 0 0) 0 [] rfl (World.ownsRow_nil _ _ _ _) w3.heap.size _ (m - kt) (c4 - kt) (eqC (ps.drop kt)) rfl HCUT.out HONE2.out (m - kt) (by omega) (eqC (ps.drop kt)) rfl (by omega) (by omega) (Nat.le_refl _) ?_); intro A5 c5 w5 o5 g5 _; have b5 : Below w3.heap.size w3 w5 := (Below.refl _ _).grown g5 (Nat.le_refl _) (fun k hk => by simp [Value.ownBlock] at hk); have hz5 := b5.size; have HRE5 := hid (HRE.out.below b5); have HO5 := hid o5; have HB5 := hid b5; clear o5 g5 b5)
    | ((with_reducible show wpList _ _ _ (⟨some 44, _, _, _, _, _⟩ :: _) _ _); go_must (refine wpl_append rfl (.tmp 42) (.tmp 43) 22 rfl w3.heap.size 27 ie (.agg #[.slice none 0 0, .slice none 0 0]) 2 48 Tryd.underlying22 hie hz0ie hz1ie hz2ie rfl (by omega) (.slice A5 (m - kt) c5) (m - kt) (eqC (ps.drop kt)) rfl HO5.out w3.heap.size A4 m c4 (eqC ps) rfl HRE5.out.sl HONE.out (m - kt + m) rfl _ rfl (by omega) (by omega) hz5 ?_); intro A6 c6 w6 o6 g6 _))
  clear hAc
  have hb6 := below_own HB5.out HO5.out g6 (Nat.le_refl _) hz5
  have hz6 := hb6.size
  have HRE6 := hid (HRE.out.join (Sl.own o6) rfl hkm hb6 hz6)
  have HMADE2 : Hid (MadeRows N 1 vals (rows.drop kt ++ rows)) := hid (fun q hq => by
    rcases List.mem_append.1 hq with h9 | h9
    · exact HMADE.out q (List.mem_of_mem_drop h9)
    · exact HMADE.out q h9)
  have HREr := hid ((HRE.out.below hb6).mono hz6)
  have HB6 := hid (HB3.out.trans (hb6.mono (Nat.le_trans hz2 hz3)))
  clear o6 g6 hb6
  refine (peelm_any N 1 vals w6.heap.size A4 m c4 ps rows w6 HREr.out (Nat.le_refl _) (by omega) (by omega) (by omega) HMADE.out HLV.out).mono ?_
  rintro e w7 ⟨T, Ak, Av, Ar, ck, cv, cr, mr, vs, ps7, rfl, p7⟩
  have hz7 := p7.be.size
  have P7 := hid p7
  have hmr : mr ≤ 20 := by have h9 := p7.le; rw [HRL.out] at h9; omega
  have HRE7 := hid ((HRE6.out.below p7.be).mono hz7)
  have HB7 := hid (HB6.out.trans (p7.be.mono (by omega)))
  clear p7
  go_wp2_with fail
  refine (peelm_any N 1 vals w7.heap.size A6 _ c6 _ _ w7 HRE7.out (Nat.le_refl _) (by omega) (by omega) (by omega) HMADE2.out HLV.out).mono ?_
  rintro e w8 ⟨T2, Ak2, Av2, Ar2, ck2, cv2, cr2, mr2, vs2, ps8, rfl, p8⟩
  have hTT := order_end HMADE.out HLV.out (fun q => by
    rw [List.mem_append]
    exact ⟨fun h9 => h9.elim (fun h8 => List.mem_of_mem_drop h8) id, fun h9 => .inr h9⟩) P7.out.r P7.out.f p8.r p8.f
  subst hTT
  have hz8 := p8.be.size
  have P78 := hid (P7.out.below p8.be)
  have P8 := hid p8
  have HB8 := hid (HB7.out.trans (p8.be.mono (by omega)))
  have HTE := hid (true_end HMADE.out HLV.out P7.out.r P7.out.f)
  clear p8 P7
  go_wp2_with fail
  refine (peelm_any N 1 vals w8.heap.size Ar mr cr ps7 (T.left rows) w8 P78.out.rr (Nat.le_refl _) (by omega) (by omega) (by omega) (left_made HTE.out) HLV.out).mono ?_
  rintro e w9 ⟨T3, Ak3, Av3, Ar3, ck3, cv3, cr3, mr3, vs3, ps9, rfl, p9⟩
  have hrest := rest_end HMADE.out HLV.out P78.out.r P78.out.f p9.r p9.f
  obtain ⟨hk3, hl3⟩ := hrest
  have hz9 := p9.be.size
  have Q7 := hid (P78.out.below p9.be)
  have Q8 := hid (P8.out.below p9.be)
  have Q9 := hid p9
  have HK3 := hid hk3
  have HL3 := hid hl3
  have HB9 := hid (HB8.out.trans (p9.be.mono (by omega)))
  have hmr3 : mr3 ≤ 20 := by have h9 := p9.le; rw [P78.out.rr.len] at h9; omega
  clear p9 hk3 hl3 P78 P8
  have hNN : ((N : Int) != (N : Int)) = false := by simp
  go_wp2_with fail
  go_loop [93] (fun i => ∃ k : Nat, k ≤ N ∧ i = .int .i64 (k : Int)) (fun i => N - (intOf i).toNat)
  case atStart => exact ⟨0, Nat.zero_le _, rfl⟩
  case round =>
    obtain ⟨k, hk, rfl⟩ := hrel
    by_cases hlt : k < N
    · have hlt' : (k : Int) < (N : Int) := by omega
      have hkk : T3.known.getD k false = false := by
        rw [HK3.out, List.getD_eq_getElem?_getD, List.getElem?_replicate, if_pos hlt]; rfl
      obtain ⟨bk, okk, ek, hbk, kk⟩ := Q9.out.sk.get hlt (bools_get T3.known k (by rw [HK3.out, List.length_replicate]; exact hlt))
      subst ek
      rw [hkk] at kk
      clear hkk
      go_wp2_with fail
      go_round
      case rel => exact ⟨k + 1, by omega, by go_num⟩
      case measure => simp [intOf]; omega
    · obtain rfl : N = k := by omega
      go_wp2_with fail
      refine (sameB_is true w9.heap.size Ak Ak2 T.known T.known N N ck ck2 w9 Q7.out.sk Q8.out.sk (by omega) (by omega) (decide_eq_true rfl)).mono ?_
      rintro e w10 ⟨rfl, d1, rfl⟩
      go_wp2_with fail
      refine (rows_is true w9.heap.size Av Av2 vs vs2 T.vals T.vals N N cv cv2 _ (Q7.out.rv.drewN d1) (Q8.out.rv.drewN d1) (by omega) (by omega) (decide_eq_true rfl)).mono ?_
      rintro e w11 ⟨rfl, d2, rfl⟩
      go_wp2_with fail
      refine (sameE_is true w9.heap.size Ar Ar3 ps7 ps9 (T.left rows) (T3.left (T.left rows)) mr mr3 cr cr3 _ (Q7.out.rr.below (below_drewN (Below.refl _ _) (d1 + d2))) (Q9.out.rr.below (below_drewN (Below.refl _ _) (d1 + d2))) (by omega) (by omega) (decide_eq_true HL3.out.symm)).mono ?_
      rintro e w12 ⟨rfl, d3, rfl⟩
      go_wp2_with fail
      refine (wakes12 _).mono ?_
      rintro e w13 ⟨rfl, hb13⟩
      go_wp2_with fail
      go_ret
      exact ⟨rfl, (below_drewN HB9.out (d1 + d2 + d3)).trans (hb13.mono (by simp [World.drewN]; omega))⟩
end Go.Proofs.YtmefbbpcfphciaaDoor
