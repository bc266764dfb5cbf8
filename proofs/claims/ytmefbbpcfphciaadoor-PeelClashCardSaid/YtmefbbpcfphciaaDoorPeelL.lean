/- left: what a row says of those that are not known. -/
import Derived.Test.YtmefbbpcfphciaaDoorPeelS
import Derived.Deep.DeepCutAuto
namespace Wells
open Go Go.RowKit
theorem opn_take_yes {S : PSt} {cols : List Int} {k : Nat} (hk : k < cols.length) (h : S.kn (cols.getD k 0) = false) : S.opn (cols.take (k + 1)) = S.opn (cols.take k) ++ [cols.getD k 0] := by
  unfold PSt.opn
  rw [List.take_succ_eq_append_getElem hk, List.filter_append]
  rw [List.getD_eq_getElem?_getD, List.getElem?_eq_getElem hk] at h ⊢
  simp only [Option.getD_some] at h ⊢
  simp [h]
theorem opn_take_no {S : PSt} {cols : List Int} {k : Nat} (hk : k < cols.length) (h : S.kn (cols.getD k 0) = true) : S.opn (cols.take (k + 1)) = S.opn (cols.take k) := by
  unfold PSt.opn
  rw [List.take_succ_eq_append_getElem hk, List.filter_append]
  rw [List.getD_eq_getElem?_getD, List.getElem?_eq_getElem hk] at h
  simp only [Option.getD_some] at h
  simp [h]
def PSt.sumTo (S : PSt) (q : Eqn) (k : Nat) : List Byte := (q.cols.take k).foldl S.stepD q.data
theorem sumTo_zero (S : PSt) (q : Eqn) : S.sumTo q 0 = q.data := rfl
theorem sumTo_all (S : PSt) (q : Eqn) : S.sumTo q q.cols.length = S.rest q := by unfold PSt.sumTo PSt.rest; rw [List.take_length]
theorem sumTo_step (S : PSt) (q : Eqn) {k : Nat} (hk : k < q.cols.length) : S.sumTo q (k + 1) = S.stepD (S.sumTo q k) (q.cols.getD k 0) := by
  unfold PSt.sumTo
  rw [List.take_succ_eq_append_getElem hk, List.foldl_append, List.getD_eq_getElem?_getD, List.getElem?_eq_getElem hk]
  rfl
end Wells
namespace Go.Proofs.YtmefbbpcfphciaaDoor
open Go.RowKit Wells
/-- what left answers -/
def LeftR (w : World) (S : PSt) (q : Eqn) (e : Ending) (w' : World) : Prop :=
  ∃ A1 c1 A2 c2, e = .returned (.agg #[.slice A1 (S.opn q.cols).length c1, .slice A2 q.data.length c2]) ∧ OI w.heap.size w' (.slice A1 (S.opn q.cols).length c1) (S.opn q.cols) ∧ OB w.heap.size w' (.slice A2 q.data.length c2) (S.rest q) ∧ Below w.heap.size w w'
set_option maxRecDepth 20000 in
set_option maxHeartbeats 3000000 in
theorem left_any (q : Eqn) (S : PSt) (base N gp gk gv : Nat) (vs : List Value) (vl : Value) (B : Nat) (A1 A2 : Option Addr) (c1 c2 nc nd : Nat) (w : World) (hp : Row w gp 53 [vl, .slice (some ⟨gk, 0, none⟩) N N, .slice (some ⟨gv, 0, none⟩) N N])
    (hkv : KV base N w gk gv vs S) (h1 : Sl w B 1 A1 nc (q.cols.map iv)) (h2 : Sl w B 1 A2 nd (q.data.map bv8)) (hnc : q.cols.length = nc) (hnd : q.data.length = nd) (hB : B ≤ w.heap.size) (hc : ∀ c ∈ q.cols, 0 ≤ c ∧ c < (N : Int)) (hN : N ≤ 64)
    (hD : ∀ c : Int, 0 ≤ c → S.kn c = true → (S.val c).length = nd) (hnd2 : nd ≤ 1048576) (hnc2 : nc ≤ 1048576) :
    Calls Tryd.prog 23 #[.pointer (some ⟨gp, 0, none⟩), .agg #[.slice A1 nc c1, .slice A2 nd c2]] w (LeftR w S q) := by
  obtain ⟨i0, hi, hz0, hz1, hz2⟩ := info_parts infoInt
  have HNC := hid hnc
  have H1w := hid h1
  have HND := hid hnd
  have HD := hid hD
  have HC := hid hc
  have HP := hid hp
  have HKV := hid hkv
  -- the box of the parameter, the cell of the answer
  have hx3 := Row.new w 27 #[.slice A1 nc c1, .slice A2 nd c2]
  have hb3 : Below w.heap.size w (w.alloc (.cells #[.slice A1 nc c1, .slice A2 nd c2] 27)) := (Below.refl _ _).alloc (Nat.le_refl _) _
  have hx4 := Row.new (w.alloc (.cells #[.slice A1 nc c1, .slice A2 nd c2] 27)) 27 #[.slice none 0 0, .slice none 0 0]
  have hb4 := hb3.alloc hb3.size (.cells #[.slice none 0 0, .slice none 0 0] 27)
  have hx34 := hx3.alloc (.cells #[.slice none 0 0, .slice none 0 0] 27)
  have hgs : (w.alloc (.cells #[.slice A1 nc c1, .slice A2 nd c2] 27)).heap.size = w.heap.size + 1 := by simp
  rw [hgs] at hx4
  have hsz4 : ((w.alloc (.cells #[.slice A1 nc c1, .slice A2 nd c2] 27)).alloc (.cells #[.slice none 0 0, .slice none 0 0] 27)).heap.size = w.heap.size + 2 := by simp
  have hs1 := h1.below (hb4.mono hB)
  have hs2 := h2.below (hb4.mono hB)
  have u0 := hx34.cell 0
  have u1 := hx34.cell 1
  simp only [List.getElem?_cons_succ, List.getElem?_cons_zero] at u0 u1
  have H1 := hid hs1
  have H2 := hid hs2
  have HX4 := hid hx4
  have HX34 := hid hx34
  have HB4 := hid hb4
  clear hnc hnd hD hc hp hkv hx3 hb3 hx4 hb4 hx34 hgs hs1 hs2 h1 h2
  go_enter Tryd.func23, Tryd.ntmps23
  go_wp2_with fail
  have HU0 := hid u0
  clear u0 u1
  generalize (w.alloc (.cells #[.slice A1 nc c1, .slice A2 nd c2] 27)).alloc (.cells #[.slice none 0 0, .slice none 0 0] 27) = wb at *
  refine (clone_any B A2 q.data nd c2 wb H2.out (by omega) (by omega)).mono ?_
  rintro e w5 ⟨v5, rfl, o5, b5⟩
  obtain ⟨A5, m5, rfl, hm5, hm5', _⟩ := own_slice o5
  have hz5 := b5.size
  have o5' : OB w.heap.size w5 (.slice A5 q.data.length m5) q.data := own_base o5 (by omega)
  rw [HND.out] at hm5
  have hq := (Row.new w5 27 #[.slice none 0 0, .slice A5 q.data.length m5])
  have hbq : Below w5.heap.size w5 (w5.alloc (.cells #[.slice none 0 0, .slice A5 q.data.length m5] 27)) := (Below.refl _ _).alloc (Nat.le_refl _) _
  have hbb := b5.trans (hbq.mono hz5)
  have HLS : Hid (LS w (w5.alloc (.cells #[.slice none 0 0, .slice A5 q.data.length m5] 27)) (w.heap.size + 1) w5.heap.size (.slice none 0 0) (.slice A5 q.data.length m5) [] q.data) :=
    hid ⟨HX4.out.below hbb HX4.out.lt, hq, World.ownsRow_nil _ _ _ _, o5'.below hbq, HB4.out.trans (hbb.mono HB4.out.size), by omega, by omega, by omega⟩
  have H1b := hid (H1.out.below (hbb.mono (by omega)))
  have v0 := (HX34.out.below hbb HX34.out.lt).cell 0
  simp only [List.getElem?_cons_zero] at v0
  have hND := HND.out
  rw [hND] at HLS v0 H1b
  clear hq hbq hbb o5' o5 b5 HX4 HX34 H1 H2 HU0 HB4
  try simp only [hND]
  go_wp2_with fail
  try simp only [hND]
  obtain ⟨g5, hg5⟩ : ∃ g5, w5.heap.size = g5 := ⟨_, rfl⟩
  rw [hg5] at HLS
  have HG5 := hid hg5
  try simp only [hg5]
  clear hND hg5
  generalize w5.alloc (.cells #[.slice none 0 0, .slice A5 nd m5] 27) = wl at *
  have hgl : g5 < wl.heap.size := HLS.out.r5.lt
  go_loopw [17] (fun i wr => ∃ (k : Nat) (Ac : Option Addr) (kc mc : Nat), k ≤ nc ∧ kc ≤ k ∧ i = .int .i64 (k : Int) ∧ Hid ((S.opn (q.cols.take k)).length = kc) ∧ LS w wr (w.heap.size + 1) g5 (.slice Ac kc mc) (.slice A5 nd m5) (S.opn (q.cols.take k)) (S.sumTo q k)) (fun i _ => nc - (intOf i).toNat)
  case atStart => exact ⟨0, none, 0, 0, Nat.zero_le _, Nat.le_refl _, rfl, rfl, HLS.out⟩
  case round =>
    obtain ⟨k, Ac, kc, mc, hk, hkc, rfl, HKC, hst⟩ := hrel
    have HST := hid hst
    have hbe := hst.be
    have hzr := hbe.size
    have hg5r := hst.r5.lt
    have f50 := hst.r5.frozen 0
    have c50 := hst.r5.cell 0
    have c51 := hst.r5.cell 1
    simp only [List.getElem?_cons_succ, List.getElem?_cons_zero] at c50 c51
    have hpr := HP.out.below hbe HP.out.lt
    have p1 := hpr.cell 1
    have p2 := hpr.cell 2
    simp only [List.getElem?_cons_succ, List.getElem?_cons_zero] at p1 p2
    by_cases hlt : k < nc
    · obtain ⟨b3, o3, e3, hb3, hce⟩ := (H1w.out.below (hbe.mono hB)).get hlt (ints_get q.cols k (by rw [HNC.out]; exact hlt))
      subst e3
      have hxm : q.cols.getD k 0 ∈ q.cols := by rw [List.getD_eq_getElem?_getD, List.getElem?_eq_getElem (by rw [HNC.out]; exact hlt)]; exact List.getElem_mem _
      obtain ⟨hx0, hx1⟩ := HC.out _ hxm
      have hyes := opn_take_yes (S := S) (cols := q.cols) (k := k) (by rw [HNC.out]; exact hlt)
      have hno := opn_take_no (S := S) (cols := q.cols) (k := k) (by rw [HNC.out]; exact hlt)
      have hsum := sumTo_step S q (k := k) (by rw [HNC.out]; exact hlt)
      obtain ⟨x, hx⟩ : ∃ x, q.cols.getD k 0 = x := ⟨_, rfl⟩
      rw [hx] at hce hx0 hx1 hyes hno hsum
      obtain ⟨x', rfl⟩ := Int.eq_ofNat_of_zero_le hx0
      have HYES := hid hyes
      have HNO := hid hno
      have HSUM := hid hsum
      have hkvr := HKV.out.below hbe
      have ck := hkvr.cellk hx0 hx1
      rw [Int.toNat_natCast] at ck
      have hx1' : x' < N := by omega
      have HKVR := hid hkvr
      clear hyes hno hsum hx hxm hkvr hpr
      cases hkn : S.kn (x' : Int) with
      | false =>
        rw [hkn] at ck
        have hkk := HYES.out hkn
        have hss : S.sumTo q (k + 1) = S.sumTo q k := by rw [HSUM.out]; unfold PSt.stepD; rw [if_neg (by simp [hkn])]
        have HKK := hid hkk
        have HSS := hid hss
        have hbx : Below wr.heap.size wr (wr.alloc (.cells #[.int .i64 (x' : Int)] 3)) := (Below.refl _ _).alloc (Nat.le_refl _) _
        have hst2 := hst.below hbx
        have ho := hst2.oc
        unfold OI at ho
        rw [HKC.out] at ho
        have HO := hid ho
        have HST2 := hid hst2
        clear hkk hss hbx hst2 ho hst HKVR hkn p2 c51
        go_wp2_with (at_builtin; go_must (refine wpl_append rfl (.tmp 30) (.tmp 32) 23 rfl w.heap.size 3 i0 (.int .i64 0) 1 8 Tryd.underlying23 hi hz0 hz1 hz2 rfl (by omega) (.slice Ac kc mc) kc _ rfl HO.out _ _ 1 1 [.int .i64 (x' : Int)] rfl (Sl.fresh _ _ _ _ 1 rfl) (by simp [Value.oneCell']) (kc + 1) rfl _ rfl (by omega) (by omega) (by simp; omega) ?_); intro A6 c6 w6 o6 g6 _; have h7 := HST2.out.app (c := (x' : Int)) (A := A6) (m := c6) (by rw [HKC.out]; exact o6) g6; rw [HKC.out] at h7; obtain ⟨hl7, k7, f7⟩ := h7; have HL7 := hid hl7; clear hl7 o6 g6)
        go_roundw
        case rel => exact ⟨k + 1, A6, kc + 1, c6, by omega, by omega, by go_num, hid (by rw [HKK.out, List.length_append, HKC.out]; rfl), by rw [HKK.out, HSS.out]; exact HL7.out⟩
        case measure => simp [intOf]; omega
      | true =>
        rw [hkn] at ck
        have HKN := hid hkn
        obtain ⟨Av, mv, cv, hmv, hmv2, hov⟩ := HKV.out.cellv hx0 hx1
        rw [Int.toNat_natCast] at cv
        have cv' := (hbe.cell (p := ⟨gv, x', none⟩) HKV.out.v.lt).trans cv
        have hvl := HD.out _ hx0 hkn
        have HVL := hid hvl
        rw [hvl] at cv' hmv
        have hsv := own_slice hov
        have HSV : Hid (Sl w w.heap.size 1 Av nd ((S.val (x' : Int)).map bv8)) := hid (by
          obtain ⟨Aq, cq, e, _, _, h9⟩ := hsv
          injection e with e1 e2 e3
          subst e1
          rw [HVL.out] at h9
          exact h9)
        have HSL : Hid ((S.sumTo q k).length = nd) := hid (by
          unfold PSt.sumTo
          exact foldl_len HD.out _ _ (fun c hc => (HC.out c (List.mem_of_mem_take hc)).1) HND.out)
        have hkk := HNO.out hkn
        have hss : S.sumTo q (k + 1) = xorL (S.sumTo q k) (S.val (x' : Int)) := by rw [HSUM.out]; unfold PSt.stepD; rw [if_pos hkn]
        have HKK := hid hkk
        have HSS := hid hss
        obtain ⟨ocl, hocl⟩ : ∃ ocl, S.opn (q.cols.take k) = ocl := ⟨_, rfl⟩
        rw [hocl] at hst HKC HKK
        have HST := hid hst
        clear hkk hss hocl hvl hsv hov cv hst HKVR hkn HYES HNO HSUM
        obtain ⟨wo, rfl⟩ : ∃ wo : World, wo = wr := ⟨_, rfl⟩
        go_wp2_with fail
        have HST0 : Hid (LS w wo (w.heap.size + 1) g5 (.slice Ac kc mc) (.slice A5 nd m5) ocl (xorTo (S.sumTo q k) (S.val (x' : Int)) 0)) := hid (by rw [xorTo_zero]; exact HST.out)
        go_loopw [43] (fun i w3 => ∃ j : Nat, j ≤ nd ∧ i = .int .i64 (j : Int) ∧ LS w w3 (w.heap.size + 1) g5 (.slice Ac kc mc) (.slice A5 nd m5) ocl (xorTo (S.sumTo q k) (S.val (x' : Int)) j)) (fun i _ => nd - (intOf i).toNat)
        case atStart => exact ⟨0, Nat.zero_le _, rfl, HST0.out⟩
        case round =>
          obtain ⟨j, hj, rfl, hst3⟩ := hrel
          have hbe3 := hst3.be
          by_cases hlj : j < nd
          · obtain ⟨b4, o4, e4, hb4, hce4⟩ := (HSV.out.below hbe3).get hlj (u8s_get _ j (by rw [HVL.out]; exact hlj))
            subst e4
            have hlx : (xorTo (S.sumTo q k) (S.val (x' : Int)) j).length = nd := by rw [xorTo_len (by rw [HSL.out, HVL.out]), HSL.out]
            have hod := hst3.od
            unfold OB at hod
            rw [hlx] at hod
            obtain ⟨g, e5, hge, hgl3, hcg, hfg, hset⟩ := own_put (i := j) hod hlj ((xorTo (S.sumTo q k) (S.val (x' : Int)) j).getD j 0 ^^^ (S.val (x' : Int)).getD j 0)
            subst e5
            have hput := hst3.put (j := j) (b := (xorTo (S.sumTo q k) (S.val (x' : Int)) j).getD j 0 ^^^ (S.val (x' : Int)).getD j 0) hlx.symm hset hge
            rw [xorTo_get (by rw [HSL.out, HVL.out]) (by rw [HSL.out]; exact hlj)] at hcg hput
            rw [xorTo_set' (by rw [HSL.out, HVL.out]) (by rw [HSL.out]; exact hlj)] at hput
            have q1 := hst3.r5.cell 1
            simp only [List.getElem?_cons_succ, List.getElem?_cons_zero] at q1
            obtain ⟨bx, hbx⟩ : ∃ bx, (S.sumTo q k).getD j 0 = bx := ⟨_, rfl⟩
            obtain ⟨bz, hbz⟩ : ∃ bz, (S.val (x' : Int)).getD j 0 = bz := ⟨_, rfl⟩
            rw [hbx] at hcg hput
            rw [hbz] at hce4 hput
            unfold bv8 at hce4 hput
            rw [← x8' bx bz] at hput
            have HPUT := hid hput
            clear hput hset hod hlx hbx hbz hst3
            go_wp2_with fail
            go_roundw
            case rel => exact ⟨j + 1, by omega, by go_num, HPUT.out⟩
            case measure => simp [intOf]; omega
          · obtain rfl : j = nd := by omega
            rw [show j = (S.val (x' : Int)).length from HVL.out.symm, xorTo_all (by rw [HSL.out, HVL.out]), ← HSS.out, HVL.out] at hst3
            have HST3 := hid hst3
            clear hst3
            go_wp2_with fail
            go_roundw
            case rel => exact ⟨k + 1, Ac, kc, mc, by omega, by omega, by go_num, hid (by rw [HKK.out]; exact HKC.out), by rw [HKK.out]; exact HST3.out⟩
            case measure => simp [intOf]; omega
    · obtain rfl : k = nc := by omega
      rw [show q.cols.take k = q.cols by rw [← HNC.out, List.take_length]] at hst HKC
      rw [show S.sumTo q k = S.rest q by rw [← HNC.out, sumTo_all]] at hst
      have HST := hid hst
      clear hst p1 p2 hpr
      have r4 := HST.out.r4
      have y0 := r4.frozen 0
      have y1 := r4.frozen 1
      have z0 := r4.cell 0
      have z1 := r4.cell 1
      have R2 := (r4.set 0 (.slice Ac kc mc)).set 1 (.slice A5 nd m5)
      have q0 := R2.cell 0
      have q1 := R2.cell 1
      simp only [List.getElem?_cons_succ, List.getElem?_cons_zero, List.set_cons_zero, List.set_cons_succ] at z0 z1 q0 q1
      have HR2 := hid R2
      have HR4 := hid r4
      clear r4 R2
      go_wp2_with fail
      refine bodyPost_ret (v := .agg #[.slice Ac kc mc, .slice A5 nd m5]) (by simp [results, Tryd.results23, go_sem, q0, q1]; try rfl) rfl ⟨Ac, mc, A5, m5, ?_, ?_, ?_, ?_⟩
      · rw [HKC.out, HND.out]
      · have h9 := HST.out.oc
        rw [HKC.out]
        exact World.ownsRow.farC (World.ownsRow.farC h9 HR4.out (by decide) 0 _) (HR4.out.set 0 _) (by decide) 1 _
      · have h9 := HST.out.od
        rw [HND.out]
        exact World.ownsRow.farC (World.ownsRow.farC h9 HR4.out (by decide) 0 _) (HR4.out.set 0 _) (by decide) 1 _
      · exact (hbe.setCell (p := (⟨w.heap.size + 1, 0, none⟩ : Addr)) (by show w.heap.size ≤ w.heap.size + 1; omega) _).setCell (p := (⟨w.heap.size + 1, 1, none⟩ : Addr)) (by show w.heap.size ≤ w.heap.size + 1; omega) _
end Go.Proofs.YtmefbbpcfphciaaDoor
