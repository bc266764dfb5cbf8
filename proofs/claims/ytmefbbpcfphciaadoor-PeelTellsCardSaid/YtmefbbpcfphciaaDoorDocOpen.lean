/- The document's open, rest, Lead and MayRow. -/
import Derived.Test.YtmefbbpcfphciaaDoorDocSum
import Derived.Test.YtmefbbpcfphciaaDoorPeelL
import Derived.Test.YtmefbbpcfphciaaDoorPeelA
namespace Go.Proofs.YtmefbbpcfphciaaDoor
open Go.RowKit Wells
def LeadR (w : World) (l : List Byte) (e : Ending) (w' : World) : Prop := ∃ z : Int, e = .returned (.int .i64 z) ∧ w = w' ∧ ((z = -1 ∧ ∀ b ∈ l, b = 0#8) ∨ (0 ≤ z ∧ ∃ b ∈ l, b ≠ 0#8))
theorem lead_any (B : Nat) (A : Option Addr) (l : List Byte) (n c : Nat) (w : World) (h : Sl w B 1 A n (l.map bv8)) (hn : n ≤ 1048576) :
    Calls Tryd.prog 28 #[.slice A n c] w (LeadR w l) := by
  have HL := hid (show l.length = n by have := h.len; simpa using this)
  have H := hid h
  clear h
  go_enter Tryd.func28, Tryd.ntmps28
  go_wp2_with fail
  go_loop [6] (fun i => ∃ k : Nat, k ≤ n ∧ i = .int .i64 (k : Int) ∧ Hid (∀ j, j < k → l.getD j 0 = 0#8)) (fun i => n - (intOf i).toNat)
  case atStart => exact ⟨0, Nat.zero_le _, rfl, hid (fun j hj => absurd hj (by omega))⟩
  case round =>
    obtain ⟨k, hk, rfl, HK⟩ := hrel
    by_cases hlt : k < n
    · obtain ⟨b, o, e1, hb, hc⟩ := H.out.get hlt (u8s_get l k (by rw [HL.out]; exact hlt))
      subst e1
      obtain ⟨x, hx⟩ : ∃ x, l.getD k 0 = x := ⟨_, rfl⟩
      rw [hx] at hc
      have HX := hid hx
      unfold bv8 at hc
      clear hx
      by_cases hx0 : x = 0#8
      · have hb : ((x.toNat : Int) != 0) = false := by rw [hx0]; rfl
        go_wp2_with fail
        go_round
        case rel => exact ⟨k + 1, by omega, by go_num, hid (fun j hj => by
          rcases Nat.lt_or_ge j k with h9 | h9
          · exact HK.out j h9
          · obtain rfl : j = k := by omega
            rw [HX.out]; exact hx0)⟩
        case measure => simp [intOf]; omega
      · have hb : ((x.toNat : Int) != 0) = true := by
          have : x.toNat ≠ 0 := fun h9 => hx0 (BitVec.eq_of_toNat_eq (by simpa using h9))
          simp; omega
        go_wp2_with fail
        go_ret
        refine ⟨(k : Int), rfl, rfl, .inr ⟨by omega, x, ?_, hx0⟩⟩
        rw [← HX.out, List.getD_eq_getElem?_getD, List.getElem?_eq_getElem (by rw [HL.out]; exact hlt)]
        exact List.getElem_mem _
    · obtain rfl : k = n := by omega
      go_wp2_with fail
      go_ret
      exact ⟨-1, rfl, rfl, .inl ⟨rfl, fun b hb => by
        obtain ⟨i, hi, rfl⟩ := List.getElem_of_mem hb
        have := HK.out i (by rw [← HL.out]; exact hi)
        rwa [List.getD_eq_getElem?_getD, List.getElem?_eq_getElem hi] at this⟩⟩
set_option maxHeartbeats 2000000 in
theorem open_any (S : PSt) (cols : List Int) (base N gk gv : Nat) (vs : List Value) (B : Nat) (A : Option Addr) (n c : Nat) (w : World) (hkv : KV base N w gk gv vs S) (h : Sl w B 1 A n (cols.map iv)) (hB : B ≤ w.heap.size) (hc : ∀ c ∈ cols, 0 ≤ c ∧ c < (N : Int)) (hN : N ≤ 64) (hn : n ≤ 1048576) :
    Calls Tryd.prog 26 #[.slice A n c, .slice (some ⟨gk, 0, none⟩) N N] w fun e w' => ∃ A' c', e = .returned (.slice A' (S.opn cols).length c') ∧ OI w.heap.size w' (.slice A' (S.opn cols).length c') (S.opn cols) ∧ Below w.heap.size w w' := by
  obtain ⟨i0, hi, hz0, hz1, hz2⟩ := info_parts infoInt
  have HL := hid (show cols.length = n by have := h.len; simpa using this)
  have H := hid h
  have HKV := hid hkv
  have HC := hid hc
  clear h hkv hc
  go_enter Tryd.func26, Tryd.ntmps26
  go_wp2_with fail
  go_loopw [5, 10] (fun v i wr => ∃ (k : Nat) (A1 : Option Addr) (m c1 : Nat), k ≤ n ∧ m ≤ k ∧ i = .int .i64 (k : Int) ∧ v = .slice A1 m c1 ∧ Hid ((S.opn (cols.take k)).length = m) ∧ OI w.heap.size wr (.slice A1 m c1) (S.opn (cols.take k)) ∧ Below w.heap.size w wr) (fun _ i _ => n - (intOf i).toNat)
  case atStart => exact ⟨0, none, 0, 0, Nat.zero_le _, Nat.le_refl _, rfl, rfl, hid rfl, World.ownsRow_nil _ _ _ _, Below.refl _ _⟩
  case round =>
    obtain ⟨k, A1, m, c1, hk, hm, rfl, rfl, HM, ho, hbr⟩ := hrel
    have hzr := hbr.size
    have HO := hid ho
    clear ho
    by_cases hlt : k < n
    · obtain ⟨b3, o3, e3, hb3, hce⟩ := (H.out.below (hbr.mono hB)).get hlt (ints_get cols k (by rw [HL.out]; exact hlt))
      subst e3
      have hxm : cols.getD k 0 ∈ cols := by rw [List.getD_eq_getElem?_getD, List.getElem?_eq_getElem (by rw [HL.out]; exact hlt)]; exact List.getElem_mem _
      obtain ⟨hx0, hx1⟩ := HC.out _ hxm
      have hyes := opn_take_yes (S := S) (cols := cols) (k := k) (by rw [HL.out]; exact hlt)
      have hno := opn_take_no (S := S) (cols := cols) (k := k) (by rw [HL.out]; exact hlt)
      obtain ⟨x, hx⟩ : ∃ x, cols.getD k 0 = x := ⟨_, rfl⟩
      rw [hx] at hce hx0 hx1 hyes hno
      obtain ⟨x', rfl⟩ := Int.eq_ofNat_of_zero_le hx0
      have HYES := hid hyes
      have HNO := hid hno
      have ck := (HKV.out.below hbr).cellk hx0 hx1
      rw [Int.toNat_natCast] at ck
      have hx1' : x' < N := by omega
      clear hyes hno hx hxm
      cases hkn : S.kn (x' : Int) with
      | false =>
        rw [hkn] at ck
        have hkk := HYES.out hkn
        have HKK := hid hkk
        have hbx : Below wr.heap.size wr (wr.alloc (.cells #[.int .i64 (x' : Int)] 3)) := (Below.refl _ _).alloc (Nat.le_refl _) _
        have ho := HO.out.below hbx
        unfold OI at ho
        rw [HM.out] at ho
        have HO2 := hid ho
        have HB2 := hid (hbr.trans (hbx.mono hzr))
        have hz2 : w.heap.size ≤ (wr.alloc (.cells #[.int .i64 (x' : Int)] 3)).heap.size := by simp; omega
        clear hkk hkn hbx ho
        go_wp2_with (at_builtin; go_must (refine wpl_append rfl (.tmp 19) (.tmp 21) 23 rfl w.heap.size 3 i0 (.int .i64 0) 1 8 Tryd.underlying23 hi hz0 hz1 (by assumption) rfl (by omega) (.slice A1 m c1) m _ rfl HO2.out _ _ 1 1 [.int .i64 (x' : Int)] rfl (Sl.fresh _ _ _ _ 1 rfl) (by simp [Value.oneCell']) (m + 1) rfl _ rfl (by omega) (by omega) hz2 ?_); intro A6 c6 w6 o6 g6 _)
        have hb6 := below_own HB2.out HO2.out g6 (Nat.le_refl _) hz2
        go_roundw
        case rel => exact ⟨k + 1, A6, m + 1, c6, by omega, by omega, by go_num, rfl, hid (by rw [HKK.out, List.length_append, HM.out]; rfl), by unfold OI; rw [HKK.out, List.length_append, HM.out, List.map_append]; exact o6, hb6⟩
        case measure => simp [intOf]; omega
      | true =>
        rw [hkn] at ck
        have hkk := HNO.out hkn
        have HKK := hid hkk
        clear hkk hkn
        go_wp2_with fail
        go_roundw
        case rel => exact ⟨k + 1, A1, m, c1, by omega, by omega, by go_num, rfl, hid (by rw [HKK.out, HM.out]), by rw [HKK.out]; exact HO.out, hbr⟩
        case measure => simp [intOf]; omega
    · obtain rfl : k = n := by omega
      have hall : cols.take k = cols := by rw [← HL.out, List.take_length]
      rw [hall] at HM HO
      clear hall
      go_wp2_with fail
      go_ret
      exact ⟨A1, c1, by rw [HM.out]; rfl, by rw [HM.out]; exact HO.out, hbr⟩
set_option maxHeartbeats 2000000 in
theorem rest_any (S : PSt) (q : Eqn) (base N gk gv : Nat) (vs : List Value) (B : Nat) (A1 A2 : Option Addr) (c1 c2 nc nd : Nat) (w : World) (hkv : KV base N w gk gv vs S) (h1 : Sl w B 1 A1 nc (q.cols.map iv)) (h2 : Sl w B 1 A2 nd (q.data.map bv8)) (hB : B ≤ w.heap.size) (hc : ∀ c ∈ q.cols, 0 ≤ c ∧ c < (N : Int)) (hN : N ≤ 64)
    (hD : ∀ c : Int, 0 ≤ c → S.kn c = true → (S.val c).length = nd) (hnd : nd ≤ 1048576) (hnc : nc ≤ 1048576) :
    Calls Tryd.prog 27 #[.agg #[.slice A1 nc c1, .slice A2 nd c2], .slice (some ⟨gk, 0, none⟩) N N, .slice (some ⟨gv, 0, none⟩) N N] w fun e w' => ∃ A' c', e = .returned (.slice A' nd c') ∧ OB w.heap.size w' (.slice A' nd c') (S.rest q) ∧ Below w.heap.size w w' := by
  obtain ⟨i0, hi, hz0, hz1, hz2⟩ := info_parts infoB
  have HLC := hid (show q.cols.length = nc by have := h1.len; simpa using this)
  have HLD := hid (show q.data.length = nd by have := h2.len; simpa using this)
  have H1 := hid h1
  have H2 := hid h2
  have HKV := hid hkv
  have HC := hid hc
  have HD := hid hD
  have hx3 := Row.new w 27 #[.slice A1 nc c1, .slice A2 nd c2]
  have hb3 : Below w.heap.size w (w.alloc (.cells #[.slice A1 nc c1, .slice A2 nd c2] 27)) := (Below.refl _ _).alloc (Nat.le_refl _) _
  have hs2 := h2.below (hb3.mono hB)
  have x0 := hx3.cell 0
  have x1 := hx3.cell 1
  simp only [List.getElem?_cons_succ, List.getElem?_cons_zero] at x0 x1
  have HX3 := hid hx3
  have HB3 := hid hb3
  have HS2 := hid hs2
  clear h1 h2 hkv hc hD hx3 hb3 hs2
  go_enter Tryd.func27, Tryd.ntmps27
  have hzz : w.heap.size ≤ (w.alloc (.cells #[.slice A1 nc c1, .slice A2 nd c2] 27)).heap.size := by simp
  go_wp2_with (at_builtin; go_must (refine wpl_append rfl (.const (.slice none 0 0)) (.tmp 11) 24 rfl w.heap.size 5 i0 (.int .u8 0) 1 1 Tryd.underlying24 hi hz0 hz1 hz2 rfl (by omega) (.slice none 0 0) 0 [] rfl (World.ownsRow_nil _ _ _ _) B A2 nd c2 (q.data.map bv8) rfl HS2.out (u8s_cell _) nd (by omega) (q.data.map bv8) rfl (by omega) (by omega) hzz ?_); intro A6 c6 w6 o6 g6 _; have hc6 := (HX3.out.grown g6 (by simp [Value.ownBlock])).cell 0; have hb6 := HB3.out.grown g6 hzz (fun k hk => by simp [Value.ownBlock] at hk); simp only [List.getElem?_cons_zero] at hc6)
  have HO6 : Hid (OB w.heap.size w6 (.slice A6 nd c6) (S.sumTo q 0)) := hid (by unfold OB; rw [sumTo_zero, HLD.out]; exact o6)
  have HB6 := hid hb6
  clear o6 g6 hb6
  go_loopw [7, 16] (fun v i wr => ∃ (k : Nat) (A' : Option Addr) (c' : Nat), k ≤ nc ∧ i = .int .i64 (k : Int) ∧ v = .slice A' nd c' ∧ OB w.heap.size wr (.slice A' nd c') (S.sumTo q k) ∧ Below w.heap.size w wr) (fun _ i _ => nc - (intOf i).toNat)
  case atStart => exact ⟨0, A6, c6, Nat.zero_le _, rfl, rfl, HO6.out, HB6.out⟩
  case round =>
    obtain ⟨k, A', c', hk, rfl, rfl, ho, hbr⟩ := hrel
    have hzr := hbr.size
    have HO := hid ho
    clear ho
    by_cases hlt : k < nc
    · obtain ⟨b3, o3, e3, hb3, hce⟩ := (H1.out.below (hbr.mono hB)).get hlt (ints_get q.cols k (by rw [HLC.out]; exact hlt))
      subst e3
      have hxm : q.cols.getD k 0 ∈ q.cols := by rw [List.getD_eq_getElem?_getD, List.getElem?_eq_getElem (by rw [HLC.out]; exact hlt)]; exact List.getElem_mem _
      obtain ⟨hx0, hx1⟩ := HC.out _ hxm
      have hsum := sumTo_step S q (k := k) (by rw [HLC.out]; exact hlt)
      obtain ⟨x, hx⟩ : ∃ x, q.cols.getD k 0 = x := ⟨_, rfl⟩
      rw [hx] at hce hx0 hx1 hsum
      obtain ⟨x', rfl⟩ := Int.eq_ofNat_of_zero_le hx0
      have HSUM := hid hsum
      have hkr := HKV.out.below hbr
      have ck := hkr.cellk hx0 hx1
      obtain ⟨Av, mv, cv, hmv, hmv2, hov⟩ := hkr.cellv hx0 hx1
      rw [Int.toNat_natCast] at ck cv
      have hx1' : x' < N := by omega
      clear hsum hx hxm hkr
      cases hkn : S.kn (x' : Int) with
      | false =>
        rw [hkn] at ck
        have hss : S.sumTo q (k + 1) = S.sumTo q k := by rw [HSUM.out]; unfold PSt.stepD; rw [if_neg (by simp [hkn])]
        have HSS := hid hss
        clear hss hkn cv hov hmv
        go_wp2_with fail
        go_roundw
        case rel => exact ⟨k + 1, A', c', by omega, by go_num, rfl, by rw [HSS.out]; exact HO.out, hbr⟩
        case measure => simp [intOf]; omega
      | true =>
        rw [hkn] at ck
        have hss : S.sumTo q (k + 1) = xorL (S.sumTo q k) (S.val (x' : Int)) := by rw [HSUM.out]; unfold PSt.stepD; rw [if_pos hkn]
        have HSS := hid hss
        have hvl := HD.out _ hx0 hkn
        have HVL := hid hvl
        rw [hvl] at cv hmv
        have hlsum : (S.sumTo q k).length = nd := by
          unfold PSt.sumTo
          exact foldl_len HD.out _ _ (fun c hc => (HC.out c (List.mem_of_mem_take hc)).1) HLD.out
        have HLS := hid hlsum
        have hsv := own_slice hov
        have HSV : Hid (Sl wr wr.heap.size 1 Av nd ((S.val (x' : Int)).map bv8)) := hid (by
          obtain ⟨Aq, cq, e, _, _, h9⟩ := hsv
          injection e with e1 e2 e3
          subst e1
          rw [HVL.out] at h9
          exact h9)
        have HSO : Hid (Sl wr wr.heap.size 1 A' nd ((S.sumTo q k).map bv8)) := hid (by
          have h9 := HO.out
          unfold OB at h9
          rw [HLS.out] at h9
          exact Sl.own h9)
        clear hss hvl hsv hov hkn hlsum
        go_wp2_with fail
        refine (sum01_any wr.heap.size Av A' (S.val (x' : Int)) (S.sumTo q k) nd mv c' wr HSV.out HSO.out (Nat.le_refl _) hnd).mono ?_
        rintro e w8 ⟨v8, rfl, o8, b8⟩
        rw [← HSS.out] at o8
        have hl8 : (S.sumTo q (k + 1)).length = nd := by
          rw [HSS.out, xorL_len, HLS.out, HVL.out]; omega
        obtain ⟨A8, c8, e8, _, _, _⟩ := own_slice o8
        rw [hl8] at e8
        subst e8
        have ho8 : OB w.heap.size w8 (.slice A8 nd c8) (S.sumTo q (k + 1)) := own_base o8 hzr
        have HO8 := hid ho8
        have hb8 := hbr.trans (b8.mono hzr)
        clear ho8 o8 b8 hl8
        go_wp2_with fail
        go_roundw
        case rel => exact ⟨k + 1, A8, c8, by omega, by go_num, rfl, HO8.out, hb8⟩
        case measure => simp [intOf]; omega
    · obtain rfl : k = nc := by omega
      have hall : S.sumTo q k = S.rest q := by rw [← HLC.out, sumTo_all]
      rw [hall] at HO
      clear hall
      go_wp2_with fail
      go_ret
      exact ⟨A', c', rfl, HO.out, hbr⟩
set_option maxHeartbeats 1600000 in
theorem mayrow_any (r : Bool) (m : Int) (cols : List Int) (B : Nat) (A : Option Addr) (nc c : Nat) (w : World) (h : Sl w B 1 A nc (cols.map iv)) (hB : B ≤ w.heap.size) (hm0 : 0 ≤ m) (hm64 : m ≤ 64) (hnc : nc ≤ 1048576)
    (hz : ∀ x ∈ cols, -9223372036854775808 ≤ x ∧ x ≤ 9223372036854775807) (hr : r = true ↔ ColsOk m cols) :
    Calls Tryd.prog 25 #[.int .i64 m, .slice A nc c] w fun e w' => e = .returned (.bool r) ∧ w = w' := by
  have HR := hid hr
  have HZ := hid hz
  have HNC := hid (show cols.length = nc by have := h.len; simpa using this)
  have H3 := hid h
  clear hr h hz
  go_enter Tryd.func25, Tryd.ntmps25
  go_wp2_with fail
  go_loop [9] (fun i => ∃ j : Nat, j ≤ nc ∧ i = .int .i64 j ∧ Hid (∀ i, i < j → 0 ≤ cols.getD i 0 ∧ cols.getD i 0 < m ∧ (0 < i → cols.getD (i - 1) 0 < cols.getD i 0))) (fun i => nc - (intOf i).toNat)
  case atStart => exact ⟨0, Nat.zero_le _, rfl, hid (fun j hj => absurd hj (by omega))⟩
  case round =>
    obtain ⟨j, hj, rfl, HJ⟩ := hrel
    by_cases hltj : j < nc
    · obtain ⟨b3, o3, e3, hb3, hce⟩ := H3.out.get hltj (ints_get cols j (by rw [HNC.out]; exact hltj))
      subst e3
      have hcp : 0 < j → w.cell? ⟨b3, o3 + (j - 1), none⟩ = some (.int .i64 (cols.getD (j - 1) 0)) := fun h0 => by
        obtain ⟨b2, o2, e, _, h2⟩ := H3.out.get (k := j - 1) (by omega) (ints_get cols (j - 1) (by rw [HNC.out]; omega))
        injection e with e; injection e with e1 e2; subst e1 e2
        exact h2
      have hxm : cols.getD j 0 ∈ cols := by rw [List.getD_eq_getElem?_getD, List.getElem?_eq_getElem (by rw [HNC.out]; exact hltj)]; exact List.getElem_mem _
      obtain ⟨x, hx⟩ : ∃ x, cols.getD j 0 = x := ⟨_, rfl⟩
      obtain ⟨y, hy⟩ : ∃ y, cols.getD (j - 1) 0 = y := ⟨_, rfl⟩
      have HX := hid hx
      have HY := hid hy
      rw [hx] at hce hxm
      simp only [hy] at hcp
      obtain ⟨hx1, hx2⟩ := HZ.out x hxm
      have hno : ¬ (0 ≤ x ∧ x < m ∧ (0 < j → y < x)) → r = false := fun hn => by
        cases r with
        | false => rfl
        | true =>
          have h9 := HR.out.1 rfl j (by rw [HNC.out]; exact hltj)
          rw [HX.out, HY.out] at h9
          exact absurd h9 hn
      have HNO := hid hno
      clear hx hy hno hxm
      by_cases hx0 : x < 0
      · have hno := HNO.out (by omega)
        subst hno
        clear hcp
        go_wp2_with fail
        go_ret
        exact ⟨rfl, rfl⟩
      by_cases hxm : m ≤ x
      · have hno := HNO.out (by omega)
        subst hno
        clear hcp
        go_wp2_with fail
        go_ret
        exact ⟨rfl, rfl⟩
      by_cases hj0 : j = 0
      · subst hj0
        have hce0 : w.cell? ⟨b3, o3, none⟩ = some (.int .i64 x) := hce
        have HJ1 : Hid (∀ i, i < 1 → 0 ≤ cols.getD i 0 ∧ cols.getD i 0 < m ∧ (0 < i → cols.getD (i - 1) 0 < cols.getD i 0)) := hid (fun i hi => by
          obtain rfl : i = 0 := by omega
          rw [HX.out]
          exact ⟨by omega, by omega, fun h => absurd h (by omega)⟩)
        clear hcp
        go_wp2_with fail
        go_round
        case rel => exact ⟨1, by omega, by go_num, HJ1⟩
        case measure => simp [intOf]; omega
      · have hcp' := hcp (by omega)
        obtain ⟨j', rfl⟩ : ∃ j', j = j' + 1 := ⟨j - 1, by omega⟩
        rw [Nat.add_sub_cancel] at hcp'
        have hj1 : ((j' + 1 : Nat) : Int) - 1 = (j' : Int) := by omega
        clear hcp
        by_cases hyx : x ≤ y
        · have hno := HNO.out (by omega)
          subst hno
          go_wp2_with fail
          go_ret
          exact ⟨rfl, rfl⟩
        · go_wp2_with fail
          go_round
          case rel => exact ⟨j' + 2, by omega, by go_num, hid (fun i hi => by
            rcases Nat.lt_or_ge i (j' + 1) with h9 | h9
            · exact HJ.out i h9
            · obtain rfl : i = j' + 1 := by omega
              rw [HX.out, HY.out]; exact ⟨by omega, by omega, fun _ => by omega⟩)⟩
          case measure => simp [intOf]; omega
    · obtain rfl : j = nc := by omega
      go_wp2_with fail
      go_ret
      exact ⟨ret_bool (HR.out.2 (fun i hi => HJ.out i (by rw [← HNC.out]; exact hi))).symm, rfl⟩
end Go.Proofs.YtmefbbpcfphciaaDoor
