/- Law23a -/
import Derived.Deep.DeepCutAuto
import Derived.BigGuardPart
import Derived.Test.YtnknjeipfjdjoaaBScanCounts04
import Derived.Test.YtnknjeipfjdjoaaBScanCounts41
import Derived.Test.YtnknjeipfjdjoaaBScanCounts42
import Derived.Test.YtnknjeipfjdjoaaBScanCounts44
import Derived.Test.YtnknjeipfjdjoaaBScanCounts47
import Derived.Test.YtnknjeipfjdjoaaBScanCounts49
import Derived.Test.YtnknjeipfjdjoaaBScanCounts51
set_option maxRecDepth 20000
namespace Wells
open Go Go.RowKit
theorem PlayM.ents {m : Mani} (h : PlayM m) : ∀ e ∈ m.objs, 0 ≤ e.obj ∧ e.obj ≤ 16777215 ∧ e.tries.length ≤ 8 := fun e he => by
  have h1 := ents_mem (may_p h.may) e he
  have h2 := h1.obj
  have h3 := h.next
  exact ⟨h2.1, by omega, h1.tlen⟩
end Wells
namespace Go.Proofs.Ytnknjeipfjdjoaa
open Go.RowKit Wells
set_option maxRecDepth 20000 in
set_option maxHeartbeats 1000000 in
theorem walk_ScanCounts (m : Mani) (Ad : Option Addr) (nd cd : Nat) (Ao : Option Addr) (no co : Nat) (ts : List Value) (rc : Rec) (A1 : Option Addr) (n1 c1 : Nat) (A : Option Addr) (n c : Nat) (l : List Int) (xa xb : Int) (w : World) (hm : IsMani w m Ad nd cd Ao no co ts) (hr : IsRec w A1 n1 c1 rc) (h : IsInts w A n c l) (ha : -9223372036854775808 ≤ xa ∧ xa ≤ 9223372036854775807) (hb : -9223372036854775808 ≤ xb ∧ xb ≤ 9223372036854775807) :
    Calls Try.prog 3 #[m.val (.slice Ad nd cd) (.slice Ao no co), rc.val (.slice A1 n1 c1), .slice A n c, .int .i64 xa, .int .i64 xb] w fun e w' => e = .returned (.bool true) ∧ Below w.heap.size w w' := by
  obtain ⟨hs, hle, hcap, hwf⟩ := h
  obtain ⟨hrO, hrB, hrI, hrK, hrH, hrS, hd⟩ := hr
  obtain ⟨s0, hle0, hcap0⟩ := hd
  have HN1 := hid (show rc.D.length = n1 by have := s0.len; simpa using this)
  obtain ⟨b1, hb1⟩ : ∃ b, countsM m rc = b := ⟨_, rfl⟩
  have Hb1 := hid hb1
  have hnoc := hm.r.oc
  have hx0 := Row.new w 27 #[.int .i64 m.seq, .int .i64 m.next, .int .i64 m.P.K, .int .i64 m.P.H, .int .i64 m.P.S, .int .i64 m.extra, .slice Ad nd cd, .slice Ao no co]
  have hy0 := Row.new (w.alloc (.cells #[.int .i64 m.seq, .int .i64 m.next, .int .i64 m.P.K, .int .i64 m.P.H, .int .i64 m.P.S, .int .i64 m.extra, .slice Ad nd cd, .slice Ao no co] 27)) 31 #[.int .i64 rc.O, .int .i64 rc.B, .int .i64 rc.I, .int .i64 rc.P.K, .int .i64 rc.P.H, .int .i64 rc.P.S, .int .u32 (rc.S.toNat : Int), .slice A1 n1 c1]
  have hx1 := hx0.alloc (.cells #[.int .i64 rc.O, .int .i64 rc.B, .int .i64 rc.I, .int .i64 rc.P.K, .int .i64 rc.P.H, .int .i64 rc.P.S, .int .u32 (rc.S.toNat : Int), .slice A1 n1 c1] 31)
  have hbb := ((Below.refl w.heap.size w).alloc (Nat.le_refl _) (.cells #[.int .i64 m.seq, .int .i64 m.next, .int .i64 m.P.K, .int .i64 m.P.H, .int .i64 m.P.S, .int .i64 m.extra, .slice Ad nd cd, .slice Ao no co] 27)).alloc (by simp) (.cells #[.int .i64 rc.O, .int .i64 rc.B, .int .i64 rc.I, .int .i64 rc.P.K, .int .i64 rc.P.H, .int .i64 rc.P.S, .int .u32 (rc.S.toNat : Int), .slice A1 n1 c1] 31)
  have hsz : (w.alloc (.cells #[.int .i64 m.seq, .int .i64 m.next, .int .i64 m.P.K, .int .i64 m.P.H, .int .i64 m.P.S, .int .i64 m.extra, .slice Ad nd cd, .slice Ao no co] 27)).heap.size = w.heap.size + 1 := by simp
  rw [hsz] at hy0
  have HX := hid hx1
  have HY := hid hy0
  have HB2 := hid hbb
  have HRM0 := hid hm.r
  have HS0 := hid hs
  clear hx0 hx1 hy0 hbb hsz hm hs s0 hb1
  unfold Mani.val Rec.val
  go_enter Try.func3, Try.ntmps3
  go_upto_region 1 with fail
  generalize (w.alloc (.cells #[.int .i64 m.seq, .int .i64 m.next, .int .i64 m.P.K, .int .i64 m.P.H, .int .i64 m.P.S, .int .i64 m.extra, .slice Ad nd cd, .slice Ao no co] 27)).alloc (.cells #[.int .i64 rc.O, .int .i64 rc.B, .int .i64 rc.I, .int .i64 rc.P.K, .int .i64 rc.P.H, .int .i64 rc.P.S, .int .u32 (rc.S.toNat : Int), .slice A1 n1 c1] 31) = w2 at *
  have x0 := HX.out.cell 0
  have x1 := HX.out.cell 1
  have x2 := HX.out.cell 2
  have x3 := HX.out.cell 3
  have x4 := HX.out.cell 4
  have x5 := HX.out.cell 5
  have x6 := HX.out.cell 6
  have x7 := HX.out.cell 7
  simp only [List.getElem?_cons_succ, List.getElem?_cons_zero] at x0 x1 x2 x3 x4 x5 x6 x7
  go_wp2_with fail
  refine (light_any m w.heap.size Ad Ao nd cd no co ts w2 (HRM0.out.below HB2.out) HB2.out.size).mono ?_
  rintro e w3 ⟨lb, rfl, hlight, hb3⟩
  clear hlight
  have HB3 := hid (HB2.out.trans (hb3.mono HB2.out.size))
  have HXR := hid (HX.out.below hb3 HX.out.lt)
  have HYR := hid (HY.out.below hb3 HY.out.lt)
  clear x0 x1 x2 x3 x4 x5 x6 x7 hb3
  have y0 := HYR.out.cell 0
  have y1 := HYR.out.cell 1
  have y2 := HYR.out.cell 2
  have y3 := HYR.out.cell 3
  have y4 := HYR.out.cell 4
  have y5 := HYR.out.cell 5
  have y6 := HYR.out.cell 6
  have y7 := HYR.out.cell 7
  simp only [List.getElem?_cons_succ, List.getElem?_cons_zero] at y0 y1 y2 y3 y4 y5 y6 y7
  cases lb with
  | false =>
    go_wp2_with fail
    refine (wakes23 _).mono ?_
    rintro e w9 ⟨rfl, hbk⟩
    go_wp2_with fail
    go_ret
    exact ⟨rfl, HB3.out.trans (hbk.mono HB3.out.size)⟩
  | true =>
    by_cases hbig : 60 < n1
    · have hbig' : (60 : Int) < (n1 : Int) := by omega
      go_wp2_with fail
      refine (wakes23 _).mono ?_
      rintro e w9 ⟨rfl, hbk⟩
      go_wp2_with fail
      go_ret
      exact ⟨rfl, HB3.out.trans (hbk.mono HB3.out.size)⟩
    have hbig' : ¬ (60 : Int) < (n1 : Int) := by omega
    go_upto_region 3 with fail
    clear hbig hbig' y0 y1 y2 y3 y4 y5 y6 y7
    go_cut [11] (fun s11 wx => ∃ (g11 : Nat) (m2 : Mani) (Ad2 : Option Addr) (nd2 cd2 : Nat) (Ao2 : Option Addr) (no2 co2 : Nat) (ts2 : List Value), s11 = .pointer (some ⟨g11, 0, none⟩) ∧ Row wx g11 27 [.int .i64 m2.seq, .int .i64 m2.next, .int .i64 m2.P.K, .int .i64 m2.P.H, .int .i64 m2.P.S, .int .i64 m2.extra, .slice Ad2 nd2 cd2, .slice Ao2 no2 co2] ∧ RM wx wx.heap.size m2 Ad2 nd2 cd2 Ao2 no2 co2 ts2 ∧ PlayM m2 ∧ Below w3.heap.size w3 wx)
    case first =>
      go_wp2_with fail
      refine (mani_any w.heap.size A n c l w3 (HS0.out.below HB3.out) HB3.out.size (by omega) hwf).mono ?_
      rintro e w4 ⟨m2, Ad2, nd2, cd2, Ao2, no2, co2, ts2, rfl, hom, hpm, hb4⟩
      have HPM := hid hpm
      have R8 := Row.new w4 27 #[.int .i64 m2.seq, .int .i64 m2.next, .int .i64 m2.P.K, .int .i64 m2.P.H, .int .i64 m2.P.S, .int .i64 m2.extra, .slice Ad2 nd2 cd2, .slice Ao2 no2 co2]
      have B8 : Below w4.heap.size w4 (w4.alloc (.cells #[.int .i64 m2.seq, .int .i64 m2.next, .int .i64 m2.P.K, .int .i64 m2.P.H, .int .i64 m2.P.S, .int .i64 m2.extra, .slice Ad2 nd2 cd2, .slice Ao2 no2 co2] 27)) := (Below.refl _ _).alloc (Nat.le_refl _) _
      have HR8 := hid R8
      have HRM2 := hid ((hom.read.below B8).mono B8.size)
      have HB8 := hid (hb4.trans (B8.mono hb4.size))
      clear R8 B8 hb4 hom hpm
      unfold Mani.val
      go_wp2_with fail
      go_meet
      exact ⟨w4.heap.size, m2, Ad2, nd2, cd2, Ao2, no2, co2, ts2, rfl, HR8.out, HRM2.out, HPM.out, HB8.out⟩
    case rest =>
    obtain ⟨g11, m2, Ad2, nd2, cd2, Ao2, no2, co2, ts2, rfl, h11, hrm2, hpm, hbx⟩ := hcut
    generalize wc = w4 at *
    have H11 := hid h11
    have HRM4 := hid hrm2
    have HPM := hid hpm
    have HB4 := hid (HB3.out.trans (hbx.mono HB3.out.size))
    have HX4 := hid (HXR.out.below hbx HXR.out.lt)
    have HY4 := hid (HYR.out.below hbx HYR.out.lt)
    have hnoc2 := hrm2.oc
    have hno2 : no2 ≤ 1000 := by have := hrm2.o.len; have := hpm.olen; omega
    have z0 := h11.cell 0
    have z1 := h11.cell 1
    have z2 := h11.cell 2
    have z3 := h11.cell 3
    have z4 := h11.cell 4
    have z5 := h11.cell 5
    have z6 := h11.cell 6
    have z7 := h11.cell 7
    simp only [List.getElem?_cons_succ, List.getElem?_cons_zero] at z0 z1 z2 z3 z4 z5 z6 z7
    clear h11 hrm2 hpm hbx
    go_upto_region 4 with fail
    go_cut [12] (fun s12 wx => ∃ (g12 : Nat) (r2 : Rec) (A2 : Option Addr) (n2 c2 : Nat), s12 = .pointer (some ⟨g12, 0, none⟩) ∧ Row wx g12 31 [.int .i64 r2.O, .int .i64 r2.B, .int .i64 r2.I, .int .i64 r2.P.K, .int .i64 r2.P.H, .int .i64 r2.P.S, .int .u32 (r2.S.toNat : Int), .slice A2 n2 c2] ∧ r2.D.length = n2 ∧ Below w4.heap.size w4 wx)
    case first =>
      go_wp2_with fail
      refine (playrec_any m2 _ Ad2 Ao2 nd2 cd2 no2 co2 ts2 xa xb w4 HRM4.out (Nat.le_refl _) (Par.ok_may HPM.out.parOk) hno2 HPM.out.ents ha hb).mono ?_
      rintro e w5 ⟨r2, A2, n2, c2, rfl, hmay, hlen, ho5, hb5⟩
      have R8 := Row.new w5 31 #[.int .i64 r2.O, .int .i64 r2.B, .int .i64 r2.I, .int .i64 r2.P.K, .int .i64 r2.P.H, .int .i64 r2.P.S, .int .u32 (r2.S.toNat : Int), .slice A2 n2 c2]
      have B8 : Below w5.heap.size w5 (w5.alloc (.cells #[.int .i64 r2.O, .int .i64 r2.B, .int .i64 r2.I, .int .i64 r2.P.K, .int .i64 r2.P.H, .int .i64 r2.P.S, .int .u32 (r2.S.toNat : Int), .slice A2 n2 c2] 31)) := (Below.refl _ _).alloc (Nat.le_refl _) _
      have HR8 := hid R8
      have HL := hid hlen
      have HB8 := hid (hb5.trans (B8.mono hb5.size))
      clear R8 B8 hb5 ho5 hmay hlen
      unfold Rec.val
      go_wp2_with fail
      go_meet
      exact ⟨w5.heap.size, r2, A2, n2, c2, rfl, HR8.out, HL.out, HB8.out⟩
    case rest =>
    obtain ⟨g12, r2, A2, n2, c2, rfl, h12, hn2, hbx⟩ := hcut
    generalize wc = w5 at *
    have HN2 := hid hn2
    have HB5 := hid (HB4.out.trans (hbx.mono HB4.out.size))
    have hx5 := HX4.out.below hbx HX4.out.lt
    have hy5 := HY4.out.below hbx HY4.out.lt
    have hz5 := H11.out.below hbx H11.out.lt
    have HRM := hid ((HRM0.out.below HB5.out).mono HB5.out.size)
    have HRM2 := hid ((HRM4.out.below hbx).mono hbx.size)
    clear z0 z1 z2 z3 z4 z5 z6 z7
    have x0 := hx5.cell 0
    have x1 := hx5.cell 1
    have x2 := hx5.cell 2
    have x3 := hx5.cell 3
    have x4 := hx5.cell 4
    have x5 := hx5.cell 5
    have x6 := hx5.cell 6
    have x7 := hx5.cell 7
    simp only [List.getElem?_cons_succ, List.getElem?_cons_zero] at x0 x1 x2 x3 x4 x5 x6 x7
    have y0 := hy5.cell 0
    have y1 := hy5.cell 1
    have y2 := hy5.cell 2
    have y3 := hy5.cell 3
    have y4 := hy5.cell 4
    have y5 := hy5.cell 5
    have y6 := hy5.cell 6
    have y7 := hy5.cell 7
    simp only [List.getElem?_cons_succ, List.getElem?_cons_zero] at y0 y1 y2 y3 y4 y5 y6 y7
    have z0 := hz5.cell 0
    have z1 := hz5.cell 1
    have z2 := hz5.cell 2
    have z3 := hz5.cell 3
    have z4 := hz5.cell 4
    have z5 := hz5.cell 5
    have z6 := hz5.cell 6
    have z7 := hz5.cell 7
    simp only [List.getElem?_cons_succ, List.getElem?_cons_zero] at z0 z1 z2 z3 z4 z5 z6 z7
    have v0 := h12.cell 0
    have v1 := h12.cell 1
    have v2 := h12.cell 2
    have v3 := h12.cell 3
    have v4 := h12.cell 4
    have v5 := h12.cell 5
    have v6 := h12.cell 6
    have v7 := h12.cell 7
    simp only [List.getElem?_cons_succ, List.getElem?_cons_zero] at v0 v1 v2 v3 v4 v5 v6 v7
    clear hx5 hy5 hz5 h12 hn2 hbx
    obtain ⟨b2, hb2⟩ : ∃ b, countsM m2 r2 = b := ⟨_, rfl⟩
    obtain ⟨b3, hb3⟩ : ∃ b, countsM m2 rc = b := ⟨_, rfl⟩
    obtain ⟨b4, hb4⟩ : ∃ b, countsM m r2 = b := ⟨_, rfl⟩
    have Hb2 := hid hb2
    have Hb3 := hid hb3
    have Hb4 := hid hb4
    clear hb2 hb3 hb4
    go_upto_region 5 with fail
    refine Org.begin [] (fun w' => Below w5.heap.size w5 w') [0, 1, 3, 4, 2, 5, 6, 7, 8, 9, 11, 12, 10, 13, 14, 15, 16, 17, 18, 20, 21, 19, 22, 23, 24, 25, 26, 27, 29, 30, 28, 31, 32, 33, 34, 35, 36, 37] (by kernel_rfl) (below_drew' (Below.refl _ _)) (fun hS => ?_)
    (refine Org.yes (v := ?_) rfl (by kernel_rfl) (by kernel_rfl) (by kernel_rfl) (by kernel_rfl) (by kernel_rfl) (fun _ _ _ h => h) (by kernel_rfl) (SM.of hS) ?_ ?_; rotate_left; (focus (intro w hSw; (try dsimp only at hSw); have qx0 := cell_keep hSw x0; have qx1 := cell_keep hSw x1; have qx2 := cell_keep hSw x2; have qx3 := cell_keep hSw x3; have qx4 := cell_keep hSw x4; have qx5 := cell_keep hSw x5; have qx6 := cell_keep hSw x6; have qx7 := cell_keep hSw x7; refine Pure.val ?_; go_simp; (try with_reducible rfl); done)); try simp only [Act.put, List.setIfInBounds_toArray, List.set_cons_zero, List.set_cons_succ])
    (refine Org.yes (v := ?_) rfl (by kernel_rfl) (by kernel_rfl) (by kernel_rfl) (by kernel_rfl) (by kernel_rfl) (fun _ _ _ h => h) (by kernel_rfl) (SM.of hS) ?_ ?_; rotate_left; (focus (intro w hSw; (try dsimp only at hSw); have qy0 := cell_keep hSw y0; have qy1 := cell_keep hSw y1; have qy2 := cell_keep hSw y2; have qy3 := cell_keep hSw y3; have qy4 := cell_keep hSw y4; have qy5 := cell_keep hSw y5; have qy6 := cell_keep hSw y6; have qy7 := cell_keep hSw y7; refine Pure.val ?_; go_simp; (try with_reducible rfl); done)); try simp only [Act.put, List.setIfInBounds_toArray, List.set_cons_zero, List.set_cons_succ])
    (refine Org.yes (v := ?_) rfl (by kernel_rfl) (by kernel_rfl) (by kernel_rfl) (by kernel_rfl) (by kernel_rfl) (fun _ _ _ h => h) (by kernel_rfl) (SM.of hS) ?_ ?_; rotate_left; (focus (intro w hSw; (try dsimp only at hSw); have qx0 := cell_keep hSw x0; have qx1 := cell_keep hSw x1; have qx2 := cell_keep hSw x2; have qx3 := cell_keep hSw x3; have qx4 := cell_keep hSw x4; have qx5 := cell_keep hSw x5; have qx6 := cell_keep hSw x6; have qx7 := cell_keep hSw x7; refine Pure.val ?_; go_simp; (try with_reducible rfl); done)); try simp only [Act.put, List.setIfInBounds_toArray, List.set_cons_zero, List.set_cons_succ])
    (refine Org.yes (v := ?_) rfl (by kernel_rfl) (by kernel_rfl) (by kernel_rfl) (by kernel_rfl) (by kernel_rfl) (fun _ _ _ h => h) (by kernel_rfl) (SM.of hS) ?_ ?_; rotate_left; (focus (intro w hSw; (try dsimp only at hSw); have qy0 := cell_keep hSw y0; have qy1 := cell_keep hSw y1; have qy2 := cell_keep hSw y2; have qy3 := cell_keep hSw y3; have qy4 := cell_keep hSw y4; have qy5 := cell_keep hSw y5; have qy6 := cell_keep hSw y6; have qy7 := cell_keep hSw y7; refine Pure.val ?_; go_simp; (try with_reducible rfl); done)); try simp only [Act.put, List.setIfInBounds_toArray, List.set_cons_zero, List.set_cons_succ])
    refine Org.go rfl (by kernel_rfl) (by kernel_rfl) (fun K hK => ?_)
    go_simp
    go_at_call 9
    refine (counts_any m rc _ Ad Ao A1 nd cd no co n1 c1 ts b1 _ ((HRM.out.below hS).mono hS.size) (Nat.le_refl _) HN1.out (by omega) Hb1.out).mono ?_
    rintro e wz ⟨rfl, hbk⟩
    have hS3 := hS.trans (hbk.mono hS.size)
    clear hbk
    go_wp2_with fail
    refine hK.out _ _ hS3 (fun hS2 => ?_)
    clear hS3
    clear hK K hS
    have hS := hS2
    clear hS2
    try simp only [Act.put, List.setIfInBounds_toArray, List.set_cons_zero, List.set_cons_succ]
    refine Org.go rfl (by kernel_rfl) (by kernel_rfl) (fun K hK => ?_)
    go_simp
    go_at_call 10
    refine (refcounts_any m rc _ Ad Ao A1 nd cd no co n1 c1 ts b1 _ ((HRM.out.below hS).mono hS.size) (Nat.le_refl _) HN1.out (by omega) Hb1.out).mono ?_
    rintro e wz ⟨rfl, hbk⟩
    have hS3 := hS.trans (hbk.mono hS.size)
    clear hbk
    go_wp2_with fail
    refine hK.out _ _ hS3 (fun hS2 => ?_)
    clear hS3
    clear hK K hS
    have hS := hS2
    clear hS2
    try simp only [Act.put, List.setIfInBounds_toArray, List.set_cons_zero, List.set_cons_succ]
    (refine Org.yes (v := ?_) rfl (by kernel_rfl) (by kernel_rfl) (by kernel_rfl) (by kernel_rfl) (by kernel_rfl) (fun _ _ _ h => h) (by kernel_rfl) (SM.of hS) ?_ ?_; rotate_left; (focus (intro w hSw; (try dsimp only at hSw); refine Pure.val ?_; go_simp; (try with_reducible rfl); done)); try simp only [Act.put, List.setIfInBounds_toArray, List.set_cons_zero, List.set_cons_succ])
    (refine Org.yes (v := ?_) rfl (by kernel_rfl) (by kernel_rfl) (by kernel_rfl) (by kernel_rfl) (by kernel_rfl) (fun _ _ _ h => h) (by kernel_rfl) (SM.of hS) ?_ ?_; rotate_left; (focus (intro w hSw; (try dsimp only at hSw); refine Pure.val ?_; go_simp; (try with_reducible rfl); done)); try simp only [Act.put, List.setIfInBounds_toArray, List.set_cons_zero, List.set_cons_succ])
    (refine Org.yes (v := ?_) rfl (by kernel_rfl) (by kernel_rfl) (by kernel_rfl) (by kernel_rfl) (by kernel_rfl) (fun _ _ _ h => h) (by kernel_rfl) (SM.of hS) ?_ ?_; rotate_left; (focus (intro w hSw; (try dsimp only at hSw); have qz0 := cell_keep hSw z0; have qz1 := cell_keep hSw z1; have qz2 := cell_keep hSw z2; have qz3 := cell_keep hSw z3; have qz4 := cell_keep hSw z4; have qz5 := cell_keep hSw z5; have qz6 := cell_keep hSw z6; have qz7 := cell_keep hSw z7; refine Pure.val ?_; go_simp; (try with_reducible rfl); done)); try simp only [Act.put, List.setIfInBounds_toArray, List.set_cons_zero, List.set_cons_succ])
    (refine Org.yes (v := ?_) rfl (by kernel_rfl) (by kernel_rfl) (by kernel_rfl) (by kernel_rfl) (by kernel_rfl) (fun _ _ _ h => h) (by kernel_rfl) (SM.of hS) ?_ ?_; rotate_left; (focus (intro w hSw; (try dsimp only at hSw); have qv0 := cell_keep hSw v0; have qv1 := cell_keep hSw v1; have qv2 := cell_keep hSw v2; have qv3 := cell_keep hSw v3; have qv4 := cell_keep hSw v4; have qv5 := cell_keep hSw v5; have qv6 := cell_keep hSw v6; have qv7 := cell_keep hSw v7; refine Pure.val ?_; go_simp; (try with_reducible rfl); done)); try simp only [Act.put, List.setIfInBounds_toArray, List.set_cons_zero, List.set_cons_succ])
    (refine Org.yes (v := ?_) rfl (by kernel_rfl) (by kernel_rfl) (by kernel_rfl) (by kernel_rfl) (by kernel_rfl) (fun _ _ _ h => h) (by kernel_rfl) (SM.of hS) ?_ ?_; rotate_left; (focus (intro w hSw; (try dsimp only at hSw); have qz0 := cell_keep hSw z0; have qz1 := cell_keep hSw z1; have qz2 := cell_keep hSw z2; have qz3 := cell_keep hSw z3; have qz4 := cell_keep hSw z4; have qz5 := cell_keep hSw z5; have qz6 := cell_keep hSw z6; have qz7 := cell_keep hSw z7; refine Pure.val ?_; go_simp; (try with_reducible rfl); done)); try simp only [Act.put, List.setIfInBounds_toArray, List.set_cons_zero, List.set_cons_succ])
    (refine Org.yes (v := ?_) rfl (by kernel_rfl) (by kernel_rfl) (by kernel_rfl) (by kernel_rfl) (by kernel_rfl) (fun _ _ _ h => h) (by kernel_rfl) (SM.of hS) ?_ ?_; rotate_left; (focus (intro w hSw; (try dsimp only at hSw); have qv0 := cell_keep hSw v0; have qv1 := cell_keep hSw v1; have qv2 := cell_keep hSw v2; have qv3 := cell_keep hSw v3; have qv4 := cell_keep hSw v4; have qv5 := cell_keep hSw v5; have qv6 := cell_keep hSw v6; have qv7 := cell_keep hSw v7; refine Pure.val ?_; go_simp; (try with_reducible rfl); done)); try simp only [Act.put, List.setIfInBounds_toArray, List.set_cons_zero, List.set_cons_succ])
    refine Org.go rfl (by kernel_rfl) (by kernel_rfl) (fun K hK => ?_)
    go_simp
    go_at_call 9
    refine (counts_any m2 r2 _ Ad2 Ao2 A2 nd2 cd2 no2 co2 n2 c2 ts2 b2 _ ((HRM2.out.below hS).mono hS.size) (Nat.le_refl _) HN2.out (by omega) Hb2.out).mono ?_
    rintro e wz ⟨rfl, hbk⟩
    have hS3 := hS.trans (hbk.mono hS.size)
    clear hbk
    go_wp2_with fail
    refine hK.out _ _ hS3 (fun hS2 => ?_)
    clear hS3
    clear hK K hS
    have hS := hS2
    clear hS2
    try simp only [Act.put, List.setIfInBounds_toArray, List.set_cons_zero, List.set_cons_succ]
    refine Org.go rfl (by kernel_rfl) (by kernel_rfl) (fun K hK => ?_)
    go_simp
    go_at_call 10
    refine (refcounts_any m2 r2 _ Ad2 Ao2 A2 nd2 cd2 no2 co2 n2 c2 ts2 b2 _ ((HRM2.out.below hS).mono hS.size) (Nat.le_refl _) HN2.out (by omega) Hb2.out).mono ?_
    rintro e wz ⟨rfl, hbk⟩
    have hS3 := hS.trans (hbk.mono hS.size)
    clear hbk
    go_wp2_with fail
    refine hK.out _ _ hS3 (fun hS2 => ?_)
    clear hS3
    clear hK K hS
    have hS := hS2
    clear hS2
    try simp only [Act.put, List.setIfInBounds_toArray, List.set_cons_zero, List.set_cons_succ]
    (refine Org.yes (v := ?_) rfl (by kernel_rfl) (by kernel_rfl) (by kernel_rfl) (by kernel_rfl) (by kernel_rfl) (fun _ _ _ h => h) (by kernel_rfl) (SM.of hS) ?_ ?_; rotate_left; (focus (intro w hSw; (try dsimp only at hSw); refine Pure.val ?_; go_simp; (try with_reducible rfl); done)); try simp only [Act.put, List.setIfInBounds_toArray, List.set_cons_zero, List.set_cons_succ])
    (refine Org.yes (v := ?_) rfl (by kernel_rfl) (by kernel_rfl) (by kernel_rfl) (by kernel_rfl) (by kernel_rfl) (fun _ _ _ h => h) (by kernel_rfl) (SM.of hS) ?_ ?_; rotate_left; (focus (intro w hSw; (try dsimp only at hSw); refine Pure.val ?_; go_simp; (try with_reducible rfl); done)); try simp only [Act.put, List.setIfInBounds_toArray, List.set_cons_zero, List.set_cons_succ])
    (refine Org.yes (v := ?_) rfl (by kernel_rfl) (by kernel_rfl) (by kernel_rfl) (by kernel_rfl) (by kernel_rfl) (fun _ _ _ h => h) (by kernel_rfl) (SM.of hS) ?_ ?_; rotate_left; (focus (intro w hSw; (try dsimp only at hSw); refine Pure.val ?_; go_simp; (try with_reducible rfl); done)); try simp only [Act.put, List.setIfInBounds_toArray, List.set_cons_zero, List.set_cons_succ])
    (refine Org.yes (v := ?_) rfl (by kernel_rfl) (by kernel_rfl) (by kernel_rfl) (by kernel_rfl) (by kernel_rfl) (fun _ _ _ h => h) (by kernel_rfl) (SM.of hS) ?_ ?_; rotate_left; (focus (intro w hSw; (try dsimp only at hSw); have qz0 := cell_keep hSw z0; have qz1 := cell_keep hSw z1; have qz2 := cell_keep hSw z2; have qz3 := cell_keep hSw z3; have qz4 := cell_keep hSw z4; have qz5 := cell_keep hSw z5; have qz6 := cell_keep hSw z6; have qz7 := cell_keep hSw z7; refine Pure.val ?_; go_simp; (try with_reducible rfl); done)); try simp only [Act.put, List.setIfInBounds_toArray, List.set_cons_zero, List.set_cons_succ])
    (refine Org.yes (v := ?_) rfl (by kernel_rfl) (by kernel_rfl) (by kernel_rfl) (by kernel_rfl) (by kernel_rfl) (fun _ _ _ h => h) (by kernel_rfl) (SM.of hS) ?_ ?_; rotate_left; (focus (intro w hSw; (try dsimp only at hSw); have qy0 := cell_keep hSw y0; have qy1 := cell_keep hSw y1; have qy2 := cell_keep hSw y2; have qy3 := cell_keep hSw y3; have qy4 := cell_keep hSw y4; have qy5 := cell_keep hSw y5; have qy6 := cell_keep hSw y6; have qy7 := cell_keep hSw y7; refine Pure.val ?_; go_simp; (try with_reducible rfl); done)); try simp only [Act.put, List.setIfInBounds_toArray, List.set_cons_zero, List.set_cons_succ])
    (refine Org.yes (v := ?_) rfl (by kernel_rfl) (by kernel_rfl) (by kernel_rfl) (by kernel_rfl) (by kernel_rfl) (fun _ _ _ h => h) (by kernel_rfl) (SM.of hS) ?_ ?_; rotate_left; (focus (intro w hSw; (try dsimp only at hSw); have qz0 := cell_keep hSw z0; have qz1 := cell_keep hSw z1; have qz2 := cell_keep hSw z2; have qz3 := cell_keep hSw z3; have qz4 := cell_keep hSw z4; have qz5 := cell_keep hSw z5; have qz6 := cell_keep hSw z6; have qz7 := cell_keep hSw z7; refine Pure.val ?_; go_simp; (try with_reducible rfl); done)); try simp only [Act.put, List.setIfInBounds_toArray, List.set_cons_zero, List.set_cons_succ])
    (refine Org.yes (v := ?_) rfl (by kernel_rfl) (by kernel_rfl) (by kernel_rfl) (by kernel_rfl) (by kernel_rfl) (fun _ _ _ h => h) (by kernel_rfl) (SM.of hS) ?_ ?_; rotate_left; (focus (intro w hSw; (try dsimp only at hSw); have qy0 := cell_keep hSw y0; have qy1 := cell_keep hSw y1; have qy2 := cell_keep hSw y2; have qy3 := cell_keep hSw y3; have qy4 := cell_keep hSw y4; have qy5 := cell_keep hSw y5; have qy6 := cell_keep hSw y6; have qy7 := cell_keep hSw y7; refine Pure.val ?_; go_simp; (try with_reducible rfl); done)); try simp only [Act.put, List.setIfInBounds_toArray, List.set_cons_zero, List.set_cons_succ])
    refine Org.go rfl (by kernel_rfl) (by kernel_rfl) (fun K hK => ?_)
    go_simp
    go_at_call 9
    refine (counts_any m2 rc _ Ad2 Ao2 A1 nd2 cd2 no2 co2 n1 c1 ts2 b3 _ ((HRM2.out.below hS).mono hS.size) (Nat.le_refl _) HN1.out (by omega) Hb3.out).mono ?_
    rintro e wz ⟨rfl, hbk⟩
    have hS3 := hS.trans (hbk.mono hS.size)
    clear hbk
    go_wp2_with fail
    refine hK.out _ _ hS3 (fun hS2 => ?_)
    clear hS3
    clear hK K hS
    have hS := hS2
    clear hS2
    try simp only [Act.put, List.setIfInBounds_toArray, List.set_cons_zero, List.set_cons_succ]
    refine Org.go rfl (by kernel_rfl) (by kernel_rfl) (fun K hK => ?_)
    go_simp
    go_at_call 10
    refine (refcounts_any m2 rc _ Ad2 Ao2 A1 nd2 cd2 no2 co2 n1 c1 ts2 b3 _ ((HRM2.out.below hS).mono hS.size) (Nat.le_refl _) HN1.out (by omega) Hb3.out).mono ?_
    rintro e wz ⟨rfl, hbk⟩
    have hS3 := hS.trans (hbk.mono hS.size)
    clear hbk
    go_wp2_with fail
    refine hK.out _ _ hS3 (fun hS2 => ?_)
    clear hS3
    clear hK K hS
    have hS := hS2
    clear hS2
    try simp only [Act.put, List.setIfInBounds_toArray, List.set_cons_zero, List.set_cons_succ]
    (refine Org.yes (v := ?_) rfl (by kernel_rfl) (by kernel_rfl) (by kernel_rfl) (by kernel_rfl) (by kernel_rfl) (fun _ _ _ h => h) (by kernel_rfl) (SM.of hS) ?_ ?_; rotate_left; (focus (intro w hSw; (try dsimp only at hSw); refine Pure.val ?_; go_simp; (try with_reducible rfl); done)); try simp only [Act.put, List.setIfInBounds_toArray, List.set_cons_zero, List.set_cons_succ])
    (refine Org.yes (v := ?_) rfl (by kernel_rfl) (by kernel_rfl) (by kernel_rfl) (by kernel_rfl) (by kernel_rfl) (fun _ _ _ h => h) (by kernel_rfl) (SM.of hS) ?_ ?_; rotate_left; (focus (intro w hSw; (try dsimp only at hSw); refine Pure.val ?_; go_simp; (try with_reducible rfl); done)); try simp only [Act.put, List.setIfInBounds_toArray, List.set_cons_zero, List.set_cons_succ])
    (refine Org.yes (v := ?_) rfl (by kernel_rfl) (by kernel_rfl) (by kernel_rfl) (by kernel_rfl) (by kernel_rfl) (fun _ _ _ h => h) (by kernel_rfl) (SM.of hS) ?_ ?_; rotate_left; (focus (intro w hSw; (try dsimp only at hSw); refine Pure.val ?_; go_simp; (try with_reducible rfl); done)); try simp only [Act.put, List.setIfInBounds_toArray, List.set_cons_zero, List.set_cons_succ])
    (refine Org.yes (v := ?_) rfl (by kernel_rfl) (by kernel_rfl) (by kernel_rfl) (by kernel_rfl) (by kernel_rfl) (fun _ _ _ h => h) (by kernel_rfl) (SM.of hS) ?_ ?_; rotate_left; (focus (intro w hSw; (try dsimp only at hSw); have qx0 := cell_keep hSw x0; have qx1 := cell_keep hSw x1; have qx2 := cell_keep hSw x2; have qx3 := cell_keep hSw x3; have qx4 := cell_keep hSw x4; have qx5 := cell_keep hSw x5; have qx6 := cell_keep hSw x6; have qx7 := cell_keep hSw x7; refine Pure.val ?_; go_simp; (try with_reducible rfl); done)); try simp only [Act.put, List.setIfInBounds_toArray, List.set_cons_zero, List.set_cons_succ])
    (refine Org.yes (v := ?_) rfl (by kernel_rfl) (by kernel_rfl) (by kernel_rfl) (by kernel_rfl) (by kernel_rfl) (fun _ _ _ h => h) (by kernel_rfl) (SM.of hS) ?_ ?_; rotate_left; (focus (intro w hSw; (try dsimp only at hSw); have qv0 := cell_keep hSw v0; have qv1 := cell_keep hSw v1; have qv2 := cell_keep hSw v2; have qv3 := cell_keep hSw v3; have qv4 := cell_keep hSw v4; have qv5 := cell_keep hSw v5; have qv6 := cell_keep hSw v6; have qv7 := cell_keep hSw v7; refine Pure.val ?_; go_simp; (try with_reducible rfl); done)); try simp only [Act.put, List.setIfInBounds_toArray, List.set_cons_zero, List.set_cons_succ])
    (refine Org.yes (v := ?_) rfl (by kernel_rfl) (by kernel_rfl) (by kernel_rfl) (by kernel_rfl) (by kernel_rfl) (fun _ _ _ h => h) (by kernel_rfl) (SM.of hS) ?_ ?_; rotate_left; (focus (intro w hSw; (try dsimp only at hSw); have qx0 := cell_keep hSw x0; have qx1 := cell_keep hSw x1; have qx2 := cell_keep hSw x2; have qx3 := cell_keep hSw x3; have qx4 := cell_keep hSw x4; have qx5 := cell_keep hSw x5; have qx6 := cell_keep hSw x6; have qx7 := cell_keep hSw x7; refine Pure.val ?_; go_simp; (try with_reducible rfl); done)); try simp only [Act.put, List.setIfInBounds_toArray, List.set_cons_zero, List.set_cons_succ])
    (refine Org.yes (v := ?_) rfl (by kernel_rfl) (by kernel_rfl) (by kernel_rfl) (by kernel_rfl) (by kernel_rfl) (fun _ _ _ h => h) (by kernel_rfl) (SM.of hS) ?_ ?_; rotate_left; (focus (intro w hSw; (try dsimp only at hSw); have qv0 := cell_keep hSw v0; have qv1 := cell_keep hSw v1; have qv2 := cell_keep hSw v2; have qv3 := cell_keep hSw v3; have qv4 := cell_keep hSw v4; have qv5 := cell_keep hSw v5; have qv6 := cell_keep hSw v6; have qv7 := cell_keep hSw v7; refine Pure.val ?_; go_simp; (try with_reducible rfl); done)); try simp only [Act.put, List.setIfInBounds_toArray, List.set_cons_zero, List.set_cons_succ])
    refine Org.go rfl (by kernel_rfl) (by kernel_rfl) (fun K hK => ?_)
    go_simp
    go_at_call 9
    refine (counts_any m r2 _ Ad Ao A2 nd cd no co n2 c2 ts b4 _ ((HRM.out.below hS).mono hS.size) (Nat.le_refl _) HN2.out (by omega) Hb4.out).mono ?_
    rintro e wz ⟨rfl, hbk⟩
    have hS3 := hS.trans (hbk.mono hS.size)
    clear hbk
    go_wp2_with fail
    refine hK.out _ _ hS3 (fun hS2 => ?_)
    clear hS3
    clear hK K hS
    have hS := hS2
    clear hS2
    try simp only [Act.put, List.setIfInBounds_toArray, List.set_cons_zero, List.set_cons_succ]
    refine Org.go rfl (by kernel_rfl) (by kernel_rfl) (fun K hK => ?_)
    go_simp
    go_at_call 10
    refine (refcounts_any m r2 _ Ad Ao A2 nd cd no co n2 c2 ts b4 _ ((HRM.out.below hS).mono hS.size) (Nat.le_refl _) HN2.out (by omega) Hb4.out).mono ?_
    rintro e wz ⟨rfl, hbk⟩
    have hS3 := hS.trans (hbk.mono hS.size)
    clear hbk
    go_wp2_with fail
    refine hK.out _ _ hS3 (fun hS2 => ?_)
    clear hS3
    clear hK K hS
    have hS := hS2
    clear hS2
    try simp only [Act.put, List.setIfInBounds_toArray, List.set_cons_zero, List.set_cons_succ]
    (refine Org.yes (v := ?_) rfl (by kernel_rfl) (by kernel_rfl) (by kernel_rfl) (by kernel_rfl) (by kernel_rfl) (fun _ _ _ h => h) (by kernel_rfl) (SM.of hS) ?_ ?_; rotate_left; (focus (intro w hSw; (try dsimp only at hSw); refine Pure.val ?_; go_simp; (try with_reducible rfl); done)); try simp only [Act.put, List.setIfInBounds_toArray, List.set_cons_zero, List.set_cons_succ])
    (refine Org.yes (v := ?_) rfl (by kernel_rfl) (by kernel_rfl) (by kernel_rfl) (by kernel_rfl) (by kernel_rfl) (fun _ _ _ h => h) (by kernel_rfl) (SM.of hS) ?_ ?_; rotate_left; (focus (intro w hSw; (try dsimp only at hSw); refine Pure.val ?_; go_simp; (try with_reducible rfl); done)); try simp only [Act.put, List.setIfInBounds_toArray, List.set_cons_zero, List.set_cons_succ])
    (refine Org.yes (v := ?_) rfl (by kernel_rfl) (by kernel_rfl) (by kernel_rfl) (by kernel_rfl) (by kernel_rfl) (fun _ _ _ h => h) (by kernel_rfl) (SM.of hS) ?_ ?_; rotate_left; (focus (intro w hSw; (try dsimp only at hSw); refine Pure.val ?_; go_simp; (try with_reducible rfl); done)); try simp only [Act.put, List.setIfInBounds_toArray, List.set_cons_zero, List.set_cons_succ])
    refine Org.go rfl (by kernel_rfl) (by kernel_rfl) (fun K hK => ?_)
    go_simp
    go_at_call 6
    refine (wakes23 _).mono ?_
    rintro e wz ⟨rfl, hbk⟩
    have hS3 := hS.trans (hbk.mono hS.size)
    clear hbk
    go_wp2_with fail
    refine hK.out _ _ hS3 (fun hS2 => ?_)
    clear hS3
    clear hK K hS
    have hS := hS2
    clear hS2
    try simp only [Act.put, List.setIfInBounds_toArray, List.set_cons_zero, List.set_cons_succ]
    (refine Org.yes (v := ?_) rfl (by kernel_rfl) (by kernel_rfl) (by kernel_rfl) (by kernel_rfl) (by kernel_rfl) (fun _ _ _ h => h) (by kernel_rfl) (SM.of hS) ?_ ?_; rotate_left; (focus (intro w hSw; (try dsimp only at hSw); refine Pure.val ?_; go_simp; (try with_reducible rfl); done)); try simp only [Act.put, List.setIfInBounds_toArray, List.set_cons_zero, List.set_cons_succ])
    (refine Org.yes (v := ?_) rfl (by kernel_rfl) (by kernel_rfl) (by kernel_rfl) (by kernel_rfl) (by kernel_rfl) (fun _ _ _ h => h) (by kernel_rfl) (SM.of hS) ?_ ?_; rotate_left; (focus (intro w hSw; (try dsimp only at hSw); refine Pure.val ?_; go_simp; (try with_reducible rfl); done)); try simp only [Act.put, List.setIfInBounds_toArray, List.set_cons_zero, List.set_cons_succ])
    refine Org.done (by kernel_rfl) ?_
    go_wp2_with fail
    go_ret
    exact ⟨rfl, HB5.out.trans (hS.mono HB5.out.size)⟩
end Go.Proofs.Ytnknjeipfjdjoaa

