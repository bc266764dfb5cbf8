/- Wakes20 -/
import Derived.Test.YtbpimfhachbcdaaDoorBPageSplits31
import Derived.Test.YtbpimfhachbcdaaDoorBPageSplits32
import Derived.Test.YtbpimfhachbcdaaDoorBPageSplits47
import Derived.Test.YtbpimfhachbcdaaDoorBPageSplits48
set_option maxRecDepth 20000
set_option linter.unusedSimpArgs false
set_option linter.unusedVariables false
namespace Go.Proofs.YtbpimfhachbcdaaDoor
open Go.RowKit Wells
theorem OMs.read {base : Nat} {w : World} {A : Option Addr} {n c : Nat} {xs : List MD} (h : OMs base w (.slice A n c) xs) (hn : xs.length = n) : RMs w w.heap.size A n xs := by
  subst hn
  exact ⟨Sl.own h.own, rfl, fun x hx => (h.at_ x hx).read⟩
theorem pages0 : joinL (pagesL mani0.seq (pack mani0)) = [mani0] := by
  have h := mani0_len
  refine PagesOf.one ⟨fun m hm => ?_, fun m hm => ?_, fun m hm m' hm' _ => ?_, fun c hc => ?_⟩ (fun c hc => hc)
  · rw [List.mem_singleton.1 hm]; exact mani0_may
  · rw [List.mem_singleton.1 hm]; unfold pageN; omega
  · rw [List.mem_singleton.1 hm, List.mem_singleton.1 hm']
  · obtain ⟨j, hj, rfl⟩ := List.mem_map.1 hc
    exact ⟨mani0, List.mem_singleton.2 rfl, j, List.mem_range.1 hj, rfl⟩
theorem same_dec (m : Mani) : decide (m = m) = true := decide_eq_true rfl
theorem pages_len64 {q : Int} {p c : List Byte} (h : c ∈ pagesL q p) : c.length ≤ 1048576 := by
  obtain ⟨j, _, rfl⟩ := List.mem_map.1 h
  rw [pageC_len]
  omega
set_option maxRecDepth 20000 in
set_option maxHeartbeats 4000000 in
theorem wakes20 (w : World) : Calls Tryd.prog 9 #[] w fun e w' => e = .returned (.bool true) ∧ Below w.heap.size w w' := by
  have HP0 := hid pages0
  have HDEC := hid (same_dec mani0)
  have hr0 := Row.new w 3 #[.int .i64 3]
  have hb1 : Below w.heap.size w (w.alloc (.cells #[.int .i64 3] 3)) := (Below.refl _ _).alloc (Nat.le_refl _) _
  have hr1 := Row.new (w.alloc (.cells #[.int .i64 3] 3)) 27 #[.int .i64 1, .int .i64 0, .int .i64 1, .int .i64 1, .int .i64 1, .int .i64 0, .slice (some ⟨w.heap.size, 0, none⟩) 1 1, .slice none 0 0]
  have hr0' := hr0.alloc (.cells #[.int .i64 1, .int .i64 0, .int .i64 1, .int .i64 1, .int .i64 1, .int .i64 0, .slice (some ⟨w.heap.size, 0, none⟩) 1 1, .slice none 0 0] 27)
  have hb2 := hb1.alloc hb1.size (.cells #[.int .i64 1, .int .i64 0, .int .i64 1, .int .i64 1, .int .i64 1, .int .i64 0, .slice (some ⟨w.heap.size, 0, none⟩) 1 1, .slice none 0 0] 27)
  have hs0 := hr0'.sl (B := w.heap.size + 1) (m := 1) (by omega) (by simp)
  have hrm := mani0_rm (A := none) (c := 1) hs0 (by omega)
  have hg : (w.alloc (.cells #[.int .i64 3] 3)).heap.size = w.heap.size + 1 := by simp
  have hz2 : w.heap.size + 1 ≤ ((w.alloc (.cells #[.int .i64 3] 3)).alloc (.cells #[.int .i64 1, .int .i64 0, .int .i64 1, .int .i64 1, .int .i64 1, .int .i64 0, .slice (some ⟨w.heap.size, 0, none⟩) 1 1, .slice none 0 0] 27)).heap.size := by simp
  rw [hg] at hr1
  clear hr0 hb1 hr0' hs0 hg
  go_enter Tryd.func9, Tryd.ntmps9
  go_wp2_with fail
  generalize (w.alloc (.cells #[.int .i64 3] 3)).alloc (.cells #[.int .i64 1, .int .i64 0, .int .i64 1, .int .i64 1, .int .i64 1, .int .i64 0, .slice (some ⟨w.heap.size, 0, none⟩) 1 1, .slice none 0 0] 27) = w2 at *
  refine (psplit_any mani0 (w.heap.size + 1) _ _ _ _ _ _ _ w2 hrm hz2 mani0_64 mani0_nm).mono ?_
  rintro e w3 ⟨A3, c3, vs3, rfl, ho3, hb3⟩
  obtain ⟨n3, hn3⟩ : ∃ n, (pagesL mani0.seq (pack mani0)).length = n := ⟨_, rfl⟩
  rw [hn3] at ho3 ⊢
  have hrb := ho3.read hn3
  have hn1 : n3 ≤ 1048576 := by rw [← hn3, pagesL_len]; unfold pageN; rw [mani0_len]; omega
  have HRM3 := hid (hrm.below (hb3.mono hz2))
  have HR3 := hid (hr1.below hb3 hr1.lt)
  have HZ3 := hid (Nat.le_trans hz2 hb3.size)
  have HB03 := hid (hb2.trans (hb3.mono hb2.size))
  have HRB := hid hrb
  clear hrm hr1 ho3 hb3 hb2 hrb hz2 hn3
  go_wp2_with fail
  refine (pjoin_any w3.heap.size A3 n3 c3 vs3 (pagesL mani0.seq (pack mani0)) w3 HRB.out (Nat.le_refl _) hn1 (fun x hx => pages_len64 hx)).mono ?_
  rintro e w4 ⟨A4, n4, c4, xs, rfl, hn4, hc4, ho4, hxs, hb4⟩
  rw [HP0.out] at hn4 hxs
  obtain rfl : n4 = 1 := hn4
  have hxl : xs.length = 1 := by
    have := congrArg List.length hxs
    simpa using this
  have hxr := ho4.read hxl
  have HM := hid ((HRM3.out.below (hb4.mono HZ3.out)).mono (Nat.le_trans HZ3.out hb4.size))
  have HX := hid (HR3.out.below hb4 HR3.out.lt)
  have HZ := hid (Nat.le_trans HZ3.out hb4.size)
  have HB4 := hid (HB03.out.trans (hb4.mono HB03.out.size))
  obtain ⟨bbx, ox, rfl, hbbx, hxm, hxg, hcells⟩ := hxr.get (i := 0) (by omega)
  obtain ⟨xx, hx⟩ : ∃ x, xs[0]! = x := ⟨_, rfl⟩
  rw [hx] at hxm hcells hxg
  have hx0 : xx.m = mani0 := by
    have h2 : (xs.map MD.m)[0]? = some xx.m := by rw [List.getElem?_map, hxg]; rfl
    rw [hxs] at h2
    injection h2 with h2
    exact h2.symm
  have hrx := hxr.at_ xx hxm
  rw [hx0] at hrx
  have HRX := hid hrx
  have HBX := hid hbbx
  have PX0 := hid (hcells 0 _ rfl)
  have PX1 := hid (hcells 1 _ rfl)
  have PX2 := hid (hcells 2 _ rfl)
  have PX3 := hid (hcells 3 _ rfl)
  have PX4 := hid (hcells 4 _ rfl)
  have PX5 := hid (hcells 5 _ rfl)
  have PX6 := hid (hcells 6 _ rfl)
  have PX7 := hid (hcells 7 _ rfl)
  rw [hx0] at PX0 PX1 PX2 PX3 PX4 PX5
  simp only [Nat.add_zero, Nat.zero_mul] at PX0 PX1 PX2 PX3 PX4 PX5 PX6 PX7
  clear hx hxm hxg hcells hxs hxl hxr ho4 hb4 hrx hbbx hn1 hx0
  go_upto_region 3 with fail
  refine Org.begin [] (fun w' => Below w4.heap.size w4 w') [0, 1, 2, 3, 4, 5, 6, 7, 8, 9, 10] (by kernel_rfl) (below_drewN (Below.refl _ _) 1) (fun hS => ?_)
  (refine Org.yes (v := ?_) rfl (by kernel_rfl) (by kernel_rfl) (by kernel_rfl) (by kernel_rfl) (by kernel_rfl) (fun _ _ _ h => h) (by kernel_rfl) (SM.of hS) ?_ ?_; rotate_left; (focus (intro w hSw; (try dsimp only at hSw); refine Pure.val ?_; go_simp; (try with_reducible rfl); done)); try simp only [Act.put, List.setIfInBounds_toArray, List.set_cons_zero, List.set_cons_succ])
  (refine Org.yes (v := ?_) rfl (by kernel_rfl) (by kernel_rfl) (by kernel_rfl) (by kernel_rfl) (by kernel_rfl) (fun _ _ _ h => h) (by kernel_rfl) (SM.of hS) ?_ ?_; rotate_left; (focus (intro w hSw; (try dsimp only at hSw); refine Pure.val ?_; go_simp; (try with_reducible rfl); done)); try simp only [Act.put, List.setIfInBounds_toArray, List.set_cons_zero, List.set_cons_succ])
  (refine Org.yes (v := ?_) rfl (by kernel_rfl) (by kernel_rfl) (by kernel_rfl) (by kernel_rfl) (by kernel_rfl) (fun _ _ _ h => h) (by kernel_rfl) (SM.of hS) ?_ ?_; rotate_left; (focus (intro w hSw; (try dsimp only at hSw); refine Pure.val ?_; go_simp; (try with_reducible rfl); done)); try simp only [Act.put, List.setIfInBounds_toArray, List.set_cons_zero, List.set_cons_succ])
  (refine Org.yes (v := ?_) rfl (by kernel_rfl) (by kernel_rfl) (by kernel_rfl) (by kernel_rfl) (by kernel_rfl) (fun _ _ _ h => h) (by kernel_rfl) (SM.of hS) ?_ ?_; rotate_left; (focus (intro w hSw; (try dsimp only at hSw); refine Pure.val ?_; go_simp; (try with_reducible rfl); done)); try simp only [Act.put, List.setIfInBounds_toArray, List.set_cons_zero, List.set_cons_succ])
  (refine Org.yes (v := ?_) rfl (by kernel_rfl) (by kernel_rfl) (by kernel_rfl) (by kernel_rfl) (by kernel_rfl) (fun _ _ _ h => h) (by kernel_rfl) (SM.of hS) ?_ ?_; rotate_left; (focus (intro w hSw; (try dsimp only at hSw); refine Pure.val ?_; go_simp; (try with_reducible rfl); done)); try simp only [Act.put, List.setIfInBounds_toArray, List.set_cons_zero, List.set_cons_succ])
  (refine Org.yes (v := ?_) rfl (by kernel_rfl) (by kernel_rfl) (by kernel_rfl) (by kernel_rfl) (by kernel_rfl) (fun _ _ _ h => h) (by kernel_rfl) (SM.of hS) ?_ ?_; rotate_left; (focus (intro w hSw; (try dsimp only at hSw); refine Pure.val ?_; go_simp; (try with_reducible rfl); done)); try simp only [Act.put, List.setIfInBounds_toArray, List.set_cons_zero, List.set_cons_succ])
  (refine Org.yes (v := ?_) rfl (by kernel_rfl) (by kernel_rfl) (by kernel_rfl) (by kernel_rfl) (by kernel_rfl) (fun _ _ _ h => h) (by kernel_rfl) (SM.of hS) ?_ ?_; rotate_left; (focus (intro w hSw; (try dsimp only at hSw); have y0 := (hSw.cell (p := ⟨bbx, ox, none⟩) HBX.out).trans PX0.out; have y1 := (hSw.cell (p := ⟨bbx, ox + 1, none⟩) HBX.out).trans PX1.out; have y2 := (hSw.cell (p := ⟨bbx, ox + 2, none⟩) HBX.out).trans PX2.out; have y3 := (hSw.cell (p := ⟨bbx, ox + 3, none⟩) HBX.out).trans PX3.out; have y4 := (hSw.cell (p := ⟨bbx, ox + 4, none⟩) HBX.out).trans PX4.out; have y5 := (hSw.cell (p := ⟨bbx, ox + 5, none⟩) HBX.out).trans PX5.out; have y6 := (hSw.cell (p := ⟨bbx, ox + 6, none⟩) HBX.out).trans PX6.out; have y7 := (hSw.cell (p := ⟨bbx, ox + 7, none⟩) HBX.out).trans PX7.out; refine Pure.val ?_; go_simp; (try with_reducible rfl); done)); try simp only [Act.put, List.setIfInBounds_toArray, List.set_cons_zero, List.set_cons_succ])
  (refine Org.yes (v := ?_) rfl (by kernel_rfl) (by kernel_rfl) (by kernel_rfl) (by kernel_rfl) (by kernel_rfl) (fun _ _ _ h => h) (by kernel_rfl) (SM.of hS) ?_ ?_; rotate_left; (focus (intro w hSw; (try dsimp only at hSw); have hr := HX.out.below hSw HX.out.lt; have x0 := hr.cell 0; have x1 := hr.cell 1; have x2 := hr.cell 2; have x3 := hr.cell 3; have x4 := hr.cell 4; have x5 := hr.cell 5; have x6 := hr.cell 6; have x7 := hr.cell 7; simp only [List.getElem?_cons_succ, List.getElem?_cons_zero] at x0 x1 x2 x3 x4 x5 x6 x7; refine Pure.val ?_; go_simp; (try with_reducible rfl); done)); try simp only [Act.put, List.setIfInBounds_toArray, List.set_cons_zero, List.set_cons_succ])
  refine Org.go rfl (by kernel_rfl) (by kernel_rfl) (fun K hK => ?_)
  go_simp
  go_at_call 26
  have hrx := HRX.out.below hS
  refine (samemani_any mani0 mani0 _ xx.Ad xx.Ao _ _ xx.nd xx.cd xx.no xx.co _ _ _ _ xx.ts _ true _ (hrx.mono hS.size) ((HM.out.below hS).mono hS.size) (Nat.le_refl _) HDEC.out).mono ?_
  rintro e w7 ⟨rfl, hb7⟩
  have hS3 := hS.trans (hb7.mono hS.size)
  clear hb7
  go_wp2_with fail
  refine hK.out _ _ hS3 (fun hS2 => ?_)
  clear hS3
  clear hK K hS
  have hS := hS2
  clear hS2
  try simp only [Act.put, List.setIfInBounds_toArray, List.set_cons_zero, List.set_cons_succ]
  (refine Org.yes (v := ?_) rfl (by kernel_rfl) (by kernel_rfl) (by kernel_rfl) (by kernel_rfl) (by kernel_rfl) (fun _ _ _ h => h) (by kernel_rfl) (SM.of hS) ?_ ?_; rotate_left; (focus (intro w hSw; (try dsimp only at hSw); refine Pure.val ?_; go_simp; (try with_reducible rfl); done)); try simp only [Act.put, List.setIfInBounds_toArray, List.set_cons_zero, List.set_cons_succ])
  (refine Org.yes (v := ?_) rfl (by kernel_rfl) (by kernel_rfl) (by kernel_rfl) (by kernel_rfl) (by kernel_rfl) (fun _ _ _ h => h) (by kernel_rfl) (SM.of hS) ?_ ?_; rotate_left; (focus (intro w hSw; (try dsimp only at hSw); refine Pure.val ?_; go_simp; (try with_reducible rfl); done)); try simp only [Act.put, List.setIfInBounds_toArray, List.set_cons_zero, List.set_cons_succ])
  refine Org.done (by kernel_rfl) ?_
  have HSE := hid hS
  clear hS
  go_wp2_with fail
  go_ret
  exact ⟨rfl, HB4.out.trans (HSE.out.mono HB4.out.size)⟩
end Go.Proofs.YtbpimfhachbcdaaDoor

