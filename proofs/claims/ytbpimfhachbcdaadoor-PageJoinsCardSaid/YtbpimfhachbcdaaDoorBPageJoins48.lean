/- Wakes20 Manis RBs Mixed PageAlt -/
import Derived.Test.YtbpimfhachbcdaaDoorBPageJoins28
import Derived.Test.YtbpimfhachbcdaaDoorBPageJoins31
import Derived.Test.YtbpimfhachbcdaaDoorBPageJoins44
import Derived.Test.YtbpimfhachbcdaaDoorBPageJoins46
import Derived.Test.YtbpimfhachbcdaaDoorBPageJoins47
set_option maxRecDepth 20000
set_option linter.unusedSimpArgs false
set_option linter.unusedVariables false
namespace Go.Proofs.YtbpimfhachbcdaaDoor
open Go.RowKit Wells
theorem OMs.read {base : Nat} {w : World} {A : Option Addr} {n c : Nat} {xs : List MD} (h : OMs base w (.slice A n c) xs) (hn : xs.length = n) : RMs w w.heap.size A n xs := by
  subst hn
  exact ⟨Sl.own h.own, rfl, fun x hx => (h.at_ x hx).read⟩
theorem pages0 : joinL (pagesL mani0.seq (pack mani0)) = [mani0] := by
  have h := mani0_len
  refine PagesOf.one ⟨fun m hm => ?_, fun m hm => ?_, fun m hm m' hm' _ => ?_, fun c hc => ?_⟩ (fun c hc => hc)
  · rw [List.mem_singleton.1 hm]; exact mani0_may
  · rw [List.mem_singleton.1 hm]; unfold pageN; omega
  · rw [List.mem_singleton.1 hm, List.mem_singleton.1 hm']
  · obtain ⟨j, hj, rfl⟩ := List.mem_map.1 hc
    exact ⟨mani0, List.mem_singleton.2 rfl, j, List.mem_range.1 hj, rfl⟩
theorem same_dec (m : Mani) : decide (m = m) = true := decide_eq_true rfl
theorem pages_len64 {q : Int} {p c : List Byte} (h : c ∈ pagesL q p) : c.length ≤ 1048576 := by
  obtain ⟨j, _, rfl⟩ := List.mem_map.1 h
  rw [pageC_len]
  omega
set_option maxRecDepth 20000 in
set_option maxHeartbeats 4000000 in
theorem wakes20 (w : World) : Calls Tryd.prog 9 #[] w fun e w' => e = .returned (.bool true) ∧ Below w.heap.size w w' := by
  have HP0 := hid pages0
  have HDEC := hid (same_dec mani0)
  have hr0 := Row.new w 3 #[.int .i64 3]
  have hb1 : Below w.heap.size w (w.alloc (.cells #[.int .i64 3] 3)) := (Below.refl _ _).alloc (Nat.le_refl _) _
  have hr1 := Row.new (w.alloc (.cells #[.int .i64 3] 3)) 27 #[.int .i64 1, .int .i64 0, .int .i64 1, .int .i64 1, .int .i64 1, .int .i64 0, .slice (some ⟨w.heap.size, 0, none⟩) 1 1, .slice none 0 0]
  have hr0' := hr0.alloc (.cells #[.int .i64 1, .int .i64 0, .int .i64 1, .int .i64 1, .int .i64 1, .int .i64 0, .slice (some ⟨w.heap.size, 0, none⟩) 1 1, .slice none 0 0] 27)
  have hb2 := hb1.alloc hb1.size (.cells #[.int .i64 1, .int .i64 0, .int .i64 1, .int .i64 1, .int .i64 1, .int .i64 0, .slice (some ⟨w.heap.size, 0, none⟩) 1 1, .slice none 0 0] 27)
  have hs0 := hr0'.sl (B := w.heap.size + 1) (m := 1) (by omega) (by simp)
  have hrm := mani0_rm (A := none) (c := 1) hs0 (by omega)
  have hg : (w.alloc (.cells #[.int .i64 3] 3)).heap.size = w.heap.size + 1 := by simp
  have hz2 : w.heap.size + 1 ≤ ((w.alloc (.cells #[.int .i64 3] 3)).alloc (.cells #[.int .i64 1, .int .i64 0, .int .i64 1, .int .i64 1, .int .i64 1, .int .i64 0, .slice (some ⟨w.heap.size, 0, none⟩) 1 1, .slice none 0 0] 27)).heap.size := by simp
  rw [hg] at hr1
  clear hr0 hb1 hr0' hs0 hg
  go_enter Tryd.func9, Tryd.ntmps9
  go_wp2_with fail
  generalize (w.alloc (.cells #[.int .i64 3] 3)).alloc (.cells #[.int .i64 1, .int .i64 0, .int .i64 1, .int .i64 1, .int .i64 1, .int .i64 0, .slice (some ⟨w.heap.size, 0, none⟩) 1 1, .slice none 0 0] 27) = w2 at *
  refine (psplit_any mani0 (w.heap.size + 1) _ _ _ _ _ _ _ w2 hrm hz2 mani0_64 mani0_nm).mono ?_
  rintro e w3 ⟨A3, c3, vs3, rfl, ho3, hb3⟩
  obtain ⟨n3, hn3⟩ : ∃ n, (pagesL mani0.seq (pack mani0)).length = n := ⟨_, rfl⟩
  rw [hn3] at ho3 ⊢
  have hrb := ho3.read hn3
  have hn1 : n3 ≤ 1048576 := by rw [← hn3, pagesL_len]; unfold pageN; rw [mani0_len]; omega
  have HRM3 := hid (hrm.below (hb3.mono hz2))
  have HR3 := hid (hr1.below hb3 hr1.lt)
  have HZ3 := hid (Nat.le_trans hz2 hb3.size)
  have HB03 := hid (hb2.trans (hb3.mono hb2.size))
  have HRB := hid hrb
  clear hrm hr1 ho3 hb3 hb2 hrb hz2 hn3
  go_wp2_with fail
  refine (pjoin_any w3.heap.size A3 n3 c3 vs3 (pagesL mani0.seq (pack mani0)) w3 HRB.out (Nat.le_refl _) hn1 (fun x hx => pages_len64 hx)).mono ?_
  rintro e w4 ⟨A4, n4, c4, xs, rfl, hn4, hc4, ho4, hxs, hb4⟩
  rw [HP0.out] at hn4 hxs
  obtain rfl : n4 = 1 := hn4
  have hxl : xs.length = 1 := by
    have := congrArg List.length hxs
    simpa using this
  have hxr := ho4.read hxl
  have HM := hid ((HRM3.out.below (hb4.mono HZ3.out)).mono (Nat.le_trans HZ3.out hb4.size))
  have HX := hid (HR3.out.below hb4 HR3.out.lt)
  have HZ := hid (Nat.le_trans HZ3.out hb4.size)
  have HB4 := hid (HB03.out.trans (hb4.mono HB03.out.size))
  obtain ⟨bbx, ox, rfl, hbbx, hxm, hxg, hcells⟩ := hxr.get (i := 0) (by omega)
  obtain ⟨xx, hx⟩ : ∃ x, xs[0]! = x := ⟨_, rfl⟩
  rw [hx] at hxm hcells hxg
  have hx0 : xx.m = mani0 := by
    have h2 : (xs.map MD.m)[0]? = some xx.m := by rw [List.getElem?_map, hxg]; rfl
    rw [hxs] at h2
    injection h2 with h2
    exact h2.symm
  have hrx := hxr.at_ xx hxm
  rw [hx0] at hrx
  have HRX := hid hrx
  have HBX := hid hbbx
  have PX0 := hid (hcells 0 _ rfl)
  have PX1 := hid (hcells 1 _ rfl)
  have PX2 := hid (hcells 2 _ rfl)
  have PX3 := hid (hcells 3 _ rfl)
  have PX4 := hid (hcells 4 _ rfl)
  have PX5 := hid (hcells 5 _ rfl)
  have PX6 := hid (hcells 6 _ rfl)
  have PX7 := hid (hcells 7 _ rfl)
  rw [hx0] at PX0 PX1 PX2 PX3 PX4 PX5
  simp only [Nat.add_zero, Nat.zero_mul] at PX0 PX1 PX2 PX3 PX4 PX5 PX6 PX7
  clear hx hxm hxg hcells hxs hxl hxr ho4 hb4 hrx hbbx hn1 hx0
  go_upto_region 3 with fail
  refine Org.begin [] (fun w' => Below w4.heap.size w4 w') [0, 1, 2, 3, 4, 5, 6, 7, 8, 9, 10] (by kernel_rfl) (below_drewN (Below.refl _ _) 1) (fun hS => ?_)
  iterate 6 (refine Org.yes (v := ?_) rfl (by kernel_rfl) (by kernel_rfl) (by kernel_rfl) (by kernel_rfl) (by kernel_rfl) (fun _ _ _ h => h) (by kernel_rfl) (SM.of hS) ?_ ?_; rotate_left; (focus (intro w hSw; (try dsimp only at hSw); refine Pure.val ?_; go_simp; (try with_reducible rfl); done)); try simp only [Act.put, List.setIfInBounds_toArray, List.set_cons_zero, List.set_cons_succ])
  (refine Org.yes (v := ?_) rfl (by kernel_rfl) (by kernel_rfl) (by kernel_rfl) (by kernel_rfl) (by kernel_rfl) (fun _ _ _ h => h) (by kernel_rfl) (SM.of hS) ?_ ?_; rotate_left; (focus (intro w hSw; (try dsimp only at hSw); have y0 := (hSw.cell (p := ⟨bbx, ox, none⟩) HBX.out).trans PX0.out; have y1 := (hSw.cell (p := ⟨bbx, ox + 1, none⟩) HBX.out).trans PX1.out; have y2 := (hSw.cell (p := ⟨bbx, ox + 2, none⟩) HBX.out).trans PX2.out; have y3 := (hSw.cell (p := ⟨bbx, ox + 3, none⟩) HBX.out).trans PX3.out; have y4 := (hSw.cell (p := ⟨bbx, ox + 4, none⟩) HBX.out).trans PX4.out; have y5 := (hSw.cell (p := ⟨bbx, ox + 5, none⟩) HBX.out).trans PX5.out; have y6 := (hSw.cell (p := ⟨bbx, ox + 6, none⟩) HBX.out).trans PX6.out; have y7 := (hSw.cell (p := ⟨bbx, ox + 7, none⟩) HBX.out).trans PX7.out; refine Pure.val ?_; go_simp; (try with_reducible rfl); done)); try simp only [Act.put, List.setIfInBounds_toArray, List.set_cons_zero, List.set_cons_succ])
  (refine Org.yes (v := ?_) rfl (by kernel_rfl) (by kernel_rfl) (by kernel_rfl) (by kernel_rfl) (by kernel_rfl) (fun _ _ _ h => h) (by kernel_rfl) (SM.of hS) ?_ ?_; rotate_left; (focus (intro w hSw; (try dsimp only at hSw); have hr := HX.out.below hSw HX.out.lt; have x0 := hr.cell 0; have x1 := hr.cell 1; have x2 := hr.cell 2; have x3 := hr.cell 3; have x4 := hr.cell 4; have x5 := hr.cell 5; have x6 := hr.cell 6; have x7 := hr.cell 7; simp only [List.getElem?_cons_succ, List.getElem?_cons_zero] at x0 x1 x2 x3 x4 x5 x6 x7; refine Pure.val ?_; go_simp; (try with_reducible rfl); done)); try simp only [Act.put, List.setIfInBounds_toArray, List.set_cons_zero, List.set_cons_succ])
  refine Org.go rfl (by kernel_rfl) (by kernel_rfl) (fun K hK => ?_)
  go_simp
  go_at_call 26
  have hrx := HRX.out.below hS
  refine (samemani_any mani0 mani0 _ xx.Ad xx.Ao _ _ xx.nd xx.cd xx.no xx.co _ _ _ _ xx.ts _ true _ (hrx.mono hS.size) ((HM.out.below hS).mono hS.size) (Nat.le_refl _) HDEC.out).mono ?_
  rintro e w7 ⟨rfl, hb7⟩
  have hS3 := hS.trans (hb7.mono hS.size)
  clear hb7
  go_wp2_with fail
  refine hK.out _ _ hS3 (fun hS2 => ?_)
  clear hS3
  clear hK K hS
  have hS := hS2
  clear hS2
  try simp only [Act.put, List.setIfInBounds_toArray, List.set_cons_zero, List.set_cons_succ]
  iterate 2 (refine Org.yes (v := ?_) rfl (by kernel_rfl) (by kernel_rfl) (by kernel_rfl) (by kernel_rfl) (by kernel_rfl) (fun _ _ _ h => h) (by kernel_rfl) (SM.of hS) ?_ ?_; rotate_left; (focus (intro w hSw; (try dsimp only at hSw); refine Pure.val ?_; go_simp; (try with_reducible rfl); done)); try simp only [Act.put, List.setIfInBounds_toArray, List.set_cons_zero, List.set_cons_succ])
  refine Org.done (by kernel_rfl) ?_
  have HSE := hid hS
  clear hS
  go_wp2_with fail
  go_ret
  exact ⟨rfl, HB4.out.trans (HSE.out.mono HB4.out.size)⟩
end Go.Proofs.YtbpimfhachbcdaaDoor

namespace Go.Proofs.YtbpimfhachbcdaaDoor
open Go.RowKit Wells
theorem eqm_step {xs ys : List Mani} {k : Nat} {x y : Mani} {b : Bool} (hx : xs[k]? = some x) (hy : ys[k]? = some y) (ht : xs.take k = ys.take k) (hb : decide (x = y) = b) : (b = true → xs.take (k + 1) = ys.take (k + 1)) ∧ (b = false → ¬ xs = ys) := by
  constructor
  · intro e
    have e2 : x = y := of_decide_eq_true (hb.trans e)
    rw [List.take_add_one, List.take_add_one, hx, hy, ht, e2]
  · intro e e3
    have e2 : ¬ x = y := of_decide_eq_false (hb.trans e)
    rw [e3, hy] at hx
    injection hx with hx
    exact e2 hx.symm
set_option maxRecDepth 20000 in
set_option maxHeartbeats 2000000 in
theorem manis_any (B : Nat) (A A' : Option Addr) (n c n' c' : Nat) (xs ys : List MD) (b : Bool) (w : World) (h : RMs w B A n xs) (h' : RMs w B A' n' ys) (hB : B ≤ w.heap.size) (hn : n ≤ 1048576) (hn' : n' ≤ 1048576) (hb : b = true ↔ xs.map MD.m = ys.map MD.m) :
    Calls Tryd.prog 20 #[.slice A n c, .slice A' n' c'] w fun e w' => e = .returned (.bool b) ∧ Below w.heap.size w w' := by
  have HH := hid h
  have HH' := hid h'
  have HBI := hid hb
  have hl := h.len
  have hl' := h'.len
  by_cases hnn : n = n'
  · subst hnn
    go_enter Tryd.func20, Tryd.ntmps20
    go_wp2_with fail
    go_loopw [5, 13] (fun _ qv wr4 => ∃ (k : Nat), k ≤ n ∧ qv = .int .i64 (k : Int) ∧ Hid ((xs.map MD.m).take k = (ys.map MD.m).take k) ∧ Below w.heap.size w wr4) (fun _ qv _ => n - (intOf qv).toNat)
    case atStart => exact ⟨0, Nat.zero_le _, rfl, hid rfl, Below.refl _ _⟩
    case round =>
      obtain ⟨wf, hwf⟩ : ∃ x, x = wr := ⟨_, rfl⟩
      subst hwf
      obtain ⟨k, hk, rfl, HTK, hbw⟩ := hrel
      have HBWF := hid hbw
      have hbB := hbw.mono hB
      have HX := hid (((HH.out.below hbB).mono hB).mono hbw.size)
      have HY := hid (((HH'.out.below hbB).mono hB).mono hbw.size)
      clear hbw hbB
      by_cases hkn : k < n
      · have hkn' : (k : Int) < (n : Int) := by omega
        obtain ⟨bx, ox, rfl, hbx, hxm, hxg, hcx⟩ := HX.out.get hkn
        obtain ⟨by_, oy, rfl, hby, hym, hyg, hcy⟩ := HY.out.get hkn
        obtain ⟨x, hx⟩ : ∃ x, xs[k]! = x := ⟨_, rfl⟩
        obtain ⟨y, hy⟩ : ∃ y, ys[k]! = y := ⟨_, rfl⟩
        rw [hx] at hxm hxg hcx
        rw [hy] at hym hyg hcy
        have HRX := hid (HX.out.at_ x hxm)
        have HRY := hid (HY.out.at_ y hym)
        have HBX := hid hbx
        have HBY := hid hby
        have PX0 := hid (hcx 0 _ rfl)
        have PY0 := hid (hcy 0 _ rfl)
        have PX1 := hid (hcx 1 _ rfl)
        have PY1 := hid (hcy 1 _ rfl)
        have PX2 := hid (hcx 2 _ rfl)
        have PY2 := hid (hcy 2 _ rfl)
        have PX3 := hid (hcx 3 _ rfl)
        have PY3 := hid (hcy 3 _ rfl)
        have PX4 := hid (hcx 4 _ rfl)
        have PY4 := hid (hcy 4 _ rfl)
        have PX5 := hid (hcx 5 _ rfl)
        have PY5 := hid (hcy 5 _ rfl)
        have PX6 := hid (hcx 6 _ rfl)
        have PY6 := hid (hcy 6 _ rfl)
        have PX7 := hid (hcx 7 _ rfl)
        have PY7 := hid (hcy 7 _ rfl)
        simp only [Nat.add_zero] at PX0 PX1 PX2 PX3 PX4 PX5 PX6 PX7 PY0 PY1 PY2 PY3 PY4 PY5 PY6 PY7
        obtain ⟨b1, hb1⟩ : ∃ q, decide (x.m = y.m) = q := ⟨_, rfl⟩
        have HB1 := hid hb1
        have hst := eqm_step (xs := xs.map MD.m) (ys := ys.map MD.m) (k := k) (x := x.m) (y := y.m) (by rw [List.getElem?_map, hxg]; rfl) (by rw [List.getElem?_map, hyg]; rfl) HTK.out hb1
        have HST := hid hst
        clear hx hy hxm hym hxg hyg hcx hcy hbx hby hb1 hst
        go_upto_region 6 with fail
        refine Org.begin [] (fun w' => Below wf.heap.size wf w') [0, 1, 2, 3, 4, 5, 6, 7, 8, 9] (by kernel_rfl) (below_drewN (Below.refl _ _) 1) (fun hS => ?_)
        iterate 3 (refine Org.yes (v := ?_) rfl (by kernel_rfl) (by kernel_rfl) (by kernel_rfl) (by kernel_rfl) (by kernel_rfl) (fun _ _ _ h => h) (by kernel_rfl) (SM.of hS) ?_ ?_; rotate_left; (focus (intro w hSw; (try dsimp only at hSw); refine Pure.val ?_; go_simp; (try with_reducible rfl); done)); try simp only [Act.put, List.setIfInBounds_toArray, List.set_cons_zero, List.set_cons_succ])
        (refine Org.yes (v := ?_) rfl (by kernel_rfl) (by kernel_rfl) (by kernel_rfl) (by kernel_rfl) (by kernel_rfl) (fun _ _ _ h => h) (by kernel_rfl) (SM.of hS) ?_ ?_; rotate_left; (focus (intro w hSw; (try dsimp only at hSw); have y0 := (hSw.cell (p := ⟨bx, ox + k * 8, none⟩) HBX.out).trans PX0.out; have y1 := (hSw.cell (p := ⟨bx, ox + k * 8 + 1, none⟩) HBX.out).trans PX1.out; have y2 := (hSw.cell (p := ⟨bx, ox + k * 8 + 2, none⟩) HBX.out).trans PX2.out; have y3 := (hSw.cell (p := ⟨bx, ox + k * 8 + 3, none⟩) HBX.out).trans PX3.out; have y4 := (hSw.cell (p := ⟨bx, ox + k * 8 + 4, none⟩) HBX.out).trans PX4.out; have y5 := (hSw.cell (p := ⟨bx, ox + k * 8 + 5, none⟩) HBX.out).trans PX5.out; have y6 := (hSw.cell (p := ⟨bx, ox + k * 8 + 6, none⟩) HBX.out).trans PX6.out; have y7 := (hSw.cell (p := ⟨bx, ox + k * 8 + 7, none⟩) HBX.out).trans PX7.out; refine Pure.val ?_; go_simp; (try with_reducible rfl); done)); try simp only [Act.put, List.setIfInBounds_toArray, List.set_cons_zero, List.set_cons_succ])
        iterate 3 (refine Org.yes (v := ?_) rfl (by kernel_rfl) (by kernel_rfl) (by kernel_rfl) (by kernel_rfl) (by kernel_rfl) (fun _ _ _ h => h) (by kernel_rfl) (SM.of hS) ?_ ?_; rotate_left; (focus (intro w hSw; (try dsimp only at hSw); refine Pure.val ?_; go_simp; (try with_reducible rfl); done)); try simp only [Act.put, List.setIfInBounds_toArray, List.set_cons_zero, List.set_cons_succ])
        (refine Org.yes (v := ?_) rfl (by kernel_rfl) (by kernel_rfl) (by kernel_rfl) (by kernel_rfl) (by kernel_rfl) (fun _ _ _ h => h) (by kernel_rfl) (SM.of hS) ?_ ?_; rotate_left; (focus (intro w hSw; (try dsimp only at hSw); have z0 := (hSw.cell (p := ⟨by_, oy + k * 8, none⟩) HBY.out).trans PY0.out; have z1 := (hSw.cell (p := ⟨by_, oy + k * 8 + 1, none⟩) HBY.out).trans PY1.out; have z2 := (hSw.cell (p := ⟨by_, oy + k * 8 + 2, none⟩) HBY.out).trans PY2.out; have z3 := (hSw.cell (p := ⟨by_, oy + k * 8 + 3, none⟩) HBY.out).trans PY3.out; have z4 := (hSw.cell (p := ⟨by_, oy + k * 8 + 4, none⟩) HBY.out).trans PY4.out; have z5 := (hSw.cell (p := ⟨by_, oy + k * 8 + 5, none⟩) HBY.out).trans PY5.out; have z6 := (hSw.cell (p := ⟨by_, oy + k * 8 + 6, none⟩) HBY.out).trans PY6.out; have z7 := (hSw.cell (p := ⟨by_, oy + k * 8 + 7, none⟩) HBY.out).trans PY7.out; refine Pure.val ?_; go_simp; (try with_reducible rfl); done)); try simp only [Act.put, List.setIfInBounds_toArray, List.set_cons_zero, List.set_cons_succ])
        refine Org.go rfl (by kernel_rfl) (by kernel_rfl) (fun K hK => ?_)
        go_simp
        go_at_call 26
        refine (samemani_any x.m y.m wf.heap.size x.Ad x.Ao y.Ad y.Ao x.nd x.cd x.no x.co y.nd y.cd y.no y.co x.ts y.ts b1 _ (HRX.out.below hS) (HRY.out.below hS) hS.size HB1.out).mono ?_
        rintro e wz ⟨rfl, hbz⟩
        have hS3 := hS.trans (hbz.mono hS.size)
        clear hbz
        go_wp2_with fail
        refine hK.out _ _ hS3 (fun hS2 => ?_)
        clear hS3
        clear hK K hS
        have hS := hS2
        clear hS2
        try simp only [Act.put, List.setIfInBounds_toArray, List.set_cons_zero, List.set_cons_succ]
        (refine Org.yes (v := ?_) rfl (by kernel_rfl) (by kernel_rfl) (by kernel_rfl) (by kernel_rfl) (by kernel_rfl) (fun _ _ _ h => h) (by kernel_rfl) (SM.of hS) ?_ ?_; rotate_left; (focus (intro w hSw; (try dsimp only at hSw); refine Pure.val ?_; go_simp; (try with_reducible rfl); done)); try simp only [Act.put, List.setIfInBounds_toArray, List.set_cons_zero, List.set_cons_succ])
        refine Org.done (by kernel_rfl) ?_
        have HSE := hid hS
        clear hS
        cases b1 with
        | true =>
          go_wp2_with fail
          go_roundw
          case rel => exact ⟨k + 1, by omega, by go_num, hid (HST.out.1 rfl), HBWF.out.trans (HSE.out.mono HBWF.out.size)⟩
          case measure => simp [intOf]; omega
        | false =>
          have hbf : b = false := by
            cases b with
            | false => rfl
            | true => exact absurd (HBI.out.1 rfl) (HST.out.2 rfl)
          subst hbf
          go_wp2_with fail
          go_ret
          exact ⟨rfl, HBWF.out.trans (HSE.out.mono HBWF.out.size)⟩
      · have hkn' : ¬ (k : Int) < (n : Int) := by omega
        obtain rfl : k = n := by omega
        have hbt : b = true := HBI.out.2 (by
          have := HTK.out
          rwa [List.take_of_length_le (by rw [List.length_map, hl]; exact Nat.le_refl _), List.take_of_length_le (by rw [List.length_map, hl']; exact Nat.le_refl _)] at this)
        subst hbt
        go_wp2_with fail
        go_ret
        exact ⟨rfl, HBWF.out⟩
  · have hni : ¬ (n : Int) = (n' : Int) := by omega
    have hbf : b = false := by
      cases b with
      | false => rfl
      | true =>
        have := congrArg List.length (HBI.out.1 rfl)
        rw [List.length_map, List.length_map, hl, hl'] at this
        exact absurd this hnn
    subst hbf
    go_enter Tryd.func20, Tryd.ntmps20
    go_wp2_with fail
    go_ret
    exact ⟨rfl, Below.refl _ _⟩
end Go.Proofs.YtbpimfhachbcdaaDoor

namespace Go.Proofs.YtbpimfhachbcdaaDoor
open Go.RowKit Wells
theorem rbs_take {w : World} {B n k : Nat} {A : Option Addr} {vs : List Value} {ls : List (List Byte)} (h : RBs w B A n vs ls) (hk : k ≤ n) : RBs w B A k (vs.take k) (ls.take k) := by
  have h1 := h.sl.take hk
  rw [Nat.mul_one] at h1
  refine ⟨h1, by rw [List.length_take, h.len]; omega, fun i hi => ?_⟩
  have := h.at_ i (by omega)
  simp only [List.getD_eq_getElem?_getD, List.getElem?_take_of_lt hi] at this ⊢
  exact this
theorem rbs_drop {w : World} {B n k c : Nat} {A : Option Addr} {vs : List Value} {ls : List (List Byte)} (h : RBs w B A n vs ls) (hv : vs.length = n) (hk : k ≤ n) (hc : n ≤ c) : RBs w B (if c = k then A else A.map (·.add k)) (n - k) (vs.drop k) (ls.drop k) := by
  have h1 := h.sl.cut hk (Nat.le_refl n) hc
  simp only [Nat.mul_one] at h1
  rw [List.take_of_length_le (by rw [List.length_drop, hv]; exact Nat.le_refl _)] at h1
  refine ⟨h1, by rw [List.length_drop, h.len], fun i hi => ?_⟩
  have := h.at_ (k + i) (by omega)
  simp only [List.getD_eq_getElem?_getD, List.getElem?_drop] at this ⊢
  exact this
theorem rbs_app {w : World} {B n1 n2 : Nat} {A A1 A2 : Option Addr} {vs1 vs2 : List Value} {ls1 ls2 : List (List Byte)} (h1 : RBs w B A1 n1 vs1 ls1) (h2 : RBs w B A2 n2 vs2 ls2) (hv : vs1.length = n1) (hs : Sl w B 1 A (n1 + n2) (vs1 ++ vs2)) : RBs w B A (n1 + n2) (vs1 ++ vs2) (ls1 ++ ls2) := by
  refine ⟨hs, by rw [List.length_append, h1.len, h2.len], fun i hi => ?_⟩
  by_cases e : i < n1
  · have := h1.at_ i e
    simp only [List.getD_eq_getElem?_getD] at this ⊢
    rwa [List.getElem?_append_left (by omega), List.getElem?_append_left (by rw [h1.len]; omega)]
  · have := h2.at_ (i - n1) (by omega)
    simp only [List.getD_eq_getElem?_getD] at this ⊢
    rwa [List.getElem?_append_right (by omega), List.getElem?_append_right (by rw [h1.len]; omega), hv, h1.len]
end Go.Proofs.YtbpimfhachbcdaaDoor

namespace Wells
open Go Go.RowKit
theorem dedup_len (l : List Mani) : (dedup l).length ≤ l.length := by
  induction l using rev_ind with
  | h0 => exact Nat.le_refl _
  | h1 l y ih =>
    rw [dedup_snoc]
    split
    · simp; omega
    · simp; omega
theorem joinL_len (P : List (List Byte)) : (joinL P).length ≤ P.length := by
  unfold joinL
  rw [(ssort_perm _).length_eq]
  have h1 := dedup_len ((pagesOf P).filterMap (told (pagesOf P)))
  have h2 := List.length_filterMap_le (told (pagesOf P)) (pagesOf P)
  have h3 : (pagesOf P).length ≤ P.length := List.length_filterMap_le _ _
  omega
end Wells
namespace Go.Proofs.YtbpimfhachbcdaaDoor
open Go.RowKit Wells
def MB (B0 : Nat) (w : World) (v : Value) (l : List Byte) : Prop := RB w B0 v l ∨ TB B0 w v l
theorem MB.read {B0 : Nat} {w : World} {v : Value} {l : List Byte} (h : MB B0 w v l) (hB : B0 ≤ w.heap.size) : RB w w.heap.size v l :=
  h.elim (fun h => h.mono hB) (fun h => h.read)
theorem MB.below {B0 : Nat} {w w' : World} {v : Value} {l : List Byte} (h : MB B0 w v l) (hb : Below w.heap.size w w') (hB : B0 ≤ w.heap.size) : MB B0 w' v l :=
  h.elim (fun h => .inl (h.keep (hb.mono hB))) (fun h => .inr (h.below hb))
theorem MB.grown {B0 n : Nat} {w w' : World} {v u : Value} {l : List Byte} {xs : List Value} (h : MB B0 w v l) (ho : w.ownsRow B0 37 1 u n xs) (hg : w.grownBy w' u.ownBlock) (hB : B0 ≤ w.heap.size) : MB B0 w' v l :=
  h.elim (fun h => .inl (h.keep (below_own (Below.refl _ _) ho hg (Nat.le_refl _) hB))) (fun h => .inr (h.grown ho hg (by decide)))
theorem OB.tb {base B0 : Nat} {w : World} {v : Value} {l : List Byte} (h : OB base w v l) (hB : B0 ≤ base) : TB B0 w v l := by
  obtain ⟨A, c, rfl, h1, h2, _⟩ := h.read
  refine ⟨A, c, rfl, h1, h2, fun h0 => ?_⟩
  obtain ⟨g, cur, rfl, hg, hr, ht⟩ := ob_form h h0
  exact ⟨g, 0, cur, rfl, by omega, hr, by simpa using ht⟩
structure MBs (B0 : Nat) (w : World) (v : Value) (vs : List Value) (ls : List (List Byte)) : Prop where
  own : w.ownsRow B0 37 1 v ls.length vs
  at_ : ∀ i, i < ls.length → MB B0 w (vs.getD i undef) (ls.getD i [])
theorem MBs.of {base B0 : Nat} {w : World} {v : Value} {vs : List Value} {ls : List (List Byte)} (h : OBs base w v vs ls) (hB : B0 ≤ base) : MBs B0 w v vs ls :=
  ⟨own_base h.own hB, fun i hi => .inr ((h.at_ i hi).tb hB)⟩
theorem MBs.below {B0 : Nat} {w w' : World} {v : Value} {vs : List Value} {ls : List (List Byte)} (h : MBs B0 w v vs ls) (hb : Below w.heap.size w w') (hB : B0 ≤ w.heap.size) : MBs B0 w' v vs ls :=
  ⟨h.own.kept (grown_of_below hb none) (by cases v.ownBlock <;> simp), fun i hi => (h.at_ i hi).below hb hB⟩
theorem MBs.read {B0 : Nat} {w : World} {A : Option Addr} {n c : Nat} {vs : List Value} {ls : List (List Byte)} (h : MBs B0 w (.slice A n c) vs ls) (hn : ls.length = n) (hB : B0 ≤ w.heap.size) : RBs w w.heap.size A n vs ls := by
  subst hn
  exact ⟨Sl.own h.own, rfl, fun i hi => (h.at_ i hi).read hB⟩
theorem MBs.app {B0 N : Nat} {w w' : World} {v v' : Value} {vs vs2 : List Value} {ls ls2 : List (List Byte)} (h : MBs B0 w v vs ls) (h2 : ∀ i, i < ls2.length → MB B0 w (vs2.getD i undef) (ls2.getD i []))
    (ho : w'.ownsRow B0 37 1 v' N (vs ++ vs2)) (hg : w.grownBy w' v.ownBlock) (hB : B0 ≤ w.heap.size) (hN : N = (ls ++ ls2).length) : MBs B0 w' v' (vs ++ vs2) (ls ++ ls2) := by
  have hlen : vs.length = ls.length := by have := h.own.1; omega
  subst hN
  refine ⟨ho, fun i hi => ?_⟩
  rw [List.length_append] at hi
  by_cases hlt : i < ls.length
  · have := (h.at_ i hlt).grown h.own hg hB
    simp only [List.getD_eq_getElem?_getD] at this ⊢
    rwa [List.getElem?_append_left (by omega), List.getElem?_append_left hlt]
  · have := (h2 (i - ls.length) (by omega)).grown h.own hg hB
    simp only [List.getD_eq_getElem?_getD] at this ⊢
    rwa [List.getElem?_append_right (by omega), List.getElem?_append_right (by omega), hlen]
theorem rbs_one {w : World} {B n : Nat} {A : Option Addr} {vs : List Value} {ls : List (List Byte)} (h : RBs w B A n vs ls) (hv : vs.length = n) : ∀ u ∈ vs, u.oneCell' = true := by
  intro u hu
  obtain ⟨i, hi, rfl⟩ := List.getElem_of_mem hu
  have := h.at_ i (by omega)
  rw [List.getD_eq_getElem?_getD, List.getElem?_eq_getElem hi, Option.getD_some] at this
  obtain ⟨A', c', e, _⟩ := this
  rw [e]
  rfl
theorem om_grown {base B n : Nat} {w w' : World} {m : Mani} {Ad Ao : Option Addr} {nd cd no co : Nat} {ts xs : List Value} {v : Value} (h : OM base w m Ad nd cd Ao no co ts) (ho : w.ownsRow B 37 1 v n xs) (hg : w.grownBy w' v.ownBlock) : OM base w' m Ad nd cd Ao no co ts := by
  cases hv : v.ownBlock with
  | none =>
    rw [hv] at hg
    exact h.below (below_own (Below.refl w.heap.size w) (World.ownsRow_nil w w.heap.size 37 1) hg (Nat.le_refl _) (Nat.le_refl _))
  | some g =>
    rw [hv] at hg
    obtain ⟨cs, hr⟩ := own_row_ex ho g hv
    exact h.other hg hr (by decide) (by decide)
theorem row_grown {B n g : Nat} {w w' : World} {cs xs : List Value} {v : Value} (h : Row w g 27 cs) (ho : w.ownsRow B 37 1 v n xs) (hg : w.grownBy w' v.ownBlock) : Row w' g 27 cs := row_grown_ne h hg (own_row_ex ho) (by decide)
end Go.Proofs.YtbpimfhachbcdaaDoor

namespace Wells
open Go Go.RowKit
def alt (m : Mani) (s x : Int) : Mani := { m with seq := s, extra := x }
theorem may_alt {m : Mani} (h : m.may = true) {s x : Int} (hs : 1 ≤ s ∧ s ≤ 2147483647) (hx : 0 ≤ x ∧ x ≤ 16) : (alt m s x).may = true := by
  unfold Mani.may preB at h ⊢
  simp only [Bool.and_eq_true, decide_eq_true_eq] at h ⊢
  exact ⟨⟨hs, h.1.2.1, h.1.2.2.1, hx⟩, h.2⟩
theorem alt_64 {m : Mani} (h : M64 m) {s x : Int} (hs : i64 s) (hx : i64 x) : M64 (alt m s x) := ⟨hs, h.next, h.K, h.H, h.S, hx, h.drives, h.objs⟩
end Wells
namespace Go.Proofs.YtbpimfhachbcdaaDoor
open Go.RowKit Wells
theorem fit255 (m : Mani) (_ : m.may = true) : pageN (pack m) ≤ 255 := by
  have := pages_le m
  rw [pagesL_len] at this
  omega
theorem alt_rm {w : World} {B : Nat} {m : Mani} {Ad : Option Addr} {nd cd : Nat} {Ao : Option Addr} {no co : Nat} {ts : List Value} (h : RM w B m Ad nd cd Ao no co ts) (s x : Int) : RM w B (alt m s x) Ad nd cd Ao no co ts := ⟨h.d, h.dl, h.dc, h.o, h.oc⟩
structure SJ (w2 : World) (gy gz : Nat) (cy cz : List Value) (w : World) : Prop where
  y : Row w gy 27 cy
  z : Row w gz 27 cz
  b : Below w2.heap.size w2 w
theorem SJ.below {w2 w w' : World} {gy gz : Nat} {cy cz : List Value} (h : SJ w2 gy gz cy cz w) (hb : Below w.heap.size w w') : SJ w2 gy gz cy cz w' := ⟨h.y.below hb h.y.lt, h.z.below hb h.z.lt, h.b.trans (hb.mono h.b.size)⟩
theorem SJ.grown {w2 w w' : World} {gy gz n : Nat} {cy cz xs : List Value} {v : Value} (h : SJ w2 gy gz cy cz w) (ho : w.ownsRow w2.heap.size 37 1 v n xs) (hg : w.grownBy w' v.ownBlock) : SJ w2 gy gz cy cz w' := ⟨row_grown h.y ho hg, row_grown h.z ho hg, below_own h.b ho hg (Nat.le_refl _) h.b.size⟩
end Go.Proofs.YtbpimfhachbcdaaDoor

