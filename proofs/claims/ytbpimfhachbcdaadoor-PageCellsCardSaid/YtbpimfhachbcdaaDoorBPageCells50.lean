/- Wakes20 Law20b -/
import Derived.Deep.DeepCutAuto
import Derived.BigGuardPart
import Derived.Test.YtbpimfhachbcdaaDoorBPageCells05
import Derived.Test.YtbpimfhachbcdaaDoorBPageCells13
import Derived.Test.YtbpimfhachbcdaaDoorBPageCells35
import Derived.Test.YtbpimfhachbcdaaDoorBPageCells38
import Derived.Test.YtbpimfhachbcdaaDoorBPageCells39
import Derived.Test.YtbpimfhachbcdaaDoorBPageCells48
import Derived.Test.YtbpimfhachbcdaaDoorBPageCells49
set_option maxRecDepth 20000
set_option linter.unusedSimpArgs false
set_option linter.unusedVariables false
namespace Go.Proofs.YtbpimfhachbcdaaDoor
open Go.RowKit Wells
theorem OMs.read {base : Nat} {w : World} {A : Option Addr} {n c : Nat} {xs : List MD} (h : OMs base w (.slice A n c) xs) (hn : xs.length = n) : RMs w w.heap.size A n xs := by
  subst hn
  exact ⟨Sl.own h.own, rfl, fun x hx => (h.at_ x hx).read⟩
theorem pages0 : joinL (pagesL mani0.seq (pack mani0)) = [mani0] := by
  have h := mani0_len
  refine PagesOf.one ⟨fun m hm => ?_, fun m hm => ?_, fun m hm m' hm' _ => ?_, fun c hc => ?_⟩ (fun c hc => hc)
  · rw [List.mem_singleton.1 hm]; exact mani0_may
  · rw [List.mem_singleton.1 hm]; unfold pageN; omega
  · rw [List.mem_singleton.1 hm, List.mem_singleton.1 hm']
  · obtain ⟨j, hj, rfl⟩ := List.mem_map.1 hc
    exact ⟨mani0, List.mem_singleton.2 rfl, j, List.mem_range.1 hj, rfl⟩
theorem same_dec (m : Mani) : decide (m = m) = true := decide_eq_true rfl
theorem pages_len64 {q : Int} {p c : List Byte} (h : c ∈ pagesL q p) : c.length ≤ 1048576 := by
  obtain ⟨j, _, rfl⟩ := List.mem_map.1 h
  rw [pageC_len]
  omega
set_option maxRecDepth 20000 in
set_option maxHeartbeats 4000000 in
theorem wakes20 (w : World) : Calls Tryd.prog 9 #[] w fun e w' => e = .returned (.bool true) ∧ Below w.heap.size w w' := by
  have HP0 := hid pages0
  have HDEC := hid (same_dec mani0)
  have hr0 := Row.new w 3 #[.int .i64 3]
  have hb1 : Below w.heap.size w (w.alloc (.cells #[.int .i64 3] 3)) := (Below.refl _ _).alloc (Nat.le_refl _) _
  have hr1 := Row.new (w.alloc (.cells #[.int .i64 3] 3)) 27 #[.int .i64 1, .int .i64 0, .int .i64 1, .int .i64 1, .int .i64 1, .int .i64 0, .slice (some ⟨w.heap.size, 0, none⟩) 1 1, .slice none 0 0]
  have hr0' := hr0.alloc (.cells #[.int .i64 1, .int .i64 0, .int .i64 1, .int .i64 1, .int .i64 1, .int .i64 0, .slice (some ⟨w.heap.size, 0, none⟩) 1 1, .slice none 0 0] 27)
  have hb2 := hb1.alloc hb1.size (.cells #[.int .i64 1, .int .i64 0, .int .i64 1, .int .i64 1, .int .i64 1, .int .i64 0, .slice (some ⟨w.heap.size, 0, none⟩) 1 1, .slice none 0 0] 27)
  have hs0 := hr0'.sl (B := w.heap.size + 1) (m := 1) (by omega) (by simp)
  have hrm := mani0_rm (A := none) (c := 1) hs0 (by omega)
  have hg : (w.alloc (.cells #[.int .i64 3] 3)).heap.size = w.heap.size + 1 := by simp
  have hz2 : w.heap.size + 1 ≤ ((w.alloc (.cells #[.int .i64 3] 3)).alloc (.cells #[.int .i64 1, .int .i64 0, .int .i64 1, .int .i64 1, .int .i64 1, .int .i64 0, .slice (some ⟨w.heap.size, 0, none⟩) 1 1, .slice none 0 0] 27)).heap.size := by simp
  rw [hg] at hr1
  clear hr0 hb1 hr0' hs0 hg
  go_enter Tryd.func9, Tryd.ntmps9
  go_wp2_with fail
  generalize (w.alloc (.cells #[.int .i64 3] 3)).alloc (.cells #[.int .i64 1, .int .i64 0, .int .i64 1, .int .i64 1, .int .i64 1, .int .i64 0, .slice (some ⟨w.heap.size, 0, none⟩) 1 1, .slice none 0 0] 27) = w2 at *
  refine (psplit_any mani0 (w.heap.size + 1) _ _ _ _ _ _ _ w2 hrm hz2 mani0_64 mani0_nm).mono ?_
  rintro e w3 ⟨A3, c3, vs3, rfl, ho3, hb3⟩
  obtain ⟨n3, hn3⟩ : ∃ n, (pagesL mani0.seq (pack mani0)).length = n := ⟨_, rfl⟩
  rw [hn3] at ho3 ⊢
  have hrb := ho3.read hn3
  have hn1 : n3 ≤ 1048576 := by rw [← hn3, pagesL_len]; unfold pageN; rw [mani0_len]; omega
  have HRM3 := hid (hrm.below (hb3.mono hz2))
  have HR3 := hid (hr1.below hb3 hr1.lt)
  have HZ3 := hid (Nat.le_trans hz2 hb3.size)
  have HB03 := hid (hb2.trans (hb3.mono hb2.size))
  have HRB := hid hrb
  clear hrm hr1 ho3 hb3 hb2 hrb hz2 hn3
  go_wp2_with fail
  refine (pjoin_any w3.heap.size A3 n3 c3 vs3 (pagesL mani0.seq (pack mani0)) w3 HRB.out (Nat.le_refl _) hn1 (fun x hx => pages_len64 hx)).mono ?_
  rintro e w4 ⟨A4, n4, c4, xs, rfl, hn4, hc4, ho4, hxs, hb4⟩
  rw [HP0.out] at hn4 hxs
  obtain rfl : n4 = 1 := hn4
  have hxl : xs.length = 1 := by
    have := congrArg List.length hxs
    simpa using this
  have hxr := ho4.read hxl
  have HM := hid ((HRM3.out.below (hb4.mono HZ3.out)).mono (Nat.le_trans HZ3.out hb4.size))
  have HX := hid (HR3.out.below hb4 HR3.out.lt)
  have HZ := hid (Nat.le_trans HZ3.out hb4.size)
  have HB4 := hid (HB03.out.trans (hb4.mono HB03.out.size))
  obtain ⟨bbx, ox, rfl, hbbx, hxm, hxg, hcells⟩ := hxr.get (i := 0) (by omega)
  obtain ⟨xx, hx⟩ : ∃ x, xs[0]! = x := ⟨_, rfl⟩
  rw [hx] at hxm hcells hxg
  have hx0 : xx.m = mani0 := by
    have h2 : (xs.map MD.m)[0]? = some xx.m := by rw [List.getElem?_map, hxg]; rfl
    rw [hxs] at h2
    injection h2 with h2
    exact h2.symm
  have hrx := hxr.at_ xx hxm
  rw [hx0] at hrx
  have HRX := hid hrx
  have HBX := hid hbbx
  have PX0 := hid (hcells 0 _ rfl)
  have PX1 := hid (hcells 1 _ rfl)
  have PX2 := hid (hcells 2 _ rfl)
  have PX3 := hid (hcells 3 _ rfl)
  have PX4 := hid (hcells 4 _ rfl)
  have PX5 := hid (hcells 5 _ rfl)
  have PX6 := hid (hcells 6 _ rfl)
  have PX7 := hid (hcells 7 _ rfl)
  rw [hx0] at PX0 PX1 PX2 PX3 PX4 PX5
  simp only [Nat.add_zero, Nat.zero_mul] at PX0 PX1 PX2 PX3 PX4 PX5 PX6 PX7
  clear hx hxm hxg hcells hxs hxl hxr ho4 hb4 hrx hbbx hn1 hx0
  go_upto_region 3 with fail
  refine Org.begin [] (fun w' => Below w4.heap.size w4 w') [0, 1, 2, 3, 4, 5, 6, 7, 8, 9, 10] (by kernel_rfl) (below_drewN (Below.refl _ _) 1) (fun hS => ?_)
  (refine Org.yes (v := ?_) rfl (by kernel_rfl) (by kernel_rfl) (by kernel_rfl) (by kernel_rfl) (by kernel_rfl) (fun _ _ _ h => h) (by kernel_rfl) (SM.of hS) ?_ ?_; rotate_left; (focus (intro w hSw; (try dsimp only at hSw); refine Pure.val ?_; go_simp; (try with_reducible rfl); done)); try simp only [Act.put, List.setIfInBounds_toArray, List.set_cons_zero, List.set_cons_succ])
  (refine Org.yes (v := ?_) rfl (by kernel_rfl) (by kernel_rfl) (by kernel_rfl) (by kernel_rfl) (by kernel_rfl) (fun _ _ _ h => h) (by kernel_rfl) (SM.of hS) ?_ ?_; rotate_left; (focus (intro w hSw; (try dsimp only at hSw); refine Pure.val ?_; go_simp; (try with_reducible rfl); done)); try simp only [Act.put, List.setIfInBounds_toArray, List.set_cons_zero, List.set_cons_succ])
  (refine Org.yes (v := ?_) rfl (by kernel_rfl) (by kernel_rfl) (by kernel_rfl) (by kernel_rfl) (by kernel_rfl) (fun _ _ _ h => h) (by kernel_rfl) (SM.of hS) ?_ ?_; rotate_left; (focus (intro w hSw; (try dsimp only at hSw); refine Pure.val ?_; go_simp; (try with_reducible rfl); done)); try simp only [Act.put, List.setIfInBounds_toArray, List.set_cons_zero, List.set_cons_succ])
  (refine Org.yes (v := ?_) rfl (by kernel_rfl) (by kernel_rfl) (by kernel_rfl) (by kernel_rfl) (by kernel_rfl) (fun _ _ _ h => h) (by kernel_rfl) (SM.of hS) ?_ ?_; rotate_left; (focus (intro w hSw; (try dsimp only at hSw); refine Pure.val ?_; go_simp; (try with_reducible rfl); done)); try simp only [Act.put, List.setIfInBounds_toArray, List.set_cons_zero, List.set_cons_succ])
  (refine Org.yes (v := ?_) rfl (by kernel_rfl) (by kernel_rfl) (by kernel_rfl) (by kernel_rfl) (by kernel_rfl) (fun _ _ _ h => h) (by kernel_rfl) (SM.of hS) ?_ ?_; rotate_left; (focus (intro w hSw; (try dsimp only at hSw); refine Pure.val ?_; go_simp; (try with_reducible rfl); done)); try simp only [Act.put, List.setIfInBounds_toArray, List.set_cons_zero, List.set_cons_succ])
  (refine Org.yes (v := ?_) rfl (by kernel_rfl) (by kernel_rfl) (by kernel_rfl) (by kernel_rfl) (by kernel_rfl) (fun _ _ _ h => h) (by kernel_rfl) (SM.of hS) ?_ ?_; rotate_left; (focus (intro w hSw; (try dsimp only at hSw); refine Pure.val ?_; go_simp; (try with_reducible rfl); done)); try simp only [Act.put, List.setIfInBounds_toArray, List.set_cons_zero, List.set_cons_succ])
  (refine Org.yes (v := ?_) rfl (by kernel_rfl) (by kernel_rfl) (by kernel_rfl) (by kernel_rfl) (by kernel_rfl) (fun _ _ _ h => h) (by kernel_rfl) (SM.of hS) ?_ ?_; rotate_left; (focus (intro w hSw; (try dsimp only at hSw); have y0 := (hSw.cell (p := ⟨bbx, ox, none⟩) HBX.out).trans PX0.out; have y1 := (hSw.cell (p := ⟨bbx, ox + 1, none⟩) HBX.out).trans PX1.out; have y2 := (hSw.cell (p := ⟨bbx, ox + 2, none⟩) HBX.out).trans PX2.out; have y3 := (hSw.cell (p := ⟨bbx, ox + 3, none⟩) HBX.out).trans PX3.out; have y4 := (hSw.cell (p := ⟨bbx, ox + 4, none⟩) HBX.out).trans PX4.out; have y5 := (hSw.cell (p := ⟨bbx, ox + 5, none⟩) HBX.out).trans PX5.out; have y6 := (hSw.cell (p := ⟨bbx, ox + 6, none⟩) HBX.out).trans PX6.out; have y7 := (hSw.cell (p := ⟨bbx, ox + 7, none⟩) HBX.out).trans PX7.out; refine Pure.val ?_; go_simp; (try with_reducible rfl); done)); try simp only [Act.put, List.setIfInBounds_toArray, List.set_cons_zero, List.set_cons_succ])
  (refine Org.yes (v := ?_) rfl (by kernel_rfl) (by kernel_rfl) (by kernel_rfl) (by kernel_rfl) (by kernel_rfl) (fun _ _ _ h => h) (by kernel_rfl) (SM.of hS) ?_ ?_; rotate_left; (focus (intro w hSw; (try dsimp only at hSw); have hr := HX.out.below hSw HX.out.lt; have x0 := hr.cell 0; have x1 := hr.cell 1; have x2 := hr.cell 2; have x3 := hr.cell 3; have x4 := hr.cell 4; have x5 := hr.cell 5; have x6 := hr.cell 6; have x7 := hr.cell 7; simp only [List.getElem?_cons_succ, List.getElem?_cons_zero] at x0 x1 x2 x3 x4 x5 x6 x7; refine Pure.val ?_; go_simp; (try with_reducible rfl); done)); try simp only [Act.put, List.setIfInBounds_toArray, List.set_cons_zero, List.set_cons_succ])
  refine Org.go rfl (by kernel_rfl) (by kernel_rfl) (fun K hK => ?_)
  go_simp
  go_at_call 26
  have hrx := HRX.out.below hS
  refine (samemani_any mani0 mani0 _ xx.Ad xx.Ao _ _ xx.nd xx.cd xx.no xx.co _ _ _ _ xx.ts _ true _ (hrx.mono hS.size) ((HM.out.below hS).mono hS.size) (Nat.le_refl _) HDEC.out).mono ?_
  rintro e w7 ⟨rfl, hb7⟩
  have hS3 := hS.trans (hb7.mono hS.size)
  clear hb7
  go_wp2_with fail
  refine hK.out _ _ hS3 (fun hS2 => ?_)
  clear hS3
  clear hK K hS
  have hS := hS2
  clear hS2
  try simp only [Act.put, List.setIfInBounds_toArray, List.set_cons_zero, List.set_cons_succ]
  (refine Org.yes (v := ?_) rfl (by kernel_rfl) (by kernel_rfl) (by kernel_rfl) (by kernel_rfl) (by kernel_rfl) (fun _ _ _ h => h) (by kernel_rfl) (SM.of hS) ?_ ?_; rotate_left; (focus (intro w hSw; (try dsimp only at hSw); refine Pure.val ?_; go_simp; (try with_reducible rfl); done)); try simp only [Act.put, List.setIfInBounds_toArray, List.set_cons_zero, List.set_cons_succ])
  (refine Org.yes (v := ?_) rfl (by kernel_rfl) (by kernel_rfl) (by kernel_rfl) (by kernel_rfl) (by kernel_rfl) (fun _ _ _ h => h) (by kernel_rfl) (SM.of hS) ?_ ?_; rotate_left; (focus (intro w hSw; (try dsimp only at hSw); refine Pure.val ?_; go_simp; (try with_reducible rfl); done)); try simp only [Act.put, List.setIfInBounds_toArray, List.set_cons_zero, List.set_cons_succ])
  refine Org.done (by kernel_rfl) ?_
  have HSE := hid hS
  clear hS
  go_wp2_with fail
  go_ret
  exact ⟨rfl, HB4.out.trans (HSE.out.mono HB4.out.size)⟩
end Go.Proofs.YtbpimfhachbcdaaDoor

namespace Go.Proofs.YtbpimfhachbcdaaDoor
open Go.RowKit Wells
set_option maxRecDepth 20000 in
set_option maxHeartbeats 8000000 in
theorem walk_PageCells (A : Option Addr) (n c : Nat) (l : List Int) (w : World) (h : IsInts w A n c l) :
    Calls Tryd.prog 7 #[.slice A n c] w fun e w' => e = .returned (.bool true) ∧ Below w.heap.size w w' := by
  obtain ⟨i0, hi, hz0, hz1, hz2⟩ := info_parts infoB
  obtain ⟨hs, hle, hcap, hwf⟩ := h
  go_enter Tryd.func7, Tryd.ntmps7
  go_wp2_with fail
  refine (mani_any w.heap.size A n c l w hs (Nat.le_refl _) (by omega) hwf).mono ?_
  rintro e w1 ⟨m, Ad, nd, cd, Ao, no, co, ts, rfl, hom, hpl, hb1⟩
  have hmay := hpl.may
  have hrm1 := hom.read
  have H64 := hid hpl.m64
  clear hom
  unfold Mani.val
  have hx2 := Row.new w1 27 #[.int .i64 m.seq, .int .i64 m.next, .int .i64 m.P.K, .int .i64 m.P.H, .int .i64 m.P.S, .int .i64 m.extra, .slice Ad nd cd, .slice Ao no co]
  have hb12 : Below w1.heap.size w1 (w1.alloc (.cells #[.int .i64 m.seq, .int .i64 m.next, .int .i64 m.P.K, .int .i64 m.P.H, .int .i64 m.P.S, .int .i64 m.extra, .slice Ad nd cd, .slice Ao no co] 27)) := (Below.refl _ _).alloc (Nat.le_refl _) _
  have HM := hid ((hrm1.below hb12).mono hb12.size)
  have HBB := hid (hb1.trans (hb12.mono hb1.size))
  have HX := hid hx2
  have HZ1 := hid hb1.size
  have x0 := hx2.cell 0
  have x1 := hx2.cell 1
  have x2 := hx2.cell 2
  have x3 := hx2.cell 3
  have x4 := hx2.cell 4
  have x5 := hx2.cell 5
  have x6 := hx2.cell 6
  have x7 := hx2.cell 7
  simp only [List.getElem?_cons_succ, List.getElem?_cons_zero] at x0 x1 x2 x3 x4 x5 x6 x7
  clear hx2 hrm1 hb12 hb1
  go_wp2_with fail
  generalize w1.alloc (.cells #[.int .i64 m.seq, .int .i64 m.next, .int .i64 m.P.K, .int .i64 m.P.H, .int .i64 m.P.S, .int .i64 m.extra, .slice Ad nd cd, .slice Ao no co] 27) = w2 at *
  obtain ⟨gm, hgm⟩ : ∃ g, w1.heap.size = g := ⟨_, rfl⟩
  rw [hgm] at HX HZ1 x0 x1 x2 x3 x4 x5 x6 x7 ⊢
  clear hgm
  refine (psplit_any m _ _ _ _ _ _ _ _ w2 HM.out (Nat.le_refl _) H64.out.1 H64.out.2).mono ?_
  rintro e w3 ⟨Ap, cp, vsp, rfl, hop, hb3⟩
  obtain ⟨L, hL⟩ : ∃ L, pagesL m.seq (pack m) = L := ⟨_, rfl⟩
  have h9 := pages_le m
  have h1 : 1 ≤ (pagesL m.seq (pack m)).length := by rw [pagesL_len]; exact pageN_pos (pack_ne hmay)
  have hpn := pagesL_len m.seq (pack m)
  rw [hL] at hop h9 h1 hpn ⊢
  obtain ⟨np, hnp⟩ : ∃ q, L.length = q := ⟨_, rfl⟩
  rw [hnp] at hop h9 h1 hpn ⊢
  have HRB := hid (hop.read hnp)
  have HL := hid hL
  have HPN := hid hpn
  have HQ := hid (may_seq hmay)
  have HB3 := hid (HBB.out.trans (hb3.mono HBB.out.size))
  have HM3 := hid ((HM.out.below hb3).mono hb3.size)
  have HX3 := hid (HX.out.below hb3 HX.out.lt)
  clear x0 x1 x2 x3 x4 x5 x6 x7 hop hb3 hL hnp hmay hpn
  go_wp2_with fail
  go_loopw [4, 17] (fun av iv wr => ∃ (k n9 c9 : Nat) (A9 : Option Addr), k ≤ np ∧ iv = .int .i64 (k : Int) ∧ av = .slice A9 n9 c9 ∧ Hid (((pack m).take (48 * k)).length = n9) ∧ wr.ownsRow w3.heap.size 5 1 (.slice A9 n9 c9) n9 (((pack m).take (48 * k)).map bv8) ∧ Below w3.heap.size w3 wr) (fun _ iv _ => np - (intOf iv).toNat)
  case atStart => exact ⟨0, 0, 0, none, Nat.zero_le _, rfl, rfl, by rfl, World.ownsRow_nil _ _ _ _, Below.refl _ _⟩
  case round =>
    obtain ⟨k, n9, c9, A9, hk, rfl, rfl, HN9, ho9, hbr⟩ := hrel
    have HO9 := hid ho9
    have HBR := hid hbr
    clear ho9 hbr
    have hn9 : n9 ≤ 400 := by rw [← HN9.out, List.length_take]; have := pack_max m; omega
    by_cases hlt : k < np
    · have hlt' : (k : Int) < (np : Int) := by omega
      obtain ⟨bb, o, A', c', rfl, hbb, hcell, hc1, hc2, hsl⟩ := (HRB.out.below HBR.out).get hlt
      have hkn : k < pageN (pack m) := by rw [← HPN.out]; exact hlt
      have h255 : pageN (pack m) ≤ 255 := by rw [← HPN.out]; omega
      obtain ⟨x, htp, hx55, e4, e5, e6, hxd⟩ := page_take (q := m.seq) (p := pack m) (j := k) (by have := HQ.out; omega) h255 hkn
      obtain ⟨l0, hl0⟩ : ∃ l0, L.getD k [] = l0 := ⟨_, rfl⟩
      have hlc : l0 = pageC m.seq (pack m) k := by rw [← hl0, ← HL.out, pages_get hkn]
      rw [hl0] at hcell hc1 hsl
      rw [← hlc] at htp
      have h64 : l0.length = 64 := by rw [hlc, pageC_len]
      rw [h64] at hcell hc1 hsl
      rw [← HPN.out] at e5
      have hds := pageD_some hkn
      have hdf := @pageD_full (pack m) k
      have htk := take_page (pack m) k
      rw [← HPN.out] at hdf
      obtain ⟨D, hD⟩ : ∃ D, pageD (pack m) k = D := ⟨_, rfl⟩
      rw [hD] at e6 hxd hds hdf htk
      obtain ⟨dl, hdl⟩ : ∃ q, D.length = q := ⟨_, rfl⟩
      rw [hdl] at e6 hxd hds hdf
      have HTP := hid htp
      have HSL := hid hsl
      have HXD := hid hxd
      have HDF := hid hdf
      have HTK := hid htk
      have HDL := hid hdl
      have HE4 := hid e4
      have HE5 := hid e5
      have HE6 := hid e6
      clear hl0 hlc h64 htp hsl hD hkn hxd hdf htk hdl e4 e5 e6
      have hd1 := hds.1
      have hd2 := hds.2
      clear hds
      go_wp2_with fail
      refine (take_any _ A' l0 64 c' wr HSL.out HBR.out.size (by omega) hc1 hc2).mono ?_
      rintro e w4 ⟨v, rfl, hob, hb4⟩
      rw [HTP.out] at hob ⊢
      have e2 : tkV (some (2#8, x)) = .int .i64 2 := rfl
      rw [e2]
      clear e2
      simp only [Option.isSome_some, Option.getD_some] at hob ⊢
      obtain ⟨A2, c2, rfl, h21, h22, hsl2⟩ := hob.read
      rw [hx55] at h21 hsl2 ⊢
      obtain ⟨b2, o2, rfl, hb2, hce2⟩ := hsl2.at_ (by omega)
      have b4 : w4.cell? ⟨b2, o2 + 4, none⟩ = some (.int .u8 (k : Int)) := by
        rw [hce2 4 _ (u8s_get x 4 (by omega)), ← HE4.out]; rfl
      have b5 : w4.cell? ⟨b2, o2 + 5, none⟩ = some (.int .u8 (np : Int)) := by
        rw [hce2 5 _ (u8s_get x 5 (by omega)), ← HE5.out]; rfl
      have b6 : w4.cell? ⟨b2, o2 + 6, none⟩ = some (.int .u8 (dl : Int)) := by
        rw [hce2 6 _ (u8s_get x 6 (by omega)), ← HE6.out]; rfl
      have hct := hsl2.cut (k := 7) (m := 7 + dl) (c := c2) (by omega) (by omega) (by omega)
      rw [if_neg (by omega)] at hct
      simp only [Nat.mul_one, Option.map_some, addr_add, Nat.add_sub_cancel_left] at hct
      rw [← List.map_drop, ← List.map_take, HXD.out] at hct
      have HCT := hid hct
      have HCT2 := hid (show Sl w4 w4.heap.size 1 (some ⟨b2, o2 + 7, none⟩) (7 + dl - 7) (D.map bv8) by rw [Nat.add_sub_cancel_left]; exact hct)
      have HB4 := hid hb4
      have ho4 := HO9.out.kept (grown_of_below hb4 none) (by cases A9 <;> simp [Value.ownBlock])
      have HO4 := hid ho4
      have HBR4 := hid (HBR.out.trans (hb4.mono HBR.out.size))
      have hz4 := HBR4.out.size
      clear hob hb4 hsl2 hce2 hct ho4 hcell
      have g1 : ¬ (dl : Int) < 1 := by omega
      have g2 : ¬ (48 : Int) < (dl : Int) := by omega
      have g3 : ¬ c2 = 7 := by omega
      have ew : IntKind.i64.wrap (7 + (dl : Int)) = ((7 + dl : Nat) : Int) := by rw [IntKind.wrap_i64]; omega
      have g4 : ((7 + dl : Nat) : Int) ≤ (c2 : Int) := by omega
      by_cases hl2 : k + 1 < np
      · have hl2' : (k : Int) + 1 < (np : Int) := by omega
        have hd48 : (dl : Int) = 48 := by have := HDF.out hl2; omega
        have HCT3 := hid (show Sl w4 w4.heap.size 1 (some ⟨b2, o2 + 7, none⟩) 48 (D.map bv8) by rw [← HDF.out hl2]; exact HCT.out)
        have HDL3 := hid (show D.length = 48 by rw [HDL.out]; exact HDF.out hl2)
        have ek : IntKind.i64.wrap ((k : Int) + 1) = (k : Int) + 1 := by rw [IntKind.wrap_i64]; omega
        go_wp2_with ((with_reducible show wpList _ _ _ (⟨some 78, _, _, _, _, _⟩ :: _) _ _); go_must (refine wpl_append rfl (.tmp 73) (.tmp 77) 37 rfl w3.heap.size 5 i0 (.int .u8 0) 1 1 Tryd.underlying37 hi hz0 hz1 hz2 rfl (by omega) (.slice A9 n9 c9) n9 _ rfl HO4.out _ _ 48 (c2 - 7) _ (by go_simp) HCT3.out (u8s_cell _) (n9 + 48) (by omega) _ rfl (by omega) (by omega) hz4 ?_); intro A8 c8 w8 o8 g8 _)
        have hnew : w8.ownsRow w3.heap.size 5 1 (.slice A8 (n9 + 48) c8) (n9 + 48) (((pack m).take (48 * (k + 1))).map bv8) := by rw [HTK.out, List.map_append]; exact o8
        have HNL := hid (show ((pack m).take (48 * (k + 1))).length = n9 + 48 by rw [HTK.out, List.length_append, HN9.out, HDL3.out])
        have hb8 := below_own HBR4.out HO4.out g8 (Nat.le_refl _) hz4
        clear o8 g8
        go_roundw
        case rel => exact ⟨k + 1, n9 + 48, c8, A8, by omega, by go_num, rfl, HNL, hnew, hb8⟩
        case measure => simp [intOf]; omega
      · have hl2' : ¬ (k : Int) + 1 < (np : Int) := by omega
        have ek : IntKind.i64.wrap ((k : Int) + 1) = (k : Int) + 1 := by rw [IntKind.wrap_i64]; omega
        go_wp2_with ((with_reducible show wpList _ _ _ (⟨some 78, _, _, _, _, _⟩ :: _) _ _); go_must (refine wpl_append rfl (.tmp 73) (.tmp 77) 37 rfl w3.heap.size 5 i0 (.int .u8 0) 1 1 Tryd.underlying37 hi hz0 hz1 hz2 rfl (by omega) (.slice A9 n9 c9) n9 _ rfl HO4.out _ _ (7 + dl - 7) (c2 - 7) _ (by go_simp) HCT2.out (u8s_cell _) (n9 + dl) (by omega) _ rfl (by omega) (by omega) hz4 ?_); intro A8 c8 w8 o8 g8 _)
        have hnew : w8.ownsRow w3.heap.size 5 1 (.slice A8 (n9 + dl) c8) (n9 + dl) (((pack m).take (48 * (k + 1))).map bv8) := by rw [HTK.out, List.map_append]; exact o8
        have HNL := hid (show ((pack m).take (48 * (k + 1))).length = n9 + dl by rw [HTK.out, List.length_append, HN9.out, HDL.out])
        have hb8 := below_own HBR4.out HO4.out g8 (Nat.le_refl _) hz4
        clear o8 g8
        go_roundw
        case rel => exact ⟨k + 1, n9 + dl, c8, A8, by omega, by go_num, rfl, HNL, hnew, hb8⟩
        case measure => simp [intOf]; omega
    · obtain rfl : k = np := by omega
      have hlt' : ¬ (k : Int) < (k : Int) := by omega
      have hall : (pack m).take (48 * k) = pack m := by rw [HPN.out]; exact take_pages _
      have hsA : Sl wr wr.heap.size 1 A9 n9 ((pack m).map bv8) := by have := Sl.own HO9.out; rwa [hall] at this
      have HSA := hid hsA
      have hxr := HX3.out.below HBR.out HX3.out.lt
      have x0 := hxr.cell 0
      have x1 := hxr.cell 1
      have x2 := hxr.cell 2
      have x3 := hxr.cell 3
      have x4 := hxr.cell 4
      have x5 := hxr.cell 5
      have x6 := hxr.cell 6
      have x7 := hxr.cell 7
      simp only [List.getElem?_cons_succ, List.getElem?_cons_zero] at x0 x1 x2 x3 x4 x5 x6 x7
      clear hall hsA hxr
      go_wp2_with fail
      refine (pack_any m _ _ _ _ _ _ _ _ wr ((HM3.out.below HBR.out).mono HBR.out.size) (Nat.le_refl _) H64.out.1 H64.out.2).mono ?_
      rintro e wP ⟨AP, nP, cP, rfl, hnP, hnP2, hoP, hbP⟩
      unfold OB at hoP
      rw [hnP] at hoP
      have hsP := Sl.own hoP
      have HSP := hid hsP
      have HBP := hid hbP
      clear hnP hoP hbP hsP x0 x1 x2 x3 x4 x5 x6 x7
      go_wp2_with fail
      refine (same_is true _ A9 AP (pack m) (pack m) n9 nP c9 cP _ ((HSA.out.below HBP.out).mono HBP.out.size) HSP.out (by omega) (by omega) (decide_eq_true rfl)).mono ?_
      rintro e wS ⟨rfl, dd, rfl⟩
      have hkpos : (0 : Int) < (k : Int) := by omega
      go_wp2_with fail
      refine (wakes20 _).mono ?_
      rintro e w9 ⟨rfl, hb9⟩
      have hbd := below_drewN HBP.out dd
      have hbe := HB3.out.trans ((HBR.out.trans ((hbd.trans (hb9.mono hbd.size)).mono HBR.out.size)).mono HB3.out.size)
      clear hbd hb9
      go_wp2_with fail
      go_ret
      exact ⟨rfl, hbe⟩
end Go.Proofs.YtbpimfhachbcdaaDoor

