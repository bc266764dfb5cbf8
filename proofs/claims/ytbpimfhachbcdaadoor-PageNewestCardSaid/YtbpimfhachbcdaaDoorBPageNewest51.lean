/- Law20d -/
import Derived.Deep.DeepCutAuto
import Derived.BigGuardPart
import Derived.Test.YtbpimfhachbcdaaDoorBPageNewest02
import Derived.Test.YtbpimfhachbcdaaDoorBPageNewest31
import Derived.Test.YtbpimfhachbcdaaDoorBPageNewest33
import Derived.Test.YtbpimfhachbcdaaDoorBPageNewest48
import Derived.Test.YtbpimfhachbcdaaDoorBPageNewest50
set_option maxRecDepth 20000
set_option linter.unusedSimpArgs false
set_option linter.unusedVariables false
namespace Go.Proofs.YtbpimfhachbcdaaDoor
open Go.RowKit Wells
theorem bump_rm {w : World} {B : Nat} {m : Mani} {Ad : Option Addr} {nd cd : Nat} {Ao : Option Addr} {no co : Nat} {ts : List Value} (h : RM w B m Ad nd cd Ao no co ts) (s : Int) : RM w B (bump m s) Ad nd cd Ao no co ts := ⟨h.d, h.dl, h.dc, h.o, h.oc⟩
theorem bump_64 {m : Mani} (h : M64 m) {s : Int} (hs : i64 s) : M64 (bump m s) := ⟨hs, h.next, h.K, h.H, h.S, h.extra, h.drives, h.objs⟩
set_option maxRecDepth 20000 in
set_option maxHeartbeats 8000000 in
theorem walk_PageNewest (A : Option Addr) (n c : Nat) (l : List Int) (by_ at_ : Int) (w : World) (h : IsInts w A n c l) (hby : -9223372036854775808 ≤ by_ ∧ by_ ≤ 9223372036854775807) (hat : -9223372036854775808 ≤ at_ ∧ at_ ≤ 9223372036854775807) :
    Calls Tryd.prog 6 #[.slice A n c, .int .i64 by_, .int .i64 at_] w fun e w' => e = .returned (.bool true) ∧ Below w.heap.size w w' := by
  obtain ⟨ibs, hibs, hzb0, hzb1, hzb2⟩ := info_parts infoBs
  obtain ⟨im, him, hzm0, hzm1, hzm2⟩ := info_parts infoMn
  obtain ⟨hs, hle, hcap, hwf⟩ := h
  go_enter Tryd.func6, Tryd.ntmps6
  go_wp2_with fail
  refine (mani_any w.heap.size A n c l w hs (Nat.le_refl _) (by omega) hwf).mono ?_
  rintro e w1 ⟨m, Ad, nd, cd, Ao, no, co, ts, rfl, hom, hpl, hb1⟩
  have hmay := hpl.may
  have HLT := hid hpl.lt
  have hsq := hpl.seq
  have hrm1 := hom.read
  have H64 := hid hpl.m64
  clear hom hpl
  unfold Mani.val
  have hx2 := Row.new w1 27 #[.int .i64 m.seq, .int .i64 m.next, .int .i64 m.P.K, .int .i64 m.P.H, .int .i64 m.P.S, .int .i64 m.extra, .slice Ad nd cd, .slice Ao no co]
  have hb12 : Below w1.heap.size w1 (w1.alloc (.cells #[.int .i64 m.seq, .int .i64 m.next, .int .i64 m.P.K, .int .i64 m.P.H, .int .i64 m.P.S, .int .i64 m.extra, .slice Ad nd cd, .slice Ao no co] 27)) := (Below.refl _ _).alloc (Nat.le_refl _) _
  have HM := hid ((hrm1.below hb12).mono hb12.size)
  have HBB := hid (hb1.trans (hb12.mono hb1.size))
  have HX := hid hx2
  have x0 := hx2.cell 0
  have x1 := hx2.cell 1
  have x2 := hx2.cell 2
  have x3 := hx2.cell 3
  have x4 := hx2.cell 4
  have x5 := hx2.cell 5
  have x6 := hx2.cell 6
  have x7 := hx2.cell 7
  simp only [List.getElem?_cons_succ, List.getElem?_cons_zero] at x0 x1 x2 x3 x4 x5 x6 x7
  clear hx2 hrm1 hb12 hb1
  go_wp2_with fail
  generalize w1.alloc (.cells #[.int .i64 m.seq, .int .i64 m.next, .int .i64 m.P.K, .int .i64 m.P.H, .int .i64 m.P.S, .int .i64 m.extra, .slice Ad nd cd, .slice Ao no co] 27) = w2 at *
  obtain ⟨gm, hgm⟩ : ∃ g, w1.heap.size = g := ⟨_, rfl⟩
  rw [hgm] at HX x0 x1 x2 x3 x4 x5 x6 x7 ⊢
  clear hgm
  have hndl : nd ≤ 1048576 := by rw [← HM.out.dl]; exact Nat.le_trans HLT.out.dl (by omega)
  have hnol : no ≤ 1048576 := by rw [← HM.out.o.len]; exact Nat.le_trans HLT.out.ol (by omega)
  refine (copy_any m _ _ _ _ _ _ _ _ w2 HM.out (Nat.le_refl _) hndl hnol (fun e he => Nat.le_trans (HLT.out.tr e he) (by omega))).mono ?_
  rintro e w3 ⟨Ae, ne, ce, Aq, nq, cq, tq, rfl, hon, -, hb3⟩
  unfold Mani.val
  have hy4 := Row.new w3 27 #[.int .i64 m.seq, .int .i64 m.next, .int .i64 m.P.K, .int .i64 m.P.H, .int .i64 m.P.S, .int .i64 m.extra, .slice Ae ne ce, .slice Aq nq cq]
  have hb34 : Below w3.heap.size w3 (w3.alloc (.cells #[.int .i64 m.seq, .int .i64 m.next, .int .i64 m.P.K, .int .i64 m.P.H, .int .i64 m.P.S, .int .i64 m.extra, .slice Ae ne ce, .slice Aq nq cq] 27)) := (Below.refl _ _).alloc (Nat.le_refl _) _
  have hb24 := hb3.trans (hb34.mono hb3.size)
  have HN4 := hid (hon.read.below hb34)
  have HM4 := hid ((HM.out.below hb24).mono hb3.size)
  have HX4 := hid (HX.out.below hb24 HX.out.lt)
  have HY4 := hid hy4
  have HB4 := hid (HBB.out.trans (hb24.mono HBB.out.size))
  have hgmn : gm < w3.heap.size := Nat.lt_of_lt_of_le HX.out.lt hb3.size
  have hwn : w.heap.size ≤ w3.heap.size := Nat.le_trans HBB.out.size hb3.size
  clear hy4 hb34 hb24 hb3 hon x0 x1 x2 x3 x4 x5 x6 x7
  go_upto_region 3 with fail
  generalize w3.alloc (.cells #[.int .i64 m.seq, .int .i64 m.next, .int .i64 m.P.K, .int .i64 m.P.H, .int .i64 m.P.S, .int .i64 m.extra, .slice Ae ne ce, .slice Aq nq cq] 27) = w4 at *
  obtain ⟨gn, hgn⟩ : ∃ g, w3.heap.size = g := ⟨_, rfl⟩
  rw [hgn] at HY4 HN4 HM4 hgmn hwn ⊢
  clear hgn
  have x0 := HX4.out.cell 0
  have x1 := HX4.out.cell 1
  have x2 := HX4.out.cell 2
  have x3 := HX4.out.cell 3
  have x4 := HX4.out.cell 4
  have x5 := HX4.out.cell 5
  have x6 := HX4.out.cell 6
  have x7 := HX4.out.cell 7
  simp only [List.getElem?_cons_succ, List.getElem?_cons_zero] at x0 x1 x2 x3 x4 x5 x6 x7
  have y0 := HY4.out.cell 0
  have y1 := HY4.out.cell 1
  have y2 := HY4.out.cell 2
  have y3 := HY4.out.cell 3
  have y4 := HY4.out.cell 4
  have y5 := HY4.out.cell 5
  have y6 := HY4.out.cell 6
  have y7 := HY4.out.cell 7
  simp only [List.getElem?_cons_succ, List.getElem?_cons_zero] at y0 y1 y2 y3 y4 y5 y6 y7
  obtain ⟨d, hd⟩ : ∃ d : Nat, by_ % 50 = (d : Int) := ⟨(by_ % 50).toNat, (Int.toNat_of_nonneg (Int.emod_nonneg _ (by omega))).symm⟩
  have hd50 : d < 50 := by have := Int.emod_lt_of_pos by_ (show (0 : Int) < 50 by omega); omega
  have HD := hid hd
  clear hd
  obtain ⟨s, hsd⟩ : ∃ s : Int, m.seq + 1 + (d : Int) = s := ⟨_, rfl⟩
  have ew1 : IntKind.i64.wrap (m.seq + 1) = m.seq + 1 := by rw [IntKind.wrap_i64]; omega
  have ew2 : IntKind.i64.wrap s = s := by rw [IntKind.wrap_i64]; omega
  have hs64 : i64 s := by unfold i64; omega
  have hslt : m.seq < s := by omega
  have hgw : gn ≤ w4.heap.size := Nat.le_of_lt HY4.out.lt
  have hs31 : 1 ≤ s ∧ s ≤ 2147483647 := by omega
  refine Org.begin [7] (fun w' => Below w4.heap.size w4 w') [0, 1, 2, 3, 4, 5, 6, 7] (by kernel_rfl) (below_drewN (Below.refl _ _) 1) (fun hS => ?_)
  (refine Org.yes (v := ?_) rfl (by kernel_rfl) (by kernel_rfl) (by kernel_rfl) (by kernel_rfl) (by kernel_rfl) (fun _ _ _ h => h) (by kernel_rfl) (SM.of hS) ?_ ?_; rotate_left; (focus (intro w hSw; (try dsimp only at hSw); refine Pure.val ?_; go_simp; (try with_reducible rfl); done)); try simp only [Act.put, List.setIfInBounds_toArray, List.set_cons_zero, List.set_cons_succ])
  (refine Org.yes (v := ?_) rfl (by kernel_rfl) (by kernel_rfl) (by kernel_rfl) (by kernel_rfl) (by kernel_rfl) (fun _ _ _ h => h) (by kernel_rfl) (SM.of hS) ?_ ?_; rotate_left; (focus (intro w hSw; (try dsimp only at hSw); have qx0 := cell_keep hSw x0; refine Pure.val ?_; go_simp; (try with_reducible rfl); done)); try simp only [Act.put, List.setIfInBounds_toArray, List.set_cons_zero, List.set_cons_succ])
  (refine Org.yes (v := ?_) rfl (by kernel_rfl) (by kernel_rfl) (by kernel_rfl) (by kernel_rfl) (by kernel_rfl) (fun _ _ _ h => h) (by kernel_rfl) (SM.of hS) ?_ ?_; rotate_left; (focus (intro w hSw; (try dsimp only at hSw); refine Pure.val ?_; go_simp; (try with_reducible rfl); done)); try simp only [Act.put, List.setIfInBounds_toArray, List.set_cons_zero, List.set_cons_succ])
  (refine Org.yes (v := ?_) rfl (by kernel_rfl) (by kernel_rfl) (by kernel_rfl) (by kernel_rfl) (by kernel_rfl) (fun _ _ _ h => h) (by kernel_rfl) (SM.of hS) ?_ ?_; rotate_left; (focus (intro w hSw; (try dsimp only at hSw); refine Pure.val ?_; go_simp; (try with_reducible rfl); done)); try simp only [Act.put, List.setIfInBounds_toArray, List.set_cons_zero, List.set_cons_succ])
  (refine Org.yes (v := ?_) rfl (by kernel_rfl) (by kernel_rfl) (by kernel_rfl) (by kernel_rfl) (by kernel_rfl) (fun _ _ _ h => h) (by kernel_rfl) (SM.of hS) ?_ ?_; rotate_left; (focus (intro w hSw; (try dsimp only at hSw); refine Pure.call 17 #[.int .i64 by_, .int .i64 50] (by go_simp; first | done | rfl) ?_; refine (within_any by_ 50 w hby.1 hby.2 (by omega) (by omega)).mono ?_; rintro e w' ⟨rfl, rfl⟩; rw [HD.out]; refine ⟨?_, rfl⟩; with_reducible rfl)); try simp only [Act.put, List.setIfInBounds_toArray, List.set_cons_zero, List.set_cons_succ])
  (refine Org.yes (v := ?_) rfl (by kernel_rfl) (by kernel_rfl) (by kernel_rfl) (by kernel_rfl) (by kernel_rfl) (fun _ _ _ h => h) (by kernel_rfl) (SM.of hS) ?_ ?_; rotate_left; (focus (intro w hSw; (try dsimp only at hSw); refine Pure.val ?_; go_simp; (try with_reducible rfl); done)); try simp only [Act.put, List.setIfInBounds_toArray, List.set_cons_zero, List.set_cons_succ])
  (refine Org.yes (v := ?_) rfl (by kernel_rfl) (by kernel_rfl) (by kernel_rfl) (by kernel_rfl) (by kernel_rfl) (fun _ _ _ h => h) (by kernel_rfl) (SM.of hS) ?_ ?_; rotate_left; (focus (intro w hSw; (try dsimp only at hSw); refine Pure.val ?_; go_simp; (try with_reducible rfl); done)); try simp only [Act.put, List.setIfInBounds_toArray, List.set_cons_zero, List.set_cons_succ])
  refine Org.mark (p := 7) rfl (by kernel_rfl) (by kernel_rfl) (by kernel_rfl) (by kernel_rfl) (fun K hK => ?_)
  have hry := HY4.out.below hS HY4.out.lt
  have ky0 := hry.cell 0
  have fy0 := hry.frozen 0
  have hSn : Below gn w4 _ := (hS.mono hgw)
  have HRY5 := hid (hry.set 0 (.int .i64 s))
  have HRX5 := hid ((HX4.out.below hS HX4.out.lt).far (p := ⟨gn, 0, none⟩) (show gm ≠ gn by omega) (.int .i64 s))
  have HS5 := hid (hSn.setCell (p := (⟨gn, 0, none⟩ : Addr)) (Nat.le_refl _) (.int .i64 s))
  clear hry hSn
  go_simp
  refine hK.out _ _ ?_
  clear hK K hS
  try simp only [Act.put, List.setIfInBounds_toArray, List.set_cons_zero, List.set_cons_succ]
  refine Org.done (by kernel_rfl) ?_
  skip
  have hre : w4.drew.setCell ⟨gn, 0, none⟩ (.int .i64 s) = (w4.setCell ⟨gn, 0, none⟩ (.int .i64 s)).drew := rfl
  rw [hre] at HRY5 HRX5 HS5
  clear hre ew1 ew2 x0 x1 x2 x3 x4 x5 x6 x7 y0 y1 y2 y3 y4 y5 y6 y7
  generalize (w4.setCell ⟨gn, 0, none⟩ (.int .i64 s)).drew = w5 at *
  have hg5 : gn ≤ w5.heap.size := Nat.le_trans hgw HS5.out.size
  have HM5 := hid (((HM4.out.below HS5.out).mono hg5))
  have HN5 := hid (bump_rm ((HN4.out.below HS5.out).mono hg5) s)
  have HB5 := hid (HB4.out.trans (HS5.out.mono hwn))
  have H64n := hid (show M64 (bump m s) ∧ (∀ e ∈ (bump m s).objs, e.name.length ≤ 1048576) from ⟨bump_64 H64.out.1 hs64, H64.out.2⟩)
  have hmn := may_bump hmay hs31
  have hp9 := pages_le m
  have h255 : pageN (pack m) ≤ 255 := by rw [pagesL_len] at hp9; omega
  have h255n : pageN (pack (bump m s)) ≤ 255 := by rw [pageN_bump hmay hs31]; exact h255
  obtain ⟨np, hnp⟩ : ∃ q, (pagesL m.seq (pack m)).length = q := ⟨_, rfl⟩
  have hpn : np = pageN (pack m) := by rw [← hnp, pagesL_len]
  have hnq : (pagesL (bump m s).seq (pack (bump m s))).length = np := by rw [pagesL_len, pageN_bump hmay hs31, hpn]
  have h1 : 1 ≤ np := by rw [hpn]; exact pageN_pos (pack_ne hmay)
  rw [hnp] at hp9
  have HJ1 := hid (join_both hmay h255 hmn h255n (show m.seq < (bump m s).seq from hslt))
  have HJ2 := hid (fun (k : Nat) (h0 : 0 < k) (hk : k < np) => join_mixed hmay h255 hmn h255n (show m.seq < (bump m s).seq from hslt) h0 (by rw [← hpn]; exact hk) (pageN_bump hmay hs31))
  have HLENA := hid (fun (x : List Byte) (hx : x ∈ pagesL m.seq (pack m)) => pages_len64 hx)
  have HLENB := hid (fun (x : List Byte) (hx : x ∈ pagesL (bump m s).seq (pack (bump m s))) => pages_len64 hx)
  have HQA := hid hnp
  have HQB := hid hnq
  clear hmn hmay h255 h255n hnp hpn hnq hsd hs64 hslt hs31 hsq
  have x0 := HRX5.out.cell 0
  have x1 := HRX5.out.cell 1
  have x2 := HRX5.out.cell 2
  have x3 := HRX5.out.cell 3
  have x4 := HRX5.out.cell 4
  have x5 := HRX5.out.cell 5
  have x6 := HRX5.out.cell 6
  have x7 := HRX5.out.cell 7
  simp only [List.getElem?_cons_succ, List.getElem?_cons_zero] at x0 x1 x2 x3 x4 x5 x6 x7
  have y0 := (show Row _ gn 27 [.int .i64 s, .int .i64 m.next, .int .i64 m.P.K, .int .i64 m.P.H, .int .i64 m.P.S, .int .i64 m.extra, .slice Ae ne ce, .slice Aq nq cq] from HRY5.out).cell 0
  have y1 := (show Row _ gn 27 [.int .i64 s, .int .i64 m.next, .int .i64 m.P.K, .int .i64 m.P.H, .int .i64 m.P.S, .int .i64 m.extra, .slice Ae ne ce, .slice Aq nq cq] from HRY5.out).cell 1
  have y2 := (show Row _ gn 27 [.int .i64 s, .int .i64 m.next, .int .i64 m.P.K, .int .i64 m.P.H, .int .i64 m.P.S, .int .i64 m.extra, .slice Ae ne ce, .slice Aq nq cq] from HRY5.out).cell 2
  have y3 := (show Row _ gn 27 [.int .i64 s, .int .i64 m.next, .int .i64 m.P.K, .int .i64 m.P.H, .int .i64 m.P.S, .int .i64 m.extra, .slice Ae ne ce, .slice Aq nq cq] from HRY5.out).cell 3
  have y4 := (show Row _ gn 27 [.int .i64 s, .int .i64 m.next, .int .i64 m.P.K, .int .i64 m.P.H, .int .i64 m.P.S, .int .i64 m.extra, .slice Ae ne ce, .slice Aq nq cq] from HRY5.out).cell 4
  have y5 := (show Row _ gn 27 [.int .i64 s, .int .i64 m.next, .int .i64 m.P.K, .int .i64 m.P.H, .int .i64 m.P.S, .int .i64 m.extra, .slice Ae ne ce, .slice Aq nq cq] from HRY5.out).cell 5
  have y6 := (show Row _ gn 27 [.int .i64 s, .int .i64 m.next, .int .i64 m.P.K, .int .i64 m.P.H, .int .i64 m.P.S, .int .i64 m.extra, .slice Ae ne ce, .slice Aq nq cq] from HRY5.out).cell 6
  have y7 := (show Row _ gn 27 [.int .i64 s, .int .i64 m.next, .int .i64 m.P.K, .int .i64 m.P.H, .int .i64 m.P.S, .int .i64 m.extra, .slice Ae ne ce, .slice Aq nq cq] from HRY5.out).cell 7
  simp only [List.getElem?_cons_succ, List.getElem?_cons_zero] at y0 y1 y2 y3 y4 y5 y6 y7
  go_upto_region 4 with fail
  refine Org.begin [] (fun w' => Below w5.heap.size w5 w') [0, 2, 1, 3, 4, 5] (by kernel_rfl) (below_drewN (Below.refl _ _) 1) (fun hS => ?_)
  (refine Org.yes (v := ?_) rfl (by kernel_rfl) (by kernel_rfl) (by kernel_rfl) (by kernel_rfl) (by kernel_rfl) (fun _ _ _ h => h) (by kernel_rfl) (SM.of hS) ?_ ?_; rotate_left; (focus (intro w hSw; (try dsimp only at hSw); have qx0 := cell_keep hSw x0; have qx1 := cell_keep hSw x1; have qx2 := cell_keep hSw x2; have qx3 := cell_keep hSw x3; have qx4 := cell_keep hSw x4; have qx5 := cell_keep hSw x5; have qx6 := cell_keep hSw x6; have qx7 := cell_keep hSw x7; refine Pure.val ?_; go_simp; (try with_reducible rfl); done)); try simp only [Act.put, List.setIfInBounds_toArray, List.set_cons_zero, List.set_cons_succ])
  (refine Org.yes (v := ?_) rfl (by kernel_rfl) (by kernel_rfl) (by kernel_rfl) (by kernel_rfl) (by kernel_rfl) (fun _ _ _ h => h) (by kernel_rfl) (SM.of hS) ?_ ?_; rotate_left; (focus (intro w hSw; (try dsimp only at hSw); have qy0 := cell_keep hSw y0; have qy1 := cell_keep hSw y1; have qy2 := cell_keep hSw y2; have qy3 := cell_keep hSw y3; have qy4 := cell_keep hSw y4; have qy5 := cell_keep hSw y5; have qy6 := cell_keep hSw y6; have qy7 := cell_keep hSw y7; refine Pure.val ?_; go_simp; (try with_reducible rfl); done)); try simp only [Act.put, List.setIfInBounds_toArray, List.set_cons_zero, List.set_cons_succ])
  refine Org.go rfl (by kernel_rfl) (by kernel_rfl) (fun K hK => ?_)
  go_simp
  go_at_call 13
  refine (psplit_any m _ Ad Ao nd cd no co ts _ ((HM5.out.below hS).mono hS.size) (Nat.le_refl _) H64.out.1 H64.out.2).mono ?_
  rintro e wPa ⟨Apa, cpa, vsa, rfl, hop, hbk⟩
  rw [HQA.out] at hop ⊢
  have HPa := hid (hop.read HQA.out)
  have H1a := hid (obs_one hop)
  have hcpa := own_cap (by have := hop.own; rwa [HQA.out] at this)
  have HVLa := hid (show vsa.length = np by have := hop.own.1; rw [HQA.out] at this; omega)
  clear hop
  have hS3 := hS.trans (hbk.mono hS.size)
  clear hbk
  go_wp2_with fail
  refine hK.out _ _ hS3 (fun hS2 => ?_)
  clear hS3
  clear hK K hS
  have hS := hS2
  clear hS2
  try simp only [Act.put, List.setIfInBounds_toArray, List.set_cons_zero, List.set_cons_succ]
  refine Org.go rfl (by kernel_rfl) (by kernel_rfl) (fun K hK => ?_)
  go_simp
  go_at_call 13
  refine (psplit_any (bump m s) _ Ae Aq ne ce nq cq tq _ ((HN5.out.below hS).mono hS.size) (Nat.le_refl _) H64n.out.1 H64n.out.2).mono ?_
  rintro e wPb ⟨Apb, cpb, vsb, rfl, hop, hbk⟩
  rw [HQB.out] at hop ⊢
  have HPb := hid (hop.read HQB.out)
  have H1b := hid (obs_one hop)
  have hcpb := own_cap (by have := hop.own; rwa [HQB.out] at this)
  have HVLb := hid (show vsb.length = np by have := hop.own.1; rw [HQB.out] at this; omega)
  have HPa := hid ((HPa.out.below hbk).mono hbk.size)
  clear hop
  have hS3 := hS.trans (hbk.mono hS.size)
  clear hbk
  go_wp2_with fail
  refine hK.out _ _ hS3 (fun hS2 => ?_)
  clear hS3
  clear hK K hS
  have hS := hS2
  clear hS2
  try simp only [Act.put, List.setIfInBounds_toArray, List.set_cons_zero, List.set_cons_succ]
  (refine Org.yes (v := ?_) rfl (by kernel_rfl) (by kernel_rfl) (by kernel_rfl) (by kernel_rfl) (by kernel_rfl) (fun _ _ _ h => h) (by kernel_rfl) (SM.of hS) ?_ ?_; rotate_left; (focus (intro w hSw; (try dsimp only at hSw); refine Pure.val ?_; go_simp; (try with_reducible rfl); done)); try simp only [Act.put, List.setIfInBounds_toArray, List.set_cons_zero, List.set_cons_succ])
  (refine Org.yes (v := ?_) rfl (by kernel_rfl) (by kernel_rfl) (by kernel_rfl) (by kernel_rfl) (by kernel_rfl) (fun _ _ _ h => h) (by kernel_rfl) (SM.of hS) ?_ ?_; rotate_left; (focus (intro w hSw; (try dsimp only at hSw); refine Pure.val ?_; go_simp; (try with_reducible rfl); done)); try simp only [Act.put, List.setIfInBounds_toArray, List.set_cons_zero, List.set_cons_succ])
  refine Org.done (by kernel_rfl) ?_
  have HSE := hid hS
  clear hS
  clear x0 x1 x2 x3 x4 x5 x6 x7 y0 y1 y2 y3 y4 y5 y6 y7
  generalize pagesL m.seq (pack m) = L at *
  generalize pagesL (bump m s).seq (pack (bump m s)) = Lq at *
  have hbne : ((np : Int) != (np : Int)) = false := by simp
  have hn0 : ¬ (np : Int) = 0 := by omega
  obtain ⟨bpa, opa, rfl, hbpa, -⟩ := HPa.out.sl.at_ (by omega)
  obtain ⟨bpb, opb, rfl, hbpb, -⟩ := HPb.out.sl.at_ (by omega)
  go_wp2_with (first
    | ((with_reducible show wpList _ _ _ (⟨some 40, _, _, _, _, _⟩ :: _) _ _); go_must (refine wpl_append rfl (.const (.slice none 0 0)) (.tmp 39) 34 rfl wPb.heap.size 37 ibs (.slice none 0 0) 1 24 Tryd.underlying34 hibs hzb0 hzb1 hzb2 rfl (by omega) (.slice none 0 0) 0 [] rfl (World.ownsRow_nil _ _ _ _) _ _ _ _ _ rfl HPa.out.sl H1a.out np (by omega) vsa (List.nil_append _) (by omega) (by omega) (Nat.le_refl _) ?_); intro A9 c9 w9 ho9 hg9 _; have hb9 := below_own (Below.refl wPb.heap.size wPb) (World.ownsRow_nil _ _ 37 1) hg9 (Nat.le_refl _) (Nat.le_refl _); have HO9 := hid ho9; have HB9 := hid hb9; have hz9 := hb9.size; have hr9 := HPb.out.below hb9; have HR9 := hid hr9; clear ho9 hg9 hb9 hr9)
    | ((with_reducible show wpList _ _ _ (⟨some 42, _, _, _, _, _⟩ :: _) _ _); go_must (refine wpl_append rfl (.tmp 40) (.tmp 41) 34 rfl wPb.heap.size 37 ibs (.slice none 0 0) 1 24 Tryd.underlying34 hibs hzb0 hzb1 hzb2 rfl (by omega) _ _ _ rfl HO9.out _ _ _ _ _ rfl HR9.out.sl H1b.out (np + np) (by omega) _ rfl (by omega) (by omega) hz9 ?_); intro A10 c10 w10 ho10 hg10 _))
  have hb10 := below_own HB9.out HO9.out hg10 (Nat.le_refl _) hz9
  have hrj := rbs_app (A := A10) ((HPa.out.below hb10).mono hb10.size) ((HPb.out.below hb10).mono hb10.size) HVLa.out (Sl.own ho10)
  have HRJ9 := hid hrj
  have HB10 := hid hb10
  have HLEN7 := hid (show ∀ x ∈ L ++ Lq, x.length ≤ 1048576 from fun x hx => (List.mem_append.1 hx).elim (HLENA.out x) (HLENB.out x))
  clear ho10 hg10 hb10 hrj hz9
  refine (pjoin_any _ A10 (np + np) c10 (vsa ++ vsb) (L ++ Lq) _ HRJ9.out (Nat.le_refl _) (by omega) HLEN7.out).mono ?_
  rintro e wK ⟨Ak, nk, ck, xk, rfl, hnk, hck, hok, hxk, hbk⟩
  have hallk : xk.map MD.m = [bump m s, m] := by rw [hxk]; exact HJ1.out
  have hxlk : xk.length = 2 := by have := congrArg List.length hallk; simpa using this
  obtain rfl : nk = 2 := by rw [hnk, ← hxk, List.length_map, hxlk]
  have HRK := hid (hok.read hxlk)
  have HXK := hid hallk
  have hbs := HB10.out.trans (hbk.mono HB10.out.size)
  have HSK := hid (HSE.out.trans (hbs.mono HSE.out.size))
  have HPaK := hid ((HPa.out.below hbs).mono hbs.size)
  have HPbK := hid ((HPb.out.below hbs).mono hbs.size)
  have ew8 : IntKind.i64.wrap ((np : Int) + 1) = (np : Int) + 1 := by rw [IntKind.wrap_i64]; omega
  clear hnk hck hok hxk hbk hallk hxlk hbs
  go_wp2_with fail
  refine (within_any at_ ((np : Int) + 1) _ hat.1 hat.2 (by omega) (by omega)).mono ?_
  rintro e w8 ⟨rfl, rfl⟩
  go_upto_region 9 with fail
  clear ew8
  obtain ⟨k, hk⟩ : ∃ k : Nat, at_ % ((np : Int) + 1) = (k : Int) := ⟨(at_ % ((np : Int) + 1)).toNat, (Int.toNat_of_nonneg (Int.emod_nonneg _ (by omega))).symm⟩
  have hkn : k ≤ np := by have := Int.emod_lt_of_pos at_ (show (0 : Int) < (np : Int) + 1 by omega); omega
  rw [hk]
  clear hk
  have hca := hcpa.1
  have hcb := hcpb.1
  have hkca : k ≤ cpa := by omega
  have hdr9 := rbs_drop HPbK.out HVLb.out (k := k) (c := cpb) hkn hcb
  simp only [Option.map_some, addr_add] at hdr9
  obtain ⟨Ac, hAc⟩ : ∃ Ac, (if cpb = k then some (⟨bpb, opb, none⟩ : Addr) else some ⟨bpb, opb + k, none⟩) = Ac := ⟨_, rfl⟩
  rw [hAc] at hdr9
  have HD9 := hid hdr9
  have HT9 := hid (rbs_take HPaK.out (k := k) hkn)
  have H1D9 := hid (show ∀ u ∈ vsb.drop k, u.oneCell' = true from fun u hu => H1b.out u (List.mem_of_mem_drop hu))
  have H1T9 := hid (show ∀ u ∈ vsa.take k, u.oneCell' = true from fun u hu => H1a.out u (List.mem_of_mem_take hu))
  have HLEN9 := hid (show ∀ x ∈ L.take k ++ Lq.drop k, x.length ≤ 1048576 from fun x hx => (List.mem_append.1 hx).elim (fun h => HLENA.out x (List.mem_of_mem_take h)) (fun h => HLENB.out x (List.mem_of_mem_drop h)))
  clear hdr9
  refine Org.begin [] (fun w' => Below wK.heap.size wK w') [0, 1, 2, 4, 5, 6, 3, 7, 8, 9] (by kernel_rfl) (below_drewN (Below.refl _ _) 1) (fun hS => ?_)
  (refine Org.yes (v := ?_) rfl (by kernel_rfl) (by kernel_rfl) (by kernel_rfl) (by kernel_rfl) (by kernel_rfl) (fun _ _ _ h => h) (by kernel_rfl) (SM.of hS) ?_ ?_; rotate_left; (focus (intro w hSw; (try dsimp only at hSw); refine Pure.val ?_; go_simp; (try with_reducible rfl); done)); try simp only [Act.put, List.setIfInBounds_toArray, List.set_cons_zero, List.set_cons_succ])
  (refine Org.yes (v := ?_) rfl (by kernel_rfl) (by kernel_rfl) (by kernel_rfl) (by kernel_rfl) (by kernel_rfl) (fun _ _ _ h => h) (by kernel_rfl) (SM.of hS) ?_ ?_; rotate_left; (focus (intro w hSw; (try dsimp only at hSw); refine Pure.val ?_; go_simp; (try with_reducible rfl); done)); try simp only [Act.put, List.setIfInBounds_toArray, List.set_cons_zero, List.set_cons_succ])
  (refine Org.yes (v := ?_) rfl (by kernel_rfl) (by kernel_rfl) (by kernel_rfl) (by kernel_rfl) (by kernel_rfl) (fun _ _ _ h => h) (by kernel_rfl) (SM.of hS) ?_ ?_; rotate_left; (focus (intro w hSw; (try dsimp only at hSw); refine Pure.val ?_; go_simp; (try with_reducible rfl); done)); try simp only [Act.put, List.setIfInBounds_toArray, List.set_cons_zero, List.set_cons_succ])
  (refine Org.yes (v := ?_) rfl (by kernel_rfl) (by kernel_rfl) (by kernel_rfl) (by kernel_rfl) (by kernel_rfl) (fun _ _ _ h => h) (by kernel_rfl) (SM.of hS) ?_ ?_; rotate_left; (focus (intro w hSw; (try dsimp only at hSw); refine Pure.val ?_; go_simp; (try with_reducible rfl); done)); try simp only [Act.put, List.setIfInBounds_toArray, List.set_cons_zero, List.set_cons_succ])
  (refine Org.yes (v := ?_) rfl (by kernel_rfl) (by kernel_rfl) (by kernel_rfl) (by kernel_rfl) (by kernel_rfl) (fun _ _ _ h => h) (by kernel_rfl) (SM.of hS) ?_ ?_; rotate_left; (focus (intro w hSw; (try dsimp only at hSw); refine Pure.val ?_; go_simp; (try with_reducible rfl); done)); try simp only [Act.put, List.setIfInBounds_toArray, List.set_cons_zero, List.set_cons_succ])
  (refine Org.yes (v := ?_) rfl (by kernel_rfl) (by kernel_rfl) (by kernel_rfl) (by kernel_rfl) (by kernel_rfl) (fun _ _ _ h => h) (by kernel_rfl) (SM.of hS) ?_ ?_; rotate_left; (focus (intro w hSw; (try dsimp only at hSw); refine Pure.val ?_; go_simp; (try with_reducible rfl); done)); try simp only [Act.put, List.setIfInBounds_toArray, List.set_cons_zero, List.set_cons_succ])
  refine Org.go rfl (by kernel_rfl) (by kernel_rfl) (fun K hK => ?_)
  have hc1 := (HT9.out.sl.below hS)
  refine op_append (.const (.slice none 0 0)) (.tmp 51) 34 rfl wK.heap.size 37 ibs (.slice none 0 0) 1 24 Tryd.underlying34 hibs hzb0 hzb1 hzb2 rfl (by omega) (.slice none 0 0) 0 [] rfl (World.ownsRow_nil _ _ _ _) _ _ _ (cpa) _ (by go_simp) hc1 H1T9.out (k) (by omega) (vsa.take k) (List.nil_append _) (by omega) (by omega) hS.size ?_
  rintro A6b c6b wAb ho6 hg6 _
  have hb6 := below_own hS (World.ownsRow_nil _ _ 37 1) hg6 (Nat.le_refl _) hS.size
  have HO6b := hid ho6
  have HBAb := hid hb6
  clear ho6 hg6 hb6 hc1
  refine hK.out _ _ HBAb.out (fun hS2 => ?_)
  clear hK K hS
  have hS := hS2
  clear hS2
  try simp only [Act.put, List.setIfInBounds_toArray, List.set_cons_zero, List.set_cons_succ]
  refine Org.go rfl (by kernel_rfl) (by kernel_rfl) (fun K hK => ?_)
  have hc2 := (HD9.out.sl.below hS)
  refine op_append (.tmp 52) (.tmp 55) 34 rfl wK.heap.size 37 ibs (.slice none 0 0) 1 24 Tryd.underlying34 hibs hzb0 hzb1 hzb2 rfl (by omega) _ _ _ (by go_simp) HO6b.out _ _ _ (cpb - k) _ (by go_simp) hc2 H1D9.out (np) (by omega) _ rfl (by omega) (by omega) hS.size ?_
  rintro A7b c7b wBb ho7 hg7 _
  have hb7 := below_own hS HO6b.out hg7 (Nat.le_refl _) hS.size
  have hnnb : k + (np - k) = np := by omega
  have hrj := rbs_app (A := A7b) ((HT9.out.below hb7).mono hb7.size) ((HD9.out.below hb7).mono hb7.size) (by rw [List.length_take, HVLa.out]; omega) (by rw [hnnb]; exact Sl.own ho7)
  rw [hnnb] at hrj
  have HRJb := hid hrj
  have HBBb := hid hb7
  clear ho7 hg7 hb7 hrj hc2
  refine hK.out _ _ HBBb.out (fun hS2 => ?_)
  clear hK K hS
  have hS := hS2
  clear hS2
  try simp only [Act.put, List.setIfInBounds_toArray, List.set_cons_zero, List.set_cons_succ]
  refine Org.go rfl (by kernel_rfl) (by kernel_rfl) (fun K hK => ?_)
  go_simp
  go_at_call 21
  refine (pjoin_any _ A7b (np) c7b (vsa.take k ++ vsb.drop k) (L.take k ++ Lq.drop k) _ HRJb.out (Nat.le_refl _) (by omega) HLEN9.out).mono ?_
  rintro e wJb ⟨Ajb, njb, cjb, xjb, rfl, hnjb, hcjb, hojb, hxjb, hbj⟩
  have hS3 := hS.trans (hbj.mono hS.size)
  have HNJb := hid hnjb
  have HCJb := hid hcjb
  have HOJb := hid hojb
  have HXJb := hid hxjb
  clear hnjb hcjb hojb hxjb hbj
  go_wp2_with fail
  refine hK.out _ _ hS3 (fun hS2 => ?_)
  clear hS3
  clear hK K hS
  have hS := hS2
  clear hS2
  try simp only [Act.put, List.setIfInBounds_toArray, List.set_cons_zero, List.set_cons_succ]
  (refine Org.yes (v := ?_) rfl (by kernel_rfl) (by kernel_rfl) (by kernel_rfl) (by kernel_rfl) (by kernel_rfl) (fun _ _ _ h => h) (by kernel_rfl) (SM.of hS) ?_ ?_; rotate_left; (focus (intro w hSw; (try dsimp only at hSw); refine Pure.val ?_; go_simp; (try with_reducible rfl); done)); try simp only [Act.put, List.setIfInBounds_toArray, List.set_cons_zero, List.set_cons_succ])
  refine Org.done (by kernel_rfl) ?_
  have HSE9 := hid hS
  clear hS
  clear hAc
  have HS12 := hid (HSK.out.trans (HSE9.out.mono HSK.out.size))
  have HRK12 := hid (HRK.out.up HSE9.out)
  have HM12 := hid ((HM5.out.below HS12.out).mono HS12.out.size)
  have HN12 := hid ((HN5.out.below HS12.out).mono HS12.out.size)
  have hx12 := HRX5.out.below HS12.out HRX5.out.lt
  have hy12 : Row _ gn 27 [.int .i64 s, .int .i64 m.next, .int .i64 m.P.K, .int .i64 m.P.H, .int .i64 m.P.S, .int .i64 m.extra, .slice Ae ne ce, .slice Aq nq cq] := HRY5.out.below HS12.out HRY5.out.lt
  have x0 := hx12.cell 0
  have x1 := hx12.cell 1
  have x2 := hx12.cell 2
  have x3 := hx12.cell 3
  have x4 := hx12.cell 4
  have x5 := hx12.cell 5
  have x6 := hx12.cell 6
  have x7 := hx12.cell 7
  simp only [List.getElem?_cons_succ, List.getElem?_cons_zero] at x0 x1 x2 x3 x4 x5 x6 x7
  have y0 := hy12.cell 0
  have y1 := hy12.cell 1
  have y2 := hy12.cell 2
  have y3 := hy12.cell 3
  have y4 := hy12.cell 4
  have y5 := hy12.cell 5
  have y6 := hy12.cell 6
  have y7 := hy12.cell 7
  simp only [List.getElem?_cons_succ, List.getElem?_cons_zero] at y0 y1 y2 y3 y4 y5 y6 y7
  clear hx12 hy12
  by_cases h0 : 0 < k
  · have hk0 : (0 : Int) < (k : Int) := by omega
    by_cases hkp : k < np
    · have hkp' : (k : Int) < (np : Int) := by omega
      obtain rfl : njb = 0 := by rw [HNJb.out, HJ2.out k h0 hkp]; rfl
      have hbz : Below wJb.heap.size wJb (wJb.alloc (.cells #[.int .i64 s, .int .i64 m.next, .int .i64 m.P.K, .int .i64 m.P.H, .int .i64 m.P.S, .int .i64 m.extra, .slice Ae ne ce, .slice Aq nq cq, .int .i64 m.seq, .int .i64 m.next, .int .i64 m.P.K, .int .i64 m.P.H, .int .i64 m.P.S, .int .i64 m.extra, .slice Ad nd cd, .slice Ao no co] 27)) := (Below.refl _ _).alloc (Nat.le_refl _) _
      have hrz : Row (wJb.alloc (.cells #[.int .i64 s, .int .i64 m.next, .int .i64 m.P.K, .int .i64 m.P.H, .int .i64 m.P.S, .int .i64 m.extra, .slice Ae ne ce, .slice Aq nq cq, .int .i64 m.seq, .int .i64 m.next, .int .i64 m.P.K, .int .i64 m.P.H, .int .i64 m.P.S, .int .i64 m.extra, .slice Ad nd cd, .slice Ao no co] 27)) wJb.heap.size 27 [.int .i64 s, .int .i64 m.next, .int .i64 m.P.K, .int .i64 m.P.H, .int .i64 m.P.S, .int .i64 m.extra, .slice Ae ne ce, .slice Aq nq cq, .int .i64 m.seq, .int .i64 m.next, .int .i64 m.P.K, .int .i64 m.P.H, .int .i64 m.P.S, .int .i64 m.extra, .slice Ad nd cd, .slice Ao no co] := Row.new wJb 27 #[.int .i64 s, .int .i64 m.next, .int .i64 m.P.K, .int .i64 m.P.H, .int .i64 m.P.S, .int .i64 m.extra, .slice Ae ne ce, .slice Aq nq cq, .int .i64 m.seq, .int .i64 m.next, .int .i64 m.P.K, .int .i64 m.P.H, .int .i64 m.P.S, .int .i64 m.extra, .slice Ad nd cd, .slice Ao no co]
      have HRW := hid (rms_two (x := ⟨bump m s, Ae, ne, ce, Aq, nq, cq, tq⟩) (y := ⟨m, Ad, nd, cd, Ao, no, co, ts⟩) hrz ((HN12.out.below hbz).mono hbz.size) ((HM12.out.below hbz).mono hbz.size))
      have HRKz := hid (HRK12.out.up hbz)
      have HBZ := hid hbz
      clear hbz hrz
      go_wp2_with fail
      generalize (wJb.alloc (.cells #[.int .i64 s, .int .i64 m.next, .int .i64 m.P.K, .int .i64 m.P.H, .int .i64 m.P.S, .int .i64 m.extra, .slice Ae ne ce, .slice Aq nq cq, .int .i64 m.seq, .int .i64 m.next, .int .i64 m.P.K, .int .i64 m.P.H, .int .i64 m.P.S, .int .i64 m.extra, .slice Ad nd cd, .slice Ao no co] 27)) = wA at *
      obtain ⟨gA, hgA⟩ : ∃ g, wJb.heap.size = g := ⟨_, rfl⟩
      rw [hgA] at HRW ⊢
      have HGA := hid hgA
      clear hgA
      refine (manis_any _ Ak (some ⟨gA, 0, none⟩) 2 ck 2 2 xk [⟨bump m s, Ae, ne, ce, Aq, nq, cq, tq⟩, ⟨m, Ad, nd, cd, Ao, no, co, ts⟩] true _ HRKz.out HRW.out (Nat.le_refl _) (by omega) (by omega) ⟨fun _ => HXK.out, fun _ => rfl⟩).mono ?_
      rintro e wM ⟨rfl, hbm⟩
      have HBM := hid (HBZ.out.trans (hbm.mono HBZ.out.size))
      clear hbm
      go_wp2_with fail
      refine (wakes20 _).mono ?_
      rintro e wW ⟨rfl, hbW⟩
      have hbe := HB5.out.trans ((HS12.out.trans ((HBM.out.trans (hbW.mono HBM.out.size)).mono HS12.out.size)).mono HB5.out.size)
      clear hbW
      go_wp2_with fail
      go_ret
      exact ⟨rfl, hbe⟩
    · have hkp' : ¬ (k : Int) < (np : Int) := by omega
      have hbz : Below wJb.heap.size wJb (wJb.alloc (.cells #[.int .i64 s, .int .i64 m.next, .int .i64 m.P.K, .int .i64 m.P.H, .int .i64 m.P.S, .int .i64 m.extra, .slice Ae ne ce, .slice Aq nq cq, .int .i64 m.seq, .int .i64 m.next, .int .i64 m.P.K, .int .i64 m.P.H, .int .i64 m.P.S, .int .i64 m.extra, .slice Ad nd cd, .slice Ao no co] 27)) := (Below.refl _ _).alloc (Nat.le_refl _) _
      have hrz : Row (wJb.alloc (.cells #[.int .i64 s, .int .i64 m.next, .int .i64 m.P.K, .int .i64 m.P.H, .int .i64 m.P.S, .int .i64 m.extra, .slice Ae ne ce, .slice Aq nq cq, .int .i64 m.seq, .int .i64 m.next, .int .i64 m.P.K, .int .i64 m.P.H, .int .i64 m.P.S, .int .i64 m.extra, .slice Ad nd cd, .slice Ao no co] 27)) wJb.heap.size 27 [.int .i64 s, .int .i64 m.next, .int .i64 m.P.K, .int .i64 m.P.H, .int .i64 m.P.S, .int .i64 m.extra, .slice Ae ne ce, .slice Aq nq cq, .int .i64 m.seq, .int .i64 m.next, .int .i64 m.P.K, .int .i64 m.P.H, .int .i64 m.P.S, .int .i64 m.extra, .slice Ad nd cd, .slice Ao no co] := Row.new wJb 27 #[.int .i64 s, .int .i64 m.next, .int .i64 m.P.K, .int .i64 m.P.H, .int .i64 m.P.S, .int .i64 m.extra, .slice Ae ne ce, .slice Aq nq cq, .int .i64 m.seq, .int .i64 m.next, .int .i64 m.P.K, .int .i64 m.P.H, .int .i64 m.P.S, .int .i64 m.extra, .slice Ad nd cd, .slice Ao no co]
      have HRW := hid (rms_two (x := ⟨bump m s, Ae, ne, ce, Aq, nq, cq, tq⟩) (y := ⟨m, Ad, nd, cd, Ao, no, co, ts⟩) hrz ((HN12.out.below hbz).mono hbz.size) ((HM12.out.below hbz).mono hbz.size))
      have HRKz := hid (HRK12.out.up hbz)
      have HBZ := hid hbz
      clear hbz hrz
      go_wp2_with fail
      generalize (wJb.alloc (.cells #[.int .i64 s, .int .i64 m.next, .int .i64 m.P.K, .int .i64 m.P.H, .int .i64 m.P.S, .int .i64 m.extra, .slice Ae ne ce, .slice Aq nq cq, .int .i64 m.seq, .int .i64 m.next, .int .i64 m.P.K, .int .i64 m.P.H, .int .i64 m.P.S, .int .i64 m.extra, .slice Ad nd cd, .slice Ao no co] 27)) = wA at *
      obtain ⟨gA, hgA⟩ : ∃ g, wJb.heap.size = g := ⟨_, rfl⟩
      rw [hgA] at HRW ⊢
      have HGA := hid hgA
      clear hgA
      refine (manis_any _ Ak (some ⟨gA, 0, none⟩) 2 ck 2 2 xk [⟨bump m s, Ae, ne, ce, Aq, nq, cq, tq⟩, ⟨m, Ad, nd, cd, Ao, no, co, ts⟩] true _ HRKz.out HRW.out (Nat.le_refl _) (by omega) (by omega) ⟨fun _ => HXK.out, fun _ => rfl⟩).mono ?_
      rintro e wM ⟨rfl, hbm⟩
      have HBM := hid (HBZ.out.trans (hbm.mono HBZ.out.size))
      clear hbm
      go_wp2_with fail
      refine (wakes20 _).mono ?_
      rintro e wW ⟨rfl, hbW⟩
      have hbe := HB5.out.trans ((HS12.out.trans ((HBM.out.trans (hbW.mono HBM.out.size)).mono HS12.out.size)).mono HB5.out.size)
      clear hbW
      go_wp2_with fail
      go_ret
      exact ⟨rfl, hbe⟩
  · have hk0 : ¬ (0 : Int) < (k : Int) := by omega
    have hbz : Below wJb.heap.size wJb (wJb.alloc (.cells #[.int .i64 s, .int .i64 m.next, .int .i64 m.P.K, .int .i64 m.P.H, .int .i64 m.P.S, .int .i64 m.extra, .slice Ae ne ce, .slice Aq nq cq, .int .i64 m.seq, .int .i64 m.next, .int .i64 m.P.K, .int .i64 m.P.H, .int .i64 m.P.S, .int .i64 m.extra, .slice Ad nd cd, .slice Ao no co] 27)) := (Below.refl _ _).alloc (Nat.le_refl _) _
    have hrz : Row (wJb.alloc (.cells #[.int .i64 s, .int .i64 m.next, .int .i64 m.P.K, .int .i64 m.P.H, .int .i64 m.P.S, .int .i64 m.extra, .slice Ae ne ce, .slice Aq nq cq, .int .i64 m.seq, .int .i64 m.next, .int .i64 m.P.K, .int .i64 m.P.H, .int .i64 m.P.S, .int .i64 m.extra, .slice Ad nd cd, .slice Ao no co] 27)) wJb.heap.size 27 [.int .i64 s, .int .i64 m.next, .int .i64 m.P.K, .int .i64 m.P.H, .int .i64 m.P.S, .int .i64 m.extra, .slice Ae ne ce, .slice Aq nq cq, .int .i64 m.seq, .int .i64 m.next, .int .i64 m.P.K, .int .i64 m.P.H, .int .i64 m.P.S, .int .i64 m.extra, .slice Ad nd cd, .slice Ao no co] := Row.new wJb 27 #[.int .i64 s, .int .i64 m.next, .int .i64 m.P.K, .int .i64 m.P.H, .int .i64 m.P.S, .int .i64 m.extra, .slice Ae ne ce, .slice Aq nq cq, .int .i64 m.seq, .int .i64 m.next, .int .i64 m.P.K, .int .i64 m.P.H, .int .i64 m.P.S, .int .i64 m.extra, .slice Ad nd cd, .slice Ao no co]
    have HRW := hid (rms_two (x := ⟨bump m s, Ae, ne, ce, Aq, nq, cq, tq⟩) (y := ⟨m, Ad, nd, cd, Ao, no, co, ts⟩) hrz ((HN12.out.below hbz).mono hbz.size) ((HM12.out.below hbz).mono hbz.size))
    have HRKz := hid (HRK12.out.up hbz)
    have HBZ := hid hbz
    clear hbz hrz
    go_wp2_with fail
    generalize (wJb.alloc (.cells #[.int .i64 s, .int .i64 m.next, .int .i64 m.P.K, .int .i64 m.P.H, .int .i64 m.P.S, .int .i64 m.extra, .slice Ae ne ce, .slice Aq nq cq, .int .i64 m.seq, .int .i64 m.next, .int .i64 m.P.K, .int .i64 m.P.H, .int .i64 m.P.S, .int .i64 m.extra, .slice Ad nd cd, .slice Ao no co] 27)) = wA at *
    obtain ⟨gA, hgA⟩ : ∃ g, wJb.heap.size = g := ⟨_, rfl⟩
    rw [hgA] at HRW ⊢
    have HGA := hid hgA
    clear hgA
    refine (manis_any _ Ak (some ⟨gA, 0, none⟩) 2 ck 2 2 xk [⟨bump m s, Ae, ne, ce, Aq, nq, cq, tq⟩, ⟨m, Ad, nd, cd, Ao, no, co, ts⟩] true _ HRKz.out HRW.out (Nat.le_refl _) (by omega) (by omega) ⟨fun _ => HXK.out, fun _ => rfl⟩).mono ?_
    rintro e wM ⟨rfl, hbm⟩
    have HBM := hid (HBZ.out.trans (hbm.mono HBZ.out.size))
    clear hbm
    go_wp2_with fail
    refine (wakes20 _).mono ?_
    rintro e wW ⟨rfl, hbW⟩
    have hbe := HB5.out.trans ((HS12.out.trans ((HBM.out.trans (hbW.mono HBM.out.size)).mono HS12.out.size)).mono HB5.out.size)
    clear hbW
    go_wp2_with fail
    go_ret
    exact ⟨rfl, hbe⟩
end Go.Proofs.YtbpimfhachbcdaaDoor

