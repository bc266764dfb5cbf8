/- Law20a -/
import Derived.Deep.DeepCutAuto
import Derived.BigGuardPart
import Derived.Test.YtbpimfhachbcdaaDoorBPageBack01
import Derived.Test.YtbpimfhachbcdaaDoorBPageBack35
import Derived.Test.YtbpimfhachbcdaaDoorBPageBack39
import Derived.Test.YtbpimfhachbcdaaDoorBPageBack50
set_option maxRecDepth 20000
set_option linter.unusedSimpArgs false
set_option linter.unusedVariables false
namespace Go.Proofs.YtbpimfhachbcdaaDoor
open Go.RowKit Wells
set_option maxRecDepth 20000 in
set_option maxHeartbeats 8000000 in
theorem walk_PageBack (A : Option Addr) (n c : Nat) (l : List Int) (turn gone : Int) (w : World) (h : IsInts w A n c l) (ht : -9223372036854775808 ≤ turn ∧ turn ≤ 9223372036854775807) (hg : -9223372036854775808 ≤ gone ∧ gone ≤ 9223372036854775807) :
    Calls Tryd.prog 5 #[.slice A n c, .int .i64 turn, .int .i64 gone] w fun e w' => e = .returned (.bool true) ∧ Below w.heap.size w w' := by
  obtain ⟨ibs, hibs, hzb0, hzb1, hzb2⟩ := info_parts infoBs
  obtain ⟨im, him, hzm0, hzm1, hzm2⟩ := info_parts infoMn
  obtain ⟨hs, hle, hcap, hwf⟩ := h
  go_enter Tryd.func5, Tryd.ntmps5
  go_wp2_with fail
  refine (mani_any w.heap.size A n c l w hs (Nat.le_refl _) (by omega) hwf).mono ?_
  rintro e w1 ⟨m, Ad, nd, cd, Ao, no, co, ts, rfl, hom, hpl, hb1⟩
  have hmay := hpl.may
  have h64 := hpl.m64
  have hrm1 := hom.read
  clear hom
  unfold Mani.val
  have hx2 := Row.new w1 27 #[.int .i64 m.seq, .int .i64 m.next, .int .i64 m.P.K, .int .i64 m.P.H, .int .i64 m.P.S, .int .i64 m.extra, .slice Ad nd cd, .slice Ao no co]
  have hb12 : Below w1.heap.size w1 (w1.alloc (.cells #[.int .i64 m.seq, .int .i64 m.next, .int .i64 m.P.K, .int .i64 m.P.H, .int .i64 m.P.S, .int .i64 m.extra, .slice Ad nd cd, .slice Ao no co] 27)) := (Below.refl _ _).alloc (Nat.le_refl _) _
  have HM := hid ((hrm1.below hb12).mono hb12.size)
  have HBB := hid (hb1.trans (hb12.mono hb1.size))
  have HX := hid hx2
  have HZ1 := hid hb1.size
  have x0 := hx2.cell 0
  have x1 := hx2.cell 1
  have x2 := hx2.cell 2
  have x3 := hx2.cell 3
  have x4 := hx2.cell 4
  have x5 := hx2.cell 5
  have x6 := hx2.cell 6
  have x7 := hx2.cell 7
  simp only [List.getElem?_cons_succ, List.getElem?_cons_zero] at x0 x1 x2 x3 x4 x5 x6 x7
  clear hx2 hrm1 hb12 hb1
  go_wp2_with fail
  generalize w1.alloc (.cells #[.int .i64 m.seq, .int .i64 m.next, .int .i64 m.P.K, .int .i64 m.P.H, .int .i64 m.P.S, .int .i64 m.extra, .slice Ad nd cd, .slice Ao no co] 27) = w2 at *
  obtain ⟨gm, hgm⟩ : ∃ g, w1.heap.size = g := ⟨_, rfl⟩
  rw [hgm] at HX HZ1 x0 x1 x2 x3 x4 x5 x6 x7 ⊢
  clear hgm
  refine (psplit_any m _ _ _ _ _ _ _ _ w2 HM.out (Nat.le_refl _) h64.1 h64.2).mono ?_
  rintro e w3 ⟨Ap, cp, vsp, rfl, hop, hb3⟩
  obtain ⟨L, hL⟩ : ∃ L, pagesL m.seq (pack m) = L := ⟨_, rfl⟩
  have h9 := pages_le m
  have h1 : 1 ≤ (pagesL m.seq (pack m)).length := by rw [pagesL_len]; exact pageN_pos (pack_ne hmay)
  rw [hL] at hop h9 h1 ⊢
  obtain ⟨np, hnp⟩ : ∃ q, L.length = q := ⟨_, rfl⟩
  rw [hnp] at hop h9 h1 ⊢
  have HRB := hid (hop.read hnp)
  have HL := hid hL
  have HNP := hid hnp
  have HMAY := hid hmay
  have H255 := hid (show pageN (pack m) ≤ 255 by have := pages_le m; rw [pagesL_len] at this; omega)
  clear hmay
  have HOP := hid hop
  have howp := hop.own
  rw [hnp] at howp
  have HVL := hid (show vsp.length = np by have := (Sl.own howp).len; omega)
  have hcp := own_cap howp
  have HB3 := hid (HBB.out.trans (hb3.mono HBB.out.size))
  have HM3 := hid ((HM.out.below hb3).mono hb3.size)
  have HX3 := hid (HX.out.below hb3 HX.out.lt)
  have hnn : ¬ (np : Int) < 1 := by omega
  clear x0 x1 x2 x3 x4 x5 x6 x7 hop hb3 hL hnp howp
  go_wp2_with fail
  refine (within_any turn np w3 ht.1 ht.2 (by omega) (by omega)).mono ?_
  rintro e w4 ⟨rfl, rfl⟩
  go_upto_region 6 with fail
  obtain ⟨k, hk⟩ : ∃ k : Nat, turn % (np : Int) = (k : Int) := ⟨(turn % (np : Int)).toNat, (Int.toNat_of_nonneg (Int.emod_nonneg _ (by omega))).symm⟩
  have hkn : k < np := by have := Int.emod_lt_of_pos turn (show (0 : Int) < np by omega); omega
  rw [hk]
  clear hk
  obtain ⟨bp, op_, rfl, hbp, -⟩ := HRB.out.sl.at_ (by omega)
  have hkle : k ≤ np := by omega
  have hkcp : k ≤ cp := by omega
  have hdr := rbs_drop HRB.out HVL.out (k := k) (c := cp) (by omega) hcp.1
  simp only [Option.map_some, addr_add] at hdr
  have HDR := hid hdr
  have HTR := hid (rbs_take HRB.out (k := k) (by omega))
  have H1 := hid (obs_one HOP.out)
  have H1D := hid (show ∀ u ∈ vsp.drop k, u.oneCell' = true from fun u hu => H1.out u (List.mem_of_mem_drop hu))
  have H1T := hid (show ∀ u ∈ vsp.take k, u.oneCell' = true from fun u hu => H1.out u (List.mem_of_mem_take hu))
  have HLEN := hid (show ∀ x ∈ L.drop k ++ L.take k, x.length ≤ 1048576 from fun x hx => by
    have hx : x ∈ L := by
      rcases List.mem_append.1 hx with h | h
      · exact List.mem_of_mem_drop h
      · exact List.mem_of_mem_take h
    rw [← HL.out] at hx
    exact pages_len64 hx)
  clear hdr
  refine Org.begin [] (fun w' => Below w3.heap.size w3 w') [0, 1, 2, 4, 5, 6, 3, 7, 8, 9] (by kernel_rfl) (below_drewN (Below.refl _ _) 1) (fun hS => ?_)
  (refine Org.yes (v := ?_) rfl (by kernel_rfl) (by kernel_rfl) (by kernel_rfl) (by kernel_rfl) (by kernel_rfl) (fun _ _ _ h => h) (by kernel_rfl) (SM.of hS) ?_ ?_; rotate_left; (focus (intro w hSw; (try dsimp only at hSw); refine Pure.val ?_; go_simp; (try with_reducible rfl); done)); try simp only [Act.put, List.setIfInBounds_toArray, List.set_cons_zero, List.set_cons_succ])
  (refine Org.yes (v := ?_) rfl (by kernel_rfl) (by kernel_rfl) (by kernel_rfl) (by kernel_rfl) (by kernel_rfl) (fun _ _ _ h => h) (by kernel_rfl) (SM.of hS) ?_ ?_; rotate_left; (focus (intro w hSw; (try dsimp only at hSw); refine Pure.val ?_; go_simp; (try with_reducible rfl); done)); try simp only [Act.put, List.setIfInBounds_toArray, List.set_cons_zero, List.set_cons_succ])
  (refine Org.yes (v := ?_) rfl (by kernel_rfl) (by kernel_rfl) (by kernel_rfl) (by kernel_rfl) (by kernel_rfl) (fun _ _ _ h => h) (by kernel_rfl) (SM.of hS) ?_ ?_; rotate_left; (focus (intro w hSw; (try dsimp only at hSw); refine Pure.val ?_; go_simp; (try with_reducible rfl); done)); try simp only [Act.put, List.setIfInBounds_toArray, List.set_cons_zero, List.set_cons_succ])
  (refine Org.yes (v := ?_) rfl (by kernel_rfl) (by kernel_rfl) (by kernel_rfl) (by kernel_rfl) (by kernel_rfl) (fun _ _ _ h => h) (by kernel_rfl) (SM.of hS) ?_ ?_; rotate_left; (focus (intro w hSw; (try dsimp only at hSw); refine Pure.val ?_; go_simp; (try with_reducible rfl); done)); try simp only [Act.put, List.setIfInBounds_toArray, List.set_cons_zero, List.set_cons_succ])
  (refine Org.yes (v := ?_) rfl (by kernel_rfl) (by kernel_rfl) (by kernel_rfl) (by kernel_rfl) (by kernel_rfl) (fun _ _ _ h => h) (by kernel_rfl) (SM.of hS) ?_ ?_; rotate_left; (focus (intro w hSw; (try dsimp only at hSw); refine Pure.val ?_; go_simp; (try with_reducible rfl); done)); try simp only [Act.put, List.setIfInBounds_toArray, List.set_cons_zero, List.set_cons_succ])
  (refine Org.yes (v := ?_) rfl (by kernel_rfl) (by kernel_rfl) (by kernel_rfl) (by kernel_rfl) (by kernel_rfl) (fun _ _ _ h => h) (by kernel_rfl) (SM.of hS) ?_ ?_; rotate_left; (focus (intro w hSw; (try dsimp only at hSw); refine Pure.val ?_; go_simp; (try with_reducible rfl); done)); try simp only [Act.put, List.setIfInBounds_toArray, List.set_cons_zero, List.set_cons_succ])
  refine Org.go rfl (by kernel_rfl) (by kernel_rfl) (fun K hK => ?_)
  have hc1 := (HDR.out.sl.below hS)
  refine op_append (.const (.slice none 0 0)) (.tmp 27) 34 rfl w3.heap.size 37 ibs (.slice none 0 0) 1 24 Tryd.underlying34 hibs hzb0 hzb1 hzb2 rfl (by omega) (.slice none 0 0) 0 [] rfl (World.ownsRow_nil _ _ _ _) _ _ _ (cp - k) _ (by go_simp) hc1 H1D.out (np - k) (by omega) (vsp.drop k) (List.nil_append _) (by omega) (by omega) hS.size ?_
  rintro A6 c6 wA ho6 hg6 _
  have hb6 := below_own hS (World.ownsRow_nil _ _ 37 1) hg6 (Nat.le_refl _) hS.size
  have HO6 := hid ho6
  have HBA := hid hb6
  clear ho6 hg6 hb6 hc1
  refine hK.out _ _ HBA.out (fun hS2 => ?_)
  clear hK K hS
  have hS := hS2
  clear hS2
  try simp only [Act.put, List.setIfInBounds_toArray, List.set_cons_zero, List.set_cons_succ]
  refine Org.go rfl (by kernel_rfl) (by kernel_rfl) (fun K hK => ?_)
  have hc2 := (HTR.out.sl.below hS)
  refine op_append (.tmp 28) (.tmp 31) 34 rfl w3.heap.size 37 ibs (.slice none 0 0) 1 24 Tryd.underlying34 hibs hzb0 hzb1 hzb2 rfl (by omega) _ _ _ (by go_simp) HO6.out _ _ _ (cp) _ (by go_simp) hc2 H1T.out (np) (by omega) _ rfl (by omega) (by omega) hS.size ?_
  rintro A7 c7 wB ho7 hg7 _
  have hb7 := below_own hS HO6.out hg7 (Nat.le_refl _) hS.size
  have hnn : np - k + (k) = np := by omega
  have hrj := rbs_app (A := A7) ((HDR.out.below hb7).mono hb7.size) ((HTR.out.below hb7).mono hb7.size) (by rw [List.length_drop, HVL.out]) (by rw [hnn]; exact Sl.own ho7)
  rw [hnn] at hrj
  have HRJ := hid hrj
  have HBB := hid hb7
  clear ho7 hg7 hb7 hrj hc2
  refine hK.out _ _ HBB.out (fun hS2 => ?_)
  clear hK K hS
  have hS := hS2
  clear hS2
  try simp only [Act.put, List.setIfInBounds_toArray, List.set_cons_zero, List.set_cons_succ]
  refine Org.go rfl (by kernel_rfl) (by kernel_rfl) (fun K hK => ?_)
  go_simp
  go_at_call 21
  refine (pjoin_any _ A7 (np) c7 (vsp.drop k ++ vsp.take k) (L.drop k ++ L.take k) _ HRJ.out (Nat.le_refl _) (by omega) HLEN.out).mono ?_
  rintro e wJ ⟨Aj, nj, cj, xj, rfl, hnj, hcj, hoj, hxj, hbj⟩
  have hS3 := hS.trans (hbj.mono hS.size)
  have HNJ := hid hnj
  have HCJ := hid hcj
  have HOJ := hid hoj
  have HXJ := hid hxj
  clear hnj hcj hoj hxj hbj
  go_wp2_with fail
  refine hK.out _ _ hS3 (fun hS2 => ?_)
  clear hS3
  clear hK K hS
  have hS := hS2
  clear hS2
  try simp only [Act.put, List.setIfInBounds_toArray, List.set_cons_zero, List.set_cons_succ]
  (refine Org.yes (v := ?_) rfl (by kernel_rfl) (by kernel_rfl) (by kernel_rfl) (by kernel_rfl) (by kernel_rfl) (fun _ _ _ h => h) (by kernel_rfl) (SM.of hS) ?_ ?_; rotate_left; (focus (intro w hSw; (try dsimp only at hSw); refine Pure.val ?_; go_simp; (try with_reducible rfl); done)); try simp only [Act.put, List.setIfInBounds_toArray, List.set_cons_zero, List.set_cons_succ])
  refine Org.done (by kernel_rfl) ?_
  have HSE := hid hS
  clear hS
  have hall : xj.map MD.m = [m] := by rw [HXJ.out, ← HL.out]; exact join_turn HMAY.out H255.out k
  have hxl : xj.length = 1 := by have := congrArg List.length hall; simpa using this
  obtain rfl : nj = 1 := by rw [HNJ.out, ← HXJ.out, List.length_map, hxl]
  have HRA6 := hid (HOJ.out.read hxl)
  have HXA6 := hid hall
  clear hall hxl
  go_wp2_with fail
  refine (within_any gone np _ hg.1 hg.2 (by omega) (by omega)).mono ?_
  rintro e w5 ⟨rfl, rfl⟩
  go_upto_region 8 with fail
  obtain ⟨g, hgk⟩ : ∃ g : Nat, gone % (np : Int) = (g : Int) := ⟨(gone % (np : Int)).toNat, (Int.toNat_of_nonneg (Int.emod_nonneg _ (by omega))).symm⟩
  have hgn : g < np := by have := Int.emod_lt_of_pos gone (show (0 : Int) < np by omega); omega
  rw [hgk]
  clear hgk
  have hgle : g ≤ cp := by omega
  have hgle1 : g + 1 ≤ np := by omega
  have HRB8 := hid ((HRB.out.below HSE.out).mono HSE.out.size)
  have HTR8 := hid (rbs_take HRB8.out (k := g) (by omega))
  have hdr8 := rbs_drop HRB8.out HVL.out (k := g + 1) (c := cp) (by omega) hcp.1
  simp only [Option.map_some, addr_add] at hdr8
  obtain ⟨Ac, hAc⟩ : ∃ Ac, (if cp = g + 1 then some (⟨bp, op_, none⟩ : Addr) else some ⟨bp, op_ + (g + 1), none⟩) = Ac := ⟨_, rfl⟩
  rw [hAc] at hdr8
  have HDR8 := hid hdr8
  clear hdr8
  have H1D8 := hid (show ∀ u ∈ vsp.drop (g + 1), u.oneCell' = true from fun u hu => H1.out u (List.mem_of_mem_drop hu))
  have H1T8 := hid (show ∀ u ∈ vsp.take g, u.oneCell' = true from fun u hu => H1.out u (List.mem_of_mem_take hu))
  have HLEN8 := hid (show ∀ x ∈ L.take g ++ L.drop (g + 1), x.length ≤ 1048576 from fun x hx => by
    have hx : x ∈ L := by
      rcases List.mem_append.1 hx with h | h
      · exact List.mem_of_mem_take h
      · exact List.mem_of_mem_drop h
    rw [← HL.out] at hx
    exact pages_len64 hx)
  have hwr : IntKind.i64.wrap ((g : Int) + 1) = ((g : Int) + 1) := by rw [IntKind.wrap_i64]; omega
  have hg01 : (0 : Int) ≤ (g : Int) + 1 := by omega
  have hg02 : (g : Int) + 1 ≤ (np : Int) := by omega
  refine Org.begin [] (fun w' => Below wJ.heap.size wJ w') [0, 1, 2, 4, 5, 6, 7, 3, 8, 9, 10] (by kernel_rfl) (below_drewN (Below.refl _ _) 1) (fun hS => ?_)
  (refine Org.yes (v := ?_) rfl (by kernel_rfl) (by kernel_rfl) (by kernel_rfl) (by kernel_rfl) (by kernel_rfl) (fun _ _ _ h => h) (by kernel_rfl) (SM.of hS) ?_ ?_; rotate_left; (focus (intro w hSw; (try dsimp only at hSw); refine Pure.val ?_; go_simp; (try with_reducible rfl); done)); try simp only [Act.put, List.setIfInBounds_toArray, List.set_cons_zero, List.set_cons_succ])
  (refine Org.yes (v := ?_) rfl (by kernel_rfl) (by kernel_rfl) (by kernel_rfl) (by kernel_rfl) (by kernel_rfl) (fun _ _ _ h => h) (by kernel_rfl) (SM.of hS) ?_ ?_; rotate_left; (focus (intro w hSw; (try dsimp only at hSw); refine Pure.val ?_; go_simp; (try with_reducible rfl); done)); try simp only [Act.put, List.setIfInBounds_toArray, List.set_cons_zero, List.set_cons_succ])
  (refine Org.yes (v := ?_) rfl (by kernel_rfl) (by kernel_rfl) (by kernel_rfl) (by kernel_rfl) (by kernel_rfl) (fun _ _ _ h => h) (by kernel_rfl) (SM.of hS) ?_ ?_; rotate_left; (focus (intro w hSw; (try dsimp only at hSw); refine Pure.val ?_; go_simp; (try with_reducible rfl); done)); try simp only [Act.put, List.setIfInBounds_toArray, List.set_cons_zero, List.set_cons_succ])
  (refine Org.yes (v := ?_) rfl (by kernel_rfl) (by kernel_rfl) (by kernel_rfl) (by kernel_rfl) (by kernel_rfl) (fun _ _ _ h => h) (by kernel_rfl) (SM.of hS) ?_ ?_; rotate_left; (focus (intro w hSw; (try dsimp only at hSw); refine Pure.val ?_; go_simp; (try with_reducible rfl); done)); try simp only [Act.put, List.setIfInBounds_toArray, List.set_cons_zero, List.set_cons_succ])
  (refine Org.yes (v := ?_) rfl (by kernel_rfl) (by kernel_rfl) (by kernel_rfl) (by kernel_rfl) (by kernel_rfl) (fun _ _ _ h => h) (by kernel_rfl) (SM.of hS) ?_ ?_; rotate_left; (focus (intro w hSw; (try dsimp only at hSw); refine Pure.val ?_; go_simp; (try with_reducible rfl); done)); try simp only [Act.put, List.setIfInBounds_toArray, List.set_cons_zero, List.set_cons_succ])
  (refine Org.yes (v := ?_) rfl (by kernel_rfl) (by kernel_rfl) (by kernel_rfl) (by kernel_rfl) (by kernel_rfl) (fun _ _ _ h => h) (by kernel_rfl) (SM.of hS) ?_ ?_; rotate_left; (focus (intro w hSw; (try dsimp only at hSw); refine Pure.val ?_; go_simp; (try with_reducible rfl); done)); try simp only [Act.put, List.setIfInBounds_toArray, List.set_cons_zero, List.set_cons_succ])
  (refine Org.yes (v := ?_) rfl (by kernel_rfl) (by kernel_rfl) (by kernel_rfl) (by kernel_rfl) (by kernel_rfl) (fun _ _ _ h => h) (by kernel_rfl) (SM.of hS) ?_ ?_; rotate_left; (focus (intro w hSw; (try dsimp only at hSw); refine Pure.val ?_; go_simp; (try with_reducible rfl); done)); try simp only [Act.put, List.setIfInBounds_toArray, List.set_cons_zero, List.set_cons_succ])
  refine Org.go rfl (by kernel_rfl) (by kernel_rfl) (fun K hK => ?_)
  have hc1 := (HTR8.out.sl.below hS)
  refine op_append (.const (.slice none 0 0)) (.tmp 40) 34 rfl wJ.heap.size 37 ibs (.slice none 0 0) 1 24 Tryd.underlying34 hibs hzb0 hzb1 hzb2 rfl (by omega) (.slice none 0 0) 0 [] rfl (World.ownsRow_nil _ _ _ _) _ _ _ (cp) _ (by go_simp) hc1 H1T8.out (g) (by omega) (vsp.take g) (List.nil_append _) (by omega) (by omega) hS.size ?_
  rintro A6b c6b wAb ho6 hg6 _
  have hb6 := below_own hS (World.ownsRow_nil _ _ 37 1) hg6 (Nat.le_refl _) hS.size
  have HO6b := hid ho6
  have HBAb := hid hb6
  clear ho6 hg6 hb6 hc1
  refine hK.out _ _ HBAb.out (fun hS2 => ?_)
  clear hK K hS
  have hS := hS2
  clear hS2
  try simp only [Act.put, List.setIfInBounds_toArray, List.set_cons_zero, List.set_cons_succ]
  refine Org.go rfl (by kernel_rfl) (by kernel_rfl) (fun K hK => ?_)
  have hc2 := (HDR8.out.sl.below hS)
  refine op_append (.tmp 41) (.tmp 45) 34 rfl wJ.heap.size 37 ibs (.slice none 0 0) 1 24 Tryd.underlying34 hibs hzb0 hzb1 hzb2 rfl (by omega) _ _ _ (by go_simp) HO6b.out _ _ _ (cp - (g + 1)) _ (by go_simp) hc2 H1D8.out (np - 1) (by omega) _ rfl (by omega) (by omega) hS.size ?_
  rintro A7b c7b wBb ho7 hg7 _
  have hb7 := below_own hS HO6b.out hg7 (Nat.le_refl _) hS.size
  have hnnb : g + (np - (g + 1)) = np - 1 := by omega
  have hrj := rbs_app (A := A7b) ((HTR8.out.below hb7).mono hb7.size) ((HDR8.out.below hb7).mono hb7.size) (by rw [List.length_take, HVL.out]; omega) (by rw [hnnb]; exact Sl.own ho7)
  rw [hnnb] at hrj
  have HRJb := hid hrj
  have HBBb := hid hb7
  clear ho7 hg7 hb7 hrj hc2
  refine hK.out _ _ HBBb.out (fun hS2 => ?_)
  clear hK K hS
  have hS := hS2
  clear hS2
  try simp only [Act.put, List.setIfInBounds_toArray, List.set_cons_zero, List.set_cons_succ]
  refine Org.go rfl (by kernel_rfl) (by kernel_rfl) (fun K hK => ?_)
  go_simp
  go_at_call 21
  refine (pjoin_any _ A7b (np - 1) c7b (vsp.take g ++ vsp.drop (g + 1)) (L.take g ++ L.drop (g + 1)) _ HRJb.out (Nat.le_refl _) (by omega) HLEN8.out).mono ?_
  rintro e wJb ⟨Ajb, njb, cjb, xjb, rfl, hnjb, hcjb, hojb, hxjb, hbj⟩
  have hS3 := hS.trans (hbj.mono hS.size)
  have HNJb := hid hnjb
  have HCJb := hid hcjb
  have HOJb := hid hojb
  have HXJb := hid hxjb
  clear hnjb hcjb hojb hxjb hbj
  go_wp2_with fail
  refine hK.out _ _ hS3 (fun hS2 => ?_)
  clear hS3
  clear hK K hS
  have hS := hS2
  clear hS2
  try simp only [Act.put, List.setIfInBounds_toArray, List.set_cons_zero, List.set_cons_succ]
  (refine Org.yes (v := ?_) rfl (by kernel_rfl) (by kernel_rfl) (by kernel_rfl) (by kernel_rfl) (by kernel_rfl) (fun _ _ _ h => h) (by kernel_rfl) (SM.of hS) ?_ ?_; rotate_left; (focus (intro w hSw; (try dsimp only at hSw); refine Pure.val ?_; go_simp; (try with_reducible rfl); done)); try simp only [Act.put, List.setIfInBounds_toArray, List.set_cons_zero, List.set_cons_succ])
  refine Org.done (by kernel_rfl) ?_
  have HSE8 := hid hS
  clear hS
  clear hwr hAc
  have hall8 : xjb.map MD.m = [] := by rw [HXJb.out, ← HL.out]; exact join_less HMAY.out H255.out (by rw [← HNP.out, ← HL.out, pagesL_len] at hgn; exact hgn)
  obtain rfl : njb = 0 := by rw [HNJb.out, ← HXJb.out, hall8]; rfl
  clear hall8
  have HS8 := hid (HSE.out.trans (HSE8.out.mono HSE.out.size))
  have HRB9 := hid ((HRB.out.below HS8.out).mono HS8.out.size)
  go_wp2_with (first
    | ((with_reducible show wpList _ _ _ (⟨some 49, _, _, _, _, _⟩ :: _) _ _); go_must (refine wpl_append rfl (.const (.slice none 0 0)) (.tmp 48) 34 rfl wJb.heap.size 37 ibs (.slice none 0 0) 1 24 Tryd.underlying34 hibs hzb0 hzb1 hzb2 rfl (by omega) (.slice none 0 0) 0 [] rfl (World.ownsRow_nil _ _ _ _) _ _ _ _ _ rfl HRB9.out.sl H1.out np (by omega) vsp (List.nil_append _) (by omega) (by omega) (Nat.le_refl _) ?_); intro A9 c9 w9 ho9 hg9 _; have hb9 := below_own (Below.refl wJb.heap.size wJb) (World.ownsRow_nil _ _ 37 1) hg9 (Nat.le_refl _) (Nat.le_refl _); have HO9 := hid ho9; have HB9 := hid hb9; have hz9 := hb9.size; have hr9 := HRB9.out.below hb9; have HR9 := hid hr9; clear ho9 hg9 hb9 hr9)
    | ((with_reducible show wpList _ _ _ (⟨some 51, _, _, _, _, _⟩ :: _) _ _); go_must (refine wpl_append rfl (.tmp 49) (.tmp 50) 34 rfl wJb.heap.size 37 ibs (.slice none 0 0) 1 24 Tryd.underlying34 hibs hzb0 hzb1 hzb2 rfl (by omega) _ _ _ rfl HO9.out _ _ _ _ _ rfl HR9.out.sl H1.out (np + np) (by omega) _ rfl (by omega) (by omega) hz9 ?_); intro A10 c10 w10 ho10 hg10 _))
  have hb10 := below_own HB9.out HO9.out hg10 (Nat.le_refl _) hz9
  have hrj := rbs_app (A := A10) ((HRB9.out.below hb10).mono hb10.size) ((HRB9.out.below hb10).mono hb10.size) HVL.out (Sl.own ho10)
  have HRJ9 := hid hrj
  have HB10 := hid hb10
  have HLEN9 := hid (show ∀ x ∈ L ++ L, x.length ≤ 1048576 from fun x hx => by
    have hx : x ∈ L := (List.mem_append.1 hx).elim id id
    rw [← HL.out] at hx
    exact pages_len64 hx)
  clear ho10 hg10 hb10 hrj hz9
  refine (pjoin_any _ A10 (np + np) c10 (vsp ++ vsp) (L ++ L) _ HRJ9.out (Nat.le_refl _) (by omega) HLEN9.out).mono ?_
  rintro e wK ⟨Ak, nk, ck, xk, rfl, hnk, hck, hok, hxk, hbk⟩
  have hallk : xk.map MD.m = [m] := by rw [hxk, ← HL.out]; exact join_twice HMAY.out H255.out
  have hxlk : xk.length = 1 := by have := congrArg List.length hallk; simpa using this
  obtain rfl : nk = 1 := by rw [hnk, ← hxk, List.length_map, hxlk]
  have HRK := hid (hok.read hxlk)
  have HXK := hid hallk
  have hbs := HB10.out.trans (hbk.mono HB10.out.size)
  have HSK := hid (HS8.out.trans (hbs.mono HS8.out.size))
  have HRA := hid (HRA6.out.up (HSE8.out.trans (hbs.mono HSE8.out.size)))
  have hxs := HX3.out.below HSK.out HX3.out.lt
  have HXS := hid hxs
  have HMK := hid ((HM3.out.below HSK.out).mono HSK.out.size)
  clear hnk hck hok hxk hbk hallk hxlk hbs
  go_upto_region 10 with fail
  have x0 := hxs.cell 0
  have x1 := hxs.cell 1
  have x2 := hxs.cell 2
  have x3 := hxs.cell 3
  have x4 := hxs.cell 4
  have x5 := hxs.cell 5
  have x6 := hxs.cell 6
  have x7 := hxs.cell 7
  simp only [List.getElem?_cons_succ, List.getElem?_cons_zero] at x0 x1 x2 x3 x4 x5 x6 x7
  clear hxs
  have hbz : Below wK.heap.size wK (wK.alloc (.cells #[.int .i64 m.seq, .int .i64 m.next, .int .i64 m.P.K, .int .i64 m.P.H, .int .i64 m.P.S, .int .i64 m.extra, .slice Ad nd cd, .slice Ao no co] 27)) := (Below.refl _ _).alloc (Nat.le_refl _) _
  have hrz : Row (wK.alloc (.cells #[.int .i64 m.seq, .int .i64 m.next, .int .i64 m.P.K, .int .i64 m.P.H, .int .i64 m.P.S, .int .i64 m.extra, .slice Ad nd cd, .slice Ao no co] 27)) wK.heap.size 27 [.int .i64 m.seq, .int .i64 m.next, .int .i64 m.P.K, .int .i64 m.P.H, .int .i64 m.P.S, .int .i64 m.extra, .slice Ad nd cd, .slice Ao no co] := Row.new wK 27 #[.int .i64 m.seq, .int .i64 m.next, .int .i64 m.P.K, .int .i64 m.P.H, .int .i64 m.P.S, .int .i64 m.extra, .slice Ad nd cd, .slice Ao no co]
  have HRWp := hid (rms_one (x := ⟨m, Ad, nd, cd, Ao, no, co, ts⟩) hrz ((HMK.out.below hbz).mono hbz.size))
  have HRAp := hid (HRA.out.up hbz)
  have HBZp := hid hbz
  clear hbz hrz
  go_wp2_with fail
  generalize (wK.alloc (.cells #[.int .i64 m.seq, .int .i64 m.next, .int .i64 m.P.K, .int .i64 m.P.H, .int .i64 m.P.S, .int .i64 m.extra, .slice Ad nd cd, .slice Ao no co] 27)) = wAp at *
  obtain ⟨gAp, hgA⟩ : ∃ g, wK.heap.size = g := ⟨_, rfl⟩
  rw [hgA] at HRWp ⊢
  have HGAp := hid hgA
  clear hgA
  refine (manis_any _ Aj (some ⟨gAp, 0, none⟩) 1 cj 1 1 xj [⟨m, Ad, nd, cd, Ao, no, co, ts⟩] true _ HRAp.out HRWp.out (Nat.le_refl _) (by omega) (by omega) ⟨fun _ => HXA6.out, fun _ => rfl⟩).mono ?_
  rintro e wMp ⟨rfl, hbm⟩
  have hbz : Below wK.heap.size wK wMp := HBZp.out.trans (hbm.mono HBZp.out.size)
  have HBMp := hid hbz
  replace x0 := cell_keep hbz x0
  replace x1 := cell_keep hbz x1
  replace x2 := cell_keep hbz x2
  replace x3 := cell_keep hbz x3
  replace x4 := cell_keep hbz x4
  replace x5 := cell_keep hbz x5
  replace x6 := cell_keep hbz x6
  replace x7 := cell_keep hbz x7
  clear hbm hbz
  have HMq := hid ((HMK.out.below HBMp.out).mono HBMp.out.size)
  have HRKq := hid (HRK.out.up HBMp.out)
  have hbz : Below wMp.heap.size wMp (wMp.alloc (.cells #[.int .i64 m.seq, .int .i64 m.next, .int .i64 m.P.K, .int .i64 m.P.H, .int .i64 m.P.S, .int .i64 m.extra, .slice Ad nd cd, .slice Ao no co] 27)) := (Below.refl _ _).alloc (Nat.le_refl _) _
  have hrz : Row (wMp.alloc (.cells #[.int .i64 m.seq, .int .i64 m.next, .int .i64 m.P.K, .int .i64 m.P.H, .int .i64 m.P.S, .int .i64 m.extra, .slice Ad nd cd, .slice Ao no co] 27)) wMp.heap.size 27 [.int .i64 m.seq, .int .i64 m.next, .int .i64 m.P.K, .int .i64 m.P.H, .int .i64 m.P.S, .int .i64 m.extra, .slice Ad nd cd, .slice Ao no co] := Row.new wMp 27 #[.int .i64 m.seq, .int .i64 m.next, .int .i64 m.P.K, .int .i64 m.P.H, .int .i64 m.P.S, .int .i64 m.extra, .slice Ad nd cd, .slice Ao no co]
  have HRWq := hid (rms_one (x := ⟨m, Ad, nd, cd, Ao, no, co, ts⟩) hrz ((HMq.out.below hbz).mono hbz.size))
  have HRAq := hid (HRKq.out.up hbz)
  have HBZq := hid hbz
  clear hbz hrz
  go_wp2_with fail
  generalize (wMp.alloc (.cells #[.int .i64 m.seq, .int .i64 m.next, .int .i64 m.P.K, .int .i64 m.P.H, .int .i64 m.P.S, .int .i64 m.extra, .slice Ad nd cd, .slice Ao no co] 27)) = wAq at *
  obtain ⟨gAq, hgA⟩ : ∃ g, wMp.heap.size = g := ⟨_, rfl⟩
  rw [hgA] at HRWq ⊢
  have HGAq := hid hgA
  clear hgA
  refine (manis_any _ Ak (some ⟨gAq, 0, none⟩) 1 ck 1 1 xk [⟨m, Ad, nd, cd, Ao, no, co, ts⟩] true _ HRAq.out HRWq.out (Nat.le_refl _) (by omega) (by omega) ⟨fun _ => HXK.out, fun _ => rfl⟩).mono ?_
  rintro e wMq ⟨rfl, hbm⟩
  have hbz : Below wMp.heap.size wMp wMq := HBZq.out.trans (hbm.mono HBZq.out.size)
  have HBMq := hid hbz
  replace x0 := cell_keep hbz x0
  replace x1 := cell_keep hbz x1
  replace x2 := cell_keep hbz x2
  replace x3 := cell_keep hbz x3
  replace x4 := cell_keep hbz x4
  replace x5 := cell_keep hbz x5
  replace x6 := cell_keep hbz x6
  replace x7 := cell_keep hbz x7
  clear hbm hbz
  go_wp2_with fail
  refine (wakes20 _).mono ?_
  rintro e wW ⟨rfl, hbW⟩
  have hse := HBMp.out.trans ((HBMq.out.trans (hbW.mono HBMq.out.size)).mono HBMp.out.size)
  have HSE10 := hid hse
  clear hse hbW
  have hbe := HB3.out.trans ((HSK.out.trans (HSE10.out.mono HSK.out.size)).mono HB3.out.size)
  go_wp2_with fail
  go_ret
  exact ⟨rfl, hbe⟩
end Go.Proofs.YtbpimfhachbcdaaDoor

