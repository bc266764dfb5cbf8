/- Law28a -/
import Derived.Deep.DeepCutAuto
import Derived.BigGuardPart
import Derived.Test.YtlfmfhdgnmchgaaBRoomLess19
import Derived.Test.YtlfmfhdgnmchgaaBRoomLess36
import Derived.Test.YtlfmfhdgnmchgaaBRoomLess49
import Derived.Test.YtlfmfhdgnmchgaaBRoomLess51
set_option maxRecDepth 20000
set_option linter.unusedSimpArgs false
set_option linter.unusedVariables false
namespace Go.Proofs.Ytlfmfhdgnmchgaa
open Go.RowKit Wells
theorem beh_le {d : Dr} {t : Nat} {a b : Int} (h : behB d t a = true) (hab : max b 0 ≤ max a 0) : behB d t b = true := by
  unfold behB at *
  simp only [decide_eq_true_eq] at *
  omega
theorem fits_le {m : Mani} {d : Dr} {a b : Int} (h : fitsM m d a = true) (hab : max b 0 ≤ max a 0) : fitsM m d b = true := by
  unfold fitsM at *
  simp only [Bool.and_eq_true, Bool.or_eq_true] at *
  exact ⟨h.1, h.2.imp (fun x => beh_le x hab) (fun x => beh_le x hab)⟩
theorem fits_low {m : Mani} {N : Nat} {ls : List (List Byte)} {z : Int} (hz : z ≤ 0) (hl : ls.length ≤ N) : behB (fillD N ls 0) (fillD N ls 0).L.length z = true ∧ fitsM m (fillD N ls 0) z = true := by
  have h : behB (fillD N ls 0) (fillD N ls 0).L.length z = true := by
    unfold behB
    rw [decide_eq_true_eq]
    show max z 0 ≤ (N : Int) - (ls.length : Int)
    omega
  refine ⟨h, ?_⟩
  unfold fitsM
  rw [h]
  rfl
theorem fits_over {m : Mani} {N : Nat} {ls : List (List Byte)} {z : Int} (hz : (N : Int) < z) : fitsM m (fillD N ls 0) z = false := by
  unfold fitsM behB
  rw [decide_eq_false, decide_eq_false]
  · rfl
  · show ¬ max z 0 ≤ (N : Int) - _
    omega
  · show ¬ max z 0 ≤ (N : Int) - _
    omega
theorem make_low {m : Mani} {N : Nat} {ls : List (List Byte)} {z : Int} (hz : z ≤ 0) (hl : ls.length ≤ N) : makeD m (fillD N ls 0) z = (fillD N ls 0, 0) := by
  obtain ⟨h1, h2⟩ := fits_low (m := m) hz hl
  unfold makeD
  rw [h1, h2]
  rfl
set_option maxRecDepth 20000 in
set_option maxHeartbeats 4000000 in
theorem walk_RoomLess (A : Option Addr) (n c : Nat) (l : List Int) (A2 : Option Addr) (n2 c2 : Nat) (l2 : List Int) (xn xx : Int) (w : World) (h : IsInts w A n c l) (h2 : IsInts w A2 n2 c2 l2) (hn : -9223372036854775808 ≤ xn ∧ xn ≤ 9223372036854775807) (hx : -9223372036854775808 ≤ xx ∧ xx ≤ 9223372036854775807) :
    Calls Try.prog 3 #[.slice A n c, .slice A2 n2 c2, .int .i64 xn, .int .i64 xx] w fun e w' => e = .returned (.bool true) ∧ Below w.heap.size w w' := by
  obtain ⟨hs, hle, hcap, hwf⟩ := h
  obtain ⟨hs2, hle2, hcap2, hwf2⟩ := h2
  have HS2 := hid hs2
  obtain ⟨z9, hz9, hz9b⟩ : ∃ z : Nat, xx % 9 = (z : Int) ∧ z ≤ 8 := ⟨(xx % 9).toNat, by omega, by omega⟩
  obtain ⟨nz, hnz, hnzb⟩ : ∃ z : Int, 1 + xn % 40 = z ∧ 1 ≤ z ∧ z ≤ 40 := ⟨_, rfl, by omega, by omega⟩
  obtain ⟨z40, hz40⟩ : ∃ z : Int, xn % 40 = z := ⟨_, rfl⟩
  have HZ9 := hid hz9
  have HZ40 := hid hz40
  have hnz' : 1 + z40 = nz := by rw [← hz40]; exact hnz
  clear hz9 hnz hz40 hs2
  go_enter Try.func3, Try.ntmps3
  go_wp2_with fail
  refine (mani_any w.heap.size A n c l w hs (Nat.le_refl _) (by omega) hwf).mono ?_
  rintro e w1 ⟨m, Ad, nd, cd, Ao, no, co, ts, rfl, hom, hpm, hb1⟩
  have HPM := hid hpm
  obtain ⟨h64, hnm⟩ := hpm.m64
  have hno : m.objs.length = no := hom.read.o.len
  have hno5 := hpm.olen
  have hrow := Row.new w1 27 #[.int .i64 m.seq, .int .i64 m.next, .int .i64 m.P.K, .int .i64 m.P.H, .int .i64 m.P.S, .int .i64 m.extra, .slice Ad nd cd, .slice Ao no co]
  have hb2 : Below w1.heap.size w1 (w1.alloc (.cells #[.int .i64 m.seq, .int .i64 m.next, .int .i64 m.P.K, .int .i64 m.P.H, .int .i64 m.P.S, .int .i64 m.extra, .slice Ad nd cd, .slice Ao no co] 27)) := (Below.refl _ _).alloc (Nat.le_refl _) _
  have HX := hid hrow
  have HRM := hid ((hom.read.below hb2).mono hb2.size)
  have HB2 := hid (hb1.trans (hb2.mono hb1.size))
  have HS2b := hid (HS2.out.below HB2.out)
  clear hom hpm hb1 hrow hb2 hs
  unfold Mani.val
  go_wp2_with fail
  generalize w1.alloc (.cells #[.int .i64 m.seq, .int .i64 m.next, .int .i64 m.P.K, .int .i64 m.P.H, .int .i64 m.P.S, .int .i64 m.extra, .slice Ad nd cd, .slice Ao no co] 27) = w2 at *
  obtain ⟨gm, hgm⟩ : ∃ g, w1.heap.size = g := ⟨_, rfl⟩
  rw [hgm] at HX ⊢
  clear hgm
  have hr := HX.out
  have x0 := hr.cell 0
  have x1 := hr.cell 1
  have x2 := hr.cell 2
  have x3 := hr.cell 3
  have x4 := hr.cell 4
  have x5 := hr.cell 5
  have x6 := hr.cell 6
  have x7 := hr.cell 7
  simp only [List.getElem?_cons_succ, List.getElem?_cons_zero] at x0 x1 x2 x3 x4 x5 x6 x7
  clear hr

  go_wp2_with fail
  refine (playcells_any m w2.heap.size Ad Ao nd cd no co ts A2 n2 c2 30 l2 w2 HRM.out (Nat.le_refl _) HPM.out (HS2b.out.mono HB2.out.size) (by omega) hwf2 (by omega)).mono ?_
  rintro e w3 ⟨A3, c3, vs3, ls, n3, rfl, hln, hn30, hl64, ho3, hb3⟩
  have HLN := hid hln
  have HL64 := hid hl64
  have HO3 := hid (ho3.read hln)
  have HB3 := hid (HB2.out.trans (hb3.mono HB2.out.size))
  have HX3 := hid (HX.out.below hb3 HX.out.lt)
  have HRM3 := hid (HRM.out.below hb3)
  have HZ3 := hid hb3.size
  clear hln hl64 ho3 hb3 x0 x1 x2 x3 x4 x5 x6 x7
  obtain ⟨N0, hN0⟩ : ∃ N0, 1 + n3 = N0 := ⟨_, rfl⟩
  obtain ⟨N, hN⟩ : ∃ N, N0 + z9 = N := ⟨_, rfl⟩
  have eN0 : 1 + (n3 : Int) = (N0 : Int) := by omega
  have eN : (N0 : Int) + (z9 : Int) = (N : Int) := by omega
  have hNb : N0 ≤ 31 ∧ N ≤ 39 ∧ n3 < N ∧ 1 ≤ N := by omega
  clear hN0 hN
  go_wp2_with fail
  refine (within_any xx 9 _ hx.1 hx.2 (by omega) (by omega)).mono ?_
  rintro e w' ⟨rfl, rfl⟩
  rw [HZ9.out]
  go_wp2_with fail
  refine (filled_any N A3 n3 c3 vs3 ls w3 HO3.out ⟨by omega, by omega⟩ (by omega) HL64.out).mono ?_
  rintro e w4 ⟨F, G, g, pg, gr, qg, rfl, hh4⟩
  have HH4 := hid hh4
  have HB4 := hid (HB3.out.trans (hh4.be.mono HB3.out.size))
  have HX4 := hid (HX3.out.below hh4.be HX3.out.lt)
  have HRM4 := hid ((HRM3.out.below (hh4.be.mono HZ3.out)).mono (Nat.le_trans HZ3.out hh4.be.size))
  have HFW := hid (show ∀ k, F k → w.heap.size ≤ k from fun k hk => Nat.le_trans HB3.out.size (hh4.hF k hk))
  have HGM := hid (show ¬ F gm from fun hf => by have h1 := hh4.hF gm hf; have h2 := HX3.out.lt; omega)
  clear hh4 eN0 eN
  go_wp2_with fail
  refine (within_any xn 40 _ hn.1 hn.2 (by omega) (by omega)).mono ?_
  rintro e w' ⟨rfl, rfl⟩
  rw [HZ40.out]
  have hr := HX4.out
  have x0 := hr.cell 0
  have x1 := hr.cell 1
  have x2 := hr.cell 2
  have x3 := hr.cell 3
  have x4 := hr.cell 4
  have x5 := hr.cell 5
  have x6 := hr.cell 6
  have x7 := hr.cell 7
  simp only [List.getElem?_cons_succ, List.getElem?_cons_zero] at x0 x1 x2 x3 x4 x5 x6 x7
  clear hr

  have hll : ls.length ≤ N := by rw [HLN.out]; omega
  obtain ⟨bf, hbf⟩ : ∃ b, fitsM m (fillD N ls 0) nz = b := ⟨_, rfl⟩
  have HBF := hid hbf
  clear hbf
  go_wp2_with fail
  refine (fits_any F g pg _ 0 m w4.heap.size Ad Ao nd cd no co ts nz bf w4 HH4.out.d_ HH4.out.okd HRM4.out (Nat.le_refl _) (by omega) h64 hnm (by omega) HBF.out).mono ?_
  rintro e w5 ⟨rfl, hb5⟩
  have HH5' := hid (HH4.out.new_ hb5)
  have HB5' := hid (HB4.out.trans (hb5.mono HB4.out.size))
  have HX5' := hid (HX4.out.below hb5 HX4.out.lt)
  have HRM5' := hid ((HRM4.out.below hb5).mono hb5.size)
  clear hb5 x0 x1 x2 x3 x4 x5 x6 x7
  obtain ⟨N1, hN1⟩ : ∃ z : Int, (N : Int) + 1 = z := ⟨_, rfl⟩
  have hN1b : N1 ≤ 600 := by omega
  have HF0 := hid (fits_low (m := m) (z := 0) (Int.le_refl 0) hll).2
  have HFN := hid (fits_low (m := m) (z := -nz) (by omega) hll).2
  have HFR := hid (fits_over (m := m) (ls := ls) (N := N) (z := N1) (by omega))
  have HMK := hid (show (makeD m (fillD N ls 0) (-nz)).2 = 0 by rw [make_low (by omega) hll])
  have e1 : IntKind.i64.wrap (-nz) = -nz := by rw [IntKind.wrap_i64]; omega
  have e2 : IntKind.i64.wrap N1 = N1 := by rw [IntKind.wrap_i64]; omega
  have e3 : (((fillD N ls 0).room : Nat) : Int) + 1 = N1 := hN1
  have e4 : IntKind.i64.wrap ((((fillD N ls 0).room : Nat) : Int) + 1) = N1 := by rw [e3]; exact e2
  clear hN1
  cases bf with
  | false =>
    go_upto_region 9 with fail
    have HH5 := HH5'
    have HB5 := HB5'
    have HX5 := HX5'
    have HRM5 := HRM5'
    clear HH5' HB5' HX5' HRM5' HH4 HB4 HX4 HRM4
    generalize w5 = wk at *
    refine Org.begin [] (fun w' => Row w' gm 27 [.int .i64 m.seq, .int .i64 m.next, .int .i64 m.P.K, .int .i64 m.P.H, .int .i64 m.P.S, .int .i64 m.extra, .slice Ad nd cd, .slice Ao no co] ∧ Below w.heap.size w w') [0, 1, 2, 3, 4, 5, 6, 7, 8, 9, 10, 11, 12, 13, 14, 15, 16, 17, 18, 19, 20, 21, 22, 23, 24, 25, 26, 27, 28, 29, 30] (by kernel_rfl) (⟨HX5.out, below_drewN HB5.out 1⟩) (fun hS => ?_)
    (refine Org.yes (v := ?_) rfl (by kernel_rfl) (by kernel_rfl) (by kernel_rfl) (by kernel_rfl) (by kernel_rfl) (fun _ _ _ h => h) (by kernel_rfl) (SM.of hS) ?_ ?_; rotate_left; (focus (intro w hSw; (try dsimp only at hSw); refine Pure.val ?_; go_simp; (try with_reducible rfl); done)); try simp only [Act.put, List.setIfInBounds_toArray, List.set_cons_zero, List.set_cons_succ])
    (refine Org.yes (v := ?_) rfl (by kernel_rfl) (by kernel_rfl) (by kernel_rfl) (by kernel_rfl) (by kernel_rfl) (fun _ _ _ h => h) (by kernel_rfl) (SM.of hS) ?_ ?_; rotate_left; (focus (intro w hSw; (try dsimp only at hSw); have hr := hSw.1; have x0 := hr.cell 0; have x1 := hr.cell 1; have x2 := hr.cell 2; have x3 := hr.cell 3; have x4 := hr.cell 4; have x5 := hr.cell 5; have x6 := hr.cell 6; have x7 := hr.cell 7; simp only [List.getElem?_cons_succ, List.getElem?_cons_zero] at x0 x1 x2 x3 x4 x5 x6 x7; refine Pure.val ?_; go_simp; (try with_reducible rfl); done)); try simp only [Act.put, List.setIfInBounds_toArray, List.set_cons_zero, List.set_cons_succ])
    refine Org.go rfl (by kernel_rfl) (by kernel_rfl) (fun K hK => ?_)
    go_simp
    go_at_call 8
    refine (fits_any F g pg _ 0 m wk.heap.size Ad Ao nd cd no co ts 0 true _ (HH5.out.d_.new_ (below_drewN (Below.refl _ _) 1)) HH5.out.okd (HRM5.out.below (below_drewN (Below.refl _ _) 1)) (Nat.le_refl _) (by omega) h64 hnm (by omega) HF0.out).mono ?_
    rintro e wa ⟨rfl, hba⟩
    have HDa := hid (DrvE.new_ (HH5.out.d_.new_ (below_drewN (Below.refl _ _) 1)) hba)
    have HRa := hid (RM.below (HRM5.out.below (below_drewN (Below.refl _ _) 1)) (hba.mono (Nat.le_refl _)))
    have HSa := hid (Nat.le_trans (Nat.le_refl _) hba.size)
    have hS3 := And.intro (hS.1.below hba hS.1.lt) (hS.2.trans (hba.mono hS.2.size))
    clear hba
    go_wp2_with fail
    refine hK.out _ _ hS3 (fun hS2 => ?_)
    clear hS3
    clear hK K hS
    have hS := hS2
    clear hS2
    try simp only [Act.put, List.setIfInBounds_toArray, List.set_cons_zero, List.set_cons_succ]
    (refine Org.yes (v := ?_) rfl (by kernel_rfl) (by kernel_rfl) (by kernel_rfl) (by kernel_rfl) (by kernel_rfl) (fun _ _ _ h => h) (by kernel_rfl) (SM.of hS) ?_ ?_; rotate_left; (focus (intro w hSw; (try dsimp only at hSw); refine Pure.val ?_; go_simp; (try with_reducible rfl); done)); try simp only [Act.put, List.setIfInBounds_toArray, List.set_cons_zero, List.set_cons_succ])
    (refine Org.yes (v := ?_) rfl (by kernel_rfl) (by kernel_rfl) (by kernel_rfl) (by kernel_rfl) (by kernel_rfl) (fun _ _ _ h => h) (by kernel_rfl) (SM.of hS) ?_ ?_; rotate_left; (focus (intro w hSw; (try dsimp only at hSw); refine Pure.val ?_; go_simp; (try with_reducible rfl); done)); try simp only [Act.put, List.setIfInBounds_toArray, List.set_cons_zero, List.set_cons_succ])
    (refine Org.yes (v := ?_) rfl (by kernel_rfl) (by kernel_rfl) (by kernel_rfl) (by kernel_rfl) (by kernel_rfl) (fun _ _ _ h => h) (by kernel_rfl) (SM.of hS) ?_ ?_; rotate_left; (focus (intro w hSw; (try dsimp only at hSw); have hr := hSw.1; have x0 := hr.cell 0; have x1 := hr.cell 1; have x2 := hr.cell 2; have x3 := hr.cell 3; have x4 := hr.cell 4; have x5 := hr.cell 5; have x6 := hr.cell 6; have x7 := hr.cell 7; simp only [List.getElem?_cons_succ, List.getElem?_cons_zero] at x0 x1 x2 x3 x4 x5 x6 x7; refine Pure.val ?_; go_simp; (try with_reducible rfl); done)); try simp only [Act.put, List.setIfInBounds_toArray, List.set_cons_zero, List.set_cons_succ])
    (refine Org.yes (v := ?_) rfl (by kernel_rfl) (by kernel_rfl) (by kernel_rfl) (by kernel_rfl) (by kernel_rfl) (fun _ _ _ h => h) (by kernel_rfl) (SM.of hS) ?_ ?_; rotate_left; (focus (intro w hSw; (try dsimp only at hSw); refine Pure.val ?_; go_simp; (try with_reducible rfl); done)); try simp only [Act.put, List.setIfInBounds_toArray, List.set_cons_zero, List.set_cons_succ])
    (refine Org.yes (v := ?_) rfl (by kernel_rfl) (by kernel_rfl) (by kernel_rfl) (by kernel_rfl) (by kernel_rfl) (fun _ _ _ h => h) (by kernel_rfl) (SM.of hS) ?_ ?_; rotate_left; (focus (intro w hSw; (try dsimp only at hSw); refine Pure.val ?_; go_simp; (try with_reducible rfl); done)); try simp only [Act.put, List.setIfInBounds_toArray, List.set_cons_zero, List.set_cons_succ])
    refine Org.go rfl (by kernel_rfl) (by kernel_rfl) (fun K hK => ?_)
    go_simp
    go_at_call 8
    refine (fits_any F g pg _ 0 m wk.heap.size Ad Ao nd cd no co ts (-nz) true _ HDa.out HH5.out.okd HRa.out HSa.out (by omega) h64 hnm (by omega) HFN.out).mono ?_
    rintro e wb ⟨rfl, hbb⟩
    have HDb := hid (DrvE.new_ HDa.out hbb)
    have HRb := hid (RM.below HRa.out (hbb.mono HSa.out))
    have HSb := hid (Nat.le_trans HSa.out hbb.size)
    have hS3 := And.intro (hS.1.below hbb hS.1.lt) (hS.2.trans (hbb.mono hS.2.size))
    clear hbb
    go_wp2_with fail
    refine hK.out _ _ hS3 (fun hS2 => ?_)
    clear hS3
    clear hK K hS
    have hS := hS2
    clear hS2
    try simp only [Act.put, List.setIfInBounds_toArray, List.set_cons_zero, List.set_cons_succ]
    (refine Org.yes (v := ?_) rfl (by kernel_rfl) (by kernel_rfl) (by kernel_rfl) (by kernel_rfl) (by kernel_rfl) (fun _ _ _ h => h) (by kernel_rfl) (SM.of hS) ?_ ?_; rotate_left; (focus (intro w hSw; (try dsimp only at hSw); refine Pure.val ?_; go_simp; (try with_reducible rfl); done)); try simp only [Act.put, List.setIfInBounds_toArray, List.set_cons_zero, List.set_cons_succ])
    (refine Org.yes (v := ?_) rfl (by kernel_rfl) (by kernel_rfl) (by kernel_rfl) (by kernel_rfl) (by kernel_rfl) (fun _ _ _ h => h) (by kernel_rfl) (SM.of hS) ?_ ?_; rotate_left; (focus (intro w hSw; (try dsimp only at hSw); refine Pure.val ?_; go_simp; (try with_reducible rfl); done)); try simp only [Act.put, List.setIfInBounds_toArray, List.set_cons_zero, List.set_cons_succ])
    (refine Org.yes (v := ?_) rfl (by kernel_rfl) (by kernel_rfl) (by kernel_rfl) (by kernel_rfl) (by kernel_rfl) (fun _ _ _ h => h) (by kernel_rfl) (SM.of hS) ?_ ?_; rotate_left; (focus (intro w hSw; (try dsimp only at hSw); refine Pure.val ?_; go_simp; (try with_reducible rfl); done)); try simp only [Act.put, List.setIfInBounds_toArray, List.set_cons_zero, List.set_cons_succ])
    (refine Org.yes (v := ?_) rfl (by kernel_rfl) (by kernel_rfl) (by kernel_rfl) (by kernel_rfl) (by kernel_rfl) (fun _ _ _ h => h) (by kernel_rfl) (SM.of hS) ?_ ?_; rotate_left; (focus (intro w hSw; (try dsimp only at hSw); have hr := hSw.1; have x0 := hr.cell 0; have x1 := hr.cell 1; have x2 := hr.cell 2; have x3 := hr.cell 3; have x4 := hr.cell 4; have x5 := hr.cell 5; have x6 := hr.cell 6; have x7 := hr.cell 7; simp only [List.getElem?_cons_succ, List.getElem?_cons_zero] at x0 x1 x2 x3 x4 x5 x6 x7; refine Pure.val ?_; go_simp; (try with_reducible rfl); done)); try simp only [Act.put, List.setIfInBounds_toArray, List.set_cons_zero, List.set_cons_succ])
    (refine Org.yes (v := ?_) rfl (by kernel_rfl) (by kernel_rfl) (by kernel_rfl) (by kernel_rfl) (by kernel_rfl) (fun _ _ _ h => h) (by kernel_rfl) (SM.of hS) ?_ ?_; rotate_left; (focus (intro w hSw; (try dsimp only at hSw); refine Pure.val ?_; go_simp; (try with_reducible rfl); done)); try simp only [Act.put, List.setIfInBounds_toArray, List.set_cons_zero, List.set_cons_succ])
    refine Org.go rfl (by kernel_rfl) (by kernel_rfl) (fun K hK => ?_)
    go_simp
    go_at_call 9
    refine (droom_any F g pg _ _ HDb.out).mono ?_
    rintro e wq ⟨rfl, rfl⟩
    go_wp2_with fail
    refine hK.out _ _ hS (fun hS2 => ?_)
    clear hK K hS
    have hS := hS2
    clear hS2
    try simp only [Act.put, List.setIfInBounds_toArray, List.set_cons_zero, List.set_cons_succ]
    (refine Org.yes (v := ?_) rfl (by kernel_rfl) (by kernel_rfl) (by kernel_rfl) (by kernel_rfl) (by kernel_rfl) (fun _ _ _ h => h) (by kernel_rfl) (SM.of hS) ?_ ?_; rotate_left; (focus (intro w hSw; (try dsimp only at hSw); refine Pure.val ?_; go_simp; (try with_reducible rfl); done)); try simp only [Act.put, List.setIfInBounds_toArray, List.set_cons_zero, List.set_cons_succ])
    refine Org.go rfl (by kernel_rfl) (by kernel_rfl) (fun K hK => ?_)
    go_simp
    go_at_call 8
    refine (fits_any F g pg _ 0 m wk.heap.size Ad Ao nd cd no co ts N1 false _ HDb.out HH5.out.okd HRb.out HSb.out (by omega) h64 hnm (by omega) HFR.out).mono ?_
    rintro e wd ⟨rfl, hbd⟩
    have HDd := hid (DrvE.new_ HDb.out hbd)
    have HRd := hid (RM.below HRb.out (hbd.mono HSb.out))
    have HSd := hid (Nat.le_trans HSb.out hbd.size)
    have hS3 := And.intro (hS.1.below hbd hS.1.lt) (hS.2.trans (hbd.mono hS.2.size))
    clear hbd
    go_wp2_with fail
    refine hK.out _ _ hS3 (fun hS2 => ?_)
    clear hS3
    clear hK K hS
    have hS := hS2
    clear hS2
    try simp only [Act.put, List.setIfInBounds_toArray, List.set_cons_zero, List.set_cons_succ]
    (refine Org.yes (v := ?_) rfl (by kernel_rfl) (by kernel_rfl) (by kernel_rfl) (by kernel_rfl) (by kernel_rfl) (fun _ _ _ h => h) (by kernel_rfl) (SM.of hS) ?_ ?_; rotate_left; (focus (intro w hSw; (try dsimp only at hSw); refine Pure.val ?_; go_simp; (try with_reducible rfl); done)); try simp only [Act.put, List.setIfInBounds_toArray, List.set_cons_zero, List.set_cons_succ])
    (refine Org.yes (v := ?_) rfl (by kernel_rfl) (by kernel_rfl) (by kernel_rfl) (by kernel_rfl) (by kernel_rfl) (fun _ _ _ h => h) (by kernel_rfl) (SM.of hS) ?_ ?_; rotate_left; (focus (intro w hSw; (try dsimp only at hSw); refine Pure.val ?_; go_simp; (try with_reducible rfl); done)); try simp only [Act.put, List.setIfInBounds_toArray, List.set_cons_zero, List.set_cons_succ])
    (refine Org.yes (v := ?_) rfl (by kernel_rfl) (by kernel_rfl) (by kernel_rfl) (by kernel_rfl) (by kernel_rfl) (fun _ _ _ h => h) (by kernel_rfl) (SM.of hS) ?_ ?_; rotate_left; (focus (intro w hSw; (try dsimp only at hSw); refine Pure.val ?_; go_simp; (try with_reducible rfl); done)); try simp only [Act.put, List.setIfInBounds_toArray, List.set_cons_zero, List.set_cons_succ])
    (refine Org.yes (v := ?_) rfl (by kernel_rfl) (by kernel_rfl) (by kernel_rfl) (by kernel_rfl) (by kernel_rfl) (fun _ _ _ h => h) (by kernel_rfl) (SM.of hS) ?_ ?_; rotate_left; (focus (intro w hSw; (try dsimp only at hSw); refine Pure.val ?_; go_simp; (try with_reducible rfl); done)); try simp only [Act.put, List.setIfInBounds_toArray, List.set_cons_zero, List.set_cons_succ])
    (refine Org.yes (v := ?_) rfl (by kernel_rfl) (by kernel_rfl) (by kernel_rfl) (by kernel_rfl) (by kernel_rfl) (fun _ _ _ h => h) (by kernel_rfl) (SM.of hS) ?_ ?_; rotate_left; (focus (intro w hSw; (try dsimp only at hSw); have hr := hSw.1; have x0 := hr.cell 0; have x1 := hr.cell 1; have x2 := hr.cell 2; have x3 := hr.cell 3; have x4 := hr.cell 4; have x5 := hr.cell 5; have x6 := hr.cell 6; have x7 := hr.cell 7; simp only [List.getElem?_cons_succ, List.getElem?_cons_zero] at x0 x1 x2 x3 x4 x5 x6 x7; refine Pure.val ?_; go_simp; (try with_reducible rfl); done)); try simp only [Act.put, List.setIfInBounds_toArray, List.set_cons_zero, List.set_cons_succ])
    (refine Org.yes (v := ?_) rfl (by kernel_rfl) (by kernel_rfl) (by kernel_rfl) (by kernel_rfl) (by kernel_rfl) (fun _ _ _ h => h) (by kernel_rfl) (SM.of hS) ?_ ?_; rotate_left; (focus (intro w hSw; (try dsimp only at hSw); refine Pure.val ?_; go_simp; (try with_reducible rfl); done)); try simp only [Act.put, List.setIfInBounds_toArray, List.set_cons_zero, List.set_cons_succ])
    (refine Org.yes (v := ?_) rfl (by kernel_rfl) (by kernel_rfl) (by kernel_rfl) (by kernel_rfl) (by kernel_rfl) (fun _ _ _ h => h) (by kernel_rfl) (SM.of hS) ?_ ?_; rotate_left; (focus (intro w hSw; (try dsimp only at hSw); refine Pure.val ?_; go_simp; (try with_reducible rfl); done)); try simp only [Act.put, List.setIfInBounds_toArray, List.set_cons_zero, List.set_cons_succ])
    refine Org.go rfl (by kernel_rfl) (by kernel_rfl) (fun K hK => ?_)
    go_simp
    go_at_call 10
    refine (make_any F g pg _ 0 m wk.heap.size Ad Ao nd cd no co ts (-nz) _ HDd.out HH5.out.okd (by omega) HRd.out HSd.out (by omega) h64 hnm (by omega)).mono ?_
    rintro e we ⟨rfl, -, hoe⟩
    rw [HMK.out]
    have hS3 := And.intro (hS.1.only hoe HGM.out) (hS.2.trans (hoe.below HFW.out hS.2.size))
    clear hoe
    go_wp2_with fail
    refine hK.out _ _ hS3 (fun hS2 => ?_)
    clear hS3
    clear hK K hS
    have hS := hS2
    clear hS2
    try simp only [Act.put, List.setIfInBounds_toArray, List.set_cons_zero, List.set_cons_succ]
    (refine Org.yes (v := ?_) rfl (by kernel_rfl) (by kernel_rfl) (by kernel_rfl) (by kernel_rfl) (by kernel_rfl) (fun _ _ _ h => h) (by kernel_rfl) (SM.of hS) ?_ ?_; rotate_left; (focus (intro w hSw; (try dsimp only at hSw); refine Pure.val ?_; go_simp; (try with_reducible rfl); done)); try simp only [Act.put, List.setIfInBounds_toArray, List.set_cons_zero, List.set_cons_succ])
    (refine Org.yes (v := ?_) rfl (by kernel_rfl) (by kernel_rfl) (by kernel_rfl) (by kernel_rfl) (by kernel_rfl) (fun _ _ _ h => h) (by kernel_rfl) (SM.of hS) ?_ ?_; rotate_left; (focus (intro w hSw; (try dsimp only at hSw); refine Pure.val ?_; go_simp; (try with_reducible rfl); done)); try simp only [Act.put, List.setIfInBounds_toArray, List.set_cons_zero, List.set_cons_succ])
    (refine Org.yes (v := ?_) rfl (by kernel_rfl) (by kernel_rfl) (by kernel_rfl) (by kernel_rfl) (by kernel_rfl) (fun _ _ _ h => h) (by kernel_rfl) (SM.of hS) ?_ ?_; rotate_left; (focus (intro w hSw; (try dsimp only at hSw); refine Pure.val ?_; go_simp; (try with_reducible rfl); done)); try simp only [Act.put, List.setIfInBounds_toArray, List.set_cons_zero, List.set_cons_succ])
    refine Org.go rfl (by kernel_rfl) (by kernel_rfl) (fun K hK => ?_)
    go_simp
    go_at_call 11
    refine (wakes28 _).mono ?_
    rintro e wf ⟨rfl, hbf⟩
    have hS3 := And.intro (hS.1.below hbf hS.1.lt) (hS.2.trans (hbf.mono hS.2.size))
    clear hbf
    go_wp2_with fail
    refine hK.out _ _ hS3 (fun hS2 => ?_)
    clear hS3
    clear hK K hS
    have hS := hS2
    clear hS2
    try simp only [Act.put, List.setIfInBounds_toArray, List.set_cons_zero, List.set_cons_succ]
    (refine Org.yes (v := ?_) rfl (by kernel_rfl) (by kernel_rfl) (by kernel_rfl) (by kernel_rfl) (by kernel_rfl) (fun _ _ _ h => h) (by kernel_rfl) (SM.of hS) ?_ ?_; rotate_left; (focus (intro w hSw; (try dsimp only at hSw); refine Pure.val ?_; go_simp; (try with_reducible rfl); done)); try simp only [Act.put, List.setIfInBounds_toArray, List.set_cons_zero, List.set_cons_succ])
    (refine Org.yes (v := ?_) rfl (by kernel_rfl) (by kernel_rfl) (by kernel_rfl) (by kernel_rfl) (by kernel_rfl) (fun _ _ _ h => h) (by kernel_rfl) (SM.of hS) ?_ ?_; rotate_left; (focus (intro w hSw; (try dsimp only at hSw); refine Pure.val ?_; go_simp; (try with_reducible rfl); done)); try simp only [Act.put, List.setIfInBounds_toArray, List.set_cons_zero, List.set_cons_succ])
    refine Org.done (by kernel_rfl) ?_
    go_wp2_with fail
    go_ret
    exact ⟨rfl, hS.2⟩
  | true =>
    have hr := HX5'.out
    have x0 := hr.cell 0
    have x1 := hr.cell 1
    have x2 := hr.cell 2
    have x3 := hr.cell 3
    have x4 := hr.cell 4
    have x5 := hr.cell 5
    have x6 := hr.cell 6
    have x7 := hr.cell 7
    simp only [List.getElem?_cons_succ, List.getElem?_cons_zero] at x0 x1 x2 x3 x4 x5 x6 x7
    clear hr

    have HFM := hid (fits_le (b := nz - 1) HBF.out (by omega))
    go_wp2_with fail
    refine (fits_any F g pg _ 0 m w5.heap.size Ad Ao nd cd no co ts (nz - 1) true w5 HH5'.out.d_ HH5'.out.okd HRM5'.out (Nat.le_refl _) (by omega) h64 hnm (by omega) HFM.out).mono ?_
    rintro e w6 ⟨rfl, hb6⟩
    have HH5 := hid (HH5'.out.new_ hb6)
    have HB5 := hid (HB5'.out.trans (hb6.mono HB5'.out.size))
    have HX5 := hid (HX5'.out.below hb6 HX5'.out.lt)
    have HRM5 := hid ((HRM5'.out.below hb6).mono hb6.size)
    clear hb6 x0 x1 x2 x3 x4 x5 x6 x7
    clear HH5' HB5' HX5' HRM5' HH4 HB4 HX4 HRM4
    go_upto_region 9 with fail
    generalize w6 = wk at *
    refine Org.begin [] (fun w' => Row w' gm 27 [.int .i64 m.seq, .int .i64 m.next, .int .i64 m.P.K, .int .i64 m.P.H, .int .i64 m.P.S, .int .i64 m.extra, .slice Ad nd cd, .slice Ao no co] ∧ Below w.heap.size w w') [0, 1, 2, 3, 4, 5, 6, 7, 8, 9, 10, 11, 12, 13, 14, 15, 16, 17, 18, 19, 20, 21, 22, 23, 24, 25, 26, 27, 28, 29, 30] (by kernel_rfl) (⟨HX5.out, below_drewN HB5.out 1⟩) (fun hS => ?_)
    (refine Org.yes (v := ?_) rfl (by kernel_rfl) (by kernel_rfl) (by kernel_rfl) (by kernel_rfl) (by kernel_rfl) (fun _ _ _ h => h) (by kernel_rfl) (SM.of hS) ?_ ?_; rotate_left; (focus (intro w hSw; (try dsimp only at hSw); refine Pure.val ?_; go_simp; (try with_reducible rfl); done)); try simp only [Act.put, List.setIfInBounds_toArray, List.set_cons_zero, List.set_cons_succ])
    (refine Org.yes (v := ?_) rfl (by kernel_rfl) (by kernel_rfl) (by kernel_rfl) (by kernel_rfl) (by kernel_rfl) (fun _ _ _ h => h) (by kernel_rfl) (SM.of hS) ?_ ?_; rotate_left; (focus (intro w hSw; (try dsimp only at hSw); have hr := hSw.1; have x0 := hr.cell 0; have x1 := hr.cell 1; have x2 := hr.cell 2; have x3 := hr.cell 3; have x4 := hr.cell 4; have x5 := hr.cell 5; have x6 := hr.cell 6; have x7 := hr.cell 7; simp only [List.getElem?_cons_succ, List.getElem?_cons_zero] at x0 x1 x2 x3 x4 x5 x6 x7; refine Pure.val ?_; go_simp; (try with_reducible rfl); done)); try simp only [Act.put, List.setIfInBounds_toArray, List.set_cons_zero, List.set_cons_succ])
    refine Org.go rfl (by kernel_rfl) (by kernel_rfl) (fun K hK => ?_)
    go_simp
    go_at_call 8
    refine (fits_any F g pg _ 0 m wk.heap.size Ad Ao nd cd no co ts 0 true _ (HH5.out.d_.new_ (below_drewN (Below.refl _ _) 1)) HH5.out.okd (HRM5.out.below (below_drewN (Below.refl _ _) 1)) (Nat.le_refl _) (by omega) h64 hnm (by omega) HF0.out).mono ?_
    rintro e wa ⟨rfl, hba⟩
    have HDa := hid (DrvE.new_ (HH5.out.d_.new_ (below_drewN (Below.refl _ _) 1)) hba)
    have HRa := hid (RM.below (HRM5.out.below (below_drewN (Below.refl _ _) 1)) (hba.mono (Nat.le_refl _)))
    have HSa := hid (Nat.le_trans (Nat.le_refl _) hba.size)
    have hS3 := And.intro (hS.1.below hba hS.1.lt) (hS.2.trans (hba.mono hS.2.size))
    clear hba
    go_wp2_with fail
    refine hK.out _ _ hS3 (fun hS2 => ?_)
    clear hS3
    clear hK K hS
    have hS := hS2
    clear hS2
    try simp only [Act.put, List.setIfInBounds_toArray, List.set_cons_zero, List.set_cons_succ]
    (refine Org.yes (v := ?_) rfl (by kernel_rfl) (by kernel_rfl) (by kernel_rfl) (by kernel_rfl) (by kernel_rfl) (fun _ _ _ h => h) (by kernel_rfl) (SM.of hS) ?_ ?_; rotate_left; (focus (intro w hSw; (try dsimp only at hSw); refine Pure.val ?_; go_simp; (try with_reducible rfl); done)); try simp only [Act.put, List.setIfInBounds_toArray, List.set_cons_zero, List.set_cons_succ])
    (refine Org.yes (v := ?_) rfl (by kernel_rfl) (by kernel_rfl) (by kernel_rfl) (by kernel_rfl) (by kernel_rfl) (fun _ _ _ h => h) (by kernel_rfl) (SM.of hS) ?_ ?_; rotate_left; (focus (intro w hSw; (try dsimp only at hSw); refine Pure.val ?_; go_simp; (try with_reducible rfl); done)); try simp only [Act.put, List.setIfInBounds_toArray, List.set_cons_zero, List.set_cons_succ])
    (refine Org.yes (v := ?_) rfl (by kernel_rfl) (by kernel_rfl) (by kernel_rfl) (by kernel_rfl) (by kernel_rfl) (fun _ _ _ h => h) (by kernel_rfl) (SM.of hS) ?_ ?_; rotate_left; (focus (intro w hSw; (try dsimp only at hSw); have hr := hSw.1; have x0 := hr.cell 0; have x1 := hr.cell 1; have x2 := hr.cell 2; have x3 := hr.cell 3; have x4 := hr.cell 4; have x5 := hr.cell 5; have x6 := hr.cell 6; have x7 := hr.cell 7; simp only [List.getElem?_cons_succ, List.getElem?_cons_zero] at x0 x1 x2 x3 x4 x5 x6 x7; refine Pure.val ?_; go_simp; (try with_reducible rfl); done)); try simp only [Act.put, List.setIfInBounds_toArray, List.set_cons_zero, List.set_cons_succ])
    (refine Org.yes (v := ?_) rfl (by kernel_rfl) (by kernel_rfl) (by kernel_rfl) (by kernel_rfl) (by kernel_rfl) (fun _ _ _ h => h) (by kernel_rfl) (SM.of hS) ?_ ?_; rotate_left; (focus (intro w hSw; (try dsimp only at hSw); refine Pure.val ?_; go_simp; (try with_reducible rfl); done)); try simp only [Act.put, List.setIfInBounds_toArray, List.set_cons_zero, List.set_cons_succ])
    (refine Org.yes (v := ?_) rfl (by kernel_rfl) (by kernel_rfl) (by kernel_rfl) (by kernel_rfl) (by kernel_rfl) (fun _ _ _ h => h) (by kernel_rfl) (SM.of hS) ?_ ?_; rotate_left; (focus (intro w hSw; (try dsimp only at hSw); refine Pure.val ?_; go_simp; (try with_reducible rfl); done)); try simp only [Act.put, List.setIfInBounds_toArray, List.set_cons_zero, List.set_cons_succ])
    refine Org.go rfl (by kernel_rfl) (by kernel_rfl) (fun K hK => ?_)
    go_simp
    go_at_call 8
    refine (fits_any F g pg _ 0 m wk.heap.size Ad Ao nd cd no co ts (-nz) true _ HDa.out HH5.out.okd HRa.out HSa.out (by omega) h64 hnm (by omega) HFN.out).mono ?_
    rintro e wb ⟨rfl, hbb⟩
    have HDb := hid (DrvE.new_ HDa.out hbb)
    have HRb := hid (RM.below HRa.out (hbb.mono HSa.out))
    have HSb := hid (Nat.le_trans HSa.out hbb.size)
    have hS3 := And.intro (hS.1.below hbb hS.1.lt) (hS.2.trans (hbb.mono hS.2.size))
    clear hbb
    go_wp2_with fail
    refine hK.out _ _ hS3 (fun hS2 => ?_)
    clear hS3
    clear hK K hS
    have hS := hS2
    clear hS2
    try simp only [Act.put, List.setIfInBounds_toArray, List.set_cons_zero, List.set_cons_succ]
    (refine Org.yes (v := ?_) rfl (by kernel_rfl) (by kernel_rfl) (by kernel_rfl) (by kernel_rfl) (by kernel_rfl) (fun _ _ _ h => h) (by kernel_rfl) (SM.of hS) ?_ ?_; rotate_left; (focus (intro w hSw; (try dsimp only at hSw); refine Pure.val ?_; go_simp; (try with_reducible rfl); done)); try simp only [Act.put, List.setIfInBounds_toArray, List.set_cons_zero, List.set_cons_succ])
    (refine Org.yes (v := ?_) rfl (by kernel_rfl) (by kernel_rfl) (by kernel_rfl) (by kernel_rfl) (by kernel_rfl) (fun _ _ _ h => h) (by kernel_rfl) (SM.of hS) ?_ ?_; rotate_left; (focus (intro w hSw; (try dsimp only at hSw); refine Pure.val ?_; go_simp; (try with_reducible rfl); done)); try simp only [Act.put, List.setIfInBounds_toArray, List.set_cons_zero, List.set_cons_succ])
    (refine Org.yes (v := ?_) rfl (by kernel_rfl) (by kernel_rfl) (by kernel_rfl) (by kernel_rfl) (by kernel_rfl) (fun _ _ _ h => h) (by kernel_rfl) (SM.of hS) ?_ ?_; rotate_left; (focus (intro w hSw; (try dsimp only at hSw); refine Pure.val ?_; go_simp; (try with_reducible rfl); done)); try simp only [Act.put, List.setIfInBounds_toArray, List.set_cons_zero, List.set_cons_succ])
    (refine Org.yes (v := ?_) rfl (by kernel_rfl) (by kernel_rfl) (by kernel_rfl) (by kernel_rfl) (by kernel_rfl) (fun _ _ _ h => h) (by kernel_rfl) (SM.of hS) ?_ ?_; rotate_left; (focus (intro w hSw; (try dsimp only at hSw); have hr := hSw.1; have x0 := hr.cell 0; have x1 := hr.cell 1; have x2 := hr.cell 2; have x3 := hr.cell 3; have x4 := hr.cell 4; have x5 := hr.cell 5; have x6 := hr.cell 6; have x7 := hr.cell 7; simp only [List.getElem?_cons_succ, List.getElem?_cons_zero] at x0 x1 x2 x3 x4 x5 x6 x7; refine Pure.val ?_; go_simp; (try with_reducible rfl); done)); try simp only [Act.put, List.setIfInBounds_toArray, List.set_cons_zero, List.set_cons_succ])
    (refine Org.yes (v := ?_) rfl (by kernel_rfl) (by kernel_rfl) (by kernel_rfl) (by kernel_rfl) (by kernel_rfl) (fun _ _ _ h => h) (by kernel_rfl) (SM.of hS) ?_ ?_; rotate_left; (focus (intro w hSw; (try dsimp only at hSw); refine Pure.val ?_; go_simp; (try with_reducible rfl); done)); try simp only [Act.put, List.setIfInBounds_toArray, List.set_cons_zero, List.set_cons_succ])
    refine Org.go rfl (by kernel_rfl) (by kernel_rfl) (fun K hK => ?_)
    go_simp
    go_at_call 9
    refine (droom_any F g pg _ _ HDb.out).mono ?_
    rintro e wq ⟨rfl, rfl⟩
    go_wp2_with fail
    refine hK.out _ _ hS (fun hS2 => ?_)
    clear hK K hS
    have hS := hS2
    clear hS2
    try simp only [Act.put, List.setIfInBounds_toArray, List.set_cons_zero, List.set_cons_succ]
    (refine Org.yes (v := ?_) rfl (by kernel_rfl) (by kernel_rfl) (by kernel_rfl) (by kernel_rfl) (by kernel_rfl) (fun _ _ _ h => h) (by kernel_rfl) (SM.of hS) ?_ ?_; rotate_left; (focus (intro w hSw; (try dsimp only at hSw); refine Pure.val ?_; go_simp; (try with_reducible rfl); done)); try simp only [Act.put, List.setIfInBounds_toArray, List.set_cons_zero, List.set_cons_succ])
    refine Org.go rfl (by kernel_rfl) (by kernel_rfl) (fun K hK => ?_)
    go_simp
    go_at_call 8
    refine (fits_any F g pg _ 0 m wk.heap.size Ad Ao nd cd no co ts N1 false _ HDb.out HH5.out.okd HRb.out HSb.out (by omega) h64 hnm (by omega) HFR.out).mono ?_
    rintro e wd ⟨rfl, hbd⟩
    have HDd := hid (DrvE.new_ HDb.out hbd)
    have HRd := hid (RM.below HRb.out (hbd.mono HSb.out))
    have HSd := hid (Nat.le_trans HSb.out hbd.size)
    have hS3 := And.intro (hS.1.below hbd hS.1.lt) (hS.2.trans (hbd.mono hS.2.size))
    clear hbd
    go_wp2_with fail
    refine hK.out _ _ hS3 (fun hS2 => ?_)
    clear hS3
    clear hK K hS
    have hS := hS2
    clear hS2
    try simp only [Act.put, List.setIfInBounds_toArray, List.set_cons_zero, List.set_cons_succ]
    (refine Org.yes (v := ?_) rfl (by kernel_rfl) (by kernel_rfl) (by kernel_rfl) (by kernel_rfl) (by kernel_rfl) (fun _ _ _ h => h) (by kernel_rfl) (SM.of hS) ?_ ?_; rotate_left; (focus (intro w hSw; (try dsimp only at hSw); refine Pure.val ?_; go_simp; (try with_reducible rfl); done)); try simp only [Act.put, List.setIfInBounds_toArray, List.set_cons_zero, List.set_cons_succ])
    (refine Org.yes (v := ?_) rfl (by kernel_rfl) (by kernel_rfl) (by kernel_rfl) (by kernel_rfl) (by kernel_rfl) (fun _ _ _ h => h) (by kernel_rfl) (SM.of hS) ?_ ?_; rotate_left; (focus (intro w hSw; (try dsimp only at hSw); refine Pure.val ?_; go_simp; (try with_reducible rfl); done)); try simp only [Act.put, List.setIfInBounds_toArray, List.set_cons_zero, List.set_cons_succ])
    (refine Org.yes (v := ?_) rfl (by kernel_rfl) (by kernel_rfl) (by kernel_rfl) (by kernel_rfl) (by kernel_rfl) (fun _ _ _ h => h) (by kernel_rfl) (SM.of hS) ?_ ?_; rotate_left; (focus (intro w hSw; (try dsimp only at hSw); refine Pure.val ?_; go_simp; (try with_reducible rfl); done)); try simp only [Act.put, List.setIfInBounds_toArray, List.set_cons_zero, List.set_cons_succ])
    (refine Org.yes (v := ?_) rfl (by kernel_rfl) (by kernel_rfl) (by kernel_rfl) (by kernel_rfl) (by kernel_rfl) (fun _ _ _ h => h) (by kernel_rfl) (SM.of hS) ?_ ?_; rotate_left; (focus (intro w hSw; (try dsimp only at hSw); refine Pure.val ?_; go_simp; (try with_reducible rfl); done)); try simp only [Act.put, List.setIfInBounds_toArray, List.set_cons_zero, List.set_cons_succ])
    (refine Org.yes (v := ?_) rfl (by kernel_rfl) (by kernel_rfl) (by kernel_rfl) (by kernel_rfl) (by kernel_rfl) (fun _ _ _ h => h) (by kernel_rfl) (SM.of hS) ?_ ?_; rotate_left; (focus (intro w hSw; (try dsimp only at hSw); have hr := hSw.1; have x0 := hr.cell 0; have x1 := hr.cell 1; have x2 := hr.cell 2; have x3 := hr.cell 3; have x4 := hr.cell 4; have x5 := hr.cell 5; have x6 := hr.cell 6; have x7 := hr.cell 7; simp only [List.getElem?_cons_succ, List.getElem?_cons_zero] at x0 x1 x2 x3 x4 x5 x6 x7; refine Pure.val ?_; go_simp; (try with_reducible rfl); done)); try simp only [Act.put, List.setIfInBounds_toArray, List.set_cons_zero, List.set_cons_succ])
    (refine Org.yes (v := ?_) rfl (by kernel_rfl) (by kernel_rfl) (by kernel_rfl) (by kernel_rfl) (by kernel_rfl) (fun _ _ _ h => h) (by kernel_rfl) (SM.of hS) ?_ ?_; rotate_left; (focus (intro w hSw; (try dsimp only at hSw); refine Pure.val ?_; go_simp; (try with_reducible rfl); done)); try simp only [Act.put, List.setIfInBounds_toArray, List.set_cons_zero, List.set_cons_succ])
    (refine Org.yes (v := ?_) rfl (by kernel_rfl) (by kernel_rfl) (by kernel_rfl) (by kernel_rfl) (by kernel_rfl) (fun _ _ _ h => h) (by kernel_rfl) (SM.of hS) ?_ ?_; rotate_left; (focus (intro w hSw; (try dsimp only at hSw); refine Pure.val ?_; go_simp; (try with_reducible rfl); done)); try simp only [Act.put, List.setIfInBounds_toArray, List.set_cons_zero, List.set_cons_succ])
    refine Org.go rfl (by kernel_rfl) (by kernel_rfl) (fun K hK => ?_)
    go_simp
    go_at_call 10
    refine (make_any F g pg _ 0 m wk.heap.size Ad Ao nd cd no co ts (-nz) _ HDd.out HH5.out.okd (by omega) HRd.out HSd.out (by omega) h64 hnm (by omega)).mono ?_
    rintro e we ⟨rfl, -, hoe⟩
    rw [HMK.out]
    have hS3 := And.intro (hS.1.only hoe HGM.out) (hS.2.trans (hoe.below HFW.out hS.2.size))
    clear hoe
    go_wp2_with fail
    refine hK.out _ _ hS3 (fun hS2 => ?_)
    clear hS3
    clear hK K hS
    have hS := hS2
    clear hS2
    try simp only [Act.put, List.setIfInBounds_toArray, List.set_cons_zero, List.set_cons_succ]
    (refine Org.yes (v := ?_) rfl (by kernel_rfl) (by kernel_rfl) (by kernel_rfl) (by kernel_rfl) (by kernel_rfl) (fun _ _ _ h => h) (by kernel_rfl) (SM.of hS) ?_ ?_; rotate_left; (focus (intro w hSw; (try dsimp only at hSw); refine Pure.val ?_; go_simp; (try with_reducible rfl); done)); try simp only [Act.put, List.setIfInBounds_toArray, List.set_cons_zero, List.set_cons_succ])
    (refine Org.yes (v := ?_) rfl (by kernel_rfl) (by kernel_rfl) (by kernel_rfl) (by kernel_rfl) (by kernel_rfl) (fun _ _ _ h => h) (by kernel_rfl) (SM.of hS) ?_ ?_; rotate_left; (focus (intro w hSw; (try dsimp only at hSw); refine Pure.val ?_; go_simp; (try with_reducible rfl); done)); try simp only [Act.put, List.setIfInBounds_toArray, List.set_cons_zero, List.set_cons_succ])
    (refine Org.yes (v := ?_) rfl (by kernel_rfl) (by kernel_rfl) (by kernel_rfl) (by kernel_rfl) (by kernel_rfl) (fun _ _ _ h => h) (by kernel_rfl) (SM.of hS) ?_ ?_; rotate_left; (focus (intro w hSw; (try dsimp only at hSw); refine Pure.val ?_; go_simp; (try with_reducible rfl); done)); try simp only [Act.put, List.setIfInBounds_toArray, List.set_cons_zero, List.set_cons_succ])
    refine Org.go rfl (by kernel_rfl) (by kernel_rfl) (fun K hK => ?_)
    go_simp
    go_at_call 11
    refine (wakes28 _).mono ?_
    rintro e wf ⟨rfl, hbf⟩
    have hS3 := And.intro (hS.1.below hbf hS.1.lt) (hS.2.trans (hbf.mono hS.2.size))
    clear hbf
    go_wp2_with fail
    refine hK.out _ _ hS3 (fun hS2 => ?_)
    clear hS3
    clear hK K hS
    have hS := hS2
    clear hS2
    try simp only [Act.put, List.setIfInBounds_toArray, List.set_cons_zero, List.set_cons_succ]
    (refine Org.yes (v := ?_) rfl (by kernel_rfl) (by kernel_rfl) (by kernel_rfl) (by kernel_rfl) (by kernel_rfl) (fun _ _ _ h => h) (by kernel_rfl) (SM.of hS) ?_ ?_; rotate_left; (focus (intro w hSw; (try dsimp only at hSw); refine Pure.val ?_; go_simp; (try with_reducible rfl); done)); try simp only [Act.put, List.setIfInBounds_toArray, List.set_cons_zero, List.set_cons_succ])
    (refine Org.yes (v := ?_) rfl (by kernel_rfl) (by kernel_rfl) (by kernel_rfl) (by kernel_rfl) (by kernel_rfl) (fun _ _ _ h => h) (by kernel_rfl) (SM.of hS) ?_ ?_; rotate_left; (focus (intro w hSw; (try dsimp only at hSw); refine Pure.val ?_; go_simp; (try with_reducible rfl); done)); try simp only [Act.put, List.setIfInBounds_toArray, List.set_cons_zero, List.set_cons_succ])
    refine Org.done (by kernel_rfl) ?_
    go_wp2_with fail
    go_ret
    exact ⟨rfl, hS.2⟩
end Go.Proofs.Ytlfmfhdgnmchgaa

