/- Law20e -/
import Derived.Deep.DeepCutAuto
import Derived.BigGuardPart
import Derived.Test.YtbpimfhachbcdaaDoorBPageJoins02
import Derived.Test.YtbpimfhachbcdaaDoorBPageJoins07
import Derived.Test.YtbpimfhachbcdaaDoorBPageJoins10
import Derived.Test.YtbpimfhachbcdaaDoorBPageJoins28
import Derived.Test.YtbpimfhachbcdaaDoorBPageJoins35
import Derived.Test.YtbpimfhachbcdaaDoorBPageJoins37
import Derived.Test.YtbpimfhachbcdaaDoorBPageJoins45
import Derived.Test.YtbpimfhachbcdaaDoorBPageJoins46
import Derived.Test.YtbpimfhachbcdaaDoorBPageJoins47
import Derived.Test.YtbpimfhachbcdaaDoorBPageJoins48
import Derived.Test.YtbpimfhachbcdaaDoorBPageJoins50
set_option maxRecDepth 20000
set_option linter.unusedSimpArgs false
set_option linter.unusedVariables false
namespace Go.Proofs.YtbpimfhachbcdaaDoor
open Go.RowKit Wells
set_option maxRecDepth 20000 in
set_option maxHeartbeats 8000000 in
theorem walk_PageJoins (A : Option Addr) (n c : Nat) (l : List Int) (A2 : Option Addr) (n2 c2 : Nat) (l2 : List Int) (A3 : Option Addr) (n3 c3 : Nat) (vs3 : List Value) (ls3 : List (List Byte)) (w : World) (h : IsInts w A n c l) (h2 : IsInts w A2 n2 c2 l2) (h3 : IsBytess w A3 n3 c3 vs3 ls3) :
    Calls Tryd.prog 4 #[.slice A n c, .slice A2 n2 c2, .slice A3 n3 c3] w fun e w' => e = .returned (.bool true) ∧ Below w.heap.size w w' := by
  obtain ⟨ibs, hibs, hzb0, hzb1, hzb2⟩ := info_parts infoBs
  obtain ⟨hs, hle, hcap, hwf⟩ := h
  obtain ⟨hs2, hle2, hcap2, hwf2⟩ := h2
  obtain ⟨hrb3, hle3, hcap3⟩ := h3
  have HR3 := hid hrb3
  have HV3 := hid (show vs3.length = n3 by have := hrb3.sl.len; omega)
  clear hrb3
  by_cases hw10 : (10 : Int) < (n3 : Int)
  · go_enter Tryd.func4, Tryd.ntmps4
    go_wp2_with fail
    refine (wakes20 _).mono ?_
    rintro e w9 ⟨rfl, hb9⟩
    go_wp2_with fail
    go_ret
    exact ⟨rfl, hb9⟩
  go_enter Tryd.func4, Tryd.ntmps4
  go_wp2_with fail
  go_loopw [21] (fun iv wr => ∃ k : Nat, k ≤ n3 ∧ iv = .int .i64 (k : Int) ∧ Hid (∀ i, i < k → (ls3.getD i []).length ≤ 80) ∧ Below w.heap.size w wr) (fun iv _ => n3 - (intOf iv).toNat)
  case atStart => exact ⟨0, Nat.zero_le _, rfl, hid (fun i hi => absurd hi (Nat.not_lt_zero _)), Below.refl _ _⟩
  case round =>
    obtain ⟨k, hk, rfl, HW, hbr⟩ := hrel
    have HBR := hid hbr
    clear hbr
    by_cases hlt : k < n3
    · have hlt' : (k : Int) < (n3 : Int) := by omega
      obtain ⟨bb, o, A', c', rfl, hbb, hcell, hc1, hc2, hsl⟩ := (HR3.out.below HBR.out).get hlt
      obtain ⟨q, hq⟩ : ∃ q, (ls3.getD k []).length = q := ⟨_, rfl⟩
      rw [hq] at hcell hc1 hsl
      have HQ := hid hq
      clear hsl hq
      by_cases h80 : (80 : Int) < (q : Int)
      · go_wp2_with fail
        refine (wakes20 _).mono ?_
        rintro e w9 ⟨rfl, hb9⟩
        have hbe := HBR.out.trans (hb9.mono HBR.out.size)
        go_wp2_with fail
        go_ret
        exact ⟨rfl, hbe⟩
      · go_wp2_with fail
        go_roundw
        case rel => exact ⟨k + 1, by omega, by go_num, hid (fun i hi => by
          rcases Nat.lt_succ_iff_lt_or_eq.1 hi with h | rfl
          · exact HW.out i h
          · rw [HQ.out]; omega), HBR.out⟩
        case measure => simp [intOf]; omega
    · obtain rfl : k = n3 := by omega
      have hlt' : ¬ (k : Int) < (k : Int) := by omega
      obtain ⟨w0, hw0⟩ : ∃ x, x = wr := ⟨_, rfl⟩
      subst hw0
      have HS := hid ((hs.below HBR.out).mono HBR.out.size)
      have HS2 := hid ((hs2.below HBR.out).mono HBR.out.size)
      go_wp2_with fail
      refine (mani_any w0.heap.size A n c l w0 HS.out (Nat.le_refl _) (by omega) hwf).mono ?_
      rintro e w1 ⟨m, Ad, nd, cd, Ao, no, co, ts, rfl, hom, hpl, hb1⟩
      have HPM := hid hpl
      have HLT := hid hpl.lt
      have hsq := hpl.seq
      have hrm1 := hom.read
      have H64 := hid hpl.m64
      clear hom hpl
      unfold Mani.val
      have hx2 := Row.new w1 27 #[.int .i64 m.seq, .int .i64 m.next, .int .i64 m.P.K, .int .i64 m.P.H, .int .i64 m.P.S, .int .i64 m.extra, .slice Ad nd cd, .slice Ao no co]
      have hb12 : Below w1.heap.size w1 (w1.alloc (.cells #[.int .i64 m.seq, .int .i64 m.next, .int .i64 m.P.K, .int .i64 m.P.H, .int .i64 m.P.S, .int .i64 m.extra, .slice Ad nd cd, .slice Ao no co] 27)) := (Below.refl _ _).alloc (Nat.le_refl _) _
      have hb02 := hb1.trans (hb12.mono hb1.size)
      have HM := hid ((hrm1.below hb12).mono hb12.size)
      have HB02 := hid (HBR.out.trans (hb02.mono HBR.out.size))
      have HS22 := hid ((HS2.out.below hb02).mono hb02.size)
      have HX := hid hx2
      have x0 := hx2.cell 0
      have x1 := hx2.cell 1
      have x2 := hx2.cell 2
      have x3 := hx2.cell 3
      have x4 := hx2.cell 4
      have x5 := hx2.cell 5
      have x6 := hx2.cell 6
      have x7 := hx2.cell 7
      simp only [List.getElem?_cons_succ, List.getElem?_cons_zero] at x0 x1 x2 x3 x4 x5 x6 x7
      clear hx2 hrm1 hb12 hb1 hb02 HS
      go_wp2_with fail
      generalize w1.alloc (.cells #[.int .i64 m.seq, .int .i64 m.next, .int .i64 m.P.K, .int .i64 m.P.H, .int .i64 m.P.S, .int .i64 m.extra, .slice Ad nd cd, .slice Ao no co] 27) = w2 at *
      obtain ⟨gm, hgm⟩ : ∃ g, w1.heap.size = g := ⟨_, rfl⟩
      rw [hgm] at HX x0 x1 x2 x3 x4 x5 x6 x7 ⊢
      clear hgm
      refine (playcells_any m w2.heap.size Ad Ao nd cd no co ts A2 n2 c2 24 l2 w2 HM.out (Nat.le_refl _) HPM.out HS22.out (by omega) hwf2 (by omega)).mono ?_
      rintro e w3 ⟨Ac, cc, vsc, lsc, nc, rfl, hlc, hnc, h64c, hoc, hb3⟩
      have HLC := hid hlc
      have H64C := hid h64c
      have howc := hoc.own
      rw [hlc] at howc
      have HOWC := hid howc
      have HMC := hid (MBs.of hoc (Nat.le_refl _))
      have HB3 := hid hb3
      have hz3 := hb3.size
      have HR33 := hid ((HR3.out.below HB02.out).below (hb3.mono HB02.out.size))
      clear hlc h64c hoc howc hb3 x0 x1 x2 x3 x4 x5 x6 x7
      go_upto_region 11 with ((with_reducible show wpList _ _ _ (⟨some 38, _, _, _, _, _⟩ :: _) _ _); go_must (refine wpl_append rfl (.tmp 36) (.tmp 37) 34 rfl w2.heap.size 37 ibs (.slice none 0 0) 1 24 Tryd.underlying34 hibs hzb0 hzb1 hzb2 rfl (by omega) (.slice Ac nc cc) nc vsc rfl HOWC.out _ A3 k c3 vs3 rfl HR33.out.sl (rbs_one HR33.out HV3.out) (nc + k) (by omega) _ rfl (by omega) (by omega) hz3 ?_); intro A4 c4 w4 ho4 hg4 _)
      have hb4 := below_own HB3.out HOWC.out hg4 (Nat.le_refl _) hz3
      have hc4 := HMC.out.app (ls2 := ls3) (vs2 := vs3) (fun i hi => .inl ((HR33.out.at_ i (by rw [HR3.out.len] at hi; exact hi)).mono HB02.out.size)) ho4 hg4 hz3 (by rw [List.length_append, HLC.out, HR3.out.len])
      obtain ⟨N4, hN4⟩ : ∃ q, nc + k = q := ⟨_, rfl⟩
      rw [hN4] at hc4 ⊢
      have hl4 : (lsc ++ ls3).length = N4 := by rw [List.length_append, HLC.out, HR3.out.len, hN4]
      have hall4 : ∀ x ∈ lsc ++ ls3, x.length ≤ 1048576 := fun x hx => by
        rcases List.mem_append.1 hx with h | h
        · rw [H64C.out x h]; omega
        · obtain ⟨i, hi, rfl⟩ := List.getElem_of_mem h
          have := HW.out i (by rw [← HR3.out.len]; exact hi)
          rw [List.getD_eq_getElem?_getD, List.getElem?_eq_getElem hi, Option.getD_some] at this
          omega
      obtain ⟨ls4, hls4⟩ : ∃ q, lsc ++ ls3 = q := ⟨_, rfl⟩
      obtain ⟨vs4, hvs4⟩ : ∃ q, vsc ++ vs3 = q := ⟨_, rfl⟩
      rw [hls4, hvs4] at hc4
      rw [hls4] at hl4 hall4
      have HB4 := hid hb4
      have HC4a := hid hc4
      have HL4 := hid hl4
      have HALL4 := hid hall4
      have hN4b : N4 ≤ 34 := by omega
      have hx4 := HX.out.below hb4 HX.out.lt
      have x0 := hx4.cell 0
      have x1 := hx4.cell 1
      have x2 := hx4.cell 2
      have x3 := hx4.cell 3
      have x4 := hx4.cell 4
      have x5 := hx4.cell 5
      have x6 := hx4.cell 6
      have x7 := hx4.cell 7
      simp only [List.getElem?_cons_succ, List.getElem?_cons_zero] at x0 x1 x2 x3 x4 x5 x6 x7
      clear hx4 hb4 hc4 hl4 hall4 hls4 hvs4 ho4 hg4 HMC HOWC HLC H64C HR33 HW hN4 hnc
      have hndl : nd ≤ 1048576 := by rw [← HM.out.dl]; exact Nat.le_trans HLT.out.dl (by omega)
      have hnol : no ≤ 1048576 := by rw [← HM.out.o.len]; exact Nat.le_trans HLT.out.ol (by omega)
      go_wp2_with fail
      refine (copy_any m w2.heap.size Ad Ao nd cd no co ts w4 (HM.out.below HB4.out) HB4.out.size hndl hnol (fun e he => Nat.le_trans (HLT.out.tr e he) (by omega))).mono ?_
      rintro e w5 ⟨Ay, ny, cy, By, py, qy, tsy, rfl, hoy, -, hb5⟩
      unfold Mani.val
      have hy6 : Row (w5.alloc (.cells #[.int .i64 m.seq, .int .i64 m.next, .int .i64 m.P.K, .int .i64 m.P.H, .int .i64 m.P.S, .int .i64 m.extra, .slice Ay ny cy, .slice By py qy] 27)) w5.heap.size 27 [.int .i64 m.seq, .int .i64 m.next, .int .i64 m.P.K, .int .i64 m.P.H, .int .i64 m.P.S, .int .i64 m.extra, .slice Ay ny cy, .slice By py qy] := Row.new w5 27 #[.int .i64 m.seq, .int .i64 m.next, .int .i64 m.P.K, .int .i64 m.P.H, .int .i64 m.P.S, .int .i64 m.extra, .slice Ay ny cy, .slice By py qy]
      have hb56 : Below w5.heap.size w5 (w5.alloc (.cells #[.int .i64 m.seq, .int .i64 m.next, .int .i64 m.P.K, .int .i64 m.P.H, .int .i64 m.P.S, .int .i64 m.extra, .slice Ay ny cy, .slice By py qy] 27)) := (Below.refl _ _).alloc (Nat.le_refl _) _
      have HOY5 := hid hoy
      have HB45 := hid hb5
      have HY6 := hid hy6
      have HB56 := hid hb56
      clear hoy hb5 hy6 hb56 x0 x1 x2 x3 x4 x5 x6 x7
      go_upto_region 12 with fail
      generalize w5.alloc (.cells #[.int .i64 m.seq, .int .i64 m.next, .int .i64 m.P.K, .int .i64 m.P.H, .int .i64 m.P.S, .int .i64 m.extra, .slice Ay ny cy, .slice By py qy] 27) = w6 at *
      obtain ⟨gy, hgy⟩ : ∃ g, w5.heap.size = g := ⟨_, rfl⟩
      have HGY := hid hgy
      rw [hgy] at HY6 ⊢
      clear hgy
      have y0 := HY6.out.cell 0
      have y1 := HY6.out.cell 1
      have y2 := HY6.out.cell 2
      have y3 := HY6.out.cell 3
      have y4 := HY6.out.cell 4
      have y5 := HY6.out.cell 5
      have y6 := HY6.out.cell 6
      have y7 := HY6.out.cell 7
      simp only [List.getElem?_cons_succ, List.getElem?_cons_zero] at y0 y1 y2 y3 y4 y5 y6 y7
      have f0 := HY6.out.frozen 0
      have f1 := HY6.out.frozen 1
      have f2 := HY6.out.frozen 2
      have f3 := HY6.out.frozen 3
      have f4 := HY6.out.frozen 4
      have f5 := HY6.out.frozen 5
      have f6 := HY6.out.frozen 6
      have f7 := HY6.out.frozen 7
      go_upto_region 13 with fail
      have hb6b := HB56.out.setCell (p := (⟨gy, 5, none⟩ : Addr)) (show w5.heap.size ≤ gy by rw [HGY.out]; exact Nat.le_refl _) (.int .i64 3)
      have HY6b := hid (show Row _ gy 27 [.int .i64 m.seq, .int .i64 m.next, .int .i64 m.P.K, .int .i64 m.P.H, .int .i64 m.P.S, .int .i64 3, .slice Ay ny cy, .slice By py qy] from HY6.out.set 5 (.int .i64 3))
      have HB6b := hid hb6b
      clear y0 y1 y2 y3 y4 y5 y6 y7 f0 f1 f2 f3 f4 f5 f6 f7 hb6b HY6 HB56
      generalize w6.setCell ⟨gy, 5, none⟩ (.int .i64 3) = w6b at *
      have y0 := HY6b.out.cell 0
      have y1 := HY6b.out.cell 1
      have y2 := HY6b.out.cell 2
      have y3 := HY6b.out.cell 3
      have y4 := HY6b.out.cell 4
      have y5 := HY6b.out.cell 5
      have y6 := HY6b.out.cell 6
      have y7 := HY6b.out.cell 7
      simp only [List.getElem?_cons_succ, List.getElem?_cons_zero] at y0 y1 y2 y3 y4 y5 y6 y7
      have f0 := HY6b.out.frozen 0
      have f1 := HY6b.out.frozen 1
      have f2 := HY6b.out.frozen 2
      have f3 := HY6b.out.frozen 3
      have f4 := HY6b.out.frozen 4
      have f5 := HY6b.out.frozen 5
      have f6 := HY6b.out.frozen 6
      have f7 := HY6b.out.frozen 7
      have ew : IntKind.i64.wrap (m.seq + 1) = m.seq + 1 := by rw [IntKind.wrap_i64]; omega
      go_upto_region 14 with fail
      have hb7 := HB6b.out.setCell (p := (⟨gy, 0, none⟩ : Addr)) (show w5.heap.size ≤ gy by rw [HGY.out]; exact Nat.le_refl _) (.int .i64 (m.seq + 1))
      have HY7 := hid (show Row _ gy 27 [.int .i64 (m.seq + 1), .int .i64 m.next, .int .i64 m.P.K, .int .i64 m.P.H, .int .i64 m.P.S, .int .i64 3, .slice Ay ny cy, .slice By py qy] from HY6b.out.set 0 (.int .i64 (m.seq + 1)))
      have HB57 := hid hb7
      clear y0 y1 y2 y3 y4 y5 y6 y7 f0 f1 f2 f3 f4 f5 f6 f7 hb7 HY6b HB6b ew
      generalize w6b.setCell ⟨gy, 0, none⟩ (.int .i64 (m.seq + 1)) = w7 at *
      have hb47 := HB45.out.trans (HB57.out.mono HB45.out.size)
      have hb27 := HB4.out.trans (hb47.mono HB4.out.size)
      have HC7 := hid (HC4a.out.below hb47 HB4.out.size)
      have HB27 := hid hb27
      have HOY7 := hid (HOY5.out.below HB57.out)
      have hx7 := HX.out.below hb27 HX.out.lt
      have x0 := hx7.cell 0
      have x1 := hx7.cell 1
      have x2 := hx7.cell 2
      have x3 := hx7.cell 3
      have x4 := hx7.cell 4
      have x5 := hx7.cell 5
      have x6 := hx7.cell 6
      have x7 := hx7.cell 7
      simp only [List.getElem?_cons_succ, List.getElem?_cons_zero] at x0 x1 x2 x3 x4 x5 x6 x7
      clear hx7 hb47 hb27 HC4a HOY5 HB4 HB45 HB57
      go_wp2_with fail
      refine (copy_any m w2.heap.size Ad Ao nd cd no co ts w7 (HM.out.below HB27.out) HB27.out.size hndl hnol (fun e he => Nat.le_trans (HLT.out.tr e he) (by omega))).mono ?_
      rintro e w8 ⟨Az, nz, cz, Bz, pz, qz, tsz, rfl, hoz, -, hb8⟩
      unfold Mani.val
      have hz8 : Row (w8.alloc (.cells #[.int .i64 m.seq, .int .i64 m.next, .int .i64 m.P.K, .int .i64 m.P.H, .int .i64 m.P.S, .int .i64 m.extra, .slice Az nz cz, .slice Bz pz qz] 27)) w8.heap.size 27 [.int .i64 m.seq, .int .i64 m.next, .int .i64 m.P.K, .int .i64 m.P.H, .int .i64 m.P.S, .int .i64 m.extra, .slice Az nz cz, .slice Bz pz qz] := Row.new w8 27 #[.int .i64 m.seq, .int .i64 m.next, .int .i64 m.P.K, .int .i64 m.P.H, .int .i64 m.P.S, .int .i64 m.extra, .slice Az nz cz, .slice Bz pz qz]
      have hb8b : Below w8.heap.size w8 (w8.alloc (.cells #[.int .i64 m.seq, .int .i64 m.next, .int .i64 m.P.K, .int .i64 m.P.H, .int .i64 m.P.S, .int .i64 m.extra, .slice Az nz cz, .slice Bz pz qz] 27)) := (Below.refl _ _).alloc (Nat.le_refl _) _
      have HOZ8 := hid hoz
      have HB78 := hid hb8
      have HZ8 := hid hz8
      have HB8b := hid hb8b
      clear hoz hb8 hz8 hb8b x0 x1 x2 x3 x4 x5 x6 x7
      go_upto_region 15 with fail
      generalize w8.alloc (.cells #[.int .i64 m.seq, .int .i64 m.next, .int .i64 m.P.K, .int .i64 m.P.H, .int .i64 m.P.S, .int .i64 m.extra, .slice Az nz cz, .slice Bz pz qz] 27) = w8b at *
      obtain ⟨gz, hgz⟩ : ∃ g, w8.heap.size = g := ⟨_, rfl⟩
      have HGZ := hid hgz
      rw [hgz] at HZ8 ⊢
      clear hgz
      have z0 := HZ8.out.cell 0
      have z1 := HZ8.out.cell 1
      have z2 := HZ8.out.cell 2
      have z3 := HZ8.out.cell 3
      have z4 := HZ8.out.cell 4
      have z5 := HZ8.out.cell 5
      have z6 := HZ8.out.cell 6
      have z7 := HZ8.out.cell 7
      simp only [List.getElem?_cons_succ, List.getElem?_cons_zero] at z0 z1 z2 z3 z4 z5 z6 z7
      have f0 := HZ8.out.frozen 0
      have f1 := HZ8.out.frozen 1
      have f2 := HZ8.out.frozen 2
      have f3 := HZ8.out.frozen 3
      have f4 := HZ8.out.frozen 4
      have f5 := HZ8.out.frozen 5
      have f6 := HZ8.out.frozen 6
      have f7 := HZ8.out.frozen 7
      go_upto_region 16 with fail
      have hb9 := HB8b.out.setCell (p := (⟨gz, 5, none⟩ : Addr)) (show w8.heap.size ≤ gz by rw [HGZ.out]; exact Nat.le_refl _) (.int .i64 4)
      have HZ9 := hid (show Row _ gz 27 [.int .i64 m.seq, .int .i64 m.next, .int .i64 m.P.K, .int .i64 m.P.H, .int .i64 m.P.S, .int .i64 4, .slice Az nz cz, .slice Bz pz qz] from HZ8.out.set 5 (.int .i64 4))
      have HB89 := hid hb9
      clear z0 z1 z2 z3 z4 z5 z6 z7 f0 f1 f2 f3 f4 f5 f6 f7 hb9 HZ8 HB8b
      generalize w8b.setCell ⟨gz, 5, none⟩ (.int .i64 4) = w9 at *
      have hb79 := HB78.out.trans (HB89.out.mono HB78.out.size)
      have hb29 := HB27.out.trans (hb79.mono HB27.out.size)
      have HC9 := hid (HC7.out.below hb79 HB27.out.size)
      have HB29 := hid hb29
      have HOY := hid (HOY7.out.below hb79)
      have HOZ := hid (HOZ8.out.below HB89.out)
      have HY9 := hid (HY7.out.below hb79 HY7.out.lt)
      clear hb79 hb29 HC7 HOY7 HOZ8 HY7 HB78 HB89 HB27
      have hmay := HPM.out.may
      have HY64 := hid (show M64 (alt m (m.seq + 1) 3) ∧ (∀ e ∈ (alt m (m.seq + 1) 3).objs, e.name.length ≤ 1048576) from ⟨alt_64 H64.out.1 (by unfold i64; omega) (by unfold i64; omega), H64.out.2⟩)
      have HZ64 := hid (show M64 (alt m m.seq 4) ∧ (∀ e ∈ (alt m m.seq 4).objs, e.name.length ≤ 1048576) from ⟨alt_64 H64.out.1 (by unfold i64; omega) (by unfold i64; omega), H64.out.2⟩)
      obtain ⟨LY, hLY⟩ : ∃ q, pagesL (alt m (m.seq + 1) 3).seq (pack (alt m (m.seq + 1) 3)) = q := ⟨_, rfl⟩
      obtain ⟨LZ, hLZ⟩ : ∃ q, pagesL (alt m m.seq 4).seq (pack (alt m m.seq 4)) = q := ⟨_, rfl⟩
      obtain ⟨ky, hky⟩ : ∃ q, LY.length = q := ⟨_, rfl⟩
      obtain ⟨kz, hkz⟩ : ∃ q, LZ.length = q := ⟨_, rfl⟩
      have hky9 : ky ≤ 9 := by rw [← hky, ← hLY]; exact pages_le _
      have hkz9 : kz ≤ 9 := by rw [← hkz, ← hLZ]; exact pages_le _
      have hky1 : 1 ≤ ky := by rw [← hky, ← hLY, pagesL_len]; exact pageN_pos (pack_ne (may_alt hmay (by omega) (by omega)))
      have HQY := hid (show (pagesL (alt m (m.seq + 1) 3).seq (pack (alt m (m.seq + 1) 3))).length = ky by rw [hLY, hky])
      have HQZ := hid (show (pagesL (alt m m.seq 4).seq (pack (alt m m.seq 4))).length = kz by rw [hLZ, hkz])
      have HLYE := hid hLY
      have HLZE := hid hLZ
      have HQYL := hid hky
      have HQZL := hid hkz
      have HALLY := hid (show ∀ x ∈ LY, x.length ≤ 1048576 from fun x hx => by rw [← HLYE.out] at hx; exact pages_len64 hx)
      have HALLZ := hid (show ∀ x ∈ LZ, x.length ≤ 1048576 from fun x hx => by rw [← HLZE.out] at hx; exact pages_len64 hx)
      clear hLY hLZ hky hkz hmay
      obtain ⟨N5, hN5⟩ : ∃ q, N4 + ky = q := ⟨_, rfl⟩
      obtain ⟨N, hN⟩ : ∃ q, N5 + kz = q := ⟨_, rfl⟩
      refine Org.begin [] (SJ w2 gy gz [.int .i64 (m.seq + 1), .int .i64 m.next, .int .i64 m.P.K, .int .i64 m.P.H, .int .i64 m.P.S, .int .i64 3, .slice Ay ny cy, .slice By py qy] [.int .i64 m.seq, .int .i64 m.next, .int .i64 m.P.K, .int .i64 m.P.H, .int .i64 m.P.S, .int .i64 4, .slice Az nz cz, .slice Bz pz qz]) [0, 1, 4, 2, 3, 5, 6, 7] (by kernel_rfl) (⟨HY9.out.below (below_drew' (Below.refl _ _)) HY9.out.lt, HZ9.out.below (below_drew' (Below.refl _ _)) HZ9.out.lt, below_drew' HB29.out⟩) (fun hS => ?_)
      (refine Org.yes (v := ?_) rfl (by kernel_rfl) (by kernel_rfl) (by kernel_rfl) (by kernel_rfl) (by kernel_rfl) (fun _ _ _ h => h) (by kernel_rfl) (SM.of hS) ?_ ?_; rotate_left; (focus (intro w hSw; (try dsimp only at hSw); refine Pure.val ?_; go_simp; (try with_reducible rfl); done)); try simp only [Act.put, List.setIfInBounds_toArray, List.set_cons_zero, List.set_cons_succ])
      (refine Org.yes (v := ?_) rfl (by kernel_rfl) (by kernel_rfl) (by kernel_rfl) (by kernel_rfl) (by kernel_rfl) (fun _ _ _ h => h) (by kernel_rfl) (SM.of hS) ?_ ?_; rotate_left; (focus (intro w hSw; (try dsimp only at hSw); have qy0 := hSw.y.cell 0; have qy1 := hSw.y.cell 1; have qy2 := hSw.y.cell 2; have qy3 := hSw.y.cell 3; have qy4 := hSw.y.cell 4; have qy5 := hSw.y.cell 5; have qy6 := hSw.y.cell 6; have qy7 := hSw.y.cell 7; simp only [List.getElem?_cons_succ, List.getElem?_cons_zero] at qy0 qy1 qy2 qy3 qy4 qy5 qy6 qy7; refine Pure.val ?_; go_simp; (try with_reducible rfl); done)); try simp only [Act.put, List.setIfInBounds_toArray, List.set_cons_zero, List.set_cons_succ])
      (refine Org.yes (v := ?_) rfl (by kernel_rfl) (by kernel_rfl) (by kernel_rfl) (by kernel_rfl) (by kernel_rfl) (fun _ _ _ h => h) (by kernel_rfl) (SM.of hS) ?_ ?_; rotate_left; (focus (intro w hSw; (try dsimp only at hSw); have qz0 := hSw.z.cell 0; have qz1 := hSw.z.cell 1; have qz2 := hSw.z.cell 2; have qz3 := hSw.z.cell 3; have qz4 := hSw.z.cell 4; have qz5 := hSw.z.cell 5; have qz6 := hSw.z.cell 6; have qz7 := hSw.z.cell 7; simp only [List.getElem?_cons_succ, List.getElem?_cons_zero] at qz0 qz1 qz2 qz3 qz4 qz5 qz6 qz7; refine Pure.val ?_; go_simp; (try with_reducible rfl); done)); try simp only [Act.put, List.setIfInBounds_toArray, List.set_cons_zero, List.set_cons_succ])
      refine Org.go rfl (by kernel_rfl) (by kernel_rfl) (fun K hK => ?_)
      have hd0 : Below w9.heap.size w9 w9.drew := below_drew' (Below.refl _ _)
      have hoy := HOY.out.below hd0
      have hoz := HOZ.out.below hd0
      have hc0 := HC9.out.below hd0 HB29.out.size
      go_simp
      go_at_call 14
      refine (refsplit_any (alt m (m.seq + 1) 3) _ Ay By ny cy py qy tsy _ (alt_rm hoy.read _ _) (Nat.le_refl _) HY64.out.1 HY64.out.2).mono ?_
      rintro e u1 ⟨As, cs, vss, rfl, hos, hbk⟩
      rw [HQY.out] at hos ⊢
      rw [HLYE.out] at hos
      have hS3 := hS.below hbk
      have HC1 := hid (hc0.below hbk HB29.out.size)
      have HOZ1 := hid (hoz.below hbk)
      have HOS := hid (show OBs w9.heap.size u1 _ _ _ from hos)
      clear hd0 hoy hoz hc0 hos hbk
      go_wp2_with fail
      refine hK.out _ _ hS3 (fun hS2 => ?_)
      clear hS3
      clear hK K hS
      have hS := hS2
      clear hS2
      try simp only [Act.put, List.setIfInBounds_toArray, List.set_cons_zero, List.set_cons_succ]
      refine Org.go rfl (by kernel_rfl) (by kernel_rfl) (fun K hK => ?_)
      have HBSHOS := hid HB29.out.size
      have hown := HC1.out.own
      rw [HL4.out] at hown
      have hsl := (HOS.out.read HQYL.out).sl
      refine op_append (.tmp 49) (.tmp 51) 34 rfl w2.heap.size 37 ibs (.slice none 0 0) 1 24 Tryd.underlying34 hibs hzb0 hzb1 hzb2 rfl (by omega) (.slice A4 N4 c4) N4 vs4 (by go_simp) hown _ As ky cs vss (by go_simp) hsl (obs_one HOS.out) N5 (by omega) _ rfl (by omega) (by omega) hS.b.size ?_
      rintro A5 c5 u2 hoN hgN _
      have hS3 := hS.grown hown hgN
      have HC2 := hid (HC1.out.app (fun i hi => .inr ((HOS.out.at_ i hi).tb HBSHOS.out)) hoN hgN hS.b.size (by rw [List.length_append, HL4.out, HQYL.out]; omega))
      have HOZ2 := hid (om_grown HOZ1.out hown hgN)
      have HL5 := hid (show (ls4 ++ LY).length = N5 by rw [List.length_append, HL4.out, HQYL.out]; omega)
      clear hown hsl hoN hgN
      refine hK.out _ _ hS3 (fun hS2 => ?_)
      clear hS3
      clear hK K hS
      have hS := hS2
      clear hS2
      try simp only [Act.put, List.setIfInBounds_toArray, List.set_cons_zero, List.set_cons_succ]
      refine Org.go rfl (by kernel_rfl) (by kernel_rfl) (fun K hK => ?_)
      go_simp
      go_at_call 14
      refine (refsplit_any (alt m m.seq 4) _ Az Bz nz cz pz qz tsz _ (alt_rm HOZ2.out.read _ _) (Nat.le_refl _) HZ64.out.1 HZ64.out.2).mono ?_
      rintro e u3 ⟨At, ct, vst, rfl, hos, hbk⟩
      rw [HQZ.out] at hos ⊢
      rw [HLZE.out] at hos
      have HBSHOT := hid hS.b.size
      have hS3 := hS.below hbk
      have HC3 := hid (HC2.out.below hbk hS.b.size)
      have HOT := hid hos
      clear hos hbk
      go_wp2_with fail
      refine hK.out _ _ hS3 (fun hS2 => ?_)
      clear hS3
      clear hK K hS
      have hS := hS2
      clear hS2
      try simp only [Act.put, List.setIfInBounds_toArray, List.set_cons_zero, List.set_cons_succ]
      refine Org.go rfl (by kernel_rfl) (by kernel_rfl) (fun K hK => ?_)
      have hown := HC3.out.own
      rw [HL5.out] at hown
      have hsl := (HOT.out.read HQZL.out).sl
      refine op_append (.tmp 52) (.tmp 54) 34 rfl w2.heap.size 37 ibs (.slice none 0 0) 1 24 Tryd.underlying34 hibs hzb0 hzb1 hzb2 rfl (by omega) (.slice A5 N5 c5) N5 (vs4 ++ vss) (by go_simp) hown _ At kz ct vst (by go_simp) hsl (obs_one HOT.out) N (by omega) _ rfl (by omega) (by omega) hS.b.size ?_
      rintro A6 c6 u4 hoN hgN _
      have hS3 := hS.grown hown hgN
      have HC4 := hid (HC3.out.app (fun i hi => .inr ((HOT.out.at_ i hi).tb HBSHOT.out)) hoN hgN hS.b.size (by rw [List.length_append, HL5.out, HQZL.out]; omega))
      clear hown hsl hoN hgN
      refine hK.out _ _ hS3 (fun hS2 => ?_)
      clear hS3
      clear hK K hS
      have hS := hS2
      clear hS2
      try simp only [Act.put, List.setIfInBounds_toArray, List.set_cons_zero, List.set_cons_succ]
      (refine Org.yes (v := ?_) rfl (by kernel_rfl) (by kernel_rfl) (by kernel_rfl) (by kernel_rfl) (by kernel_rfl) (fun _ _ _ h => h) (by kernel_rfl) (SM.of hS) ?_ ?_; rotate_left; (focus (intro w hSw; (try dsimp only at hSw); refine Pure.val ?_; go_simp; (try with_reducible rfl); done)); try simp only [Act.put, List.setIfInBounds_toArray, List.set_cons_zero, List.set_cons_succ])
      refine Org.done (by kernel_rfl) ?_
      have HSE := hid hS.b
      clear hS
      obtain ⟨wE, hwE⟩ : ∃ x, x = u4 := ⟨_, rfl⟩
      subst hwE
      obtain ⟨lsE, hlsE⟩ : ∃ q, ls4 ++ LY ++ LZ = q := ⟨_, rfl⟩
      obtain ⟨vsE, hvsE⟩ : ∃ q, vs4 ++ vss ++ vst = q := ⟨_, rfl⟩
      have hc := HC4.out
      rw [hlsE, hvsE] at hc
      have hlE : lsE.length = N := by rw [← hlsE, List.length_append, HL5.out, HQZL.out, hN]
      have HLEN := hid (show ∀ x ∈ lsE, x.length ≤ 1048576 from fun x hx => by
        rw [← hlsE] at hx
        rcases List.mem_append.1 hx with h | h
        · rcases List.mem_append.1 h with h | h
          · exact HALL4.out x h
          · exact HALLY.out x h
        · exact HALLZ.out x h)
      have howE := hc.own
      rw [hlE] at howE
      have hca := own_cap howE
      have hrE := hc.read hlE HSE.out.size
      have HVL := hid (show vsE.length = N by have := howE.1; omega)
      have HLE := hid hlE
      have HRE0 := hid hrE
      have hN1 : 1 ≤ N := by omega
      have hN52 : N ≤ 52 := by omega
      obtain ⟨bE, oE, rfl, hbE, -⟩ := hrE.sl.at_ (by omega)
      clear hlsE hvsE hc hlE howE hrE HC4 HC3 HC2 HC1 HOS HOT HOZ2 HOZ1 HOY HOZ HY9 HZ9 HL5 HL4 hN hN5 HALL4 HALLY HALLZ HQYL HQZL HQY HQZ HLYE HLZE
      have ew17 : IntKind.i64.wrap ((N : Int) + 1) = (N : Int) + 1 := by rw [IntKind.wrap_i64]; omega
      obtain ⟨r, hr⟩ : ∃ r, numAt l2 0 = r := ⟨_, rfl⟩
      have hr64 := numAt_64 hwf2 0
      rw [hr] at hr64
      go_wp2_with fail
      refine (num_any w2.heap.size A2 n2 c2 l2 0 r wE (HS22.out.below HSE.out) (by omega) ⟨by omega, by omega⟩ hr).mono ?_
      rintro e w' ⟨rfl, rfl⟩
      clear hr
      go_wp2_with fail
      refine (within_any r ((N : Int) + 1) _ hr64.1 hr64.2 (by omega) (by omega)).mono ?_
      rintro e w' ⟨rfl, rfl⟩
      go_upto_region 18 with fail
      clear ew17
      obtain ⟨t, ht⟩ : ∃ t : Nat, r % ((N : Int) + 1) = (t : Int) := ⟨(r % ((N : Int) + 1)).toNat, (Int.toNat_of_nonneg (Int.emod_nonneg _ (by omega))).symm⟩
      have htn : t ≤ N := by have := Int.emod_lt_of_pos r (show (0 : Int) < (N : Int) + 1 by omega); omega
      rw [ht]
      clear ht
      have hca1 := hca.1
      have htc : t ≤ c6 := by omega
      have hdr := rbs_drop HRE0.out HVL.out (k := t) (c := c6) htn hca1
      simp only [Option.map_some, addr_add] at hdr
      obtain ⟨Ae, hAe⟩ : ∃ Ae, (if c6 = t then some (⟨bE, oE, none⟩ : Addr) else some ⟨bE, oE + t, none⟩) = Ae := ⟨_, rfl⟩
      rw [hAe] at hdr
      have HD18 := hid hdr
      have HT18 := hid (rbs_take HRE0.out (k := t) htn)
      have H1E := hid (rbs_one HRE0.out HVL.out)
      have H1D := hid (show ∀ u ∈ vsE.drop t, u.oneCell' = true from fun u hu => H1E.out u (List.mem_of_mem_drop hu))
      have H1T := hid (show ∀ u ∈ vsE.take t, u.oneCell' = true from fun u hu => H1E.out u (List.mem_of_mem_take hu))
      have HLENT := hid (show ∀ x ∈ lsE.drop t ++ lsE.take t, x.length ≤ 1048576 from fun x hx => (List.mem_append.1 hx).elim (fun h => HLEN.out x (List.mem_of_mem_drop h)) (fun h => HLEN.out x (List.mem_of_mem_take h)))
      have HLENK := hid (show ∀ x ∈ lsE.take t, x.length ≤ 1048576 from fun x hx => HLEN.out x (List.mem_of_mem_take hx))
      have HLT2 := hid (show (lsE.drop t ++ lsE.take t).length = N by rw [List.length_append, List.length_drop, List.length_take, HLE.out]; omega)
      have HLK := hid (show (lsE.take t).length = t by rw [List.length_take, HLE.out]; omega)
      clear hdr
      refine Org.begin [] (fun w' => Below wE.heap.size wE w') [0, 1, 2, 4, 5, 6, 3, 7, 8] (by kernel_rfl) (below_drewN (Below.refl _ _) 1) (fun hS => ?_)
      iterate 6 (refine Org.yes (v := ?_) rfl (by kernel_rfl) (by kernel_rfl) (by kernel_rfl) (by kernel_rfl) (by kernel_rfl) (fun _ _ _ h => h) (by kernel_rfl) (SM.of hS) ?_ ?_; rotate_left; (focus (intro w hSw; (try dsimp only at hSw); refine Pure.val ?_; go_simp; (try with_reducible rfl); done)); try simp only [Act.put, List.setIfInBounds_toArray, List.set_cons_zero, List.set_cons_succ])
      refine Org.go rfl (by kernel_rfl) (by kernel_rfl) (fun K hK => ?_)
      have hc1 := (HD18.out.sl.below hS)
      refine op_append (.const (.slice none 0 0)) (.tmp 64) 34 rfl wE.heap.size 37 ibs (.slice none 0 0) 1 24 Tryd.underlying34 hibs hzb0 hzb1 hzb2 rfl (by omega) (.slice none 0 0) 0 [] rfl (World.ownsRow_nil _ _ _ _) _ _ _ (c6 - t) _ (by go_simp) hc1 H1D.out (N - t) (by omega) (vsE.drop t) (List.nil_append _) (by omega) (by omega) hS.size ?_
      rintro A6q c6q wAq ho6 hg6 _
      have hb6 := below_own hS (World.ownsRow_nil _ _ 37 1) hg6 (Nat.le_refl _) hS.size
      have HO6q := hid ho6
      have HBAq := hid hb6
      clear ho6 hg6 hb6 hc1
      refine hK.out _ _ HBAq.out (fun hS2 => ?_)
      clear hK K hS
      have hS := hS2
      clear hS2
      try simp only [Act.put, List.setIfInBounds_toArray, List.set_cons_zero, List.set_cons_succ]
      refine Org.go rfl (by kernel_rfl) (by kernel_rfl) (fun K hK => ?_)
      have hc2 := (HT18.out.sl.below hS)
      refine op_append (.tmp 65) (.tmp 68) 34 rfl wE.heap.size 37 ibs (.slice none 0 0) 1 24 Tryd.underlying34 hibs hzb0 hzb1 hzb2 rfl (by omega) _ _ _ (by go_simp) HO6q.out _ _ _ (c6) _ (by go_simp) hc2 H1T.out (N) (by omega) _ rfl (by omega) (by omega) hS.size ?_
      rintro A7q c7q wBq ho7 hg7 _
      have hb7 := below_own hS HO6q.out hg7 (Nat.le_refl _) hS.size
      have hnnq : N - t + (t) = N := by omega
      have hrj := rbs_app (A := A7q) ((HD18.out.below hb7).mono hb7.size) ((HT18.out.below hb7).mono hb7.size) (by rw [List.length_drop, HVL.out]) (by rw [hnnq]; exact Sl.own ho7)
      rw [hnnq] at hrj
      have HRJq := hid hrj
      have HBBq := hid hb7
      clear ho7 hg7 hb7 hrj hc2
      refine hK.out _ _ HBBq.out (fun hS2 => ?_)
      clear hK K hS
      have hS := hS2
      clear hS2
      try simp only [Act.put, List.setIfInBounds_toArray, List.set_cons_zero, List.set_cons_succ]
      (refine Org.yes (v := ?_) rfl (by kernel_rfl) (by kernel_rfl) (by kernel_rfl) (by kernel_rfl) (by kernel_rfl) (fun _ _ _ h => h) (by kernel_rfl) (SM.of hS) ?_ ?_; rotate_left; (focus (intro w hSw; (try dsimp only at hSw); refine Pure.val ?_; go_simp; (try with_reducible rfl); done)); try simp only [Act.put, List.setIfInBounds_toArray, List.set_cons_zero, List.set_cons_succ])
      refine Org.done (by kernel_rfl) ?_
      have HSE18 := hid hS
      clear hS
      clear hAe
      go_wp2_with fail
      refine (copies_any _ A7q (vsE.drop t ++ vsE.take t) (lsE.drop t ++ lsE.take t) N c7q wBq HRJq.out (Nat.le_refl _) (by omega) (fun i hi => by
        have hi' : i < (lsE.drop t ++ lsE.take t).length := by rw [HLT2.out]; exact hi
        rw [List.getD_eq_getElem?_getD, List.getElem?_eq_getElem hi', Option.getD_some]
        exact HLENT.out _ (List.getElem_mem hi'))).mono ?_
      rintro e wC ⟨AI, cI, vsI, rfl, hin, hbC⟩
      have HRI := hid (hin.read HLT2.out)
      have HRT := hid ((HRJq.out.below hbC).mono hbC.size)
      have hbEC := HSE18.out.trans (hbC.mono HSE18.out.size)
      have HRE := hid ((HRE0.out.below hbEC).mono hbEC.size)
      have HRK := hid (rbs_take HRE.out (k := t) htn)
      have HBEC := hid hbEC
      clear hin hbC hbEC
      go_upto_region 20 with fail
      refine Org.begin [] (fun w' => Below wC.heap.size wC w') [0, 2, 1, 3, 4, 5, 6, 8, 7, 9, 10, 11, 12, 13, 14, 15, 16, 17, 18, 19, 20, 22, 23, 24, 21, 25, 26, 27, 28, 29, 30, 31] (by kernel_rfl) (below_drewN (Below.refl _ _) 1) (fun hS => ?_)
      iterate 2 (refine Org.yes (v := ?_) rfl (by kernel_rfl) (by kernel_rfl) (by kernel_rfl) (by kernel_rfl) (by kernel_rfl) (fun _ _ _ h => h) (by kernel_rfl) (SM.of hS) ?_ ?_; rotate_left; (focus (intro w hSw; (try dsimp only at hSw); refine Pure.val ?_; go_simp; (try with_reducible rfl); done)); try simp only [Act.put, List.setIfInBounds_toArray, List.set_cons_zero, List.set_cons_succ])
      refine Org.go rfl (by kernel_rfl) (by kernel_rfl) (fun K hK => ?_)
      go_simp
      go_at_call 21
      refine (pjoin_any _ (some ⟨bE, oE, none⟩) N c6 vsE lsE _ ((HRE.out.below hS).mono hS.size) (Nat.le_refl _) (by omega) HLEN.out).mono ?_
      rintro e wja ⟨Aja, nja, cja, xja, rfl, hnj, hcj, hoj, hxj, hbk⟩
      have hxl : xja.length = nja := by rw [← List.length_map (f := MD.m), hxj, hnj]
      have HJa := hid (hoj.read hxl)
      have HXJa := hid hxj
      have HNJa := hid hnj
      clear hnj hcj hoj hxj hxl
      have hS3 := hS.trans (hbk.mono hS.size)
      clear hbk
      go_wp2_with fail
      refine hK.out _ _ hS3 (fun hS2 => ?_)
      clear hS3
      clear hK K hS
      have hS := hS2
      clear hS2
      try simp only [Act.put, List.setIfInBounds_toArray, List.set_cons_zero, List.set_cons_succ]
      refine Org.go rfl (by kernel_rfl) (by kernel_rfl) (fun K hK => ?_)
      go_simp
      go_at_call 22
      refine (rjoin_any _ (some ⟨bE, oE, none⟩) N c6 vsE lsE _ ((HRE.out.below hS).mono hS.size) (Nat.le_refl _) (by omega) HLEN.out).mono ?_
      rintro e wra ⟨Ara, nra, cra, xra, rfl, hnr, hcr, hrr, hxr, hbk⟩
      rw [doc_join _ fit255] at hxr hnr
      have HJqa := hid (HJa.out.up hbk)
      have HRa := hid hrr
      have HXRa := hid hxr
      have HNRa := hid hnr
      clear hnr hcr hrr hxr
      have hS3 := hS.trans (hbk.mono hS.size)
      clear hbk
      go_wp2_with fail
      refine hK.out _ _ hS3 (fun hS2 => ?_)
      clear hS3
      clear hK K hS
      have hS := hS2
      clear hS2
      try simp only [Act.put, List.setIfInBounds_toArray, List.set_cons_zero, List.set_cons_succ]
      refine Org.go rfl (by kernel_rfl) (by kernel_rfl) (fun K hK => ?_)
      go_simp
      go_at_call 20
      have hjl : (joinL lsE).length ≤ 1048576 := Nat.le_trans (joinL_len _) (by rw [HLE.out]; omega)
      refine (manis_any _ Aja Ara nja cja nra cra xja xra true _ HJqa.out HRa.out (Nat.le_refl _) (by rw [HNJa.out]; exact hjl) (by rw [HNRa.out]; exact hjl) ⟨fun _ => by rw [HXJa.out, HXRa.out], fun _ => rfl⟩).mono ?_
      rintro e wma ⟨rfl, hbk⟩
      clear hjl
      have hS3 := hS.trans (hbk.mono hS.size)
      clear hbk
      go_wp2_with fail
      refine hK.out _ _ hS3 (fun hS2 => ?_)
      clear hS3
      clear hK K hS
      have hS := hS2
      clear hS2
      try simp only [Act.put, List.setIfInBounds_toArray, List.set_cons_zero, List.set_cons_succ]
      iterate 3 (refine Org.yes (v := ?_) rfl (by kernel_rfl) (by kernel_rfl) (by kernel_rfl) (by kernel_rfl) (by kernel_rfl) (fun _ _ _ h => h) (by kernel_rfl) (SM.of hS) ?_ ?_; rotate_left; (focus (intro w hSw; (try dsimp only at hSw); refine Pure.val ?_; go_simp; (try with_reducible rfl); done)); try simp only [Act.put, List.setIfInBounds_toArray, List.set_cons_zero, List.set_cons_succ])
      refine Org.go rfl (by kernel_rfl) (by kernel_rfl) (fun K hK => ?_)
      go_simp
      go_at_call 21
      refine (pjoin_any _ AI N cI vsI (lsE.drop t ++ lsE.take t) _ ((HRI.out.below hS).mono hS.size) (Nat.le_refl _) (by omega) HLENT.out).mono ?_
      rintro e wjb ⟨Ajb, njb, cjb, xjb, rfl, hnj, hcj, hoj, hxj, hbk⟩
      have hxl : xjb.length = njb := by rw [← List.length_map (f := MD.m), hxj, hnj]
      have HJb := hid (hoj.read hxl)
      have HXJb := hid hxj
      have HNJb := hid hnj
      clear hnj hcj hoj hxj hxl
      have hS3 := hS.trans (hbk.mono hS.size)
      clear hbk
      go_wp2_with fail
      refine hK.out _ _ hS3 (fun hS2 => ?_)
      clear hS3
      clear hK K hS
      have hS := hS2
      clear hS2
      try simp only [Act.put, List.setIfInBounds_toArray, List.set_cons_zero, List.set_cons_succ]
      refine Org.go rfl (by kernel_rfl) (by kernel_rfl) (fun K hK => ?_)
      go_simp
      go_at_call 22
      refine (rjoin_any _ A7q N c7q _ (lsE.drop t ++ lsE.take t) _ ((HRT.out.below hS).mono hS.size) (Nat.le_refl _) (by omega) HLENT.out).mono ?_
      rintro e wrb ⟨Arb, nrb, crb, xrb, rfl, hnr, hcr, hrr, hxr, hbk⟩
      rw [doc_join _ fit255] at hxr hnr
      have HJqb := hid (HJb.out.up hbk)
      have HRb := hid hrr
      have HXRb := hid hxr
      have HNRb := hid hnr
      clear hnr hcr hrr hxr
      have hS3 := hS.trans (hbk.mono hS.size)
      clear hbk
      go_wp2_with fail
      refine hK.out _ _ hS3 (fun hS2 => ?_)
      clear hS3
      clear hK K hS
      have hS := hS2
      clear hS2
      try simp only [Act.put, List.setIfInBounds_toArray, List.set_cons_zero, List.set_cons_succ]
      refine Org.go rfl (by kernel_rfl) (by kernel_rfl) (fun K hK => ?_)
      go_simp
      go_at_call 20
      have hjl : (joinL (lsE.drop t ++ lsE.take t)).length ≤ 1048576 := Nat.le_trans (joinL_len _) (by rw [HLT2.out]; omega)
      refine (manis_any _ Ajb Arb njb cjb nrb crb xjb xrb true _ HJqb.out HRb.out (Nat.le_refl _) (by rw [HNJb.out]; exact hjl) (by rw [HNRb.out]; exact hjl) ⟨fun _ => by rw [HXJb.out, HXRb.out], fun _ => rfl⟩).mono ?_
      rintro e wmb ⟨rfl, hbk⟩
      clear hjl
      have hS3 := hS.trans (hbk.mono hS.size)
      clear hbk
      go_wp2_with fail
      refine hK.out _ _ hS3 (fun hS2 => ?_)
      clear hS3
      clear hK K hS
      have hS := hS2
      clear hS2
      try simp only [Act.put, List.setIfInBounds_toArray, List.set_cons_zero, List.set_cons_succ]
      iterate 4 (refine Org.yes (v := ?_) rfl (by kernel_rfl) (by kernel_rfl) (by kernel_rfl) (by kernel_rfl) (by kernel_rfl) (fun _ _ _ h => h) (by kernel_rfl) (SM.of hS) ?_ ?_; rotate_left; (focus (intro w hSw; (try dsimp only at hSw); refine Pure.val ?_; go_simp; (try with_reducible rfl); done)); try simp only [Act.put, List.setIfInBounds_toArray, List.set_cons_zero, List.set_cons_succ])
      refine Org.go rfl (by kernel_rfl) (by kernel_rfl) (fun K hK => ?_)
      go_simp
      go_at_call 12
      refine (rows_is true _ AI A7q vsI _ (lsE.drop t ++ lsE.take t) (lsE.drop t ++ lsE.take t) N N cI c7q _ ((HRI.out.below hS).mono hS.size) ((HRT.out.below hS).mono hS.size) (by omega) (by omega) (decide_eq_true rfl)).mono ?_
      rintro e UU ⟨rfl, dd, rfl⟩
      have hS3 := below_drewN hS dd
      go_wp2_with fail
      refine hK.out _ _ hS3 (fun hS2 => ?_)
      clear hS3
      clear hK K hS
      have hS := hS2
      clear hS2
      try simp only [Act.put, List.setIfInBounds_toArray, List.set_cons_zero, List.set_cons_succ]
      iterate 8 (refine Org.yes (v := ?_) rfl (by kernel_rfl) (by kernel_rfl) (by kernel_rfl) (by kernel_rfl) (by kernel_rfl) (fun _ _ _ h => h) (by kernel_rfl) (SM.of hS) ?_ ?_; rotate_left; (focus (intro w hSw; (try dsimp only at hSw); refine Pure.val ?_; go_simp; (try with_reducible rfl); done)); try simp only [Act.put, List.setIfInBounds_toArray, List.set_cons_zero, List.set_cons_succ])
      refine Org.go rfl (by kernel_rfl) (by kernel_rfl) (fun K hK => ?_)
      go_simp
      go_at_call 21
      refine (pjoin_any _ (some ⟨bE, oE, none⟩) t c6 (vsE.take t) (lsE.take t) _ ((HRK.out.below hS).mono hS.size) (Nat.le_refl _) (by omega) HLENK.out).mono ?_
      rintro e wjc ⟨Ajc, njc, cjc, xjc, rfl, hnj, hcj, hoj, hxj, hbk⟩
      have hxl : xjc.length = njc := by rw [← List.length_map (f := MD.m), hxj, hnj]
      have HJc := hid (hoj.read hxl)
      have HXJc := hid hxj
      have HNJc := hid hnj
      clear hnj hcj hoj hxj hxl
      have hS3 := hS.trans (hbk.mono hS.size)
      clear hbk
      go_wp2_with fail
      refine hK.out _ _ hS3 (fun hS2 => ?_)
      clear hS3
      clear hK K hS
      have hS := hS2
      clear hS2
      try simp only [Act.put, List.setIfInBounds_toArray, List.set_cons_zero, List.set_cons_succ]
      refine Org.go rfl (by kernel_rfl) (by kernel_rfl) (fun K hK => ?_)
      go_simp
      go_at_call 22
      refine (rjoin_any _ (some ⟨bE, oE, none⟩) t c6 (vsE.take t) (lsE.take t) _ ((HRK.out.below hS).mono hS.size) (Nat.le_refl _) (by omega) HLENK.out).mono ?_
      rintro e wrc ⟨Arc, nrc, crc, xrc, rfl, hnr, hcr, hrr, hxr, hbk⟩
      rw [doc_join _ fit255] at hxr hnr
      have HJqc := hid (HJc.out.up hbk)
      have HRc := hid hrr
      have HXRc := hid hxr
      have HNRc := hid hnr
      clear hnr hcr hrr hxr
      have hS3 := hS.trans (hbk.mono hS.size)
      clear hbk
      go_wp2_with fail
      refine hK.out _ _ hS3 (fun hS2 => ?_)
      clear hS3
      clear hK K hS
      have hS := hS2
      clear hS2
      try simp only [Act.put, List.setIfInBounds_toArray, List.set_cons_zero, List.set_cons_succ]
      refine Org.go rfl (by kernel_rfl) (by kernel_rfl) (fun K hK => ?_)
      go_simp
      go_at_call 20
      have hjl : (joinL (lsE.take t)).length ≤ 1048576 := Nat.le_trans (joinL_len _) (by rw [HLK.out]; omega)
      refine (manis_any _ Ajc Arc njc cjc nrc crc xjc xrc true _ HJqc.out HRc.out (Nat.le_refl _) (by rw [HNJc.out]; exact hjl) (by rw [HNRc.out]; exact hjl) ⟨fun _ => by rw [HXJc.out, HXRc.out], fun _ => rfl⟩).mono ?_
      rintro e wmc ⟨rfl, hbk⟩
      clear hjl
      have hS3 := hS.trans (hbk.mono hS.size)
      clear hbk
      go_wp2_with fail
      refine hK.out _ _ hS3 (fun hS2 => ?_)
      clear hS3
      clear hK K hS
      have hS := hS2
      clear hS2
      try simp only [Act.put, List.setIfInBounds_toArray, List.set_cons_zero, List.set_cons_succ]
      iterate 2 (refine Org.yes (v := ?_) rfl (by kernel_rfl) (by kernel_rfl) (by kernel_rfl) (by kernel_rfl) (by kernel_rfl) (fun _ _ _ h => h) (by kernel_rfl) (SM.of hS) ?_ ?_; rotate_left; (focus (intro w hSw; (try dsimp only at hSw); refine Pure.val ?_; go_simp; (try with_reducible rfl); done)); try simp only [Act.put, List.setIfInBounds_toArray, List.set_cons_zero, List.set_cons_succ])
      refine Org.go rfl (by kernel_rfl) (by kernel_rfl) (fun K hK => ?_)
      go_simp
      go_at_call 9
      refine (wakes20 _).mono ?_
      rintro e wW ⟨rfl, hbk⟩
      have hS3 := hS.trans (hbk.mono hS.size)
      clear hbk
      go_wp2_with fail
      refine hK.out _ _ hS3 (fun hS2 => ?_)
      clear hS3
      clear hK K hS
      have hS := hS2
      clear hS2
      try simp only [Act.put, List.setIfInBounds_toArray, List.set_cons_zero, List.set_cons_succ]
      iterate 2 (refine Org.yes (v := ?_) rfl (by kernel_rfl) (by kernel_rfl) (by kernel_rfl) (by kernel_rfl) (by kernel_rfl) (fun _ _ _ h => h) (by kernel_rfl) (SM.of hS) ?_ ?_; rotate_left; (focus (intro w hSw; (try dsimp only at hSw); refine Pure.val ?_; go_simp; (try with_reducible rfl); done)); try simp only [Act.put, List.setIfInBounds_toArray, List.set_cons_zero, List.set_cons_succ])
      refine Org.done (by kernel_rfl) ?_
      have HSE20 := hid hS
      clear hS
      have h2E := HSE.out.trans ((HBEC.out.trans (HSE20.out.mono HBEC.out.size)).mono HSE.out.size)
      have hbe := HB02.out.trans (h2E.mono HB02.out.size)
      go_wp2_with fail
      go_ret
      refine ⟨?_, hbe⟩
      go_simp
end Go.Proofs.YtbpimfhachbcdaaDoor

