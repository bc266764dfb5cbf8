/- Wakes23 -/
import Derived.Test.YtnknjeipfjdjoaaBScanRises02
import Derived.Test.YtnknjeipfjdjoaaBScanRises12
import Derived.Test.YtnknjeipfjdjoaaBScanRises34
import Derived.Test.YtnknjeipfjdjoaaBScanRises43
set_option maxRecDepth 20000
set_option linter.unusedSimpArgs false
set_option linter.unusedVariables false
namespace Go.Proofs.Ytnknjeipfjdjoaa
open Go.RowKit Wells
theorem keep0 : (keepL mani0 []).length = 1 := by
  have h := mani0_len
  unfold keepL
  rw [List.length_append, pagesL_len]
  unfold pageN
  rw [h]
  rfl
theorem whole0 : wholeM mani0 [] = false := by
  have h := mani0_len
  have hN : pageN (pack mani0) = 1 := by unfold pageN; rw [h]
  unfold wholeM pagesL
  rw [hN, mani0_may]
  rfl
set_option maxRecDepth 20000 in
set_option maxHeartbeats 4000000 in
theorem wakes23 (w : World) : Calls Try.prog 6 #[] w fun e w' => e = .returned (.bool true) ∧ Below w.heap.size w w' := by
  have HKL := hid keep0
  have HWH := hid whole0
  have hr0 := Row.new w 3 #[.int .i64 3]
  have hb1 : Below w.heap.size w (w.alloc (.cells #[.int .i64 3] 3)) := (Below.refl _ _).alloc (Nat.le_refl _) _
  have hr1 := Row.new (w.alloc (.cells #[.int .i64 3] 3)) 27 #[.int .i64 1, .int .i64 0, .int .i64 1, .int .i64 1, .int .i64 1, .int .i64 0, .slice (some ⟨w.heap.size, 0, none⟩) 1 1, .slice none 0 0]
  have hr0' := hr0.alloc (.cells #[.int .i64 1, .int .i64 0, .int .i64 1, .int .i64 1, .int .i64 1, .int .i64 0, .slice (some ⟨w.heap.size, 0, none⟩) 1 1, .slice none 0 0] 27)
  have hb2 := hb1.alloc hb1.size (.cells #[.int .i64 1, .int .i64 0, .int .i64 1, .int .i64 1, .int .i64 1, .int .i64 0, .slice (some ⟨w.heap.size, 0, none⟩) 1 1, .slice none 0 0] 27)
  have hs0 := hr0'.sl (B := w.heap.size + 1) (m := 1) (by omega) (by simp)
  have hrm := mani0_rm (A := none) (c := 1) hs0 (by omega)
  have hg : (w.alloc (.cells #[.int .i64 3] 3)).heap.size = w.heap.size + 1 := by simp
  have hz2 : w.heap.size + 1 ≤ ((w.alloc (.cells #[.int .i64 3] 3)).alloc (.cells #[.int .i64 1, .int .i64 0, .int .i64 1, .int .i64 1, .int .i64 1, .int .i64 0, .slice (some ⟨w.heap.size, 0, none⟩) 1 1, .slice none 0 0] 27)).heap.size := by simp
  rw [hg] at hr1
  clear hr0 hb1 hr0' hs0 hg
  go_enter Try.func6, Try.ntmps6
  go_wp2_with fail
  generalize (w.alloc (.cells #[.int .i64 3] 3)).alloc (.cells #[.int .i64 1, .int .i64 0, .int .i64 1, .int .i64 1, .int .i64 1, .int .i64 0, .slice (some ⟨w.heap.size, 0, none⟩) 1 1, .slice none 0 0] 27) = w2 at *
  refine (pnew_any w2).mono ?_
  rintro e w3 ⟨pg, rfl, hpg, hp1, hb3⟩
  have hrm3 := hrm.below (hb3.mono hz2)
  have hr3 := hr1.below hb3 hr1.lt
  have hz3 := Nat.le_trans hz2 hb3.size
  have hb03 := hb2.trans (hb3.mono hb2.size)
  clear hrm hr1
  go_wp2_with fail
  refine (dnew_any 3 pg Pw.new w3 (by omega) (by omega) hp1).mono ?_
  rintro e w4 ⟨g, rfl, hg, hd4, hb4⟩
  have HD := hid hd4
  have HM := hid (hrm3.below (hb4.mono hz3))
  have HX := hid (hr3.below hb4 hr3.lt)
  have HZ := hid (Nat.le_trans hz3 hb4.size)
  have HB4 := hid (hb03.trans (hb4.mono hb03.size))
  clear hd4 hrm3 hr3 hb4 hb03 hb3 hb2 hp1 hz2 hz3
  have hr := HX.out
  have x0 := hr.cell 0
  have x1 := hr.cell 1
  have x2 := hr.cell 2
  have x3 := hr.cell 3
  have x4 := hr.cell 4
  have x5 := hr.cell 5
  have x6 := hr.cell 6
  have x7 := hr.cell 7
  simp only [List.getElem?_cons_succ, List.getElem?_cons_zero] at x0 x1 x2 x3 x4 x5 x6 x7
  clear hr
  go_wp2_with fail
  refine (records_any _ g pg _ 0 mani0 (w.heap.size + 1) _ _ _ _ _ _ _ w4 HD.out (DOk.new_ (by omega)) HM.out HZ.out (by omega)).mono ?_
  rintro e wz ⟨A1, n1, c1, xs1, rfl, hn1, ho1, -, hb1⟩
  have hn0 : n1 = 0 := hn1
  subst hn0
  have HB1 := hid hb1
  clear ho1 hb1 hn1
  clear x0 x1 x2 x3 x4 x5 x6 x7
  have hr := HX.out.below HB1.out HX.out.lt
  have x0 := hr.cell 0
  have x1 := hr.cell 1
  have x2 := hr.cell 2
  have x3 := hr.cell 3
  have x4 := hr.cell 4
  have x5 := hr.cell 5
  have x6 := hr.cell 6
  have x7 := hr.cell 7
  simp only [List.getElem?_cons_succ, List.getElem?_cons_zero] at x0 x1 x2 x3 x4 x5 x6 x7
  clear hr
  go_wp2_with fail
  refine (keep_any _ g pg _ 0 mani0 (w.heap.size + 1) _ _ _ _ _ _ _ wz (HD.out.new_ HB1.out) (DOk.new_ (by omega)) (HM.out.below (HB1.out.mono HZ.out)) (Nat.le_trans HZ.out HB1.out.size) (by omega) mani0_64 mani0_nm).mono ?_
  rintro e wy ⟨A2, c2, vs2, rfl, ho2, hb2⟩
  rw [show (keepL mani0 (Dr.new Pw.new 3).L).length = 1 from HKL.out]
  have HB2 := hid (HB1.out.trans (hb2.mono HB1.out.size))
  clear ho2 hb2
  clear x0 x1 x2 x3 x4 x5 x6 x7
  have hr := HX.out.below HB2.out HX.out.lt
  have x0 := hr.cell 0
  have x1 := hr.cell 1
  have x2 := hr.cell 2
  have x3 := hr.cell 3
  have x4 := hr.cell 4
  have x5 := hr.cell 5
  have x6 := hr.cell 6
  have x7 := hr.cell 7
  simp only [List.getElem?_cons_succ, List.getElem?_cons_zero] at x0 x1 x2 x3 x4 x5 x6 x7
  clear hr
  go_wp2_with fail
  refine (whole_any _ g pg _ 0 mani0 (w.heap.size + 1) _ _ _ _ _ _ _ false wy (HD.out.new_ HB2.out) (DOk.new_ (by omega)) (HM.out.below (HB2.out.mono HZ.out)) (Nat.le_trans HZ.out HB2.out.size) mani0_64 mani0_nm HWH.out).mono ?_
  rintro e wx ⟨rfl, hb3⟩
  have HB3 := hid (HB2.out.trans (hb3.mono HB2.out.size))
  clear hb3
  clear x0 x1 x2 x3 x4 x5 x6 x7
  go_wp2_with fail
  go_ret
  exact ⟨rfl, HB4.out.trans (HB3.out.mono HB4.out.size)⟩
end Go.Proofs.Ytnknjeipfjdjoaa

