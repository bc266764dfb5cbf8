/- PlayRec Bent -/
import Derived.Deep.DeepCutAuto
import Derived.Deep.CutBlock
import Derived.BigGuardPart
import Derived.Test.YtbpimfhachbcdaaDoorBPageSplits00
import Derived.Test.YtbpimfhachbcdaaDoorBPageSplits02
import Derived.Test.YtbpimfhachbcdaaDoorBPageSplits07
import Derived.Test.YtbpimfhachbcdaaDoorBPageSplits14
import Derived.Test.YtbpimfhachbcdaaDoorBPageSplits20
import Derived.Test.YtbpimfhachbcdaaDoorBPageSplits28
import Derived.Test.YtbpimfhachbcdaaDoorBPageSplits31
import Derived.Test.YtbpimfhachbcdaaDoorBPageSplits33
import Derived.Test.YtbpimfhachbcdaaDoorBPageSplits35
set_option maxRecDepth 20000
set_option linter.unusedSimpArgs false
set_option linter.unusedVariables false
set_option linter.unusedSectionVars false
namespace Wells
open Go Go.RowKit
def ZR : List Value := [.int .i64 0, .int .i64 0, .int .i64 0, .int .i64 0, .int .i64 0, .int .i64 0, .int .u32 0, .slice none 0 0]
section
variable {w w0 : World} {g : Nat}
end
end Wells
namespace Go.Proofs.YtbpimfhachbcdaaDoor
open Go.RowKit Wells
/-- the record under way -/
structure PQ (w0 w : World) (g8 : Nat) (mc : List Value) (q : Rec) (A : Option Addr) (nr c : Nat) : Prop where
  m : Row w w0.heap.size 27 mc
  z : Row w (w0.heap.size + 1) 64 ZR
  r : Row w g8 64 (RecCells q A nr c)
  d : OB w0.heap.size w (.slice A nr c) q.D
  be : Below w0.heap.size w0 w
  ge : w0.heap.size ≤ g8
  ne : w0.heap.size + 1 ≠ g8
  may : q.may = true
  len : q.D.length = nr
section
variable {w0 w w' : World} {g8 nr c : Nat} {mc : List Value} {q q' : Rec} {A : Option Addr}
theorem PQ.below (h : PQ w0 w g8 mc q A nr c) (hb : Below w.heap.size w w') : PQ w0 w' g8 mc q A nr c :=
  ⟨h.m.below hb h.m.lt, h.z.below hb h.z.lt, h.r.below hb h.r.lt, h.d.below hb, h.be.trans (hb.mono h.be.size), h.ge, h.ne, h.may, h.len⟩
end
end Go.Proofs.YtbpimfhachbcdaaDoor

namespace Wells
open Go Go.RowKit
theorem strB_b (b : Byte) : (⟨#[98]⟩ : ByteArray) ++ strB [b] = strB [98#8, b] := by
  unfold strB
  apply ByteArray.ext
  simp
theorem tdiv_bd16 {x : Int} (h : -9223372036854775808 ≤ x ∧ x ≤ 9223372036854775807) : -9223372036854775808 ≤ x.tdiv 16 ∧ x.tdiv 16 ≤ 9223372036854775807 := by
  have e := Int.tdiv_eq_ediv (a := x) (b := 16)
  have e1 : Int.sign 16 = 1 := rfl
  rw [e1] at e
  rw [e]
  split <;> omega
end Wells
namespace Go.Proofs.YtbpimfhachbcdaaDoor
open Go.RowKit Wells
/-- what 'Bent' leaves -/
def BentR (w : World) (e : Ending) (w' : World) : Prop :=
  ∃ (m : Mani) (Ad : Option Addr) (nd cd : Nat) (Ao : Option Addr) (no co : Nat) (ts : List Value), e = .returned (m.val (.slice Ad nd cd) (.slice Ao no co)) ∧ OM w.heap.size w' m Ad nd cd Ao no co ts ∧ Lt 2000 m ∧ Below w.heap.size w w'
set_option maxRecDepth 20000 in
set_option maxHeartbeats 16000000 in
theorem bent_any (m : Mani) (B : Nat) (Ad Ao : Option Addr) (nd cd no co : Nat) (ts : List Value) (what v : Int) (w : World) (h : RM w B m Ad nd cd Ao no co ts) (hB : B ≤ w.heap.size) (hlt : Lt 1000 m) (hk : -9223372036854775808 ≤ what ∧ what ≤ 9223372036854775807) (hv : -9223372036854775808 ≤ v ∧ v ≤ 9223372036854775807) :
    Calls Tryd.prog 11 #[m.val (.slice Ad nd cd) (.slice Ao no co), .int .i64 what, .int .i64 v] w (BentR w) := by
  obtain ⟨i0, hi, hz0, hz1, hz2⟩ := info_parts infoI2
  obtain ⟨i1, hi', hz0', hz1', hz2'⟩ := info_parts infoE
  have HR := hid h
  have HLT := hid hlt
  have hnd : nd ≤ 1000 := by rw [← h.dl]; exact hlt.dl
  have hno : no ≤ 1000 := by rw [← h.o.len]; exact hlt.ol
  have hx0 := Row.new w 27 #[.int .i64 m.seq, .int .i64 m.next, .int .i64 m.P.K, .int .i64 m.P.H, .int .i64 m.P.S, .int .i64 m.extra, .slice Ad nd cd, .slice Ao no co]
  have hx1 := hx0.alloc (.cells #[.int .i64 0, .int .i64 0, .int .i64 0, .int .i64 0, .int .i64 0, .int .i64 0, .slice none 0 0, .slice none 0 0] 27)
  have hb1 : Below w.heap.size w (w.alloc (.cells #[.int .i64 m.seq, .int .i64 m.next, .int .i64 m.P.K, .int .i64 m.P.H, .int .i64 m.P.S, .int .i64 m.extra, .slice Ad nd cd, .slice Ao no co] 27)) := (Below.refl _ _).alloc (Nat.le_refl _) _
  have hq1 := Row.new (w.alloc (.cells #[.int .i64 m.seq, .int .i64 m.next, .int .i64 m.P.K, .int .i64 m.P.H, .int .i64 m.P.S, .int .i64 m.extra, .slice Ad nd cd, .slice Ao no co] 27)) 27 #[.int .i64 0, .int .i64 0, .int .i64 0, .int .i64 0, .int .i64 0, .int .i64 0, .slice none 0 0, .slice none 0 0]
  have hb2 := hb1.alloc hb1.size (.cells #[.int .i64 0, .int .i64 0, .int .i64 0, .int .i64 0, .int .i64 0, .int .i64 0, .slice none 0 0, .slice none 0 0] 27)
  have hgs : (w.alloc (.cells #[.int .i64 m.seq, .int .i64 m.next, .int .i64 m.P.K, .int .i64 m.P.H, .int .i64 m.P.S, .int .i64 m.extra, .slice Ad nd cd, .slice Ao no co] 27)).heap.size = w.heap.size + 1 := by simp
  rw [hgs] at hq1
  have HB2 := hid hb2
  have HX1 := hid hx1
  have HQ1 := hid hq1
  have x0 := hx1.cell 0
  have x1 := hx1.cell 1
  have x2 := hx1.cell 2
  have x3 := hx1.cell 3
  have x4 := hx1.cell 4
  have x5 := hx1.cell 5
  have x6 := hx1.cell 6
  have x7 := hx1.cell 7
  simp only [List.getElem?_cons_succ, List.getElem?_cons_zero] at x0 x1 x2 x3 x4 x5 x6 x7
  clear hx0 hx1 hb1 hb2 hq1 hgs h hlt
  unfold Mani.val
  go_enter Tryd.func11, Tryd.ntmps11
  go_wp2_with fail
  generalize (w.alloc (.cells #[.int .i64 m.seq, .int .i64 m.next, .int .i64 m.P.K, .int .i64 m.P.H, .int .i64 m.P.S, .int .i64 m.extra, .slice Ad nd cd, .slice Ao no co] 27)).alloc (.cells #[.int .i64 0, .int .i64 0, .int .i64 0, .int .i64 0, .int .i64 0, .int .i64 0, .slice none 0 0, .slice none 0 0] 27) = w2 at *
  refine (copy_any m B Ad Ao nd cd no co ts w2 (HR.out.below (HB2.out.mono hB)) (Nat.le_trans hB HB2.out.size) (by omega) (by omega) (fun e he => Nat.le_trans (HLT.out.tr e he) (by omega))).mono ?_
  rintro e w3 ⟨Ad1, nd1, cd1, Ao1, no1, co1, ts1, he, hom, hdj, hb3⟩
  unfold Mani.val at he
  subst he
  obtain rfl : nd = nd1 := by rw [← HR.out.dl, hom.dl]
  obtain rfl : no = no1 := by rw [← HR.out.o.len, hom.ol]
  have hx3 := HX1.out.below hb3 HX1.out.lt
  have hq3 := HQ1.out.below hb3 HQ1.out.lt
  have hbe3 := HB2.out.trans (hb3.mono HB2.out.size)
  have y0 := hx3.cell 0
  have y1 := hx3.cell 1
  have y2 := hx3.cell 2
  have y3 := hx3.cell 3
  have y4 := hx3.cell 4
  have y5 := hx3.cell 5
  have y6 := hx3.cell 6
  have y7 := hx3.cell 7
  simp only [List.getElem?_cons_succ, List.getElem?_cons_zero] at y0 y1 y2 y3 y4 y5 y6 y7
  have f0 := hx3.frozen 0
  have f1 := hx3.frozen 1
  have f2 := hx3.frozen 2
  have f3 := hx3.frozen 3
  have f4 := hx3.frozen 4
  have f5 := hx3.frozen 5
  have f6 := hx3.frozen 6
  have f7 := hx3.frozen 7
  have hg8 := grown8s w3 w.heap.size (.int .i64 m.seq) (.int .i64 m.next) (.int .i64 m.P.K) (.int .i64 m.P.H) (.int .i64 m.P.S) (.int .i64 m.extra) (.slice Ad1 nd cd1) (.slice Ao1 no co1)
  have hEB : EB w ((((((((w3.setCell ⟨w.heap.size, 0, none⟩ (.int .i64 m.seq)).setCell ⟨w.heap.size, 1, none⟩ (.int .i64 m.next)).setCell ⟨w.heap.size, 2, none⟩ (.int .i64 m.P.K)).setCell ⟨w.heap.size, 3, none⟩ (.int .i64 m.P.H)).setCell ⟨w.heap.size, 4, none⟩ (.int .i64 m.P.S)).setCell ⟨w.heap.size, 5, none⟩ (.int .i64 m.extra)).setCell ⟨w.heap.size, 6, none⟩ (.slice Ad1 nd cd1)).setCell ⟨w.heap.size, 7, none⟩ (.slice Ao1 no co1)) w.heap.size (w.heap.size + 1) w2.heap.size m Ad1 nd cd1 Ao1 no co1 ts1 :=
    ⟨⟨row8m hx3 (.int .i64 m.seq) (.int .i64 m.next) (.int .i64 m.P.K) (.int .i64 m.P.H) (.int .i64 m.P.S) (.int .i64 m.extra) (.slice Ad1 nd cd1) (.slice Ao1 no co1), hom.other hg8 hx3 (by decide) (by decide), hdj⟩, hq3.grown hg8 (fun e => by injection e with e; omega), hbe3.grown hg8 hbe3.size (fun j hj => by injection hj with hj; omega), HB2.out.size, Nat.le_refl _, by omega, HLT.out⟩
  have HEB := hid hEB
  have HN4 := hid (Nat.le_trans hb3.size hg8.size)
  clear hEB hg8 hx3 hq3 hbe3 hom hdj hb3 x0 x1 x2 x3 x4 x5 x6 x7 HX1 HQ1
  skip
  go_upto_if 14 with fail
  clear y0 y1 y2 y3 y4 y5 y6 y7 f0 f1 f2 f3 f4 f5 f6 f7
  generalize ((((((((w3.setCell ⟨w.heap.size, 0, none⟩ (.int .i64 m.seq)).setCell ⟨w.heap.size, 1, none⟩ (.int .i64 m.next)).setCell ⟨w.heap.size, 2, none⟩ (.int .i64 m.P.K)).setCell ⟨w.heap.size, 3, none⟩ (.int .i64 m.P.H)).setCell ⟨w.heap.size, 4, none⟩ (.int .i64 m.P.S)).setCell ⟨w.heap.size, 5, none⟩ (.int .i64 m.extra)).setCell ⟨w.heap.size, 6, none⟩ (.slice Ad1 nd cd1)).setCell ⟨w.heap.size, 7, none⟩ (.slice Ao1 no co1)) = w4 at *
  have HE7 := HEB.out.em.x.cell 7
  simp only [List.getElem?_cons_succ, List.getElem?_cons_zero] at HE7
  go_cut [7] (fun s7 wx => ∃ k : Nat, s7 = .int .i64 (k : Int) ∧ (0 < no → k < no) ∧ w4 = wx)
  case first =>
    by_cases hn0 : 0 < no
    · have hb16 := tdiv_bd16 hk
      have e16 : IntKind.i64.wrap (what.tdiv 16) = what.tdiv 16 := by rw [IntKind.wrap_i64]; omega
      go_wp2_with fail
      refine (within_any (what.tdiv 16) no _ hb16.1 hb16.2 (by omega) (by omega)).mono ?_
      rintro e w5 ⟨rfl, rfl⟩
      obtain ⟨k, hk1, hkn⟩ : ∃ k : Nat, (what.tdiv 16) % (no : Int) = (k : Int) ∧ k < no := by
        have h1 := Int.emod_nonneg (what.tdiv 16) (show (no : Int) ≠ 0 by omega)
        have h2 := Int.emod_lt_of_pos (what.tdiv 16) (show (0 : Int) < no by omega)
        exact ⟨((what.tdiv 16) % (no : Int)).toNat, by omega, by omega⟩
      rw [hk1]
      clear hk1 e16
      go_wp2_with fail
      go_meet
      exact ⟨k, rfl, fun _ => hkn, rfl⟩
    · go_wp2_with fail
      go_meet
      exact ⟨0, rfl, fun h => absurd h hn0, rfl⟩
  case rest =>
  obtain ⟨k, rfl, hkn, rfl⟩ := hcut
  skip
  go_upto_region 5 with fail
  obtain ⟨q, hq⟩ : ∃ q, what % 16 = q := ⟨_, rfl⟩
  have hqb : 0 ≤ q ∧ q < 16 := by omega
  go_wp2_with fail
  refine (within_any what 16 _ hk.1 hk.2 (by omega) (by omega)).mono ?_
  rintro e w5 ⟨rfl, rfl⟩
  rw [hq]
  clear hq
  go_upto_block 0 with fail
  have hNs : w2.heap.size ≤ w4.heap.size := HN4.out
  go_cut [] (fun wx => ∃ (m' : Mani) (Ad' : Option Addr) (nd' cd' : Nat) (Ao' : Option Addr) (no' co' : Nat) (ts' : List Value), BS w wx w.heap.size (w.heap.size + 1) m' Ad' nd' cd' Ao' no' co' ts')
  case first =>
    by_cases hq9 : q < 9
    · have hq8 : q = 0 ∨ q = 1 ∨ q = 2 ∨ q = 3 ∨ q = 4 ∨ q = 5 ∨ q = 6 ∨ q = 7 ∨ q = 8 := by omega
      clear hq9 hqb HE7 hkn
      rcases hq8 with rfl | rfl | rfl | rfl | rfl | rfl | rfl | rfl | rfl
      · as_aux_lemma =>
        have kx := HEB.out.em.x.cell 0
        have fx := HEB.out.em.x.frozen 0
        simp only [List.getElem?_cons_succ, List.getElem?_cons_zero] at kx
        have hF := HEB.out.setM 0 (.int .i64 v) { m with seq := v } rfl rfl rfl ⟨hv, HLT.out.m64.next, HLT.out.m64.K, HLT.out.m64.H, HLT.out.m64.S, HLT.out.m64.extra⟩
        have HF := hid hF
        clear hF
        go_wp2_with fail
        go_meet
        exact ⟨_, _, _, _, _, _, _, _, HF.out⟩
      · as_aux_lemma =>
        have kx := HEB.out.em.x.cell 1
        have fx := HEB.out.em.x.frozen 1
        simp only [List.getElem?_cons_succ, List.getElem?_cons_zero] at kx
        have hF := HEB.out.setM 1 (.int .i64 v) { m with next := v } rfl rfl rfl ⟨HLT.out.m64.seq, hv, HLT.out.m64.K, HLT.out.m64.H, HLT.out.m64.S, HLT.out.m64.extra⟩
        have HF := hid hF
        clear hF
        go_wp2_with fail
        go_meet
        exact ⟨_, _, _, _, _, _, _, _, HF.out⟩
      · as_aux_lemma =>
        have kx := HEB.out.em.x.cell 2
        have fx := HEB.out.em.x.frozen 2
        simp only [List.getElem?_cons_succ, List.getElem?_cons_zero] at kx
        have hF := HEB.out.setM 2 (.int .i64 v) { m with P := { m.P with K := v } } rfl rfl rfl ⟨HLT.out.m64.seq, HLT.out.m64.next, hv, HLT.out.m64.H, HLT.out.m64.S, HLT.out.m64.extra⟩
        have HF := hid hF
        clear hF
        go_wp2_with fail
        go_meet
        exact ⟨_, _, _, _, _, _, _, _, HF.out⟩
      · as_aux_lemma =>
        have kx := HEB.out.em.x.cell 3
        have fx := HEB.out.em.x.frozen 3
        simp only [List.getElem?_cons_succ, List.getElem?_cons_zero] at kx
        have hF := HEB.out.setM 3 (.int .i64 v) { m with P := { m.P with H := v } } rfl rfl rfl ⟨HLT.out.m64.seq, HLT.out.m64.next, HLT.out.m64.K, hv, HLT.out.m64.S, HLT.out.m64.extra⟩
        have HF := hid hF
        clear hF
        go_wp2_with fail
        go_meet
        exact ⟨_, _, _, _, _, _, _, _, HF.out⟩
      · as_aux_lemma =>
        have kx := HEB.out.em.x.cell 4
        have fx := HEB.out.em.x.frozen 4
        simp only [List.getElem?_cons_succ, List.getElem?_cons_zero] at kx
        have hF := HEB.out.setM 4 (.int .i64 v) { m with P := { m.P with S := v } } rfl rfl rfl ⟨HLT.out.m64.seq, HLT.out.m64.next, HLT.out.m64.K, HLT.out.m64.H, hv, HLT.out.m64.extra⟩
        have HF := hid hF
        clear hF
        go_wp2_with fail
        go_meet
        exact ⟨_, _, _, _, _, _, _, _, HF.out⟩
      · as_aux_lemma =>
        have kx := HEB.out.em.x.cell 5
        have fx := HEB.out.em.x.frozen 5
        simp only [List.getElem?_cons_succ, List.getElem?_cons_zero] at kx
        have hF := HEB.out.setM 5 (.int .i64 v) { m with extra := v } rfl rfl rfl ⟨HLT.out.m64.seq, HLT.out.m64.next, HLT.out.m64.K, HLT.out.m64.H, HLT.out.m64.S, hv⟩
        have HF := hid hF
        clear hF
        go_wp2_with fail
        go_meet
        exact ⟨_, _, _, _, _, _, _, _, HF.out⟩
      · as_aux_lemma =>
        have hd := HEB.out.em.o.d
        have HD := hid hd
        have k6 := HEB.out.em.x.cell 6
        simp only [List.getElem?_cons_succ, List.getElem?_cons_zero] at k6
        clear hd
        go_wp2_with (at_builtin; go_must (refine wpl_append rfl (.tmp 70) (.tmp 72) 24 rfl w2.heap.size 3 i0 (.int .i64 0) 1 8 Tryd.underlying24 hi hz0 hz1 hz2 rfl (by omega) (.slice Ad1 nd cd1) nd (m.drives.map iv) rfl (HD.out.alloc _) _ _ 1 1 [.int .i64 v] rfl (Sl.fresh w4 [.int .i64 v] 3 (0, 0) 1 rfl) (by simp [Value.oneCell']) (nd + 1) rfl ((m.drives ++ [v]).map iv) (by simp [iv]) (by omega) (by omega) (by simp; omega) ?_); intro A8 c8 w8 o8 g8 _; have X8 := HEB.out.growD (z := v) ((Below.refl _ _).alloc (Nat.le_refl _) _) g8 o8 hv; have hx8 := X8.1.frozen 6; have kx8 := X8.1.cell 6; simp only [List.getElem?_cons_succ, List.getElem?_cons_zero] at kx8; have HX8 := hid X8.2; clear X8 o8 g8)
        go_meet
        exact ⟨_, _, _, _, _, _, _, _, HX8.out⟩
      · as_aux_lemma =>
        obtain ⟨y, hy⟩ : ∃ y, v % 20 = y := ⟨_, rfl⟩
        have HY := hid hy
        have hyb : 0 ≤ y ∧ y < 20 := by omega
        clear hy
        have kx := HEB.out.em.x.cell 1
        have fx := HEB.out.em.x.frozen 1
        simp only [List.getElem?_cons_succ, List.getElem?_cons_zero] at kx
        have hF := HEB.out.setM 1 (.int .i64 y) { m with next := y } rfl rfl rfl ⟨HLT.out.m64.seq, (show i64 y by unfold i64; omega), HLT.out.m64.K, HLT.out.m64.H, HLT.out.m64.S, HLT.out.m64.extra⟩
        have HF := hid hF
        clear hF
        go_wp2_with fail
        refine (within_any v 20 _ hv.1 hv.2 (by omega) (by omega)).mono ?_
        rintro e w9 ⟨rfl, rfl⟩
        rw [HY.out]
        go_wp2_with fail
        go_meet
        exact ⟨_, _, _, _, _, _, _, _, HF.out⟩
      · as_aux_lemma =>
        obtain ⟨y, hy⟩ : ∃ y, v % 4 = y := ⟨_, rfl⟩
        have HY := hid hy
        have hyb : 0 ≤ y ∧ y < 4 := by omega
        clear hy
        have e86 : IntKind.i64.wrap (16777215 + y) = 16777215 + y := by rw [IntKind.wrap_i64]; omega
        have kx := HEB.out.em.x.cell 1
        have fx := HEB.out.em.x.frozen 1
        simp only [List.getElem?_cons_succ, List.getElem?_cons_zero] at kx
        have hF := HEB.out.setM 1 (.int .i64 (16777215 + y)) { m with next := (16777215 + y) } rfl rfl rfl ⟨HLT.out.m64.seq, (show i64 (16777215 + y) by unfold i64; omega), HLT.out.m64.K, HLT.out.m64.H, HLT.out.m64.S, HLT.out.m64.extra⟩
        have HF := hid hF
        clear hF
        go_wp2_with fail
        refine (within_any v 4 _ hv.1 hv.2 (by omega) (by omega)).mono ?_
        rintro e w9 ⟨rfl, rfl⟩
        rw [HY.out]
        go_wp2_with fail
        go_meet
        exact ⟨_, _, _, _, _, _, _, _, HF.out⟩
    · have hq15 : q = 9 ∨ q = 10 ∨ q = 11 ∨ q = 12 ∨ q = 13 ∨ q = 14 ∨ q = 15 := by omega
      clear hq9 hqb
      obtain ⟨tb, htb⟩ : ∃ t, (((no : Nat) : Int) == 0) = t := ⟨_, rfl⟩
      cases tb with
      | true =>
        clear hkn
        rcases hq15 with rfl | rfl | rfl | rfl | rfl | rfl | rfl
        · as_aux_lemma =>
          have how := HEB.out.em.o.o.own
          rw [HEB.out.em.o.ol] at how
          have HOW := hid how
          clear how
          go_wp2_with (at_builtin; go_must (refine wpl_append rfl (.tmp 94) (.tmp 97) 25 rfl w2.heap.size 53 i1 (.agg #[.string ⟨#[]⟩, .int .i64 0, .int .i64 0, .slice none 0 0]) 4 56 Tryd.underlying25 hi' hz0' hz1' hz2' rfl (by omega) (.slice Ao1 no co1) no (entsC m.objs ts1) rfl (HOW.out.alloc _) _ _ 1 1 [.string ⟨#[120]⟩, .int .i64 0, .int .i64 v, .slice none 0 0] rfl (Sl.fresh4m _ _ _ rfl) (by simp [Value.oneCell']) (no + 1) rfl (entsC m.objs ts1 ++ (Ent.mk [120#8] 0 v []).cells (.slice none 0 0)) rfl (by omega) (by omega) (by simp; omega) ?_); intro A8 c8 w8 o8 g8 _; have X8 := HEB.out.pushE (x := ⟨[120#8], 0, v, []⟩) (At := none) (ct := 0) ((Below.refl _ _).alloc (Nat.le_refl _) _) g8 o8 (World.ownsRow_nil _ _ _ _) ⟨(show i64 0 by unfold i64; omega), hv, fun z hz => by cases hz⟩ (by show 1 ≤ 2000; omega) (by show 0 ≤ 2000; omega); have hx8 := X8.1.frozen 7; have kx8 := X8.1.cell 7; simp only [List.getElem?_cons_succ, List.getElem?_cons_zero] at kx8; have HX8 := hid X8.2; clear X8 o8 g8)
          go_meet
          exact ⟨_, _, _, _, _, _, _, _, HX8.out⟩
        · as_aux_lemma =>
          have how := HEB.out.em.o.o.own
          rw [HEB.out.em.o.ol] at how
          have HOW := hid how
          clear how
          go_wp2_with (at_builtin; go_must (refine wpl_append rfl (.tmp 94) (.tmp 97) 25 rfl w2.heap.size 53 i1 (.agg #[.string ⟨#[]⟩, .int .i64 0, .int .i64 0, .slice none 0 0]) 4 56 Tryd.underlying25 hi' hz0' hz1' hz2' rfl (by omega) (.slice Ao1 no co1) no (entsC m.objs ts1) rfl (HOW.out.alloc _) _ _ 1 1 [.string ⟨#[120]⟩, .int .i64 0, .int .i64 v, .slice none 0 0] rfl (Sl.fresh4m _ _ _ rfl) (by simp [Value.oneCell']) (no + 1) rfl (entsC m.objs ts1 ++ (Ent.mk [120#8] 0 v []).cells (.slice none 0 0)) rfl (by omega) (by omega) (by simp; omega) ?_); intro A8 c8 w8 o8 g8 _; have X8 := HEB.out.pushE (x := ⟨[120#8], 0, v, []⟩) (At := none) (ct := 0) ((Below.refl _ _).alloc (Nat.le_refl _) _) g8 o8 (World.ownsRow_nil _ _ _ _) ⟨(show i64 0 by unfold i64; omega), hv, fun z hz => by cases hz⟩ (by show 1 ≤ 2000; omega) (by show 0 ≤ 2000; omega); have hx8 := X8.1.frozen 7; have kx8 := X8.1.cell 7; simp only [List.getElem?_cons_succ, List.getElem?_cons_zero] at kx8; have HX8 := hid X8.2; clear X8 o8 g8)
          go_meet
          exact ⟨_, _, _, _, _, _, _, _, HX8.out⟩
        · as_aux_lemma =>
          have how := HEB.out.em.o.o.own
          rw [HEB.out.em.o.ol] at how
          have HOW := hid how
          clear how
          go_wp2_with (at_builtin; go_must (refine wpl_append rfl (.tmp 94) (.tmp 97) 25 rfl w2.heap.size 53 i1 (.agg #[.string ⟨#[]⟩, .int .i64 0, .int .i64 0, .slice none 0 0]) 4 56 Tryd.underlying25 hi' hz0' hz1' hz2' rfl (by omega) (.slice Ao1 no co1) no (entsC m.objs ts1) rfl (HOW.out.alloc _) _ _ 1 1 [.string ⟨#[120]⟩, .int .i64 0, .int .i64 v, .slice none 0 0] rfl (Sl.fresh4m _ _ _ rfl) (by simp [Value.oneCell']) (no + 1) rfl (entsC m.objs ts1 ++ (Ent.mk [120#8] 0 v []).cells (.slice none 0 0)) rfl (by omega) (by omega) (by simp; omega) ?_); intro A8 c8 w8 o8 g8 _; have X8 := HEB.out.pushE (x := ⟨[120#8], 0, v, []⟩) (At := none) (ct := 0) ((Below.refl _ _).alloc (Nat.le_refl _) _) g8 o8 (World.ownsRow_nil _ _ _ _) ⟨(show i64 0 by unfold i64; omega), hv, fun z hz => by cases hz⟩ (by show 1 ≤ 2000; omega) (by show 0 ≤ 2000; omega); have hx8 := X8.1.frozen 7; have kx8 := X8.1.cell 7; simp only [List.getElem?_cons_succ, List.getElem?_cons_zero] at kx8; have HX8 := hid X8.2; clear X8 o8 g8)
          go_meet
          exact ⟨_, _, _, _, _, _, _, _, HX8.out⟩
        · as_aux_lemma =>
          have how := HEB.out.em.o.o.own
          rw [HEB.out.em.o.ol] at how
          have HOW := hid how
          clear how
          go_wp2_with (at_builtin; go_must (refine wpl_append rfl (.tmp 94) (.tmp 97) 25 rfl w2.heap.size 53 i1 (.agg #[.string ⟨#[]⟩, .int .i64 0, .int .i64 0, .slice none 0 0]) 4 56 Tryd.underlying25 hi' hz0' hz1' hz2' rfl (by omega) (.slice Ao1 no co1) no (entsC m.objs ts1) rfl (HOW.out.alloc _) _ _ 1 1 [.string ⟨#[120]⟩, .int .i64 0, .int .i64 v, .slice none 0 0] rfl (Sl.fresh4m _ _ _ rfl) (by simp [Value.oneCell']) (no + 1) rfl (entsC m.objs ts1 ++ (Ent.mk [120#8] 0 v []).cells (.slice none 0 0)) rfl (by omega) (by omega) (by simp; omega) ?_); intro A8 c8 w8 o8 g8 _; have X8 := HEB.out.pushE (x := ⟨[120#8], 0, v, []⟩) (At := none) (ct := 0) ((Below.refl _ _).alloc (Nat.le_refl _) _) g8 o8 (World.ownsRow_nil _ _ _ _) ⟨(show i64 0 by unfold i64; omega), hv, fun z hz => by cases hz⟩ (by show 1 ≤ 2000; omega) (by show 0 ≤ 2000; omega); have hx8 := X8.1.frozen 7; have kx8 := X8.1.cell 7; simp only [List.getElem?_cons_succ, List.getElem?_cons_zero] at kx8; have HX8 := hid X8.2; clear X8 o8 g8)
          go_meet
          exact ⟨_, _, _, _, _, _, _, _, HX8.out⟩
        · as_aux_lemma =>
          have how := HEB.out.em.o.o.own
          rw [HEB.out.em.o.ol] at how
          have HOW := hid how
          clear how
          go_wp2_with (at_builtin; go_must (refine wpl_append rfl (.tmp 94) (.tmp 97) 25 rfl w2.heap.size 53 i1 (.agg #[.string ⟨#[]⟩, .int .i64 0, .int .i64 0, .slice none 0 0]) 4 56 Tryd.underlying25 hi' hz0' hz1' hz2' rfl (by omega) (.slice Ao1 no co1) no (entsC m.objs ts1) rfl (HOW.out.alloc _) _ _ 1 1 [.string ⟨#[120]⟩, .int .i64 0, .int .i64 v, .slice none 0 0] rfl (Sl.fresh4m _ _ _ rfl) (by simp [Value.oneCell']) (no + 1) rfl (entsC m.objs ts1 ++ (Ent.mk [120#8] 0 v []).cells (.slice none 0 0)) rfl (by omega) (by omega) (by simp; omega) ?_); intro A8 c8 w8 o8 g8 _; have X8 := HEB.out.pushE (x := ⟨[120#8], 0, v, []⟩) (At := none) (ct := 0) ((Below.refl _ _).alloc (Nat.le_refl _) _) g8 o8 (World.ownsRow_nil _ _ _ _) ⟨(show i64 0 by unfold i64; omega), hv, fun z hz => by cases hz⟩ (by show 1 ≤ 2000; omega) (by show 0 ≤ 2000; omega); have hx8 := X8.1.frozen 7; have kx8 := X8.1.cell 7; simp only [List.getElem?_cons_succ, List.getElem?_cons_zero] at kx8; have HX8 := hid X8.2; clear X8 o8 g8)
          go_meet
          exact ⟨_, _, _, _, _, _, _, _, HX8.out⟩
        · as_aux_lemma =>
          have how := HEB.out.em.o.o.own
          rw [HEB.out.em.o.ol] at how
          have HOW := hid how
          clear how
          go_wp2_with (at_builtin; go_must (refine wpl_append rfl (.tmp 94) (.tmp 97) 25 rfl w2.heap.size 53 i1 (.agg #[.string ⟨#[]⟩, .int .i64 0, .int .i64 0, .slice none 0 0]) 4 56 Tryd.underlying25 hi' hz0' hz1' hz2' rfl (by omega) (.slice Ao1 no co1) no (entsC m.objs ts1) rfl (HOW.out.alloc _) _ _ 1 1 [.string ⟨#[120]⟩, .int .i64 0, .int .i64 v, .slice none 0 0] rfl (Sl.fresh4m _ _ _ rfl) (by simp [Value.oneCell']) (no + 1) rfl (entsC m.objs ts1 ++ (Ent.mk [120#8] 0 v []).cells (.slice none 0 0)) rfl (by omega) (by omega) (by simp; omega) ?_); intro A8 c8 w8 o8 g8 _; have X8 := HEB.out.pushE (x := ⟨[120#8], 0, v, []⟩) (At := none) (ct := 0) ((Below.refl _ _).alloc (Nat.le_refl _) _) g8 o8 (World.ownsRow_nil _ _ _ _) ⟨(show i64 0 by unfold i64; omega), hv, fun z hz => by cases hz⟩ (by show 1 ≤ 2000; omega) (by show 0 ≤ 2000; omega); have hx8 := X8.1.frozen 7; have kx8 := X8.1.cell 7; simp only [List.getElem?_cons_succ, List.getElem?_cons_zero] at kx8; have HX8 := hid X8.2; clear X8 o8 g8)
          go_meet
          exact ⟨_, _, _, _, _, _, _, _, HX8.out⟩
        · as_aux_lemma =>
          have how := HEB.out.em.o.o.own
          rw [HEB.out.em.o.ol] at how
          have HOW := hid how
          clear how
          go_wp2_with (at_builtin; go_must (refine wpl_append rfl (.tmp 94) (.tmp 97) 25 rfl w2.heap.size 53 i1 (.agg #[.string ⟨#[]⟩, .int .i64 0, .int .i64 0, .slice none 0 0]) 4 56 Tryd.underlying25 hi' hz0' hz1' hz2' rfl (by omega) (.slice Ao1 no co1) no (entsC m.objs ts1) rfl (HOW.out.alloc _) _ _ 1 1 [.string ⟨#[120]⟩, .int .i64 0, .int .i64 v, .slice none 0 0] rfl (Sl.fresh4m _ _ _ rfl) (by simp [Value.oneCell']) (no + 1) rfl (entsC m.objs ts1 ++ (Ent.mk [120#8] 0 v []).cells (.slice none 0 0)) rfl (by omega) (by omega) (by simp; omega) ?_); intro A8 c8 w8 o8 g8 _; have X8 := HEB.out.pushE (x := ⟨[120#8], 0, v, []⟩) (At := none) (ct := 0) ((Below.refl _ _).alloc (Nat.le_refl _) _) g8 o8 (World.ownsRow_nil _ _ _ _) ⟨(show i64 0 by unfold i64; omega), hv, fun z hz => by cases hz⟩ (by show 1 ≤ 2000; omega) (by show 0 ≤ 2000; omega); have hx8 := X8.1.frozen 7; have kx8 := X8.1.cell 7; simp only [List.getElem?_cons_succ, List.getElem?_cons_zero] at kx8; have HX8 := hid X8.2; clear X8 o8 g8)
          go_meet
          exact ⟨_, _, _, _, _, _, _, _, HX8.out⟩
      | false =>
        have h0 : 0 < no := by
          rcases Nat.eq_zero_or_pos no with h | h
          · rw [h] at htb
            cases htb
          · exact h
        have hkn := hkn h0
        obtain ⟨gO, cur, rfl, hgO, hr, hnc, hcm, hcur⟩ := HEB.out.em.gO h0
        obtain ⟨At, ct, hat, hot⟩ := HEB.out.em.tries hkn
        have c0 := hcur k hkn 0 (by omega)
        have c1 := hcur k hkn 1 (by omega)
        have c2 := hcur k hkn 2 (by omega)
        have c3 := hcur k hkn 3 (by omega)
        have b1 := hcur 0 h0 1 (by omega)
        have hmem := getD_memE (es := m.objs) (k := k) (by rw [HEB.out.em.o.ol]; exact hkn)
        have hmem0 := getD_memE (es := m.objs) (k := 0) (by rw [HEB.out.em.o.ol]; exact h0)
        have he64 := HLT.out.m64.objs _ hmem
        have he0 := HLT.out.m64.objs _ hmem0
        have henm := HLT.out.nm _ hmem
        have hetr := HLT.out.tr _ hmem
        have hct := own_cap hot
        rw [hat] at c0 c1 c2 c3
        have e0 : w4.cell? ⟨gO, k * 4, none⟩ = some (.string (strB (m.objs.getD k default).name)) := by rw [hr.cell (k * 4)]; exact c0
        have e1 : w4.cell? ⟨gO, k * 4 + 1, none⟩ = some (.int .i64 (m.objs.getD k default).obj) := by rw [hr.cell (k * 4 + 1)]; exact c1
        have e2 : w4.cell? ⟨gO, k * 4 + 2, none⟩ = some (.int .i64 (m.objs.getD k default).len) := by rw [hr.cell (k * 4 + 2)]; exact c2
        have e3 : w4.cell? ⟨gO, k * 4 + 3, none⟩ = some (.slice At (m.objs.getD k default).tries.length ct) := by rw [hr.cell (k * 4 + 3)]; exact c3
        have e01 : w4.cell? ⟨gO, 1, none⟩ = some (.int .i64 (m.objs.getD 0 default).obj) := by rw [hr.cell 1]; exact b1
        have f0 := hr.frozen (k * 4)
        have f1 := hr.frozen (k * 4 + 1)
        have f2 := hr.frozen (k * 4 + 2)
        have f3 := hr.frozen (k * 4 + 3)
        obtain ⟨ee, hee⟩ : ∃ e, m.objs.getD k default = e := ⟨_, rfl⟩
        obtain ⟨o0, ho0⟩ : ∃ e, (m.objs.getD 0 default).obj = e := ⟨_, rfl⟩
        rw [ho0] at e01 he0
        rw [hee] at e0 e1 e2 e3 he64 henm hetr hct hot hat
        have HEE := hid hee
        obtain ⟨nt, hnt⟩ : ∃ n, ee.tries.length = n := ⟨_, rfl⟩
        rw [hnt] at e3 hetr hct hot hat
        have HNT := hid hnt
        have HAT := hid hat
        have HOT := hid hot
        have H64 := hid he64
        have HO0 := hid (show i64 o0 from he0.1)
        have HR := hid hr
        have HMEM := hid hmem
        clear c0 c1 c2 c3 b1 hmem hmem0 he0 hee ho0 hnt hat hot hcur he64 hr
        rcases hq15 with rfl | rfl | rfl | rfl | rfl | rfl | rfl
        · as_aux_lemma =>
          obtain ⟨b, hb⟩ : ∃ b : Byte, IntKind.u8.wrap v = (b.toNat : Int) := ⟨BitVec.ofNat 8 (v % 256).toNat, by rw [IntKind.wrap_u8, BitVec.toNat_ofNat]; omega⟩
          have hbA : Below w4.heap.size w4 (w4.alloc (.cells #[.int .u8 (b.toNat : Int)] 5)) := (Below.refl _ _).alloc (Nat.le_refl _) _
          have hrA := HR.out.alloc (.cells #[.int .u8 (b.toNat : Int)] 5)
          have e0A : (w4.alloc (.cells #[.int .u8 (b.toNat : Int)] 5)).cell? ⟨gO, k * 4, none⟩ = some (.string (strB ee.name)) := by rw [hrA.cell (k * 4), ← HR.out.cell (k * 4)]; exact e0
          have f0A := hrA.frozen (k * 4)
          have hF := (HEB.out.below hbA).setE (k := k) (j := 0) hkn (by omega) (.string (⟨#[98]⟩ ++ strB [b])) { ee with name := [98#8, b] } (ts1.getD k undef) (by rw [HEE.out, HAT.out, strB_b]; rfl) ⟨At, ct, by rw [HAT.out, HNT.out], by rw [HAT.out, HNT.out]; exact own_bel HOT.out hbA⟩ (.inl rfl) ⟨H64.out.1, H64.out.2.1, H64.out.2.2⟩ (by show 2 ≤ 2000; omega) (show ee.tries.length ≤ 2000 by rw [HNT.out]; omega)
          have HF := hid hF
          have kc := conv_str (P := Tryd.prog) (c := 1) 37 9 5 Tryd.underlying37 Tryd.underlying5 Tryd.underlying9 (l := [b]) (Sl.fresh w4 [.int .u8 (b.toNat : Int)] 5 (0, 0) 1 rfl)
          clear hF hbA hrA
          go_wp2_with fail
          go_meet
          exact ⟨_, _, _, _, _, _, _, _, HF.out⟩
        · as_aux_lemma =>
          have hF := HEB.out.setE (k := k) (j := 1) hkn (by omega) (.int .i64 v) { ee with obj := v } (ts1.getD k undef) (by rw [HEE.out, HAT.out]; rfl) ⟨At, ct, by rw [HAT.out, HNT.out], by rw [HAT.out, HNT.out]; exact HOT.out⟩ (.inl rfl) ⟨hv, H64.out.2.1, H64.out.2.2⟩ (Nat.le_trans henm (by omega)) (show ee.tries.length ≤ 2000 by rw [HNT.out]; omega)
          have HF := hid hF
          clear hF
          go_wp2_with fail
          go_meet
          exact ⟨_, _, _, _, _, _, _, _, HF.out⟩
        · as_aux_lemma =>
          go_wp2_with fail
          have HED := hid (HEB.out.below (below_drew' (Below.refl _ _)))
          have HRD := hid (HR.out.below (below_drew' (Below.refl _ _)) HR.out.lt)
          have HOD := hid (own_bel HOT.out (below_drew' (Below.refl _ _)))
          have k8D : Hid (w4.drew.cell? ⟨gO, k * 4 + 1, none⟩ = some (.int .i64 ee.obj)) := hid e1
          refine Org.begin [10] (fun w' => w'.cell? ⟨w.heap.size, 7, none⟩ = some (.slice (some ⟨gO, 0, none⟩) no co1) ∧ w'.cell? ⟨gO, 1, none⟩ = some (.int .i64 o0)) [0, 1, 2, 3, 4, 5, 6, 7, 8, 9, 10] (by kernel_rfl) (⟨HE7, e01⟩) (fun hS => ?_)
          generalize w4.drew = wd at *
          (refine Org.yes (v := ?_) rfl (by kernel_rfl) (by kernel_rfl) (by kernel_rfl) (by kernel_rfl) (by kernel_rfl) (fun _ _ _ h => h) (by kernel_rfl) (SM.of hS) ?_ ?_; rotate_left; (focus (intro w hSw; (try dsimp only at hSw); refine Pure.val ?_; go_simp; (try with_reducible rfl); done)); try simp only [Act.put, List.setIfInBounds_toArray, List.set_cons_zero, List.set_cons_succ])
          (refine Org.yes (v := ?_) rfl (by kernel_rfl) (by kernel_rfl) (by kernel_rfl) (by kernel_rfl) (by kernel_rfl) (fun _ _ _ h => h) (by kernel_rfl) (SM.of hS) ?_ ?_; rotate_left; (focus (intro w hSw; (try dsimp only at hSw); have c7 := hSw.1; refine Pure.val ?_; go_simp; (try with_reducible rfl); done)); try simp only [Act.put, List.setIfInBounds_toArray, List.set_cons_zero, List.set_cons_succ])
          (refine Org.yes (v := ?_) rfl (by kernel_rfl) (by kernel_rfl) (by kernel_rfl) (by kernel_rfl) (by kernel_rfl) (fun _ _ _ h => h) (by kernel_rfl) (SM.of hS) ?_ ?_; rotate_left; (focus (intro w hSw; (try dsimp only at hSw); refine Pure.val ?_; go_simp; (try with_reducible rfl); done)); try simp only [Act.put, List.setIfInBounds_toArray, List.set_cons_zero, List.set_cons_succ])
          (refine Org.yes (v := ?_) rfl (by kernel_rfl) (by kernel_rfl) (by kernel_rfl) (by kernel_rfl) (by kernel_rfl) (fun _ _ _ h => h) (by kernel_rfl) (SM.of hS) ?_ ?_; rotate_left; (focus (intro w hSw; (try dsimp only at hSw); refine Pure.val ?_; go_simp; (try with_reducible rfl); done)); try simp only [Act.put, List.setIfInBounds_toArray, List.set_cons_zero, List.set_cons_succ])
          (refine Org.yes (v := ?_) rfl (by kernel_rfl) (by kernel_rfl) (by kernel_rfl) (by kernel_rfl) (by kernel_rfl) (fun _ _ _ h => h) (by kernel_rfl) (SM.of hS) ?_ ?_; rotate_left; (focus (intro w hSw; (try dsimp only at hSw); have c7 := hSw.1; refine Pure.val ?_; go_simp; (try with_reducible rfl); done)); try simp only [Act.put, List.setIfInBounds_toArray, List.set_cons_zero, List.set_cons_succ])
          (refine Org.yes (v := ?_) rfl (by kernel_rfl) (by kernel_rfl) (by kernel_rfl) (by kernel_rfl) (by kernel_rfl) (fun _ _ _ h => h) (by kernel_rfl) (SM.of hS) ?_ ?_; rotate_left; (focus (intro w hSw; (try dsimp only at hSw); refine Pure.val ?_; go_simp; (try with_reducible rfl); done)); try simp only [Act.put, List.setIfInBounds_toArray, List.set_cons_zero, List.set_cons_succ])
          (refine Org.yes (v := ?_) rfl (by kernel_rfl) (by kernel_rfl) (by kernel_rfl) (by kernel_rfl) (by kernel_rfl) (fun _ _ _ h => h) (by kernel_rfl) (SM.of hS) ?_ ?_; rotate_left; (focus (intro w hSw; (try dsimp only at hSw); refine Pure.val ?_; go_simp; (try with_reducible rfl); done)); try simp only [Act.put, List.setIfInBounds_toArray, List.set_cons_zero, List.set_cons_succ])
          (refine Org.yes (v := ?_) rfl (by kernel_rfl) (by kernel_rfl) (by kernel_rfl) (by kernel_rfl) (by kernel_rfl) (fun _ _ _ h => h) (by kernel_rfl) (SM.of hS) ?_ ?_; rotate_left; (focus (intro w hSw; (try dsimp only at hSw); have c8 := hSw.2; refine Pure.val ?_; go_simp; (try with_reducible rfl); done)); try simp only [Act.put, List.setIfInBounds_toArray, List.set_cons_zero, List.set_cons_succ])
          (refine Org.free (v := ?_) rfl (by kernel_rfl) (by kernel_rfl) (by kernel_rfl) (by kernel_rfl) (by kernel_rfl) (fun _ _ _ h => h) (by kernel_rfl) (SM.of hS) ?_ ?_; rotate_left; (focus (intro w; refine Pure.val ?_; go_simp; (try with_reducible rfl); done)); try simp only [Act.put, List.setIfInBounds_toArray, List.set_cons_zero, List.set_cons_succ])
          (refine Org.yes (v := ?_) rfl (by kernel_rfl) (by kernel_rfl) (by kernel_rfl) (by kernel_rfl) (by kernel_rfl) (fun _ _ _ h => h) (by kernel_rfl) (SM.of hS) ?_ ?_; rotate_left; (focus (intro w hSw; (try dsimp only at hSw); refine Pure.val ?_; go_simp; (try with_reducible rfl); done)); try simp only [Act.put, List.setIfInBounds_toArray, List.set_cons_zero, List.set_cons_succ])
          refine Org.mark (p := 10) rfl (by kernel_rfl) (by kernel_rfl) (by kernel_rfl) (by kernel_rfl) (fun K hK => ?_)
          have f8 := HRD.out.frozen (k * 4 + 1)
          have k8 := k8D.out
          go_simp
          refine hK.out _ _ ?_
          clear f8 k8
          clear hK K hS
          try simp only [Act.put, List.setIfInBounds_toArray, List.set_cons_zero, List.set_cons_succ]
          refine Org.done (by kernel_rfl) ?_
          have hF := HED.out.setE (k := k) (j := 1) hkn (by omega) (.int .i64 o0) { ee with obj := o0 } (ts1.getD k undef) (by rw [HEE.out, HAT.out]; rfl) ⟨At, ct, by rw [HAT.out, HNT.out], by rw [HAT.out, HNT.out]; exact HOD.out⟩ (.inl rfl) ⟨HO0.out, H64.out.2.1, H64.out.2.2⟩ (Nat.le_trans henm (by omega)) (show ee.tries.length ≤ 2000 by rw [HNT.out]; omega)
          have HF := hid hF
          clear hF
          go_wp2_with fail
          go_meet
          exact ⟨_, _, _, _, _, _, _, _, HF.out⟩
        · as_aux_lemma =>
          have hF := HEB.out.setE (k := k) (j := 2) hkn (by omega) (.int .i64 v) { ee with len := v } (ts1.getD k undef) (by rw [HEE.out, HAT.out]; rfl) ⟨At, ct, by rw [HAT.out, HNT.out], by rw [HAT.out, HNT.out]; exact HOT.out⟩ (.inl rfl) ⟨H64.out.1, hv, H64.out.2.2⟩ (Nat.le_trans henm (by omega)) (show ee.tries.length ≤ 2000 by rw [HNT.out]; omega)
          have HF := hid hF
          clear hF
          go_wp2_with fail
          go_meet
          exact ⟨_, _, _, _, _, _, _, _, HF.out⟩
        · as_aux_lemma =>
          obtain ⟨y, hy⟩ : ∃ y, v % 20 = y := ⟨_, rfl⟩
          have HY := hid hy
          have HYB := hid (show i64 y by unfold i64; omega)
          clear hy
          have HZL := hid (show (ee.tries ++ [y]).length = nt + 1 by rw [List.length_append, HNT.out]; rfl)
          go_wp2_with fail
          refine Org.begin [15] (fun w' => Row w' w.heap.size 27 [.int .i64 m.seq, .int .i64 m.next, .int .i64 m.P.K, .int .i64 m.P.H, .int .i64 m.P.S, .int .i64 m.extra, .slice Ad1 nd cd1, .slice (some ⟨gO, 0, none⟩) no co1] ∧ w'.cell? ⟨gO, k * 4 + 3, none⟩ = some (.slice At nt ct)) [0, 1, 2, 3, 4, 5, 6, 7, 8, 9, 10, 11, 12, 13, 14, 15] (by kernel_rfl) (⟨HEB.out.em.x.below (below_drew' (Below.refl _ _)) HEB.out.em.x.lt, e3⟩) (fun hS => ?_)
          (refine Org.yes (v := ?_) rfl (by kernel_rfl) (by kernel_rfl) (by kernel_rfl) (by kernel_rfl) (by kernel_rfl) (fun _ _ _ h => h) (by kernel_rfl) (SM.of hS) ?_ ?_; rotate_left; (focus (intro w hSw; (try dsimp only at hSw); refine Pure.val ?_; go_simp; (try with_reducible rfl); done)); try simp only [Act.put, List.setIfInBounds_toArray, List.set_cons_zero, List.set_cons_succ])
          (refine Org.yes (v := ?_) rfl (by kernel_rfl) (by kernel_rfl) (by kernel_rfl) (by kernel_rfl) (by kernel_rfl) (fun _ _ _ h => h) (by kernel_rfl) (SM.of hS) ?_ ?_; rotate_left; (focus (intro w hSw; (try dsimp only at hSw); have c7 := hSw.1.cell 7; simp only [List.getElem?_cons_succ, List.getElem?_cons_zero] at c7; refine Pure.val ?_; go_simp; (try with_reducible rfl); done)); try simp only [Act.put, List.setIfInBounds_toArray, List.set_cons_zero, List.set_cons_succ])
          (refine Org.yes (v := ?_) rfl (by kernel_rfl) (by kernel_rfl) (by kernel_rfl) (by kernel_rfl) (by kernel_rfl) (fun _ _ _ h => h) (by kernel_rfl) (SM.of hS) ?_ ?_; rotate_left; (focus (intro w hSw; (try dsimp only at hSw); refine Pure.val ?_; go_simp; (try with_reducible rfl); done)); try simp only [Act.put, List.setIfInBounds_toArray, List.set_cons_zero, List.set_cons_succ])
          (refine Org.yes (v := ?_) rfl (by kernel_rfl) (by kernel_rfl) (by kernel_rfl) (by kernel_rfl) (by kernel_rfl) (fun _ _ _ h => h) (by kernel_rfl) (SM.of hS) ?_ ?_; rotate_left; (focus (intro w hSw; (try dsimp only at hSw); refine Pure.val ?_; go_simp; (try with_reducible rfl); done)); try simp only [Act.put, List.setIfInBounds_toArray, List.set_cons_zero, List.set_cons_succ])
          (refine Org.yes (v := ?_) rfl (by kernel_rfl) (by kernel_rfl) (by kernel_rfl) (by kernel_rfl) (by kernel_rfl) (fun _ _ _ h => h) (by kernel_rfl) (SM.of hS) ?_ ?_; rotate_left; (focus (intro w hSw; (try dsimp only at hSw); have c7 := hSw.1.cell 7; simp only [List.getElem?_cons_succ, List.getElem?_cons_zero] at c7; refine Pure.val ?_; go_simp; (try with_reducible rfl); done)); try simp only [Act.put, List.setIfInBounds_toArray, List.set_cons_zero, List.set_cons_succ])
          (refine Org.yes (v := ?_) rfl (by kernel_rfl) (by kernel_rfl) (by kernel_rfl) (by kernel_rfl) (by kernel_rfl) (fun _ _ _ h => h) (by kernel_rfl) (SM.of hS) ?_ ?_; rotate_left; (focus (intro w hSw; (try dsimp only at hSw); refine Pure.val ?_; go_simp; (try with_reducible rfl); done)); try simp only [Act.put, List.setIfInBounds_toArray, List.set_cons_zero, List.set_cons_succ])
          (refine Org.yes (v := ?_) rfl (by kernel_rfl) (by kernel_rfl) (by kernel_rfl) (by kernel_rfl) (by kernel_rfl) (fun _ _ _ h => h) (by kernel_rfl) (SM.of hS) ?_ ?_; rotate_left; (focus (intro w hSw; (try dsimp only at hSw); refine Pure.val ?_; go_simp; (try with_reducible rfl); done)); try simp only [Act.put, List.setIfInBounds_toArray, List.set_cons_zero, List.set_cons_succ])
          (refine Org.yes (v := ?_) rfl (by kernel_rfl) (by kernel_rfl) (by kernel_rfl) (by kernel_rfl) (by kernel_rfl) (fun _ _ _ h => h) (by kernel_rfl) (SM.of hS) ?_ ?_; rotate_left; (focus (intro w hSw; (try dsimp only at hSw); refine Pure.val ?_; go_simp; (try with_reducible rfl); done)); try simp only [Act.put, List.setIfInBounds_toArray, List.set_cons_zero, List.set_cons_succ])
          (refine Org.yes (v := ?_) rfl (by kernel_rfl) (by kernel_rfl) (by kernel_rfl) (by kernel_rfl) (by kernel_rfl) (fun _ _ _ h => h) (by kernel_rfl) (SM.of hS) ?_ ?_; rotate_left; (focus (intro w hSw; (try dsimp only at hSw); have c3 := hSw.2; refine Pure.val ?_; go_simp; (try with_reducible rfl); done)); try simp only [Act.put, List.setIfInBounds_toArray, List.set_cons_zero, List.set_cons_succ])
          (refine Org.yes (v := ?_) rfl (by kernel_rfl) (by kernel_rfl) (by kernel_rfl) (by kernel_rfl) (by kernel_rfl) (fun _ _ _ h => h) (by kernel_rfl) (SM.of hS) ?_ ?_; rotate_left; (focus (intro w hSw; (try dsimp only at hSw); refine Pure.val ?_; go_simp; (try with_reducible rfl); done)); try simp only [Act.put, List.setIfInBounds_toArray, List.set_cons_zero, List.set_cons_succ])
          (refine Org.yes (v := ?_) rfl (by kernel_rfl) (by kernel_rfl) (by kernel_rfl) (by kernel_rfl) (by kernel_rfl) (fun _ _ _ h => h) (by kernel_rfl) (SM.of hS) ?_ ?_; rotate_left; (focus (intro w hSw; (try dsimp only at hSw); refine Pure.call 17 #[.int .i64 v, .int .i64 20] (by go_simp; first | done | rfl) ?_; refine (within_any v 20 _ hv.1 hv.2 (by omega) (by omega)).mono ?_; rintro e w' ⟨rfl, rfl⟩; rw [HY.out]; refine ⟨?_, rfl⟩; with_reducible rfl)); try simp only [Act.put, List.setIfInBounds_toArray, List.set_cons_zero, List.set_cons_succ])
          refine Org.go rfl (by kernel_rfl) (by kernel_rfl) (fun K hK => ?_)
          go_simp
          have hbA : Below w4.heap.size w4 (w4.alloc (.cells #[.int .i64 y] 3)).drew := below_drew' ((Below.refl _ _).alloc (Nat.le_refl _) _)
          have HBA := hid hbA
          refine hK.out _ _ ⟨HEB.out.em.x.below hbA HEB.out.em.x.lt, by rw [hbA.cell (p := ⟨gO, k * 4 + 3, none⟩) HR.out.lt]; exact e3⟩ (fun hS2 => ?_)
          clear hbA
          clear hK K hS
          have hS := hS2
          clear hS2
          try simp only [Act.put, List.setIfInBounds_toArray, List.set_cons_zero, List.set_cons_succ]
          refine Org.go rfl (by kernel_rfl) (by kernel_rfl) (fun K hK => ?_)
          refine op_append (.tmp 155) (.tmp 158) 24 rfl w2.heap.size 3 i0 (.int .i64 0) 1 8 Tryd.underlying24 hi hz0 hz1 hz2 rfl (by omega) (.slice At nt ct) nt (ee.tries.map iv) rfl (own_bel HOT.out HBA.out) _ _ 1 1 _ rfl ((Sl.fresh w4 [.int .i64 y] 3 (0, 0) 1 rfl).below (below_drew' (Below.refl _ _))) (by simp [Value.oneCell']) (nt + 1) rfl ((ee.tries ++ [y]).map iv) (by simp [iv]) (by omega) (by omega) (Nat.le_trans hNs HBA.out.size) ?_
          intro A8 c8 w8 o8 g8x wh8
          have hgt := HEB.out.growT (k := k) (tv8 := .slice A8 (nt + 1) c8) (z := ee.tries ++ [y]) HBA.out hkn (by rw [HAT.out]; exact g8x) ⟨A8, c8, by rw [HZL.out], by rw [HZL.out]; exact o8⟩ (by rw [HAT.out]; exact wh8) (fun x hx => by rcases List.mem_append.1 hx with h | h; exact H64.out.2.2 x h; rw [List.mem_singleton.1 h]; exact HYB.out) (by rw [HZL.out]; omega)
          obtain ⟨⟨curx, hrx, hlx⟩, hx7, hE9⟩ := hgt
          have HF := hid hE9
          have f8 := hrx.frozen (k * 4 + 3)
          have e8 : w8.cell? ⟨gO, k * 4 + 3, none⟩ = some (.slice At nt ct) := by rw [hrx.cell, hlx, HAT.out]
          have k8 := e8
          refine hK.out _ _ ⟨hx7, e8⟩ (fun hS2 => ?_)
          clear hE9 o8 g8x wh8 hx7 e8
          clear hK K hS
          have hS := hS2
          clear hS2
          try simp only [Act.put, List.setIfInBounds_toArray, List.set_cons_zero, List.set_cons_succ]
          (refine Org.free (v := ?_) rfl (by kernel_rfl) (by kernel_rfl) (by kernel_rfl) (by kernel_rfl) (by kernel_rfl) (fun _ _ _ h => h) (by kernel_rfl) (SM.of hS) ?_ ?_; rotate_left; (focus (intro w; refine Pure.val ?_; go_simp; (try with_reducible rfl); done)); try simp only [Act.put, List.setIfInBounds_toArray, List.set_cons_zero, List.set_cons_succ])
          (refine Org.yes (v := ?_) rfl (by kernel_rfl) (by kernel_rfl) (by kernel_rfl) (by kernel_rfl) (by kernel_rfl) (fun _ _ _ h => h) (by kernel_rfl) (SM.of hS) ?_ ?_; rotate_left; (focus (intro w hSw; (try dsimp only at hSw); refine Pure.val ?_; go_simp; (try with_reducible rfl); done)); try simp only [Act.put, List.setIfInBounds_toArray, List.set_cons_zero, List.set_cons_succ])
          refine Org.mark (p := 15) rfl (by kernel_rfl) (by kernel_rfl) (by kernel_rfl) (by kernel_rfl) (fun K hK => ?_)
          go_simp
          refine hK.out _ _ ?_
          clear f8 k8
          clear hK K hS
          try simp only [Act.put, List.setIfInBounds_toArray, List.set_cons_zero, List.set_cons_succ]
          refine Org.done (by kernel_rfl) ?_
          go_wp2_with fail
          go_meet
          exact ⟨_, _, _, _, _, _, _, _, HF.out⟩
        · as_aux_lemma =>
          by_cases hn : 0 < nt
          · obtain ⟨gT, rfl⟩ : ∃ gT, At = some ⟨gT, 0, none⟩ := by
              obtain ⟨gT, cTx, curT, eT, _, _, _, _, _, _⟩ := own_rowS HOT.out hn
              injection eT with eT
              exact ⟨gT, eT⟩
            obtain ⟨g', c', curT, eT, _, hrT, hcl, hctk, hnc', _⟩ := own_rowS HOT.out hn
            injection eT with eT
            injection eT with eT
            injection eT with eT _ _
            subst eT
            obtain ⟨z, hz⟩ : ∃ z, curT[0]? = some z := ⟨_, List.getElem?_eq_getElem (by omega)⟩
            have kT := hrT.cell 0
            have fT := hrT.frozen 0
            rw [hz] at kT
            have hF := HEB.out.setT (k := k) (v := v) hkn HAT.out (by rw [HEE.out, HNT.out]) hn hv
            have HF := hid hF
            clear hF hrT hcl hctk hnc' hz
            go_wp2_with fail
            go_meet
            exact ⟨_, _, _, _, _, _, _, _, HF.out⟩
          · skip
            have how := HEB.out.em.o.o.own
            rw [HEB.out.em.o.ol] at how
            have HOW := hid how
            clear how
            go_wp2_with fail
            refine Org.begin [10] (fun w' => Row w' w.heap.size 27 [.int .i64 m.seq, .int .i64 m.next, .int .i64 m.P.K, .int .i64 m.P.H, .int .i64 m.P.S, .int .i64 m.extra, .slice Ad1 nd cd1, .slice (some ⟨gO, 0, none⟩) no co1]) [0, 1, 2, 3, 4, 5, 6, 7, 8, 9, 10] (by kernel_rfl) (HEB.out.em.x.below (below_drew' (Below.refl _ _)) HEB.out.em.x.lt) (fun hS => ?_)
            (refine Org.yes (v := ?_) rfl (by kernel_rfl) (by kernel_rfl) (by kernel_rfl) (by kernel_rfl) (by kernel_rfl) (fun _ _ _ h => h) (by kernel_rfl) (SM.of hS) ?_ ?_; rotate_left; (focus (intro w hSw; (try dsimp only at hSw); refine Pure.val ?_; go_simp; (try with_reducible rfl); done)); try simp only [Act.put, List.setIfInBounds_toArray, List.set_cons_zero, List.set_cons_succ])
            (refine Org.yes (v := ?_) rfl (by kernel_rfl) (by kernel_rfl) (by kernel_rfl) (by kernel_rfl) (by kernel_rfl) (fun _ _ _ h => h) (by kernel_rfl) (SM.of hS) ?_ ?_; rotate_left; (focus (intro w hSw; (try dsimp only at hSw); have c7 := hSw.cell 7; simp only [List.getElem?_cons_succ, List.getElem?_cons_zero] at c7; refine Pure.val ?_; go_simp; (try with_reducible rfl); done)); try simp only [Act.put, List.setIfInBounds_toArray, List.set_cons_zero, List.set_cons_succ])
            (refine Org.yes (v := ?_) rfl (by kernel_rfl) (by kernel_rfl) (by kernel_rfl) (by kernel_rfl) (by kernel_rfl) (fun _ _ _ h => h) (by kernel_rfl) (SM.of hS) ?_ ?_; rotate_left; (focus (intro w hSw; (try dsimp only at hSw); refine Pure.val ?_; go_simp; (try with_reducible rfl); done)); try simp only [Act.put, List.setIfInBounds_toArray, List.set_cons_zero, List.set_cons_succ])
            (refine Org.yes (v := ?_) rfl (by kernel_rfl) (by kernel_rfl) (by kernel_rfl) (by kernel_rfl) (by kernel_rfl) (fun _ _ _ h => h) (by kernel_rfl) (SM.of hS) ?_ ?_; rotate_left; (focus (intro w hSw; (try dsimp only at hSw); have c7 := hSw.cell 7; simp only [List.getElem?_cons_succ, List.getElem?_cons_zero] at c7; refine Pure.val ?_; go_simp; (try with_reducible rfl); done)); try simp only [Act.put, List.setIfInBounds_toArray, List.set_cons_zero, List.set_cons_succ])
            (refine Org.yes (v := ?_) rfl (by kernel_rfl) (by kernel_rfl) (by kernel_rfl) (by kernel_rfl) (by kernel_rfl) (fun _ _ _ h => h) (by kernel_rfl) (SM.of hS) ?_ ?_; rotate_left; (focus (intro w hSw; (try dsimp only at hSw); refine Pure.val ?_; go_simp; (try with_reducible rfl); done)); try simp only [Act.put, List.setIfInBounds_toArray, List.set_cons_zero, List.set_cons_succ])
            (refine Org.yes (v := ?_) rfl (by kernel_rfl) (by kernel_rfl) (by kernel_rfl) (by kernel_rfl) (by kernel_rfl) (fun _ _ _ h => h) (by kernel_rfl) (SM.of hS) ?_ ?_; rotate_left; (focus (intro w hSw; (try dsimp only at hSw); refine Pure.val ?_; go_simp; (try with_reducible rfl); done)); try simp only [Act.put, List.setIfInBounds_toArray, List.set_cons_zero, List.set_cons_succ])
            refine Org.go rfl (by kernel_rfl) (by kernel_rfl) (fun K hK => ?_)
            go_simp
            refine hK.out _ _ hS (fun hS2 => ?_)
            clear hK K hS
            have hS := hS2
            clear hS2
            try simp only [Act.put, List.setIfInBounds_toArray, List.set_cons_zero, List.set_cons_succ]
            refine Org.go rfl (by kernel_rfl) (by kernel_rfl) (fun K hK => ?_)
            go_simp
            have hbA : Below w4.heap.size w4 (w4.alloc (.cells #[.string (strB ee.name), .int .i64 ee.obj, .int .i64 ee.len, .slice At nt ct] 53)).drew := below_drew' ((Below.refl _ _).alloc (Nat.le_refl _) _)
            have HBA := hid hbA
            refine hK.out _ _ (HEB.out.em.x.below hbA HEB.out.em.x.lt) (fun hS2 => ?_)
            clear hbA
            clear hK K hS
            have hS := hS2
            clear hS2
            try simp only [Act.put, List.setIfInBounds_toArray, List.set_cons_zero, List.set_cons_succ]
            refine Org.go rfl (by kernel_rfl) (by kernel_rfl) (fun K hK => ?_)
            refine op_append (.tmp 24) (.tmp 30) 25 rfl w2.heap.size 53 i1 (.agg #[.string ⟨#[]⟩, .int .i64 0, .int .i64 0, .slice none 0 0]) 4 56 Tryd.underlying25 hi' hz0' hz1' hz2' rfl (by omega) (.slice (some ⟨gO, 0, none⟩) no co1) no (entsC m.objs ts1) rfl (own_bel HOW.out HBA.out) _ _ 1 1 [.string (strB ee.name), .int .i64 ee.obj, .int .i64 ee.len, .slice At nt ct] rfl ((Sl.fresh4m w4 [.string (strB ee.name), .int .i64 ee.obj, .int .i64 ee.len, .slice At nt ct] 53 rfl).below (below_drew' (Below.refl _ _))) (by simp [Value.oneCell']) (no + 1) rfl (entsC m.objs ts1 ++ ee.cells (.slice At nt ct)) rfl (by omega) (by omega) (Nat.le_trans hNs HBA.out.size) ?_
            intro A8 c8 w8 o8 g8x wh8
            have hgt := HEB.out.pushE (x := ee) (At := At) (ct := ct) HBA.out g8x (by rw [HNT.out]; exact o8) (by rw [HNT.out]; exact HOT.out) H64.out (Nat.le_trans henm (by omega)) (by rw [HNT.out]; omega)
            obtain ⟨hx7, hE9⟩ := hgt
            have HF := hid hE9
            refine hK.out _ _ hx7 (fun hS2 => ?_)
            clear hE9 o8 g8x wh8 hx7
            clear hK K hS
            have hS := hS2
            clear hS2
            try simp only [Act.put, List.setIfInBounds_toArray, List.set_cons_zero, List.set_cons_succ]
            (refine Org.yes (v := ?_) rfl (by kernel_rfl) (by kernel_rfl) (by kernel_rfl) (by kernel_rfl) (by kernel_rfl) (fun _ _ _ h => h) (by kernel_rfl) (SM.of hS) ?_ ?_; rotate_left; (focus (intro w hSw; (try dsimp only at hSw); refine Pure.val ?_; go_simp; (try with_reducible rfl); done)); try simp only [Act.put, List.setIfInBounds_toArray, List.set_cons_zero, List.set_cons_succ])
            refine Org.mark (p := 10) rfl (by kernel_rfl) (by kernel_rfl) (by kernel_rfl) (by kernel_rfl) (fun K hK => ?_)
            have f8 := hS.frozen 7
            have k8 := hS.cell 7
            simp only [List.getElem?_cons_succ, List.getElem?_cons_zero] at k8
            go_simp
            refine hK.out _ _ ?_
            clear f8 k8
            clear hK K hS
            try simp only [Act.put, List.setIfInBounds_toArray, List.set_cons_zero, List.set_cons_succ]
            refine Org.done (by kernel_rfl) ?_
            go_wp2_with fail
            go_meet
            exact ⟨_, _, _, _, _, _, _, _, HF.out⟩
        · as_aux_lemma =>
          skip
          have how := HEB.out.em.o.o.own
          rw [HEB.out.em.o.ol] at how
          have HOW := hid how
          clear how
          go_wp2_with fail
          refine Org.begin [10] (fun w' => Row w' w.heap.size 27 [.int .i64 m.seq, .int .i64 m.next, .int .i64 m.P.K, .int .i64 m.P.H, .int .i64 m.P.S, .int .i64 m.extra, .slice Ad1 nd cd1, .slice (some ⟨gO, 0, none⟩) no co1]) [0, 1, 2, 3, 4, 5, 6, 7, 8, 9, 10] (by kernel_rfl) (HEB.out.em.x.below (below_drew' (Below.refl _ _)) HEB.out.em.x.lt) (fun hS => ?_)
          (refine Org.yes (v := ?_) rfl (by kernel_rfl) (by kernel_rfl) (by kernel_rfl) (by kernel_rfl) (by kernel_rfl) (fun _ _ _ h => h) (by kernel_rfl) (SM.of hS) ?_ ?_; rotate_left; (focus (intro w hSw; (try dsimp only at hSw); refine Pure.val ?_; go_simp; (try with_reducible rfl); done)); try simp only [Act.put, List.setIfInBounds_toArray, List.set_cons_zero, List.set_cons_succ])
          (refine Org.yes (v := ?_) rfl (by kernel_rfl) (by kernel_rfl) (by kernel_rfl) (by kernel_rfl) (by kernel_rfl) (fun _ _ _ h => h) (by kernel_rfl) (SM.of hS) ?_ ?_; rotate_left; (focus (intro w hSw; (try dsimp only at hSw); have c7 := hSw.cell 7; simp only [List.getElem?_cons_succ, List.getElem?_cons_zero] at c7; refine Pure.val ?_; go_simp; (try with_reducible rfl); done)); try simp only [Act.put, List.setIfInBounds_toArray, List.set_cons_zero, List.set_cons_succ])
          (refine Org.yes (v := ?_) rfl (by kernel_rfl) (by kernel_rfl) (by kernel_rfl) (by kernel_rfl) (by kernel_rfl) (fun _ _ _ h => h) (by kernel_rfl) (SM.of hS) ?_ ?_; rotate_left; (focus (intro w hSw; (try dsimp only at hSw); refine Pure.val ?_; go_simp; (try with_reducible rfl); done)); try simp only [Act.put, List.setIfInBounds_toArray, List.set_cons_zero, List.set_cons_succ])
          (refine Org.yes (v := ?_) rfl (by kernel_rfl) (by kernel_rfl) (by kernel_rfl) (by kernel_rfl) (by kernel_rfl) (fun _ _ _ h => h) (by kernel_rfl) (SM.of hS) ?_ ?_; rotate_left; (focus (intro w hSw; (try dsimp only at hSw); have c7 := hSw.cell 7; simp only [List.getElem?_cons_succ, List.getElem?_cons_zero] at c7; refine Pure.val ?_; go_simp; (try with_reducible rfl); done)); try simp only [Act.put, List.setIfInBounds_toArray, List.set_cons_zero, List.set_cons_succ])
          (refine Org.yes (v := ?_) rfl (by kernel_rfl) (by kernel_rfl) (by kernel_rfl) (by kernel_rfl) (by kernel_rfl) (fun _ _ _ h => h) (by kernel_rfl) (SM.of hS) ?_ ?_; rotate_left; (focus (intro w hSw; (try dsimp only at hSw); refine Pure.val ?_; go_simp; (try with_reducible rfl); done)); try simp only [Act.put, List.setIfInBounds_toArray, List.set_cons_zero, List.set_cons_succ])
          (refine Org.yes (v := ?_) rfl (by kernel_rfl) (by kernel_rfl) (by kernel_rfl) (by kernel_rfl) (by kernel_rfl) (fun _ _ _ h => h) (by kernel_rfl) (SM.of hS) ?_ ?_; rotate_left; (focus (intro w hSw; (try dsimp only at hSw); refine Pure.val ?_; go_simp; (try with_reducible rfl); done)); try simp only [Act.put, List.setIfInBounds_toArray, List.set_cons_zero, List.set_cons_succ])
          refine Org.go rfl (by kernel_rfl) (by kernel_rfl) (fun K hK => ?_)
          go_simp
          refine hK.out _ _ hS (fun hS2 => ?_)
          clear hK K hS
          have hS := hS2
          clear hS2
          try simp only [Act.put, List.setIfInBounds_toArray, List.set_cons_zero, List.set_cons_succ]
          refine Org.go rfl (by kernel_rfl) (by kernel_rfl) (fun K hK => ?_)
          go_simp
          have hbA : Below w4.heap.size w4 (w4.alloc (.cells #[.string (strB ee.name), .int .i64 ee.obj, .int .i64 ee.len, .slice At nt ct] 53)).drew := below_drew' ((Below.refl _ _).alloc (Nat.le_refl _) _)
          have HBA := hid hbA
          refine hK.out _ _ (HEB.out.em.x.below hbA HEB.out.em.x.lt) (fun hS2 => ?_)
          clear hbA
          clear hK K hS
          have hS := hS2
          clear hS2
          try simp only [Act.put, List.setIfInBounds_toArray, List.set_cons_zero, List.set_cons_succ]
          refine Org.go rfl (by kernel_rfl) (by kernel_rfl) (fun K hK => ?_)
          refine op_append (.tmp 24) (.tmp 30) 25 rfl w2.heap.size 53 i1 (.agg #[.string ⟨#[]⟩, .int .i64 0, .int .i64 0, .slice none 0 0]) 4 56 Tryd.underlying25 hi' hz0' hz1' hz2' rfl (by omega) (.slice (some ⟨gO, 0, none⟩) no co1) no (entsC m.objs ts1) rfl (own_bel HOW.out HBA.out) _ _ 1 1 [.string (strB ee.name), .int .i64 ee.obj, .int .i64 ee.len, .slice At nt ct] rfl ((Sl.fresh4m w4 [.string (strB ee.name), .int .i64 ee.obj, .int .i64 ee.len, .slice At nt ct] 53 rfl).below (below_drew' (Below.refl _ _))) (by simp [Value.oneCell']) (no + 1) rfl (entsC m.objs ts1 ++ ee.cells (.slice At nt ct)) rfl (by omega) (by omega) (Nat.le_trans hNs HBA.out.size) ?_
          intro A8 c8 w8 o8 g8x wh8
          have hgt := HEB.out.pushE (x := ee) (At := At) (ct := ct) HBA.out g8x (by rw [HNT.out]; exact o8) (by rw [HNT.out]; exact HOT.out) H64.out (Nat.le_trans henm (by omega)) (by rw [HNT.out]; omega)
          obtain ⟨hx7, hE9⟩ := hgt
          have HF := hid hE9
          refine hK.out _ _ hx7 (fun hS2 => ?_)
          clear hE9 o8 g8x wh8 hx7
          clear hK K hS
          have hS := hS2
          clear hS2
          try simp only [Act.put, List.setIfInBounds_toArray, List.set_cons_zero, List.set_cons_succ]
          (refine Org.yes (v := ?_) rfl (by kernel_rfl) (by kernel_rfl) (by kernel_rfl) (by kernel_rfl) (by kernel_rfl) (fun _ _ _ h => h) (by kernel_rfl) (SM.of hS) ?_ ?_; rotate_left; (focus (intro w hSw; (try dsimp only at hSw); refine Pure.val ?_; go_simp; (try with_reducible rfl); done)); try simp only [Act.put, List.setIfInBounds_toArray, List.set_cons_zero, List.set_cons_succ])
          refine Org.mark (p := 10) rfl (by kernel_rfl) (by kernel_rfl) (by kernel_rfl) (by kernel_rfl) (fun K hK => ?_)
          have f8 := hS.frozen 7
          have k8 := hS.cell 7
          simp only [List.getElem?_cons_succ, List.getElem?_cons_zero] at k8
          go_simp
          refine hK.out _ _ ?_
          clear f8 k8
          clear hK K hS
          try simp only [Act.put, List.setIfInBounds_toArray, List.set_cons_zero, List.set_cons_succ]
          refine Org.done (by kernel_rfl) ?_
          go_wp2_with fail
          go_meet
          exact ⟨_, _, _, _, _, _, _, _, HF.out⟩
  case rest =>
  obtain ⟨m', Ad', nd', cd', Ao', no', co', ts', hbs⟩ := hcut
  have HBS := hid hbs
  clear HEB HE7 hkn hbs
  have c0 := HBS.out.x.cell 0
  have c1 := HBS.out.x.cell 1
  have c2 := HBS.out.x.cell 2
  have c3 := HBS.out.x.cell 3
  have c4 := HBS.out.x.cell 4
  have c5 := HBS.out.x.cell 5
  have c6 := HBS.out.x.cell 6
  have c7 := HBS.out.x.cell 7
  simp only [List.getElem?_cons_succ, List.getElem?_cons_zero] at c0 c1 c2 c3 c4 c5 c6 c7
  have d0 := HBS.out.z.cell 0
  have d1 := HBS.out.z.cell 1
  have d2 := HBS.out.z.cell 2
  have d3 := HBS.out.z.cell 3
  have d4 := HBS.out.z.cell 4
  have d5 := HBS.out.z.cell 5
  have d6 := HBS.out.z.cell 6
  have d7 := HBS.out.z.cell 7
  simp only [List.getElem?_cons_succ, List.getElem?_cons_zero] at d0 d1 d2 d3 d4 d5 d6 d7
  have f0 := HBS.out.z.frozen 0
  have f1 := HBS.out.z.frozen 1
  have f2 := HBS.out.z.frozen 2
  have f3 := HBS.out.z.frozen 3
  have f4 := HBS.out.z.frozen 4
  have f5 := HBS.out.z.frozen 5
  have f6 := HBS.out.z.frozen 6
  have f7 := HBS.out.z.frozen 7
  have R8 := hid (row8m HBS.out.z (.int .i64 m'.seq) (.int .i64 m'.next) (.int .i64 m'.P.K) (.int .i64 m'.P.H) (.int .i64 m'.P.S) (.int .i64 m'.extra) (.slice Ad' nd' cd') (.slice Ao' no' co'))
  have hg8 := grown8s wc (w.heap.size + 1) (.int .i64 m'.seq) (.int .i64 m'.next) (.int .i64 m'.P.K) (.int .i64 m'.P.H) (.int .i64 m'.P.S) (.int .i64 m'.extra) (.slice Ad' nd' cd') (.slice Ao' no' co')
  have HOM := hid (HBS.out.o.other hg8 HBS.out.z (by decide) (by decide))
  have HBF := hid (HBS.out.be.grown hg8 HBS.out.be.size (fun j hj => by injection hj with hj; omega))
  clear hg8
  go_wp2_with fail
  have q0 := R8.out.cell 0
  have q1 := R8.out.cell 1
  have q2 := R8.out.cell 2
  have q3 := R8.out.cell 3
  have q4 := R8.out.cell 4
  have q5 := R8.out.cell 5
  have q6 := R8.out.cell 6
  have q7 := R8.out.cell 7
  simp only [List.getElem?_cons_succ, List.getElem?_cons_zero] at q0 q1 q2 q3 q4 q5 q6 q7
  refine bodyPost_ret (v := m'.val (.slice Ad' nd' cd') (.slice Ao' no' co')) ?_ rfl ⟨m', Ad', nd', cd', Ao', no', co', ts', rfl, HOM.out, HBS.out.lt, HBF.out⟩
  simp [results, Tryd.results11, go_sem, q0, q1, q2, q3, q4, q5, q6, q7]
  rfl
end Go.Proofs.YtbpimfhachbcdaaDoor

