/- The example of chapter 17; RecordBack. -/
import Derived.Test.YthafodblffgmmaaMade
import Derived.Test.YthafodblffgmmaaRefTakeRec
import Derived.Test.YthafodblffgmmaaSameRec
import Derived.BigGuardPart
namespace Wells
open Go Go.RowKit
theorem RCells.of_row {w : World} {g : Nat} {t : TypeId} {r : Rec} {d : Value} (h : Row w g t [.int .i64 r.O, .int .i64 r.B, .int .i64 r.I, .int .i64 r.P.K, .int .i64 r.P.H, .int .i64 r.P.S, .int .u32 (r.S.toNat : Int), d]) : RCells w g r d :=
  ⟨h.cell 0, h.cell 1, h.cell 2, h.cell 3, h.cell 4, h.cell 5, h.cell 6, h.cell 7⟩
abbrev recObj (t : TypeId) (r : Rec) (d : Value) : Obj := .cells #[.int .i64 r.O, .int .i64 r.B, .int .i64 r.I, .int .i64 r.P.K, .int .i64 r.P.H, .int .i64 r.P.S, .int .u32 (r.S.toNat : Int), d] t
end Wells
namespace Go.Proofs.Ythafodblffgmmaa
open Go.RowKit Wells
theorem rb_sl {w : World} {B : Nat} {v : Value} {l : BL} (h : RB w B v l) : ∃ A c, v = .slice A l.length c ∧ l.length ≤ c ∧ c ≤ 9223372036854775807 ∧ Sl w B 1 A l.length (l.map bv8) := h
set_option maxRecDepth 20000 in
set_option maxHeartbeats 8000000 in
theorem wakes17 (w : World) : Calls Try.prog 7 #[] w fun e w' => e = .returned (.bool true) ∧ Below w.heap.size w w' := by
  obtain ⟨r0, hr0⟩ : ∃ r : Rec, r = ⟨0, 0, 0, ⟨1, 1, 1⟩, 0#32, [5#8]⟩ := ⟨_, rfl⟩
  have hm : r0.may = true := by rw [hr0]; decide
  have ht := hid (take_put hm)
  have hln := hid (putR_len hm)
  have HM := hid hm
  have hn1 : r0.D.length = 1 := by rw [hr0]; rfl
  have HN := hid hn1
  have hv0 : ∀ d : Value, Value.agg #[.int .i64 0, .int .i64 0, .int .i64 0, .int .i64 1, .int .i64 1, .int .i64 1, .int .u32 0, d] = r0.val d := by intro d; rw [hr0]; rfl
  have hd0 : r0.D.map bv8 = [.int .u8 5] := by rw [hr0]; rfl
  have hrow := (Row.new (w.alloc (.cells #[.int .u8 5] 5)) 27 #[.int .i64 0, .int .i64 0, .int .i64 0, .int .i64 1, .int .i64 1, .int .i64 1, .int .u32 0, .slice (some ⟨w.heap.size, 0, none⟩) 1 1])
  have rca : RCells ((w.alloc (.cells #[.int .u8 5] 5)).alloc (.cells #[.int .i64 0, .int .i64 0, .int .i64 0, .int .i64 1, .int .i64 1, .int .i64 1, .int .u32 0, .slice (some ⟨w.heap.size, 0, none⟩) 1 1] 27)) (w.alloc (.cells #[.int .u8 5] 5)).heap.size r0 (.slice (some ⟨w.heap.size, 0, none⟩) 1 1) := by
    rw [hr0]
    exact .of_row hrow
  have hsl := ((Row.new w 5 #[.int .u8 5]).alloc (.cells #[.int .i64 0, .int .i64 0, .int .i64 0, .int .i64 1, .int .i64 1, .int .i64 1, .int .u32 0, .slice (some ⟨w.heap.size, 0, none⟩) 1 1] 27)).sl (B := w.heap.size + 1) (m := 1) (by omega) (by simp)
  have hbw : Below w.heap.size w ((w.alloc (.cells #[.int .u8 5] 5)).alloc (.cells #[.int .i64 0, .int .i64 0, .int .i64 0, .int .i64 1, .int .i64 1, .int .i64 1, .int .u32 0, .slice (some ⟨w.heap.size, 0, none⟩) 1 1] 27)) := ((Below.refl _ _).alloc (Nat.le_refl _) _).alloc (by simp) _
  have hgs : (w.alloc (.cells #[.int .u8 5] 5)).heap.size = w.heap.size + 1 := by simp
  rw [hgs] at rca
  have sa : Sl ((w.alloc (.cells #[.int .u8 5] 5)).alloc (.cells #[.int .i64 0, .int .i64 0, .int .i64 0, .int .i64 1, .int .i64 1, .int .i64 1, .int .u32 0, .slice (some ⟨w.heap.size, 0, none⟩) 1 1] 27)) (w.heap.size + 1) 1 (some ⟨w.heap.size, 0, none⟩) 1 (r0.D.map bv8) := by rw [hd0]; exact hsl
  have HV := hid (hv0 (.slice (some ⟨w.heap.size, 0, none⟩) 1 1))
  have hlt := rca.lt
  clear hsl hrow hgs hd0 hn1 hm hr0 hv0
  go_enter Try.func7, Try.ntmps7
  go_wp2_with fail
  generalize ((w.alloc (.cells #[.int .u8 5] 5)).alloc (.cells #[.int .i64 0, .int .i64 0, .int .i64 0, .int .i64 1, .int .i64 1, .int .i64 1, .int .u32 0, .slice (some ⟨w.heap.size, 0, none⟩) 1 1] 27)) = w1 at *
  rw [HV.out]
  refine (putrec_any (w.heap.size + 1) r0 (some ⟨w.heap.size, 0, none⟩) 1 1 w1 sa (by omega)).mono ?_
  rintro e w2 ⟨y, rfl, hy, hb2⟩
  obtain ⟨Ay, cy, rfl, hcy1, hcy2⟩ := own_form3 hy hln.out
  have sy := ob_sl hy hln.out
  have hzw2 : w1.heap.size ≤ w2.heap.size := hb2.size
  have rca := RCells.keep rca hb2 (by omega)
  have sa := Sl.below sa (hb2.mono (by omega))
  have hbw := hbw.trans (hb2.mono (by omega))
  clear hb2 hy
  have rcaH := hid rca
  obtain ⟨rca0, rca1, rca2, rca3, rca4, rca5, rca6, rca7⟩ := rca
  try dsimp only at rca0 rca1 rca2 rca3 rca4 rca5 rca6 rca7
  have rca := rcaH
  go_wp2_with fail
  clear rca0 rca1 rca2 rca3 rca4 rca5 rca6 rca7
  refine (takerec_any w2.heap.size Ay (putR r0) 64 cy w2 sy (Nat.le_refl _) (by omega) hcy1 hcy2).mono ?_
  rintro e w3 ⟨d2, rfl, hd2, hb3⟩
  rw [ht.out] at hd2 ⊢
  obtain ⟨A2, c2, rfl, _, _, sb⟩ := rb_sl hd2
  try dsimp only [Option.getD, Option.isSome] at sb ⊢
  rw [HN.out] at sb ⊢
  have hzw3 : w2.heap.size ≤ w3.heap.size := hb3.size
  have rca := RCells.keep rca hb3 (by omega)
  have sa := Sl.below sa (hb3.mono (by omega))
  have sy := Sl.below sy (hb3.mono (by omega))
  have hbw := hbw.trans (hb3.mono (by omega))
  unfold Rec.val
  clear hb3 hd2
  have hbx := (Below.refl w3.heap.size w3).alloc (Nat.le_refl _) (recObj 27 r0 (.slice A2 1 c2))
  have rca := RCells.keep rca hbx (by omega)
  have sa := Sl.below sa (hbx.mono (by omega))
  have sy := Sl.below sy (hbx.mono (by omega))
  have sb := Sl.below sb (hbx.mono (by omega))
  have hbw := hbw.trans (hbx.mono (by omega))
  have rcb := RCells.new w3 r0 (.slice A2 1 c2) 27
  have ltrcb := rcb.lt
  have hzbw4 := hbx.size
  clear hbx
  have rcaH := hid rca
  obtain ⟨rca0, rca1, rca2, rca3, rca4, rca5, rca6, rca7⟩ := rca
  try dsimp only at rca0 rca1 rca2 rca3 rca4 rca5 rca6 rca7
  have rca := rcaH
  have rcbH := hid rcb
  obtain ⟨rcb0, rcb1, rcb2, rcb3, rcb4, rcb5, rcb6, rcb7⟩ := rcb
  try dsimp only at rcb0 rcb1 rcb2 rcb3 rcb4 rcb5 rcb6 rcb7
  have rcb := rcbH
  go_wp2_with fail
  generalize w3.alloc (recObj 27 r0 (.slice A2 1 c2)) = w4 at *
  clear rca0 rca1 rca2 rca3 rca4 rca5 rca6 rca7
  clear rcb0 rcb1 rcb2 rcb3 rcb4 rcb5 rcb6 rcb7
  refine (recmay_any r0 (some ⟨w.heap.size, 0, none⟩) 1 1 true w4 HN.out HM.out).mono ?_
  rintro e w5 ⟨rfl, hb5⟩
  have hzw5 : w4.heap.size ≤ w5.heap.size := hb5.size
  have rca := RCells.keep rca hb5 (by omega)
  have rcb := RCells.keep rcb hb5 (by omega)
  have sa := Sl.below sa (hb5.mono (by omega))
  have sy := Sl.below sy (hb5.mono (by omega))
  have sb := Sl.below sb (hb5.mono (by omega))
  have hbw := hbw.trans (hb5.mono (by omega))
  clear hb5
  have rcaH := hid rca
  obtain ⟨rca0, rca1, rca2, rca3, rca4, rca5, rca6, rca7⟩ := rca
  try dsimp only at rca0 rca1 rca2 rca3 rca4 rca5 rca6 rca7
  have rca := rcaH
  have rcbH := hid rcb
  obtain ⟨rcb0, rcb1, rcb2, rcb3, rcb4, rcb5, rcb6, rcb7⟩ := rcb
  try dsimp only at rcb0 rcb1 rcb2 rcb3 rcb4 rcb5 rcb6 rcb7
  have rcb := rcbH
  go_wp2_with fail
  clear rca0 rca1 rca2 rca3 rca4 rca5 rca6 rca7
  clear rcb0 rcb1 rcb2 rcb3 rcb4 rcb5 rcb6 rcb7
  refine (samerec_any r0 r0 A2 (some ⟨w.heap.size, 0, none⟩) 1 1 c2 1 true w5.heap.size w5 (sb.mono (by omega)) (sa.mono (by omega)) (Nat.le_refl _) (by omega) (by omega) (decide_eq_true rfl)).mono ?_
  rintro e w6 ⟨rfl, hb6⟩
  have hzw6 : w5.heap.size ≤ w6.heap.size := hb6.size
  have rca := RCells.keep rca hb6 (by omega)
  have rcb := RCells.keep rcb hb6 (by omega)
  have sa := Sl.below sa (hb6.mono (by omega))
  have sy := Sl.below sy (hb6.mono (by omega))
  have sb := Sl.below sb (hb6.mono (by omega))
  have hbw := hbw.trans (hb6.mono (by omega))
  clear hb6
  go_wp2_with fail
  go_ret
  exact ⟨rfl, hbw⟩
end Go.Proofs.Ythafodblffgmmaa
