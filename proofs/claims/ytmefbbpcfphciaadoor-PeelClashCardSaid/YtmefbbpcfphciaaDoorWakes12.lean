/- The example of the document. -/
import Derived.Test.YtmefbbpcfphciaaDoorPMade
import Derived.Test.YtmefbbpcfphciaaDoorSameEqs
namespace Wells
open Go Go.RowKit
def wrows : List Eqn := [⟨[0], [1#8]⟩, ⟨[0, 1], [3#8]⟩]
def wv (c : Int) : List (BitVec 8) := if c = 0 then [1#8] else [2#8]
theorem wrows_right : RightP 2 wrows := ⟨by omega, by omega, fun i hi => by
  have hi : i < 2 := hi
  obtain rfl | rfl : i = 0 ∨ i = 1 := by omega
  · refine ⟨fun j hj => ?_, rfl⟩
    have hj : j < 1 := hj
    obtain rfl : j = 0 := by omega
    exact ⟨by decide, by decide, fun h => absurd h (by omega)⟩
  · refine ⟨fun j hj => ?_, rfl⟩
    have hj : j < 2 := hj
    obtain rfl | rfl : j = 0 ∨ j = 1 := by omega
    · exact ⟨by decide, by decide, fun h => absurd h (by omega)⟩
    · exact ⟨by decide, by decide, fun _ => by decide⟩⟩
theorem wmade : Made 2 1 wv wrows := ⟨fun q hq => by
  unfold wrows at hq
  simp only [List.mem_cons, List.not_mem_nil, or_false] at hq
  rcases hq with rfl | rfl <;> decide, fun c _ _ => by unfold wv; split <;> rfl⟩
theorem wend {T : PSt} (hr : Wells.Reach 2 wrows T) (hf : Final wrows T) : T.known = [true, true] ∧ T.vals.length = 2 ∧ T.vals.getD 1 [] = [2#8] ∧ T.left wrows = [] ∧ Sound wrows T := by
  have hR := right_of wrows_right
  have fm := hr.form hR
  have k0 : T.kn 0 = true := by
    cases h : T.kn 0 with
    | true => rfl
    | false =>
      exfalso
      refine hf ⟨[0], [1#8]⟩ (by unfold wrows; simp) ?_
      unfold PSt.opn
      simp [h]
  have k1 : T.kn 1 = true := by
    cases h : T.kn 1 with
    | true => rfl
    | false =>
      exfalso
      refine hf ⟨[0, 1], [3#8]⟩ (by unfold wrows; simp) ?_
      unfold PSt.opn
      simp [h, k0]
  have hv := hr.made hR wmade 1 (by omega) k1
  refine ⟨?_, fm.vl, ?_, ?_, made_sound hR wmade hr⟩
  · have hl := fm.kl
    unfold PSt.kn at k0 k1
    match hT : T.known with
    | [a, b] =>
      rw [hT] at k0 k1
      simp at k0 k1
      rw [k0, k1]
    | [] => rw [hT] at hl; simp at hl
    | [_] => rw [hT] at hl; simp at hl
    | _ :: _ :: _ :: _ => rw [hT] at hl; simp at hl
  · unfold PSt.val at hv
    exact hv
  · unfold PSt.left wrows PSt.opn
    simp [k0, k1]
end Wells
namespace Go.Proofs.YtmefbbpcfphciaaDoor
open Go.RowKit Wells
theorem wreqs (w : World) (a0 a1 a2 a3 a4 : Nat) (h0 : Row w a0 3 [.int .i64 0]) (h1 : Row w a1 5 [.int .u8 1]) (h2 : Row w a2 3 [.int .i64 0, .int .i64 1]) (h3 : Row w a3 5 [.int .u8 3])
    (h4 : Row w a4 27 [.slice (some ⟨a0, 0, none⟩) 1 1, .slice (some ⟨a1, 0, none⟩) 1 1, .slice (some ⟨a2, 0, none⟩) 2 2, .slice (some ⟨a3, 0, none⟩) 1 1]) :
    REqs w w.heap.size (some ⟨a4, 0, none⟩) 2 [(.slice (some ⟨a0, 0, none⟩) 1 1, .slice (some ⟨a1, 0, none⟩) 1 1), (.slice (some ⟨a2, 0, none⟩) 2 2, .slice (some ⟨a3, 0, none⟩) 1 1)] wrows := by
  refine ⟨⟨rfl, fun _ => ⟨a4, 0, rfl, h4.lt, fun j u hu => ?_⟩⟩, rfl, rfl, fun i hi => ?_⟩
  · rw [Nat.zero_add, h4.cell]; exact hu
  · obtain rfl | rfl : i = 0 ∨ i = 1 := by omega
    · exact ⟨⟨_, 1, rfl, Nat.le_refl _, by omega, h0.sl h0.lt (Nat.le_refl _)⟩, ⟨_, 1, rfl, Nat.le_refl _, by omega, h1.sl h1.lt (Nat.le_refl _)⟩⟩
    · exact ⟨⟨_, 2, rfl, Nat.le_refl _, by omega, h2.sl h2.lt (Nat.le_refl _)⟩, ⟨_, 1, rfl, Nat.le_refl _, by omega, h3.sl h3.lt (Nat.le_refl _)⟩⟩
set_option maxRecDepth 20000 in
set_option maxHeartbeats 2000000 in
theorem wakes12 (w : World) : Calls Tryd.prog 7 #[] w fun e w' => e = .returned (.bool true) ∧ Below w.heap.size w w' := by
  let w1 := w.alloc (.cells #[.int .i64 0] 3)
  let w2 := w1.alloc (.cells #[.int .u8 1] 5)
  let w3 := w2.alloc (.cells #[.int .i64 0, .int .i64 1] 3)
  let w4 := w3.alloc (.cells #[.int .u8 3] 5)
  let w5 := w4.alloc (.cells #[.slice (some ⟨w.heap.size, 0, none⟩) 1 1, .slice (some ⟨w.heap.size + 1, 0, none⟩) 1 1, .slice (some ⟨w.heap.size + 1 + 1, 0, none⟩) 2 2, .slice (some ⟨w.heap.size + 1 + 1 + 1, 0, none⟩) 1 1] 27)
  have z1 : w1.heap.size = w.heap.size + 1 := by simp [w1]
  have z2 : w2.heap.size = w.heap.size + 1 + 1 := by simp [w2, w1]
  have z3 : w3.heap.size = w.heap.size + 1 + 1 + 1 := by simp [w3, w2, w1]
  have z4 : w4.heap.size = w.heap.size + 1 + 1 + 1 + 1 := by simp [w4, w3, w2, w1]
  have z5 : w5.heap.size = w.heap.size + 1 + 1 + 1 + 1 + 1 := by simp [w5, w4, w3, w2, w1]
  have r0 := ((((Row.new w 3 #[.int .i64 0]).alloc (.cells #[.int .u8 1] 5)).alloc (.cells #[.int .i64 0, .int .i64 1] 3)).alloc (.cells #[.int .u8 3] 5)).alloc (.cells #[.slice (some ⟨w.heap.size, 0, none⟩) 1 1, .slice (some ⟨w.heap.size + 1, 0, none⟩) 1 1, .slice (some ⟨w.heap.size + 1 + 1, 0, none⟩) 2 2, .slice (some ⟨w.heap.size + 1 + 1 + 1, 0, none⟩) 1 1] 27)
  have r1 := (((Row.new w1 5 #[.int .u8 1]).alloc (.cells #[.int .i64 0, .int .i64 1] 3)).alloc (.cells #[.int .u8 3] 5)).alloc (.cells #[.slice (some ⟨w.heap.size, 0, none⟩) 1 1, .slice (some ⟨w.heap.size + 1, 0, none⟩) 1 1, .slice (some ⟨w.heap.size + 1 + 1, 0, none⟩) 2 2, .slice (some ⟨w.heap.size + 1 + 1 + 1, 0, none⟩) 1 1] 27)
  have r2 := ((Row.new w2 3 #[.int .i64 0, .int .i64 1]).alloc (.cells #[.int .u8 3] 5)).alloc (.cells #[.slice (some ⟨w.heap.size, 0, none⟩) 1 1, .slice (some ⟨w.heap.size + 1, 0, none⟩) 1 1, .slice (some ⟨w.heap.size + 1 + 1, 0, none⟩) 2 2, .slice (some ⟨w.heap.size + 1 + 1 + 1, 0, none⟩) 1 1] 27)
  have r3 := (Row.new w3 5 #[.int .u8 3]).alloc (.cells #[.slice (some ⟨w.heap.size, 0, none⟩) 1 1, .slice (some ⟨w.heap.size + 1, 0, none⟩) 1 1, .slice (some ⟨w.heap.size + 1 + 1, 0, none⟩) 2 2, .slice (some ⟨w.heap.size + 1 + 1 + 1, 0, none⟩) 1 1] 27)
  have r4 := Row.new w4 27 #[.slice (some ⟨w.heap.size, 0, none⟩) 1 1, .slice (some ⟨w.heap.size + 1, 0, none⟩) 1 1, .slice (some ⟨w.heap.size + 1 + 1, 0, none⟩) 2 2, .slice (some ⟨w.heap.size + 1 + 1 + 1, 0, none⟩) 1 1]
  rw [z1] at r1
  rw [z2] at r2
  rw [z3] at r3
  rw [z4] at r4
  have HQ := hid (wreqs w5 _ _ _ _ _ r0 r1 r2 r3 r4)
  have hb5 : Below w.heap.size w w5 := (((((Below.refl _ w).alloc (Nat.le_refl _) _).alloc (by simp) _).alloc (by simp; omega) _).alloc (by simp; omega) _).alloc (by simp; omega) _
  have HB5 := hid hb5
  have hz5 : w.heap.size ≤ w5.heap.size := by omega
  obtain ⟨wx, hwx⟩ : ∃ wx, w5 = wx := ⟨_, rfl⟩
  have HW := hid hwx
  rw [hwx] at HQ HB5 hz5
  have hr : ∀ q ∈ wrows, (∀ x ∈ q.cols, -9223372036854775808 ≤ x ∧ x ≤ 9223372036854775807) ∧ q.cols.length ≤ 1048576 ∧ q.data.length ≤ 1048576 := fun q hq => by
    unfold wrows at hq
    simp only [List.mem_cons, List.not_mem_nil, or_false] at hq
    rcases hq with rfl | rfl
    · exact ⟨by simp, by simp, by simp⟩
    · exact ⟨by simp, by simp, by simp⟩
  have HRW := hid hr
  clear r0 r1 r2 r3 r4 hb5 hr z1 z2 z3 z4 z5 hwx
  go_enter Tryd.func7, Tryd.ntmps7
  go_wp2_with fail
  have HW2 : (((((w.alloc (.cells #[.int .i64 0] 3)).alloc (.cells #[.int .u8 1] 5)).alloc (.cells #[.int .i64 0, .int .i64 1] 3)).alloc (.cells #[.int .u8 3] 5)).alloc (.cells #[.slice (some ⟨w.heap.size, 0, none⟩) 1 1, .slice (some ⟨w.heap.size + 1, 0, none⟩) 1 1, .slice (some ⟨w.heap.size + 1 + 1, 0, none⟩) 2 2, .slice (some ⟨w.heap.size + 1 + 1 + 1, 0, none⟩) 1 1] 27)) = wx := HW.out
  rw [HW2]
  clear HW2 HW
  clear w5 w4 w3 w2 w1
  refine (peel_any 2 wx.heap.size _ 2 2 _ wrows wx HQ.out (Nat.le_refl _) (by omega) (by omega) (fun q hq => (HRW.out q hq).1) (fun q hq => (HRW.out q hq).2.1) (fun q hq => (HRW.out q hq).2.2)).mono ?_
  rintro e w6 ⟨hb6, hor⟩
  have HB6 := hid (HB5.out.trans (hb6.mono hz5))
  have hz6 := hb6.size
  rcases hor with ⟨hno, _⟩ | ⟨_, T, hT, hF, hor⟩
  · exact absurd wrows_right hno
  obtain ⟨hk, hvl, hv1, hleft, hs⟩ := wend hT hF
  rcases hor with ⟨hno, _⟩ | ⟨_, vk, vv, vr, vs, ps, rfl, ok, ov, orr⟩
  · exact absurd hs hno
  rw [hk] at ok
  rw [hleft] at orr
  obtain ⟨Ak, ck, rfl, _, _, sk⟩ := own_slice ok
  obtain ⟨Av, cv, rfl, _, _⟩ := ov.form
  obtain ⟨Ar, cr, rfl, _, _⟩ := orr.form
  have hrv := (ov.read rfl)
  rw [hvl] at hrv ⊢
  obtain ⟨bv, ovf, A1, c1, ev, hbv, kv, l1, l2, s1⟩ := hrv.get (k := 1) (by omega)
  subst ev
  rw [hv1] at kv l1 s1
  have sk' : Sl w6 w6.heap.size 1 Ak 2 [.bool true, .bool true] := sk
  obtain ⟨bk, okf, ek, hbk, kc⟩ := sk'.at_ (by omega)
  subst ek
  have k0 := kc 0 (.bool true) rfl
  have k1 := kc 1 (.bool true) rfl
  have k0' : w6.cell? ⟨bk, okf, none⟩ = some (.bool true) := k0
  have HS1 := hid s1
  have hbx : Below w6.heap.size w6 (w6.alloc (.cells #[.int .u8 2] 5)) := (Below.refl _ _).alloc (Nat.le_refl _) _
  have HS1x := hid (s1.below hbx)
  have hx := (Row.new w6 5 #[.int .u8 2]).sl (B := w6.heap.size + 1) (m := 1) (by omega) (Nat.le_refl _)
  have HX := hid (show Sl _ _ 1 _ 1 ([2#8].map bv8) from hx)
  have HBX := hid (HB6.out.trans (hbx.mono (by omega)))
  clear kc k0 sk sk' ok ov orr hrv s1 hx hbx hk hvl hv1 hleft hb6
  go_wp2_with fail
  refine (same_is true (w6.heap.size + 1) A1 _ [2#8] [2#8] 1 1 c1 1 _ (HS1x.out.mono (by omega)) HX.out (by omega) (by omega) (decide_eq_true rfl)).mono ?_
  rintro e w7 ⟨rfl, d, rfl⟩
  go_wp2_with fail
  go_ret
  exact ⟨rfl, below_drewN HBX.out d⟩
end Go.Proofs.YtmefbbpcfphciaaDoor
