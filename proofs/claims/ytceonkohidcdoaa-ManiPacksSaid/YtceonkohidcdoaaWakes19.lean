/- The example of chapter 19. -/
import Derived.Test.YtceonkohidcdoaaPack
import Derived.Test.YtceonkohidcdoaaParse
import Derived.Test.YtceonkohidcdoaaReadBack
namespace Wells
open Go Go.RowKit
def mani0 : Mani := ⟨1, 0, ⟨1, 1, 1⟩, 0, [3], []⟩
theorem mani0_may : mani0.may = true := by decide +kernel
theorem mani0_len : (pack mani0).length = 15 := by decide +kernel
theorem mani0_64 : M64 mani0 := ⟨by unfold i64; decide, by unfold i64; decide, by unfold i64; decide, by unfold i64; decide, by unfold i64; decide, by unfold i64; decide, fun z h => by unfold i64; simp [mani0] at h; omega, fun e h => by cases h⟩
theorem mani0_nm : ∀ e ∈ mani0.objs, e.name.length ≤ 1048576 := fun e h => by cases h
theorem mani0_parse : parseL (pack mani0) = some mani0 := parseL_pack mani0_may
theorem REs.nil_ (w : World) (B : Nat) (A : Option Addr) : REs w B A 0 [] [] := ⟨Sl.nil_, rfl, rfl, fun i hi => absurd hi (by omega)⟩
theorem mani0_rm {w : World} {B g c : Nat} {A : Option Addr} (h : Sl w B 1 (some ⟨g, 0, none⟩) 1 [.int .i64 3]) (hc : 1 ≤ c ∧ c ≤ 9223372036854775807) : RM w B mani0 (some ⟨g, 0, none⟩) 1 c A 0 0 [] :=
  ⟨h, rfl, hc, REs.nil_ _ _ _, by omega⟩
end Wells
namespace Go.Proofs.Ytceonkohidcdoaa
open Go.RowKit Wells
set_option maxRecDepth 20000 in
set_option maxHeartbeats 2000000 in
theorem wakes19 (w : World) : Calls Try.prog 10 #[] w fun e w' => e = .returned (.bool true) ∧ Below w.heap.size w w' := by
  have hnm := name_any [97#8, 45#8, 49#8] true
  have e1 : strB [97#8, 45#8, 49#8] = ⟨#[97, 45, 49]⟩ := by rfl
  rw [e1] at hnm
  have HNM := hid hnm
  have HLN := hid mani0_len
  clear hnm e1
  have hr0 := Row.new w 3 #[.int .i64 3]
  have hb1 : Below w.heap.size w (w.alloc (.cells #[.int .i64 3] 3)) := (Below.refl _ _).alloc (Nat.le_refl _) _
  have hr1 := Row.new (w.alloc (.cells #[.int .i64 3] 3)) 27 #[.int .i64 1, .int .i64 0, .int .i64 1, .int .i64 1, .int .i64 1, .int .i64 0, .slice (some ⟨w.heap.size, 0, none⟩) 1 1, .slice none 0 0]
  have hr0' := hr0.alloc (.cells #[.int .i64 1, .int .i64 0, .int .i64 1, .int .i64 1, .int .i64 1, .int .i64 0, .slice (some ⟨w.heap.size, 0, none⟩) 1 1, .slice none 0 0] 27)
  have hb2 := hb1.alloc hb1.size (.cells #[.int .i64 1, .int .i64 0, .int .i64 1, .int .i64 1, .int .i64 1, .int .i64 0, .slice (some ⟨w.heap.size, 0, none⟩) 1 1, .slice none 0 0] 27)
  have hs0 := hr0'.sl (B := ((w.alloc (.cells #[.int .i64 3] 3)).alloc (.cells #[.int .i64 1, .int .i64 0, .int .i64 1, .int .i64 1, .int .i64 1, .int .i64 0, .slice (some ⟨w.heap.size, 0, none⟩) 1 1, .slice none 0 0] 27)).heap.size) (m := 1) hr0'.lt (by simp)
  have hrm := mani0_rm (A := none) (c := 1) hs0 (by omega)
  have hg : (w.alloc (.cells #[.int .i64 3] 3)).heap.size = w.heap.size + 1 := by simp
  rw [hg] at hr1
  clear hr0 hb1 hr0' hs0 hg
  go_enter Try.func10, Try.ntmps10
  go_wp2_with fail
  generalize (w.alloc (.cells #[.int .i64 3] 3)).alloc (.cells #[.int .i64 1, .int .i64 0, .int .i64 1, .int .i64 1, .int .i64 1, .int .i64 0, .slice (some ⟨w.heap.size, 0, none⟩) 1 1, .slice none 0 0] 27) = w2 at *
  have hz2 := hb2.size
  refine (pack_any mani0 _ _ _ _ _ _ _ _ w2 hrm (Nat.le_refl _) mani0_64 mani0_nm).mono ?_
  rintro e w3 ⟨A3, n3, c3, rfl, hn3, hn3', ho3, hb3⟩
  rw [HLN.out] at hn3
  subst hn3
  have hv3 := ho3.read
  obtain ⟨A3', c3', e3, hc31, hc32, s3⟩ := hv3
  injection e3 with e31 e32 e33
  subst e31 e33
  clear e32
  rw [HLN.out] at s3 hc31
  have hrm3 := hrm.below hb3
  have hr3 := hr1.below hb3 hr1.lt
  have hb03 := hb2.trans (hb3.mono hz2)
  have hz3 := hb3.size
  clear hn3' ho3
  go_wp2_with fail
  refine (parse_any _ A3 15 c3 (pack mani0) w3 s3 (Nat.le_refl _) (by omega) hc31 hc32 (some mani0) mani0_parse).mono ?_
  rintro e w4 ⟨Ad, nd, cd, Ao, no, co, ts, rfl, _, hb4⟩
  have hrm4 := (hrm3.below (hb4.mono hz3)).mono (show w2.heap.size ≤ w4.heap.size by have := hb4.size; omega)
  have hr4 := hr3.below hb4 hr3.lt
  have hb04 := hb03.trans (hb4.mono (by omega))
  have hz4 := hb4.size
  have hob : (some mani0).isSome = true := rfl
  rw [hob]
  clear hob hb3 hb4 hr1 hr3 hrm hrm3 s3
  have hval : ∀ dv ov, ((some mani0).getD Mani.zero).val dv ov = .agg #[.int .i64 1, .int .i64 0, .int .i64 1, .int .i64 1, .int .i64 1, .int .i64 0, dv, ov] := fun _ _ => rfl
  rw [hval]
  clear hval
  have hr5 := hr4.alloc (.cells #[.int .i64 1, .int .i64 0, .int .i64 1, .int .i64 1, .int .i64 1, .int .i64 0, .slice Ad nd cd, .slice Ao no co] 27)
  have hb5 : Below w4.heap.size w4 (w4.alloc (.cells #[.int .i64 1, .int .i64 0, .int .i64 1, .int .i64 1, .int .i64 1, .int .i64 0, .slice Ad nd cd, .slice Ao no co] 27)) := (Below.refl _ _).alloc (Nat.le_refl _) _
  have hrm5 := hrm4.below hb5
  have hb05 := hb04.trans (hb5.mono (by omega))
  have hz5 := hb5.size
  have f0 := hr5.cell 0
  have f1 := hr5.cell 1
  have f2 := hr5.cell 2
  have f3 := hr5.cell 3
  have f4 := hr5.cell 4
  have f5 := hr5.cell 5
  have f6 := hr5.cell 6
  have f7 := hr5.cell 7
  simp only [List.getElem?_cons_succ, List.getElem?_cons_zero] at f0 f1 f2 f3 f4 f5 f6 f7
  clear hr4 hr5 hb5
  go_wp2_with fail
  generalize w4.alloc (.cells #[.int .i64 1, .int .i64 0, .int .i64 1, .int .i64 1, .int .i64 1, .int .i64 0, .slice Ad nd cd, .slice Ao no co] 27) = w5 at *
  refine (may_any mani0 _ _ _ _ _ _ _ _ true w5 hrm5 (by omega) mani0_64 mani0_nm mani0_may).mono ?_
  rintro e w6 ⟨rfl, hb6⟩
  have hb06 := hb05.trans (hb6.mono (by omega))
  have hz6 := hb6.size
  clear hb6 f0 f1 f2 f3 f4 f5 f6 f7 hrm4 hrm5
  go_wp2_with fail
  refine (HNM.out w6 (by simp) (by decide)).mono ?_
  rintro e w7 ⟨rfl, hb7⟩
  have hb07 := hb06.trans (hb7.mono (by omega))
  go_wp2_with fail
  go_ret
  exact ⟨rfl, hb07⟩
end Go.Proofs.Ytceonkohidcdoaa
