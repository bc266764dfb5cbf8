/- Which records may be. -/
import Derived.Test.YthafodblffgmmaaRecMath
import Derived.Test.YthafodblffgmmaaLists
import Derived.BigGuardPart
namespace Go.Proofs.Ythafodblffgmmaa
open Go.RowKit Wells
theorem mayid_any (x : Int) (r : Bool) (w : World) (hr : decide (0 ≤ x ∧ x ≤ 65535) = r) : Calls Try.prog 28 #[.int .i64 x] w fun e w' => e = .returned (.bool r) ∧ w' = w := by
  have HR := hid hr
  clear hr
  go_enter Try.func28, Try.ntmps28
  go_wp2_with fail
  all_goals (go_ret; exact ⟨ret_bool (by rw [← HR.out]; first | (refine decide_eq_decide.2 ?_; omega) | (refine (decide_eq_false ?_).symm; omega)), rfl⟩)
theorem int_beq (a b : Int) : (a == b) = decide (a = b) := by
  by_cases h : a = b
  · subst h; simp
  · simp [h]
theorem recmay_any (r : Rec) (A : Option Addr) (n c : Nat) (b : Bool) (w : World) (hn : r.D.length = n) (hb : r.may = b) : Calls Try.prog 12 #[r.val (.slice A n c)] w fun e w' => e = .returned (.bool b) ∧ Below w.heap.size w w' := by
  obtain ⟨O, B, I, ⟨K, H, S⟩, s, D⟩ := r
  unfold Rec.val
  have HB := hid hb
  unfold Rec.may at HB
  dsimp only at *
  have HN := hid hn
  have hbi := s.isLt
  clear hn hb
  go_enter Try.func12, Try.ntmps12
  go_wp2_with fail
  all_goals try (go_ret; exact ⟨ret_bool (by rw [← HB.out]; refine (decide_eq_false ?_).symm; omega), (Below.refl _ _).alloc (Nat.le_refl _) _⟩)
  obtain ⟨pm, hpm⟩ : ∃ b, Par.may ⟨K, H, S⟩ = b := ⟨_, rfl⟩
  have HPM := hid hpm
  have hr0 := Row.new w 27 #[.int .i64 O, .int .i64 B, .int .i64 I, .int .i64 K, .int .i64 H, .int .i64 S, .int .u32 (s.toNat : Int), .slice A n c]
  have hb0 : Below w.heap.size w (w.alloc (.cells #[.int .i64 O, .int .i64 B, .int .i64 I, .int .i64 K, .int .i64 H, .int .i64 S, .int .u32 (s.toNat : Int), .slice A n c] 27)) := (Below.refl _ _).alloc (Nat.le_refl _) _
  have hlt := hr0.lt
  generalize w.alloc (.cells #[.int .i64 O, .int .i64 B, .int .i64 I, .int .i64 K, .int .i64 H, .int .i64 S, .int .u32 (s.toNat : Int), .slice A n c] 27) = w1 at *
  refine (premay_any ⟨K, H, S⟩ pm w1 hpm).mono ?_
  rintro e w2 ⟨rfl, hb2⟩
  have hr2 := hr0.below hb2 hlt
  have hc5 := hr2.cell 5
  have hc7 := hr2.cell 7
  have bt := hb0.trans (hb2.mono (by omega))
  simp only [List.getElem?_cons_succ, List.getElem?_cons_zero] at hc5 hc7
  clear hpm hr0 hr2 hb2 hb0
  cases pm
  · go_wp2_with fail
    go_ret
    exact ⟨ret_bool (by rw [← HB.out]; refine (decide_eq_false fun h => ?_).symm; have := HPM.out; simp [this] at h), bt⟩
  · go_wp2_with fail
    go_ret
    exact ⟨ret_bool (by rw [← HB.out, HPM.out, HN.out, int_beq]; refine decide_eq_decide.2 ⟨fun h => ⟨by omega, by omega, by omega, by omega, by omega, by omega, rfl, h⟩, fun h => h.2.2.2.2.2.2.2⟩), bt⟩
theorem refrecmay_any (r : Rec) (A : Option Addr) (n c : Nat) (b : Bool) (w : World) (hn : r.D.length = n) (hb : r.may = b) : Calls Try.prog 13 #[r.val (.slice A n c)] w fun e w' => e = .returned (.bool b) ∧ Below w.heap.size w w' := by
  obtain ⟨O, B, I, ⟨K, H, S⟩, s, D⟩ := r
  unfold Rec.val
  have HB := hid hb
  unfold Rec.may at HB
  dsimp only at *
  have HN := hid hn
  have hbi := s.isLt
  clear hn hb
  go_enter Try.func13, Try.ntmps13
  go_wp2_with fail
  all_goals try (go_ret; exact ⟨ret_bool (by rw [← HB.out]; refine (decide_eq_false ?_).symm; omega), (Below.refl _ _).alloc (Nat.le_refl _) _⟩)
  refine (mayid_any I _ _ rfl).mono ?_
  rintro e w1 ⟨rfl, rfl⟩
  by_cases hI : 0 ≤ I ∧ I ≤ 65535
  rotate_left
  · rw [decide_eq_false hI]
    go_wp2_with fail
    go_ret
    exact ⟨ret_bool (by rw [← HB.out]; refine (decide_eq_false ?_).symm; omega), (Below.refl _ _).alloc (Nat.le_refl _) _⟩
  rw [decide_eq_true hI]
  go_wp2_with fail
  obtain ⟨pm, hpm⟩ : ∃ b, Par.may ⟨K, H, S⟩ = b := ⟨_, rfl⟩
  have HPM := hid hpm
  have hr0 := Row.new w 27 #[.int .i64 O, .int .i64 B, .int .i64 I, .int .i64 K, .int .i64 H, .int .i64 S, .int .u32 (s.toNat : Int), .slice A n c]
  have hb0 : Below w.heap.size w (w.alloc (.cells #[.int .i64 O, .int .i64 B, .int .i64 I, .int .i64 K, .int .i64 H, .int .i64 S, .int .u32 (s.toNat : Int), .slice A n c] 27)) := (Below.refl _ _).alloc (Nat.le_refl _) _
  have hlt := hr0.lt
  generalize w.alloc (.cells #[.int .i64 O, .int .i64 B, .int .i64 I, .int .i64 K, .int .i64 H, .int .i64 S, .int .u32 (s.toNat : Int), .slice A n c] 27) = w1 at *
  refine (refmay_any ⟨K, H, S⟩ pm w1 hpm).mono ?_
  rintro e w2 ⟨rfl, hb2⟩
  have hr2 := hr0.below hb2 hlt
  have hc5 := hr2.cell 5
  have hc7 := hr2.cell 7
  have bt := hb0.trans (hb2.mono (by omega))
  simp only [List.getElem?_cons_succ, List.getElem?_cons_zero] at hc5 hc7
  clear hpm hr0 hr2 hb2 hb0
  cases pm
  · go_wp2_with fail
    go_ret
    exact ⟨ret_bool (by rw [← HB.out]; refine (decide_eq_false fun h => ?_).symm; have := HPM.out; simp [this] at h), bt⟩
  · go_wp2_with fail
    go_ret
    exact ⟨ret_bool (by rw [← HB.out, HPM.out, HN.out, int_beq]; refine decide_eq_decide.2 ⟨fun h => ⟨by omega, by omega, by omega, by omega, by omega, by omega, rfl, h⟩, fun h => h.2.2.2.2.2.2.2⟩), bt⟩
end Go.Proofs.Ythafodblffgmmaa
