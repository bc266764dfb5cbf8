/- Parameters out of numbers. -/
import Derived.Test.YtceonkohidcdoaaPre
namespace Wells
open Go Go.RowKit
def parOf (a b c : Int) : Par := ⟨1 + a % 16, 1 + b % 4, 1 + c % 24⟩
def smallOf (a b c : Int) : Par := ⟨1 + a % 6, 1 + b % 3, 1 + c % 9⟩
theorem parOf_ok (a b c : Int) : (parOf a b c).Ok := by unfold parOf Par.Ok; dsimp only; omega
theorem smallOf_ok (a b c : Int) : (smallOf a b c).Ok := by unfold smallOf Par.Ok; dsimp only; omega
end Wells
namespace Go.Proofs.Ytceonkohidcdoaa
open Go.RowKit Wells
theorem small_any (p : Par) (a b c : Int) (w : World) (ha : -9223372036854775808 ≤ a ∧ a ≤ 9223372036854775807) (hb : -9223372036854775808 ≤ b ∧ b ≤ 9223372036854775807) (hc : -9223372036854775808 ≤ c ∧ c ≤ 9223372036854775807) (hp : smallOf a b c = p) :
    Calls Try.prog 35 #[.int .i64 a, .int .i64 b, .int .i64 c] w fun e w' => e = .returned (.agg #[.int .i64 p.K, .int .i64 p.H, .int .i64 p.S]) ∧ Below w.heap.size w w' := by
  subst hp
  obtain ⟨x, hx⟩ : ∃ x, a % 6 = x := ⟨_, rfl⟩
  obtain ⟨y, hy⟩ : ∃ y, b % 3 = y := ⟨_, rfl⟩
  obtain ⟨z, hz⟩ : ∃ z, c % 9 = z := ⟨_, rfl⟩
  have h1 : 0 ≤ x ∧ x ≤ 5 := by omega
  have h2 : 0 ≤ y ∧ y ≤ 2 := by omega
  have h3 : 0 ≤ z ∧ z ≤ 8 := by omega
  obtain ⟨h1, h1'⟩ := h1
  obtain ⟨h2, h2'⟩ := h2
  obtain ⟨h3, h3'⟩ := h3
  have HX := hid hx
  have HY := hid hy
  have HZ := hid hz
  clear hx hy hz
  go_enter Try.func35, Try.ntmps35
  go_wp2_with fail
  refine (within_any a 6 _ ha.1 ha.2 (by omega) (by omega)).mono ?_
  rintro e w1 ⟨rfl, rfl⟩
  rw [HX.out]
  go_wp2_with fail
  refine (within_any b 3 _ hb.1 hb.2 (by omega) (by omega)).mono ?_
  rintro e w1 ⟨rfl, rfl⟩
  rw [HY.out]
  go_wp2_with fail
  refine (within_any c 9 _ hc.1 hc.2 (by omega) (by omega)).mono ?_
  rintro e w1 ⟨rfl, rfl⟩
  rw [HZ.out]
  go_wp2
  refine bodyPost_ret (v := .agg #[.int .i64 (1 + x), .int .i64 (1 + y), .int .i64 (1 + z)]) (by simp [results, Try.results35, go_sem]) rfl ⟨?_, (Below.refl _ _).alloc (Nat.le_refl _) _⟩
  rw [← HX.out, ← HY.out, ← HZ.out]
  rfl
end Go.Proofs.Ytceonkohidcdoaa
