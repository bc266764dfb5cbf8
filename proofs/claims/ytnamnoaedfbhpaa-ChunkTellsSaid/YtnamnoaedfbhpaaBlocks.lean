/- Blocks side by side are the object with noughts behind. -/
import Derived.Test.YtnamnoaedfbhpaaWhole
namespace Wells
theorem flat_take (z : Nat) (L : List Byte) : ∀ k, k * z ≤ L.length → ((List.range k).map fun i => (L.drop (i * z)).take z).flatten = L.take (k * z) := by
  intro k
  induction k with
  | zero => intro _; simp
  | succ k ih =>
    intro h
    rw [Nat.succ_mul] at h
    rw [List.range_succ, List.map_append, List.flatten_append, ih (by omega), List.map_singleton, List.flatten_singleton, Nat.succ_mul, List.take_add]
theorem blk_pad (z : Nat) (b : List Byte) (M i : Nat) (h : (i + 1) * z ≤ b.length + M) : blk z b i = ((b ++ List.replicate M 0#8).drop (i * z)).take z := by
  rw [Nat.succ_mul] at h
  unfold blk
  by_cases h1 : i * z ≤ b.length
  · rw [List.drop_append_of_le_length h1, List.take_append]
    congr 1
    rw [List.length_take, List.length_drop, List.take_replicate]
    congr 1
    omega
  · rw [List.drop_eq_nil_of_le (by omega), List.drop_append, List.drop_eq_nil_of_le (by omega)]
    simp
    omega
theorem blocks_flat {p : Par} (hm : p.may = true) (b : List Byte) (z m : Nat) (hz : p.size = (z : Int)) (hc : countP p b.length = (m : Int)) : (blocks p b).flatten = b ++ List.replicate (m * z - b.length) 0#8 := by
  have hcov := count_cover hm (show (0 : Int) ≤ (b.length : Int) by omega)
  rw [hc, hz] at hcov
  have hcov' : b.length ≤ m * z := by
    have : ((m * z : Nat) : Int) = (m : Int) * (z : Int) := Int.natCast_mul _ _
    omega
  unfold blocks
  rw [hc, hz]
  simp only [Int.toNat_natCast]
  have e : (List.range m).map (blk z b) = (List.range m).map fun i => ((b ++ List.replicate (m * z - b.length) 0#8).drop (i * z)).take z := by
    apply List.map_congr_left
    intro i hi
    rw [List.mem_range] at hi
    apply blk_pad
    have : (i + 1) * z ≤ m * z := Nat.mul_le_mul_right z (by omega)
    omega
  rw [e, flat_take z _ m (by simp; omega), List.take_of_length_le (by simp; omega)]
theorem blocks_each (p : Par) (hm : p.may = true) (b : List Byte) : ∀ x ∈ blocks p b, (x.length : Int) = p.size := by
  intro x hx
  unfold blocks at hx
  obtain ⟨i, _, rfl⟩ := List.mem_map.1 hx
  rw [blk_length]
  have := (Par.size_le (Par.may_ok hm)).1
  omega
theorem blocks_length (p : Par) (b : List Byte) : ((blocks p b).length : Int) = countP p b.length := by
  unfold blocks
  simp
  have := (countP_le p b.length).1
  omega
theorem join_back {p : Par} (hm : p.may = true) (b : List Byte) : joinP p (blocks p b) b.length = some b := by
  obtain ⟨m, hc⟩ : ∃ m : Nat, countP p b.length = (m : Int) := ⟨(countP p b.length).toNat, by have := (countP_le p b.length).1; omega⟩
  obtain ⟨z, hz⟩ : ∃ z : Nat, p.size = (z : Int) := ⟨p.size.toNat, by have := (Par.size_le (Par.may_ok hm)).1; omega⟩
  rw [joinP_yes ⟨hm, by omega, blocks_length p b, blocks_each p hm b⟩, blocks_flat hm b z m hz hc]
  simp
/-- the noughts behind are fewer than a block -/
theorem count_least {p : Par} {n : Int} (h : p.may = true) (hn : 0 ≤ n) : countP p n * p.size - n < p.size := by
  have hs := (Par.size_le (Par.may_ok h)).1
  by_cases h0 : 0 < n
  · rw [countP_yes h h0]
    have h1 := Int.mul_ediv_add_emod (n - 1) p.size
    have h2 := Int.emod_nonneg (n - 1) (show p.size ≠ 0 by omega)
    rw [Int.add_mul, Int.one_mul, Int.mul_comm]
    omega
  · rw [countP_no (by omega)]
    omega
end Wells
