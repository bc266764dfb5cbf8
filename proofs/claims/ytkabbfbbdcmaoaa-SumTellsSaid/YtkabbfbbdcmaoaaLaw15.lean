/- The walks of chapter 15's laws. -/
import Derived.Test.YtkabbfbbdcmaoaaSum
import Derived.Test.YtkabbfbbdcmaoaaFrame
import Derived.Test.YtkabbfbbdcmaoaaBurstMath
namespace Go.Proofs.Ytkabbfbbdcmaoaa
open Go.RowKit Wells

theorem below_drewN {B : Nat} {a w : World} (h : Below B a w) (n : Nat) : Below B a (w.drewN n) := ⟨h.os, h.tape, h.output, h.size, h.block⟩
theorem walk_SumTells (A : Option Addr) (n c : Nat) (l : List Byte) (w : World) (h : IsBytes w A n c l) :
    Calls Try.prog 3 #[.slice A n c] w fun e w' => e = .returned (.bool true) ∧ Below w.heap.size w w' := by
  obtain ⟨hs, hle, hcap⟩ := h
  obtain ⟨m, hm⟩ : ∃ m, m = min n 300 := ⟨_, rfl⟩
  have hml : m ≤ 300 := by omega
  have hmn : m ≤ n := by omega
  have hs' : Sl w w.heap.size 1 A m ((l.take m).map u8) := by
    have := hs.take hmn
    rwa [Nat.mul_one, ← List.map_take] at this
  generalize l.take m = l' at hs'
  have HM := hid hm
  clear hm
  go_enter Try.func3, Try.ntmps3
  go_wp2_with fail
  refine (cut_any A n c m 300 _ (by omega) (by omega) (by omega) hle HM.out).mono ?_
  rintro e w1 ⟨rfl, rfl⟩
  go_wp2_with fail
  refine (spare_any _ A l' m c 71#8 _ hs' (Nat.le_refl _) (by omega)).mono ?_
  rintro e w1 ⟨g, rfl, hg, hr, hb⟩
  have hsr : Sl w1 (w1.heap.size) 1 (some ⟨g, 0, none⟩) m (l'.map u8) := by
    have := hr.sl (B := w1.heap.size) (m := m) hr.lt (by have := hs'.len; simp at this; simp [this])
    rwa [List.take_append_of_le_length (by have := hs'.len; simp at this; simp [this]), List.take_of_length_le (by have := hs'.len; simp at this; simp [this])] at this
  go_wp2_with fail
  refine (sum_any _ _ l' m _ _ hsr (by omega)).mono ?_
  rintro e w2 ⟨rfl, rfl⟩
  go_wp2_with fail
  refine (refsum_any _ _ l' m _ _ (hs'.below hb) (by omega)).mono ?_
  rintro e w2 ⟨rfl, rfl⟩
  go_wp2_with fail
  refine (kept_any _ A g l' m c 71#8 _ (hs'.below hb) hr (by omega)).mono ?_
  rintro e w2 ⟨rfl, d, rfl⟩
  go_wp2_with fail
  refine (wakes15 _).mono ?_
  rintro e w3 ⟨rfl, hb3⟩
  go_wp2
  go_ret
  exact ⟨rfl, (below_drewN hb d).trans (hb3.mono hb.size)⟩
end Go.Proofs.Ytkabbfbbdcmaoaa
