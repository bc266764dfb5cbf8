/- 'Turn': bits of a mask, turned in bytes of one's own. -/
import Derived.Test.YthplfhjdlbhmlaaSum
import Derived.Test.YthplfhjdlbhmlaaBurstMath
namespace Go.Proofs.Ythplfhjdlbhmlaa
open Go.RowKit Wells
theorem own_row {w : World} {base : Nat} {e : TypeId} {n c : Nat} {A : Option Addr} {xs : List Value} (h : w.ownsRow base e 1 (.slice A n c) n xs) (hn : 0 < n) :
    ∃ g cur, A = some ⟨g, 0, none⟩ ∧ base ≤ g ∧ Row w g e cur ∧ cur.length = c ∧ cur.take n = xs ∧ n ≤ c ∧ c ≤ maxLen := by
  rcases h.2 with ⟨_, h0⟩ | ⟨g, cap, cur, hv, hb, hg, hnc, hc, hs, ht⟩
  · omega
  · injection hv with e1 _ e2
    subst e1 e2
    exact ⟨g, cur.toList, rfl, hb, by simpa [Row] using hg, by simpa using hs, by simpa using ht, hnc, hc⟩
theorem mask_bit (mask : BitVec 32) (k : Nat) (hk : k < 32) : bits .and .u32 ((mask.toNat : Int) / 2 ^ k) 1 = 1 ↔ mask.getLsbD k = true := by
  have e : (mask.toNat : Int) / 2 ^ k = ((mask >>> k).toNat : Int) := by
    rw [BitVec.toNat_ushiftRight, Nat.shiftRight_eq_div_pow]; simp
  rw [e, and1]
  have h2 : mask.getLsbD k = (mask >>> k).getLsbD 0 := by rw [BitVec.getLsbD_ushiftRight, Nat.add_zero]
  rw [h2, lsb_of, decide_eq_true_iff]
  omega
theorem only_set {w wr : World} {g : Nat} (h : w.grownBy wr (some g)) (j : Nat) (u : Value) : w.grownBy (wr.setCell ⟨g, j, none⟩ u) (some g) :=
  ⟨h.os, h.tape, h.output, by simpa [World.setCell] using h.size, fun i hi hne => (Below.heap_setCell wr ⟨g, j, none⟩ u i (fun e => hne (by rw [e]))).trans (h.block i hi hne)⟩
theorem only_drew {w wr : World} {row : Option Nat} (h : w.grownBy wr row) : w.grownBy wr.drew row := ⟨h.os, h.tape, h.output, h.size, h.block⟩
theorem only_drewN {w wr : World} {row : Option Nat} (h : w.grownBy wr row) (d : Nat) : w.grownBy (wr.drewN d) row := ⟨h.os, h.tape, h.output, h.size, h.block⟩
theorem shl8 (r : Nat) (hr : r < 8) : (2 : Int) ^ r % 256 = ((1#8 <<< r).toNat : Int) := by
  obtain rfl | rfl | rfl | rfl | rfl | rfl | rfl | rfl : r = 0 ∨ r = 1 ∨ r = 2 ∨ r = 3 ∨ r = 4 ∨ r = 5 ∨ r = 6 ∨ r = 7 := by omega
  all_goals decide
theorem x8 (a b : BitVec 8) : bits .xor .u8 (a.toNat : Int) (b.toNat : Int) = ((a ^^^ b).toNat : Int) := by
  rw [u8_xor_nat _ _ a.isLt b.isLt, BitVec.toNat_xor]
theorem walk_Turn (base : Nat) (A : Option Addr) (n c : Nat) (l : List Byte) (bit : Nat) (mask : BitVec 32) (w : World)
    (h : w.ownsRow base 5 1 (.slice A n c) n (l.map bv8)) (hn : 0 < n) (hn2 : n ≤ 1048576) (hb : bit < 8 * n) :
    Calls Try.prog 20 #[.slice A n c, .int .i64 bit, .int .u32 (mask.toNat : Int)] w fun e w' => e = .returned (.int .i64 (turnN n bit mask 32 : Nat)) ∧
      w'.ownsRow base 5 1 (.slice A n c) n ((xr l (errL n bit mask 32)).map bv8) ∧ w.grownBy w' (Value.slice A n c).ownBlock := by
  obtain ⟨g, cur, rfl, hbg, hr, hcl, hct, hnc, hcm⟩ := own_row h hn
  have hcl := hid hcl
  have hcm := hid hcm
  have hmb := mask.isLt
  have hll := hid (show l.length = n by have := h.1; simpa using this)
  go_enter Try.func20, Try.ntmps20
  go_wp2
  go_loopw [7, 8] (fun t i wr => ∃ k : Nat, k ≤ 32 ∧ i = .int .i64 k ∧ t = .int .i64 (turnN n bit mask k : Nat) ∧ Row wr g 5 ((xr l (errL n bit mask k)).map bv8 ++ cur.drop n) ∧ w.grownBy wr (some g)) (fun _ i _ => 32 - (intOf i).toNat)
  case atStart =>
    refine ⟨0, by omega, rfl, rfl, hr.to ?_, World.grownBy.refl w _⟩
    have e0 : xr l (errL n bit mask 0) = l := by
      apply List.ext_getElem?
      intro j
      by_cases hj : j < n
      · have hz : errB bit mask 0 j = 0#8 := by
          apply BitVec.eq_of_getLsbD_eq
          intro r hr
          rw [errB_get _ _ _ _ _ hr, decide_eq_false (by omega)]
          simp
        simp [xr, errL, List.getElem?_zipWith, hj, hll.out, hz]
      · rw [List.getElem?_eq_none (by rw [xr_length, errL_length]; omega), List.getElem?_eq_none (by rw [hll.out]; omega)]
    rw [e0, ← hct, List.take_append_drop]
  case round =>
    obtain ⟨k, hk, rfl, rfl, hR, hG⟩ := hrel
    have htn := turnN_le n bit mask k
    have HT := hid (show turnN n bit mask (k + 1) = turnN n bit mask k + if mask.getLsbD k = true ∧ bit + k < 8 * n then 1 else 0 from rfl)
    generalize ht : turnN n bit mask k = t at *
    have HT0 := hid ht
    clear ht
    have hxlen : (xr l (errL n bit mask k)).length = n := by rw [xr_length, errL_length, hll.out]; omega
    have HXL := hid hxlen
    clear hxlen
    go_wp2_with fail
    · have hmk : mask.getLsbD k = true := (mask_bit mask k (by omega)).1 (by assumption)
      have hkk : bit + k < 8 * n := by omega
      have hset := xr_errL_turn l n bit mask k hll.out hmk hkk
      obtain ⟨j, hj⟩ : ∃ j, j = (bit + k) / 8 := ⟨_, rfl⟩
      obtain ⟨r, hrr⟩ : ∃ r, r = (bit + k) % 8 := ⟨_, rfl⟩
      have hjn : j < n := by omega
      have hr8 : r < 8 := by omega
      have ej : (((bit : Int) + (k : Int)) / 8) = (j : Int) := by omega
      have er : (((bit : Int) + (k : Int)) % 8) = (r : Int) := by omega
      have hfz := hR.frozen j
      obtain ⟨x, hx⟩ : ∃ x, x = (xr l (errL n bit mask k)).getD j 0 := ⟨_, rfl⟩
      have hcx : wr.cell? ⟨g, j, none⟩ = some (.int .u8 (x.toNat : Int)) := by
        rw [hR.cell j, List.getElem?_append_left (by rw [List.length_map, HXL.out]; exact hjn), u8_get _ _ (by rw [HXL.out]; exact hjn), ← hx]
        rfl
      have HS := hid hset
      have HX := hid hx
      rw [← hj, ← hrr] at HS
      clear hset hx hj hrr
      rw [if_pos ⟨hmk, hkk⟩] at HT
      have hx8 := x.isLt
      go_region
      all_goals go_wp2
      go_roundw
      case rel =>
        refine ⟨k + 1, by omega, by go_num, by rw [HT.out]; go_num, (hR.set j _).to ?_, only_drew (only_set hG _ _)⟩
        rw [HS.out, List.set_append_left _ _ (by rw [List.length_map, HXL.out]; exact hjn), List.map_set, ← HX.out]
        unfold bv8
        rw [shl8 r hr8, x8]
      case measure => simp [intOf]; omega
    · have hno : ¬ (mask.getLsbD k = true ∧ bit + k < 8 * n) := by omega
      rw [if_neg hno, Nat.add_zero] at HT
      go_roundw
      case rel => exact ⟨k + 1, by omega, by go_num, by rw [HT.out]; rfl, by rw [xr_errL_stay _ _ _ _ _ hno]; exact hR, hG⟩
      case measure => simp [intOf]; omega
    · have hno : ¬ (mask.getLsbD k = true ∧ bit + k < 8 * n) := by
        rintro ⟨h1, _⟩
        exact absurd ((mask_bit mask k (by omega)).2 h1) (by assumption)
      rw [if_neg hno, Nat.add_zero] at HT
      go_roundw
      case rel => exact ⟨k + 1, by omega, by go_num, by rw [HT.out]; rfl, by rw [xr_errL_stay _ _ _ _ _ hno]; exact hR, hG⟩
      case measure => simp [intOf]; omega
    · have hk32 : k = 32 := by omega
      subst hk32
      go_ret
      refine ⟨ret_int (by rw [HT0.out]), ⟨by rw [List.length_map, HXL.out, Nat.mul_one], .inr ⟨g, c, _, rfl, hbg, hR, ?_, ?_, ?_, ?_⟩⟩, hG⟩
      · exact hnc
      · exact hcm.out
      · have h1 := hcl.out
        have h2 := HXL.out
        simp [h1, h2]; omega
      · have h2 := HXL.out
        simp [h2]
end Go.Proofs.Ythplfhjdlbhmlaa
