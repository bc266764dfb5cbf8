/- RefCount ParseMath -/
import Derived.Test.YtnknjeipfjdjoaaBScanCounts04
import Derived.Test.YtnknjeipfjdjoaaBScanCounts09
set_option maxRecDepth 20000
namespace Wells
open Go Go.RowKit
theorem count_alt (n s : Int) (hn : 0 ≤ n) (hs : 1 ≤ s) : (n / s + if 0 < n % s then 1 else 0) = if 0 < n then (n - 1) / s + 1 else 0 := by
  have h1 := Int.mul_ediv_add_emod n s
  have h2 := Int.emod_nonneg n (show s ≠ 0 by omega)
  have h3 := Int.emod_lt_of_pos n (show 0 < s by omega)
  have key : ∀ a q r : Int, a = s * q + r → 0 ≤ r → r < s → a / s = q := by
    intro a q r ha h0 h4
    rw [ha, Int.add_comm, Int.add_mul_ediv_left _ _ (by omega), Int.ediv_eq_zero_of_lt h0 h4, Int.zero_add]
  generalize n / s = q at *
  generalize n % s = r at *
  by_cases hp : 0 < n
  · rw [if_pos hp]
    by_cases hr : 0 < r
    · rw [if_pos hr, key (n - 1) q (r - 1) (by omega) (by omega) (by omega)]
    · rw [if_neg hr, key (n - 1) (q - 1) (s - 1) (by rw [Int.mul_sub]; omega) (by omega) (by omega)]
      omega
  · rw [if_neg hp]
    have hn0 : n = 0 := by omega
    subst hn0
    have hq : q = 0 := by
      have h5 : s * q ≤ 0 := by omega
      have h6 : 0 ≤ s * q + r := by omega
      rcases Int.lt_trichotomy q 0 with hh | hh | hh
      · have : s * q ≤ s * (-1) := Int.mul_le_mul_of_nonneg_left (by omega) (by omega)
        omega
      · exact hh
      · have : s * 1 ≤ s * q := Int.mul_le_mul_of_nonneg_left (by omega) (by omega)
        omega
    subst hq
    have : r = 0 := by omega
    subst this
    simp
end Wells
namespace Go.Proofs.Ytnknjeipfjdjoaa
open Go.RowKit Wells
theorem refcount_any (p : Par) (n m : Int) (w : World) (hn : -9223372036854775808 ≤ n ∧ n ≤ 9223372036854775807) (hm : countP p n = m) : Calls Try.prog 28 #[p.val, .int .i64 n] w fun e w' => e = .returned (.int .i64 m) ∧ Below w.heap.size w w' := by
  have HM := hid hm
  clear hm
  have hv : p.val = .agg #[.int .i64 p.K, .int .i64 p.H, .int .i64 p.S] := rfl
  rw [hv]
  clear hv
  by_cases h1 : p.may = true
  · by_cases h2 : n < 0
    · have hz := hid (show countP p n = 0 from countP_no (fun h => by omega))
      go_enter Try.func28, Try.ntmps28
      go_wp2_with fail
      refine (refmay_any p true _ h1).mono ?_
      rintro e w1 ⟨rfl, hb⟩
      go_wp2
      go_ret
      exact ⟨ret_int (hz.out.symm.trans HM.out), ((Below.refl _ _).alloc (Nat.le_refl _) _).trans (hb.mono (by simp))⟩
    · have hok := Par.may_ok h1
      have hsz := Par.size_le hok
      have ha := count_alt n p.size (by omega) hsz.1
      have hq0 : 0 ≤ n / p.size := Int.ediv_nonneg (by omega) (by omega)
      have hq1 : n / p.size ≤ n := Int.ediv_le_self _ (by omega)
      have hcp : countP p n = if 0 < n then (n - 1) / p.size + 1 else 0 := by
        unfold countP
        by_cases h3 : 0 < n <;> simp [h1, h3]
      have HC := hid (hcp.symm.trans HM.out)
      have HA := hid ha
      have H1 := hid h1
      have hr := Int.emod_nonneg n (show p.size ≠ 0 by omega)
      have hq2 : 0 < n % p.size → n / p.size + 1 ≤ n := by
        intro h5
        have h6 := Int.mul_ediv_add_emod n p.size
        have h7 : 1 * (n / p.size) ≤ p.size * (n / p.size) := Int.mul_le_mul_of_nonneg_right hsz.1 hq0
        omega
      unfold Par.size at *
      obtain ⟨o1, o2, o3, o4, o5, o6⟩ := hok
      clear h1 ha hcp
      by_cases h3 : 0 < n % (p.K * p.S)
      all_goals
        first | have hq3 := hq2 h3 | skip
        clear hq2
        first | rw [if_pos h3] at HA | rw [if_neg h3] at HA
      all_goals
       go_enter Try.func28, Try.ntmps28
       go_wp2_with fail
       refine (refmay_any p true _ H1.out).mono ?_
       rintro e w1 ⟨rfl, hb⟩
       obtain ⟨c0, c1, c2⟩ := (PCells.new w p 23).keep hb (by simp)
       have b1 : Below w.heap.size w w1 := ((Below.refl _ _).alloc (Nat.le_refl _) _).trans (hb.mono (by simp))
       clear hb
       go_wp2
       go_ret
       first | exact ⟨ret_int (HA.out.trans HC.out), b1⟩ | exact ⟨ret_int ((Int.add_zero _).symm.trans (HA.out.trans HC.out)), b1⟩
  · have h1' : p.may = false := by simpa using h1
    have hz := hid (show countP p n = 0 from countP_no (fun h => h1 h.1))
    go_enter Try.func28, Try.ntmps28
    go_wp2_with fail
    refine (refmay_any p false _ h1').mono ?_
    rintro e w1 ⟨rfl, hb⟩
    go_wp2
    go_ret
    exact ⟨ret_int (hz.out.symm.trans HM.out), ((Below.refl _ _).alloc (Nat.le_refl _) _).trans (hb.mono (by simp))⟩
end Go.Proofs.Ytnknjeipfjdjoaa

namespace Wells
open Go Go.RowKit
def rdEnts (P : Par) : Nat → RSt → List Ent × RSt
  | 0, st => ([], st)
  | n + 1, st => if st.2 then ([], st) else ((rdEnt P st).1 :: (rdEnts P n (rdEnt P st).2).1, (rdEnts P n (rdEnt P st).2).2)
def rdMani (st : RSt) : Mani × RSt :=
  let a := rdNum 4 st
  let b := rdNum 4 a.2
  let k := rdNum 1 b.2
  let h := rdNum 1 k.2
  let s := rdNum 1 h.2
  let x := rdNum 1 s.2
  let n := rdNum 1 x.2
  let d := rdTries n.1.toNat n.2
  let m := rdNum 1 d.2
  let o := rdEnts ⟨k.1, h.1, s.1⟩ m.1.toNat m.2
  (⟨a.1, b.1, ⟨k.1, h.1, s.1⟩, x.1, d.1, o.1⟩, o.2)
def Mani.zero : Mani := ⟨0, 0, ⟨0, 0, 0⟩, 0, [], []⟩
/-- the manifest that bytes are -/
def parseL (l : List Byte) : Option Mani := if (rdMani (l, false)).2.2 = false ∧ l ≠ [] ∧ l = pack (rdMani (l, false)).1 then some (rdMani (l, false)).1 else none
theorem rdTries_at : ∀ (n : Nat) (st : RSt), ∀ z ∈ (rdTries n st).1, 0 ≤ z ∧ z < 256
  | 0, _, z, hz => by simp [rdTries] at hz
  | n + 1, st, z, hz => by
    unfold rdTries at hz
    split at hz
    · simp at hz
    · rcases List.mem_cons.1 hz with rfl | hz
      · have := rdNum_bound 1 st
        simpa using this
      · exact rdTries_at n _ z hz
theorem rdEnt_at (P : Par) (st : RSt) : (0 ≤ (rdEnt P st).1.obj ∧ (rdEnt P st).1.obj < 16777216) ∧ (0 ≤ (rdEnt P st).1.len ∧ (rdEnt P st).1.len < 65536) ∧ (∀ z ∈ (rdEnt P st).1.tries, 0 ≤ z ∧ z < 256) ∧ (rdEnt P st).1.name.length ≤ 255 := by
  unfold rdEnt
  dsimp only
  refine ⟨by simpa using rdNum_bound 3 _, by simpa using rdNum_bound 2 _, fun z hz => rdTries_at _ _ z hz, ?_⟩
  have h1 := (rdSome_le (rdNum 1 st).1.toNat (rdNum 1 st).2).1
  have h2 := rdNum_bound 1 st
  simp at h2
  omega
theorem rdEnts_at (P : Par) : ∀ (n : Nat) (st : RSt), ∀ e ∈ (rdEnts P n st).1, (0 ≤ e.obj ∧ e.obj < 16777216) ∧ (0 ≤ e.len ∧ e.len < 65536) ∧ (∀ z ∈ e.tries, 0 ≤ z ∧ z < 256) ∧ e.name.length ≤ 255
  | 0, _, z, hz => by simp [rdEnts] at hz
  | n + 1, st, z, hz => by
    unfold rdEnts at hz
    split at hz
    · simp at hz
    · rcases List.mem_cons.1 hz with rfl | hz
      · exact rdEnt_at P st
      · exact rdEnts_at P n _ z hz
theorem rdEnts_len (P : Par) : ∀ (n : Nat) (st : RSt), (rdEnts P n st).1.length ≤ n
  | 0, _ => by simp [rdEnts]
  | n + 1, st => by
    unfold rdEnts
    split
    · simp
    · have := rdEnts_len P n (rdEnt P st).2
      simp
      omega
theorem rdMani_form (st : RSt) : ∃ (s0 s1 s2 s3 s4 s5 s6 s7 : RSt) (n1 n2 : Nat) (P : Par), (rdMani st).1 = ⟨(rdNum 4 s0).1, (rdNum 4 s1).1, ⟨(rdNum 1 s2).1, (rdNum 1 s3).1, (rdNum 1 s4).1⟩, (rdNum 1 s5).1, (rdTries n1 s6).1, (rdEnts P n2 s7).1⟩ :=
  ⟨_, _, _, _, _, _, _, _, _, _, _, rfl⟩
theorem rdMani_64 (st : RSt) : M64 (rdMani st).1 ∧ ∀ e ∈ (rdMani st).1.objs, e.name.length ≤ 1048576 := by
  have b1 : ∀ k, k ≤ 4 → ∀ s, i64 (rdNum k s).1 := fun k hk s => by
    have h := rdNum_bound k s
    have : (256 : Int) ^ k ≤ 4294967296 := by
      rcases (show k = 0 ∨ k = 1 ∨ k = 2 ∨ k = 3 ∨ k = 4 by omega) with rfl | rfl | rfl | rfl | rfl <;> decide +kernel
    unfold i64
    omega
  have b4 := b1 4 (by omega)
  have b0 := b1 1 (by omega)
  have ht : ∀ n s, ∀ z ∈ (rdTries n s).1, i64 z := fun n s z hz => by
    have := rdTries_at n s z hz
    unfold i64; omega
  have he : ∀ P n s, ∀ e ∈ (rdEnts P n s).1, (i64 e.obj ∧ i64 e.len ∧ ∀ z ∈ e.tries, i64 z) ∧ e.name.length ≤ 1048576 := fun P n s e he => by
    have := rdEnts_at P n s e he
    refine ⟨⟨by unfold i64; omega, by unfold i64; omega, fun z hz => ?_⟩, by omega⟩
    have := this.2.2.1 z hz
    unfold i64; omega
  obtain ⟨s0, s1, s2, s3, s4, s5, s6, s7, n1, n2, P, e⟩ := rdMani_form st
  rw [e]
  exact ⟨⟨b4 _, b4 _, b0 _, b0 _, b0 _, b0 _, ht _ _, fun e h => (he _ _ _ e h).1⟩, fun e h => (he _ _ _ e h).2⟩
end Wells

