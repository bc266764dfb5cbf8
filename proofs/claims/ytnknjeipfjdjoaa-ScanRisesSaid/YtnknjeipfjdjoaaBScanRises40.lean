/- Reader -/
import Derived.Deep.DeepCutAuto
import Derived.BigGuardPart
import Derived.Test.YtnknjeipfjdjoaaBScanRises03
import Derived.Test.YtnknjeipfjdjoaaBScanRises29
set_option maxRecDepth 20000
set_option linter.unusedSimpArgs false
set_option linter.unusedVariables false
namespace Wells
open Go Go.RowKit
abbrev RSt := List Byte × Bool
/-- the next bytes -/
def rdSome (n : Nat) (st : RSt) : List Byte × RSt := if st.1.length < n then ([], (st.1, true)) else (st.1.take n, (st.1.drop n, st.2))
/-- the number of the next bytes -/
def rdNum (k : Nat) (st : RSt) : Int × RSt := (numL (rdSome k st).1, (rdSome k st).2)
theorem rdSome_le (n : Nat) (st : RSt) : (rdSome n st).1.length ≤ n ∧ (rdSome n st).2.1.length ≤ st.1.length ∧ (rdSome n st).1.length ≤ st.1.length := by
  unfold rdSome
  split
  · simp
  · simp
    omega
theorem rdNum_bound (k : Nat) (st : RSt) : 0 ≤ (rdNum k st).1 ∧ (rdNum k st).1 < 256 ^ k := by
  have h1 := numL_bound (rdSome k st).1
  have h2 := (rdSome_le k st).1
  refine ⟨h1.1, Int.lt_of_lt_of_le h1.2 ?_⟩
  have := Nat.pow_le_pow_right (show 0 < 256 by omega) h2
  have e : ∀ a : Nat, (256 : Int) ^ a = ((256 ^ a : Nat) : Int) := fun a => by rw [Int.natCast_pow]; rfl
  rw [e, e]
  exact Int.ofNat_le.2 this
end Wells
namespace Go.Proofs.Ytnknjeipfjdjoaa
open Go.RowKit Wells
/-- a reader at block g: what is left of the bytes (in blocks below B), and whether there were too few -/
def Rd (t : TypeId) (B : Nat) (w : World) (g : Nat) (st : RSt) : Prop :=
  ∃ (A : Option Addr) (n c : Nat), Row w g t [.slice A n c, .bool st.2] ∧ Sl w B 1 A n (st.1.map bv8) ∧ st.1.length = n ∧ n ≤ c ∧ c ≤ 9223372036854775807 ∧ B ≤ g
theorem Rd.keep {t : TypeId} {B g : Nat} {w w' : World} {st : RSt} (h : Rd t B w g st) (hb : Below w.heap.size w w') (hB : B ≤ w.heap.size) : Rd t B w' g st := by
  obtain ⟨A, n, c, h1, h2, h3, h4, h5, h6⟩ := h
  exact ⟨A, n, c, h1.below hb h1.lt, h2.below (hb.mono hB), h3, h4, h5, h6⟩
/-- what 'some' leaves -/
def SomeP (t : TypeId) (B g : Nat) (w : World) (out : List Byte) (st' : RSt) (e : Ending) (w' : World) : Prop :=
  (∃ A' n' c', e = .returned (.slice A' n' c') ∧ out.length = n' ∧ Sl w' B 1 A' n' (out.map bv8)) ∧ Rd t B w' g st' ∧ w.grownBy w' (some g) ∧ w'.heap.size = w.heap.size
/-- what 'number' leaves -/
def NumP (t : TypeId) (B g : Nat) (w : World) (z : Int) (st' : RSt) (e : Ending) (w' : World) : Prop :=
  e = .returned (.int .i64 z) ∧ Rd t B w' g st' ∧ w.grownBy w' (some g) ∧ w'.heap.size = w.heap.size
theorem or_addM (m x : Nat) (hm : m < 16777216) (hx : x < 256) : bits .or .i64 ((m : Int) * 256) (x : Int) = (m : Int) * 256 + (x : Int) := by
  show IntKind.i64.wrap ((BitVec.ofInt 64 ((m : Int) * 256) ||| BitVec.ofInt 64 (x : Int)).toNat : Int) = _
  have e : (m : Int) * 256 = ((m * 256 : Nat) : Int) := by omega
  rw [e, BitVec.ofInt_natCast, BitVec.ofInt_natCast, BitVec.toNat_or, BitVec.toNat_ofNat, BitVec.toNat_ofNat, Nat.mod_eq_of_lt (by omega), Nat.mod_eq_of_lt (by omega)]
  have h := Nat.two_pow_add_eq_or_of_lt (i := 8) (b := x) (by omega) m
  rw [show m * 256 = 2 ^ 8 * m by omega, ← h, IntKind.wrap_i64]
  omega
end Go.Proofs.Ytnknjeipfjdjoaa

