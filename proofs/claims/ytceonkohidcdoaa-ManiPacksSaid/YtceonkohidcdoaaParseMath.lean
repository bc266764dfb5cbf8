/- A manifest that is read: what the reader tells. -/
import Derived.Test.YtceonkohidcdoaaOwnMani
namespace Wells
open Go Go.RowKit
def rdEnts (P : Par) : Nat → RSt → List Ent × RSt
  | 0, st => ([], st)
  | n + 1, st => if st.2 then ([], st) else ((rdEnt P st).1 :: (rdEnts P n (rdEnt P st).2).1, (rdEnts P n (rdEnt P st).2).2)
def rdMani (st : RSt) : Mani × RSt :=
  let a := rdNum 4 st
  let b := rdNum 4 a.2
  let k := rdNum 1 b.2
  let h := rdNum 1 k.2
  let s := rdNum 1 h.2
  let x := rdNum 1 s.2
  let n := rdNum 1 x.2
  let d := rdTries n.1.toNat n.2
  let m := rdNum 1 d.2
  let o := rdEnts ⟨k.1, h.1, s.1⟩ m.1.toNat m.2
  (⟨a.1, b.1, ⟨k.1, h.1, s.1⟩, x.1, d.1, o.1⟩, o.2)
def Mani.zero : Mani := ⟨0, 0, ⟨0, 0, 0⟩, 0, [], []⟩
/-- the manifest that bytes are -/
def parseL (l : List Byte) : Option Mani := if (rdMani (l, false)).2.2 = false ∧ l ≠ [] ∧ l = pack (rdMani (l, false)).1 then some (rdMani (l, false)).1 else none
theorem rdTries_at : ∀ (n : Nat) (st : RSt), ∀ z ∈ (rdTries n st).1, 0 ≤ z ∧ z < 256
  | 0, _, z, hz => by simp [rdTries] at hz
  | n + 1, st, z, hz => by
    unfold rdTries at hz
    split at hz
    · simp at hz
    · rcases List.mem_cons.1 hz with rfl | hz
      · have := rdNum_bound 1 st
        simpa using this
      · exact rdTries_at n _ z hz
theorem rdEnt_at (P : Par) (st : RSt) : (0 ≤ (rdEnt P st).1.obj ∧ (rdEnt P st).1.obj < 16777216) ∧ (0 ≤ (rdEnt P st).1.len ∧ (rdEnt P st).1.len < 65536) ∧ (∀ z ∈ (rdEnt P st).1.tries, 0 ≤ z ∧ z < 256) ∧ (rdEnt P st).1.name.length ≤ 255 := by
  unfold rdEnt
  dsimp only
  refine ⟨by simpa using rdNum_bound 3 _, by simpa using rdNum_bound 2 _, fun z hz => rdTries_at _ _ z hz, ?_⟩
  have h1 := (rdSome_le (rdNum 1 st).1.toNat (rdNum 1 st).2).1
  have h2 := rdNum_bound 1 st
  simp at h2
  omega
theorem rdEnts_at (P : Par) : ∀ (n : Nat) (st : RSt), ∀ e ∈ (rdEnts P n st).1, (0 ≤ e.obj ∧ e.obj < 16777216) ∧ (0 ≤ e.len ∧ e.len < 65536) ∧ (∀ z ∈ e.tries, 0 ≤ z ∧ z < 256) ∧ e.name.length ≤ 255
  | 0, _, z, hz => by simp [rdEnts] at hz
  | n + 1, st, z, hz => by
    unfold rdEnts at hz
    split at hz
    · simp at hz
    · rcases List.mem_cons.1 hz with rfl | hz
      · exact rdEnt_at P st
      · exact rdEnts_at P n _ z hz
theorem rdEnts_len (P : Par) : ∀ (n : Nat) (st : RSt), (rdEnts P n st).1.length ≤ n
  | 0, _ => by simp [rdEnts]
  | n + 1, st => by
    unfold rdEnts
    split
    · simp
    · have := rdEnts_len P n (rdEnt P st).2
      simp
      omega
theorem rdMani_form (st : RSt) : ∃ (s0 s1 s2 s3 s4 s5 s6 s7 : RSt) (n1 n2 : Nat) (P : Par), (rdMani st).1 = ⟨(rdNum 4 s0).1, (rdNum 4 s1).1, ⟨(rdNum 1 s2).1, (rdNum 1 s3).1, (rdNum 1 s4).1⟩, (rdNum 1 s5).1, (rdTries n1 s6).1, (rdEnts P n2 s7).1⟩ :=
  ⟨_, _, _, _, _, _, _, _, _, _, _, rfl⟩
theorem rdMani_64 (st : RSt) : M64 (rdMani st).1 ∧ ∀ e ∈ (rdMani st).1.objs, e.name.length ≤ 1048576 := by
  have b1 : ∀ k, k ≤ 4 → ∀ s, i64 (rdNum k s).1 := fun k hk s => by
    have h := rdNum_bound k s
    have : (256 : Int) ^ k ≤ 4294967296 := by
      rcases (show k = 0 ∨ k = 1 ∨ k = 2 ∨ k = 3 ∨ k = 4 by omega) with rfl | rfl | rfl | rfl | rfl <;> decide +kernel
    unfold i64
    omega
  have b4 := b1 4 (by omega)
  have b0 := b1 1 (by omega)
  have ht : ∀ n s, ∀ z ∈ (rdTries n s).1, i64 z := fun n s z hz => by
    have := rdTries_at n s z hz
    unfold i64; omega
  have he : ∀ P n s, ∀ e ∈ (rdEnts P n s).1, (i64 e.obj ∧ i64 e.len ∧ ∀ z ∈ e.tries, i64 z) ∧ e.name.length ≤ 1048576 := fun P n s e he => by
    have := rdEnts_at P n s e he
    refine ⟨⟨by unfold i64; omega, by unfold i64; omega, fun z hz => ?_⟩, by omega⟩
    have := this.2.2.1 z hz
    unfold i64; omega
  obtain ⟨s0, s1, s2, s3, s4, s5, s6, s7, n1, n2, P, e⟩ := rdMani_form st
  rw [e]
  exact ⟨⟨b4 _, b4 _, b0 _, b0 _, b0 _, b0 _, ht _ _, fun e h => (he _ _ _ e h).1⟩, fun e h => (he _ _ _ e h).2⟩
end Wells
