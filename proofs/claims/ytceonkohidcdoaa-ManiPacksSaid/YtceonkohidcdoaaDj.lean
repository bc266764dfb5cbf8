/- Lists that lie in blocks apart. -/
import Derived.Test.YtceonkohidcdoaaST
namespace Wells
open Go Go.RowKit
/-- two lists that do not lie in one block -/
def Apart (v v' : Value) : Prop := v.ownBlock = none ∨ v.ownBlock ≠ v'.ownBlock
theorem Apart.symm {v v' : Value} (h : Apart v v') : Apart v' v := by
  unfold Apart at *
  cases hv : v'.ownBlock with
  | none => exact .inl rfl
  | some b =>
    right
    rcases h with h | h
    · rw [h]; simp
    · rw [hv] at h; exact fun e => h e.symm
theorem Apart.of_lt {v v' : Value} {N : Nat} (h : ∀ b, v.ownBlock = some b → b < N) (h' : v'.ownBlock = none ∨ ∃ b, v'.ownBlock = some b ∧ N ≤ b) : Apart v v' := by
  unfold Apart
  cases hv : v.ownBlock with
  | none => exact .inl rfl
  | some b =>
    right
    have h1 := h b hv
    rcases h' with h2 | ⟨b', h2, h3⟩
    · rw [h2]; simp
    · rw [h2]; intro e; injection e with e; omega
structure Dj (ts : List Value) (dv : Value) (n : Nat) : Prop where
  d : ∀ i, i < n → Apart (ts.getD i undef) dv
  t : ∀ i j, j < n → i < j → Apart (ts.getD i undef) (ts.getD j undef)
theorem Dj.nil_ (dv : Value) : Dj [] dv 0 := ⟨fun i hi => absurd hi (by omega), fun i j hj => absurd hj (by omega)⟩
theorem getD_appV {ts : List Value} {tv : Value} {n i : Nat} (hl : ts.length = n) : (ts ++ [tv]).getD i undef = if i < n then ts.getD i undef else if i = n then tv else undef := by
  subst hl
  simp only [List.getD_eq_getElem?_getD, List.getElem?_append]
  split
  · rfl
  · split
    · rename_i h; subst h; simp
    · rw [List.getElem?_eq_none (by simp; omega)]; rfl
theorem Dj.push {ts : List Value} {dv tv : Value} {n N : Nat} (h : Dj ts dv n) (hl : ts.length = n) (hlt : ∀ i, i < n → ∀ b, (ts.getD i undef).ownBlock = some b → b < N) (hd : ∀ b, dv.ownBlock = some b → b < N) (ht : tv.ownBlock = none ∨ ∃ b, tv.ownBlock = some b ∧ N ≤ b) : Dj (ts ++ [tv]) dv (n + 1) := by
  refine ⟨fun i hi => ?_, fun i j hj hij => ?_⟩
  · rw [getD_appV hl]
    by_cases h1 : i < n
    · rw [if_pos h1]; exact h.d i h1
    · rw [if_neg h1, if_pos (by omega)]
      exact (Apart.of_lt hd ht).symm
  · rw [getD_appV hl, getD_appV hl, if_pos (by omega)]
    by_cases h1 : j < n
    · rw [if_pos h1]; exact h.t i j h1 hij
    · rw [if_neg h1, if_pos (by omega)]
      exact Apart.of_lt (hlt i (by omega)) ht
theorem getD_setV {ts : List Value} {tv : Value} {k i : Nat} (hk : k < ts.length) : (ts.set k tv).getD i undef = if i = k then tv else ts.getD i undef := by
  simp only [List.getD_eq_getElem?_getD]
  split
  · rename_i h; subst h; simp [hk]
  · rename_i h; rw [List.getElem?_set_ne (fun e => h e.symm)]
theorem getD_setE {es : List Ent} {e : Ent} {k i : Nat} (hk : k < es.length) : (es.set k e).getD i default = if i = k then e else es.getD i default := by
  simp only [List.getD_eq_getElem?_getD]
  split
  · rename_i h; subst h; simp [hk]
  · rename_i h; rw [List.getElem?_set_ne (fun e => h e.symm)]
/-- one entry's tries are another list, in the same block or a new one -/
theorem Dj.swap {ts : List Value} {dv tv : Value} {n k N : Nat} (h : Dj ts dv n) (hl : ts.length = n) (hk : k < n) (hlt : ∀ i, i < n → ∀ b, (ts.getD i undef).ownBlock = some b → b < N) (hd : ∀ b, dv.ownBlock = some b → b < N)
    (ht : tv.ownBlock = (ts.getD k undef).ownBlock ∨ tv.ownBlock = none ∨ ∃ b, tv.ownBlock = some b ∧ N ≤ b) : Dj (ts.set k tv) dv n := by
  have key : ∀ v, (∀ b, v.ownBlock = some b → b < N) → Apart v (ts.getD k undef) → Apart v tv := fun v hv ha => by
    rcases ht with h1 | h1
    · unfold Apart at *; rw [h1]; exact ha
    · exact Apart.of_lt hv h1
  refine ⟨fun i hi => ?_, fun i j hj hij => ?_⟩
  · rw [getD_setV (by omega)]
    split
    · exact (key dv hd (h.d k hk).symm).symm
    · exact h.d i hi
  · rw [getD_setV (by omega), getD_setV (by omega)]
    by_cases h1 : i = k
    · rw [if_pos h1, if_neg (by omega)]
      exact (key _ (hlt j hj) (by subst h1; exact (h.t i j hj hij).symm)).symm
    · rw [if_neg h1]
      by_cases h2 : j = k
      · rw [if_pos h2]
        exact key _ (hlt i (by omega)) (by subst h2; exact h.t i j hj hij)
      · rw [if_neg h2]
        exact h.t i j hj hij
end Wells
