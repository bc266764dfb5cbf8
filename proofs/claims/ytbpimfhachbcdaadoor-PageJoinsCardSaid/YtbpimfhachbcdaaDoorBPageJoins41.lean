/- Swl3 -/
import Derived.Test.YtbpimfhachbcdaaDoorBPageJoins07
import Derived.Test.YtbpimfhachbcdaaDoorBPageJoins40
set_option maxRecDepth 20000
set_option linter.unusedSimpArgs false
set_option linter.unusedVariables false
set_option linter.unusedSectionVars false
namespace Wells
open Go Go.RowKit Go.Sort Go.Proofs Go.Lib
variable {P : Program} {α : Type} [Inhabited α] {enc : α → List Value} {w0 W : World} {blk off N : Nat} {l : List α}
theorem flatK_list (hk : ∀ x, (enc x).length = 8) (l : List α) : (flatK enc 8 l.toArray).toList = l.flatMap enc := by
  have hlen : ∀ l : List α, (l.flatMap enc).length = l.length * 8 := fun l => by
    induction l with
    | nil => rfl
    | cons x l ih => rw [List.flatMap_cons, List.length_append, hk, ih, List.length_cons, Nat.add_mul]; omega
  have hget : ∀ (l : List α) (t : Nat), t < l.length * 8 → (l.flatMap enc)[t]? = some ((enc l[t / 8]!)[t % 8]!) := by
    intro l
    induction l with
    | nil => intro t ht; simp at ht
    | cons x l ih =>
      intro t ht
      rw [List.flatMap_cons]
      by_cases h : t < 8
      · rw [List.getElem?_append_left (by rw [hk]; exact h), show t / 8 = 0 by omega, show t % 8 = t by omega]
        simp only [List.getElem!_cons_zero]
        rw [getElem!_pos (enc x) t (by rw [hk]; exact h), List.getElem?_eq_getElem]
      · rw [List.getElem?_append_right (by rw [hk]; omega), hk, ih (t - 8) (by simp at ht; omega), show t / 8 = (t - 8) / 8 + 1 by omega, show t % 8 = (t - 8) % 8 by omega]
        rw [List.getElem!_cons_succ]
  apply List.ext_getElem?
  intro t
  by_cases ht : t < l.length * 8
  · rw [hget l t ht, Array.getElem?_toList]
    simp [flatK, ht]
  · rw [List.getElem?_eq_none (by simp; omega), List.getElem?_eq_none (by rw [hlen]; omega)]
theorem flatMap_len (hk : ∀ x, (enc x).length = 8) (l : List α) : (l.flatMap enc).length = l.length * 8 := by
  rw [← flatK_list hk]; simp
/-- the row's world, opened: the block's cells -/
theorem SWL.heap (h : SWL enc w0 blk 0 N l W) (hk : ∀ x, (enc x).length = 8) {cur : Array Value} {T : TypeId} {fr : Nat × Nat} (hb : w0.heap[blk]? = some (.cells cur T fr)) (hs : N * 8 ≤ cur.size) :
    (∃ cur' : Array Value, W.heap[blk]? = some (.cells cur' T fr) ∧ cur'.size = cur.size ∧ cur'.toList.take (N * 8) = l.flatMap enc) ∧ w0.grownBy W (some blk) := by
  obtain ⟨hl, dk, h1, n, os, rfl⟩ := h
  have hg : blk < w0.heap.size := (Array.getElem?_eq_some_iff.1 hb).1
  have hdk : dk = l.toArray := by rw [← h1]
  unfold sortWorldK putRowK
  constructor
  · refine ⟨putCells id 0 (flatK enc 8 dk) cur, ?_, by simp [putCells], ?_⟩
    · rw [heap_grow_old _ _ (by simpa [putRow, mapBlock] using hg)]
      simp [putRow, mapBlock, Sort.ahead, Array.getElem?_modify, hb, onCells]
    · rw [← flatK_list hk, ← hdk]
      have hsz : (flatK enc 8 dk).size = N * 8 := by rw [size_flatK, ← Array.length_toList, h1, hl]
      apply List.ext_getElem?
      intro j
      by_cases hj : j < N * 8
      · rw [List.getElem?_take_of_lt hj, Array.getElem?_toList]
        have hj2 : j < cur.size := by omega
        simp [putCells, hj2, hsz, hj]
      · rw [List.getElem?_take_eq_none (by omega), List.getElem?_eq_none (by rw [Array.length_toList, hsz]; omega)]
  · refine ⟨rfl, rfl, rfl, by simp [putRow, mapBlock], fun k hk' hne => ?_⟩
    rw [heap_grow_old _ _ (by simpa [putRow, mapBlock] using hk')]
    have : blk ≠ k := fun e => hne (by rw [e])
    simp [putRow, mapBlock, Sort.ahead, Array.getElem?_modify, this]
/-- a row of one's own, as what is to be sorted -/
theorem SWL.start (hk : ∀ x, (enc x).length = 8) (h1 : ∀ x, ∀ v ∈ enc x, v.oneCell' = true) {T : TypeId} {base c n : Nat} {ad : Addr} (h : w0.ownsRow base T 8 (.slice (some ad) n c) n (l.flatMap enc)) (hn : l.length = n) (ha : ∃ d, P.underlying T = some d ∧ d.isRow = true) (hsz : (P.info? T).map (·.size) = some 8) :
    ∃ g cur, ad = ⟨g, 0, none⟩ ∧ base ≤ g ∧ w0.heap[g]? = some (.cells cur T (0, 0)) ∧ n ≤ c ∧ c ≤ maxLen ∧ cur.size = c * 8 ∧ SWL enc w0 g 0 n l w0 ∧ RowL P T enc w0 g 0 n := by
  rcases h.2 with ⟨hv, _⟩ | ⟨g, cap, cur, hv, hb, hg, hnc, hcm, hcs, ht⟩
  · cases hv
  injection hv with e1 e2 e3
  injection e1 with e1
  subst e1 e3
  have hH : HoldsK enc 8 w0 g 0 l.toArray := by
    intro j hj
    have hj' : j < n * 8 := by rw [size_flatK] at hj; simpa [hn] using hj
    refine ⟨?_, by simp [World.frozen?, hg]⟩
    rw [Nat.zero_add, cell_of_row w0 g j cur T (0, 0) hg]
    have h2 : cur.toList[j]? = (l.flatMap enc)[j]? := by rw [← ht, List.getElem?_take_of_lt hj']
    rw [← Array.getElem?_toList, h2, ← flatK_list hk, Array.getElem?_toList]
    rw [Array.getElem?_eq_getElem hj, getElem!_pos _ j hj]
    rfl
  exact ⟨g, cur, rfl, hb, hg, hnc, hcm, hcs, ⟨hn, l.toArray, rfl, SWK.start hH⟩, ⟨⟨l.toArray, by simpa using hn, ⟨hk, h1, hH, (Array.getElem?_eq_some_iff.1 hg).1⟩⟩, ha, hsz⟩⟩
/-- behind it: the same slice owns what is there now -/
theorem SWL.back (h : SWL enc w0 blk 0 N l W) (hk : ∀ x, (enc x).length = 8) {cur : Array Value} {T : TypeId} {base c n : Nat} (hb : w0.heap[blk]? = some (.cells cur T (0, 0))) (hbase : base ≤ blk) (hs : cur.size = c * 8) (hn : n ≤ N) (hc : N ≤ c) (hcm : c ≤ maxLen) :
    W.ownsRow base T 8 (.slice (some ⟨blk, 0, none⟩) n c) n ((l.take n).flatMap enc) ∧ w0.grownBy W (some blk) := by
  obtain ⟨⟨cur', h1, h2, h3⟩, h4⟩ := h.heap hk hb (by rw [hs]; exact Nat.mul_le_mul_right _ hc)
  have hl := h.1
  refine ⟨⟨by rw [flatMap_len hk, List.length_take]; congr 1; omega, .inr ⟨blk, c, cur', rfl, hbase, h1, by omega, hcm, by rw [h2, hs], ?_⟩⟩, h4⟩
  have : cur'.toList.take (n * 8) = (cur'.toList.take (N * 8)).take (n * 8) := by rw [List.take_take]; congr 1; have := Nat.mul_le_mul_right 8 hn; omega
  rw [this, h3]
  have e : l.flatMap enc = (l.take n).flatMap enc ++ (l.drop n).flatMap enc := by rw [← List.flatMap_append, List.take_append_drop]
  rw [e, List.take_append_of_le_length (by rw [flatMap_len hk, List.length_take]; have := Nat.mul_le_mul_right 8 (show n ≤ min n l.length by omega); omega), List.take_of_length_le (by rw [flatMap_len hk, List.length_take]; have := Nat.mul_le_mul_right 8 (show min n l.length ≤ n by omega); omega)]
end Wells

