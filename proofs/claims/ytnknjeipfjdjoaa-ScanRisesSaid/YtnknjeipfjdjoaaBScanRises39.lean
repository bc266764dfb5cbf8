/- Rises -/
import Derived.Test.YtnknjeipfjdjoaaBScanRises10
import Derived.Test.YtnknjeipfjdjoaaBScanRises14
import Derived.Test.YtnknjeipfjdjoaaBScanRises28
import Derived.Test.YtnknjeipfjdjoaaBScanRises38
set_option maxRecDepth 20000
set_option linter.unusedSimpArgs false
set_option linter.unusedVariables false
namespace Wells
open Go Go.RowKit
theorem or_odd2 (z : Int) : ∃ q : Nat, bits .or .u32 (z % 4294967296) 1 = (q : Int) ∧ q % 2 = 1 ∧ q < 4294967296 := by
  obtain ⟨p, hp, hp2⟩ : ∃ p : Nat, z % 4294967296 = (p : Int) ∧ p < 4294967296 := ⟨(z % 4294967296).toNat, by omega, by omega⟩
  refine ⟨p ||| 1, ?_, ?_, ?_⟩
  · rw [hp]; exact u32_or_nat p 1 hp2 (by omega)
  · rw [Nat.or_mod_two_eq_one]
    exact .inr rfl
  · exact Nat.or_lt_two_pow (n := 32) hp2 (by omega)
theorem recsL_rise (m : Mani) (l : List (List Byte)) : (recsL m l).Pairwise (fun a b => ltR a b = true) := cpt_rise ltR_ord (ssort_srt ltR_ord _)
theorem rise_at2 {l : List Rec} (h : l.Pairwise (fun a b => ltR a b = true)) {i j : Nat} (hij : i < j) (hj : j < l.length) : ltR (l[i]'(by omega)) (l[j]) = true := (List.pairwise_iff_getElem.1 h) i j (by omega) hj hij
theorem mem_recs {m : Mani} {l : List (List Byte)} {r : Rec} (h : r ∈ recsL m l) : (∃ c ∈ l, takeR c = some r ∧ putR r = c) ∧ countsM m r = true := by
  unfold recsL cntL at h
  have h1 := mem_ssort.1 (mem_cpt h)
  obtain ⟨h2, h3⟩ := List.mem_filter.1 h1
  obtain ⟨c, hc, hr⟩ := List.mem_filterMap.1 h2
  exact ⟨⟨c, hc, hr, (takeR_some hr).2⟩, h3⟩
/-- a cell, spoilt if it is a record -/
def spC (a q : Nat) (c : List Byte) : List Byte := if (takeR c).isSome then spoilL c a q 4 else c
def spL (a q : Nat) (ls : List (List Byte)) (k : Nat) : List (List Byte) := (ls.take k).map (spC a q) ++ ls.drop k
theorem spL_len (a q : Nat) (ls : List (List Byte)) (k : Nat) : (spL a q ls k).length = ls.length := by
  unfold spL
  rw [List.length_append, List.length_map, List.length_take, List.length_drop]
  omega
theorem spC_len (a q : Nat) (c : List Byte) : (spC a q c).length = c.length := by
  unfold spC
  split
  · rw [spoilL_len]
  · rfl
theorem spL_64 {a q : Nat} {ls : List (List Byte)} {k : Nat} (h : ∀ x ∈ ls, x.length = 64) : ∀ x ∈ spL a q ls k, x.length = 64 := by
  intro x hx
  unfold spL at hx
  rcases List.mem_append.1 hx with h1 | h1
  · obtain ⟨c, hc, rfl⟩ := List.mem_map.1 h1
    rw [spC_len]; exact h c (List.mem_of_mem_take hc)
  · exact h x (List.mem_of_mem_drop h1)
theorem spL_at {a q : Nat} {ls : List (List Byte)} {k : Nat} (hk : k < ls.length) : (spL a q ls k).getD k [] = ls.getD k [] := by
  unfold spL
  rw [List.getD_eq_getElem?_getD, List.getElem?_append_right (by rw [List.length_map, List.length_take]; omega), List.length_map, List.length_take, List.getElem?_drop, List.getD_eq_getElem?_getD]
  congr 2
  omega
theorem spL_next {a q : Nat} {ls : List (List Byte)} {k : Nat} (hk : k < ls.length) : (spL a q ls k).set k (spC a q (ls.getD k [])) = spL a q ls (k + 1) := by
  have h1 : ((ls.take k).map (spC a q)).length = k := by rw [List.length_map, List.length_take]; omega
  have h2 : ls.drop k = ls.getD k [] :: ls.drop (k + 1) := by
    rw [List.drop_eq_getElem_cons hk, List.getD_eq_getElem?_getD, List.getElem?_eq_getElem hk]; rfl
  unfold spL
  rw [h2, List.set_append_right _ _ (by omega), h1, Nat.sub_self, List.set_cons_zero, List.take_succ_eq_append_getElem hk, List.map_append]
  simp only [List.map_cons, List.map_nil, List.append_assoc, List.cons_append, List.nil_append]
  rw [List.getD_eq_getElem?_getD, List.getElem?_eq_getElem hk]
  rfl
theorem spL_same {a q : Nat} {ls : List (List Byte)} {k : Nat} (hk : k < ls.length) (h : takeR (ls.getD k []) = none) : spL a q ls (k + 1) = spL a q ls k := by
  rw [← spL_next hk]
  have h1 : spC a q (ls.getD k []) = ls.getD k [] := by unfold spC; rw [h]; rfl
  rw [h1, ← spL_at (a := a) (q := q) hk, List.getD_eq_getElem?_getD, List.getElem?_eq_getElem (by rw [spL_len]; exact hk)]
  simp
theorem spL_end (a q : Nat) (ls : List (List Byte)) {k : Nat} (hk : ls.length ≤ k) : spL a q ls k = ls.map (spC a q) := by
  unfold spL
  rw [List.take_of_length_le hk, List.drop_eq_nil_of_le hk, List.append_nil]
theorem spL_none {m : Mani} {a q : Nat} {ls : List (List Byte)} (ha : a ≤ 60) (hq : q % 2 = 1) : recsL m (ls.map (spC a q)) = [] := by
  have h : (ls.map (spC a q)).filterMap takeR = [] := by
    rw [List.filterMap_eq_nil_iff]
    intro x hx
    obtain ⟨c, _, rfl⟩ := List.mem_map.1 hx
    unfold spC
    cases hc : takeR c with
    | none => simpa using hc
    | some r => simp only [Option.isSome_some, if_true]; exact spoil_take ha hq hc
  unfold recsL cntL
  rw [h]
  rfl
end Wells
namespace Go.Proofs.Ytnknjeipfjdjoaa
open Go.RowKit Wells
theorem refless_any (r q : Rec) (d e : Value) (b : Bool) (w : World) (hb : ltR r q = b) : Calls Try.prog 15 #[r.val d, q.val e] w fun en w' => en = .returned (.bool b) ∧ Below w.heap.size w w' := by
  have hb1 : Below w.heap.size w (w.alloc (.cells #[.int .i64 r.O, .int .i64 r.B, .int .i64 r.I, .int .i64 r.P.K, .int .i64 r.P.H, .int .i64 r.P.S, .int .u32 (r.S.toNat : Int), d] 31)) := (Below.refl _ _).alloc (Nat.le_refl _) _
  have hb2 := hb1.alloc hb1.size (.cells #[.int .i64 q.O, .int .i64 q.B, .int .i64 q.I, .int .i64 q.P.K, .int .i64 q.P.H, .int .i64 q.P.S, .int .u32 (q.S.toNat : Int), e] 31)
  have HB2 := hid hb2
  have HB := hid hb
  clear hb hb1 hb2
  unfold Rec.val
  unfold ltR at HB
  by_cases h1 : r.O = q.O
  · by_cases h2 : r.B = q.B
    · have h2' : ¬ r.B < q.B := by omega
      have h1' : ¬ r.O < q.O := by omega
      have hv : decide (r.I < q.I) = b := by rw [← HB.out]; simp [h1, h2]
      have HV := hid hv
      clear hv
      go_enter Try.func15, Try.ntmps15
      go_wp2_with fail
      go_ret
      exact ⟨ret_bool HV.out, ((Below.refl _ _).alloc (Nat.le_refl _) _).alloc (by simp) _⟩
    · have hv : decide (r.B < q.B) = b := by rw [← HB.out]; simp [h1, h2]
      have HV := hid hv
      clear hv
      go_enter Try.func15, Try.ntmps15
      go_wp2_with fail
      go_ret
      exact ⟨ret_bool HV.out, ((Below.refl _ _).alloc (Nat.le_refl _) _).alloc (by simp) _⟩
  · have hv : decide (r.O < q.O) = b := by rw [← HB.out]; simp [h1]
    have HV := hid hv
    clear hv
    go_enter Try.func15, Try.ntmps15
    go_wp2_with fail
    go_ret
    exact ⟨ret_bool HV.out, ((Below.refl _ _).alloc (Nat.le_refl _) _).alloc (by simp) _⟩
end Go.Proofs.Ytnknjeipfjdjoaa

