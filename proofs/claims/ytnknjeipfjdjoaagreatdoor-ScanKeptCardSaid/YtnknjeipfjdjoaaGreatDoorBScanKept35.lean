/- RecLaw -/
import Derived.Test.YtnknjeipfjdjoaaGreatDoorBScanKept02
import Derived.Test.YtnknjeipfjdjoaaGreatDoorBScanKept03
set_option maxRecDepth 20000
set_option linter.unusedSimpArgs false
set_option linter.unusedVariables false
set_option linter.unusedSectionVars false
namespace Wells
open Go Go.RowKit
section
variable {α β : Type} {lt : α → α → Bool} {lt2 : β → β → Bool}
theorem ins_map (f : α → β) (h : ∀ x y, lt x y = lt2 (f x) (f y)) (x : α) : ∀ l, (ins lt x l).map f = ins lt2 (f x) (l.map f)
 | [] => rfl
 | y :: ys => by
  unfold ins
  rw [h]
  simp only [List.map_cons]
  split <;> simp [ins_map f h x ys]
theorem mrg_map (f : α → β) (h : ∀ x y, lt x y = lt2 (f x) (f y)) : ∀ (R L : List α), (mrg lt L R).map f = mrg lt2 (L.map f) (R.map f)
 | [], _ => rfl
 | x :: R, L => by rw [mrg_cons, mrg_map f h R, ins_map f h]; rfl
theorem ssort_map (f : α → β) (h : ∀ x y, lt x y = lt2 (f x) (f y)) (l : List α) : (ssort lt l).map f = ssort lt2 (l.map f) := mrg_map f h l []
/-- neither is ahead -/
def eqv (lt : α → α → Bool) (x y : α) : Bool := !lt x y && !lt y x
def cptGo (lt : α → α → Bool) : α → List α → List α
 | _, [] => []
 | p, y :: r => if eqv lt y p then cptGo lt y r else y :: cptGo lt y r
/-- of such as tie, the first alone -/
def cpt (lt : α → α → Bool) : List α → List α
 | [] => []
 | x :: r => x :: cptGo lt x r
theorem cptGo_map (f : α → β) (h : ∀ x y, lt x y = lt2 (f x) (f y)) : ∀ (l : List α) (p : α), (cptGo lt p l).map f = cptGo lt2 (f p) (l.map f)
 | [], _ => rfl
 | y :: r, p => by
  have e : eqv lt y p = eqv lt2 (f y) (f p) := by unfold eqv; rw [h, h]
  simp only [cptGo, List.map_cons, e]
  split <;> simp [cptGo_map f h r]
theorem cpt_map (f : α → β) (h : ∀ x y, lt x y = lt2 (f x) (f y)) (l : List α) : (cpt lt l).map f = cpt lt2 (l.map f) := by
 cases l with
 | nil => rfl
 | cons x r => simp [cpt, cptGo_map f h]
theorem eqv_no {x y : α} (h : lt x y = true) : eqv lt x y = false ∧ eqv lt y x = false := by unfold eqv; simp [h]
theorem srt_cons {x : α} {l : List α} (h : Srt lt (x :: l)) : (∀ y ∈ l, lt y x = false) ∧ Srt lt l := List.pairwise_cons.1 h
theorem mem_cptGo {z : α} : ∀ {l : List α} {p : α}, z ∈ cptGo lt p l → z ∈ l
 | [], _, h => h
 | y :: r, p, h => by
  unfold cptGo at h
  split at h
  ·exact List.mem_cons_of_mem _ (mem_cptGo h)
  ·rcases List.mem_cons.1 h with rfl | h
   ·simp
   ·exact List.mem_cons_of_mem _ (mem_cptGo h)
theorem mem_cpt {z : α} {l : List α} (h : z ∈ cpt lt l) : z ∈ l := by
 cases l with
 | nil => exact h
 | cons x r =>
  rcases List.mem_cons.1 h with rfl | h
  ·simp
  ·exact List.mem_cons_of_mem _ (mem_cptGo h)
theorem cptGo_rise (ho : SOrd lt) : ∀ {l : List α} {p : α}, Srt lt (p :: l) → (∀ z ∈ cptGo lt p l, lt p z = true) ∧ (cptGo lt p l).Pairwise (fun a b => lt a b = true)
 | [], _, _ => ⟨fun z h => (by cases h), List.Pairwise.nil⟩
 | y :: r, p, hs => by
  have hp := (srt_cons hs).1 y (by simp)
  obtain ⟨h1, h2⟩ := cptGo_rise ho (srt_cons hs).2
  unfold cptGo
  split
  ·rename_i he
   unfold eqv at he
   simp only [Bool.and_eq_true, Bool.not_eq_true'] at he
   exact ⟨fun z hz => ho.tr' he.1 (h1 z hz), h2⟩
  ·rename_i he
   have hpy : lt p y = true := by
    cases h : lt p y
    ·exact absurd (by unfold eqv; simp [hp, h]) he
    ·rfl
   refine ⟨fun z hz => ?_, List.pairwise_cons.2 ⟨h1, h2⟩⟩
   rcases List.mem_cons.1 hz with rfl | hz
   ·exact hpy
   ·exact ho.tr hpy (ho.asym (h1 z hz))
/-- what is thinned out rises -/
theorem cpt_rise (ho : SOrd lt) {l : List α} (hs : Srt lt l) : (cpt lt l).Pairwise (fun a b => lt a b = true) := by
 cases l with
 | nil => exact List.Pairwise.nil
 | cons x r =>
  obtain ⟨h1, h2⟩ := cptGo_rise ho hs
  exact List.pairwise_cons.2 ⟨h1, h2⟩
theorem cptGo_length : ∀ (l : List α) (p : α), (cptGo lt p l).length ≤ l.length
 | [], _ => Nat.le_refl _
 | y :: r, p => by
  have := cptGo_length r y
  unfold cptGo
  split <;> simp <;> omega
theorem cpt_length (l : List α) : (cpt lt l).length ≤ l.length := by
 cases l with
 | nil => exact Nat.le_refl _
 | cons x r => have := cptGo_length (lt := lt) r x; simp [cpt]; omega
end
def ltR (a b : Rec) : Bool := decide (a.O < b.O ∨ (a.O = b.O ∧ (a.B < b.B ∨ (a.B = b.B ∧ a.I < b.I))))
theorem ltR_ord : SOrd ltR := by
 unfold ltR
 constructor
 ·intro x y h
  simp only [decide_eq_true_eq, decide_eq_false_iff_not] at *; omega
 ·intro x y z h h'; simp only [decide_eq_true_eq, decide_eq_false_iff_not] at *; omega
 ·intro x y z h h'; simp only [decide_eq_true_eq, decide_eq_false_iff_not] at *; omega
 ·intro x y z h h'; simp only [decide_eq_true_eq, decide_eq_false_iff_not] at *; omega
end Wells
