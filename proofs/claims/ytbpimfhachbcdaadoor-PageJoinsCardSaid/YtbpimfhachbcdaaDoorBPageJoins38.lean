/- RecLaw -/
import Derived.Test.YtbpimfhachbcdaaDoorBPageJoins01
import Derived.Test.YtbpimfhachbcdaaDoorBPageJoins03
set_option maxRecDepth 20000
set_option linter.unusedSimpArgs false
set_option linter.unusedVariables false
set_option linter.unusedSectionVars false
namespace Wells
open Go Go.RowKit
section
variable {α β : Type} {lt : α → α → Bool} {lt2 : β → β → Bool}
theorem ins_map (f : α → β) (h : ∀ x y, lt x y = lt2 (f x) (f y)) (x : α) : ∀ l, (ins lt x l).map f = ins lt2 (f x) (l.map f)
  | [] => rfl
  | y :: ys => by
    unfold ins
    rw [h]
    simp only [List.map_cons]
    split <;> simp [ins_map f h x ys]
theorem mrg_map (f : α → β) (h : ∀ x y, lt x y = lt2 (f x) (f y)) : ∀ (R L : List α), (mrg lt L R).map f = mrg lt2 (L.map f) (R.map f)
  | [], _ => rfl
  | x :: R, L => by rw [mrg_cons, mrg_map f h R, ins_map f h]; rfl
theorem ssort_map (f : α → β) (h : ∀ x y, lt x y = lt2 (f x) (f y)) (l : List α) : (ssort lt l).map f = ssort lt2 (l.map f) := mrg_map f h l []
theorem srt_cons {x : α} {l : List α} (h : Srt lt (x :: l)) : (∀ y ∈ l, lt y x = false) ∧ Srt lt l := List.pairwise_cons.1 h
end
end Wells

