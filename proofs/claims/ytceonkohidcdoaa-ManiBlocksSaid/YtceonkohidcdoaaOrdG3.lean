/- A drawn region where three operations may come up. -/
import Derived.Test.YtceonkohidcdoaaOrdG
namespace Wells
open Go Go.RowKit
section
variable {P : Program} {md : Region.Mode} {ops : Array Oper} {Q : Exit → Act → World → Prop} {S0 : World → Prop} {ps : List Nat}
theorem Org.three {i j k fuel : Nat} {listed : Array Bool} {a : Act} {w : World} {oi oj ok : Oper} (o1 o2 o3 : List Nat) (hi : ops.toList[i]? = some oi) (hj : ops.toList[j]? = some oj) (hk : ops.toList[k]? = some ok) (hr : Region.ready md ops listed = [i, j, k])
    (hw : Region.wanted oi (yielded ops a.tmps) = true) (hw2 : Region.wanted oj (yielded ops a.tmps) = true) (hw3 : Region.wanted ok (yielded ops a.tmps) = true)
    (h : ∀ K' : Act → World → Prop, Shut (∀ a w, S0 w → (S0 w → Org P md ops Q ps S0 o1 fuel (listed.setIfInBounds i true) a w) → K' a w) → Oper.wp P oi a w K' Q)
    (h2 : ∀ K' : Act → World → Prop, Shut (∀ a w, S0 w → (S0 w → Org P md ops Q ps S0 o2 fuel (listed.setIfInBounds j true) a w) → K' a w) → Oper.wp P oj a w K' Q)
    (h3 : ∀ K' : Act → World → Prop, Shut (∀ a w, S0 w → (S0 w → Org P md ops Q ps S0 o3 fuel (listed.setIfInBounds k true) a w) → K' a w) → Oper.wp P ok a w K' Q) : Org P md ops Q ps S0 [] (fuel + 1) listed a w := by
  refine ⟨(fun h0 => by rw [hr] at h0; cases h0), fun n hn => ?_⟩
  rw [hr] at hn
  have hi' : ops[i]? = some oi := by simpa using hi
  have hj' : ops[j]? = some oj := by simpa using hj
  have hk' : ops[k]? = some ok := by simpa using hk
  have hn' : n = i ∨ n = j ∨ n = k := by simpa using hn
  rcases hn' with rfl | rfl | rfl
  · unfold wpOp
    simp only [hi', hw, if_true]
    exact .inl (h _ (fun a w h1 h2 => ⟨fun _ => h1, h2 h1⟩))
  · unfold wpOp
    simp only [hj', hw2, if_true]
    exact .inl (h2 _ (fun a w h1 h2 => ⟨fun _ => h1, h2 h1⟩))
  · unfold wpOp
    simp only [hk', hw3, if_true]
    exact .inl (h3 _ (fun a w h1 h2 => ⟨fun _ => h1, h2 h1⟩))
end
end Wells
