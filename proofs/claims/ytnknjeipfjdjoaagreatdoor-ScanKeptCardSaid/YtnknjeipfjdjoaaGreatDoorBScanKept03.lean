/- StableMath StableMath2 -/
import Derived.Sort.Defs
import Derived.Test.YtnknjeipfjdjoaaGreatDoorBScanKept00
set_option maxRecDepth 20000
set_option linter.unusedSimpArgs false
set_option linter.unusedVariables false
set_option linter.unusedSectionVars false
namespace Wells
open Go.Sort
variable {α : Type}
theorem rev_ind {p : List α → Prop} (h0 : p []) (h1 : ∀ l x, p l → p (l ++ [x])) (l : List α) : p l := by
 have : ∀ r : List α, p r.reverse := fun r => by
  induction r with
  | nil => exact h0
  | cons x r ih => simpa using h1 _ x ih
 simpa using this l.reverse
/-- a strict order of which the unlike ones may tie -/
structure SOrd (lt : α → α → Bool) : Prop where
 asym : ∀ {x y}, lt x y = true → lt y x = false
 tr : ∀ {x y z}, lt x y = true → lt z y = false → lt x z = true
 tr' : ∀ {x y z}, lt y x = false → lt y z = true → lt x z = true
 le : ∀ {x y z}, lt y x = false → lt z y = false → lt z x = false
def ins (lt : α → α → Bool) (x : α) : List α → List α
 | [] => [x]
 | y :: ys => if lt x y then x :: y :: ys else y :: ins lt x ys
def mrg (lt : α → α → Bool) (L R : List α) : List α := R.foldl (fun acc x => ins lt x acc) L
def ssort (lt : α → α → Bool) (l : List α) : List α := mrg lt [] l
/-- rising, ties allowed -/
def Srt (lt : α → α → Bool) (l : List α) : Prop := l.Pairwise fun a b => lt b a = false
section
variable {lt : α → α → Bool}
theorem ins_length (x : α) : ∀ l, (ins lt x l).length = l.length + 1
 | [] => rfl
 | y :: ys => by unfold ins; split <;> simp [ins_length x ys]
theorem mem_ins {x z : α} : ∀ {l : List α}, z ∈ ins lt x l ↔ z = x ∨ z ∈ l
 | [] => by simp [ins]
 | y :: ys => by
  unfold ins
  split
  ·simp
  ·simp only [List.mem_cons, mem_ins]
   constructor
   ·rintro (h | h | h) <;> simp [h]
   ·rintro (h | h | h) <;> simp [h]
theorem ins_srt (ho : SOrd lt) (x : α) : ∀ {l : List α}, Srt lt l → Srt lt (ins lt x l)
 | [], _ => by simp [ins, Srt]
 | y :: ys, h => by
  unfold Srt at h
  rw [List.pairwise_cons] at h
  unfold ins
  split
  ·rename_i hxy
   unfold Srt
   rw [List.pairwise_cons, List.pairwise_cons]
   refine ⟨fun z hz => ?_, h⟩
   rcases List.mem_cons.1 hz with rfl | hz
   ·exact ho.asym hxy
   ·exact ho.asym (ho.tr hxy (h.1 z hz))
  ·rename_i hxy
   have hxy : lt x y = false := by simpa using hxy
   unfold Srt
   rw [List.pairwise_cons]
   refine ⟨fun z hz => ?_, ins_srt ho x h.2⟩
   rcases mem_ins.1 hz with rfl | hz
   ·exact hxy
   ·exact h.1 z hz
theorem ins_left {x : α} {Y : List α} (hY : ∀ y ∈ Y, lt x y = true) : ∀ X, ins lt x (X ++ Y) = ins lt x X ++ Y
 | [] => by
  cases Y with
  | nil => rfl
  | cons y ys => simp [ins, hY y (by simp)]
 | a :: X => by
  simp only [List.cons_append, ins]
  split
  ·rfl
  ·rw [ins_left hY X]; rfl
theorem ins_right {x : α} {Y : List α} : ∀ X, (∀ y ∈ X, lt x y = false) → ins lt x (X ++ Y) = X ++ ins lt x Y
 | [], _ => rfl
 | a :: X, h => by
  simp only [List.cons_append, ins, h a (by simp)]
  simp only [Bool.false_eq_true, ↓reduceIte, List.cons.injEq, true_and]
  exact ins_right X fun y hy => h y (by simp [hy])
theorem ins_mid {x : α} {X Y : List α} (hX : ∀ y ∈ X, lt x y = false) (hY : ∀ y ∈ Y, lt x y = true) : ins lt x (X ++ Y) = X ++ x :: Y := by
 rw [ins_right X hX]
 have := ins_left (lt := lt) (x := x) hY []
 simpa [ins] using this
theorem mrg_nil (L : List α) : mrg lt L [] = L := rfl
theorem mrg_cons (L : List α) (x : α) (R : List α) : mrg lt L (x :: R) = mrg lt (ins lt x L) R := rfl
theorem mrg_app (L A B : List α) : mrg lt L (A ++ B) = mrg lt (mrg lt L A) B := by simp [mrg, List.foldl_append]
theorem mrg_snoc (L : List α) (R : List α) (x : α) : mrg lt L (R ++ [x]) = ins lt x (mrg lt L R) := by rw [mrg_app]; rfl
theorem mem_mrg {z : α} : ∀ {R L : List α}, z ∈ mrg lt L R ↔ z ∈ L ∨ z ∈ R
 | [], L => by simp [mrg_nil]
 | x :: R, L => by
  rw [mrg_cons, mem_mrg, mem_ins, List.mem_cons]
  constructor
  ·rintro ((h | h) | h) <;> simp [h]
  ·rintro (h | h | h) <;> simp [h]
theorem mrg_length : ∀ (R L : List α), (mrg lt L R).length = L.length + R.length
 | [], L => by simp [mrg_nil]
 | x :: R, L => by rw [mrg_cons, mrg_length R, ins_length]; simp; omega
theorem mrg_srt (ho : SOrd lt) : ∀ (R : List α) {L : List α}, Srt lt L → Srt lt (mrg lt L R)
 | [], _, h => h
 | x :: R, _, h => mrg_srt ho R (ins_srt ho x h)
theorem mrg_left {Y : List α} : ∀ (R L : List α), (∀ r ∈ R, ∀ y ∈ Y, lt r y = true) → mrg lt (L ++ Y) R = mrg lt L R ++ Y
 | [], _, _ => rfl
 | r :: R, L, h => by
  rw [mrg_cons, mrg_cons, ins_left (h r (by simp)) L]
  exact mrg_left R _ fun r' hr => h r' (by simp [hr])
theorem mrg_right {X : List α} : ∀ (R L : List α), (∀ r ∈ R, ∀ x ∈ X, lt r x = false) → mrg lt (X ++ L) R = X ++ mrg lt L R
 | [], _, _ => rfl
 | r :: R, L, h => by
  rw [mrg_cons, mrg_cons, ins_right X (h r (by simp))]
  exact mrg_right R _ fun r' hr => h r' (by simp [hr])
/-- two sorted lists, parted so that the first parts go first -/
theorem mrg_split {L1 L2 R1 R2 : List α} (h1 : ∀ r ∈ R1, ∀ l ∈ L2, lt r l = true) (h2 : ∀ r ∈ R2, ∀ l ∈ L1, lt r l = false) (h3 : ∀ r ∈ R2, ∀ l ∈ R1, lt r l = false) :
  mrg lt (L1 ++ L2) (R1 ++ R2) = mrg lt L1 R1 ++ mrg lt L2 R2 := by
 rw [mrg_app, mrg_left R1 L1 h1]
 refine mrg_right R2 L2 fun r hr x hx => ?_
 rcases mem_mrg.1 hx with hx | hx
 ·exact h2 r hr x hx
 ·exact h3 r hr x hx
theorem mrg_none : ∀ {R : List α}, Srt lt R → mrg lt [] R = R := by
 intro R
 induction R using rev_ind with
 | h0 => intro _; rfl
 | h1 R x ih =>
  intro h
  unfold Srt at h
  rw [List.pairwise_append] at h
  rw [mrg_snoc, ih h.1]
  have := ins_right (lt := lt) (x := x) (Y := []) R (fun y hy => h.2.2 y hy x (by simp))
  simpa [ins] using this
theorem ins_comm (ho : SOrd lt) {x s : α} (hx : lt x s = true) : ∀ M, ins lt s (ins lt x M) = ins lt x (ins lt s M)
 | [] => by simp [ins, hx, ho.asym hx]
 | m :: M => by
  by_cases h1 : lt x m = true
  ·simp only [ins, h1, if_true]
   simp only [ins, ho.asym hx, Bool.false_eq_true, ↓reduceIte]
   by_cases h2 : lt s m = true
   ·simp [ins, h2, hx]
   ·simp [ins, h2, h1]
  ·have h1 : lt x m = false := by simpa using h1
   have h2 : lt s m = false := ho.le h1 (ho.asym hx)
   simp only [ins, h1, h2, Bool.false_eq_true, ↓reduceIte]
   rw [ins_comm ho hx M]
theorem mrg_ins (ho : SOrd lt) {x : α} : ∀ (S M : List α), (∀ s ∈ S, lt x s = true) → mrg lt (ins lt x M) S = ins lt x (mrg lt M S)
 | [], _, _ => rfl
 | s :: S, M, h => by
  rw [mrg_cons, mrg_cons, ins_comm ho (h s (by simp)), mrg_ins ho S _ fun t ht => h t (by simp [ht])]
theorem mrg_of_ins (ho : SOrd lt) {x : α} : ∀ (S L : List α), Srt lt S → mrg lt L (ins lt x S) = ins lt x (mrg lt L S)
 | [], _, _ => rfl
 | y :: S, L, h => by
  unfold Srt at h
  rw [List.pairwise_cons] at h
  by_cases h1 : lt x y = true
  ·simp only [ins, h1, if_true]
   rw [mrg_cons, mrg_ins ho (y :: S) L]
   intro s hs
   rcases List.mem_cons.1 hs with rfl | hs
   ·exact h1
   ·exact ho.tr h1 (h.1 s hs)
  ·simp only [ins, h1, Bool.false_eq_true, ↓reduceIte]
   rw [mrg_cons, mrg_cons, mrg_of_ins ho S _ h.2]
theorem ssort_srt (ho : SOrd lt) (l : List α) : Srt lt (ssort lt l) := mrg_srt ho l List.Pairwise.nil
theorem ssort_length (l : List α) : (ssort lt l).length = l.length := by unfold ssort; rw [mrg_length]; simp
theorem mem_ssort {z : α} {l : List α} : z ∈ ssort lt l ↔ z ∈ l := by unfold ssort; rw [mem_mrg]; simp
theorem ssort_snoc (l : List α) (x : α) : ssort lt (l ++ [x]) = ins lt x (ssort lt l) := mrg_snoc _ _ _
theorem mrg_ssort (ho : SOrd lt) (L : List α) : ∀ B, mrg lt L (ssort lt B) = mrg lt L B := by
 intro B
 induction B using rev_ind with
 | h0 => rfl
 | h1 B x ih => rw [ssort_snoc, mrg_of_ins ho _ _ (ssort_srt ho B), ih, mrg_snoc]
theorem ssort_app (ho : SOrd lt) (A B : List α) : mrg lt (ssort lt A) (ssort lt B) = ssort lt (A ++ B) := by
 rw [mrg_ssort ho]; unfold ssort; rw [mrg_app]
end
/-! ### exchanges -/
variable [Inhabited α]
theorem arr_at {d : Array α} {P S : List α} {x : α} {i : Nat} (h : d.toList = P ++ x :: S) (hi : P.length = i) : d[i]! = x := by
 subst hi
 have h2 : d.toList[P.length]? = some x := by rw [h]; simp
 rw [Array.getElem?_toList] at h2
 rw [getElem!_def, h2]
theorem swp_list {d : Array α} {P M S : List α} {x y : α} {i j : Nat} (h : d.toList = P ++ x :: (M ++ y :: S)) (hi : P.length = i) (hj : P.length + 1 + M.length = j) :
  (swp d i j).toList = P ++ y :: (M ++ x :: S) ∧ (swp d j i).toList = P ++ y :: (M ++ x :: S) := by
 have e1 : d[i]! = x := arr_at h hi
 have e2 : d[j]! = y := arr_at (P := P ++ x :: M) (S := S) (by simpa using h) (by simp; omega)
 subst hi hj
 unfold swp
 rw [e1, e2]
 constructor
 ·simp only [Array.toList_setIfInBounds, h]
  rw [List.set_append_right _ _ (Nat.le_refl _)]
  simp only [Nat.sub_self, List.set_cons_zero]
  rw [List.set_append_right _ _ (by omega)]
  rw [show P.length + 1 + M.length - P.length = M.length + 1 by omega, List.set_cons_succ, List.set_append_right _ _ (Nat.le_refl _)]
  simp
 ·simp only [Array.toList_setIfInBounds, h]
  rw [List.set_append_right _ _ (by omega)]
  rw [show P.length + 1 + M.length - P.length = M.length + 1 by omega, List.set_cons_succ, List.set_append_right _ _ (Nat.le_refl _)]
  simp only [Nat.sub_self, List.set_cons_zero]
  rw [List.set_append_right _ _ (Nat.le_refl _)]
  simp
end Wells
namespace Wells
open Go.Sort
variable {α : Type}
section
variable [Inhabited α]
def swr (P X M Y S : List α) (i : Nat) : List α := P ++ (Y.take i ++ (X.drop i ++ (M ++ (X.take i ++ (Y.drop i ++ S)))))
theorem swr_parts {A X M Y S : List α} {i n a b : Nat} (hx : X.length = n) (hy : Y.length = n) (hi : i < n) (ha : A.length + i = a) (hb : A.length + n + M.length + i = b) :
  ∃ A' M' S' x y, swr A X M Y S i = A' ++ x :: (M' ++ y :: S') ∧ swr A X M Y S (i + 1) = A' ++ y :: (M' ++ x :: S') ∧ A'.length = a ∧ a + 1 + M'.length = b := by
 obtain ⟨x, ex, tx⟩ : ∃ x, X.drop i = x :: X.drop (i + 1) ∧ X.take (i + 1) = X.take i ++ [x] := ⟨X[i], List.drop_eq_getElem_cons (by omega), List.take_succ_eq_append_getElem (by omega)⟩
 obtain ⟨y, ey, ty⟩ : ∃ y, Y.drop i = y :: Y.drop (i + 1) ∧ Y.take (i + 1) = Y.take i ++ [y] := ⟨Y[i], List.drop_eq_getElem_cons (by omega), List.take_succ_eq_append_getElem (by omega)⟩
 refine ⟨A ++ Y.take i, X.drop (i + 1) ++ (M ++ X.take i), Y.drop (i + 1) ++ S, x, y, ?_, ?_, by simp; omega, by simp; omega⟩
 ·unfold swr; rw [ex, ey]; simp
 ·unfold swr; rw [tx, ty]; simp
theorem swr_start (P X M Y S : List α) : swr P X M Y S 0 = P ++ (X ++ (M ++ (Y ++ S))) := by simp [swr]
theorem swr_end {P X M Y S : List α} {n : Nat} (hx : X.length = n) (hy : Y.length = n) : swr P X M Y S n = P ++ (Y ++ (M ++ (X ++ S))) := by
 subst hx
 have e1 : Y.take X.length = Y := by rw [← hy]; exact List.take_length
 have e2 : Y.drop X.length = [] := by rw [← hy]; exact List.drop_length
 simp [swr, e1, e2]
variable {lt : α → α → Bool}
theorem srt_at {L : List α} (h : Srt lt L) {i j : Nat} (hij : i ≤ j) (hj : j < L.length) (hr : ∀ x, lt x x = false) : lt (L[j]!) (L[i]!) = false := by
 rw [getElem!_pos L i (by omega), getElem!_pos L j hj]
 rcases Nat.lt_or_eq_of_le hij with h1 | h1
 ·exact List.pairwise_iff_getElem.1 h i j (by omega) hj h1
 ·subst h1; exact hr _
theorem SOrd.irr (ho : SOrd lt) (x : α) : lt x x = false := by
 cases h : lt x x
 ·rfl
 ·have := ho.asym h; rw [h] at this; exact this
theorem sym_mrg (ho : SOrd lt) {L R : List α} (hL : Srt lt L) (hR : Srt lt R) {k1 k2 : Nat} (h1 : k1 ≤ L.length) (h2 : k2 ≤ R.length)
  (f1 : k1 = 0 ∨ k2 = R.length ∨ lt (R[k2]!) (L[k1 - 1]!) = false) (f2 : k1 = L.length ∨ k2 = 0 ∨ lt (R[k2 - 1]!) (L[k1]!) = true) :
  mrg lt L R = mrg lt (L.take k1) (R.take k2) ++ mrg lt (L.drop k1) (R.drop k2) := by
 have e : mrg lt L R = mrg lt (L.take k1 ++ L.drop k1) (R.take k2 ++ R.drop k2) := by simp
 rw [e]
 have inT : ∀ {Z : List α} {k : Nat} {z : α}, z ∈ Z.take k → ∃ i, i < k ∧ i < Z.length ∧ Z[i]! = z := by
  intro Z k z hz
  obtain ⟨i, hi, rfl⟩ := List.mem_iff_getElem.1 hz
  simp only [List.length_take] at hi
  exact ⟨i, by omega, by omega, by rw [getElem!_pos Z i (by omega)]; simp⟩
 have inD : ∀ {Z : List α} {k : Nat} {z : α}, z ∈ Z.drop k → ∃ i, k ≤ i ∧ i < Z.length ∧ Z[i]! = z := by
  intro Z k z hz
  obtain ⟨i, hi, rfl⟩ := List.mem_iff_getElem.1 hz
  simp only [List.length_drop] at hi
  exact ⟨k + i, by omega, by omega, by rw [getElem!_pos Z (k + i) (by omega)]; simp⟩
 refine mrg_split ?_ ?_ ?_
 ·intro r hr l hl
  obtain ⟨i, hi, hi2, rfl⟩ := inT hr
  obtain ⟨j, hj, hj2, rfl⟩ := inD hl
  rcases f2 with h | h | h
  ·omega
  ·omega
  ·exact ho.tr (ho.tr' (srt_at hR (i := i) (j := k2 - 1) (by omega) (by omega) ho.irr) h) (srt_at hL hj hj2 ho.irr)
 ·intro r hr l hl
  obtain ⟨i, hi, hi2, rfl⟩ := inD hr
  obtain ⟨j, hj, hj2, rfl⟩ := inT hl
  rcases f1 with h | h | h
  ·omega
  ·omega
  ·exact ho.le (srt_at hL (i := j) (j := k1 - 1) (by omega) (by omega) ho.irr) (ho.le h (srt_at hR hi hi2 ho.irr))
 ·intro r hr l hl
  obtain ⟨i, hi, hi2, rfl⟩ := inD hr
  obtain ⟨j, hj, hj2, rfl⟩ := inT hl
  exact srt_at hR (by omega) hi2 ho.irr
theorem Srt.take {L : List α} (h : Srt lt L) (k : Nat) : Srt lt (L.take k) := List.Pairwise.sublist (List.take_sublist k L) h
theorem Srt.drop {L : List α} (h : Srt lt L) (k : Nat) : Srt lt (L.drop k) := List.Pairwise.sublist (List.drop_sublist k L) h
/-- one element, laid into a sorted list behind it -/
theorem one_mrg (ho : SOrd lt) {x : α} {R : List α} (hR : Srt lt R) {k : Nat} (h2 : k ≤ R.length) (f1 : k = R.length ∨ lt (R[k]!) x = false) (f2 : k = 0 ∨ lt (R[k - 1]!) x = true) :
  mrg lt [x] R = R.take k ++ x :: R.drop k := by
 rw [sym_mrg ho (L := [x]) (k1 := 0) (k2 := k) (by simp [Srt]) hR (by simp) h2 (.inl rfl) (by rcases f2 with h | h; exact .inr (.inl h); exact .inr (.inr (by simpa using h)))]
 simp only [List.take_zero, List.drop_zero]
 rw [mrg_none (hR.take k)]
 congr 1
 have := mrg_right (lt := lt) (X := [x]) (R.drop k) [] (fun r hr y hy => by
  simp only [List.mem_singleton] at hy
  subst hy
  obtain ⟨i, hi, rfl⟩ := List.mem_iff_getElem.1 hr
  simp only [List.length_drop] at hi
  rcases f1 with h | h
  ·omega
  ·have h3 := srt_at hR (i := k) (j := k + i) (by omega) (by omega) ho.irr
   rw [getElem!_pos R (k + i) (by omega)] at h3
   simpa using ho.le h h3)
 rw [List.append_nil] at this
 rw [this, mrg_none (hR.drop k)]
 rfl
/-- one element, put into a sorted list ahead of it -/
theorem mrg_one (ho : SOrd lt) {x : α} {L : List α} (hL : Srt lt L) {k : Nat} (h2 : k ≤ L.length) (f1 : k = 0 ∨ lt x (L[k - 1]!) = false) (f2 : k = L.length ∨ lt x (L[k]!) = true) :
  mrg lt L [x] = L.take k ++ x :: L.drop k := by
 show ins lt x L = _
 have := ins_mid (lt := lt) (x := x) (X := L.take k) (Y := L.drop k) (fun y hy => by
  obtain ⟨i, hi, rfl⟩ := List.mem_iff_getElem.1 hy
  simp only [List.length_take] at hi
  rcases f1 with h | h
  ·omega
  ·have h3 := srt_at hL (i := i) (j := k - 1) (by omega) (by omega) ho.irr
   rw [getElem!_pos L i (by omega)] at h3
   simpa using ho.le h3 h) (fun y hy => by
  obtain ⟨i, hi, rfl⟩ := List.mem_iff_getElem.1 hy
  simp only [List.length_drop] at hi
  rcases f2 with h | h
  ·omega
  ·have h3 := srt_at hL (i := k) (j := k + i) (by omega) (by omega) ho.irr
   rw [getElem!_pos L (k + i) (by omega)] at h3
   simpa using ho.tr h h3)
 rwa [List.take_append_drop] at this
end
/-! ### sorted pieces of a width -/
def csort (lt : α → α → Bool) (w : Nat) (l : List α) : List α :=
 if _h : l.length < w ∨ w = 0 then ssort lt l else ssort lt (l.take w) ++ csort lt w (l.drop w)
termination_by l.length
decreasing_by simp; omega
variable {lt : α → α → Bool}
theorem csort_small {w : Nat} {l : List α} (h : l.length < w) : csort lt w l = ssort lt l := by unfold csort; rw [dif_pos (.inl h)]
theorem csort_step {w : Nat} {l : List α} (hw : 0 < w) (h : w ≤ l.length) : csort lt w l = ssort lt (l.take w) ++ csort lt w (l.drop w) := by
 conv => lhs; unfold csort
 rw [dif_neg (by omega)]
theorem csort_all {w : Nat} {l : List α} (hw : 0 < w) (h : l.length ≤ w) : csort lt w l = ssort lt l := by
 rcases Nat.lt_or_eq_of_le h with h1 | h1
 ·exact csort_small h1
 ·rw [csort_step hw (by omega), List.take_of_length_le h, List.drop_eq_nil_of_le h, csort_small (by simpa using hw)]
  simp [ssort, mrg]
theorem csort_two (ho : SOrd lt) {w : Nat} {l : List α} (hw : 0 < w) (h : 2 * w ≤ l.length) :
  csort lt w l = ssort lt (l.take w) ++ (ssort lt ((l.drop w).take w) ++ csort lt w (l.drop (2 * w))) ∧ csort lt (2 * w) l = mrg lt (ssort lt (l.take w)) (ssort lt ((l.drop w).take w)) ++ csort lt (2 * w) (l.drop (2 * w)) := by
 constructor
 ·rw [csort_step hw (by omega), csort_step (l := l.drop w) hw (by simp; omega), List.drop_drop]
  rw [show w + w = 2 * w by omega]
 ·rw [csort_step (w := 2 * w) (by omega) h, ssort_app ho]
  congr 2
  rw [show 2 * w = w + w by omega, List.take_add]
theorem csort_last (ho : SOrd lt) {w : Nat} {l : List α} (hw : 0 < w) (h1 : w < l.length) (h2 : l.length < 2 * w) :
  csort lt w l = ssort lt (l.take w) ++ ssort lt (l.drop w) ∧ csort lt (2 * w) l = mrg lt (ssort lt (l.take w)) (ssort lt (l.drop w)) := by
 constructor
 ·rw [csort_step hw (by omega), csort_small (l := l.drop w) (by simp; omega)]
 ·rw [csort_small h2, ssort_app ho, List.take_append_drop]
end Wells
