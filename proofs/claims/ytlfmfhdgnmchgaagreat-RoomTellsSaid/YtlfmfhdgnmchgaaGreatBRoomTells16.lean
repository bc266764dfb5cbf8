/- OpMake Scope2 -/
import Derived.Great.BuildSlice
import Derived.ScopeJumps
import Derived.WalkMore
import Derived.Test.YtlfmfhdgnmchgaaGreatBRoomTells00
set_option maxRecDepth 20000
set_option linter.unusedSimpArgs false
set_option linter.unusedVariables false
set_option linter.unusedSectionVars false
namespace Wells
open Go Go.RowKit
end Wells
namespace Wells
open Go Go.RowKit
/-- '[]T{x}', as one operation of a region: elements of one cell -/
theorem op_build1 {P : Program} {w : World} {o : Oper} {a : Act} {K : Act → World → Prop} {Q : Exit → Act → World → Prop} (t e : TypeId) (x : Operand) (ho : o.op = .buildSlice t 1 #[(0, x)]) (v : Value) (hx : a.eval x = v) (hv : v.cells = #[v])
    (ie : TypeInfo) (z : Value) (hu : P.underlying t = some (.slice e)) (hie : P.info? e = some ie) (hz : ie.zero = some z) (hs : ie.size = 1) (hzc : z.cells = #[z])
    (h : ∀ w' g, w.heap.size = g → Row w' g e [v] → Below g w w' → w'.heap.size = g + 1 → K (a.put o.dst (.slice (some ⟨g, 0, none⟩) 1 1)) w') : Oper.wp P o a w K Q := by
  refine wp_buildSlice t e 1 _ ho #[v] ie z hu hie hz (by rw [hs]; omega) (by rw [hs]; omega) ?_ ?_
  · rw [hs, hzc]
    simp [hx, Instr.fill, hv]
    apply Array.ext'
    simp [Array.toList_range, List.range_succ]
  · exact h _ _ rfl (Row.new w e #[v]) ((Below.refl _ _).alloc (Nat.le_refl _) _) (by simp)
end Wells
namespace Wells
open Go Go.RowKit
/-- a new variable, as one operation of a region -/
theorem op_alloc {P : Program} {w : World} {o : Oper} {a : Act} {K : Act → World → Prop} {Q : Exit → Act → World → Prop} (t : TypeId) (ho : o.op = .alloc t) (i : TypeInfo) (z : Value) (hi : P.info? t = some i) (hz : i.zero = some z)
    (h : ∀ w' g, w.heap.size = g → Row w' g t z.cells.toList → Below g w w' → w'.heap.size = g + 1 → K (a.put o.dst (.pointer (some ⟨g, 0, none⟩))) w') : Oper.wp P o a w K Q := by
  have key : (Instr.alloc t true (.tuple #[])).run P w = .ok (.pointer (some ⟨w.heap.size, 0, none⟩)) (w.alloc (.cells z.cells t)) := by
    simp [Instr.alloc, zeroValue, typeInfo, hi, hz, newVar, newRow]
  unfold Oper.wp execOp
  simp only [ho, Sem.run_bind, key, Result.andThen_ok]
  exact h _ _ rfl (by simpa using Row.new w t z.cells) ((Below.refl _ _).alloc (Nat.le_refl _) _) (by simp)
end Wells
namespace Wells
open Go Go.RowKit
/-- '[]T{x, y, z}', elements of one cell: the world as it comes to be -/
theorem op_build3 {P : Program} {w : World} {o : Oper} {a : Act} {K : Act → World → Prop} {Q : Exit → Act → World → Prop} (t e : TypeId) (x y z : Operand) (ho : o.op = .buildSlice t 3 #[(0, x), (1, y), (2, z)]) (v1 v2 v3 : Value) (hx : a.eval x = v1) (hy : a.eval y = v2) (hz' : a.eval z = v3)
    (c1 : v1.cells = #[v1]) (c2 : v2.cells = #[v2]) (c3 : v3.cells = #[v3])
    (ie : TypeInfo) (z0 : Value) (hu : P.underlying t = some (.slice e)) (hie : P.info? e = some ie) (hz : ie.zero = some z0) (hs : ie.size = 1) (hzc : z0.cells = #[z0])
    (h : K (a.put o.dst (.slice (some ⟨w.heap.size, 0, none⟩) 3 3)) (w.alloc (.cells #[v1, v2, v3] e))) : Oper.wp P o a w K Q := by
  refine wp_buildSlice t e 3 _ ho #[v1, v2, v3] ie z0 hu hie hz (by rw [hs]; omega) (by rw [hs]; omega) ?_ h
  rw [hs, hzc]
  simp [hx, hy, hz', Instr.fill, c1, c2, c3]
  apply Array.ext'
  simp [Array.toList_range, List.range_succ]
end Wells
namespace Wells
open Go Go.RowKit
/-- '[]T{x}', an element of eight cells -/
theorem op_build8 {P : Program} {w : World} {o : Oper} {a : Act} {K : Act → World → Prop} {Q : Exit → Act → World → Prop} (t e : TypeId) (x : Operand) (ho : o.op = .buildSlice t 1 #[(0, x)]) (v0 v1 v2 v3 v4 v5 v6 v7 : Value) (hx : a.eval x = .agg #[v0, v1, v2, v3, v4, v5, v6, v7])
    (ie : TypeInfo) (z0 z1 z2 z3 z4 z5 z6 z7 : Value) (hu : P.underlying t = some (.slice e)) (hie : P.info? e = some ie) (hz : ie.zero = some (.agg #[z0, z1, z2, z3, z4, z5, z6, z7])) (hs : ie.size = 8)
    (h : ∀ w' g, w.heap.size = g → Row w' g e [v0, v1, v2, v3, v4, v5, v6, v7] → Below g w w' → w'.heap.size = g + 1 → K (a.put o.dst (.slice (some ⟨g, 0, none⟩) 1 1)) w') : Oper.wp P o a w K Q := by
  refine wp_buildSlice t e 1 _ ho #[v0, v1, v2, v3, v4, v5, v6, v7] ie _ hu hie hz (by rw [hs]; omega) (by rw [hs]; omega) ?_ ?_
  · rw [hs]
    simp [hx, Instr.fill, Value.cells]
    apply Array.ext'
    simp [Array.toList_range, List.range_succ]
  · exact h _ _ rfl (Row.new w e #[v0, v1, v2, v3, v4, v5, v6, v7]) ((Below.refl _ _).alloc (Nat.le_refl _) _) (by simp)
end Wells

namespace Wells
open Go Go.RowKit
/-- as Q; by a goto to l1: J1, to l2: J2 -/
def jump2 (l1 l2 : Nat) (J1 J2 : Act → World → Prop) (Q : Exit → Act → World → Prop) : Exit → Act → World → Prop
  | .goto l', a, w => (l' = l1 ∧ J1 a w) ∨ (l' = l2 ∧ J2 a w)
  | e, a, w => Q e a w
theorem jump2_mono {l1 l2 : Nat} {J1 J1' J2 : Act → World → Prop} {Q : Exit → Act → World → Prop} (h : ∀ a w, J1 a w → J1' a w) : ∀ e a w, jump2 l1 l2 J1 J2 Q e a w → jump2 l1 l2 J1' J2 Q e a w := fun e a w hj => by
  cases e <;> first | exact hj | exact hj.elim (fun x => .inl ⟨x.1, h _ _ x.2⟩) .inr
section
variable {P : Program} {a : Act} {w : World} {Q : Exit → Act → World → Prop}
theorem wp_scope_two {c X Y : Code} (l1 l2 : Nat) (J1 J2 : Act → World → Prop) (μ : Act → World → Nat) (hf1 : findLabel c l1 = some (Code.skip.seq X)) (hf2 : findLabel c l2 = some (Code.skip.seq Y))
    (first : (∀ a w, J1 a w → X.wp P (jump2 l1 l2 J1 J2 Q) a w) → c.wp P (jump2 l1 l2 J1 J2 Q) a w)
    (pass1 : ∀ a w, J1 a w → X.wp P (jump2 l1 l2 (fun a' w' => J1 a' w' ∧ μ a' w' < μ a w) J2 Q) a w)
    (pass2 : ∀ a w, J2 a w → Y.wp P (jump2 l1 l2 (fun _ _ => False) (fun _ _ => False) Q) a w) : (Code.scope c).wp P Q a w := by
  have first' := first fun a w h => wp_mono (pass1 a w h) fun e a' w' => jump2_mono (fun _ _ h => h.1) e a' w'
  clear first
  have p1 : ∀ a w, J1 a w → (Code.skip.seq X).wp P (jump2 l1 l2 (fun a' w' => J1 a' w' ∧ μ a' w' < μ a w) J2 Q) a w := fun a w h => wp_seq (wp_skip (pass1 a w h))
  have p2 : ∀ a w, J2 a w → (Code.skip.seq Y).wp P (jump2 l1 l2 (fun _ _ => False) (fun _ _ => False) Q) a w := fun a w h => wp_seq (wp_skip (pass2 a w h))
  intro b k cs
  have hg1 : gotoIn l1 (.inScope c :: k) = some (.code (Code.skip.seq X) :: .inScope c :: k) := by simp [gotoIn, hf1]
  have hg2 : gotoIn l2 (.inScope c :: k) = some (.code (Code.skip.seq Y) :: .inScope c :: k) := by simp [gotoIn, hf2]
  have key2 : ∀ a w, J2 a w → ∃ e a' w', Q e a' w' ∧ Arrives P (lone (b.at a (.code (Code.skip.seq Y) :: .inScope c :: k)) cs w) b k cs e a' w' := by
    intro a w hJ
    obtain ⟨e, a₁, w₁, hq, harr⟩ := p2 a w hJ b (.inScope c :: k) cs
    cases e with
    | normal => exact ⟨.normal, a₁, w₁, hq, Steps.trans harr (.one step_inScope)⟩
    | exit id => exact ⟨.exit id, a₁, w₁, hq, fun k' hk => harr k' (by simp [exitTo, hk])⟩
    | goto l' => rcases hq with ⟨_, h⟩ | ⟨_, h⟩ <;> exact h.elim
    | ret => exact ⟨_, a₁, w₁, hq, harr⟩
    | panic ch => exact ⟨_, a₁, w₁, hq, harr⟩
    | outgrown => exact ⟨_, a₁, w₁, hq, harr⟩
  have key : ∀ n a w, μ a w = n → J1 a w → ∃ e a' w', Q e a' w' ∧ Arrives P (lone (b.at a (.code (Code.skip.seq X) :: .inScope c :: k)) cs w) b k cs e a' w' := by
    intro n
    induction n using Nat.strongRecOn with
    | _ n ih =>
      intro a w hn hJ
      obtain ⟨e, a₁, w₁, hq, harr⟩ := p1 a w hJ b (.inScope c :: k) cs
      cases e with
      | normal => exact ⟨.normal, a₁, w₁, hq, Steps.trans harr (.one step_inScope)⟩
      | exit id => exact ⟨.exit id, a₁, w₁, hq, fun k' hk => harr k' (by simp [exitTo, hk])⟩
      | goto l' =>
        rcases hq with ⟨rfl, hJ', hlt⟩ | ⟨rfl, hJ'⟩
        · obtain ⟨e₂, a₂, w₂, hq₂, harr₂⟩ := ih _ (by omega) a₁ w₁ rfl hJ'
          exact ⟨e₂, a₂, w₂, hq₂, .of_steps (harr _ hg1) harr₂⟩
        · obtain ⟨e₂, a₂, w₂, hq₂, harr₂⟩ := key2 a₁ w₁ hJ'
          exact ⟨e₂, a₂, w₂, hq₂, .of_steps (harr _ hg2) harr₂⟩
      | ret => exact ⟨_, a₁, w₁, hq, harr⟩
      | panic ch => exact ⟨_, a₁, w₁, hq, harr⟩
      | outgrown => exact ⟨_, a₁, w₁, hq, harr⟩
  obtain ⟨e, a₁, w₁, hq, harr⟩ := first' b (.inScope c :: k) cs
  cases e with
  | normal => exact ⟨.normal, a₁, w₁, hq, .head step_scope (Steps.trans harr (.one step_inScope))⟩
  | exit id => exact ⟨.exit id, a₁, w₁, hq, fun k' hk => .head step_scope (harr k' (by simp [exitTo, hk]))⟩
  | goto l' =>
    rcases hq with ⟨rfl, hJ'⟩ | ⟨rfl, hJ'⟩
    · obtain ⟨e₂, a₂, w₂, hq₂, harr₂⟩ := key _ a₁ w₁ rfl hJ'
      exact ⟨e₂, a₂, w₂, hq₂, .of_steps (.head step_scope (harr _ hg1)) harr₂⟩
    · obtain ⟨e₂, a₂, w₂, hq₂, harr₂⟩ := key2 a₁ w₁ hJ'
      exact ⟨e₂, a₂, w₂, hq₂, .of_steps (.head step_scope (harr _ hg2)) harr₂⟩
  | ret => exact ⟨_, a₁, w₁, hq, .of_steps (.one step_scope) harr⟩
  | panic ch => exact ⟨_, a₁, w₁, hq, .of_steps (.one step_scope) harr⟩
  | outgrown => exact ⟨_, a₁, w₁, hq, .of_steps (.one step_scope) harr⟩
end
end Wells

