/- make([]T, l, c), as one operation of a region. -/
import Derived.Test.YtmefbbpcfphciaaDoorWords
import Derived.Great.BuildSlice
namespace Wells
open Go Go.RowKit
theorem op_make {P : Program} {w : World} {o : Oper} {a : Act} {K : Act → World → Prop} {Q : Exit → Act → World → Prop}
    (l c : Operand) (t : TypeId) (hop : o.op = Op.makeSlice t l c)
    (e : TypeId) (i : TypeInfo) (z : Value) (bytes : Nat) (h1 : P.underlying t = some (.slice e)) (h2 : P.info? e = some i) (h3 : i.zero = some z) (h4 : i.size = 1) (h5 : i.bytes = bytes) (hz : z.cells = #[z])
    (kl kc : IntKind) (L C : Int) (n m : Nat) (hl : a.eval l = .int kl L) (hc : a.eval c = .int kc C) (hL : L = (n : Int)) (hC : C = (m : Int)) (hnm : n ≤ m) (b2 : bytes * m ≤ 281474976710656) (b3 : m ≤ 9223372036854775807)
    (hK : ∀ w', Row w' w.heap.size e (List.replicate m z) → Below w.heap.size w w' → w'.heap.size = w.heap.size + 1 → K (a.put o.dst (.slice (some ⟨w.heap.size, 0, none⟩) n m)) w') :
    Oper.wp P o a w K Q := by
  subst h5 hL hC
  have hbb : (i.bytes : Int) * (m : Int) ≤ 281474976710656 := by
    have h : ((i.bytes * m : Nat) : Int) ≤ 281474976710656 := by omega
    rwa [Int.natCast_mul] at h
  have hrun := run_make (P := P) w t e i z h1 h2 h3 kl kc n m (by omega) (by omega) hbb (by omega)
  simp only [Int.toNat_natCast, h4, Nat.mul_one, hz] at hrun
  unfold Oper.wp
  simp [execOp, hop, hl, hc, hrun, Result.andThen]
  refine hK _ ?_ ((Below.refl _ _).alloc (Nat.le_refl _) _) (by simp)
  have := Row.new w e (madeCells #[z] m)
  rwa [toList_madeCells_one] at this
end Wells
namespace Wells
open Go Go.RowKit
/-- '[]T{x}', as one operation of a region: elements of one cell -/
theorem op_build1 {P : Program} {w : World} {o : Oper} {a : Act} {K : Act → World → Prop} {Q : Exit → Act → World → Prop} (t e : TypeId) (x : Operand) (ho : o.op = .buildSlice t 1 #[(0, x)]) (v : Value) (hx : a.eval x = v) (hv : v.cells = #[v])
    (ie : TypeInfo) (z : Value) (hu : P.underlying t = some (.slice e)) (hie : P.info? e = some ie) (hz : ie.zero = some z) (hs : ie.size = 1) (hzc : z.cells = #[z])
    (h : ∀ w' g, w.heap.size = g → Row w' g e [v] → Below g w w' → w'.heap.size = g + 1 → K (a.put o.dst (.slice (some ⟨g, 0, none⟩) 1 1)) w') : Oper.wp P o a w K Q := by
  refine wp_buildSlice t e 1 _ ho #[v] ie z hu hie hz (by rw [hs]; omega) (by rw [hs]; omega) ?_ ?_
  · rw [hs, hzc]
    simp [hx, Instr.fill, hv]
    apply Array.ext'
    simp [Array.toList_range, List.range_succ]
  · exact h _ _ rfl (Row.new w e #[v]) ((Below.refl _ _).alloc (Nat.le_refl _) _) (by simp)
/-- elements of two cells -/
theorem op_build2 {P : Program} {w : World} {o : Oper} {a : Act} {K : Act → World → Prop} {Q : Exit → Act → World → Prop} (t e : TypeId) (x : Operand) (ho : o.op = .buildSlice t 1 #[(0, x)]) (v1 v2 : Value) (hx : a.eval x = .agg #[v1, v2])
    (ie : TypeInfo) (z1 z2 : Value) (hu : P.underlying t = some (.slice e)) (hie : P.info? e = some ie) (hz : ie.zero = some (.agg #[z1, z2])) (hs : ie.size = 2)
    (h : ∀ w' g, w.heap.size = g → Row w' g e [v1, v2] → Below g w w' → w'.heap.size = g + 1 → K (a.put o.dst (.slice (some ⟨g, 0, none⟩) 1 1)) w') : Oper.wp P o a w K Q := by
  refine wp_buildSlice t e 1 _ ho #[v1, v2] ie _ hu hie hz (by rw [hs]; omega) (by rw [hs]; omega) ?_ ?_
  · rw [hs]
    simp [hx, Instr.fill, Value.cells]
    apply Array.ext'
    simp [Array.toList_range, List.range_succ]
  · exact h _ _ rfl (Row.new w e #[v1, v2]) ((Below.refl _ _).alloc (Nat.le_refl _) _) (by simp)
end Wells
