/- What came in: parameters (a struct of three numbers); lists of bytes. -/
import Derived.Test.YtnamnoaedfbhpaaFrame
import Derived.Test.YtnamnoaedfbhpaaLists
import Derived.Test.YtnamnoaedfbhpaaPre
import Derived.Deep.Matrix
import Derived.Deep.Strs
namespace Go.Proofs.Ytnamnoaedfbhpaa
open Go.ChangeShapes Go.WideShapes Go.ChangeAt Go.RowKit Wells
/-- parameters that came in -/
structure IsPar (p : Par) : Prop where
  k : -9223372036854775808 ≤ p.K ∧ p.K ≤ 9223372036854775807
  h : -9223372036854775808 ≤ p.H ∧ p.H ≤ 9223372036854775807
  s : -9223372036854775808 ≤ p.S ∧ p.S ≤ 9223372036854775807
/-- lists of bytes that came in -/
structure IsBytess (w : World) (A : Option Addr) (n c : Nat) (vs : List Value) (ls : List (List Byte)) : Prop where
  rb : RBs w w.heap.size A n vs ls
  le : n ≤ c
  cap : c ≤ 9223372036854775807
theorem cells_int : Try.prog.cellsOf 3 = 1 := by kernel_rfl
theorem cells_par : Try.prog.cellsOf 23 = 3 := by kernel_rfl
theorem isPar_open {H : Type} {enc : TypeId × Value → H} {w : World} {base b0 : Nat} {sp : Nat → Bool} {held : Bool} {v : Value} {d : DataW H} {ps : List MemPlace}
    (hv : Value.okWide Try.prog w .any b0 23 v) (h : DataW.Trod enc Try.prog w base sp held 23 v d ps) : ∃ p : Par, v = p.val ∧ IsPar p := by
  obtain ⟨cs, rfl, hcs⟩ := okWide_struct Try.underlying23 hv
  rw [cells_par] at hcs
  obtain ⟨fuel, h⟩ := h
  obtain ⟨cl⟩ := cs
  simp only [Value.cells] at h
  obtain ⟨y0, y1, y2, n, _, _, t0, t1, t2⟩ := Deep.trod_struct3 Try.underlying23 h
  match cl, hcs with
  | [c0, c1, c2], _ =>
    simp only [cells_int, List.drop, List.take] at t0 t1 t2
    obtain ⟨x, hx, _, wx⟩ := DataW.trod_int Try.underlying3 t0
    obtain ⟨y, hy, _, wy⟩ := DataW.trod_int Try.underlying3 t1
    obtain ⟨z, hz, _, wz⟩ := DataW.trod_int Try.underlying3 t2
    simp only [List.cons.injEq, and_true] at hx hy hz
    subst hx hy hz
    exact ⟨⟨x, y, z⟩, rfl, bounds_i64 wx, bounds_i64 wy, bounds_i64 wz⟩
theorem isBytess_open {H : Type} {enc : TypeId × Value → H} {w : World} {base : Nat} {sp : Nat → Bool} {held : Bool} {A : Option Addr} {n c fuel : Nat} {x : DataW H × List MemPlace}
    (hsp : sp = fun _ => true) (hf : DataW.trod enc Try.prog w base sp held fuel 31 [.slice A n c] = some x) : ∃ vs ls, IsBytess w A n c vs ls := by
  subst hsp
  rcases Deep.open_int_rows Try.underlying31 Try.underlying30 Try.underlying5 (by kernel_rfl) (by kernel_rfl) hf with ⟨hcs, _⟩ | ⟨a, len, cap, Ar, L, C, Z, hcs, _, hl, hm, _, hr⟩
  · simp at hcs
    obtain ⟨rfl, rfl, rfl⟩ := hcs
    exact ⟨[], [], ⟨Sl.nil_, rfl, fun i hi => by omega⟩, by omega, by omega⟩
  · simp at hcs
    obtain ⟨rfl, rfl, rfl⟩ := hcs
    unfold maxLen at hm
    refine ⟨(List.range n).map fun r => .slice (Ar r) (L r) (C r), (List.range n).map fun r => ((Z r).take (L r)).map fun z => BitVec.ofNat 8 z.toNat, ⟨?_, by simp, fun i hi => ?_⟩, hl, by omega⟩
    · refine sl_of_cells (by simp) fun i hi => ?_
      rw [(hr i (by omega)).1]
      simp [hi]
    · obtain ⟨h1, h2, h3, h4, h5, h6, h7⟩ := hr i (by omega)
      unfold maxLen at h3
      have hb : ∀ z ∈ Z i, 0 ≤ z ∧ z ≤ 255 := fun z hz => by
        have := bounds_u8 (h5 z hz); omega
      have hlen : L i ≤ (Z i).length := by omega
      simp only [List.getD_eq_getElem?_getD, List.getElem?_map, List.getElem?_range hi, Option.map_some, Option.getD_some]
      have hl2 : (((Z i).take (L i)).map fun z => (BitVec.ofNat 8 z.toNat : Byte)).length = L i := by simp; omega
      refine ⟨Ar i, C i, by rw [hl2], by rw [hl2]; exact h2, by omega, ?_⟩
      rw [hl2]
      cases ha : Ar i with
      | none =>
        have := h6 ha
        have hz0 : L i = 0 := by omega
        rw [hz0]
        simp
        exact Sl.nil_
      | some a' =>
        obtain ⟨_, hc⟩ := h7 a' ha
        refine sl_of_cells (by simp; omega) fun j hj => ?_
        rw [hc j (by omega), List.map_map, List.getElem?_map, List.getElem?_take, if_pos hj, List.getElem?_eq_getElem (by omega)]
        have := hb ((Z i)[j]'(by omega)) (List.getElem_mem _)
        simp only [Option.map_some, Function.comp, byte_of_int this.1 this.2]
        rw [List.getD_eq_getElem?_getD, List.getElem?_eq_getElem (by omega)]
        rfl
end Go.Proofs.Ytnamnoaedfbhpaa
