/- Open -/
import Derived.Deep.Matrix
import Derived.Deep.Strs
import Derived.Test.YtbpimfhachbcdaaDoorBPageJoins03
import Derived.Test.YtbpimfhachbcdaaDoorBPageJoins07
import Derived.Test.YtbpimfhachbcdaaDoorBPageJoins32
set_option maxRecDepth 20000
set_option linter.unusedSimpArgs false
set_option linter.unusedVariables false
namespace Go.Proofs.YtbpimfhachbcdaaDoor
open Go.ChangeShapes Go.WideShapes Go.ChangeAt Go.RowKit Wells
/-- lists of bytes that came in -/
structure IsBytess (w : World) (A : Option Addr) (n c : Nat) (vs : List Value) (ls : List (List Byte)) : Prop where
  rb : RBs w w.heap.size A n vs ls
  le : n ≤ c
  cap : c ≤ 9223372036854775807
theorem isBytess_open {H : Type} {enc : TypeId × Value → H} {w : World} {base : Nat} {sp : Nat → Bool} {held : Bool} {A : Option Addr} {n c fuel : Nat} {x : DataW H × List MemPlace}
    (hsp : sp = fun _ => true) (hf : DataW.trod enc Tryd.prog w base sp held fuel 34 [.slice A n c] = some x) : ∃ vs ls, IsBytess w A n c vs ls := by
  subst hsp
  rcases Deep.open_int_rows Tryd.underlying34 Tryd.underlying37 Tryd.underlying5 (by kernel_rfl) (by kernel_rfl) hf with ⟨hcs, _⟩ | ⟨a, len, cap, Ar, L, C, Z, hcs, _, hl, hm, _, hr⟩
  · simp at hcs
    obtain ⟨rfl, rfl, rfl⟩ := hcs
    exact ⟨[], [], ⟨Sl.nil_, rfl, fun i hi => by omega⟩, by omega, by omega⟩
  · simp at hcs
    obtain ⟨rfl, rfl, rfl⟩ := hcs
    unfold maxLen at hm
    refine ⟨(List.range n).map fun r => .slice (Ar r) (L r) (C r), (List.range n).map fun r => ((Z r).take (L r)).map fun z => BitVec.ofNat 8 z.toNat, ⟨?_, by simp, fun i hi => ?_⟩, hl, by omega⟩
    · refine sl_of_cells (by simp) fun i hi => ?_
      rw [(hr i (by omega)).1]
      simp [hi]
    · obtain ⟨h1, h2, h3, h4, h5, h6, h7⟩ := hr i (by omega)
      unfold maxLen at h3
      have hb : ∀ z ∈ Z i, 0 ≤ z ∧ z ≤ 255 := fun z hz => by
        have := bounds_u8 (h5 z hz); omega
      have hlen : L i ≤ (Z i).length := by omega
      simp only [List.getD_eq_getElem?_getD, List.getElem?_map, List.getElem?_range hi, Option.map_some, Option.getD_some]
      have hl2 : (((Z i).take (L i)).map fun z => (BitVec.ofNat 8 z.toNat : Byte)).length = L i := by simp; omega
      refine ⟨Ar i, C i, by rw [hl2], by rw [hl2]; exact h2, by omega, ?_⟩
      rw [hl2]
      cases ha : Ar i with
      | none =>
        have := h6 ha
        have hz0 : L i = 0 := by omega
        rw [hz0]
        simp
        exact Sl.nil_
      | some a' =>
        obtain ⟨_, hc⟩ := h7 a' ha
        refine sl_of_cells (by simp; omega) fun j hj => ?_
        rw [hc j (by omega), List.map_map, List.getElem?_map, List.getElem?_take, if_pos hj, List.getElem?_eq_getElem (by omega)]
        have := hb ((Z i)[j]'(by omega)) (List.getElem_mem _)
        simp only [Option.map_some, Function.comp, byte_of_int this.1 this.2]
        rw [List.getD_eq_getElem?_getD, List.getElem?_eq_getElem (by omega)]
        rfl
end Go.Proofs.YtbpimfhachbcdaaDoor

