/- PlayLt -/
import Derived.Test.YtbpimfhachbcdaaDoorBPageJoins29
import Derived.Test.YtbpimfhachbcdaaDoorBPageJoins36
import Derived.Test.YtbpimfhachbcdaaDoorBPageJoins49
set_option maxRecDepth 20000
set_option linter.unusedSimpArgs false
set_option linter.unusedVariables false
namespace Go.Proofs.YtbpimfhachbcdaaDoor
open Go.RowKit Wells
theorem LightM.lt {m : Mani} (h : LightM m) (h' : M64 m) : Lt 2000 m := ⟨h', fun e he => Nat.le_trans (h.nm e he) (by omega), fun e he => Nat.le_trans (h.tr e he) (by omega), Nat.le_trans h.dl (by omega), Nat.le_trans h.ol (by omega)⟩
theorem _root_.Wells.PlayM.lt {m : Mani} (h : PlayM m) : Lt 1000 m := by
  have key : ∀ e ∈ m.objs, e.name.length ≤ 1000 ∧ e.tries.length ≤ 1000 := fun e he => by
    obtain ⟨i, hi, rfl⟩ := List.mem_iff_getElem.1 he
    have hp := h.objs i hi
    rw [show m.objs.getD i default = m.objs[i] by simp [hi]] at hp
    obtain ⟨x, _, hn⟩ := hp.name
    have h1 := (countP_le m.P m.objs[i].len).2 hp.len.1
    have h2 := hp.len.2
    have h3 : m.P.K * m.P.S ≤ 6 * m.P.S := Int.mul_le_mul_of_nonneg_right h.P.2.1 (by have := h.P; omega)
    have h4 := hp.count
    have h5 := h.P
    refine ⟨by rw [hn]; show 2 ≤ 1000; omega, by omega⟩
  exact ⟨h.m64.1, fun e he => (key e he).1, fun e he => (key e he).2, Nat.le_trans h.dlen (by omega), Nat.le_trans h.olen (by omega)⟩
end Go.Proofs.YtbpimfhachbcdaaDoor

