/- RecOpen -/
import Derived.Deep.Strs
import Derived.Deep.Slices
import Derived.Test.YtnknjeipfjdjoaaBScanCounts13
import Derived.Test.YtnknjeipfjdjoaaBScanCounts40
set_option maxRecDepth 20000
set_option linter.unusedSectionVars false
namespace Go.Deep
open Go Go.ChangeShapes Go.WideShapes Go.ChangeAt Go.RowKit
section
variable {H : Type} {enc : TypeId × Value → H} {P : Program} {w : World} {base : Nat} {spare : Nat → Bool} {held : Bool}
theorem trod_struct6 {t : TypeId} {f0 f1 f2 f3 f4 f5 : Field} {fuel : Nat} {cs : List Value} {x : DataW H × List MemPlace} (ht : P.underlying t = some (.struct #[f0, f1, f2, f3, f4, f5])) (h : DataW.trod enc P w base spare held fuel t cs = some x) :
    ∃ y0 y1 y2 y3 y4 y5 n, cs.length = P.cellsOf t ∧ DataW.trod enc P w base spare held n f0.type ((cs.drop f0.offset).take (P.cellsOf f0.type)) = some y0 ∧
      DataW.trod enc P w base spare held n f1.type ((cs.drop f1.offset).take (P.cellsOf f1.type)) = some y1 ∧ DataW.trod enc P w base spare held n f2.type ((cs.drop f2.offset).take (P.cellsOf f2.type)) = some y2 ∧
      DataW.trod enc P w base spare held n f3.type ((cs.drop f3.offset).take (P.cellsOf f3.type)) = some y3 ∧ DataW.trod enc P w base spare held n f4.type ((cs.drop f4.offset).take (P.cellsOf f4.type)) = some y4 ∧
      DataW.trod enc P w base spare held n f5.type ((cs.drop f5.offset).take (P.cellsOf f5.type)) = some y5 := by
  obtain ⟨xs, n, _, rfl, hl, hlen, hf⟩ := DataW.trod_struct ht h
  match xs, hlen with
  | [y0, y1, y2, y3, y4, y5], _ => exact ⟨y0, y1, y2, y3, y4, y5, n, hl, by simpa using hf 0 f0 rfl, by simpa using hf 1 f1 rfl, by simpa using hf 2 f2 rfl, by simpa using hf 3 f3 rfl, by simpa using hf 4 f4 rfl, by simpa using hf 5 f5 rfl⟩
end
end Go.Deep
namespace Go.Proofs.Ytnknjeipfjdjoaa
open Go.ChangeShapes Go.WideShapes Go.ChangeAt Go.RowKit Wells
/-- a record that came in -/
structure IsRec (w : World) (A : Option Addr) (n c : Nat) (r : Rec) : Prop where
  o : -9223372036854775808 ≤ r.O ∧ r.O ≤ 9223372036854775807
  b : -9223372036854775808 ≤ r.B ∧ r.B ≤ 9223372036854775807
  i : -9223372036854775808 ≤ r.I ∧ r.I ≤ 9223372036854775807
  k : -9223372036854775808 ≤ r.P.K ∧ r.P.K ≤ 9223372036854775807
  h : -9223372036854775808 ≤ r.P.H ∧ r.P.H ≤ 9223372036854775807
  s : -9223372036854775808 ≤ r.P.S ∧ r.P.S ≤ 9223372036854775807
  d : IsBytes w A n c r.D
theorem cells_rec : Try.prog.cellsOf 31 = 8 := by kernel_rfl
theorem cells_intR : Try.prog.cellsOf 3 = 1 := by kernel_rfl
theorem cells_parR : Try.prog.cellsOf 23 = 3 := by kernel_rfl
theorem cells_u32R : Try.prog.cellsOf 28 = 1 := by kernel_rfl
theorem cells_bsR : Try.prog.cellsOf 29 = 1 := by kernel_rfl
theorem isRecord_open {H : Type} {enc : TypeId × Value → H} {w : World} {base b0 : Nat} {held : Bool} {v : Value} {d : DataW H} {ps : List MemPlace}
    (hv : Value.okWide Try.prog w .any b0 31 v) (h : DataW.Trod enc Try.prog w base (fun _ => true) held 31 v d ps) : ∃ (r : Rec) (A : Option Addr) (n c : Nat), v = r.val (.slice A n c) ∧ IsRec w A n c r := by
  obtain ⟨cs, rfl, hcs⟩ := okWide_struct Try.underlying31 hv
  rw [cells_rec] at hcs
  obtain ⟨fuel, h⟩ := h
  obtain ⟨cl⟩ := cs
  simp only [Value.cells] at h
  obtain ⟨y0, y1, y2, y3, y4, y5, n, _, t0, t1, t2, t3, t4, t5⟩ := Deep.trod_struct6 Try.underlying31 h
  match cl, hcs with
  | [c0, c1, c2, c3, c4, c5, c6, c7], _ =>
    simp only [cells_intR, cells_parR, cells_u32R, cells_bsR, List.drop, List.take] at t0 t1 t2 t3 t4 t5
    obtain ⟨x0, x1, x2, n3, _, _, u0, u1, u2⟩ := Deep.trod_struct3 Try.underlying23 t3
    simp only [cells_intR, List.drop, List.take] at u0 u1 u2
    obtain ⟨a0, ha0, _, wa0⟩ := DataW.trod_int Try.underlying3 t0
    obtain ⟨a1, ha1, _, wa1⟩ := DataW.trod_int Try.underlying3 t1
    obtain ⟨a2, ha2, _, wa2⟩ := DataW.trod_int Try.underlying3 t2
    obtain ⟨a3, ha3, _, wa3⟩ := DataW.trod_int Try.underlying3 u0
    obtain ⟨a4, ha4, _, wa4⟩ := DataW.trod_int Try.underlying3 u1
    obtain ⟨a5, ha5, _, wa5⟩ := DataW.trod_int Try.underlying3 u2
    obtain ⟨a6, ha6, _, wa6⟩ := DataW.trod_int Try.underlying28 t4
    simp only [List.cons.injEq, and_true] at ha0 ha1 ha2 ha3 ha4 ha5 ha6
    subst ha0 ha1 ha2 ha3 ha4 ha5 ha6
    have b6 := bounds_u32 wa6
    obtain ⟨s, hs⟩ : ∃ s : BitVec 32, (s.toNat : Int) = a6 := ⟨BitVec.ofNat 32 a6.toNat, by rw [BitVec.toNat_ofNat]; omega⟩
    subst hs
    obtain ⟨A, m, cc, rfl⟩ : ∃ A m cc, c7 = .slice A m cc := by
      rcases open_ints Try.underlying29 Try.underlying5 (by kernel_rfl) t5 with ⟨hcs, _⟩ | ⟨a, len, cap, zs, hcs, _⟩
      · simp at hcs; exact ⟨_, _, _, hcs⟩
      · simp at hcs; exact ⟨_, _, _, hcs⟩
    obtain ⟨l, hl⟩ := isBytes_open Try.underlying29 Try.underlying5 (by kernel_rfl) t5
    exact ⟨⟨a0, a1, a2, ⟨a3, a4, a5⟩, s, l⟩, A, m, cc, rfl, bounds_i64 wa0, bounds_i64 wa1, bounds_i64 wa2, bounds_i64 wa3, bounds_i64 wa4, bounds_i64 wa5, hl⟩
end Go.Proofs.Ytnknjeipfjdjoaa

