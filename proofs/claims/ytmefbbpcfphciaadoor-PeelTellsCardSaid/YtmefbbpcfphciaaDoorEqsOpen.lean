/- Rows that came in. -/
import Derived.Test.YtmefbbpcfphciaaDoorFrame
import Derived.Test.YtmefbbpcfphciaaDoorEqs
import Derived.Deep.Slices
import Derived.ChangeSame
namespace Go.Proofs.YtmefbbpcfphciaaDoor
open Go.ChangeShapes Go.WideShapes Go.ChangeAt Go.RowKit Wells
/-- rows that came in -/
structure IsEqs (w : World) (A : Option Addr) (n c : Nat) (ps : List (Value × Value)) (rows : List Eqn) : Prop where
  r : REqs w w.heap.size A n ps rows
  le : n ≤ c
  cap : c ≤ 9223372036854775807
  wf : ∀ q ∈ rows, ∀ x ∈ q.cols, -9223372036854775808 ≤ x ∧ x ≤ 9223372036854775807
theorem cells_eqE : Tryd.prog.cellsOf 27 = 2 := by kernel_rfl
theorem cells_isE : Tryd.prog.cellsOf 23 = 1 := by kernel_rfl
theorem cells_bsE : Tryd.prog.cellsOf 24 = 1 := by kernel_rfl
theorem eq_struct2 {H : Type} {enc : TypeId × Value → H} {w : World} {base : Nat} {sp : Nat → Bool} {held : Bool} {fuel : Nat} {cs : List Value} {x : DataW H × List MemPlace} (h : DataW.trod enc Tryd.prog w base sp held fuel 27 cs = some x) :
    ∃ y0 y1 n, DataW.trod enc Tryd.prog w base sp held n 23 ((cs.drop 0).take (Tryd.prog.cellsOf 23)) = some y0 ∧ DataW.trod enc Tryd.prog w base sp held n 24 ((cs.drop 1).take (Tryd.prog.cellsOf 24)) = some y1 := by
  obtain ⟨xs, n, _, rfl, hl, hlen, hf⟩ := DataW.trod_struct Tryd.underlying27 h
  match xs, hlen with
  | [y0, y1], _ => exact ⟨y0, y1, n, by simpa using hf 0 _ rfl, by simpa using hf 1 _ rfl⟩
def EqIn (w : World) (a : Addr) (i : Nat) (x : (Value × Value) × Eqn) : Prop :=
  w.cell? (a.add (i * 2)) = some x.1.1 ∧ w.cell? (a.add (i * 2 + 1)) = some x.1.2 ∧ EqV w w.heap.size x.1 x.2 ∧ ∀ z ∈ x.2.cols, -9223372036854775808 ≤ z ∧ z ≤ 9223372036854775807
instance : Inhabited ((Value × Value) × Eqn) := ⟨((undef, undef), default)⟩
theorem eq_open {H : Type} {enc : TypeId × Value → H} {w : World} {base : Nat} {sp : Nat → Bool} {held : Bool} {a : Addr} {i n : Nat} {cs : List Value} {x : DataW H × List MemPlace} (hc : w.cells? base (a.add (i * 2)) 2 = some cs) (h : DataW.trod enc Tryd.prog w base sp held n 27 cs = some x) : ∃ y, EqIn w a i y := by
  obtain ⟨_, hlen, hcell⟩ := World.cells?_some hc
  obtain ⟨y0, y1, n', t0, t1⟩ := eq_struct2 h
  match cs, hlen with
  | [c0, c1], _ =>
    simp only [cells_isE, cells_bsE, List.drop, List.take] at t0 t1
    obtain ⟨A, m, cc, rfl⟩ : ∃ A m cc, c0 = .slice A m cc := by
      rcases open_ints Tryd.underlying23 Tryd.underlying3 (by kernel_rfl) t0 with ⟨hcs, _⟩ | ⟨a, len, cap, zs, hcs, _⟩
      · simp at hcs; exact ⟨_, _, _, hcs⟩
      · simp at hcs; exact ⟨_, _, _, hcs⟩
    obtain ⟨A2, m2, cc2, rfl⟩ : ∃ A m cc, c1 = .slice A m cc := by
      rcases open_ints Tryd.underlying24 Tryd.underlying5 (by kernel_rfl) t1 with ⟨hcs, _⟩ | ⟨a, len, cap, zs, hcs, _⟩
      · simp at hcs; exact ⟨_, _, _, hcs⟩
      · simp at hcs; exact ⟨_, _, _, hcs⟩
    obtain ⟨zs, hz⟩ := isInts_open Tryd.underlying23 Tryd.underlying3 (by kernel_rfl) t0
    obtain ⟨bs, hb⟩ := isBytes_open Tryd.underlying24 Tryd.underlying5 (by kernel_rfl) t1
    have hzl : zs.length = m := by have := hz.sl.len; simpa using this
    have hbl : bs.length = m2 := by have := hb.sl.len; simpa using this
    have e0 := hcell 0 (by omega)
    have e1 := hcell 1 (by omega)
    rw [Deep.add_add] at e0 e1
    exact ⟨((.slice A m cc, .slice A2 m2 cc2), ⟨zs, bs⟩), e0, e1, ⟨⟨A, cc, by rw [hzl], by rw [hzl]; exact hz.le, hz.cap, by rw [hzl]; exact hz.sl⟩, ⟨A2, cc2, by rw [hbl], by rw [hbl]; exact hb.le, hb.cap, by rw [hbl]; exact hb.sl⟩⟩, hz.wf⟩
theorem sl_two {w : World} {B n : Nat} {A : Option Addr} {vs : List Value} (h : Sl w B 1 A (n * 2) vs) : Sl w B 2 A n vs := ⟨by have := h.len; omega, fun h0 => h.at_ (by omega)⟩
theorem isEqs_open {H : Type} {enc : TypeId × Value → H} {w : World} {base : Nat} {held : Bool} {A : Option Addr} {n c fuel : Nat} {x : DataW H × List MemPlace} {sp : Nat → Bool} (hsp : sp = fun _ => true)
    (hf : DataW.trod enc Tryd.prog w base sp held fuel 22 [.slice A n c] = some x) : ∃ ps rows, IsEqs w A n c ps rows := by
  subst hsp
  rcases Deep.open_slice Tryd.underlying22 hf with ⟨hcs, _⟩ | ⟨a, no, co, m, n5, D, Pl, hcs, _, hle, hcap, hm, _, hx⟩
  · simp at hcs
    obtain ⟨rfl, rfl, rfl⟩ := hcs
    exact ⟨[], [], REqs.nil_, by omega, by omega, fun q hq => absurd hq (by simp)⟩
  · simp at hcs
    obtain ⟨rfl, rfl, rfl⟩ := hcs
    unfold maxLen at hcap
    rw [cells_eqE] at hx
    have hmm : n ≤ m := by rw [hm]; split <;> omega
    obtain ⟨f, hf⟩ := Deep.choose_lt (α := (Value × Value) × Eqn) (n := n) (p := EqIn w a) (fun i hi => by
      obtain ⟨cs', h1, h2⟩ := hx i (by omega)
      exact eq_open h1 h2)
    have hge : ∀ i, i < n → ((List.range n).map fun i => (f i).1).getD i (undef, undef) = (f i).1 := fun i hi => by simp [List.getD_eq_getElem?_getD, hi]
    have hgt : ∀ i, i < n → ((List.range n).map fun i => (f i).2).getD i default = (f i).2 := fun i hi => by simp [List.getD_eq_getElem?_getD, hi]
    have hpl : ((List.range n).map fun i => (f i).1).length = n := by simp
    refine ⟨(List.range n).map fun i => (f i).1, (List.range n).map fun i => (f i).2, ⟨?_, hpl, by simp, fun i hi => ?_⟩, hle, by omega, fun q hq => ?_⟩
    · refine sl_two (sl_of_cells (by rw [eqC_len, hpl]) fun q hq => ?_)
      obtain ⟨i, j, hj, rfl⟩ : ∃ i j, j < 2 ∧ q = i * 2 + j := ⟨q / 2, q % 2, by omega, by omega⟩
      have hi : i < n := by omega
      obtain ⟨g1, g2⟩ := eqC_get ((List.range n).map fun i => (f i).1) i (by rw [hpl]; exact hi)
      rw [hge i hi] at g1 g2
      obtain rfl | rfl : j = 0 ∨ j = 1 := by omega
      · rw [Nat.add_zero, g1]; exact (hf i hi).1
      · rw [g2]; exact (hf i hi).2.1
    · rw [hge i hi, hgt i hi]
      exact (hf i hi).2.2.1
    · obtain ⟨i, hi, rfl⟩ := List.mem_map.1 hq
      exact (hf i (List.mem_range.1 hi)).2.2.2
end Go.Proofs.YtmefbbpcfphciaaDoor
