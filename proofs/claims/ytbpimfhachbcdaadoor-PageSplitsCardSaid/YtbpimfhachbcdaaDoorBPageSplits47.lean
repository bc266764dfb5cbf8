/- RefJoinA RefJoin -/
import Derived.Deep.DeepCutAuto
import Derived.Deep.CutBlock
import Derived.ArgAppend
import Derived.BigGuardPart
import Derived.Test.YtbpimfhachbcdaaDoorBPageSplits04
import Derived.Test.YtbpimfhachbcdaaDoorBPageSplits10
import Derived.Test.YtbpimfhachbcdaaDoorBPageSplits14
import Derived.Test.YtbpimfhachbcdaaDoorBPageSplits21
import Derived.Test.YtbpimfhachbcdaaDoorBPageSplits23
import Derived.Test.YtbpimfhachbcdaaDoorBPageSplits26
import Derived.Test.YtbpimfhachbcdaaDoorBPageSplits28
import Derived.Test.YtbpimfhachbcdaaDoorBPageSplits29
import Derived.Test.YtbpimfhachbcdaaDoorBPageSplits30
import Derived.Test.YtbpimfhachbcdaaDoorBPageSplits31
import Derived.Test.YtbpimfhachbcdaaDoorBPageSplits32
import Derived.Test.YtbpimfhachbcdaaDoorBPageSplits45
import Derived.Test.YtbpimfhachbcdaaDoorBPageSplits46
set_option maxRecDepth 20000
set_option linter.unusedSimpArgs false
set_option linter.unusedVariables false
set_option linter.unusedSectionVars false
namespace Wells
open Go Go.RowKit
end Wells
namespace Go.Proofs.YtbpimfhachbcdaaDoor
open Go.RowKit Wells
/-- manifests that can be read -/
structure RMs (w : World) (B : Nat) (A : Option Addr) (n : Nat) (xs : List MD) : Prop where
  sl : Sl w B 8 A n (xs.flatMap encM)
  len : xs.length = n
  at_ : ∀ x ∈ xs, RM w B x.m x.Ad x.nd x.cd x.Ao x.no x.co x.ts
section
variable {w w' : World} {B B' n : Nat} {A : Option Addr} {xs : List MD}
theorem RMs.nil_ (w : World) (B : Nat) : RMs w B none 0 [] := ⟨Sl.nil_, rfl, fun x hx => by cases hx⟩
theorem RMs.below (h : RMs w B A n xs) (hb : Below B w w') : RMs w' B A n xs := ⟨h.sl.below hb, h.len, fun x hx => (h.at_ x hx).below hb⟩
theorem RMs.mono (h : RMs w B A n xs) (hb : B ≤ B') : RMs w B' A n xs := ⟨h.sl.mono hb, h.len, fun x hx => (h.at_ x hx).mono hb⟩
theorem RMs.up (h : RMs w w.heap.size A n xs) (hb : Below w.heap.size w w') : RMs w' w'.heap.size A n xs := (h.below hb).mono hb.size
theorem RMs.get (h : RMs w B A n xs) {i : Nat} (hi : i < n) :
    ∃ b o, A = some ⟨b, o, none⟩ ∧ b < B ∧ xs[i]! ∈ xs ∧ xs[i]? = some xs[i]! ∧ ∀ j v, (encM xs[i]!)[j]? = some v → w.cell? ⟨b, o + i * 8 + j, none⟩ = some v := by
  obtain ⟨b, o, rfl, hb, hc⟩ := h.sl.at_ (by omega)
  have hn := h.len
  refine ⟨b, o, rfl, hb, ?_, ?_, fun j v hv => ?_⟩
  · rw [getElem!_pos xs i (by omega)]; exact List.getElem_mem _
  · rw [getElem!_pos xs i (by omega), List.getElem?_eq_getElem]
  · have hj : j < 8 := by have := (List.getElem?_eq_some_iff.1 hv).1; rwa [encM_len] at this
    rw [Nat.add_assoc]
    exact hc _ _ (by rw [flatM_get xs i j (by omega) hj]; exact hv)
theorem flatM_take (xs : List MD) (k : Nat) : (xs.flatMap encM).take (k * 8) = (xs.take k).flatMap encM := by
  induction xs generalizing k with
  | nil => simp
  | cons x xs ih =>
    cases k with
    | zero => simp
    | succ k =>
      rw [List.flatMap_cons, List.take_succ_cons, List.flatMap_cons, Nat.add_mul, Nat.one_mul, Nat.add_comm, ← encM_len x, List.take_length_add_append, encM_len, ih]
theorem flatM_drop (xs : List MD) (k : Nat) : (xs.flatMap encM).drop (k * 8) = (xs.drop k).flatMap encM := by
  induction xs generalizing k with
  | nil => simp
  | cons x xs ih =>
    cases k with
    | zero => simp
    | succ k =>
      rw [List.flatMap_cons, List.drop_succ_cons, Nat.add_mul, Nat.one_mul, Nat.add_comm, ← encM_len x, List.drop_length_add_append, encM_len, ih]
theorem RMs.front (h : RMs w B A n xs) {k : Nat} (hk : k ≤ n) : Sl w B 8 A k ((xs.take k).flatMap encM) := by
  have := h.sl.take hk
  rwa [flatM_take] at this
theorem RMs.behind (h : RMs w B A n xs) {k c : Nat} (hk : k ≤ n) (hc : n ≤ c) : Sl w B 8 (if c = k then A else A.map (·.add (k * 8))) (n - k) ((xs.drop k).flatMap encM) := by
  have := h.sl.cut hk (Nat.le_refl n) hc
  rw [flatM_drop] at this
  rwa [List.take_of_length_le (by rw [flatMap_len encM_len, List.length_drop, h.len]; exact Nat.le_refl _)] at this
end
end Go.Proofs.YtbpimfhachbcdaaDoor

namespace Go.Proofs.YtbpimfhachbcdaaDoor
open Go.RowKit Wells
theorem sl_back {w w' : World} {B size n : Nat} {A : Option Addr} {xs : List Value} (h : Sl w' B size A n xs) (hb : Below B w w') : Sl w B size A n xs := h.keep fun b o hlt => (hb.cell (p := ⟨b, o, none⟩) hlt).symm
theorem RB.back {w w' : World} {B : Nat} {v : Value} {l : List Byte} (h : RB w' B v l) (hb : Below B w w') : RB w B v l := by
  obtain ⟨A, c, e, h1, h2, h3⟩ := h
  exact ⟨A, c, e, h1, h2, sl_back h3 hb⟩
end Go.Proofs.YtbpimfhachbcdaaDoor

