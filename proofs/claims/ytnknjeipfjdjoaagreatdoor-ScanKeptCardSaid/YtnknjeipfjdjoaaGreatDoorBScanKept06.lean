/- Swl -/
import Derived.Shelf.SlSortCmp.KitK
import Derived.Deep.MidRow
import Derived.Test.YtnknjeipfjdjoaaGreatDoorBScanKept03
set_option maxRecDepth 20000
set_option linter.unusedSimpArgs false
set_option linter.unusedVariables false
set_option linter.unusedSectionVars false
namespace Wells
open Go Go.RowKit Go.Sort Go.Proofs Go.Lib
variable {P : Program} {α : Type} [Inhabited α] {enc : α → List Value} {w0 W : World} {blk off N : Nat} {l : List α}
/-- the world w0, but that the row at off of block blk holds l; draws, new blocks -/
def SWL (enc : α → List Value) (w0 : World) (blk off N : Nat) (l : List α) (W : World) : Prop := l.length = N ∧ ∃ dk : Array α, dk.toList = l ∧ SWK enc 8 w0 blk off dk W
/-- what is told of the row once -/
structure RowL (P : Program) (T : TypeId) (enc : α → List Value) (w0 : World) (blk off N : Nat) : Prop where
 row : ∃ d0 : Array α, d0.size = N ∧ RowK enc 8 w0 blk off d0
 agg : ∃ d, P.underlying T = some d ∧ d.isRow = true
 size : (P.info? T).map (·.size) = some 8
theorem exec_load {o : Oper} {a : Act} {w : World} (T : TypeId) (x : Operand) (ho : o.op = .load T x) {p v : Value} (hx : a.eval x = p) (h : (Instr.loadAt T p).run P w = .ok v w) : (execOp a.eval o).run P w = .ok (.value v) w := by
 unfold execOp
 simp only [ho, hx, Sem.run_bind, Sem.run_pure, h, Result.andThen_ok]
theorem RowL.hk {T : TypeId} (R : RowL P T enc w0 blk off N) (x : α) : (enc x).length = 8 := by obtain ⟨_, _, R⟩ := R.row; exact R.hk x
theorem SWL.size_ (h : SWL enc w0 blk off N l W) : ∃ dk : Array α, dk.toList = l ∧ dk.size = N ∧ SWK enc 8 w0 blk off dk W := by
 obtain ⟨hl, dk, h1, h2⟩ := h
 exact ⟨dk, h1, by rw [← Array.length_toList, h1, hl], h2⟩
theorem SWL.grown (h : SWL enc w0 blk off N l W) (n : Nat) (os : Array Obj) : SWL enc w0 blk off N l (grow (W.drewN n) os) := by
 obtain ⟨hl, dk, h1, h2⟩ := h
 exact ⟨hl, dk, h1, h2.grown n os⟩
theorem SWL.drew (h : SWL enc w0 blk off N l W) : SWL enc w0 blk off N l W.drew := by
 obtain ⟨hl, dk, h1, h2⟩ := h
 exact ⟨hl, dk, h1, h2.drew⟩
theorem SWL.drewN (h : SWL enc w0 blk off N l W) (n : Nat) : SWL enc w0 blk off N l (W.drewN n) := by
 obtain ⟨hl, dk, h1, h2⟩ := h
 exact ⟨hl, dk, h1, h2.drewN n⟩
theorem get!_of {dk : Array α} (h : dk.toList = l) {i : Nat} {x : α} (hi : l[i]? = some x) : dk[i]! = x := by
 rw [← h, Array.getElem?_toList] at hi
 rw [getElem!_def, hi]
theorem SWL.range {T : TypeId} (h : SWL enc w0 blk off N l W) (R : RowL P T enc w0 blk off N) {i : Nat} {x : α} (hi : l[i]? = some x) : W.rangeAt blk (off + i * 8) (enc x) ∧ W.there blk (off + i * 8) 8 := by
 obtain ⟨dk, h1, h2, h3⟩ := h.size_
 obtain ⟨d0, hd, R0⟩ := R.row
 have hH := h3.holds R0.hblk R0.hH (by rw [h2, hd])
 have hx := get!_of h1 hi
 have hil : i < dk.size := by rw [← Array.length_toList, h1]; exact (List.getElem?_eq_some_iff.1 hi).1
 constructor
 ·intro j v hj
  have hj8 : j < 8 := by have := (List.getElem?_eq_some_iff.1 hj).1; rw [R0.hk] at this; exact this
  have := (hH.cell hil hj8).1
  rw [hx] at this
  rw [this, getElem!_def, hj]
 ·intro j hj
  have := hH.cell hil hj
  exact ⟨by rw [this.1]; rfl, this.2⟩
theorem SWL.ld {T : TypeId} (h : SWL enc w0 blk off N l W) (R : RowL P T enc w0 blk off N) {i : Nat} {x : α} (hi : l[i]? = some x) :
  (Instr.loadAt T (.pointer (some ⟨blk, off + i * 8, none⟩))).run P W = .ok (.agg (enc x).toArray) W := by
 obtain ⟨d, hd1, hd2⟩ := R.agg
 exact run_loadAt_mid W blk (off + i * 8) T (enc x) d (h.range R hi).1 hd1 hd2 (by rw [R.size, R.hk])
theorem SWL.cmp {g : Nat} {cf : α → α → Int} (h : SWL enc w0 blk off N l W) (hC : CmpLays P g #[] enc 8 cf blk off N w0) (x y : α) (n : Nat) (os : Array Obj) :
  Calls P g #[.agg (enc x).toArray, .agg (enc y).toArray] (grow (W.drewN n) os) fun e w' => e = .returned (.int .i64 (cf x y)) ∧ ∃ q os', w' = grow ((grow (W.drewN n) os).drewN q) os' := by
 obtain ⟨dk, h1, h2, h3⟩ := h.size_
 exact h3.cmp hC h2 x y n os
theorem SWL.cmp0 {g : Nat} {cf : α → α → Int} (h : SWL enc w0 blk off N l W) (hC : CmpLays P g #[] enc 8 cf blk off N w0) (x y : α) :
  Calls P g #[.agg (enc x).toArray, .agg (enc y).toArray] W fun e w' => e = .returned (.int .i64 (cf x y)) ∧ SWL enc w0 blk off N l w' := by
 have := h.cmp hC x y 0 #[]
 rw [grow_empty] at this
 refine this.mono ?_
 rintro e w' ⟨rfl, q, os, rfl⟩
 exact ⟨rfl, (h.drewN 0).grown q os⟩
theorem SWL.pre {T : TypeId} (R : RowL P T enc w0 blk off N) (h : SWL enc w0 blk off N l W) {A S : List α} {x : α} {i : Nat} (hl : l = A ++ x :: S) (hi : A.length = i) : l[i]? = some x := by
 subst hl hi; simp
/-- one exchange: the two stores, the first at i -/
theorem SWL.exch {T : TypeId} (h : SWL enc w0 blk off N l W) (R : RowL P T enc w0 blk off N) {A M S : List α} {x y : α} {i j : Nat} (hl : l = A ++ x :: (M ++ y :: S)) (hi : A.length = i) (hj : i + 1 + M.length = j) :
  SWL enc w0 blk off N (A ++ y :: (M ++ x :: S)) ((W.drew.setCells blk (off + i * 8) (enc y)).setCells blk (off + j * 8) (enc x)) ∧
  SWL enc w0 blk off N (A ++ y :: (M ++ x :: S)) ((W.drew.setCells blk (off + j * 8) (enc x)).setCells blk (off + i * 8) (enc y)) := by
 obtain ⟨hN, dk, h1, h3⟩ := h
 obtain ⟨d0, hd, R0⟩ := R.row
 have hx : dk[i]! = x := get!_of h1 (by subst hl hi; simp)
 have hy : dk[j]! = y := get!_of h1 (by subst hl; rw [show A ++ x :: (M ++ y :: S) = (A ++ x :: M) ++ y :: S by simp, List.getElem?_append_right (by simp; omega)]; simp [show j - (A.length + (M.length + 1)) = 0 by omega])
 have hs : dk.size = l.length := by rw [← Array.length_toList, h1]
 have hlen : l.length = i + 1 + (M.length + 1 + S.length) := by subst hl hi; simp; omega
 have e := swp_list (d := dk) (P := A) (M := M) (S := S) (x := x) (y := y) (i := i) (j := j) (by rw [h1, hl]) hi (by omega)
 have k1 := h3.drew.swap R0.hk R0.hblk i j (by omega) (by omega)
 have k2 := h3.drew.swap R0.hk R0.hblk j i (by omega) (by omega)
 rw [hx, hy] at k1 k2
 have hl2 : (A ++ y :: (M ++ x :: S)).length = N := by rw [← hN, hl]; simp
 exact ⟨⟨hl2, _, e.1, k1⟩, ⟨hl2, _, e.2, k2⟩⟩
/-- the two stores go -/
theorem SWL.sts {T : TypeId} (h : SWL enc w0 blk off N l W) (R : RowL P T enc w0 blk off N) {i j : Nat} {x y : α} (hi : l[i]? = some x) (hj : l[j]? = some y) :
  W.drew.there blk (off + i * 8) 8 ∧ (W.drew.setCells blk (off + i * 8) (enc y)).there blk (off + j * 8) 8 :=
 ⟨(h.drew.range R hi).2, World.there_setCells (h.drew.range R hj).2 _ _ _⟩
end Wells
