/- Swl Swl2 Swl3 -/
import Derived.Shelf.SlSortCmp.KitK
import Derived.Deep.MidRow
import Derived.Lib.SliceRun
import Derived.Test.YtlfmfhdgnmchgaaGreatBRoomTells01
import Derived.Test.YtlfmfhdgnmchgaaGreatBRoomTells04
set_option maxRecDepth 20000
set_option linter.unusedSimpArgs false
set_option linter.unusedVariables false
set_option linter.unusedSectionVars false
namespace Wells
open Go Go.RowKit Go.Sort Go.Proofs Go.Lib
variable {P : Program} {α : Type} [Inhabited α] {enc : α → List Value} {w0 W : World} {blk off N : Nat} {l : List α}
/-- the world w0, but that the row at off of block blk holds l; draws, new blocks -/
def SWL (enc : α → List Value) (w0 : World) (blk off N : Nat) (l : List α) (W : World) : Prop := l.length = N ∧ ∃ dk : Array α, dk.toList = l ∧ SWK enc 8 w0 blk off dk W
/-- what is told of the row once -/
structure RowL (P : Program) (T : TypeId) (enc : α → List Value) (w0 : World) (blk off N : Nat) : Prop where
  row : ∃ d0 : Array α, d0.size = N ∧ RowK enc 8 w0 blk off d0
  agg : ∃ d, P.underlying T = some d ∧ d.isRow = true
  size : (P.info? T).map (·.size) = some 8
theorem exec_load {o : Oper} {a : Act} {w : World} (T : TypeId) (x : Operand) (ho : o.op = .load T x) {p v : Value} (hx : a.eval x = p) (h : (Instr.loadAt T p).run P w = .ok v w) : (execOp a.eval o).run P w = .ok (.value v) w := by
  unfold execOp
  simp only [ho, hx, Sem.run_bind, Sem.run_pure, h, Result.andThen_ok]
theorem RowL.hk {T : TypeId} (R : RowL P T enc w0 blk off N) (x : α) : (enc x).length = 8 := by obtain ⟨_, _, R⟩ := R.row; exact R.hk x
theorem SWL.size_ (h : SWL enc w0 blk off N l W) : ∃ dk : Array α, dk.toList = l ∧ dk.size = N ∧ SWK enc 8 w0 blk off dk W := by
  obtain ⟨hl, dk, h1, h2⟩ := h
  exact ⟨dk, h1, by rw [← Array.length_toList, h1, hl], h2⟩
theorem SWL.grown (h : SWL enc w0 blk off N l W) (n : Nat) (os : Array Obj) : SWL enc w0 blk off N l (grow (W.drewN n) os) := by
  obtain ⟨hl, dk, h1, h2⟩ := h
  exact ⟨hl, dk, h1, h2.grown n os⟩
theorem SWL.drew (h : SWL enc w0 blk off N l W) : SWL enc w0 blk off N l W.drew := by
  obtain ⟨hl, dk, h1, h2⟩ := h
  exact ⟨hl, dk, h1, h2.drew⟩
theorem SWL.drewN (h : SWL enc w0 blk off N l W) (n : Nat) : SWL enc w0 blk off N l (W.drewN n) := by
  obtain ⟨hl, dk, h1, h2⟩ := h
  exact ⟨hl, dk, h1, h2.drewN n⟩
theorem get!_of {dk : Array α} (h : dk.toList = l) {i : Nat} {x : α} (hi : l[i]? = some x) : dk[i]! = x := by
  rw [← h, Array.getElem?_toList] at hi
  rw [getElem!_def, hi]
theorem SWL.range {T : TypeId} (h : SWL enc w0 blk off N l W) (R : RowL P T enc w0 blk off N) {i : Nat} {x : α} (hi : l[i]? = some x) : W.rangeAt blk (off + i * 8) (enc x) ∧ W.there blk (off + i * 8) 8 := by
  obtain ⟨dk, h1, h2, h3⟩ := h.size_
  obtain ⟨d0, hd, R0⟩ := R.row
  have hH := h3.holds R0.hblk R0.hH (by rw [h2, hd])
  have hx := get!_of h1 hi
  have hil : i < dk.size := by rw [← Array.length_toList, h1]; exact (List.getElem?_eq_some_iff.1 hi).1
  constructor
  · intro j v hj
    have hj8 : j < 8 := by have := (List.getElem?_eq_some_iff.1 hj).1; rw [R0.hk] at this; exact this
    have := (hH.cell hil hj8).1
    rw [hx] at this
    rw [this, getElem!_def, hj]
  · intro j hj
    have := hH.cell hil hj
    exact ⟨by rw [this.1]; rfl, this.2⟩
theorem SWL.ld {T : TypeId} (h : SWL enc w0 blk off N l W) (R : RowL P T enc w0 blk off N) {i : Nat} {x : α} (hi : l[i]? = some x) :
    (Instr.loadAt T (.pointer (some ⟨blk, off + i * 8, none⟩))).run P W = .ok (.agg (enc x).toArray) W := by
  obtain ⟨d, hd1, hd2⟩ := R.agg
  exact run_loadAt_mid W blk (off + i * 8) T (enc x) d (h.range R hi).1 hd1 hd2 (by rw [R.size, R.hk])
theorem SWL.cmp {g : Nat} {cf : α → α → Int} (h : SWL enc w0 blk off N l W) (hC : CmpLays P g #[] enc 8 cf blk off N w0) (x y : α) (n : Nat) (os : Array Obj) :
    Calls P g #[.agg (enc x).toArray, .agg (enc y).toArray] (grow (W.drewN n) os) fun e w' => e = .returned (.int .i64 (cf x y)) ∧ ∃ q os', w' = grow ((grow (W.drewN n) os).drewN q) os' := by
  obtain ⟨dk, h1, h2, h3⟩ := h.size_
  exact h3.cmp hC h2 x y n os
theorem SWL.cmp0 {g : Nat} {cf : α → α → Int} (h : SWL enc w0 blk off N l W) (hC : CmpLays P g #[] enc 8 cf blk off N w0) (x y : α) :
    Calls P g #[.agg (enc x).toArray, .agg (enc y).toArray] W fun e w' => e = .returned (.int .i64 (cf x y)) ∧ SWL enc w0 blk off N l w' := by
  have := h.cmp hC x y 0 #[]
  rw [grow_empty] at this
  refine this.mono ?_
  rintro e w' ⟨rfl, q, os, rfl⟩
  exact ⟨rfl, (h.drewN 0).grown q os⟩
theorem SWL.pre {T : TypeId} (R : RowL P T enc w0 blk off N) (h : SWL enc w0 blk off N l W) {A S : List α} {x : α} {i : Nat} (hl : l = A ++ x :: S) (hi : A.length = i) : l[i]? = some x := by
  subst hl hi; simp
/-- one exchange: the two stores, the first at i -/
theorem SWL.exch {T : TypeId} (h : SWL enc w0 blk off N l W) (R : RowL P T enc w0 blk off N) {A M S : List α} {x y : α} {i j : Nat} (hl : l = A ++ x :: (M ++ y :: S)) (hi : A.length = i) (hj : i + 1 + M.length = j) :
    SWL enc w0 blk off N (A ++ y :: (M ++ x :: S)) ((W.drew.setCells blk (off + i * 8) (enc y)).setCells blk (off + j * 8) (enc x)) ∧
    SWL enc w0 blk off N (A ++ y :: (M ++ x :: S)) ((W.drew.setCells blk (off + j * 8) (enc x)).setCells blk (off + i * 8) (enc y)) := by
  obtain ⟨hN, dk, h1, h3⟩ := h
  obtain ⟨d0, hd, R0⟩ := R.row
  have hx : dk[i]! = x := get!_of h1 (by subst hl hi; simp)
  have hy : dk[j]! = y := get!_of h1 (by subst hl; rw [show A ++ x :: (M ++ y :: S) = (A ++ x :: M) ++ y :: S by simp, List.getElem?_append_right (by simp; omega)]; simp [show j - (A.length + (M.length + 1)) = 0 by omega])
  have hs : dk.size = l.length := by rw [← Array.length_toList, h1]
  have hlen : l.length = i + 1 + (M.length + 1 + S.length) := by subst hl hi; simp; omega
  have e := swp_list (d := dk) (P := A) (M := M) (S := S) (x := x) (y := y) (i := i) (j := j) (by rw [h1, hl]) hi (by omega)
  have k1 := h3.drew.swap R0.hk R0.hblk i j (by omega) (by omega)
  have k2 := h3.drew.swap R0.hk R0.hblk j i (by omega) (by omega)
  rw [hx, hy] at k1 k2
  have hl2 : (A ++ y :: (M ++ x :: S)).length = N := by rw [← hN, hl]; simp
  exact ⟨⟨hl2, _, e.1, k1⟩, ⟨hl2, _, e.2, k2⟩⟩
/-- the two stores go -/
theorem SWL.sts {T : TypeId} (h : SWL enc w0 blk off N l W) (R : RowL P T enc w0 blk off N) {i j : Nat} {x y : α} (hi : l[i]? = some x) (hj : l[j]? = some y) :
    W.drew.there blk (off + i * 8) 8 ∧ (W.drew.setCells blk (off + i * 8) (enc y)).there blk (off + j * 8) 8 :=
  ⟨(h.drew.range R hi).2, World.there_setCells (h.drew.range R hj).2 _ _ _⟩
end Wells

namespace Wells
open Go Go.RowKit Go.Sort Go.Proofs Go.Lib
variable {P : Program} {α : Type} [Inhabited α] {enc : α → List Value} {w0 W : World} {blk off N : Nat} {l : List α}
theorem setMany_app (a b : List Value) : ∀ (s : Nat) (F : Array Value), setMany F s (a ++ b) = setMany (setMany F s a) (s + a.length) b := by
  induction a with
  | nil => intro s F; rfl
  | cons v a ih =>
    intro s F
    rw [List.cons_append, setMany, ih, setMany, List.length_cons, show s + (a.length + 1) = s + 1 + a.length by omega]
theorem setMany_one (k : Nat) (hk : ∀ x, (enc x).length = k) (d : Array α) (i : Nat) (hi : i < d.size) (x : α) : setMany (flatK enc k d) (i * k) (enc x) = flatK enc k (d.setIfInBounds i x) := by
  refine ext_get! (by simp) fun t ht => ?_
  have ht' : t < d.size * k := by simpa using ht
  have k0 : 0 < k := by
    rcases Nat.eq_zero_or_pos k with h | h
    · subst h; simp at ht'
    · exact h
  rw [get_setMany _ _ _ t (by simpa using ht'), get_flatK _ _ _ t ht', get_flatK _ _ _ t (by simpa using ht'), hk]
  by_cases a : t / k = i
  · rw [if_pos ((blk_iff k i t k0).2 a), a, getElem!_set_same d i x hi]
    congr 1
    subst a; rw [Nat.mod_eq_sub_div_mul]
  · rw [if_neg (fun h => a ((blk_iff k i t k0).1 h)), getElem!_set_other d i _ x a]
theorem setMany_row (k : Nat) (hk : ∀ x, (enc x).length = k) : ∀ (L : List α) (d : Array α) (i : Nat), i + L.length ≤ d.size →
    ∃ d' : Array α, setMany (flatK enc k d) (i * k) (L.flatMap enc) = flatK enc k d' ∧ d'.toList = d.toList.take i ++ (L ++ d.toList.drop (i + L.length))
  | [], d, i, _ => ⟨d, rfl, by simp⟩
  | x :: L, d, i, h => by
    simp only [List.length_cons] at h
    obtain ⟨d', h1, h2⟩ := setMany_row k hk L (d.setIfInBounds i x) (i + 1) (by simp; omega)
    refine ⟨d', ?_, ?_⟩
    · rw [List.flatMap_cons, setMany_app, setMany_one k hk d i (by omega) x, hk, ← h1]
      congr 1
      rw [Nat.add_mul, Nat.one_mul]
    · rw [h2, Array.toList_setIfInBounds]
      have hl : i < d.toList.length := by simp; omega
      rw [List.take_set, List.drop_set, if_pos (by omega)]
      rw [List.take_succ_eq_append_getElem hl]
      rw [List.set_append_right _ _ (by rw [List.length_take]; omega), show i - (d.toList.take i).length = 0 by rw [List.length_take]; omega]
      simp only [List.set_cons_zero, List.append_assoc, List.singleton_append, List.length_cons, List.cons_append]
      rw [show i + 1 + L.length = i + (L.length + 1) by omega]
      rfl
theorem SWK.row {k : Nat} {dk : Array α} (h : SWK enc k w0 blk off dk W) (hk : ∀ x, (enc x).length = k) (hblk : blk < w0.heap.size) (L : List α) (i : Nat) (hi : i + L.length ≤ dk.size) :
    ∃ d' : Array α, SWK enc k w0 blk off d' (W.setCells blk (off + i * k) (L.flatMap enc)) ∧ d'.toList = dk.toList.take i ++ (L ++ dk.toList.drop (i + L.length)) := by
  obtain ⟨d', h1, h2⟩ := setMany_row k hk L dk i hi
  obtain ⟨n, os, rfl⟩ := h
  refine ⟨d', ⟨n, os, ?_⟩, h2⟩
  unfold sortWorldK
  have hfl : (L.flatMap enc).length = L.length * k := by
    clear h1 h2 hi
    induction L with
    | nil => simp
    | cons x L ih => rw [List.flatMap_cons, List.length_append, hk, ih, List.length_cons, Nat.add_mul, Nat.one_mul]; omega
  rw [setCells_grow _ _ _ _ _ (by rw [size_putRowK]; exact hblk)]
  unfold putRowK
  rw [setCells_putRow _ _ _ _ _ _ (by rw [hfl, size_flatK, ← Nat.add_mul]; exact Nat.mul_le_mul_right _ hi), h1]
theorem SWL.put {T : TypeId} (h : SWL enc w0 blk off N l W) (R : RowL P T enc w0 blk off N) {i : Nat} (hi : i < N) (x : α) : SWL enc w0 blk off N (l.set i x) (W.setCells blk (off + i * 8) (enc x)) := by
  obtain ⟨hl, dk, h1, h3⟩ := h
  obtain ⟨d0, hd, R0⟩ := R.row
  have hs : dk.size = N := by rw [← Array.length_toList, h1, hl]
  obtain ⟨d', h4, h5⟩ := SWK.row h3 R0.hk R0.hblk [x] i (by simp; omega)
  refine ⟨by simp [hl], d', ?_, by simpa using h4⟩
  rw [h5, h1]
  rw [List.set_eq_take_append_cons_drop, if_pos (by omega)]
  simp
theorem SWL.zero {T : TypeId} (h : SWL enc w0 blk off N l W) (R : RowL P T enc w0 blk off N) {i : Nat} (hi : i ≤ N) (z : α) :
    SWL enc w0 blk off N (l.take i ++ List.replicate (N - i) z) (W.setCells blk (off + i * 8) ((List.replicate (N - i) z).flatMap enc)) := by
  obtain ⟨hl, dk, h1, h3⟩ := h
  obtain ⟨d0, hd, R0⟩ := R.row
  have hs : dk.size = N := by rw [← Array.length_toList, h1, hl]
  obtain ⟨d', h4, h5⟩ := SWK.row h3 R0.hk R0.hblk (List.replicate (N - i) z) i (by simp; omega)
  refine ⟨by simp; omega, d', ?_, h4⟩
  rw [h5, h1, List.drop_eq_nil_of_le (by simp; omega), List.append_nil]
theorem flat_rep {zc : List Value} (h8 : zc.length = 8) : ∀ n, (List.range (n * 8)).map (fun i => zc.toArray[i % 8]!) = (List.replicate n ()).flatMap fun _ => zc
  | 0 => rfl
  | n + 1 => by
    rw [Nat.add_mul, Nat.one_mul, List.range_add, List.map_append, flat_rep h8 n, List.replicate_succ', List.flatMap_append]
    congr 1
    rw [List.map_map]
    have e : ∀ i, ((fun i => zc.toArray[i % 8]!) ∘ fun x => n * 8 + x) i = zc.toArray[i % 8]! := fun i => by
      show zc.toArray[(n * 8 + i) % 8]! = _
      rw [show (n * 8 + i) % 8 = i % 8 by omega]
    rw [List.map_congr_left (fun i _ => e i)]
    match zc, h8 with
    | [c0, c1, c2, c3, c4, c5, c6, c7], _ => simp [List.range_succ]
/-- 'clear(s)' of n > 0 elements of eight cells each -/
theorem run_clear8 {P : Program} (w : World) (t e ty : TypeId) (zv : Value) (zc : List Value) (ht : P.underlying t = some (.slice e)) (hv : ∀ w, (zeroValue e).run P w = .ok zv w) (hz : zv.cells = zc.toArray) (h8 : zc.length = 8) (h1 : ∀ v ∈ zc, v.oneCell' = true) (b o n c : Nat) (hn : 0 < n)
    (hc : ∀ j, j < n * 8 → (w.cell? ⟨b, o + j, none⟩).isSome = true ∧ w.frozen? ⟨b, o + j, none⟩ = false) :
    (Builtin.clear_ #[t] ty #[.slice (some ⟨b, o, none⟩) n c]).run P w = .ok (.tuple #[]) (w.setCells b o ((List.replicate n ()).flatMap fun _ => zc)) := by
  have hzc : (Builtin.zeroCells zv.cells n).toList = (List.replicate n ()).flatMap fun _ => zc := by
    rw [hz]
    simp only [Builtin.zeroCells, Array.toList_map, Array.toList_range, List.size_toArray, h8]
    exact flat_rep h8 n
  have hlen : ((List.replicate n ()).flatMap fun _ => zc).length = n * 8 := by simp [h8]
  have hst := run_storeCells_cells (P := P) b o ((List.replicate n ()).flatMap fun _ => zc) 0 w (by rw [hlen]; intro j hj; simpa using (hc j hj).1) (by rw [hlen]; intro j hj; simpa using (hc j hj).2) (by
    intro v hv'
    simp only [List.mem_flatMap] at hv'
    obtain ⟨_, _, hv'⟩ := hv'
    exact h1 v hv')
  simp only [Nat.add_zero] at hst
  obtain ⟨m, rfl⟩ : ∃ m, n = m + 1 := ⟨n - 1, by omega⟩
  simp [Builtin.clear_, run_underlying ht, hv, hzc, hst]
theorem SWL.ld' {T : TypeId} (h : SWL enc w0 blk off N l W) (R : RowL P T enc w0 blk off N) {i ad : Nat} {x : α} (hi : l[i]? = some x) (ha : ad = off + i * 8) :
    (Instr.loadAt T (.pointer (some ⟨blk, ad, none⟩))).run P W = .ok (.agg (enc x).toArray) W := by subst ha; exact h.ld R hi
/-- what is asked of a function that tells whether two tie -/
def EqL (P : Program) (ge : Nat) (enc : α → List Value) (lt : α → α → Bool) (w0 : World) (blk off N : Nat) : Prop :=
  ∀ (l : List α) (W : World), SWL enc w0 blk off N l W → ∀ x y, Calls P ge #[.agg (enc x).toArray, .agg (enc y).toArray] W fun e w' => e = .returned (.bool (eqv lt x y)) ∧ SWL enc w0 blk off N l w'
/-- what 'CompactFunc' leaves -/
def CptR (enc : α → List Value) (w0 : World) (blk off N cap : Nat) (lt : α → α → Bool) (l : List α) (e : Ending) (w' : World) : Prop :=
  ∃ (l' : List α) (n : Nat), e = .returned (.slice (some ⟨blk, off, none⟩) n cap) ∧ SWL enc w0 blk off N l' w' ∧ n = (cpt lt l).length ∧ l'.take n = cpt lt l ∧ n ≤ N
theorem zeros_map (z : α) (n : Nat) : ((List.replicate n ()).flatMap fun _ => enc z) = (List.replicate n z).flatMap enc := by
  induction n with
  | zero => rfl
  | succ n ih => rw [List.replicate_succ, List.replicate_succ, List.flatMap_cons, List.flatMap_cons, ih]
theorem getD_some {i : Nat} (h : i < l.length) : l[i]? = some (l[i]!) := by rw [getElem!_pos l i h, List.getElem?_eq_getElem]
end Wells

namespace Wells
open Go Go.RowKit Go.Sort Go.Proofs Go.Lib
variable {P : Program} {α : Type} [Inhabited α] {enc : α → List Value} {w0 W : World} {blk off N : Nat} {l : List α}
theorem flatK_list (hk : ∀ x, (enc x).length = 8) (l : List α) : (flatK enc 8 l.toArray).toList = l.flatMap enc := by
  have hlen : ∀ l : List α, (l.flatMap enc).length = l.length * 8 := fun l => by
    induction l with
    | nil => rfl
    | cons x l ih => rw [List.flatMap_cons, List.length_append, hk, ih, List.length_cons, Nat.add_mul]; omega
  have hget : ∀ (l : List α) (t : Nat), t < l.length * 8 → (l.flatMap enc)[t]? = some ((enc l[t / 8]!)[t % 8]!) := by
    intro l
    induction l with
    | nil => intro t ht; simp at ht
    | cons x l ih =>
      intro t ht
      rw [List.flatMap_cons]
      by_cases h : t < 8
      · rw [List.getElem?_append_left (by rw [hk]; exact h), show t / 8 = 0 by omega, show t % 8 = t by omega]
        simp only [List.getElem!_cons_zero]
        rw [getElem!_pos (enc x) t (by rw [hk]; exact h), List.getElem?_eq_getElem]
      · rw [List.getElem?_append_right (by rw [hk]; omega), hk, ih (t - 8) (by simp at ht; omega), show t / 8 = (t - 8) / 8 + 1 by omega, show t % 8 = (t - 8) % 8 by omega]
        rw [List.getElem!_cons_succ]
  apply List.ext_getElem?
  intro t
  by_cases ht : t < l.length * 8
  · rw [hget l t ht, Array.getElem?_toList]
    simp [flatK, ht]
  · rw [List.getElem?_eq_none (by simp; omega), List.getElem?_eq_none (by rw [hlen]; omega)]
theorem flatMap_len (hk : ∀ x, (enc x).length = 8) (l : List α) : (l.flatMap enc).length = l.length * 8 := by
  rw [← flatK_list hk]; simp
/-- the row's world, opened: the block's cells -/
theorem SWL.heap (h : SWL enc w0 blk 0 N l W) (hk : ∀ x, (enc x).length = 8) {cur : Array Value} {T : TypeId} {fr : Nat × Nat} (hb : w0.heap[blk]? = some (.cells cur T fr)) (hs : N * 8 ≤ cur.size) :
    (∃ cur' : Array Value, W.heap[blk]? = some (.cells cur' T fr) ∧ cur'.size = cur.size ∧ cur'.toList.take (N * 8) = l.flatMap enc) ∧ w0.grownBy W (some blk) := by
  obtain ⟨hl, dk, h1, n, os, rfl⟩ := h
  have hg : blk < w0.heap.size := (Array.getElem?_eq_some_iff.1 hb).1
  have hdk : dk = l.toArray := by rw [← h1]
  unfold sortWorldK putRowK
  constructor
  · refine ⟨putCells id 0 (flatK enc 8 dk) cur, ?_, by simp [putCells], ?_⟩
    · rw [heap_grow_old _ _ (by simpa [putRow, mapBlock] using hg)]
      simp [putRow, mapBlock, Sort.ahead, Array.getElem?_modify, hb, onCells]
    · rw [← flatK_list hk, ← hdk]
      have hsz : (flatK enc 8 dk).size = N * 8 := by rw [size_flatK, ← Array.length_toList, h1, hl]
      apply List.ext_getElem?
      intro j
      by_cases hj : j < N * 8
      · rw [List.getElem?_take_of_lt hj, Array.getElem?_toList]
        have hj2 : j < cur.size := by omega
        simp [putCells, hj2, hsz, hj]
      · rw [List.getElem?_take_eq_none (by omega), List.getElem?_eq_none (by rw [Array.length_toList, hsz]; omega)]
  · refine ⟨rfl, rfl, rfl, by simp [putRow, mapBlock], fun k hk' hne => ?_⟩
    rw [heap_grow_old _ _ (by simpa [putRow, mapBlock] using hk')]
    have : blk ≠ k := fun e => hne (by rw [e])
    simp [putRow, mapBlock, Sort.ahead, Array.getElem?_modify, this]
/-- a row of one's own, as what is to be sorted -/
theorem SWL.start (hk : ∀ x, (enc x).length = 8) (h1 : ∀ x, ∀ v ∈ enc x, v.oneCell' = true) {T : TypeId} {base c n : Nat} {ad : Addr} (h : w0.ownsRow base T 8 (.slice (some ad) n c) n (l.flatMap enc)) (hn : l.length = n) (ha : ∃ d, P.underlying T = some d ∧ d.isRow = true) (hsz : (P.info? T).map (·.size) = some 8) :
    ∃ g cur, ad = ⟨g, 0, none⟩ ∧ base ≤ g ∧ w0.heap[g]? = some (.cells cur T (0, 0)) ∧ n ≤ c ∧ c ≤ maxLen ∧ cur.size = c * 8 ∧ SWL enc w0 g 0 n l w0 ∧ RowL P T enc w0 g 0 n := by
  rcases h.2 with ⟨hv, _⟩ | ⟨g, cap, cur, hv, hb, hg, hnc, hcm, hcs, ht⟩
  · cases hv
  injection hv with e1 e2 e3
  injection e1 with e1
  subst e1 e3
  have hH : HoldsK enc 8 w0 g 0 l.toArray := by
    intro j hj
    have hj' : j < n * 8 := by rw [size_flatK] at hj; simpa [hn] using hj
    refine ⟨?_, by simp [World.frozen?, hg]⟩
    rw [Nat.zero_add, cell_of_row w0 g j cur T (0, 0) hg]
    have h2 : cur.toList[j]? = (l.flatMap enc)[j]? := by rw [← ht, List.getElem?_take_of_lt hj']
    rw [← Array.getElem?_toList, h2, ← flatK_list hk, Array.getElem?_toList]
    rw [Array.getElem?_eq_getElem hj, getElem!_pos _ j hj]
    rfl
  exact ⟨g, cur, rfl, hb, hg, hnc, hcm, hcs, ⟨hn, l.toArray, rfl, SWK.start hH⟩, ⟨⟨l.toArray, by simpa using hn, ⟨hk, h1, hH, (Array.getElem?_eq_some_iff.1 hg).1⟩⟩, ha, hsz⟩⟩
/-- behind it: the same slice owns what is there now -/
theorem SWL.back (h : SWL enc w0 blk 0 N l W) (hk : ∀ x, (enc x).length = 8) {cur : Array Value} {T : TypeId} {base c n : Nat} (hb : w0.heap[blk]? = some (.cells cur T (0, 0))) (hbase : base ≤ blk) (hs : cur.size = c * 8) (hn : n ≤ N) (hc : N ≤ c) (hcm : c ≤ maxLen) :
    W.ownsRow base T 8 (.slice (some ⟨blk, 0, none⟩) n c) n ((l.take n).flatMap enc) ∧ w0.grownBy W (some blk) := by
  obtain ⟨⟨cur', h1, h2, h3⟩, h4⟩ := h.heap hk hb (by rw [hs]; exact Nat.mul_le_mul_right _ hc)
  have hl := h.1
  refine ⟨⟨by rw [flatMap_len hk, List.length_take]; congr 1; omega, .inr ⟨blk, c, cur', rfl, hbase, h1, by omega, hcm, by rw [h2, hs], ?_⟩⟩, h4⟩
  have : cur'.toList.take (n * 8) = (cur'.toList.take (N * 8)).take (n * 8) := by rw [List.take_take]; congr 1; have := Nat.mul_le_mul_right 8 hn; omega
  rw [this, h3]
  have e : l.flatMap enc = (l.take n).flatMap enc ++ (l.drop n).flatMap enc := by rw [← List.flatMap_append, List.take_append_drop]
  rw [e, List.take_append_of_le_length (by rw [flatMap_len hk, List.length_take]; have := Nat.mul_le_mul_right 8 (show n ≤ min n l.length by omega); omega), List.take_of_length_le (by rw [flatMap_len hk, List.length_take]; have := Nat.mul_le_mul_right 8 (show min n l.length ≤ n by omega); omega)]
end Wells

