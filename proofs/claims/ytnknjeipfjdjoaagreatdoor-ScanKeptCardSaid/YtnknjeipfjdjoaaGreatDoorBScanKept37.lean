/- Swl2 -/
import Derived.Lib.SliceRun
import Derived.Test.YtnknjeipfjdjoaaGreatDoorBScanKept06
import Derived.Test.YtnknjeipfjdjoaaGreatDoorBScanKept35
set_option maxRecDepth 20000
set_option linter.unusedSimpArgs false
set_option linter.unusedVariables false
set_option linter.unusedSectionVars false
namespace Wells
open Go Go.RowKit Go.Sort Go.Proofs Go.Lib
variable {P : Program} {α : Type} [Inhabited α] {enc : α → List Value} {w0 W : World} {blk off N : Nat} {l : List α}
theorem setMany_app (a b : List Value) : ∀ (s : Nat) (F : Array Value), setMany F s (a ++ b) = setMany (setMany F s a) (s + a.length) b := by
 induction a with
 | nil => intro s F; rfl
 | cons v a ih =>
  intro s F
  rw [List.cons_append, setMany, ih, setMany, List.length_cons, show s + (a.length + 1) = s + 1 + a.length by omega]
theorem setMany_one (k : Nat) (hk : ∀ x, (enc x).length = k) (d : Array α) (i : Nat) (hi : i < d.size) (x : α) : setMany (flatK enc k d) (i * k) (enc x) = flatK enc k (d.setIfInBounds i x) := by
 refine ext_get! (by simp) fun t ht => ?_
 have ht' : t < d.size * k := by simpa using ht
 have k0 : 0 < k := by
  rcases Nat.eq_zero_or_pos k with h | h
  ·subst h; simp at ht'
  ·exact h
 rw [get_setMany _ _ _ t (by simpa using ht'), get_flatK _ _ _ t ht', get_flatK _ _ _ t (by simpa using ht'), hk]
 by_cases a : t / k = i
 ·rw [if_pos ((blk_iff k i t k0).2 a), a, getElem!_set_same d i x hi]
  congr 1
  subst a; rw [Nat.mod_eq_sub_div_mul]
 ·rw [if_neg (fun h => a ((blk_iff k i t k0).1 h)), getElem!_set_other d i _ x a]
theorem setMany_row (k : Nat) (hk : ∀ x, (enc x).length = k) : ∀ (L : List α) (d : Array α) (i : Nat), i + L.length ≤ d.size →
  ∃ d' : Array α, setMany (flatK enc k d) (i * k) (L.flatMap enc) = flatK enc k d' ∧ d'.toList = d.toList.take i ++ (L ++ d.toList.drop (i + L.length))
 | [], d, i, _ => ⟨d, rfl, by simp⟩
 | x :: L, d, i, h => by
  simp only [List.length_cons] at h
  obtain ⟨d', h1, h2⟩ := setMany_row k hk L (d.setIfInBounds i x) (i + 1) (by simp; omega)
  refine ⟨d', ?_, ?_⟩
  ·rw [List.flatMap_cons, setMany_app, setMany_one k hk d i (by omega) x, hk, ← h1]
   congr 1
   rw [Nat.add_mul, Nat.one_mul]
  ·rw [h2, Array.toList_setIfInBounds]
   have hl : i < d.toList.length := by simp; omega
   rw [List.take_set, List.drop_set, if_pos (by omega)]
   rw [List.take_succ_eq_append_getElem hl]
   rw [List.set_append_right _ _ (by rw [List.length_take]; omega), show i - (d.toList.take i).length = 0 by rw [List.length_take]; omega]
   simp only [List.set_cons_zero, List.append_assoc, List.singleton_append, List.length_cons, List.cons_append]
   rw [show i + 1 + L.length = i + (L.length + 1) by omega]
   rfl
theorem SWK.row {k : Nat} {dk : Array α} (h : SWK enc k w0 blk off dk W) (hk : ∀ x, (enc x).length = k) (hblk : blk < w0.heap.size) (L : List α) (i : Nat) (hi : i + L.length ≤ dk.size) :
  ∃ d' : Array α, SWK enc k w0 blk off d' (W.setCells blk (off + i * k) (L.flatMap enc)) ∧ d'.toList = dk.toList.take i ++ (L ++ dk.toList.drop (i + L.length)) := by
 obtain ⟨d', h1, h2⟩ := setMany_row k hk L dk i hi
 obtain ⟨n, os, rfl⟩ := h
 refine ⟨d', ⟨n, os, ?_⟩, h2⟩
 unfold sortWorldK
 have hfl : (L.flatMap enc).length = L.length * k := by
  clear h1 h2 hi
  induction L with
  | nil => simp
  | cons x L ih => rw [List.flatMap_cons, List.length_append, hk, ih, List.length_cons, Nat.add_mul, Nat.one_mul]; omega
 rw [setCells_grow _ _ _ _ _ (by rw [size_putRowK]; exact hblk)]
 unfold putRowK
 rw [setCells_putRow _ _ _ _ _ _ (by rw [hfl, size_flatK, ← Nat.add_mul]; exact Nat.mul_le_mul_right _ hi), h1]
theorem SWL.put {T : TypeId} (h : SWL enc w0 blk off N l W) (R : RowL P T enc w0 blk off N) {i : Nat} (hi : i < N) (x : α) : SWL enc w0 blk off N (l.set i x) (W.setCells blk (off + i * 8) (enc x)) := by
 obtain ⟨hl, dk, h1, h3⟩ := h
 obtain ⟨d0, hd, R0⟩ := R.row
 have hs : dk.size = N := by rw [← Array.length_toList, h1, hl]
 obtain ⟨d', h4, h5⟩ := SWK.row h3 R0.hk R0.hblk [x] i (by simp; omega)
 refine ⟨by simp [hl], d', ?_, by simpa using h4⟩
 rw [h5, h1]
 rw [List.set_eq_take_append_cons_drop, if_pos (by omega)]
 simp
theorem SWL.zero {T : TypeId} (h : SWL enc w0 blk off N l W) (R : RowL P T enc w0 blk off N) {i : Nat} (hi : i ≤ N) (z : α) :
  SWL enc w0 blk off N (l.take i ++ List.replicate (N - i) z) (W.setCells blk (off + i * 8) ((List.replicate (N - i) z).flatMap enc)) := by
 obtain ⟨hl, dk, h1, h3⟩ := h
 obtain ⟨d0, hd, R0⟩ := R.row
 have hs : dk.size = N := by rw [← Array.length_toList, h1, hl]
 obtain ⟨d', h4, h5⟩ := SWK.row h3 R0.hk R0.hblk (List.replicate (N - i) z) i (by simp; omega)
 refine ⟨by simp; omega, d', ?_, h4⟩
 rw [h5, h1, List.drop_eq_nil_of_le (by simp; omega), List.append_nil]
theorem flat_rep {zc : List Value} (h8 : zc.length = 8) : ∀ n, (List.range (n * 8)).map (fun i => zc.toArray[i % 8]!) = (List.replicate n ()).flatMap fun _ => zc
 | 0 => rfl
 | n + 1 => by
  rw [Nat.add_mul, Nat.one_mul, List.range_add, List.map_append, flat_rep h8 n, List.replicate_succ', List.flatMap_append]
  congr 1
  rw [List.map_map]
  have e : ∀ i, ((fun i => zc.toArray[i % 8]!) ∘ fun x => n * 8 + x) i = zc.toArray[i % 8]! := fun i => by
   show zc.toArray[(n * 8 + i) % 8]! = _
   rw [show (n * 8 + i) % 8 = i % 8 by omega]
  rw [List.map_congr_left (fun i _ => e i)]
  match zc, h8 with
  | [c0, c1, c2, c3, c4, c5, c6, c7], _ => simp [List.range_succ]
/-- 'clear(s)' of n > 0 elements of eight cells each -/
theorem run_clear8 {P : Program} (w : World) (t e ty : TypeId) (zv : Value) (zc : List Value) (ht : P.underlying t = some (.slice e)) (hv : ∀ w, (zeroValue e).run P w = .ok zv w) (hz : zv.cells = zc.toArray) (h8 : zc.length = 8) (h1 : ∀ v ∈ zc, v.oneCell' = true) (b o n c : Nat) (hn : 0 < n)
  (hc : ∀ j, j < n * 8 → (w.cell? ⟨b, o + j, none⟩).isSome = true ∧ w.frozen? ⟨b, o + j, none⟩ = false) :
  (Builtin.clear_ #[t] ty #[.slice (some ⟨b, o, none⟩) n c]).run P w = .ok (.tuple #[]) (w.setCells b o ((List.replicate n ()).flatMap fun _ => zc)) := by
 have hzc : (Builtin.zeroCells zv.cells n).toList = (List.replicate n ()).flatMap fun _ => zc := by
  rw [hz]
  simp only [Builtin.zeroCells, Array.toList_map, Array.toList_range, List.size_toArray, h8]
  exact flat_rep h8 n
 have hlen : ((List.replicate n ()).flatMap fun _ => zc).length = n * 8 := by simp [h8]
 have hst := run_storeCells_cells (P := P) b o ((List.replicate n ()).flatMap fun _ => zc) 0 w (by rw [hlen]; intro j hj; simpa using (hc j hj).1) (by rw [hlen]; intro j hj; simpa using (hc j hj).2) (by
  intro v hv'
  simp only [List.mem_flatMap] at hv'
  obtain ⟨_, _, hv'⟩ := hv'
  exact h1 v hv')
 simp only [Nat.add_zero] at hst
 obtain ⟨m, rfl⟩ : ∃ m, n = m + 1 := ⟨n - 1, by omega⟩
 simp [Builtin.clear_, run_underlying ht, hv, hzc, hst]
theorem SWL.ld' {T : TypeId} (h : SWL enc w0 blk off N l W) (R : RowL P T enc w0 blk off N) {i ad : Nat} {x : α} (hi : l[i]? = some x) (ha : ad = off + i * 8) :
  (Instr.loadAt T (.pointer (some ⟨blk, ad, none⟩))).run P W = .ok (.agg (enc x).toArray) W := by subst ha; exact h.ld R hi
/-- what is asked of a function that tells whether two tie -/
def EqL (P : Program) (ge : Nat) (enc : α → List Value) (lt : α → α → Bool) (w0 : World) (blk off N : Nat) : Prop :=
 ∀ (l : List α) (W : World), SWL enc w0 blk off N l W → ∀ x y, Calls P ge #[.agg (enc x).toArray, .agg (enc y).toArray] W fun e w' => e = .returned (.bool (eqv lt x y)) ∧ SWL enc w0 blk off N l w'
/-- what 'CompactFunc' leaves -/
def CptR (enc : α → List Value) (w0 : World) (blk off N cap : Nat) (lt : α → α → Bool) (l : List α) (e : Ending) (w' : World) : Prop :=
 ∃ (l' : List α) (n : Nat), e = .returned (.slice (some ⟨blk, off, none⟩) n cap) ∧ SWL enc w0 blk off N l' w' ∧ n = (cpt lt l).length ∧ l'.take n = cpt lt l ∧ n ≤ N
theorem zeros_map (z : α) (n : Nat) : ((List.replicate n ()).flatMap fun _ => enc z) = (List.replicate n z).flatMap enc := by
 induction n with
 | zero => rfl
 | succ n ih => rw [List.replicate_succ, List.replicate_succ, List.flatMap_cons, List.flatMap_cons, ih]
theorem getD_some {i : Nat} (h : i < l.length) : l[i]? = some (l[i]!) := by rw [getElem!_pos l i h, List.getElem?_eq_getElem]
end Wells
