/- What is known and left of rows that values make: the plain law. -/
import Derived.Test.YtmefbbpcfphciaaDoorPMade
namespace Wells
open Go Go.RowKit
theorem cols_pw {n : Int} {cols : List Int} (h : ColsOk n cols) : cols.Pairwise (· < ·) := by
  rw [List.pairwise_iff_getElem]
  intro i j hi hj hij
  have := cols_lt h j i hij hj
  rw [List.getD_eq_getElem?_getD, List.getD_eq_getElem?_getD, List.getElem?_eq_getElem hi, List.getElem?_eq_getElem hj] at this
  simpa using this
theorem pw_ok {n : Int} {cols : List Int} (h : cols.Pairwise (· < ·)) (hb : ∀ c ∈ cols, 0 ≤ c ∧ c < n) : ColsOk n cols := fun j hj => by
  have hm : cols.getD j 0 ∈ cols := by rw [List.getD_eq_getElem?_getD, List.getElem?_eq_getElem hj]; exact List.getElem_mem _
  refine ⟨(hb _ hm).1, (hb _ hm).2, fun h0 => ?_⟩
  rw [List.pairwise_iff_getElem] at h
  have := h (j - 1) j (by omega) hj (by omega)
  rw [List.getD_eq_getElem?_getD, List.getD_eq_getElem?_getD, List.getElem?_eq_getElem hj, List.getElem?_eq_getElem (show j - 1 < cols.length by omega)]
  exact this
theorem cols_bd {n : Int} {cols : List Int} (h : ColsOk n cols) : ∀ c ∈ cols, 0 ≤ c ∧ c < n := fun c hc => by
  obtain ⟨j, hj, rfl⟩ := List.getElem_of_mem hc
  have := h j hj
  rw [List.getD_eq_getElem?_getD, List.getElem?_eq_getElem hj] at this
  exact ⟨this.1, this.2.1⟩
theorem opn_ok {n : Int} {cols : List Int} (h : ColsOk n cols) (S : PSt) : ColsOk n (S.opn cols) :=
  pw_ok ((cols_pw h).sublist List.filter_sublist) (fun c hc => cols_bd h c (List.mem_filter.1 hc).1)
theorem cols_count {n : Nat} {cols : List Int} (h : ColsOk (n : Int) cols) : cols.length ≤ n := by
  have key : ∀ j, j < cols.length → (j : Int) ≤ cols.getD j 0 := by
    intro j
    induction j with
    | zero => intro hj; exact (h 0 hj).1
    | succ j ih =>
      intro hj
      have h1 := ih (by omega)
      have h2 := (h (j + 1) hj).2.2 (by omega)
      rw [Nat.add_sub_cancel] at h2
      omega
  rcases Nat.eq_zero_or_pos cols.length with h0 | h0
  · omega
  · have h1 := key (cols.length - 1) (by omega)
    have h2 := (h (cols.length - 1) (by omega)).2.1
    omega
theorem mem_getD {rows : List Eqn} {i : Nat} (hi : i < rows.length) : rows.getD i default ∈ rows := by
  rw [List.getD_eq_getElem?_getD, List.getElem?_eq_getElem hi]; exact List.getElem_mem _
theorem made_len {N D : Nat} {vals : List (List Byte)} {rows : List Eqn} (h : MadeRows N D vals rows) (hv : ∀ i, i < N → (vals.getD i []).length = D) : ∀ q ∈ rows, q.data.length = D := fun q hq => by
  rw [(h q hq).2]
  refine sumV_len _ _ (fun c hc => ?_) (by simp [zeroL])
  have := cols_bd (h q hq).1 c hc
  exact hv _ (by omega)
theorem made_rightP {N D : Nat} {vals : List (List Byte)} {rows : List Eqn} (h : MadeRows N D vals rows) (hv : ∀ i, i < N → (vals.getD i []).length = D) (hN : N ≤ 64) : RightP (N : Int) rows :=
  ⟨by omega, by omega, fun i hi => ⟨(h _ (mem_getD hi)).1, by rw [made_len h hv _ (mem_getD hi), made_len h hv _ (mem_getD (show 0 < rows.length by omega))]⟩⟩
theorem made_right {N D : Nat} {vals : List (List Byte)} {rows : List Eqn} (h : MadeRows N D vals rows) (hv : ∀ i, i < N → (vals.getD i []).length = D) : Right N D rows :=
  ⟨fun q hq c hc => cols_bd (h q hq).1 c hc, fun q hq => cols_nodup (h q hq).1, made_len h hv⟩
theorem made_made {N D : Nat} {vals : List (List Byte)} {rows : List Eqn} (h : MadeRows N D vals rows) (hv : ∀ i, i < N → (vals.getD i []).length = D) : Made N D (vAt vals) rows :=
  ⟨fun q hq => (h q hq).2, fun c h0 hc => hv _ (by omega)⟩
/-- what PeelTrue looks at -/
structure TrueEnd (N D : Nat) (vals : List (List Byte)) (rows : List Eqn) (T : PSt) : Prop where
  kl : T.known.length = N
  vl : T.vals.length = N
  yes : ∀ i, i < N → T.known.getD i false = true → T.vals.getD i [] = vals.getD i []
  no : ∀ i, i < N → T.known.getD i false = false → T.vals.getD i [] = []
  left : ∀ y ∈ T.left rows, 2 ≤ y.cols.length ∧ ColsOk (N : Int) y.cols ∧ y.data.length = D ∧ (∀ c ∈ y.cols, T.known.getD c.toNat false = false) ∧ y.data = sumV (vAt vals) y.cols (zeroL D)
  sound : Sound rows T
theorem true_end {N D : Nat} {vals : List (List Byte)} {rows : List Eqn} {T : PSt} (h : MadeRows N D vals rows) (hv : ∀ i, i < N → (vals.getD i []).length = D) (hr : Wells.Reach N rows T) (hf : Final rows T) : TrueEnd N D vals rows T := by
  have hR := made_right h hv
  have hM := made_made h hv
  have fm := hr.form hR
  have hm := hr.made hR hM
  refine ⟨fm.kl, fm.vl, fun i hi hk => ?_, fun i hi hk => ?_, fun y hy => ?_, made_sound hR hM hr⟩
  · have := hm (i : Int) (by omega) hk
    exact this
  · exact fm.no (i : Int) (by omega) hk
  · obtain ⟨q, hq, rfl, hne⟩ := left_mem hy
    have hd : T.rest q = sumV (vAt vals) (T.opn q.cols) (zeroL D) := made_rest hR hM hq hm
    refine ⟨?_, opn_ok (h q hq).1 T, ?_, fun c hc => (opn_mem.1 hc).2, hd⟩
    · have h1 := hf q hq
      have h2 : (T.opn q.cols).length ≠ 0 := fun e => hne (List.eq_nil_of_length_eq_zero e)
      show 2 ≤ (T.opn q.cols).length
      omega
    · show (T.rest q).length = D
      rw [hd]
      refine sumV_len _ _ (fun c hc => ?_) (by simp [zeroL])
      have := cols_bd (h q hq).1 c (List.mem_filter.1 hc).1
      exact hv _ (by omega)
end Wells
