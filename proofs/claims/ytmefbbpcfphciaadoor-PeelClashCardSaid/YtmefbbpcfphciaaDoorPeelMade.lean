/- Rows that some values make. -/
import Derived.Test.YtmefbbpcfphciaaDoorPeelMath
namespace Wells
def zeroL (D : Nat) : List (BitVec 8) := List.replicate D 0#8
/-- the sum of some values -/
def sumV (v : Int → List (BitVec 8)) (cs : List Int) (s : List (BitVec 8)) : List (BitVec 8) := cs.foldl (fun s c => xorL s (v c)) s
structure Made (n D : Nat) (v : Int → List (BitVec 8)) (rows : List Eqn) : Prop where
  data : ∀ q ∈ rows, q.data = sumV v q.cols (zeroL D)
  len : ∀ c : Int, 0 ≤ c → c < (n : Int) → (v c).length = D
theorem xorL_self_cancel {s v : List (BitVec 8)} (h : s.length = v.length) : xorL (xorL s v) v = s := by
  apply List.ext_getElem?
  intro i
  rw [xorL_get, xorL_get]
  by_cases hi : i < s.length
  · rw [List.getElem?_eq_getElem hi, List.getElem?_eq_getElem (show i < v.length by omega)]
    simp only
    rw [BitVec.xor_assoc, BitVec.xor_self, BitVec.xor_zero]
  · rw [List.getElem?_eq_none (show s.length ≤ i by omega), List.getElem?_eq_none (show v.length ≤ i by omega)]
theorem zero_xor {D : Nat} {v : List (BitVec 8)} (h : v.length = D) : xorL (zeroL D) v = v := by
  apply List.ext_getElem?
  intro i
  rw [xorL_get]
  unfold zeroL
  rw [List.getElem?_replicate]
  by_cases hi : i < D
  · rw [if_pos hi, List.getElem?_eq_getElem (show i < v.length by omega)]
    simp only
    rw [BitVec.zero_xor]
  · rw [if_neg hi, List.getElem?_eq_none (show v.length ≤ i by omega)]
section
variable {v : Int → List (BitVec 8)}
theorem sumV_pull : ∀ (cs : List Int) (s u : List (BitVec 8)), sumV v cs (xorL s u) = xorL (sumV v cs s) u
  | [], _, _ => rfl
  | c :: cs, s, u => by
    show sumV v cs (xorL (xorL s u) (v c)) = xorL (sumV v cs (xorL s (v c))) u
    rw [xorL_right, sumV_pull cs]
theorem sumV_len {D : Nat} : ∀ (cs : List Int) (s : List (BitVec 8)), (∀ c ∈ cs, (v c).length = D) → s.length = D → (sumV v cs s).length = D
  | [], _, _, hs => hs
  | c :: cs, s, h, hs => sumV_len cs _ (fun x hx => h x (List.mem_cons_of_mem _ hx)) (by rw [xorL_len, hs, h c (List.mem_cons_self ..)]; omega)
theorem sumV_twice {D : Nat} : ∀ (cs : List Int) (s : List (BitVec 8)), (∀ c ∈ cs, (v c).length = D) → s.length = D → sumV v cs (sumV v cs s) = s
  | [], _, _, _ => rfl
  | c :: cs, s, h, hs => by
    show sumV v cs (xorL (sumV v cs (xorL s (v c))) (v c)) = s
    rw [sumV_pull, sumV_twice cs _ (fun x hx => h x (List.mem_cons_of_mem _ hx)) (by rw [xorL_len, hs, h c (List.mem_cons_self ..)]; omega)]
    exact xorL_self_cancel (by rw [hs, h c (List.mem_cons_self ..)])
theorem sumV_append (a b : List Int) (s : List (BitVec 8)) : sumV v (a ++ b) s = sumV v b (sumV v a s) := List.foldl_append
variable {n D : Nat} {rows : List Eqn} {S : PSt}
theorem rest_sum (hr : Right n D rows) {q : Eqn} (hq : q ∈ rows) (hv : ∀ c : Int, 0 ≤ c → S.kn c = true → S.val c = v c) : S.rest q = sumV v (q.cols.filter fun x => S.kn x) q.data := by
  unfold PSt.rest
  rw [foldl_filter]
  exact foldl_congr _ _ (fun x hx => by
    have hx2 := List.mem_filter.1 hx
    exact hv x (hr.rng q hq x hx2.1).1 (by simpa using hx2.2))
/-- what is left of a row is the sum of the values that are not known -/
theorem made_rest (hr : Right n D rows) (hm : Made n D v rows) {q : Eqn} (hq : q ∈ rows) (hv : ∀ c : Int, 0 ≤ c → S.kn c = true → S.val c = v c) : S.rest q = sumV v (S.opn q.cols) (zeroL D) := by
  rw [rest_sum hr hq hv, hm.data q hq]
  have hperm := List.filter_append_perm (fun x => S.kn x) q.cols
  have hlen : ∀ c ∈ q.cols, (v c).length = D := fun c hc => hm.len c (hr.rng q hq c hc).1 (hr.rng q hq c hc).2
  have e : sumV v q.cols (zeroL D) = sumV v (S.opn q.cols) (sumV v (q.cols.filter fun x => S.kn x) (zeroL D)) := by
    rw [← sumV_append]
    exact (foldl_perm hperm _).symm
  have hcomm : ∀ (a b : List Int) (s : List (BitVec 8)), sumV v a (sumV v b s) = sumV v b (sumV v a s) := fun a b s => by
    rw [← sumV_append, ← sumV_append]
    exact foldl_perm List.perm_append_comm s
  rw [e, hcomm, sumV_twice (D := D)]
  · exact fun c hc => hlen c (List.mem_filter.1 hc).1
  · unfold zeroL; simp
theorem Reach.made (hr : Right n D rows) (hm : Made n D v rows) (h : Reach n rows S) : ∀ c : Int, 0 ≤ c → S.kn c = true → S.val c = v c := by
  induction h with
  | start =>
    intro c h0 hk
    exfalso
    unfold PSt.new PSt.kn at hk
    rw [List.getD_eq_getElem?_getD, List.getElem?_replicate] at hk
    split at hk <;> simp at hk
  | @step S q c hS hq ho ih =>
    intro c' h0 hk
    have hc := opn_mem.1 (show c ∈ S.opn q.cols by rw [ho]; exact List.mem_singleton.2 rfl)
    have hb := hr.rng q hq c hc.1
    have gS := hS.form hr
    rw [kn_put hb.1 h0 (by rw [gS.kl]; omega)] at hk
    rw [val_put hb.1 h0 (by rw [gS.vl]; omega)]
    by_cases he : c' = c
    · subst he
      rw [if_pos rfl, made_rest hr hm hq ih, ho]
      exact zero_xor (hm.len c' hb.1 hb.2)
    · rw [if_neg he] at hk ⊢
      exact ih c' h0 hk
theorem made_sound (hr : Right n D rows) (hm : Made n D v rows) (h : Reach n rows S) : Sound rows S := fun q hq ho b hb => by
  rw [made_rest hr hm hq (h.made hr hm), ho] at hb
  exact List.eq_of_mem_replicate hb
end
/-- what is left of the rows -/
def PSt.left (S : PSt) (rows : List Eqn) : List Eqn := (rows.filter fun q => !(S.opn q.cols).isEmpty).map fun q => ⟨S.opn q.cols, S.rest q⟩
theorem left_mem {S : PSt} {rows : List Eqn} {y : Eqn} (h : y ∈ S.left rows) : ∃ q ∈ rows, y = ⟨S.opn q.cols, S.rest q⟩ ∧ S.opn q.cols ≠ [] := by
  unfold PSt.left at h
  obtain ⟨q, hq, rfl⟩ := List.mem_map.1 h
  have h2 := List.mem_filter.1 hq
  refine ⟨q, h2.1, rfl, fun e => ?_⟩
  rw [e] at h2
  simp at h2
/-- whatever rows stand, and how often: the same ways -/
theorem Reach.members {n : Nat} {rows rows' : List Eqn} {S : PSt} (h : ∀ q, q ∈ rows → q ∈ rows') (hS : Reach n rows S) : Reach n rows' S := by
  induction hS with
  | start => exact .start
  | step _ hq ho ih => exact .step ih (h _ hq) ho
theorem Final.members {rows rows' : List Eqn} {S : PSt} (h : ∀ q, q ∈ rows' → q ∈ rows) (hS : Final rows S) : Final rows' S := fun q hq => hS q (h q hq)
/-- what is left, peeled again, tells no more -/
theorem left_final {n D : Nat} {rows : List Eqn} {S : PSt} (_hr : Right n D rows) (_hS : Reach n rows S) (fS : Final rows S) : Final (S.left rows) (PSt.new n) := fun y hy => by
  obtain ⟨q, hq, rfl, hne⟩ := left_mem hy
  have h0 : (PSt.new n).opn (S.opn q.cols) = S.opn q.cols := by
    unfold PSt.opn
    rw [List.filter_eq_self]
    intro c _
    have : (PSt.new n).kn c = false := by
      unfold PSt.new PSt.kn
      rw [List.getD_eq_getElem?_getD, List.getElem?_replicate]
      split <;> rfl
    rw [this]
    rfl
  show ((PSt.new n).opn (S.opn q.cols)).length ≠ 1
  rw [h0]
  exact fS q hq
end Wells
