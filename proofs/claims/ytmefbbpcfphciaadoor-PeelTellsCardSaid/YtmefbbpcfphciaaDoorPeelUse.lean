/- Peel of rows that values make, as the laws use it. -/
import Derived.Test.YtmefbbpcfphciaaDoorPeelEnd
import Derived.Test.YtmefbbpcfphciaaDoorPeel
namespace Wells
open Go Go.RowKit
theorem order_end {N D : Nat} {vals : List (List Byte)} {rows rows2 : List Eqn} {T T2 : PSt} (h : MadeRows N D vals rows) (hv : ∀ i, i < N → (vals.getD i []).length = D) (hm : ∀ q, q ∈ rows2 ↔ q ∈ rows)
    (hr : Wells.Reach N rows T) (hf : Final rows T) (hr2 : Wells.Reach N rows2 T2) (hf2 : Final rows2 T2) : T = T2 :=
  vals_eq (made_right h hv) hr (hr2.members (fun q hq => (hm q).1 hq)) hf (hf2.members (fun q hq => (hm q).2 hq)) (made_sound (made_right h hv) (made_made h hv) (hr2.members (fun q hq => (hm q).1 hq)))
theorem left_made {N D : Nat} {vals : List (List Byte)} {rows : List Eqn} {T : PSt} (h : TrueEnd N D vals rows T) : MadeRows N D vals (T.left rows) := fun y hy => ⟨(h.left y hy).2.1, (h.left y hy).2.2.2.2⟩
theorem new_opn (n : Nat) (cols : List Int) : (PSt.new n).opn cols = cols := by
  unfold PSt.opn
  rw [List.filter_eq_self]
  intro c _
  have : (PSt.new n).kn c = false := by
    unfold PSt.new PSt.kn
    rw [List.getD_eq_getElem?_getD, List.getElem?_replicate]
    split <;> rfl
  rw [this]; rfl
theorem new_rest (n : Nat) (q : Eqn) : (PSt.new n).rest q = q.data := by
  unfold PSt.rest
  rw [foldl_filter]
  have : (q.cols.filter fun c => (PSt.new n).kn c) = [] := by
    rw [List.filter_eq_nil_iff]
    intro c _
    have : (PSt.new n).kn c = false := by
      unfold PSt.new PSt.kn
      rw [List.getD_eq_getElem?_getD, List.getElem?_replicate]
      split <;> rfl
    simp [this]
  rw [this]; rfl
theorem rest_end {N D : Nat} {vals : List (List Byte)} {rows : List Eqn} {T T3 : PSt} (h : MadeRows N D vals rows) (hv : ∀ i, i < N → (vals.getD i []).length = D) (hr : Wells.Reach N rows T) (hf : Final rows T)
    (hr3 : Wells.Reach N (T.left rows) T3) (hf3 : Final (T.left rows) T3) : T3.known = List.replicate N false ∧ T3.left (T.left rows) = T.left rows := by
  have he := true_end h hv hr hf
  have hL := made_right (left_made he) hv
  have h3 : T3 = PSt.new N := by
    have := vals_eq hL .start hr3 (left_final (made_right h hv) hr hf) hf3 (made_sound hL (made_made (left_made he) hv) hr3)
    exact this.symm
  subst h3
  refine ⟨rfl, ?_⟩
  unfold PSt.left
  have e1 : ((((rows.filter fun q => !(T.opn q.cols).isEmpty).map fun q => (⟨T.opn q.cols, T.rest q⟩ : Eqn))).filter fun q => !((PSt.new N).opn q.cols).isEmpty) = ((rows.filter fun q => !(T.opn q.cols).isEmpty).map fun q => (⟨T.opn q.cols, T.rest q⟩ : Eqn)) := by
    rw [List.filter_eq_self]
    intro y hy
    rw [new_opn]
    have := (he.left y hy).1
    cases hc : y.cols with
    | nil => rw [hc] at this; simp at this
    | cons a b => rfl
  rw [e1]
  refine (List.map_congr_left (g := fun q => q) (fun y _ => ?_)).trans (List.map_id' _)
  rw [new_opn, new_rest]
end Wells
namespace Go.Proofs.YtmefbbpcfphciaaDoor
open Go.RowKit Wells
/-- what Peel answers of rows that values make -/
structure POk (w0 w : World) (N D : Nat) (vals : List (List Byte)) (rows : List Eqn) (T : PSt) (Ak Av Ar : Option Addr) (ck cv cr mr : Nat) (vs : List Value) (ps : List (Value × Value)) : Prop where
  sk : Sl w w.heap.size 1 Ak N (T.known.map Value.bool)
  kc : N ≤ ck ∧ ck ≤ 9223372036854775807
  rv : RBs w w.heap.size Av N vs T.vals
  vc : N ≤ cv ∧ cv ≤ 9223372036854775807
  rr : REqs w w.heap.size Ar mr ps (T.left rows)
  rc : mr ≤ cr ∧ cr ≤ 9223372036854775807
  le : mr ≤ rows.length
  r : Wells.Reach N rows T
  f : Final rows T
  be : Below w0.heap.size w0 w
def PeelM (w0 : World) (N D : Nat) (vals : List (List Byte)) (rows : List Eqn) (e : Ending) (w : World) : Prop :=
  ∃ T Ak Av Ar ck cv cr mr vs ps, e = .returned (.tuple #[.slice Ak N ck, .slice Av N cv, .slice Ar mr cr, .int .i64 0]) ∧ POk w0 w N D vals rows T Ak Av Ar ck cv cr mr vs ps
theorem POk.below {w0 w w' : World} {N D : Nat} {vals : List (List Byte)} {rows : List Eqn} {T : PSt} {Ak Av Ar : Option Addr} {ck cv cr mr : Nat} {vs : List Value} {ps : List (Value × Value)} (h : POk w0 w N D vals rows T Ak Av Ar ck cv cr mr vs ps) (hb : Below w.heap.size w w') : POk w0 w' N D vals rows T Ak Av Ar ck cv cr mr vs ps :=
  ⟨(h.sk.below hb).mono hb.size, h.kc, (h.rv.below hb).mono hb.size, h.vc, (h.rr.below hb).mono hb.size, h.rc, h.le, h.r, h.f, h.be.trans (hb.mono h.be.size)⟩
theorem peelm_any (N D : Nat) (vals : List (List Byte)) (B : Nat) (A : Option Addr) (n c : Nat) (ps : List (Value × Value)) (rows : List Eqn) (w : World) (h : REqs w B A n ps rows) (hB : B ≤ w.heap.size) (hn : n ≤ 1048576)
    (hN : N ≤ 64) (hD : D ≤ 1048576) (hm : MadeRows N D vals rows) (hv : ∀ i, i < N → (vals.getD i []).length = D) :
    Calls Tryd.prog 13 #[.int .i64 (N : Int), .slice A n c] w (PeelM w N D vals rows) := by
  have hln := made_len hm hv
  refine (peel_any (N : Int) B A n c ps rows w h hB hn (by omega) (fun q hq x hx => by have := cols_bd (hm q hq).1 x hx; omega) (fun q hq => by have := cols_count (hm q hq).1; omega) (fun q hq => by rw [hln q hq]; exact hD)).mono ?_
  rintro e w4 ⟨b4, hor⟩
  rcases hor with ⟨hno, _⟩ | ⟨_, T, hT, hF, hor⟩
  · exact absurd (made_rightP hm hv hN) hno
  rw [Int.toNat_natCast] at hT
  have hend := true_end hm hv hT hF
  rcases hor with ⟨hno, _⟩ | ⟨_, vk, v5, vr, vs, ps2, rfl, ok, ov, orr⟩
  · exact absurd hend.sound hno
  obtain ⟨Ak, ck, rfl, hck, hck2, sk⟩ := own_slice ok
  obtain ⟨Av, cv, rfl, hcv, hcv2⟩ := ov.form
  obtain ⟨Ar, cr, rfl, hcr, hcr2⟩ := orr.form
  rw [hend.kl] at sk hck ⊢
  rw [hend.vl] at ov hcv ⊢
  exact ⟨T, Ak, Av, Ar, ck, cv, cr, _, vs, ps2, rfl, ⟨sk, ⟨hck, hck2⟩, ov.read hend.vl, ⟨hcv, hcv2⟩, orr.read rfl b4.size, ⟨hcr, hcr2⟩, left_le _ _, hT, hF, b4⟩⟩
theorem eqC_drop (ps : List (Value × Value)) (k : Nat) : (eqC ps).drop (k * 2) = eqC (ps.drop k) := by
  induction k generalizing ps with
  | zero => simp
  | succ k ih =>
    cases ps with
    | nil => simp [eqC]
    | cons p ps =>
      show (p.1 :: p.2 :: eqC ps).drop ((k + 1) * 2) = _
      rw [show (k + 1) * 2 = k * 2 + 1 + 1 by omega, List.drop_succ_cons, List.drop_succ_cons, ih]
      rfl
theorem eqC_take (ps : List (Value × Value)) (k : Nat) : (eqC ps).take (k * 2) = eqC (ps.take k) := by
  induction k generalizing ps with
  | zero => simp [eqC]
  | succ k ih =>
    cases ps with
    | nil => simp [eqC]
    | cons p ps =>
      show (p.1 :: p.2 :: eqC ps).take ((k + 1) * 2) = _
      rw [show (k + 1) * 2 = k * 2 + 1 + 1 by omega, List.take_succ_cons, List.take_succ_cons, ih]
      rfl
theorem reqs_one {w : World} {B n : Nat} {A : Option Addr} {ps : List (Value × Value)} {rows : List Eqn} (h : REqs w B A n ps rows) : ∀ p ∈ ps, p.1.oneCell' = true ∧ p.2.oneCell' = true := fun p hp => by
  obtain ⟨i, hi, rfl⟩ := List.getElem_of_mem hp
  have h1 := h.at_ i (by rw [← h.pl]; exact hi)
  rw [List.getD_eq_getElem?_getD, List.getElem?_eq_getElem hi] at h1
  obtain ⟨⟨A1, c1, e1, _⟩, A2, c2, e2, _⟩ := h1
  simp only [Option.getD_some] at e1 e2
  rw [e1, e2]
  exact ⟨rfl, rfl⟩
theorem eqC_one {ps : List (Value × Value)} (h : ∀ p ∈ ps, p.1.oneCell' = true ∧ p.2.oneCell' = true) : ∀ u ∈ eqC ps, u.oneCell' = true := fun u hu => by
  unfold eqC at hu
  obtain ⟨p, hp, hu⟩ := List.mem_flatMap.1 hu
  simp only [List.mem_cons, List.not_mem_nil, or_false] at hu
  rcases hu with rfl | rfl
  · exact (h p hp).1
  · exact (h p hp).2
theorem REqs.join {w w' : World} {B B' m k N' : Nat} {A A' : Option Addr} {ps : List (Value × Value)} {rows : List Eqn} (h : REqs w B A m ps rows) (sl : Sl w' B' 2 A' N' (eqC (ps.drop k) ++ eqC ps)) (hN : (m - k) + m = N') (hk : k ≤ m) (hb : Below B w w') (hB : B ≤ B') :
    REqs w' B' A' N' (ps.drop k ++ ps) (rows.drop k ++ rows) := by
  have pl := h.pl
  have hl := h.len
  refine ⟨by rw [eqC_app]; exact sl, by rw [List.length_append, List.length_drop, pl, hN], by rw [List.length_append, List.length_drop, hl, hN], fun i hi => ?_⟩
  simp only [List.getD_eq_getElem?_getD]
  by_cases hlt : i < m - k
  · rw [List.getElem?_append_left (by rw [List.length_drop, pl]; exact hlt), List.getElem?_append_left (by rw [List.length_drop, hl]; exact hlt), List.getElem?_drop, List.getElem?_drop]
    have := h.at_ (k + i) (by omega)
    simp only [List.getD_eq_getElem?_getD] at this
    exact (this.keep hb).mono hB
  · rw [List.getElem?_append_right (by rw [List.length_drop, pl]; omega), List.getElem?_append_right (by rw [List.length_drop, hl]; omega), List.length_drop, List.length_drop, pl, hl]
    have := h.at_ (i - (m - k)) (by omega)
    simp only [List.getD_eq_getElem?_getD] at this
    exact (this.keep hb).mono hB
theorem REqs.app2 {w w' : World} {B B' n n' : Nat} {A A' A'' : Option Addr} {ps ps' : List (Value × Value)} {rows rows' : List Eqn} (h : REqs w B A n ps rows) (h' : REqs w B A' n' ps' rows') (sl : Sl w' B' 2 A'' (n + n') (eqC ps ++ eqC ps')) (hb : Below B w w') (hB : B ≤ B') :
    REqs w' B' A'' (n + n') (ps ++ ps') (rows ++ rows') := by
  refine ⟨by rw [eqC_app]; exact sl, by rw [List.length_append, h.pl, h'.pl], by rw [List.length_append, h.len, h'.len], fun i hi => ?_⟩
  simp only [List.getD_eq_getElem?_getD]
  by_cases hlt : i < n
  · rw [List.getElem?_append_left (by rw [h.pl]; exact hlt), List.getElem?_append_left (by rw [h.len]; exact hlt)]
    have := h.at_ i hlt
    simp only [List.getD_eq_getElem?_getD] at this
    exact (this.keep hb).mono hB
  · rw [List.getElem?_append_right (by rw [h.pl]; omega), List.getElem?_append_right (by rw [h.len]; omega), h.pl, h.len]
    have := h'.at_ (i - n) (by omega)
    simp only [List.getD_eq_getElem?_getD] at this
    exact (this.keep hb).mono hB
end Go.Proofs.YtmefbbpcfphciaaDoor
