/- PageMem PageOne -/
import Derived.Test.YtbpimfhachbcdaaDoorBPageCells34
set_option maxRecDepth 20000
set_option linter.unusedSimpArgs false
set_option linter.unusedVariables false
set_option linter.unusedSectionVars false
namespace Wells
open Go Go.RowKit
theorem ins_perm {α : Type} {lt : α → α → Bool} (x : α) : ∀ l, (ins lt x l).Perm (x :: l)
  | [] => List.Perm.refl _
  | y :: l => by
    unfold ins
    split
    · exact List.Perm.refl _
    · exact ((ins_perm x l).cons y).trans (List.Perm.swap x y l)
theorem ssort_perm {α : Type} {lt : α → α → Bool} (l : List α) : (ssort lt l).Perm l := by
  induction l using rev_ind with
  | h0 => exact List.Perm.refl _
  | h1 l x ih =>
    rw [ssort_snoc]
    exact (ins_perm x _).trans ((ih.cons x).trans (List.perm_append_singleton x l).symm)
theorem mem_dedup {l : List Mani} {x : Mani} : x ∈ dedup l ↔ x ∈ l := by
  induction l using rev_ind with
  | h0 => exact Iff.rfl
  | h1 l y ih =>
    rw [dedup_snoc]
    split
    · rename_i h
      rw [List.mem_append, List.mem_singleton]
      constructor
      · intro hx; exact .inl (ih.1 hx)
      · rintro (hx | hx)
        · exact ih.2 hx
        · rw [hx]; exact h
    · rw [List.mem_append, List.mem_append, List.mem_singleton, ih]
theorem dedup_nodup (l : List Mani) : (dedup l).Nodup := by
  induction l using rev_ind with
  | h0 => exact List.Pairwise.nil
  | h1 l y ih =>
    rw [dedup_snoc]
    split
    · exact ih
    · rename_i h
      rw [List.nodup_append]
      refine ⟨ih, List.pairwise_singleton _ _, fun a ha b hb e => ?_⟩
      rw [List.mem_singleton] at hb
      subst hb
      subst e
      exact h ha
theorem joinL_nodup (P : List (List Byte)) : (joinL P).Nodup := (ssort_perm _).nodup_iff.2 (dedup_nodup _)
theorem joinL_srt (P : List (List Byte)) : Srt ltM (joinL P) := ssort_srt ltM_ord _
theorem mem_joinL {P : List (List Byte)} {x : Mani} : x ∈ joinL P ↔ ∃ f, f ∈ pagesOf P ∧ told (pagesOf P) f = some x := by
  unfold joinL
  rw [mem_ssort, mem_dedup, List.mem_filterMap]
/-- the page of number j of a manifest -/
def pgM (m : Mani) (j : Nat) : Pg := ⟨m.seq, j, pageN (pack m), pageD (pack m) j, pageC m.seq (pack m) j⟩
/-- cells that are pages of these manifests -/
structure PagesOf (ms : List Mani) (P : List (List Byte)) : Prop where
  may : ∀ m ∈ ms, m.may = true
  fit : ∀ m ∈ ms, pageN (pack m) ≤ 255
  seq : ∀ m ∈ ms, ∀ m' ∈ ms, m.seq = m'.seq → m = m'
  each : ∀ c ∈ P, ∃ m ∈ ms, ∃ j, j < pageN (pack m) ∧ c = pageC m.seq (pack m) j
section
variable {ms : List Mani} {P : List (List Byte)}
theorem PagesOf.tk (h : PagesOf ms P) {m : Mani} (hm : m ∈ ms) {j : Nat} (hj : j < pageN (pack m)) : tkPage (pageC m.seq (pack m) j) = some (pgM m j) := by
  have := may_seq (h.may m hm)
  exact tk_page (by omega) (h.fit m hm) hj
theorem PagesOf.mem (h : PagesOf ms P) {f : Pg} : f ∈ pagesOf P ↔ ∃ m ∈ ms, ∃ j, j < pageN (pack m) ∧ f = pgM m j ∧ pageC m.seq (pack m) j ∈ P := by
  unfold pagesOf
  rw [List.mem_filterMap]
  constructor
  · rintro ⟨c, hc, ht⟩
    obtain ⟨m, hm, j, hj, rfl⟩ := h.each c hc
    rw [h.tk hm hj] at ht
    injection ht with ht
    exact ⟨m, hm, j, hj, ht.symm, hc⟩
  · rintro ⟨m, hm, j, hj, rfl, hc⟩
    exact ⟨_, hc, h.tk hm hj⟩
theorem PagesOf.find (h : PagesOf ms P) {m : Mani} (hm : m ∈ ms) {j : Nat} (hj : j < pageN (pack m)) : (pageC m.seq (pack m) j ∈ P → (pagesOf P).find? (pgIs (pgM m 0) j) = some (pgM m j)) ∧ (¬ pageC m.seq (pack m) j ∈ P → (pagesOf P).find? (pgIs (pgM m 0) j) = none) := by
  have key : ∀ x ∈ pagesOf P, pgIs (pgM m 0) j x = true → x = pgM m j ∧ pageC m.seq (pack m) j ∈ P := by
    intro x hx hp
    obtain ⟨m', hm', j', hj', rfl, hc⟩ := h.mem.1 hx
    unfold pgIs pgM at hp
    simp only [Bool.and_eq_true, decide_eq_true_eq] at hp
    have e := h.seq m' hm' m hm hp.1
    subst e
    have e2 : j' = j := by omega
    subst e2
    exact ⟨rfl, hc⟩
  constructor
  · intro hc
    cases hf : (pagesOf P).find? (pgIs (pgM m 0) j) with
    | none =>
      have := List.find?_eq_none.1 hf _ (h.mem.2 ⟨m, hm, j, hj, rfl, hc⟩)
      exact absurd (by unfold pgIs pgM; simp) this
    | some x => rw [(key x (List.mem_of_find?_eq_some hf) (List.find?_some hf)).1]
  · intro hc
    cases hf : (pagesOf P).find? (pgIs (pgM m 0) j) with
    | none => rfl
    | some x => exact absurd (key x (List.mem_of_find?_eq_some hf) (List.find?_some hf)).2 hc
theorem PagesOf.docG_all (h : PagesOf ms P) {m : Mani} (hm : m ∈ ms) : ∀ k, k < pageN (pack m) → (∀ j, j ≤ k → pageC m.seq (pack m) j ∈ P) → docG (pagesOf P) (pgM m 0) k = (List.range (k + 1)).map (pgM m)
  | 0, _, _ => rfl
  | k + 1, hk, hall => by
    rw [docG, h.docG_all hm k (by omega) (fun j hj => hall j (by omega)), (h.find hm hk).1 (hall _ (Nat.le_refl _)), List.range_succ (n := k + 1), List.map_append]
    rfl
theorem PagesOf.docG_miss (h : PagesOf ms P) {m : Mani} (hm : m ∈ ms) {j : Nat} (hj : j < pageN (pack m)) (h0 : 0 < j) (hc : ¬ pageC m.seq (pack m) j ∈ P) : (docG (pagesOf P) (pgM m 0) (pageN (pack m) - 1)).length < pageN (pack m) := by
  have h1 : (docG (pagesOf P) (pgM m 0) j).length < j + 1 := by
    obtain ⟨i, rfl⟩ : ∃ i, j = i + 1 := ⟨j - 1, by omega⟩
    rw [docG, (h.find hm hj).2 hc]
    have := docG_len (pagesOf P) (pgM m 0) i
    simp
    omega
  have := docG_short h1 (pageN (pack m) - 1) (by omega)
  omega
theorem pageD_take (p : List Byte) : ∀ k, (List.range k).flatMap (pageD p) = p.take (48 * k)
  | 0 => by simp
  | k + 1 => by
    rw [List.range_succ, List.flatMap_append, pageD_take p k, show 48 * (k + 1) = 48 * k + 48 from by omega, List.take_add]
    simp [pageD]
theorem bears_all (m : Mani) : ((List.range (pageN (pack m))).map (pgM m)).flatMap Pg.bears = pack m := by
  rw [List.flatMap_map]
  show (List.range (pageN (pack m))).flatMap (pageD (pack m)) = pack m
  rw [pageD_take, List.take_of_length_le (by unfold pageN; omega)]
theorem whole_all {m : Mani} (h : m.may = true) : wholeL ((List.range (pageN (pack m))).map (pgM m)) = some m := by
  unfold wholeL
  rw [bears_all, parseL_pack h]
  show (if _ then _ else _) = _
  rw [if_pos]
  unfold pagesL
  rw [List.map_map]
  rfl
theorem PagesOf.join (h : PagesOf ms P) {x : Mani} : x ∈ joinL P ↔ x ∈ ms ∧ ∀ j, j < pageN (pack x) → pageC x.seq (pack x) j ∈ P := by
  have hof : ∀ (m : Mani) (N : Nat), N = pageN (pack m) → 0 < N → ((pgM m 0).of_ - 1).toNat = N - 1 ∧ (pgM m 0).of_.toNat = N ∧ 0 < (pgM m 0).of_ := by
    intro m N e hN
    subst e
    show (((pageN (pack m) : Nat) : Int) - 1).toNat = _ ∧ ((pageN (pack m) : Nat) : Int).toNat = _ ∧ 0 < ((pageN (pack m) : Nat) : Int)
    omega
  rw [mem_joinL]
  constructor
  · rintro ⟨f, hf, ht⟩
    obtain ⟨m, hm, j, hj, rfl, hc⟩ := h.mem.1 hf
    unfold told at ht
    split at ht
    · rename_i ha
      obtain rfl : j = 0 := by
        have : ((j : Nat) : Int) = 0 := ha
        omega
      obtain ⟨e1, e2, e3⟩ := hof m _ rfl hj
      by_cases hall : ∀ j, j < pageN (pack m) → pageC m.seq (pack m) j ∈ P
      · have hd := h.docG_all hm (pageN (pack m) - 1) (by omega) (fun j hj => hall j (by omega))
        rw [show pageN (pack m) - 1 + 1 = pageN (pack m) from by omega] at hd
        have hg : gatherL (pagesOf P) (pgM m 0) = some ((List.range (pageN (pack m))).map (pgM m)) := by
          unfold gatherL
          rw [e1, e2, hd]
          exact if_pos ⟨e3, by simp⟩
        rw [hg, Option.bind_some, whole_all (h.may m hm)] at ht
        injection ht with ht
        subst ht
        exact ⟨hm, hall⟩
      · exfalso
        obtain ⟨j, hj⟩ := Classical.not_forall.1 hall
        obtain ⟨hj, hn⟩ := Classical.not_imp.1 hj
        have h0 : 0 < j := by
          rcases Nat.eq_zero_or_pos j with e | e
          · subst e; exact absurd hc hn
          · exact e
        have hs := h.docG_miss hm hj h0 hn
        have hg : gatherL (pagesOf P) (pgM m 0) = none := by
          unfold gatherL
          rw [e1, e2]
          exact if_neg (fun hh => by omega)
        rw [hg] at ht
        cases ht
    · cases ht
  · rintro ⟨hm, hall⟩
    have hp := pageN_pos (pack_ne (h.may x hm))
    refine ⟨pgM x 0, h.mem.2 ⟨x, hm, 0, hp, rfl, hall 0 hp⟩, ?_⟩
    obtain ⟨e1, e2, e3⟩ := hof x _ rfl hp
    have hd := h.docG_all hm (pageN (pack x) - 1) (by omega) (fun j hj => hall j (by omega))
    rw [show pageN (pack x) - 1 + 1 = pageN (pack x) from by omega] at hd
    unfold told
    rw [if_pos (show (pgM x 0).at_ = 0 from rfl)]
    have hg : gatherL (pagesOf P) (pgM x 0) = some ((List.range (pageN (pack x))).map (pgM x)) := by
      unfold gatherL
      rw [e1, e2, hd]
      exact if_pos ⟨e3, by simp⟩
    rw [hg, Option.bind_some, whole_all (h.may x hm)]
theorem PagesOf.one {m : Mani} (h : PagesOf [m] P) (hall : ∀ c ∈ pagesL m.seq (pack m), c ∈ P) : joinL P = [m] := by
  have hm : ∀ x, x ∈ joinL P ↔ x = m := by
    intro x
    rw [h.join, List.mem_singleton]
    constructor
    · exact fun hh => hh.1
    · rintro rfl
      exact ⟨rfl, fun j hj => hall _ (List.mem_map.2 ⟨j, List.mem_range.2 hj, rfl⟩)⟩
  have hd := joinL_nodup P
  generalize joinL P = l at hm hd
  cases l with
  | nil => exact absurd ((hm m).2 rfl) List.not_mem_nil
  | cons a l =>
    obtain rfl := (hm a).1 List.mem_cons_self
    cases l with
    | nil => rfl
    | cons b l =>
      obtain rfl := (hm b).1 (List.mem_cons_of_mem _ List.mem_cons_self)
      exact absurd List.mem_cons_self (List.nodup_cons.1 hd).1
theorem PagesOf.two {n m : Mani} (h : PagesOf [n, m] P) (hlt : m.seq < n.seq) (hall : ∀ c ∈ pagesL m.seq (pack m), c ∈ P) (hall' : ∀ c ∈ pagesL n.seq (pack n), c ∈ P) : joinL P = [n, m] := by
  have hnm : ¬ n = m := fun e => by rw [e] at hlt; omega
  have hm : ∀ x, x ∈ joinL P ↔ x = n ∨ x = m := by
    intro x
    rw [h.join]
    constructor
    · rintro ⟨h1, -⟩
      simpa using h1
    · rintro (rfl | rfl)
      · exact ⟨by simp, fun j hj => hall' _ (List.mem_map.2 ⟨j, List.mem_range.2 hj, rfl⟩)⟩
      · exact ⟨by simp, fun j hj => hall _ (List.mem_map.2 ⟨j, List.mem_range.2 hj, rfl⟩)⟩
  have hd := joinL_nodup P
  have hs := joinL_srt P
  generalize joinL P = l at hm hd hs
  have hnl := (hm n).2 (.inl rfl)
  have hml := (hm m).2 (.inr rfl)
  cases l with
  | nil => cases hnl
  | cons a l =>
    obtain ⟨hal, hdl⟩ := List.nodup_cons.1 hd
    obtain ⟨hsa, hsl⟩ := List.pairwise_cons.1 hs
    rcases (hm a).1 List.mem_cons_self with rfl | rfl
    · have hml' : m ∈ l := by
        rcases List.mem_cons.1 hml with e | e
        · exact absurd e.symm hnm
        · exact e
      have hl : ∀ x ∈ l, x = m := fun x hx => by
        rcases (hm x).1 (List.mem_cons_of_mem _ hx) with rfl | e
        · exact absurd hx hal
        · exact e
      cases l with
      | nil => cases hml'
      | cons b l =>
        obtain rfl := hl b List.mem_cons_self
        cases l with
        | nil => rfl
        | cons c l =>
          obtain rfl := hl c (List.mem_cons_of_mem _ List.mem_cons_self)
          exact absurd List.mem_cons_self (List.nodup_cons.1 hdl).1
    · exfalso
      have hnl' : n ∈ l := by
        rcases List.mem_cons.1 hnl with e | e
        · exact absurd e hnm
        · exact e
      have := hsa n hnl'
      unfold ltM at this
      rw [decide_eq_true hlt] at this
      cases this
end
end Wells

namespace Wells
open Go Go.RowKit
theorem page_take {q : Int} {p : List Byte} {j : Nat} (hq : 0 ≤ q ∧ q < 4294967296) (hN : pageN p ≤ 255) (hj : j < pageN p) : ∃ x, takeP (pageC q p j) = some (2#8, x) ∧ x.length = 55 ∧ byteI x 4 = (j : Int) ∧ byteI x 5 = (pageN p : Int) ∧ byteI x 6 = ((pageD p j).length : Int) ∧ (x.drop 7).take (pageD p j).length = pageD p j := by
  have h := tk_page hq hN hj
  unfold tkPage at h
  split at h
  · rename_i k x ht
    split at h
    · rename_i hc
      injection h with h
      unfold pgOf at h
      injection h with h1 h2 h3 h4 h5
      obtain ⟨hk, h6, -⟩ := hc
      have hl := (take_some ht).2.1
      have h0 : 0 ≤ byteI x 6 := by unfold byteI; omega
      have e := congrArg List.length h4
      rw [List.length_take, List.length_drop, hl] at e
      have e2 : (byteI x 6).toNat = (pageD p j).length := by omega
      refine ⟨x, by rw [ht, hk], hl, h2, h3, by omega, ?_⟩
      rw [← e2]
      exact h4
    · cases h
  · cases h
theorem pageD_some {p : List Byte} {j : Nat} (hj : j < pageN p) : 1 ≤ (pageD p j).length ∧ (pageD p j).length ≤ 48 := by
  rw [pageD_len]
  unfold pageN at hj
  omega
theorem pageD_full {p : List Byte} {j : Nat} (hj : j + 1 < pageN p) : (pageD p j).length = 48 := by
  rw [pageD_len]
  unfold pageN at hj
  omega
theorem take_page (p : List Byte) (j : Nat) : p.take (48 * (j + 1)) = p.take (48 * j) ++ pageD p j := by
  rw [show 48 * (j + 1) = 48 * j + 48 from by omega, List.take_add]
  rfl
theorem take_pages (p : List Byte) : p.take (48 * pageN p) = p := List.take_of_length_le (by unfold pageN; omega)
theorem pages_get {q : Int} {p : List Byte} {j : Nat} (hj : j < pageN p) : (pagesL q p).getD j [] = pageC q p j := by
  unfold pagesL
  rw [List.getD_eq_getElem?_getD, List.getElem?_map, List.getElem?_range hj]
  rfl
section
variable {m : Mani} (hm : m.may = true) (h9 : pageN (pack m) ≤ 255)
include hm h9
end
section
variable {m n : Mani} (hm : m.may = true) (h9 : pageN (pack m) ≤ 255) (hn : n.may = true) (h9' : pageN (pack n) ≤ 255) (hlt : m.seq < n.seq)
include hm h9 hn h9' hlt
end
end Wells

