/- One row's bytes replaced by new ones, one of them turned. -/
import Derived.Test.YtmefbbpcfphciaaDoorEqs
import Derived.Test.YtmefbbpcfphciaaDoorOwnPut
import Derived.Test.YtmefbbpcfphciaaDoorPeelS
namespace Go.Proofs.YtmefbbpcfphciaaDoor
open Go.RowKit Wells
theorem ownrow2_ {w : World} {base size n c : Nat} {A : Option Addr} {t : TypeId} {xs : List Value} (h : w.ownsRow base t size (.slice A n c) n xs) (hn : 0 < n) :
    ∃ g c' cur, Value.slice A n c = .slice (some ⟨g, 0, none⟩) n c' ∧ base ≤ g ∧ Row w g t cur ∧ cur.length = c' * size ∧ cur.take (n * size) = xs ∧ n ≤ c' ∧ c' ≤ maxLen := by
  rcases h.2 with ⟨hv, h0⟩ | ⟨g, cap, cur, hv, hb, hg, hn', hc, hs, ht⟩
  · omega
  · exact ⟨g, cap, cur.toList, hv, hb, by simpa [Row] using hg, by simpa using hs, by simpa using ht, hn', hc⟩
theorem eqC_set : ∀ (ps : List (Value × Value)) (t : Nat) (v : Value), t < ps.length → (eqC ps).set (t * 2 + 1) v = eqC (ps.set t ((ps.getD t (undef, undef)).1, v))
  | [], t, _, h => absurd h (by simp)
  | p :: ps, 0, v, _ => rfl
  | p :: ps, t + 1, v, h => by
    have := eqC_set ps t v (by simpa using h)
    show (p.1 :: p.2 :: eqC ps).set ((t + 1) * 2 + 1) v = _
    rw [show (t + 1) * 2 + 1 = (t * 2 + 1) + 1 + 1 by omega, List.set_cons_succ, List.set_cons_succ, this]
    rfl
theorem bent_reqs {w3 w5 w6 : World} {m D gb g9 c9 t : Nat} {Am : Option Addr} {psm : List (Value × Value)} {rowsm : List Eqn} {cur : List Value} {b : Byte}
    (h3 : REqs w3 w3.heap.size Am m psm rowsm) (b5 : Below w3.heap.size w3 w5) (hrow : Row w5 gb 27 cur) (hgb : w3.heap.size ≤ gb) (hct : cur.take (m * 2) = eqC psm) (hcl : m * 2 ≤ cur.length) (b6 : Below w5.heap.size w5 w6)
    (o6 : w6.ownsRow w5.heap.size 5 1 (.slice (some ⟨g9, 0, none⟩) D c9) D ((rowsm.getD t default).data.map bv8)) (hD : 0 < D) (ht : t < m) (hg9 : w5.heap.size ≤ g9) :
    REqs ((w6.setCell ⟨gb, t * 2 + 1, none⟩ (.slice (some ⟨g9, 0, none⟩) D c9)).setCell ⟨g9, 0, none⟩ (bv8 b)) ((w6.setCell ⟨gb, t * 2 + 1, none⟩ (.slice (some ⟨g9, 0, none⟩) D c9)).setCell ⟨g9, 0, none⟩ (bv8 b)).heap.size (some ⟨gb, 0, none⟩) m
      (psm.set t ((psm.getD t (undef, undef)).1, .slice (some ⟨g9, 0, none⟩) D c9)) (rowsm.set t ⟨(rowsm.getD t default).cols, (rowsm.getD t default).data.set 0 b⟩) ∧
    Below w3.heap.size w3 ((w6.setCell ⟨gb, t * 2 + 1, none⟩ (.slice (some ⟨g9, 0, none⟩) D c9)).setCell ⟨g9, 0, none⟩ (bv8 b)) := by
  have hz5 := b5.size
  have hgl := hrow.lt
  have hr6 := hrow.below b6 hgl
  have hne : gb ≠ g9 := by omega
  have hbW : Below w3.heap.size w3 ((w6.setCell ⟨gb, t * 2 + 1, none⟩ (.slice (some ⟨g9, 0, none⟩) D c9)).setCell ⟨g9, 0, none⟩ (bv8 b)) :=
    ((b5.trans (b6.mono hz5)).setCell (p := (⟨gb, t * 2 + 1, none⟩ : Addr)) hgb _).setCell (p := (⟨g9, 0, none⟩ : Addr)) (by show w3.heap.size ≤ g9; omega) _
  have hzW := hbW.size
  have hrW := (hr6.set (t * 2 + 1) (.slice (some ⟨g9, 0, none⟩) D c9)).far (p := ⟨g9, 0, none⟩) hne (bv8 b)
  have o7 := World.ownsRow.farC o6 hr6 (by decide) (t * 2 + 1) (.slice (some ⟨g9, 0, none⟩) D c9)
  obtain ⟨g', e', _, _, _, _, o8⟩ := own_put o7 hD b
  injection e' with e'
  injection e' with e' _ _
  subst e'
  refine ⟨⟨⟨?_, fun _ => ⟨gb, 0, rfl, hrW.lt, fun j u hu => ?_⟩⟩, by rw [List.length_set]; exact h3.pl, by rw [List.length_set]; exact h3.len, fun i hi => ?_⟩, hbW⟩
  · rw [eqC_len, List.length_set, h3.pl]
  · rw [Nat.zero_add, hrW.cell]
    rw [← eqC_set psm t _ (by rw [h3.pl]; exact ht), ← hct, ← List.take_set] at hu
    rw [List.getElem?_take] at hu
    split at hu
    · exact hu
    · cases hu
  · have hi3 := h3.at_ i hi
    rw [getD_set_t (by rw [h3.pl]; exact ht), getD_set_t (by rw [h3.len]; exact ht)]
    by_cases hit : i = t
    · subst hit
      rw [if_pos rfl, if_pos rfl]
      refine ⟨(hi3.1.keep hbW).mono hzW, ?_⟩
      have hl : (rowsm.getD i default).data.length = D := by have := o6.1; simpa using this
      refine ⟨_, c9, by rw [List.length_set, hl], ?_, ?_, ?_⟩
      · rw [List.length_set, hl]; exact (own_cap o6).1
      · exact (own_cap o6).2
      · rw [List.length_set, hl]; exact Sl.own o8
    · rw [if_neg hit, if_neg hit]
      exact (hi3.keep hbW).mono hzW
end Go.Proofs.YtmefbbpcfphciaaDoor
