/- One byte of an owned row (XOwnAt, for seats without cells). -/
import Derived.Test.YtmefbbpcfphciaaDoorLists
import Derived.Laws.BitsAllLaws
namespace Go.Proofs.YtmefbbpcfphciaaDoor
open Go.RowKit Wells
theorem own_row' {w : World} {base : Nat} {e : TypeId} {n c : Nat} {A : Option Addr} {xs : List Value} (h : w.ownsRow base e 1 (.slice A n c) n xs) (hn : 0 < n) :
    ∃ g cur, A = some ⟨g, 0, none⟩ ∧ base ≤ g ∧ Row w g e cur ∧ cur.length = c ∧ cur.take n = xs ∧ n ≤ c ∧ c ≤ maxLen := by
  rcases h.2 with ⟨_, h0⟩ | ⟨g, cap, cur, hv, hb, hg, hnc, hc, hs, ht⟩
  · omega
  · injection hv with e1 _ e2
    subst e1 e2
    exact ⟨g, cur.toList, rfl, hb, by simpa [Row] using hg, by simpa using hs, by simpa using ht, hnc, hc⟩
theorem own_put {w : World} {base n c : Nat} {A : Option Addr} {t : TypeId} {l : List Byte} (h : w.ownsRow base t 1 (.slice A n c) n (l.map bv8)) {i : Nat} (hi : i < n) (b : Byte) :
    ∃ g, A = some ⟨g, 0, none⟩ ∧ base ≤ g ∧ g < w.heap.size ∧ w.cell? ⟨g, i, none⟩ = some (.int .u8 ((l.getD i 0).toNat : Int)) ∧ w.frozen? ⟨g, i, none⟩ = false ∧
      (w.setCell ⟨g, i, none⟩ (bv8 b)).ownsRow base t 1 (.slice A n c) n ((l.set i b).map bv8) := by
  obtain ⟨g', cur, e, hb, hr, hcl, hct, hnc, hcm⟩ := own_row' h (by omega)
  subst e
  have hl : l.length = n := by have := h.1; simpa using this
  refine ⟨g', rfl, hb, hr.lt, ?_, hr.frozen i, ?_⟩
  · rw [hr.cell i]
    have h1 : (l.map bv8)[i]? = some (bv8 (l.getD i 0)) := u8s_get l i (by omega)
    rw [← hct, List.getElem?_take, if_pos hi] at h1
    exact h1
  · refine ⟨by have := h.1; simpa using this, .inr ⟨g', c, (cur.set i (bv8 b)).toArray, rfl, hb, hr.set i _, hnc, hcm, by simpa using hcl, ?_⟩⟩
    simp only [Nat.mul_one, List.toList_toArray]
    rw [List.take_set, hct, List.map_set]
theorem x8' (a b : BitVec 8) : bits .xor .u8 (a.toNat : Int) (b.toNat : Int) = ((a ^^^ b).toNat : Int) := by
  rw [u8_xor_nat _ _ a.isLt b.isLt, BitVec.toNat_xor]
end Go.Proofs.YtmefbbpcfphciaaDoor
