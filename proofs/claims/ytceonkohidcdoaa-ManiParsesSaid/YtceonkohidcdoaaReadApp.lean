/- What is packed, with more behind or less: plain. -/
import Derived.Test.YtceonkohidcdoaaReadBack
namespace Wells
open Go Go.RowKit
theorem packL_app (m : Mani) (b : List Byte) : packL m ++ b = highL 4 m.seq ++ (highL 4 m.next ++ (b8 m.P.K :: b8 m.P.H :: b8 m.P.S :: b8 m.extra :: b8 (m.drives.length : Int) :: (m.drives.map b8 ++ (b8 (m.objs.length : Int) :: (m.objs.flatMap packE ++ b))))) := by
  unfold packL packH
  simp only [List.append_assoc, List.cons_append, List.nil_append]
theorem rdMani_app {m : Mani} (h : MayP m) (b : List Byte) : rdMani (packL m ++ b, false) = (m, (b, false)) := by
  have h1 := h.seq
  have h2 := h.next
  obtain ⟨k1, k2, k3, k4, k5, k6⟩ := Par.may_ok h.P
  have h4 := h.extra
  have h5 := rise_len h.drives
  have h6 := h.olen
  rw [packL_app]
  unfold rdMani
  rw [rdNum_4 (by omega)]
  dsimp only
  rw [rdNum_4 (by omega)]
  dsimp only
  rw [rdNum_1 (by omega)]
  dsimp only
  rw [rdNum_1 (by omega)]
  dsimp only
  rw [rdNum_1 (by omega)]
  dsimp only
  rw [rdNum_1 (by omega)]
  dsimp only
  rw [rdNum_1 (by omega)]
  dsimp only
  rw [Int.toNat_natCast, rdTries_back m.drives _ (drives_mem h.drives)]
  dsimp only
  rw [rdNum_1 (by omega)]
  dsimp only
  rw [Int.toNat_natCast]
  have := rdEnts_back h2.2 m.objs b (ents_mem h)
  show (_, _) = _
  have e : (⟨m.P.K, m.P.H, m.P.S⟩ : Par) = m.P := rfl
  (try rw [e])
  (try rw [this])
theorem pack_yes {m : Mani} (h : m.may = true) : pack m = packL m := by unfold pack; rw [if_pos h]
/-- no packed one is the front of another -/
theorem pack_front {m q : Mani} (h : m.may = true) (hq : q.may = true) {b : List Byte} (e : pack m ++ b = pack q) : b = [] := by
  have h1 := rdMani_app (may_p h) b
  have h2 := rdMani_back (may_p hq)
  rw [← pack_yes h, e, pack_yes hq, h2] at h1
  injection h1 with _ h1
  injection h1 with h1
  exact h1.symm
theorem parse_more {m : Mani} (h : m.may = true) {b : List Byte} (hb : b ≠ []) : parseL (pack m ++ b) = none := by
  cases hp : parseL (pack m ++ b) with
  | none => rfl
  | some q =>
    obtain ⟨h1, h2⟩ := parseL_some hp
    exact absurd (pack_front h h2 h1) hb
theorem parse_less {m : Mani} (h : m.may = true) {k : Nat} (hk : k < (pack m).length) : parseL ((pack m).take k) = none := by
  cases hp : parseL ((pack m).take k) with
  | none => rfl
  | some q =>
    obtain ⟨h1, h2⟩ := parseL_some hp
    have h3 : pack q ++ (pack m).drop k = pack m := by rw [← h1, List.take_append_drop]
    have h4 := pack_front h2 h h3
    have := congrArg List.length h4
    simp at this
    omega
theorem pack_len14 {m : Mani} (h : m.may = true) : 14 ≤ (pack m).length := by
  rw [pack_yes h]
  unfold packL packH
  simp only [List.length_append, highL_len, List.length_cons, List.length_nil]
  omega
end Wells
