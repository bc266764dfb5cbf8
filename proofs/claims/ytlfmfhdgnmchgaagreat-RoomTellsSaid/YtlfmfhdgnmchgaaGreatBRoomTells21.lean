/- Number Wakes19 -/
import Derived.Test.YtlfmfhdgnmchgaaGreatBRoomTells00
import Derived.Test.YtlfmfhdgnmchgaaGreatBRoomTells02
import Derived.Test.YtlfmfhdgnmchgaaGreatBRoomTells12
import Derived.Test.YtlfmfhdgnmchgaaGreatBRoomTells20
set_option maxRecDepth 20000
set_option linter.unusedSimpArgs false
set_option linter.unusedVariables false
namespace Go.Proofs.YtlfmfhdgnmchgaaGreat
open Go.RowKit Wells
theorem own_byteI {w : World} {base n : Nat} {t : TypeId} {v : Value} {l : List Byte} {E : Int} (h : w.ownsRow base t 1 v n (l.map bv8 ++ [.int .u8 E])) {b : Byte} (hb : (b.toNat : Int) = E) : w.ownsRow base t 1 v n ((l ++ [b]).map bv8) := by
  rw [List.map_append, List.map_cons, List.map_nil, bv8, hb]; exact h
theorem or_add (m x : Nat) (hm : m < 16777216) (hx : x < 256) : bits .or .i64 ((m : Int) * 256) (x : Int) = (m : Int) * 256 + (x : Int) := by
  show IntKind.i64.wrap ((BitVec.ofInt 64 ((m : Int) * 256) ||| BitVec.ofInt 64 (x : Int)).toNat : Int) = _
  have e : (m : Int) * 256 = ((m * 256 : Nat) : Int) := by omega
  rw [e, BitVec.ofInt_natCast, BitVec.ofInt_natCast, BitVec.toNat_or, BitVec.toNat_ofNat, BitVec.toNat_ofNat, Nat.mod_eq_of_lt (by omega), Nat.mod_eq_of_lt (by omega)]
  have h := Nat.two_pow_add_eq_or_of_lt (i := 8) (b := x) (by omega) m
  rw [show m * 256 = 2 ^ 8 * m by omega, ← h, IntKind.wrap_i64]
  omega
theorem number_any (base : Nat) (A : Option Addr) (n c : Nat) (l : List Byte) (x : Int) (k : Nat) (w : World) (ho : w.ownsRow base 5 1 (.slice A n c) n (l.map bv8)) (hn : n ≤ 1048576) (hb : base ≤ w.heap.size) (hx : -9223372036854775808 ≤ x ∧ x ≤ 9223372036854775807) (hk : k ≤ 7) :
    Calls Tryz.prog 102 #[.slice A n c, .int .i64 x, .int .i64 k] w fun e w' => ∃ A' c', e = .returned (.slice A' (n + k) c') ∧ w'.ownsRow base 5 1 (.slice A' (n + k) c') (n + k) ((l ++ highL k x).map bv8) ∧ Below base w w' := by
  obtain ⟨i0, hi, hz0, hz1, hz2⟩ := info_parts infoB
  go_enter Tryz.func102, Tryz.ntmps102
  go_wp2_with fail
  go_loopw [0, 7] (fun v i wr => ∃ (j : Nat) (A : Option Addr) (m c : Nat) (l' : List Byte), j ≤ k ∧ m + j = n + k ∧ i = .int .i64 ((j : Int) - 1) ∧ v = .slice A m c ∧ l' ++ highL j x = l ++ highL k x ∧ wr.ownsRow base 5 1 (.slice A m c) m (l'.map bv8) ∧ Below base w wr) (fun _ i _ => (intOf i + 1).toNat)
  case atStart => exact ⟨k, A, n, c, l, by omega, rfl, rfl, rfl, rfl, ho, Below.refl _ _⟩
  case round =>
    obtain ⟨j, A, m, c, l', hj, hm, rfl, rfl, hl, ho, hbw⟩ := hrel
    have hsw : base ≤ wr.heap.size := by have := hbw.size; omega
    by_cases hlt : 0 < j
    · obtain ⟨i, rfl⟩ : ∃ i, j = i + 1 := ⟨j - 1, by omega⟩
      have hHL := hid hl
      clear hl
      have hji : ((i + 1 : Nat) : Int) - 1 = (i : Int) := by omega
      rw [hji]
      have hbt := hid (hiB_toNat x i)
      have hw8 : IntKind.i64.wrap (8 * (i : Int)) = 8 * (i : Int) := by rw [IntKind.wrap_i64]; omega
      go_wp2_with (at_builtin; go_must (refine wpl_append rfl (.tmp 14) (.tmp 20) 58 rfl base 5 i0 (.int .u8 0) 1 1 Tryz.underlying58 hi hz0 hz1 hz2 rfl (by omega) (.slice A m c) m _ rfl (ho.alloc _) _ _ 1 1 _ rfl (Sl.fresh _ _ _ _ 1 rfl) (by simp [Value.oneCell']) (m + 1) (by omega) _ rfl (by omega) (by omega) (by simp; omega) ?_); intro A2 c2 w2 o2 g2 _)
      have b2 : Below base w w2 := below_own (hbw.alloc hsw _) (ho.alloc _) g2 (Nat.le_refl _) (by simp; omega)
      go_roundw
      case rel => exact ⟨i, A2, m + 1, c2, l' ++ [hiB x i], by omega, by omega, rfl, rfl, by rw [← hHL.out, List.append_assoc]; rfl, own_byteI o2 hbt.out, b2⟩
      case measure => simp [intOf]
    · have hj0 : j = 0 := by omega
      subst hj0
      obtain rfl : m = n + k := by omega
      have hneg : ¬ (0 : Int) ≤ -1 := by omega
      have hl2 : l' = l ++ highL k x := by simpa [highL] using hl
      have HL := hid hl2
      clear hl hl2
      go_wp2_with fail
      go_ret
      exact ⟨A, c, rfl, by rw [← List.map_append, ← HL.out]; exact ho, hbw⟩
theorem high_any (base : Nat) (A : Option Addr) (n c : Nat) (l : List Byte) (x : Int) (k : Nat) (w : World) (ho : w.ownsRow base 5 1 (.slice A n c) n (l.map bv8)) (hn : n ≤ 1048576) (hb : base ≤ w.heap.size) (hx : -9223372036854775808 ≤ x ∧ x ≤ 9223372036854775807) (hk : k ≤ 7) :
    Calls Tryz.prog 75 #[.slice A n c, .int .i64 x, .int .i64 k] w fun e w' => ∃ A' c', e = .returned (.slice A' (n + k) c') ∧ w'.ownsRow base 5 1 (.slice A' (n + k) c') (n + k) ((l ++ highL k x).map bv8) ∧ Below base w w' := by
  obtain ⟨i0, hi, hz0, hz1, hz2⟩ := info_parts infoB
  go_enter Tryz.func75, Tryz.ntmps75
  go_wp2_with fail
  go_loopw [0, 7] (fun v i wr => ∃ (j : Nat) (A : Option Addr) (m c : Nat) (l' : List Byte), j ≤ k ∧ m + j = n + k ∧ i = .int .i64 ((j : Int) - 1) ∧ v = .slice A m c ∧ l' ++ highL j x = l ++ highL k x ∧ wr.ownsRow base 5 1 (.slice A m c) m (l'.map bv8) ∧ Below base w wr) (fun _ i _ => (intOf i + 1).toNat)
  case atStart => exact ⟨k, A, n, c, l, by omega, rfl, rfl, rfl, rfl, ho, Below.refl _ _⟩
  case round =>
    obtain ⟨j, A, m, c, l', hj, hm, rfl, rfl, hl, ho, hbw⟩ := hrel
    have hsw : base ≤ wr.heap.size := by have := hbw.size; omega
    by_cases hlt : 0 < j
    · obtain ⟨i, rfl⟩ : ∃ i, j = i + 1 := ⟨j - 1, by omega⟩
      have hHL := hid hl
      clear hl
      have hji : ((i + 1 : Nat) : Int) - 1 = (i : Int) := by omega
      rw [hji]
      have hbt := hid (hiB_toNat x i)
      have hw8 : IntKind.i64.wrap (8 * (i : Int)) = 8 * (i : Int) := by rw [IntKind.wrap_i64]; omega
      go_wp2_with (at_builtin; go_must (refine wpl_append rfl (.tmp 14) (.tmp 20) 58 rfl base 5 i0 (.int .u8 0) 1 1 Tryz.underlying58 hi hz0 hz1 hz2 rfl (by omega) (.slice A m c) m _ rfl (ho.alloc _) _ _ 1 1 _ rfl (Sl.fresh _ _ _ _ 1 rfl) (by simp [Value.oneCell']) (m + 1) (by omega) _ rfl (by omega) (by omega) (by simp; omega) ?_); intro A2 c2 w2 o2 g2 _)
      have b2 : Below base w w2 := below_own (hbw.alloc hsw _) (ho.alloc _) g2 (Nat.le_refl _) (by simp; omega)
      go_roundw
      case rel => exact ⟨i, A2, m + 1, c2, l' ++ [hiB x i], by omega, by omega, rfl, rfl, by rw [← hHL.out, List.append_assoc]; rfl, own_byteI o2 hbt.out, b2⟩
      case measure => simp [intOf]
    · have hj0 : j = 0 := by omega
      subst hj0
      obtain rfl : m = n + k := by omega
      have hneg : ¬ (0 : Int) ≤ -1 := by omega
      have hl2 : l' = l ++ highL k x := by simpa [highL] using hl
      have HL := hid hl2
      clear hl hl2
      go_wp2_with fail
      go_ret
      exact ⟨A, c, rfl, by rw [← List.map_append, ← HL.out]; exact ho, hbw⟩
theorem told_any (B : Nat) (A : Option Addr) (l : List Byte) (n c : Nat) (w : World) (h : Sl w B 1 A n (l.map bv8)) (hn : n ≤ 4) (r : Int) (hr : numL l = r) :
    Calls Tryz.prog 80 #[.slice A n c] w fun e w' => e = .returned (.int .i64 r) ∧ w' = w := by
  have hl : l.length = n := by have := h.len; simpa using this
  have HL := hid hl
  have HR := hid hr
  clear hl hr
  go_enter Tryz.func80, Tryz.ntmps80
  go_wp2_with fail
  go_loopw [3, 8] (fun v i wr => ∃ j : Nat, j ≤ n ∧ i = .int .i64 j ∧ v = .int .i64 (numL (l.take j)) ∧ wr = w) (fun _ i _ => n - (intOf i).toNat)
  case atStart => exact ⟨0, by omega, rfl, rfl, rfl⟩
  case round =>
    obtain ⟨j, hj, rfl, rfl, rfl⟩ := hrel
    by_cases hlt : j < n
    · obtain ⟨b, o, rfl, _, hc⟩ := h.get (k := j) hlt (u8s_get l j (by rw [HL.out]; exact hlt))
      have hbd := numL_bound (l.take j)
      have hp : (256 : Int) ^ (l.take j).length ≤ 16777216 := by
        have : (l.take j).length ≤ 3 := by rw [List.length_take]; omega
        generalize (l.take j).length = q at this
        obtain rfl | rfl | rfl | rfl : q = 0 ∨ q = 1 ∨ q = 2 ∨ q = 3 := by omega
        all_goals decide
      have hstep : numL (l.take (j + 1)) = numL (l.take j) * 256 + ((l.getD j 0).toNat : Int) := by
        rw [List.take_add_one, List.getElem?_eq_getElem (by rw [HL.out]; exact hlt), Option.toList_some, numL_push]
        simp [List.getD_eq_getElem?_getD, List.getElem?_eq_getElem (show j < l.length by rw [HL.out]; exact hlt)]
      have HS := hid hstep
      clear hstep
      generalize l.getD j 0 = x at *
      obtain ⟨m, hm⟩ : ∃ m : Nat, numL (l.take j) = (m : Int) := ⟨(numL (l.take j)).toNat, by omega⟩
      rw [hm] at hbd HS ⊢
      have HM := hid hm
      clear hm
      have hm2 : m < 16777216 := by omega
      have hxb := x.isLt
      have hc' : wr.cell? ⟨b, o + j, none⟩ = some (.int .u8 (x.toNat : Int)) := hc
      clear hc hbd hp
      go_wp2_with fail
      rw [or_add m _ hm2 hxb, ← HS.out]
      exact ⟨⟨j + 1, by omega, by go_num, rfl, trivial⟩, by simp [intOf]; omega⟩
    · obtain rfl : j = n := by omega
      have ht := hid (show numL (l.take j) = r by rw [List.take_of_length_le (by rw [HL.out]; exact Nat.le_refl _)]; exact HR.out)
      rw [ht.out]
      go_wp2_with fail
      go_ret
      exact ⟨rfl, rfl⟩
theorem refnum_any (B : Nat) (A : Option Addr) (l : List Byte) (n c : Nat) (w : World) (h : Sl w B 1 A n (l.map bv8)) (hn : n ≤ 4) (r : Int) (hr : numL l = r) :
    Calls Tryz.prog 124 #[.slice A n c] w fun e w' => e = .returned (.int .i64 r) ∧ w' = w := by
  have hl : l.length = n := by have := h.len; simpa using this
  have HL := hid hl
  have HR := hid hr
  clear hl hr
  go_enter Tryz.func124, Tryz.ntmps124
  go_wp2_with fail
  go_loopw [3, 7] (fun v i wr => ∃ j : Nat, j ≤ n ∧ i = .int .i64 j ∧ v = .int .i64 (numL (l.take j)) ∧ wr = w) (fun _ i _ => n - (intOf i).toNat)
  case atStart => exact ⟨0, by omega, rfl, rfl, rfl⟩
  case round =>
    obtain ⟨j, hj, rfl, rfl, rfl⟩ := hrel
    by_cases hlt : j < n
    · obtain ⟨b, o, rfl, _, hc⟩ := h.get (k := j) hlt (u8s_get l j (by rw [HL.out]; exact hlt))
      have hbd := numL_bound (l.take j)
      have hp : (256 : Int) ^ (l.take j).length ≤ 16777216 := by
        have : (l.take j).length ≤ 3 := by rw [List.length_take]; omega
        generalize (l.take j).length = q at this
        obtain rfl | rfl | rfl | rfl : q = 0 ∨ q = 1 ∨ q = 2 ∨ q = 3 := by omega
        all_goals decide
      have hstep : numL (l.take (j + 1)) = numL (l.take j) * 256 + ((l.getD j 0).toNat : Int) := by
        rw [List.take_add_one, List.getElem?_eq_getElem (by rw [HL.out]; exact hlt), Option.toList_some, numL_push]
        simp [List.getD_eq_getElem?_getD, List.getElem?_eq_getElem (show j < l.length by rw [HL.out]; exact hlt)]
      have HS := hid hstep
      clear hstep
      generalize l.getD j 0 = x at *
      obtain ⟨m, hm⟩ : ∃ m : Nat, numL (l.take j) = (m : Int) := ⟨(numL (l.take j)).toNat, by omega⟩
      rw [hm] at hbd HS ⊢
      have HM := hid hm
      clear hm
      have hm2 : m < 16777216 := by omega
      have hxb := x.isLt
      have hc' : wr.cell? ⟨b, o + j, none⟩ = some (.int .u8 (x.toNat : Int)) := hc
      clear hc hbd hp
      go_wp2_with fail
      rw [or_add m _ hm2 hxb, ← HS.out]
      exact ⟨⟨j + 1, by omega, by go_num, rfl, trivial⟩, by simp [intOf]; omega⟩
    · obtain rfl : j = n := by omega
      have ht := hid (show numL (l.take j) = r by rw [List.take_of_length_le (by rw [HL.out]; exact Nat.le_refl _)]; exact HR.out)
      rw [ht.out]
      go_wp2_with fail
      go_ret
      exact ⟨rfl, rfl⟩
theorem number_to (base : Nat) (A : Option Addr) (n c : Nat) (l : List Byte) (x : Int) (k : Nat) (w : World) (m : Nat) (L : List Byte) (hm : n + k = m) (hL : l ++ highL k x = L) (ho : w.ownsRow base 5 1 (.slice A n c) n (l.map bv8)) (hn : n ≤ 1048576) (hb : base ≤ w.heap.size) (hx : -9223372036854775808 ≤ x ∧ x ≤ 9223372036854775807) (hk : k ≤ 7) :
    Calls Tryz.prog 102 #[.slice A n c, .int .i64 x, .int .i64 k] w fun e w' => ∃ A' c', e = .returned (.slice A' m c') ∧ w'.ownsRow base 5 1 (.slice A' m c') m (L.map bv8) ∧ Below base w w' := by
  subst hm hL
  exact number_any base A n c l x k w ho hn hb hx hk
theorem high_to (base : Nat) (A : Option Addr) (n c : Nat) (l : List Byte) (x : Int) (k : Nat) (w : World) (m : Nat) (L : List Byte) (hm : n + k = m) (hL : l ++ highL k x = L) (ho : w.ownsRow base 5 1 (.slice A n c) n (l.map bv8)) (hn : n ≤ 1048576) (hb : base ≤ w.heap.size) (hx : -9223372036854775808 ≤ x ∧ x ≤ 9223372036854775807) (hk : k ≤ 7) :
    Calls Tryz.prog 75 #[.slice A n c, .int .i64 x, .int .i64 k] w fun e w' => ∃ A' c', e = .returned (.slice A' m c') ∧ w'.ownsRow base 5 1 (.slice A' m c') m (L.map bv8) ∧ Below base w w' := by
  subst hm hL
  exact high_any base A n c l x k w ho hn hb hx hk
theorem _root_.Wells.Sl.sub {w : World} {B n bx ox : Nat} {l : List Byte} (h : Sl w B 1 (some ⟨bx, ox, none⟩) n (l.map bv8)) (k m : Nat) (hkm : k + m ≤ n) : Sl w B 1 (some ⟨bx, ox + k, none⟩) m (((l.drop k).take m).map bv8) := by
  have hl : l.length = n := by have := h.len; simpa using this
  refine ⟨by simp; omega, fun hm => ?_⟩
  obtain ⟨b, o, e, hb, hc⟩ := h.at_ (by omega)
  injection e with e
  injection e with e1 e2
  subst e1 e2
  refine ⟨bx, ox + k, rfl, hb, fun j u hu => ?_⟩
  have hj : j < m := by
    have := (List.getElem?_eq_some_iff.1 hu).1
    simp at this
    omega
  have := hc (k + j) u (by rw [← hu]; simp [List.getElem?_map, List.getElem?_take, hj, List.getElem?_drop])
  rw [← Nat.add_assoc] at this
  exact this
theorem told_at {B : Nat} {l : List Byte} {n bx ox : Nat} {w : World} (h : Sl w B 1 (some ⟨bx, ox, none⟩) n (l.map bv8)) (k m c : Nat) (hkm : k + m ≤ n) (hm : m ≤ 4) (r : Int) (hr : numL ((l.drop k).take m) = r) :
    Calls Tryz.prog 80 #[.slice (some ⟨bx, ox + k, none⟩) m c] w fun e w' => e = .returned (.int .i64 r) ∧ w' = w :=
  told_any B _ _ m c w (h.sub k m hkm) hm r hr
theorem refnum_at {B : Nat} {l : List Byte} {n bx ox : Nat} {w : World} (h : Sl w B 1 (some ⟨bx, ox, none⟩) n (l.map bv8)) (k m c : Nat) (hkm : k + m ≤ n) (hm : m ≤ 4) (r : Int) (hr : numL ((l.drop k).take m) = r) :
    Calls Tryz.prog 124 #[.slice (some ⟨bx, ox + k, none⟩) m c] w fun e w' => e = .returned (.int .i64 r) ∧ w' = w :=
  refnum_any B _ _ m c w (h.sub k m hkm) hm r hr
end Go.Proofs.YtlfmfhdgnmchgaaGreat

namespace Wells
open Go Go.RowKit
def mani0 : Mani := ⟨1, 0, ⟨1, 1, 1⟩, 0, [3], []⟩
theorem mani0_64 : M64 mani0 := ⟨by unfold i64; decide, by unfold i64; decide, by unfold i64; decide, by unfold i64; decide, by unfold i64; decide, by unfold i64; decide, fun z h => by unfold i64; simp [mani0] at h; omega, fun e h => by cases h⟩
theorem mani0_nm : ∀ e ∈ mani0.objs, e.name.length ≤ 1048576 := fun e h => by cases h
theorem REs.nil_ (w : World) (B : Nat) (A : Option Addr) : REs w B A 0 [] [] := ⟨Sl.nil_, rfl, rfl, fun i hi => absurd hi (by omega)⟩
theorem mani0_rm {w : World} {B g c : Nat} {A : Option Addr} (h : Sl w B 1 (some ⟨g, 0, none⟩) 1 [.int .i64 3]) (hc : 1 ≤ c ∧ c ≤ 9223372036854775807) : RM w B mani0 (some ⟨g, 0, none⟩) 1 c A 0 0 [] :=
  ⟨h, rfl, hc, REs.nil_ _ _ _, by omega⟩
end Wells
namespace Go.Proofs.YtlfmfhdgnmchgaaGreat
open Go.RowKit Wells
end Go.Proofs.YtlfmfhdgnmchgaaGreat

