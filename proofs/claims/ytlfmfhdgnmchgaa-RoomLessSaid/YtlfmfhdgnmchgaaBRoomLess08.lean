/- Rec Number Appd -/
import Derived.BigGuardPart
import Derived.Test.YtlfmfhdgnmchgaaBRoomLess02
import Derived.Test.YtlfmfhdgnmchgaaBRoomLess06
set_option maxRecDepth 20000
set_option linter.unusedSimpArgs false
set_option linter.unusedVariables false
namespace Go.Proofs.Ytlfmfhdgnmchgaa
open Go.RowKit Wells
theorem mayid_any (x : Int) (r : Bool) (w : World) (hr : decide (0 ≤ x ∧ x ≤ 65535) = r) : Calls Try.prog 49 #[.int .i64 x] w fun e w' => e = .returned (.bool r) ∧ w' = w := by
  have HR := hid hr
  clear hr
  go_enter Try.func49, Try.ntmps49
  go_wp2_with fail
  all_goals (go_ret; exact ⟨ret_bool (by rw [← HR.out]; first | (refine decide_eq_decide.2 ?_; omega) | (refine (decide_eq_false ?_).symm; omega)), rfl⟩)
theorem int_beq (a b : Int) : (a == b) = decide (a = b) := by
  by_cases h : a = b
  · subst h; simp
  · simp [h]
theorem recmay_any (r : Rec) (A : Option Addr) (n c : Nat) (b : Bool) (w : World) (hn : r.D.length = n) (hb : r.may = b) : Calls Try.prog 65 #[r.val (.slice A n c)] w fun e w' => e = .returned (.bool b) ∧ Below w.heap.size w w' := by
  obtain ⟨O, B, I, ⟨K, H, S⟩, s, D⟩ := r
  unfold Rec.val
  have HB := hid hb
  unfold Rec.may at HB
  dsimp only at *
  have HN := hid hn
  have hbi := s.isLt
  clear hn hb
  go_enter Try.func65, Try.ntmps65
  go_wp2_with fail
  all_goals try (go_ret; exact ⟨ret_bool (by rw [← HB.out]; refine (decide_eq_false ?_).symm; omega), (Below.refl _ _).alloc (Nat.le_refl _) _⟩)
  obtain ⟨pm, hpm⟩ : ∃ b, Par.may ⟨K, H, S⟩ = b := ⟨_, rfl⟩
  have HPM := hid hpm
  have hr0 := Row.new w 53 #[.int .i64 O, .int .i64 B, .int .i64 I, .int .i64 K, .int .i64 H, .int .i64 S, .int .u32 (s.toNat : Int), .slice A n c]
  have hb0 : Below w.heap.size w (w.alloc (.cells #[.int .i64 O, .int .i64 B, .int .i64 I, .int .i64 K, .int .i64 H, .int .i64 S, .int .u32 (s.toNat : Int), .slice A n c] 53)) := (Below.refl _ _).alloc (Nat.le_refl _) _
  have hlt := hr0.lt
  generalize w.alloc (.cells #[.int .i64 O, .int .i64 B, .int .i64 I, .int .i64 K, .int .i64 H, .int .i64 S, .int .u32 (s.toNat : Int), .slice A n c] 53) = w1 at *
  refine (premay_any ⟨K, H, S⟩ pm w1 hpm).mono ?_
  rintro e w2 ⟨rfl, hb2⟩
  have hr2 := hr0.below hb2 hlt
  have hc5 := hr2.cell 5
  have hc7 := hr2.cell 7
  have bt := hb0.trans (hb2.mono (by omega))
  simp only [List.getElem?_cons_succ, List.getElem?_cons_zero] at hc5 hc7
  clear hpm hr0 hr2 hb2 hb0
  cases pm
  · go_wp2_with fail
    go_ret
    exact ⟨ret_bool (by rw [← HB.out]; refine (decide_eq_false fun h => ?_).symm; have := HPM.out; simp [this] at h), bt⟩
  · go_wp2_with fail
    go_ret
    exact ⟨ret_bool (by rw [← HB.out, HPM.out, HN.out, int_beq]; refine decide_eq_decide.2 ⟨fun h => ⟨by omega, by omega, by omega, by omega, by omega, by omega, rfl, h⟩, fun h => h.2.2.2.2.2.2.2⟩), bt⟩
theorem refrecmay_any (r : Rec) (A : Option Addr) (n c : Nat) (b : Bool) (w : World) (hn : r.D.length = n) (hb : r.may = b) : Calls Try.prog 37 #[r.val (.slice A n c)] w fun e w' => e = .returned (.bool b) ∧ Below w.heap.size w w' := by
  obtain ⟨O, B, I, ⟨K, H, S⟩, s, D⟩ := r
  unfold Rec.val
  have HB := hid hb
  unfold Rec.may at HB
  dsimp only at *
  have HN := hid hn
  have hbi := s.isLt
  clear hn hb
  go_enter Try.func37, Try.ntmps37
  go_wp2_with fail
  all_goals try (go_ret; exact ⟨ret_bool (by rw [← HB.out]; refine (decide_eq_false ?_).symm; omega), (Below.refl _ _).alloc (Nat.le_refl _) _⟩)
  refine (mayid_any I _ _ rfl).mono ?_
  rintro e w1 ⟨rfl, rfl⟩
  by_cases hI : 0 ≤ I ∧ I ≤ 65535
  rotate_left
  · rw [decide_eq_false hI]
    go_wp2_with fail
    go_ret
    exact ⟨ret_bool (by rw [← HB.out]; refine (decide_eq_false ?_).symm; omega), (Below.refl _ _).alloc (Nat.le_refl _) _⟩
  rw [decide_eq_true hI]
  go_wp2_with fail
  obtain ⟨pm, hpm⟩ : ∃ b, Par.may ⟨K, H, S⟩ = b := ⟨_, rfl⟩
  have HPM := hid hpm
  have hr0 := Row.new w 53 #[.int .i64 O, .int .i64 B, .int .i64 I, .int .i64 K, .int .i64 H, .int .i64 S, .int .u32 (s.toNat : Int), .slice A n c]
  have hb0 : Below w.heap.size w (w.alloc (.cells #[.int .i64 O, .int .i64 B, .int .i64 I, .int .i64 K, .int .i64 H, .int .i64 S, .int .u32 (s.toNat : Int), .slice A n c] 53)) := (Below.refl _ _).alloc (Nat.le_refl _) _
  have hlt := hr0.lt
  generalize w.alloc (.cells #[.int .i64 O, .int .i64 B, .int .i64 I, .int .i64 K, .int .i64 H, .int .i64 S, .int .u32 (s.toNat : Int), .slice A n c] 53) = w1 at *
  refine (refmay_any ⟨K, H, S⟩ pm w1 hpm).mono ?_
  rintro e w2 ⟨rfl, hb2⟩
  have hr2 := hr0.below hb2 hlt
  have hc5 := hr2.cell 5
  have hc7 := hr2.cell 7
  have bt := hb0.trans (hb2.mono (by omega))
  simp only [List.getElem?_cons_succ, List.getElem?_cons_zero] at hc5 hc7
  clear hpm hr0 hr2 hb2 hb0
  cases pm
  · go_wp2_with fail
    go_ret
    exact ⟨ret_bool (by rw [← HB.out]; refine (decide_eq_false fun h => ?_).symm; have := HPM.out; simp [this] at h), bt⟩
  · go_wp2_with fail
    go_ret
    exact ⟨ret_bool (by rw [← HB.out, HPM.out, HN.out, int_beq]; refine decide_eq_decide.2 ⟨fun h => ⟨by omega, by omega, by omega, by omega, by omega, by omega, rfl, h⟩, fun h => h.2.2.2.2.2.2.2⟩), bt⟩
end Go.Proofs.Ytlfmfhdgnmchgaa

namespace Go.Proofs.Ytlfmfhdgnmchgaa
open Go.RowKit Wells
theorem own_byteI {w : World} {base n : Nat} {t : TypeId} {v : Value} {l : List Byte} {E : Int} (h : w.ownsRow base t 1 v n (l.map bv8 ++ [.int .u8 E])) {b : Byte} (hb : (b.toNat : Int) = E) : w.ownsRow base t 1 v n ((l ++ [b]).map bv8) := by
  rw [List.map_append, List.map_cons, List.map_nil, bv8, hb]; exact h
theorem or_add (m x : Nat) (hm : m < 16777216) (hx : x < 256) : bits .or .i64 ((m : Int) * 256) (x : Int) = (m : Int) * 256 + (x : Int) := by
  show IntKind.i64.wrap ((BitVec.ofInt 64 ((m : Int) * 256) ||| BitVec.ofInt 64 (x : Int)).toNat : Int) = _
  have e : (m : Int) * 256 = ((m * 256 : Nat) : Int) := by omega
  rw [e, BitVec.ofInt_natCast, BitVec.ofInt_natCast, BitVec.toNat_or, BitVec.toNat_ofNat, BitVec.toNat_ofNat, Nat.mod_eq_of_lt (by omega), Nat.mod_eq_of_lt (by omega)]
  have h := Nat.two_pow_add_eq_or_of_lt (i := 8) (b := x) (by omega) m
  rw [show m * 256 = 2 ^ 8 * m by omega, ← h, IntKind.wrap_i64]
  omega
theorem number_any (base : Nat) (A : Option Addr) (n c : Nat) (l : List Byte) (x : Int) (k : Nat) (w : World) (ho : w.ownsRow base 5 1 (.slice A n c) n (l.map bv8)) (hn : n ≤ 1048576) (hb : base ≤ w.heap.size) (hx : -9223372036854775808 ≤ x ∧ x ≤ 9223372036854775807) (hk : k ≤ 7) :
    Calls Try.prog 66 #[.slice A n c, .int .i64 x, .int .i64 k] w fun e w' => ∃ A' c', e = .returned (.slice A' (n + k) c') ∧ w'.ownsRow base 5 1 (.slice A' (n + k) c') (n + k) ((l ++ highL k x).map bv8) ∧ Below base w w' := by
  obtain ⟨i0, hi, hz0, hz1, hz2⟩ := info_parts infoB
  go_enter Try.func66, Try.ntmps66
  go_wp2_with fail
  go_loopw [0, 7] (fun v i wr => ∃ (j : Nat) (A : Option Addr) (m c : Nat) (l' : List Byte), j ≤ k ∧ m + j = n + k ∧ i = .int .i64 ((j : Int) - 1) ∧ v = .slice A m c ∧ l' ++ highL j x = l ++ highL k x ∧ wr.ownsRow base 5 1 (.slice A m c) m (l'.map bv8) ∧ Below base w wr) (fun _ i _ => (intOf i + 1).toNat)
  case atStart => exact ⟨k, A, n, c, l, by omega, rfl, rfl, rfl, rfl, ho, Below.refl _ _⟩
  case round =>
    obtain ⟨j, A, m, c, l', hj, hm, rfl, rfl, hl, ho, hbw⟩ := hrel
    have hsw : base ≤ wr.heap.size := by have := hbw.size; omega
    by_cases hlt : 0 < j
    · obtain ⟨i, rfl⟩ : ∃ i, j = i + 1 := ⟨j - 1, by omega⟩
      have hHL := hid hl
      clear hl
      have hji : ((i + 1 : Nat) : Int) - 1 = (i : Int) := by omega
      rw [hji]
      have hbt := hid (hiB_toNat x i)
      have hw8 : IntKind.i64.wrap (8 * (i : Int)) = 8 * (i : Int) := by rw [IntKind.wrap_i64]; omega
      go_wp2_with (at_builtin; go_must (refine wpl_append rfl (.tmp 14) (.tmp 20) 45 rfl base 5 i0 (.int .u8 0) 1 1 Try.underlying45 hi hz0 hz1 hz2 rfl (by omega) (.slice A m c) m _ rfl (ho.alloc _) _ _ 1 1 _ rfl (Sl.fresh _ _ _ _ 1 rfl) (by simp [Value.oneCell']) (m + 1) (by omega) _ rfl (by omega) (by omega) (by simp; omega) ?_); intro A2 c2 w2 o2 g2 _)
      have b2 : Below base w w2 := below_own (hbw.alloc hsw _) (ho.alloc _) g2 (Nat.le_refl _) (by simp; omega)
      go_roundw
      case rel => exact ⟨i, A2, m + 1, c2, l' ++ [hiB x i], by omega, by omega, rfl, rfl, by rw [← hHL.out, List.append_assoc]; rfl, own_byteI o2 hbt.out, b2⟩
      case measure => simp [intOf]
    · have hj0 : j = 0 := by omega
      subst hj0
      obtain rfl : m = n + k := by omega
      have hneg : ¬ (0 : Int) ≤ -1 := by omega
      have hl2 : l' = l ++ highL k x := by simpa [highL] using hl
      have HL := hid hl2
      clear hl hl2
      go_wp2_with fail
      go_ret
      exact ⟨A, c, rfl, by rw [← List.map_append, ← HL.out]; exact ho, hbw⟩
theorem high_any (base : Nat) (A : Option Addr) (n c : Nat) (l : List Byte) (x : Int) (k : Nat) (w : World) (ho : w.ownsRow base 5 1 (.slice A n c) n (l.map bv8)) (hn : n ≤ 1048576) (hb : base ≤ w.heap.size) (hx : -9223372036854775808 ≤ x ∧ x ≤ 9223372036854775807) (hk : k ≤ 7) :
    Calls Try.prog 36 #[.slice A n c, .int .i64 x, .int .i64 k] w fun e w' => ∃ A' c', e = .returned (.slice A' (n + k) c') ∧ w'.ownsRow base 5 1 (.slice A' (n + k) c') (n + k) ((l ++ highL k x).map bv8) ∧ Below base w w' := by
  obtain ⟨i0, hi, hz0, hz1, hz2⟩ := info_parts infoB
  go_enter Try.func36, Try.ntmps36
  go_wp2_with fail
  go_loopw [0, 7] (fun v i wr => ∃ (j : Nat) (A : Option Addr) (m c : Nat) (l' : List Byte), j ≤ k ∧ m + j = n + k ∧ i = .int .i64 ((j : Int) - 1) ∧ v = .slice A m c ∧ l' ++ highL j x = l ++ highL k x ∧ wr.ownsRow base 5 1 (.slice A m c) m (l'.map bv8) ∧ Below base w wr) (fun _ i _ => (intOf i + 1).toNat)
  case atStart => exact ⟨k, A, n, c, l, by omega, rfl, rfl, rfl, rfl, ho, Below.refl _ _⟩
  case round =>
    obtain ⟨j, A, m, c, l', hj, hm, rfl, rfl, hl, ho, hbw⟩ := hrel
    have hsw : base ≤ wr.heap.size := by have := hbw.size; omega
    by_cases hlt : 0 < j
    · obtain ⟨i, rfl⟩ : ∃ i, j = i + 1 := ⟨j - 1, by omega⟩
      have hHL := hid hl
      clear hl
      have hji : ((i + 1 : Nat) : Int) - 1 = (i : Int) := by omega
      rw [hji]
      have hbt := hid (hiB_toNat x i)
      have hw8 : IntKind.i64.wrap (8 * (i : Int)) = 8 * (i : Int) := by rw [IntKind.wrap_i64]; omega
      go_wp2_with (at_builtin; go_must (refine wpl_append rfl (.tmp 14) (.tmp 20) 45 rfl base 5 i0 (.int .u8 0) 1 1 Try.underlying45 hi hz0 hz1 hz2 rfl (by omega) (.slice A m c) m _ rfl (ho.alloc _) _ _ 1 1 _ rfl (Sl.fresh _ _ _ _ 1 rfl) (by simp [Value.oneCell']) (m + 1) (by omega) _ rfl (by omega) (by omega) (by simp; omega) ?_); intro A2 c2 w2 o2 g2 _)
      have b2 : Below base w w2 := below_own (hbw.alloc hsw _) (ho.alloc _) g2 (Nat.le_refl _) (by simp; omega)
      go_roundw
      case rel => exact ⟨i, A2, m + 1, c2, l' ++ [hiB x i], by omega, by omega, rfl, rfl, by rw [← hHL.out, List.append_assoc]; rfl, own_byteI o2 hbt.out, b2⟩
      case measure => simp [intOf]
    · have hj0 : j = 0 := by omega
      subst hj0
      obtain rfl : m = n + k := by omega
      have hneg : ¬ (0 : Int) ≤ -1 := by omega
      have hl2 : l' = l ++ highL k x := by simpa [highL] using hl
      have HL := hid hl2
      clear hl hl2
      go_wp2_with fail
      go_ret
      exact ⟨A, c, rfl, by rw [← List.map_append, ← HL.out]; exact ho, hbw⟩
theorem told_any (B : Nat) (A : Option Addr) (l : List Byte) (n c : Nat) (w : World) (h : Sl w B 1 A n (l.map bv8)) (hn : n ≤ 4) (r : Int) (hr : numL l = r) :
    Calls Try.prog 75 #[.slice A n c] w fun e w' => e = .returned (.int .i64 r) ∧ w' = w := by
  have hl : l.length = n := by have := h.len; simpa using this
  have HL := hid hl
  have HR := hid hr
  clear hl hr
  go_enter Try.func75, Try.ntmps75
  go_wp2_with fail
  go_loopw [3, 8] (fun v i wr => ∃ j : Nat, j ≤ n ∧ i = .int .i64 j ∧ v = .int .i64 (numL (l.take j)) ∧ wr = w) (fun _ i _ => n - (intOf i).toNat)
  case atStart => exact ⟨0, by omega, rfl, rfl, rfl⟩
  case round =>
    obtain ⟨j, hj, rfl, rfl, rfl⟩ := hrel
    by_cases hlt : j < n
    · obtain ⟨b, o, rfl, _, hc⟩ := h.get (k := j) hlt (u8s_get l j (by rw [HL.out]; exact hlt))
      have hbd := numL_bound (l.take j)
      have hp : (256 : Int) ^ (l.take j).length ≤ 16777216 := by
        have : (l.take j).length ≤ 3 := by rw [List.length_take]; omega
        generalize (l.take j).length = q at this
        obtain rfl | rfl | rfl | rfl : q = 0 ∨ q = 1 ∨ q = 2 ∨ q = 3 := by omega
        all_goals decide
      have hstep : numL (l.take (j + 1)) = numL (l.take j) * 256 + ((l.getD j 0).toNat : Int) := by
        rw [List.take_add_one, List.getElem?_eq_getElem (by rw [HL.out]; exact hlt), Option.toList_some, numL_push]
        simp [List.getD_eq_getElem?_getD, List.getElem?_eq_getElem (show j < l.length by rw [HL.out]; exact hlt)]
      have HS := hid hstep
      clear hstep
      generalize l.getD j 0 = x at *
      obtain ⟨m, hm⟩ : ∃ m : Nat, numL (l.take j) = (m : Int) := ⟨(numL (l.take j)).toNat, by omega⟩
      rw [hm] at hbd HS ⊢
      have HM := hid hm
      clear hm
      have hm2 : m < 16777216 := by omega
      have hxb := x.isLt
      have hc' : wr.cell? ⟨b, o + j, none⟩ = some (.int .u8 (x.toNat : Int)) := hc
      clear hc hbd hp
      go_wp2_with fail
      rw [or_add m _ hm2 hxb, ← HS.out]
      exact ⟨⟨j + 1, by omega, by go_num, rfl, trivial⟩, by simp [intOf]; omega⟩
    · obtain rfl : j = n := by omega
      have ht := hid (show numL (l.take j) = r by rw [List.take_of_length_le (by rw [HL.out]; exact Nat.le_refl _)]; exact HR.out)
      rw [ht.out]
      go_wp2_with fail
      go_ret
      exact ⟨rfl, rfl⟩
theorem number_to (base : Nat) (A : Option Addr) (n c : Nat) (l : List Byte) (x : Int) (k : Nat) (w : World) (m : Nat) (L : List Byte) (hm : n + k = m) (hL : l ++ highL k x = L) (ho : w.ownsRow base 5 1 (.slice A n c) n (l.map bv8)) (hn : n ≤ 1048576) (hb : base ≤ w.heap.size) (hx : -9223372036854775808 ≤ x ∧ x ≤ 9223372036854775807) (hk : k ≤ 7) :
    Calls Try.prog 66 #[.slice A n c, .int .i64 x, .int .i64 k] w fun e w' => ∃ A' c', e = .returned (.slice A' m c') ∧ w'.ownsRow base 5 1 (.slice A' m c') m (L.map bv8) ∧ Below base w w' := by
  subst hm hL
  exact number_any base A n c l x k w ho hn hb hx hk
theorem high_to (base : Nat) (A : Option Addr) (n c : Nat) (l : List Byte) (x : Int) (k : Nat) (w : World) (m : Nat) (L : List Byte) (hm : n + k = m) (hL : l ++ highL k x = L) (ho : w.ownsRow base 5 1 (.slice A n c) n (l.map bv8)) (hn : n ≤ 1048576) (hb : base ≤ w.heap.size) (hx : -9223372036854775808 ≤ x ∧ x ≤ 9223372036854775807) (hk : k ≤ 7) :
    Calls Try.prog 36 #[.slice A n c, .int .i64 x, .int .i64 k] w fun e w' => ∃ A' c', e = .returned (.slice A' m c') ∧ w'.ownsRow base 5 1 (.slice A' m c') m (L.map bv8) ∧ Below base w w' := by
  subst hm hL
  exact high_any base A n c l x k w ho hn hb hx hk
theorem _root_.Wells.Sl.sub {w : World} {B n bx ox : Nat} {l : List Byte} (h : Sl w B 1 (some ⟨bx, ox, none⟩) n (l.map bv8)) (k m : Nat) (hkm : k + m ≤ n) : Sl w B 1 (some ⟨bx, ox + k, none⟩) m (((l.drop k).take m).map bv8) := by
  have hl : l.length = n := by have := h.len; simpa using this
  refine ⟨by simp; omega, fun hm => ?_⟩
  obtain ⟨b, o, e, hb, hc⟩ := h.at_ (by omega)
  injection e with e
  injection e with e1 e2
  subst e1 e2
  refine ⟨bx, ox + k, rfl, hb, fun j u hu => ?_⟩
  have hj : j < m := by
    have := (List.getElem?_eq_some_iff.1 hu).1
    simp at this
    omega
  have := hc (k + j) u (by rw [← hu]; simp [List.getElem?_map, List.getElem?_take, hj, List.getElem?_drop])
  rw [← Nat.add_assoc] at this
  exact this
theorem told_at {B : Nat} {l : List Byte} {n bx ox : Nat} {w : World} (h : Sl w B 1 (some ⟨bx, ox, none⟩) n (l.map bv8)) (k m c : Nat) (hkm : k + m ≤ n) (hm : m ≤ 4) (r : Int) (hr : numL ((l.drop k).take m) = r) :
    Calls Try.prog 75 #[.slice (some ⟨bx, ox + k, none⟩) m c] w fun e w' => e = .returned (.int .i64 r) ∧ w' = w :=
  told_any B _ _ m c w (h.sub k m hkm) hm r hr
end Go.Proofs.Ytlfmfhdgnmchgaa

namespace Wells
open Go Go.RowKit
/-- w' is w with new blocks and writes to v's row; v' has the cells xs, in v's row or a new one -/
structure Appd (t : TypeId) (base : Nat) (w w' : World) (v v' : Value) (n : Nat) (xs : List Value) : Prop where
  own : w'.ownsRow base t 1 v' n xs
  grow : w.grownBy w' v.ownBlock
  wh : v'.ownBlock = v.ownBlock ∨ ∃ g, v'.ownBlock = some g ∧ w.heap.size ≤ g
theorem grown_trans {w w1 w2 : World} {r r1 : Option Nat} (h : w.grownBy w1 r) (h1 : w1.grownBy w2 r1) (hr : r1 = r ∨ ∃ g, r1 = some g ∧ w.heap.size ≤ g) : w.grownBy w2 r :=
  ⟨h1.os.trans h.os, h1.tape.trans h.tape, h1.output.trans h.output, Nat.le_trans h.size h1.size, fun k hk hne => by
    refine (h1.block k (Nat.lt_of_lt_of_le hk h.size) ?_).trans (h.block k hk hne)
    rcases hr with rfl | ⟨g, rfl, hg⟩
    · exact hne
    · intro e; injection e with e; omega⟩
theorem grown_alloc {w w1 : World} {r : Option Nat} (h : w.grownBy w1 r) (o : Obj) : w.grownBy (w1.alloc o) r :=
  ⟨h.os, h.tape, h.output, by have := h.size; simp; omega, fun k hk hne => (Below.heap_alloc w1 o k (Nat.lt_of_lt_of_le hk h.size)).trans (h.block k hk hne)⟩
theorem grown_below {w w1 w2 : World} {r : Option Nat} (h : w.grownBy w1 r) (hb : Below w1.heap.size w1 w2) : w.grownBy w2 r :=
  ⟨hb.os.trans h.os, hb.tape.trans h.tape, hb.output.trans h.output, Nat.le_trans h.size hb.size, fun k hk hne => (hb.block k (Nat.lt_of_lt_of_le hk h.size)).trans (h.block k hk hne)⟩
theorem Appd.refl {t : TypeId} {base n : Nat} {w : World} {v : Value} {xs : List Value} (h : w.ownsRow base t 1 v n xs) : Appd t base w w v v n xs := ⟨h, ⟨rfl, rfl, rfl, Nat.le_refl _, fun _ _ _ => rfl⟩, .inl rfl⟩
theorem Appd.trans {t : TypeId} {base n n1 : Nat} {w w1 w2 : World} {v v1 v2 : Value} {xs xs1 : List Value} (h : Appd t base w w1 v v1 n xs) (h1 : Appd t base w1 w2 v1 v2 n1 xs1) : Appd t base w w2 v v2 n1 xs1 := by
  refine ⟨h1.own, grown_trans h.grow h1.grow h.wh, ?_⟩
  rcases h1.wh with e | ⟨g, e, hg⟩
  · rw [e]; exact h.wh
  · exact .inr ⟨g, e, Nat.le_trans h.grow.size hg⟩
/-- one append, behind what a block was made for -/
theorem Appd.step {t : TypeId} {base n n1 : Nat} {w w1 w2 : World} {v v1 v2 : Value} {xs xs1 : List Value} (h : Appd t base w w1 v v1 n xs) (o : Obj) (ho : w2.ownsRow base t 1 v2 n1 xs1) (hg : (w1.alloc o).grownBy w2 v1.ownBlock)
    (hw : v2.ownBlock = v1.ownBlock ∨ v2.ownBlock = some (w1.alloc o).heap.size) : Appd t base w w2 v v2 n1 xs1 := by
  have hs := h.grow.size
  refine ⟨ho, grown_trans (grown_alloc h.grow o) hg h.wh, ?_⟩
  rcases hw with e | e
  · rw [e]; exact h.wh
  · exact .inr ⟨_, e, by simp; omega⟩
theorem Appd.step0 {t : TypeId} {base n n1 : Nat} {w w1 w2 : World} {v v1 v2 : Value} {xs xs1 : List Value} (h : Appd t base w w1 v v1 n xs) (ho : w2.ownsRow base t 1 v2 n1 xs1) (hg : w1.grownBy w2 v1.ownBlock)
    (hw : v2.ownBlock = v1.ownBlock ∨ v2.ownBlock = some w1.heap.size) : Appd t base w w2 v v2 n1 xs1 := by
  have hs := h.grow.size
  refine ⟨ho, grown_trans h.grow hg h.wh, ?_⟩
  rcases hw with e | e
  · rw [e]; exact h.wh
  · exact .inr ⟨_, e, by omega⟩
/-- blocks made meanwhile -/
theorem Appd.more {t : TypeId} {base n : Nat} {w w1 w2 : World} {v v1 : Value} {xs : List Value} (h : Appd t base w w1 v v1 n xs) (hb : Below w1.heap.size w1 w2) : Appd t base w w2 v v1 n xs :=
  ⟨h.own.kept (show w1.grownBy w2 none from ⟨hb.os, hb.tape, hb.output, hb.size, fun k hk _ => hb.block k hk⟩) (by cases v1.ownBlock <;> simp), grown_below h.grow hb, h.wh⟩
theorem Appd.below {t : TypeId} {base n : Nat} {w w1 : World} {v v1 : Value} {xs : List Value} (h : Appd t base w w1 v v1 n xs) (hv : ∀ k, v.ownBlock = some k → base ≤ k) (hb : base ≤ w.heap.size) : Below base w w1 :=
  (Below.refl base w).grown h.grow hb hv
/-- a block of another type stays -/
theorem Row.appd {t t' : TypeId} {base n g : Nat} {w w1 : World} {v v1 : Value} {xs cs ys : List Value} {m : Nat} (h : Row w g t' cs) (hv : w.ownsRow base t 1 v m ys) (ha : Appd t base w w1 v v1 n xs) (hne : t ≠ t') : Row w1 g t' cs := by
  refine h.grown ha.grow ?_
  rcases hv.2 with ⟨rfl, _⟩ | ⟨g', cap, cur, rfl, _, hh, _⟩
  · intro e; cases e
  · intro e
    injection e with e
    subst e
    unfold Row at h
    rw [h] at hh
    injection hh with hh
    injection hh with _ e2 _
    exact hne e2.symm
theorem Row.appd1 {t t' : TypeId} {base g n : Nat} {w w1 : World} {v : Value} {cs ys : List Value} (h : Row w g t' cs) (hv : w.ownsRow base t 1 v n ys) (hg : w.grownBy w1 v.ownBlock) (hne : t ≠ t') : Row w1 g t' cs := by
  refine h.grown hg ?_
  rcases hv.2 with ⟨rfl, _⟩ | ⟨g', cap, cur, rfl, _, hh, _⟩
  · intro e; cases e
  · intro e
    injection e with e
    subst e
    unfold Row at h
    rw [h] at hh
    injection hh with hh
    injection hh with _ e2 _
    exact hne e2.symm
theorem _root_.Go.World.ownsRow.drew_ {base size n : Nat} {w : World} {e : TypeId} {v : Value} {xs : List Value} (h : w.ownsRow base e size v n xs) : w.drew.ownsRow base e size v n xs := h
theorem Appd.drew_ {t : TypeId} {base n : Nat} {w w1 : World} {v v1 : Value} {xs : List Value} (h : Appd t base w w1 v v1 n xs) : Appd t base w w1.drew v v1 n xs := ⟨h.own, ⟨h.grow.os, h.grow.tape, h.grow.output, h.grow.size, h.grow.block⟩, h.wh⟩
end Wells
namespace Go.Proofs.Ytlfmfhdgnmchgaa
open Go.RowKit Wells
theorem own_byteM {w : World} {base n : Nat} {t : TypeId} {v : Value} {l : List Byte} {E : Int} (h : w.ownsRow base t 1 v n (l.map bv8 ++ [.int .u8 E])) {b : Byte} (hb : (b.toNat : Int) = E) : w.ownsRow base t 1 v n ((l ++ [b]).map bv8) := by
  rw [List.map_append, List.map_cons, List.map_nil, bv8, hb]; exact h
theorem mnumber_any (base : Nat) (A : Option Addr) (n c : Nat) (l : List Byte) (x : Int) (k : Nat) (w : World) (ho : w.ownsRow base 5 1 (.slice A n c) n (l.map bv8)) (hn : n ≤ 1048576) (hb : base ≤ w.heap.size) (hx : -9223372036854775808 ≤ x ∧ x ≤ 9223372036854775807) (hk : k ≤ 7) :
    Calls Try.prog 56 #[.slice A n c, .int .i64 x, .int .i64 k] w fun e w' => ∃ A' c', e = .returned (.slice A' (n + k) c') ∧ Appd 5 base w w' (.slice A n c) (.slice A' (n + k) c') (n + k) ((l ++ highL k x).map bv8) := by
  obtain ⟨i0, hi, hz0, hz1, hz2⟩ := info_parts infoB
  go_enter Try.func56, Try.ntmps56
  go_wp2_with fail
  go_loopw [0, 7] (fun v i wr => ∃ (j : Nat) (A1 : Option Addr) (m c1 : Nat) (l' : List Byte), j ≤ k ∧ m + j = n + k ∧ i = .int .i64 ((j : Int) - 1) ∧ v = .slice A1 m c1 ∧ l' ++ highL j x = l ++ highL k x ∧ Appd 5 base w wr (.slice A n c) (.slice A1 m c1) m (l'.map bv8)) (fun _ i _ => (intOf i + 1).toNat)
  case atStart => exact ⟨k, A, n, c, l, by omega, rfl, rfl, rfl, rfl, .refl ho⟩
  case round =>
    obtain ⟨j, A1, m, c1, l', hj, hm, rfl, rfl, hl, ha⟩ := hrel
    have hsw : base ≤ wr.heap.size := by have := ha.grow.size; omega
    by_cases hlt : 0 < j
    · obtain ⟨i, rfl⟩ : ∃ i, j = i + 1 := ⟨j - 1, by omega⟩
      have hHL := hid hl
      clear hl
      have hji : ((i + 1 : Nat) : Int) - 1 = (i : Int) := by omega
      rw [hji]
      have hbt := hid (hiB_toNat x i)
      have hw8 : IntKind.i64.wrap (8 * (i : Int)) = 8 * (i : Int) := by rw [IntKind.wrap_i64]; omega
      have HA := hid ha
      have ho1 := ha.own
      clear ha
      go_wp2_with (at_builtin; go_must (refine wpl_append rfl (.tmp 14) (.tmp 20) 45 rfl base 5 i0 (.int .u8 0) 1 1 Try.underlying45 hi hz0 hz1 hz2 rfl (by omega) (.slice A1 m c1) m _ rfl (ho1.alloc _) _ _ 1 1 _ rfl (Sl.fresh _ _ _ _ 1 rfl) (by simp [Value.oneCell']) (m + 1) (by omega) _ rfl (by omega) (by omega) (by simp; omega) ?_); intro A2 c2 w2 o2 g2 wh2)
      have ha2 := HA.out.step _ (own_byteM o2 hbt.out) g2 wh2
      go_roundw
      case rel => exact ⟨i, A2, m + 1, c2, l' ++ [hiB x i], by omega, by omega, rfl, rfl, by rw [← hHL.out, List.append_assoc]; rfl, ha2⟩
      case measure => simp [intOf]
    · have hj0 : j = 0 := by omega
      subst hj0
      obtain rfl : m = n + k := by omega
      have hneg : ¬ (0 : Int) ≤ -1 := by omega
      have hl2 : l' = l ++ highL k x := by simpa [highL] using hl
      have HL := hid hl2
      clear hl hl2
      go_wp2_with fail
      go_ret
      exact ⟨A1, c1, rfl, by rw [← List.map_append, ← HL.out]; exact ha⟩
theorem mhigh_any (base : Nat) (A : Option Addr) (n c : Nat) (l : List Byte) (x : Int) (k : Nat) (w : World) (ho : w.ownsRow base 5 1 (.slice A n c) n (l.map bv8)) (hn : n ≤ 1048576) (hb : base ≤ w.heap.size) (hx : -9223372036854775808 ≤ x ∧ x ≤ 9223372036854775807) (hk : k ≤ 7) :
    Calls Try.prog 36 #[.slice A n c, .int .i64 x, .int .i64 k] w fun e w' => ∃ A' c', e = .returned (.slice A' (n + k) c') ∧ Appd 5 base w w' (.slice A n c) (.slice A' (n + k) c') (n + k) ((l ++ highL k x).map bv8) := by
  obtain ⟨i0, hi, hz0, hz1, hz2⟩ := info_parts infoB
  go_enter Try.func36, Try.ntmps36
  go_wp2_with fail
  go_loopw [0, 7] (fun v i wr => ∃ (j : Nat) (A1 : Option Addr) (m c1 : Nat) (l' : List Byte), j ≤ k ∧ m + j = n + k ∧ i = .int .i64 ((j : Int) - 1) ∧ v = .slice A1 m c1 ∧ l' ++ highL j x = l ++ highL k x ∧ Appd 5 base w wr (.slice A n c) (.slice A1 m c1) m (l'.map bv8)) (fun _ i _ => (intOf i + 1).toNat)
  case atStart => exact ⟨k, A, n, c, l, by omega, rfl, rfl, rfl, rfl, .refl ho⟩
  case round =>
    obtain ⟨j, A1, m, c1, l', hj, hm, rfl, rfl, hl, ha⟩ := hrel
    have hsw : base ≤ wr.heap.size := by have := ha.grow.size; omega
    by_cases hlt : 0 < j
    · obtain ⟨i, rfl⟩ : ∃ i, j = i + 1 := ⟨j - 1, by omega⟩
      have hHL := hid hl
      clear hl
      have hji : ((i + 1 : Nat) : Int) - 1 = (i : Int) := by omega
      rw [hji]
      have hbt := hid (hiB_toNat x i)
      have hw8 : IntKind.i64.wrap (8 * (i : Int)) = 8 * (i : Int) := by rw [IntKind.wrap_i64]; omega
      have HA := hid ha
      have ho1 := ha.own
      clear ha
      go_wp2_with (at_builtin; go_must (refine wpl_append rfl (.tmp 14) (.tmp 20) 45 rfl base 5 i0 (.int .u8 0) 1 1 Try.underlying45 hi hz0 hz1 hz2 rfl (by omega) (.slice A1 m c1) m _ rfl (ho1.alloc _) _ _ 1 1 _ rfl (Sl.fresh _ _ _ _ 1 rfl) (by simp [Value.oneCell']) (m + 1) (by omega) _ rfl (by omega) (by omega) (by simp; omega) ?_); intro A2 c2 w2 o2 g2 wh2)
      have ha2 := HA.out.step _ (own_byteM o2 hbt.out) g2 wh2
      go_roundw
      case rel => exact ⟨i, A2, m + 1, c2, l' ++ [hiB x i], by omega, by omega, rfl, rfl, by rw [← hHL.out, List.append_assoc]; rfl, ha2⟩
      case measure => simp [intOf]
    · have hj0 : j = 0 := by omega
      subst hj0
      obtain rfl : m = n + k := by omega
      have hneg : ¬ (0 : Int) ≤ -1 := by omega
      have hl2 : l' = l ++ highL k x := by simpa [highL] using hl
      have HL := hid hl2
      clear hl hl2
      go_wp2_with fail
      go_ret
      exact ⟨A1, c1, rfl, by rw [← List.map_append, ← HL.out]; exact ha⟩
end Go.Proofs.Ytlfmfhdgnmchgaa

