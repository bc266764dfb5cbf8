/- Number RefReader ReadBack -/
import Derived.Test.YtnknjeipfjdjoaaBScanCounts02
import Derived.Test.YtnknjeipfjdjoaaBScanCounts03
import Derived.Test.YtnknjeipfjdjoaaBScanCounts09
import Derived.Test.YtnknjeipfjdjoaaBScanCounts16
set_option maxRecDepth 20000
namespace Go.Proofs.Ytnknjeipfjdjoaa
open Go.RowKit Wells
theorem own_byteI {w : World} {base n : Nat} {t : TypeId} {v : Value} {l : List Byte} {E : Int} (h : w.ownsRow base t 1 v n (l.map bv8 ++ [.int .u8 E])) {b : Byte} (hb : (b.toNat : Int) = E) : w.ownsRow base t 1 v n ((l ++ [b]).map bv8) := by
  rw [List.map_append, List.map_cons, List.map_nil, bv8, hb]; exact h
theorem or_add (m x : Nat) (hm : m < 16777216) (hx : x < 256) : bits .or .i64 ((m : Int) * 256) (x : Int) = (m : Int) * 256 + (x : Int) := by
  show IntKind.i64.wrap ((BitVec.ofInt 64 ((m : Int) * 256) ||| BitVec.ofInt 64 (x : Int)).toNat : Int) = _
  have e : (m : Int) * 256 = ((m * 256 : Nat) : Int) := by omega
  rw [e, BitVec.ofInt_natCast, BitVec.ofInt_natCast, BitVec.toNat_or, BitVec.toNat_ofNat, BitVec.toNat_ofNat, Nat.mod_eq_of_lt (by omega), Nat.mod_eq_of_lt (by omega)]
  have h := Nat.two_pow_add_eq_or_of_lt (i := 8) (b := x) (by omega) m
  rw [show m * 256 = 2 ^ 8 * m by omega, ← h, IntKind.wrap_i64]
  omega
theorem number_any (base : Nat) (A : Option Addr) (n c : Nat) (l : List Byte) (x : Int) (k : Nat) (w : World) (ho : w.ownsRow base 5 1 (.slice A n c) n (l.map bv8)) (hn : n ≤ 1048576) (hb : base ≤ w.heap.size) (hx : -9223372036854775808 ≤ x ∧ x ≤ 9223372036854775807) (hk : k ≤ 7) :
    Calls Try.prog 49 #[.slice A n c, .int .i64 x, .int .i64 k] w fun e w' => ∃ A' c', e = .returned (.slice A' (n + k) c') ∧ w'.ownsRow base 5 1 (.slice A' (n + k) c') (n + k) ((l ++ highL k x).map bv8) ∧ Below base w w' := by
  obtain ⟨i0, hi, hz0, hz1, hz2⟩ := info_parts infoB
  go_enter Try.func49, Try.ntmps49
  go_wp2_with fail
  go_loopw [0, 7] (fun v i wr => ∃ (j : Nat) (A : Option Addr) (m c : Nat) (l' : List Byte), j ≤ k ∧ m + j = n + k ∧ i = .int .i64 ((j : Int) - 1) ∧ v = .slice A m c ∧ l' ++ highL j x = l ++ highL k x ∧ wr.ownsRow base 5 1 (.slice A m c) m (l'.map bv8) ∧ Below base w wr) (fun _ i _ => (intOf i + 1).toNat)
  case atStart => exact ⟨k, A, n, c, l, by omega, rfl, rfl, rfl, rfl, ho, Below.refl _ _⟩
  case round =>
    obtain ⟨j, A, m, c, l', hj, hm, rfl, rfl, hl, ho, hbw⟩ := hrel
    have hsw : base ≤ wr.heap.size := by have := hbw.size; omega
    by_cases hlt : 0 < j
    · obtain ⟨i, rfl⟩ : ∃ i, j = i + 1 := ⟨j - 1, by omega⟩
      have hHL := hid hl
      clear hl
      have hji : ((i + 1 : Nat) : Int) - 1 = (i : Int) := by omega
      rw [hji]
      have hbt := hid (hiB_toNat x i)
      have hw8 : IntKind.i64.wrap (8 * (i : Int)) = 8 * (i : Int) := by rw [IntKind.wrap_i64]; omega
      go_wp2_with (at_builtin; go_must (refine wpl_append rfl (.tmp 14) (.tmp 20) 29 rfl base 5 i0 (.int .u8 0) 1 1 Try.underlying29 hi hz0 hz1 hz2 rfl (by omega) (.slice A m c) m _ rfl (ho.alloc _) _ _ 1 1 _ rfl (Sl.fresh _ _ _ _ 1 rfl) (by simp [Value.oneCell']) (m + 1) (by omega) _ rfl (by omega) (by omega) (by simp; omega) ?_); intro A2 c2 w2 o2 g2 _)
      have b2 : Below base w w2 := below_own (hbw.alloc hsw _) (ho.alloc _) g2 (Nat.le_refl _) (by simp; omega)
      go_roundw
      case rel => exact ⟨i, A2, m + 1, c2, l' ++ [hiB x i], by omega, by omega, rfl, rfl, by rw [← hHL.out, List.append_assoc]; rfl, own_byteI o2 hbt.out, b2⟩
      case measure => simp [intOf]
    · have hj0 : j = 0 := by omega
      subst hj0
      obtain rfl : m = n + k := by omega
      have hneg : ¬ (0 : Int) ≤ -1 := by omega
      have hl2 : l' = l ++ highL k x := by simpa [highL] using hl
      have HL := hid hl2
      clear hl hl2
      go_wp2_with fail
      go_ret
      exact ⟨A, c, rfl, by rw [← List.map_append, ← HL.out]; exact ho, hbw⟩
theorem high_any (base : Nat) (A : Option Addr) (n c : Nat) (l : List Byte) (x : Int) (k : Nat) (w : World) (ho : w.ownsRow base 5 1 (.slice A n c) n (l.map bv8)) (hn : n ≤ 1048576) (hb : base ≤ w.heap.size) (hx : -9223372036854775808 ≤ x ∧ x ≤ 9223372036854775807) (hk : k ≤ 7) :
    Calls Try.prog 70 #[.slice A n c, .int .i64 x, .int .i64 k] w fun e w' => ∃ A' c', e = .returned (.slice A' (n + k) c') ∧ w'.ownsRow base 5 1 (.slice A' (n + k) c') (n + k) ((l ++ highL k x).map bv8) ∧ Below base w w' := by
  obtain ⟨i0, hi, hz0, hz1, hz2⟩ := info_parts infoB
  go_enter Try.func70, Try.ntmps70
  go_wp2_with fail
  go_loopw [0, 7] (fun v i wr => ∃ (j : Nat) (A : Option Addr) (m c : Nat) (l' : List Byte), j ≤ k ∧ m + j = n + k ∧ i = .int .i64 ((j : Int) - 1) ∧ v = .slice A m c ∧ l' ++ highL j x = l ++ highL k x ∧ wr.ownsRow base 5 1 (.slice A m c) m (l'.map bv8) ∧ Below base w wr) (fun _ i _ => (intOf i + 1).toNat)
  case atStart => exact ⟨k, A, n, c, l, by omega, rfl, rfl, rfl, rfl, ho, Below.refl _ _⟩
  case round =>
    obtain ⟨j, A, m, c, l', hj, hm, rfl, rfl, hl, ho, hbw⟩ := hrel
    have hsw : base ≤ wr.heap.size := by have := hbw.size; omega
    by_cases hlt : 0 < j
    · obtain ⟨i, rfl⟩ : ∃ i, j = i + 1 := ⟨j - 1, by omega⟩
      have hHL := hid hl
      clear hl
      have hji : ((i + 1 : Nat) : Int) - 1 = (i : Int) := by omega
      rw [hji]
      have hbt := hid (hiB_toNat x i)
      have hw8 : IntKind.i64.wrap (8 * (i : Int)) = 8 * (i : Int) := by rw [IntKind.wrap_i64]; omega
      go_wp2_with (at_builtin; go_must (refine wpl_append rfl (.tmp 14) (.tmp 20) 29 rfl base 5 i0 (.int .u8 0) 1 1 Try.underlying29 hi hz0 hz1 hz2 rfl (by omega) (.slice A m c) m _ rfl (ho.alloc _) _ _ 1 1 _ rfl (Sl.fresh _ _ _ _ 1 rfl) (by simp [Value.oneCell']) (m + 1) (by omega) _ rfl (by omega) (by omega) (by simp; omega) ?_); intro A2 c2 w2 o2 g2 _)
      have b2 : Below base w w2 := below_own (hbw.alloc hsw _) (ho.alloc _) g2 (Nat.le_refl _) (by simp; omega)
      go_roundw
      case rel => exact ⟨i, A2, m + 1, c2, l' ++ [hiB x i], by omega, by omega, rfl, rfl, by rw [← hHL.out, List.append_assoc]; rfl, own_byteI o2 hbt.out, b2⟩
      case measure => simp [intOf]
    · have hj0 : j = 0 := by omega
      subst hj0
      obtain rfl : m = n + k := by omega
      have hneg : ¬ (0 : Int) ≤ -1 := by omega
      have hl2 : l' = l ++ highL k x := by simpa [highL] using hl
      have HL := hid hl2
      clear hl hl2
      go_wp2_with fail
      go_ret
      exact ⟨A, c, rfl, by rw [← List.map_append, ← HL.out]; exact ho, hbw⟩
theorem told_any (B : Nat) (A : Option Addr) (l : List Byte) (n c : Nat) (w : World) (h : Sl w B 1 A n (l.map bv8)) (hn : n ≤ 4) (r : Int) (hr : numL l = r) :
    Calls Try.prog 52 #[.slice A n c] w fun e w' => e = .returned (.int .i64 r) ∧ w' = w := by
  have hl : l.length = n := by have := h.len; simpa using this
  have HL := hid hl
  have HR := hid hr
  clear hl hr
  go_enter Try.func52, Try.ntmps52
  go_wp2_with fail
  go_loopw [3, 8] (fun v i wr => ∃ j : Nat, j ≤ n ∧ i = .int .i64 j ∧ v = .int .i64 (numL (l.take j)) ∧ wr = w) (fun _ i _ => n - (intOf i).toNat)
  case atStart => exact ⟨0, by omega, rfl, rfl, rfl⟩
  case round =>
    obtain ⟨j, hj, rfl, rfl, rfl⟩ := hrel
    by_cases hlt : j < n
    · obtain ⟨b, o, rfl, _, hc⟩ := h.get (k := j) hlt (u8s_get l j (by rw [HL.out]; exact hlt))
      have hbd := numL_bound (l.take j)
      have hp : (256 : Int) ^ (l.take j).length ≤ 16777216 := by
        have : (l.take j).length ≤ 3 := by rw [List.length_take]; omega
        generalize (l.take j).length = q at this
        obtain rfl | rfl | rfl | rfl : q = 0 ∨ q = 1 ∨ q = 2 ∨ q = 3 := by omega
        all_goals decide
      have hstep : numL (l.take (j + 1)) = numL (l.take j) * 256 + ((l.getD j 0).toNat : Int) := by
        rw [List.take_add_one, List.getElem?_eq_getElem (by rw [HL.out]; exact hlt), Option.toList_some, numL_push]
        simp [List.getD_eq_getElem?_getD, List.getElem?_eq_getElem (show j < l.length by rw [HL.out]; exact hlt)]
      have HS := hid hstep
      clear hstep
      generalize l.getD j 0 = x at *
      obtain ⟨m, hm⟩ : ∃ m : Nat, numL (l.take j) = (m : Int) := ⟨(numL (l.take j)).toNat, by omega⟩
      rw [hm] at hbd HS ⊢
      have HM := hid hm
      clear hm
      have hm2 : m < 16777216 := by omega
      have hxb := x.isLt
      have hc' : wr.cell? ⟨b, o + j, none⟩ = some (.int .u8 (x.toNat : Int)) := hc
      clear hc hbd hp
      go_wp2_with fail
      rw [or_add m _ hm2 hxb, ← HS.out]
      exact ⟨⟨j + 1, by omega, by go_num, rfl, trivial⟩, by simp [intOf]; omega⟩
    · obtain rfl : j = n := by omega
      have ht := hid (show numL (l.take j) = r by rw [List.take_of_length_le (by rw [HL.out]; exact Nat.le_refl _)]; exact HR.out)
      rw [ht.out]
      go_wp2_with fail
      go_ret
      exact ⟨rfl, rfl⟩
theorem number_to (base : Nat) (A : Option Addr) (n c : Nat) (l : List Byte) (x : Int) (k : Nat) (w : World) (m : Nat) (L : List Byte) (hm : n + k = m) (hL : l ++ highL k x = L) (ho : w.ownsRow base 5 1 (.slice A n c) n (l.map bv8)) (hn : n ≤ 1048576) (hb : base ≤ w.heap.size) (hx : -9223372036854775808 ≤ x ∧ x ≤ 9223372036854775807) (hk : k ≤ 7) :
    Calls Try.prog 49 #[.slice A n c, .int .i64 x, .int .i64 k] w fun e w' => ∃ A' c', e = .returned (.slice A' m c') ∧ w'.ownsRow base 5 1 (.slice A' m c') m (L.map bv8) ∧ Below base w w' := by
  subst hm hL
  exact number_any base A n c l x k w ho hn hb hx hk
theorem high_to (base : Nat) (A : Option Addr) (n c : Nat) (l : List Byte) (x : Int) (k : Nat) (w : World) (m : Nat) (L : List Byte) (hm : n + k = m) (hL : l ++ highL k x = L) (ho : w.ownsRow base 5 1 (.slice A n c) n (l.map bv8)) (hn : n ≤ 1048576) (hb : base ≤ w.heap.size) (hx : -9223372036854775808 ≤ x ∧ x ≤ 9223372036854775807) (hk : k ≤ 7) :
    Calls Try.prog 70 #[.slice A n c, .int .i64 x, .int .i64 k] w fun e w' => ∃ A' c', e = .returned (.slice A' m c') ∧ w'.ownsRow base 5 1 (.slice A' m c') m (L.map bv8) ∧ Below base w w' := by
  subst hm hL
  exact high_any base A n c l x k w ho hn hb hx hk
theorem _root_.Wells.Sl.sub {w : World} {B n bx ox : Nat} {l : List Byte} (h : Sl w B 1 (some ⟨bx, ox, none⟩) n (l.map bv8)) (k m : Nat) (hkm : k + m ≤ n) : Sl w B 1 (some ⟨bx, ox + k, none⟩) m (((l.drop k).take m).map bv8) := by
  have hl : l.length = n := by have := h.len; simpa using this
  refine ⟨by simp; omega, fun hm => ?_⟩
  obtain ⟨b, o, e, hb, hc⟩ := h.at_ (by omega)
  injection e with e
  injection e with e1 e2
  subst e1 e2
  refine ⟨bx, ox + k, rfl, hb, fun j u hu => ?_⟩
  have hj : j < m := by
    have := (List.getElem?_eq_some_iff.1 hu).1
    simp at this
    omega
  have := hc (k + j) u (by rw [← hu]; simp [List.getElem?_map, List.getElem?_take, hj, List.getElem?_drop])
  rw [← Nat.add_assoc] at this
  exact this
theorem told_at {B : Nat} {l : List Byte} {n bx ox : Nat} {w : World} (h : Sl w B 1 (some ⟨bx, ox, none⟩) n (l.map bv8)) (k m c : Nat) (hkm : k + m ≤ n) (hm : m ≤ 4) (r : Int) (hr : numL ((l.drop k).take m) = r) :
    Calls Try.prog 52 #[.slice (some ⟨bx, ox + k, none⟩) m c] w fun e w' => e = .returned (.int .i64 r) ∧ w' = w :=
  told_any B _ _ m c w (h.sub k m hkm) hm r hr
end Go.Proofs.Ytnknjeipfjdjoaa

namespace Wells
open Go Go.RowKit
/-- the next bytes, or noughts -/
def rfSome (n : Nat) (st : RSt) : List Byte × RSt := if st.1.length < n then (List.replicate n 0, (st.1, true)) else (st.1.take n, (st.1.drop n, st.2))
theorem numL_zeros (n : Nat) : numL (List.replicate n (0 : Byte)) = 0 := by
  unfold numL
  induction n with
  | zero => rfl
  | succ n ih => simpa [List.replicate_succ] using ih
theorem rfNum_is (k : Nat) (st : RSt) : (numL (rfSome k st).1, (rfSome k st).2) = rdNum k st := by
  unfold rfSome rdNum rdSome
  split
  · rw [numL_zeros]; rfl
  · rfl
theorem rfSome_len (n : Nat) (st : RSt) : (rfSome n st).1.length = n := by
  unfold rfSome
  split
  · simp
  · simp; omega
end Wells
namespace Go.Proofs.Ytnknjeipfjdjoaa
open Go.RowKit Wells
/-- what 'take' leaves -/
def TakeP (t : TypeId) (B g : Nat) (w : World) (out : List Byte) (st' : RSt) (e : Ending) (w' : World) : Prop :=
  (∃ A' n' c', e = .returned (.slice A' n' c') ∧ out.length = n' ∧ n' ≤ c' ∧ Sl w' w'.heap.size 1 A' n' (out.map bv8)) ∧ Rd t B w' g st' ∧ w.grownBy w' (some g)
/-- what 'num' leaves -/
def NumR (t : TypeId) (B g : Nat) (w : World) (z : Int) (st' : RSt) (e : Ending) (w' : World) : Prop :=
  e = .returned (.int .i64 z) ∧ Rd t B w' g st' ∧ w.grownBy w' (some g)
end Go.Proofs.Ytnknjeipfjdjoaa

namespace Wells
open Go Go.RowKit
theorem rdSome_app (a b : List Byte) : rdSome a.length (a ++ b, false) = (a, (b, false)) := by
  unfold rdSome
  rw [if_neg (by simp)]
  simp
theorem rfSome_app (a b : List Byte) : rfSome a.length (a ++ b, false) = (a, (b, false)) := by
  unfold rfSome
  rw [if_neg (by simp)]
  simp
theorem rdNum_app (k : Nat) (a b : List Byte) (h : a.length = k) : rdNum k (a ++ b, false) = (numL a, (b, false)) := by
  unfold rdNum
  rw [← h, rdSome_app]
theorem rdNum_1 {z : Int} (h : 0 ≤ z ∧ z < 256) (b : List Byte) : rdNum 1 (b8 z :: b, false) = (z, (b, false)) := by
  have := rdNum_app 1 [b8 z] b rfl
  rw [show [b8 z] ++ b = b8 z :: b from rfl] at this
  rw [this]
  have e := numL_high1 z h
  have e2 : highL 1 z = [b8 z] := rfl
  rw [e2] at e
  rw [e]
theorem rdNum_2 {z : Int} (h : 0 ≤ z ∧ z < 65536) (b : List Byte) : rdNum 2 (highL 2 z ++ b, false) = (z, (b, false)) := by rw [rdNum_app 2 _ b (highL_len 2 z), numL_high2 z h]
theorem rdNum_3 {z : Int} (h : 0 ≤ z ∧ z < 16777216) (b : List Byte) : rdNum 3 (highL 3 z ++ b, false) = (z, (b, false)) := by rw [rdNum_app 3 _ b (highL_len 3 z), numL_high3 z h]
theorem rdNum_4 {z : Int} (h : 0 ≤ z ∧ z < 4294967296) (b : List Byte) : rdNum 4 (highL 4 z ++ b, false) = (z, (b, false)) := by rw [rdNum_app 4 _ b (highL_len 4 z), numL_high4 z h]
theorem rdTries_back : ∀ (ts : List Int) (b : List Byte), (∀ z ∈ ts, 0 ≤ z ∧ z < 256) → rdTries ts.length (ts.map b8 ++ b, false) = (ts, (b, false))
  | [], b, _ => rfl
  | z :: ts, b, h => by
    have ih := rdTries_back ts b (fun y hy => h y (List.mem_cons_of_mem _ hy))
    have h1 := rdNum_1 (h z (List.mem_cons_self)) (ts.map b8 ++ b)
    show rdTries (ts.length + 1) (b8 z :: (ts.map b8 ++ b), false) = _
    conv => lhs; unfold rdTries
    rw [if_neg (by simp), h1]
    dsimp only
    rw [ih]
theorem tries_mem {l : List Int} (h : triesOk l = true) : ∀ z ∈ l, 0 ≤ z ∧ z < 256 := fun z hz => by
  unfold triesOk at h
  rw [List.all_eq_true] at h
  have := h z hz
  simp only [decide_eq_true_eq] at this
  omega
theorem packE_parts (e : Ent) (b : List Byte) : packE e ++ b = b8 (e.name.length : Int) :: (e.name ++ (highL 3 e.obj ++ (highL 2 e.len ++ (e.tries.map b8 ++ b)))) := by
  unfold packE
  simp only [List.append_assoc, List.cons_append, List.nil_append]
theorem rdEnt_back {m : Mani} {e : Ent} (h : EntP m e) (hn : m.next ≤ 16777216) (b : List Byte) : rdEnt m.P (packE e ++ b, false) = (e, (b, false)) := by
  have hnl := h.nlen
  have hob := h.obj
  have hln := h.len
  have hl2 := h.len2
  rw [packE_parts]
  unfold rdEnt
  rw [rdNum_1 (by omega)]
  dsimp only
  rw [Int.toNat_natCast, rdSome_app]
  dsimp only
  rw [rdNum_3 (by omega)]
  dsimp only
  rw [rdNum_2 (by omega)]
  dsimp only
  rw [← h.count, Int.toNat_natCast, rdTries_back e.tries b (tries_mem h.tries)]
theorem rdEnts_back {m : Mani} (hn : m.next ≤ 16777216) : ∀ (es : List Ent) (b : List Byte), (∀ e ∈ es, EntP m e) → rdEnts m.P es.length (es.flatMap packE ++ b, false) = (es, (b, false))
  | [], b, _ => rfl
  | e :: es, b, h => by
    have ih := rdEnts_back hn es b (fun y hy => h y (List.mem_cons_of_mem _ hy))
    have h1 := rdEnt_back (h e (List.mem_cons_self)) hn (es.flatMap packE ++ b)
    show rdEnts m.P (es.length + 1) ((e :: es).flatMap packE ++ b, false) = _
    rw [List.flatMap_cons, List.append_assoc]
    conv => lhs; unfold rdEnts
    rw [if_neg (by simp), h1]
    dsimp only
    rw [ih]
theorem packL_parts (m : Mani) : packL m = highL 4 m.seq ++ (highL 4 m.next ++ (b8 m.P.K :: b8 m.P.H :: b8 m.P.S :: b8 m.extra :: b8 (m.drives.length : Int) :: (m.drives.map b8 ++ (b8 (m.objs.length : Int) :: (m.objs.flatMap packE ++ []))))) := by
  unfold packL packH
  simp only [List.append_assoc, List.cons_append, List.nil_append, List.append_nil]
theorem drives_mem {l : List Int} (h : riseB l 63 = true) : ∀ z ∈ l, 0 ≤ z ∧ z < 256 := fun z hz => by
  obtain ⟨k, hk, rfl⟩ := List.getElem_of_mem hz
  have := rise_at h hk
  rw [List.getD_eq_getElem?_getD, List.getElem?_eq_getElem hk] at this
  simp only [Option.getD_some] at this
  omega
theorem ents_mem {m : Mani} (h : MayP m) : ∀ e ∈ m.objs, EntP m e := fun e he => by
  obtain ⟨k, hk, rfl⟩ := List.getElem_of_mem he
  have := ent_at h hk
  rwa [List.getD_eq_getElem?_getD, List.getElem?_eq_getElem hk] at this
theorem rdMani_back {m : Mani} (h : MayP m) : rdMani (packL m, false) = (m, ([], false)) := by
  have h1 := h.seq
  have h2 := h.next
  obtain ⟨k1, k2, k3, k4, k5, k6⟩ := Par.may_ok h.P
  have h4 := h.extra
  have h5 := rise_len h.drives
  have h6 := h.olen
  rw [packL_parts]
  unfold rdMani
  rw [rdNum_4 (by omega)]
  dsimp only
  rw [rdNum_4 (by omega)]
  dsimp only
  rw [rdNum_1 (by omega)]
  dsimp only
  rw [rdNum_1 (by omega)]
  dsimp only
  rw [rdNum_1 (by omega)]
  dsimp only
  rw [rdNum_1 (by omega)]
  dsimp only
  rw [rdNum_1 (by omega)]
  dsimp only
  rw [Int.toNat_natCast, rdTries_back m.drives _ (drives_mem h.drives)]
  dsimp only
  rw [rdNum_1 (by omega)]
  dsimp only
  rw [Int.toNat_natCast]
  have := rdEnts_back h2.2 m.objs [] (ents_mem h)
  show (_, _) = _
  have e : (⟨m.P.K, m.P.H, m.P.S⟩ : Par) = m.P := rfl
  (try rw [e])
  (try rw [this])
/-- the answer of Parse, told by pack -/
theorem parseL_of {l : List Byte} {m : Mani} {st : RSt} (h : rdMani (l, false) = (m, st)) (h1 : st.2 = false) (h2 : l ≠ []) (h3 : l = pack m) : parseL l = some m := by
  unfold parseL
  rw [h]
  exact if_pos ⟨h1, h2, h3⟩
theorem packL_ne (m : Mani) : packL m ≠ [] := fun e => by
  have h1 : 0 < (packL m).length := by rw [packL_parts, List.length_append, highL_len]; omega
  rw [e] at h1
  exact absurd h1 (Nat.lt_irrefl 0)
theorem parseL_pack {m : Mani} (h : m.may = true) : parseL (pack m) = some m := by
  have hp : pack m = packL m := by unfold pack; rw [if_pos h]
  have hb := rdMani_back (may_p h)
  rw [← hp] at hb
  exact parseL_of hb rfl (by rw [hp]; exact packL_ne m) rfl
theorem parseL_some {l : List Byte} {m : Mani} (h : parseL l = some m) : l = pack m ∧ m.may = true := by
  obtain ⟨q, hq⟩ : ∃ q, rdMani (l, false) = q := ⟨_, rfl⟩
  unfold parseL at h
  rw [hq] at h
  clear hq
  obtain ⟨M, st⟩ := q
  dsimp only at h
  split at h
  · rename_i hc
    injection h with h
    subst h
    refine ⟨hc.2.2, ?_⟩
    cases hm : M.may with
    | true => rfl
    | false =>
      exfalso
      apply hc.2.1
      rw [hc.2.2]
      unfold pack
      rw [hm]
      rfl
  · cases h
end Wells

