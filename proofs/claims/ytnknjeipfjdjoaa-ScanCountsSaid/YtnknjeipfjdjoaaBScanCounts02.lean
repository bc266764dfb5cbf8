/- CellMath RecMath -/
import Derived.Test.YtnknjeipfjdjoaaBScanCounts01
set_option maxRecDepth 20000
namespace Wells
abbrev BL := List (BitVec 8)
def pad (b : BL) : BL := b ++ List.replicate (55 - b.length) 0#8
def front (k : BitVec 8) (b : BL) : BL := [0x57#8, 0x73#8, 1#8, k] ++ pad b
def frame (k : BitVec 8) (b : BL) : BL := front k b ++ le4 (crc (front k b)) ++ [0xa5#8]
def cellL (kind : Int) (b : BL) : BL := if 1 ≤ kind ∧ kind ≤ 255 ∧ b.length ≤ 55 then frame (BitVec.ofNat 8 kind.toNat) b else []
def takeP (b : BL) : Option (BitVec 8 × BL) :=
  if b.length = 64 ∧ cellL ((b.getD 3 0).toNat) ((b.drop 4).take 55) = b then some (b.getD 3 0, (b.drop 4).take 55) else none
theorem pad_len {b : BL} (h : b.length ≤ 55) : (pad b).length = 55 := by unfold pad; simp; omega
theorem pad_full {b : BL} (h : b.length = 55) : pad b = b := by unfold pad; simp [h]
theorem le4_len (c : BitVec 32) : (le4 c).length = 4 := rfl
theorem front_len {k : BitVec 8} {b : BL} (h : b.length ≤ 55) : (front k b).length = 59 := by unfold front; rw [List.length_append, pad_len h]; rfl
theorem frame_len {k : BitVec 8} {b : BL} (h : b.length ≤ 55) : (frame k b).length = 64 := by unfold frame; rw [List.length_append, List.length_append, front_len h, le4_len]; rfl
theorem cellL_yes {kind : Int} {b : BL} (h : 1 ≤ kind ∧ kind ≤ 255 ∧ b.length ≤ 55) : cellL kind b = frame (BitVec.ofNat 8 kind.toNat) b := if_pos h
theorem cellL_no {kind : Int} {b : BL} (h : ¬ (1 ≤ kind ∧ kind ≤ 255 ∧ b.length ≤ 55)) : cellL kind b = [] := if_neg h
theorem cellL_len (kind : Int) (b : BL) : (cellL kind b).length = if 1 ≤ kind ∧ kind ≤ 255 ∧ b.length ≤ 55 then 64 else 0 := by
  unfold cellL; split
  · exact frame_len (by omega)
  · rfl
theorem frame_kind {k : BitVec 8} {b : BL} : (frame k b).getD 3 0 = k := by unfold frame front; simp
theorem frame_body {k : BitVec 8} {b : BL} (h : b.length ≤ 55) : ((frame k b).drop 4).take 55 = pad b := by
  unfold frame front
  have := pad_len h
  simp [List.take_append, this]
  try rw [List.take_of_length_le (by omega), List.take_of_length_le (by omega)]
  try simp
theorem front_pad {k : BitVec 8} {b : BL} (h : b.length ≤ 55) : front k (pad b) = front k b := by
  unfold front; rw [pad_full (pad_len h)]
theorem frame_pad {k : BitVec 8} {b : BL} (h : b.length ≤ 55) : frame k (pad b) = frame k b := by unfold frame; rw [front_pad h]
theorem ofNat_toNat8 (k : BitVec 8) : BitVec.ofNat 8 ((k.toNat : Int)).toNat = k := by simp
theorem take_frame {k : BitVec 8} {b : BL} (hk : k ≠ 0#8) (h : b.length ≤ 55) : takeP (frame k b) = some (k, pad b) := by
  unfold takeP
  rw [frame_kind, frame_body h]
  have hk1 : 1 ≤ k.toNat := by
    rcases Nat.eq_zero_or_pos k.toNat with h0 | h0
    · exact absurd (BitVec.eq_of_toNat_eq (by simpa using h0)) hk
    · exact h0
  have hk2 := k.isLt
  rw [if_pos ⟨frame_len h, by rw [cellL_yes ⟨by omega, by omega, by rw [pad_len h]; omega⟩, ofNat_toNat8, frame_pad h]⟩]
theorem take_some {b : BL} {k : BitVec 8} {x : BL} (h : takeP b = some (k, x)) : k ≠ 0#8 ∧ x.length = 55 ∧ b = frame k x := by
  unfold takeP at h
  split at h
  · rename_i hc
    injection h with h
    injection h with h1 h2
    obtain ⟨hl, he⟩ := hc
    rw [h1, h2] at he
    have hx : x.length = 55 := by rw [← h2]; simp [hl]
    by_cases hk : 1 ≤ (k.toNat : Int) ∧ (k.toNat : Int) ≤ 255 ∧ x.length ≤ 55
    · rw [cellL_yes hk, ofNat_toNat8] at he
      exact ⟨by rintro rfl; simp at hk, hx, he.symm⟩
    · rw [cellL_no hk] at he
      rw [← he] at hl
      simp at hl
  · cases h
/-- what makes bytes a cell -/
def IsCell (b : BL) : Prop := ∃ k x, k ≠ 0#8 ∧ x.length = 55 ∧ b = frame k x
theorem take_isSome (b : BL) : (takeP b).isSome = true ↔ IsCell b := by
  constructor
  · intro h
    cases ht : takeP b with
    | none => rw [ht] at h; cases h
    | some p => obtain ⟨h1, h2, h3⟩ := take_some (k := p.1) (x := p.2) ht; exact ⟨p.1, p.2, h1, h2, h3⟩
  · rintro ⟨k, x, hk, hx, rfl⟩
    rw [take_frame hk (by omega)]; rfl
theorem le4_from (b0 b1 b2 b3 : BitVec 8) : ∃ c, le4 c = [b0, b1, b2, b3] := by
  have h0 := b0.isLt
  have h1 := b1.isLt
  have h2 := b2.isLt
  have h3 := b3.isLt
  refine ⟨BitVec.ofNat 32 (b0.toNat + 256 * b1.toNat + 65536 * b2.toNat + 16777216 * b3.toNat), ?_⟩
  have e : (BitVec.ofNat 32 (b0.toNat + 256 * b1.toNat + 65536 * b2.toNat + 16777216 * b3.toNat)).toNat = b0.toNat + 256 * b1.toNat + 65536 * b2.toNat + 16777216 * b3.toNat := by
    rw [BitVec.toNat_ofNat]; omega
  generalize BitVec.ofNat 32 (b0.toNat + 256 * b1.toNat + 65536 * b2.toNat + 16777216 * b3.toNat) = c at e
  unfold le4
  congr 1
  · exact BitVec.eq_of_toNat_eq (by rw [BitVec.toNat_setWidth, e]; omega)
  congr 1
  · exact BitVec.eq_of_toNat_eq (by rw [BitVec.toNat_setWidth, BitVec.toNat_ushiftRight, Nat.shiftRight_eq_div_pow, e]; omega)
  congr 1
  · exact BitVec.eq_of_toNat_eq (by rw [BitVec.toNat_setWidth, BitVec.toNat_ushiftRight, Nat.shiftRight_eq_div_pow, e]; omega)
  congr 1
  · exact BitVec.eq_of_toNat_eq (by rw [BitVec.toNat_setWidth, BitVec.toNat_ushiftRight, Nat.shiftRight_eq_div_pow, e]; omega)
theorem split4' (x : BL) (n : Nat) (h : x.length = n + 4) : ∃ b c, x = b ++ le4 c ∧ b.length = n := by
  obtain ⟨c, hc⟩ := le4_from (x.getD n 0) (x.getD (n + 1) 0) (x.getD (n + 2) 0) (x.getD (n + 3) 0)
  refine ⟨x.take n, c, ?_, by simp; omega⟩
  rw [hc]
  have e : x.drop n = [x.getD n 0, x.getD (n + 1) 0, x.getD (n + 2) 0, x.getD (n + 3) 0] := by
    apply List.ext_getElem?
    intro i
    rw [List.getElem?_drop]
    by_cases hi : i < 4
    · obtain rfl | rfl | rfl | rfl : i = 0 ∨ i = 1 ∨ i = 2 ∨ i = 3 := by omega
      all_goals (rw [List.getElem?_eq_getElem (by omega)]; simp [show n < x.length by omega, show n + 1 < x.length by omega, show n + 2 < x.length by omega, show n + 3 < x.length by omega])
    · rw [List.getElem?_eq_none (by omega), List.getElem?_eq_none (by simp; omega)]
  rw [← e, List.take_append_drop]
/-- a cell, by its parts: its ends, its kind, and a sum over 63 bytes that is always the same -/
theorem isCell_iff (b : BL) : IsCell b ↔ b.length = 64 ∧ b.take 3 = [0x57#8, 0x73#8, 1#8] ∧ b.getD 3 0 ≠ 0#8 ∧ b.getD 63 0 = 0xa5#8 ∧ crc (b.take 63) = 0x2144df1c#32 := by
  constructor
  · rintro ⟨k, x, hk, hx, rfl⟩
    have hl := frame_len (k := k) (b := x) (by omega)
    have hf := front_len (k := k) (b := x) (by omega)
    have e63 : (frame k x).take 63 = front k x ++ le4 (crc (front k x)) := by
      unfold frame
      rw [List.take_append_of_le_length (by rw [List.length_append, hf, le4_len]; omega), List.take_of_length_le (by rw [List.length_append, hf, le4_len]; omega)]
    refine ⟨hl, by unfold frame front; simp, by rw [frame_kind]; exact hk, ?_, by rw [e63, crc_behind]⟩
    unfold frame
    rw [List.getD_eq_getElem?_getD, List.getElem?_append_right (by rw [List.length_append, hf, le4_len]; omega), List.length_append, hf, le4_len]
    rfl
  · rintro ⟨hl, h3, hk, h63, hc⟩
    obtain ⟨y, c, hy, hyl⟩ := split4' (b.take 63) 59 (by simp [hl])
    rw [hy] at hc
    have hcc := (crc_fits y c).1 hc
    have hb : b = b.take 63 ++ [0xa5#8] := by
      conv => lhs; rw [← List.take_append_drop 63 b]
      congr 1
      rw [← h63]
      have hd : (b.drop 63).length = 1 := by simp [hl]
      rw [List.getD_eq_getElem?_getD, List.getElem?_eq_getElem (by omega)]
      apply List.ext_getElem
      · simp [hl]
      · intro i h1 h2
        simp at h2
        subst h2
        simp
    have hyb : y = b.take 59 := by
      have := congrArg (List.take 59) hy
      rw [List.take_append_of_le_length (by omega), List.take_of_length_le (l := y) (by omega), List.take_take] at this
      exact this.symm
    have hy3 : y = front (b.getD 3 0) (y.drop 4) := by
      unfold front
      rw [pad_full (by simp [hyl])]
      have h4 : y.take 4 = [0x57#8, 0x73#8, 1#8, b.getD 3 0] := by
        rw [hyb, List.take_take, show min 4 59 = 3 + 1 by omega, List.take_succ_eq_append_getElem (by omega), h3]
        simp [hl]
      rw [← h4, List.take_append_drop]
    refine ⟨b.getD 3 0, y.drop 4, hk, by simp [hyl], ?_⟩
    unfold frame
    rw [← hy3, ← hcc, ← hy]
    exact hb
end Wells

namespace Wells
open Go Go.RowKit
/-- byte i of a number, the lowest is byte 0 -/
def hiB (x : Int) (i : Nat) : Byte := BitVec.ofNat 8 (x / 2 ^ (8 * i) % 256).toNat
/-- the lowest n bytes of a number, the highest first -/
def highL : Nat → Int → BL
  | 0, _ => []
  | n + 1, x => hiB x n :: highL n x
theorem highL_len (n : Nat) (x : Int) : (highL n x).length = n := by
  induction n with
  | zero => rfl
  | succ n ih => simp [highL, ih]
def numL (l : BL) : Int := l.foldl (fun n b => n * 256 + (b.toNat : Int)) 0
theorem numL_push (l : BL) (b : Byte) : numL (l ++ [b]) = numL l * 256 + (b.toNat : Int) := by simp [numL]
theorem foldl_bound (l : BL) (n : Int) (h : 0 ≤ n) : 0 ≤ l.foldl (fun n (b : Byte) => n * 256 + (b.toNat : Int)) n ∧ l.foldl (fun n (b : Byte) => n * 256 + (b.toNat : Int)) n < (n + 1) * 256 ^ l.length := by
  induction l generalizing n with
  | nil => simp; omega
  | cons b l ih =>
    have hb := b.isLt
    obtain ⟨h1, h2⟩ := ih (n * 256 + (b.toNat : Int)) (by omega)
    rw [List.foldl_cons, List.length_cons, Int.pow_succ, Int.mul_comm (256 ^ l.length) 256, ← Int.mul_assoc]
    refine ⟨h1, Int.lt_of_lt_of_le h2 ?_⟩
    exact Int.mul_le_mul_of_nonneg_right (by omega) (Int.pow_nonneg (by omega))
theorem numL_bound (l : BL) : 0 ≤ numL l ∧ numL l < 256 ^ l.length := by
  have := foldl_bound l 0 (by omega)
  simpa [numL] using this
theorem hiB_toNat (x : Int) (i : Nat) : ((hiB x i).toNat : Int) = x / 2 ^ (8 * i) % 256 := by
  unfold hiB
  rw [BitVec.toNat_ofNat]
  omega
theorem numL_high1 (x : Int) (h : 0 ≤ x ∧ x < 256) : numL (highL 1 x) = x := by
  simp only [highL, numL, List.foldl, hiB_toNat]
  simp
  omega
theorem numL_high2 (x : Int) (h : 0 ≤ x ∧ x < 65536) : numL (highL 2 x) = x := by
  simp only [highL, numL, List.foldl, hiB_toNat]
  simp
  omega
theorem numL_high3 (x : Int) (h : 0 ≤ x ∧ x < 16777216) : numL (highL 3 x) = x := by
  simp only [highL, numL, List.foldl, hiB_toNat]
  simp
  omega
theorem numL_high4 (x : Int) (h : 0 ≤ x ∧ x < 4294967296) : numL (highL 4 x) = x := by
  simp only [highL, numL, List.foldl, hiB_toNat]
  simp
  omega
deriving instance DecidableEq for Par
/-- a record -/
structure Rec where
  O : Int
  B : Int
  I : Int
  P : Par
  S : BitVec 32
  D : BL
deriving DecidableEq
def Rec.zero : Rec := ⟨0, 0, 0, ⟨0, 0, 0⟩, 0, []⟩
/-- its value, the bytes being those of that slice -/
def Rec.val (r : Rec) (d : Value) : Value := .agg #[.int .i64 r.O, .int .i64 r.B, .int .i64 r.I, .int .i64 r.P.K, .int .i64 r.P.H, .int .i64 r.P.S, .int .u32 (r.S.toNat : Int), d]
def Rec.may (r : Rec) : Bool := decide (0 ≤ r.O ∧ r.O ≤ 16777215 ∧ 0 ≤ r.B ∧ r.B < 8 ∧ 0 ≤ r.I ∧ r.I ≤ 65535 ∧ r.P.may = true ∧ (r.D.length : Int) = r.P.S)
def recB (r : Rec) : BL := highL 3 r.O ++ highL 1 r.B ++ highL 2 r.I ++ [hiB r.P.K 0, hiB r.P.H 0, hiB r.P.S 0] ++ highL 4 (r.S.toNat : Int) ++ r.D
theorem recB_len (r : Rec) : (recB r).length = 13 + r.D.length := by unfold recB; simp [highL_len]; omega
def putR (r : Rec) : BL := if r.may then cellL 1 (recB r) else []
def byteI (l : BL) (i : Nat) : Int := ((l.getD i 0).toNat : Int)
def parseP (x : BL) : Par := ⟨byteI x 6, byteI x 7, byteI x 8⟩
def parseR (x : BL) : Rec := ⟨numL (x.take 3), numL ((x.drop 3).take 1), numL ((x.drop 4).take 2), parseP x, BitVec.ofNat 32 (numL ((x.drop 9).take 4)).toNat, (x.drop 13).take (byteI x 8).toNat⟩
/-- what bytes say -/
def takeR (b : BL) : Option Rec :=
  match takeP b with
  | none => none
  | some (k, x) => if k = 1#8 ∧ (parseP x).may = true ∧ putR (parseR x) = b then some (parseR x) else none
theorem may_open {r : Rec} (h : r.may = true) : 0 ≤ r.O ∧ r.O ≤ 16777215 ∧ 0 ≤ r.B ∧ r.B < 8 ∧ 0 ≤ r.I ∧ r.I ≤ 65535 ∧ r.P.may = true ∧ (r.D.length : Int) = r.P.S := by
  unfold Rec.may at h
  exact of_decide_eq_true h
theorem parse_put {r : Rec} (h : r.may = true) : parseR (pad (recB r)) = r := by
  obtain ⟨h1, h2, h3, h4, h5, h6, h7, h8⟩ := may_open h
  have hp := Par.may_ok h7
  obtain ⟨p1, p2, p3, p4, p5, p6⟩ := hp
  obtain ⟨O, B, I, ⟨K, H, S⟩, s, D⟩ := r
  dsimp only at *
  have hs := s.isLt
  have e0 (x : Int) (hx : 0 ≤ x ∧ x < 256) : ((hiB x 0).toNat : Int) = x := by rw [hiB_toNat]; simp; omega
  have n3 := numL_high3 O (by omega)
  have n1 := numL_high1 B (by omega)
  have n2 := numL_high2 I (by omega)
  have n4 := numL_high4 (s.toNat : Int) (by omega)
  have ek := e0 K (by omega)
  have eh := e0 H (by omega)
  have es := e0 S (by omega)
  have hpad : pad (recB ⟨O, B, I, ⟨K, H, S⟩, s, D⟩) = [hiB O 2, hiB O 1, hiB O 0, hiB B 0, hiB I 1, hiB I 0, hiB K 0, hiB H 0, hiB S 0, hiB s.toNat 3, hiB s.toNat 2, hiB s.toNat 1, hiB s.toNat 0] ++ (D ++ List.replicate (55 - (13 + D.length)) 0#8) := by
    unfold pad
    rw [recB_len]
    simp only [recB, highL, List.cons_append, List.nil_append, List.append_assoc]
  rw [hpad]
  simp only [highL] at n3 n1 n2 n4
  unfold parseR parseP byteI
  simp only [List.cons_append, List.nil_append, List.take_succ_cons, List.take_zero, List.drop_succ_cons, List.drop_zero, List.getD_cons_succ, List.getD_cons_zero, n3, n1, n2, n4, ek, eh, es]
  congr 1
  · simp
  · rw [List.take_append_of_le_length (by omega), List.take_of_length_le (by omega)]
theorem putR_yes {r : Rec} (h : r.may = true) : putR r = cellL 1 (recB r) := if_pos h
theorem rec_short {r : Rec} (h : r.may = true) : (recB r).length ≤ 55 := by
  obtain ⟨_, _, _, _, _, _, h7, h8⟩ := may_open h
  have hp := Par.may_ok h7
  obtain ⟨p1, p2, p3, p4, p5, p6⟩ := hp
  rw [recB_len]
  omega
theorem putR_frame {r : Rec} (h : r.may = true) : putR r = frame 1#8 (recB r) := by
  rw [putR_yes h, cellL_yes ⟨by omega, by omega, rec_short h⟩]; rfl
theorem putR_len {r : Rec} (h : r.may = true) : (putR r).length = 64 := by rw [putR_frame h, frame_len (rec_short h)]
theorem take_put {r : Rec} (h : r.may = true) : takeR (putR r) = some r := by
  have h1 : takeP (putR r) = some (1#8, pad (recB r)) := by rw [putR_frame h]; exact take_frame (by decide) (rec_short h)
  have h2 := parse_put h
  have h3 : (parseP (pad (recB r))).may = true := by
    have : (parseR (pad (recB r))).P = parseP (pad (recB r)) := rfl
    rw [← this, h2]
    exact (may_open h).2.2.2.2.2.2.1
  unfold takeR
  rw [h1]
  dsimp only
  rw [if_pos ⟨rfl, h3, by rw [h2]⟩, h2]
theorem takeR_some {b : BL} {r : Rec} (h : takeR b = some r) : r.may = true ∧ putR r = b := by
  unfold takeR at h
  split at h
  · cases h
  · rename_i k x hk
    split at h
    · rename_i hc
      injection h with h
      subst h
      refine ⟨?_, hc.2.2⟩
      cases hm : (parseR x).may with
      | true => rfl
      | false =>
        have := hc.2.2
        unfold putR at this
        rw [hm] at this
        simp at this
        subst this
        have := (take_some hk).2.2
        have h2 := congrArg List.length this
        rw [frame_len (by have := (take_some hk).2.1; omega)] at h2
        cases h2
    · cases h
theorem putR_inj {r q : Rec} (h : r.may = true) (h' : q.may = true) : putR q = putR r ↔ q = r := by
  constructor
  · intro e
    have := take_put h'
    rw [e, take_put h] at this
    injection this with this
    exact this.symm
  · rintro rfl; rfl
end Wells

