/- Cell -/
import Derived.BigGuardPart
import Derived.Deep.RegionHeld3
import Derived.Test.YtnknjeipfjdjoaaGreatDoorBScanKept00
import Derived.Test.YtnknjeipfjdjoaaGreatDoorBScanKept04
import Derived.Test.YtnknjeipfjdjoaaGreatDoorBScanKept07
set_option maxRecDepth 20000
set_option linter.unusedSimpArgs false
set_option linter.unusedVariables false
namespace Go.Proofs.YtnknjeipfjdjoaaGreatDoor
open Go.RowKit Wells
theorem below_put {B : Nat} {a w : World} (h : Below B a w) (g i : Nat) (hg : B ≤ g) (hs : B ≤ w.heap.size) (v : Value) : Below B a (w.setCell ⟨g, i, none⟩ v) :=
 below_only h ⟨rfl, rfl, rfl, by simp [World.setCell], fun k _ hne => Below.heap_setCell w ⟨g, i, none⟩ v k (fun e => hne (by rw [e]))⟩ hg hs
theorem splice4 (a b c d v : Value) (B : List Value) : splice (splice (List.replicate 64 v) 0 [a, b, c, d]) 4 B = [a, b, c, d] ++ (B ++ List.replicate (60 - B.length) v) := by
 have e1 : splice (List.replicate 64 v) 0 [a, b, c, d] = [a, b, c, d] ++ List.replicate 60 v := rfl
 rw [e1]
 unfold splice
 rw [List.take_append_of_le_length (by simp), List.drop_append, List.drop_of_length_le (by simp), List.nil_append, List.drop_replicate]
 congr 3
 simp
theorem put_row (k : Byte) (b : List Byte) (hb : b.length ≤ 55) :
  splice (splice (List.replicate 64 (Value.int .u8 0)) 0 (([0x57#8, 0x73#8, 1#8, k].map bv8).take 64)) 4 ((b.map bv8).take 60) = (front k b ++ List.replicate 5 0#8).map bv8 := by
 have e : (b.map bv8).take 60 = b.map bv8 := List.take_of_length_le (by simp; omega)
 have e2 : ([0x57#8, 0x73#8, 1#8, k].map bv8).take 64 = [bv8 0x57#8, bv8 0x73#8, bv8 1#8, bv8 k] := rfl
 rw [e, e2, splice4]
 unfold front pad
 rw [List.map_append, List.map_append, List.map_append, List.map_replicate, List.map_replicate, List.length_map, List.append_assoc, List.append_assoc, List.replicate_append_replicate]
 rw [show 55 - b.length + 5 = 60 - b.length by omega]
 rfl
def putRow (k : Byte) (b : List Byte) (s : BitVec 32) (i : Nat) : List Byte := front k b ++ ((le4 s).take i ++ List.replicate (5 - i) 0#8)
theorem putRow_set (k : Byte) (b : List Byte) (s : BitVec 32) (i : Nat) (hi : i < 4) (hb : b.length ≤ 55) :
  ((putRow k b s i).map bv8).set (59 + i) (bv8 ((le4 s).getD i 0)) = (putRow k b s (i + 1)).map bv8 := by
 have hf := front_len (k := k) hb
 unfold putRow
 rw [← List.map_set]
 congr 1
 rw [List.set_append_right _ _ (by omega), hf]
 congr 1
 obtain rfl | rfl | rfl | rfl : i = 0 ∨ i = 1 ∨ i = 2 ∨ i = 3 := by omega
 all_goals simp [le4, List.replicate]
theorem putRow_last (k : Byte) (b : List Byte) (hb : b.length ≤ 55) : ((putRow k b (crc (front k b)) 4).map bv8).set 63 (bv8 0xa5#8) = (frame k b).map bv8 := by
 have hf := front_len (k := k) hb
 unfold putRow frame
 rw [← List.map_set]
 congr 1
 rw [List.set_append_right _ _ (by omega), hf, List.append_assoc]
 congr 1
theorem le4_at (s : BitVec 32) (i : Nat) (hi : i < 4) : bv8 ((le4 s).getD i 0) = .int .u8 ((s.toNat : Int) / 2 ^ (8 * i) % 256) := by
 have h := s.isLt
 obtain rfl | rfl | rfl | rfl : i = 0 ∨ i = 1 ∨ i = 2 ∨ i = 3 := by omega
 all_goals
  simp [le4, bv8, BitVec.toNat_setWidth, BitVec.toNat_ushiftRight, Nat.shiftRight_eq_div_pow]
theorem put_any (kind : Int) (B : Nat) (A : Option Addr) (l : List Byte) (n c : Nat) (w : World) (hk : -9223372036854775808 ≤ kind ∧ kind ≤ 9223372036854775807) (h : Sl w B 1 A n (l.map bv8)) (hB : B ≤ w.heap.size) (hn : n ≤ 1048576) :
  Calls Tryz.prog 109 #[.int .i64 kind, .slice A n c] w fun e w' => ∃ v, e = .returned v ∧ OB w.heap.size w' v (cellL kind l) ∧ Below w.heap.size w w' := by
 have hl : l.length = n := by have := h.len; simpa using this
 have HL := hid hl
 obtain ⟨i0, hi, hz0, hz1, hz2⟩ := info_parts infoB
 have hsz : (Tryz.prog.info? 5).map (·.size) = some 1 := by rw [hi]; simp [hz1]
 by_cases hyes : 1 ≤ kind ∧ kind ≤ 255 ∧ l.length ≤ 55
 ·have hce := hid (cellL_yes hyes)
  obtain ⟨h1, h2, h3⟩ := hyes
  have hn55 : n ≤ 55 := by omega
  obtain ⟨k, hkk⟩ : ∃ k, BitVec.ofNat 8 kind.toNat = k := ⟨_, rfl⟩
  have hkv : kind = (k.toNat : Int) := by rw [← hkk, BitVec.toNat_ofNat]; omega
  rw [hkk] at hce
  clear hkk hl
  subst hkv
  have hkb := k.isLt
  have HPR := hid (put_row k l h3)
  have hfl := front_len (k := k) h3
  have HF := hid hfl
  have H3 := hid h3
  clear h3 hfl
  go_enter Tryz.func109, Tryz.ntmps109
  go_wp2_with (first
   | (at_make; refine wpl_make _ rfl (.const (.int .i64 64)) (.const (.int .i64 64)) 33 rfl 5 i0 (.int .u8 0) 1 Tryz.underlying33 hi hz0 hz1 hz2 rfl .i64 .i64 _ _ 64 64 rfl rfl rfl (by omega) (by omega) (by omega) (by omega) ?_; intro w1 r1 b1 s1; have hs1 : w1.heap.size = w.heap.size + 1 := by omega)
   | ((with_reducible show wpList _ _ _ (⟨some 24, _, _, _, _, _⟩ :: _) _ _); go_must (refine wpl_copy rfl (.tmp 20) (.tmp 23) 33 33 rfl 5 Tryz.underlying33 hsz _ _ 64 64 4 4 rfl rfl w.heap.size 0 _ 5 (r1.alloc _) _ ([0x57#8, 0x73#8, 1#8, k].map bv8) (by have hfr := Sl.fresh w1 ([0x57#8, 0x73#8, 1#8, k].map bv8) 5 (0, 0) 4 rfl; rw [hs1] at hfr; exact hfr) (fun _ => rfl) (by simp) (u8s_cell _) ?_); intro w2 r2 g2)
   | ((with_reducible show wpList _ _ _ (⟨some 28, _, _, _, _, _⟩ :: _) _ _); go_must (refine wpl_copy rfl (.tmp 26) (.tmp 27) 33 33 rfl 5 Tryz.underlying33 hsz _ _ 60 60 n c rfl rfl w.heap.size 4 _ 5 r2 B _ (h.below (((b1.alloc (show w.heap.size ≤ w1.heap.size by omega) _).grown g2 (by simp; omega) (fun k hk => by injection hk with hk; omega)).mono hB)) (fun _ => rfl) (by simp [splice]; omega) (u8s_cell _) ?_); intro w3 r3 g3))
  have b2 : Below w.heap.size w w2 := (b1.alloc (show w.heap.size ≤ w1.heap.size by omega) _).grown g2 (by simp; omega) (fun k hk => by injection hk with hk; omega)
  have b3 : Below w.heap.size w w3 := b2.grown g3 b2.size (fun k hk => by injection hk with hk; omega)
  rw [HPR.out] at r3
  have s3 : Sl w3 (w.heap.size + 1) 1 (some ⟨w.heap.size, 0, none⟩) 59 ((front k l).map bv8) := by
   have := r3.sl (B := w.heap.size + 1) (m := 59) (by omega) (by rw [List.length_map, List.length_append, HF.out]; simp)
   rwa [List.map_append, List.take_append_of_le_length (by rw [List.length_map, HF.out]; omega), List.take_of_length_le (by rw [List.length_map, HF.out]; omega)] at this
  clear r2 r1 g3 g2
  refine (sum_any _ _ (front k l) 59 _ _ s3 (by omega)).mono ?_
  rintro e w4 ⟨rfl, rfl⟩
  have R0 : Row w3 w.heap.size 5 ((putRow k l (crc (front k l)) 0).map bv8) := r3
  obtain ⟨s, hs⟩ : ∃ s, crc (front k l) = s := ⟨_, rfl⟩
  have hsb := s.isLt
  have HRL := hid (putRow_last k l H3.out)
  rw [hs] at HRL R0 ⊢
  have HS := hid hs
  have HFR := hid (frame_len (k := k) H3.out)
  clear hs r3 s3 b1 b2
  generalize hg : w.heap.size = g at *
  have hgw : g ≤ w.heap.size := by omega
  have HG := hid hg
  clear hg
  go_wp2_with fail
  go_loopw [32] (fun i wr => ∃ j : Nat, j ≤ 4 ∧ i = .int .i64 j ∧ Row wr g 5 ((putRow k l s j).map bv8) ∧ Below g w wr) (fun i _ => 4 - (intOf i).toNat)
  case atStart => exact ⟨0, by omega, rfl, R0, b3⟩
  case round =>
   obtain ⟨j, hj, rfl, hr, hbw⟩ := hrel
   by_cases hlt : j < 4
   ·have hset := hid (putRow_set k l s j hlt H3.out)
    have hval := hid (le4_at s j hlt)
    have hplen := hid (show (putRow k l s j).length = 64 by unfold putRow; rw [List.length_append, List.length_append, HF.out, List.length_take, le4_len, List.length_replicate]; omega)
    have hfz := hr.frozen (59 + j)
    have hcl := hr.cell (59 + j)
    rw [u8_get _ _ (by rw [hplen.out]; omega)] at hcl
    generalize (putRow k l s j).getD (59 + j) 0 = old at hcl
    have hcl2 : wr.cell? ⟨g, 59 + j, none⟩ = some (.int .u8 (old.toNat : Int)) := hcl
    clear hcl
    go_wp2_with fail
    rw [← hval.out]
    go_roundw
    case rel => exact ⟨j + 1, by omega, by go_num, (hr.set (59 + j) _).to hset.out, below_put hbw _ _ (Nat.le_refl _) (by have := hbw.size; omega) _⟩
    case measure => simp [intOf]; omega
   ·have hj4 : j = 4 := by omega
    subst hj4
    have hplen := hid (show (putRow k l s 4).length = 64 by unfold putRow; rw [List.length_append, List.length_append, HF.out, List.length_take, le4_len, List.length_replicate]; omega)
    have hfz := hr.frozen 63
    have hcl := hr.cell 63
    rw [u8_get _ _ (by rw [hplen.out]; omega)] at hcl
    generalize (putRow k l s 4).getD 63 0 = old at hcl
    have hcl2 : wr.cell? ⟨g, 63, none⟩ = some (.int .u8 (old.toNat : Int)) := hcl
    clear hcl
    go_wp2_with fail
    go_ret
    have r5 := (hr.set 63 (bv8 0xa5#8)).to HRL.out
    have o5 := r5.own (base := g) (size := 1) (n := 64) (cap := 64) (Nat.le_refl _) (Nat.le_refl _) (by unfold maxLen; omega) (by rw [List.length_map, HFR.out])
    rw [HG.out]
    refine ⟨_, rfl, ?_, below_put hbw _ _ (Nat.le_refl _) (by have := hbw.size; omega) _⟩
    rw [hce.out]
    unfold OB
    rw [HFR.out]
    rw [List.take_of_length_le (by rw [List.length_map, HFR.out]; omega)] at o5
    exact o5
 ·have hce := hid (cellL_no hyes)
  have hor : kind < 1 ∨ (1 ≤ kind ∧ 255 < kind) ∨ (1 ≤ kind ∧ kind ≤ 255 ∧ 55 < n) := by omega
  rw [hce.out]
  rcases hor with h1 | ⟨h1, h2⟩ | ⟨h1, h2, h3⟩
  all_goals
   go_enter Tryz.func109, Tryz.ntmps109
   go_wp2_with fail
   all_goals try omega
   go_ret
   exact ⟨_, rfl, World.ownsRow_nil _ _ _ _, Below.refl _ _⟩
end Go.Proofs.YtnknjeipfjdjoaaGreatDoor
