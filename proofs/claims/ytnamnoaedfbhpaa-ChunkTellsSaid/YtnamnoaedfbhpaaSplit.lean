/- An object in blocks. -/
import Derived.Test.YtnamnoaedfbhpaaChunk
import Derived.Test.YtnamnoaedfbhpaaLists
namespace Wells
open Go Go.RowKit
/-- block i of an object, w bytes long -/
def blk (w : Nat) (b : List Byte) (i : Nat) : List Byte := (b.drop (i * w)).take w ++ List.replicate (w - ((b.drop (i * w)).take w).length) 0#8
theorem blk_length (w : Nat) (b : List Byte) (i : Nat) : (blk w b i).length = w := by unfold blk; simp; omega
def blocks (p : Par) (b : List Byte) : List (List Byte) := (List.range (countP p b.length).toNat).map (blk p.size.toNat b)
theorem blk_splice (w : Nat) (b : List Byte) (i : Nat) : splice (List.replicate w (Value.int .u8 0)) 0 (((b.drop (i * w)).map bv8).take w) = (blk w b i).map bv8 := by
  unfold splice blk
  rw [← List.map_take]
  have h1 : ((b.drop (i * w)).take w).length ≤ w := by simp; omega
  generalize (b.drop (i * w)).take w = x at *
  simp [bv8]
end Wells
namespace Go.Proofs.Ytnamnoaedfbhpaa
open Go.RowKit Wells
theorem blk_at (l : List Byte) {s k z q : Nat} (hs : s = z) (hq : q = k * z) : splice (List.replicate z (Value.int .u8 0)) 0 (((l.drop q).map bv8).take z) = (blk s l k).map bv8 := by
  subst hs hq
  exact blk_splice _ _ _
theorem blk_own {g r s k z : Nat} {l : List Byte} {w : World} (hs : s = z) (h : Row w r 5 ((blk s l k).map bv8)) (hr : g ≤ r) (hz : z ≤ 384) : OB g w (.slice (some ⟨r, 0, none⟩) z z) (blk s l k) := by
  subst hs
  have := h.own (base := g) (size := 1) (n := s) (cap := s) hr (Nat.le_refl _) (by unfold maxLen; omega) (by simp [blk_length])
  rw [Nat.mul_one, List.take_of_length_le (by simp [blk_length])] at this
  unfold OB
  rw [blk_length]
  exact this
/-- what turns in a block that is new is no turn of what was there -/
theorem below_fresh {wr w w' : World} {r : Nat} (h : Below wr.heap.size wr w) (hg : w.grownBy w' (some r)) (hr : wr.heap.size ≤ r) : Below wr.heap.size wr w' :=
  h.grown hg h.size (fun k hk => by injection hk with hk; omega)
theorem split_any (p : Par) (B : Nat) (A : Option Addr) (n c : Nat) (l : List Byte) (w : World) (h : Sl w B 1 A n (l.map bv8)) (hB : B ≤ w.heap.size) (hn : n ≤ 1048576) (hc : n ≤ c) :
    Calls Try.prog 17 #[p.val, .slice A n c] w fun e w' => ∃ v vs, e = .returned v ∧ OBs w.heap.size w' v vs (blocks p l) ∧ Below w.heap.size w w' := by
  have HL := hid (show l.length = n by have := h.len; simpa using this)
  obtain ⟨i0, hi, hz0, hz1, hz2⟩ := info_parts infoB
  obtain ⟨i1, hi', hz0', hz1', hz2'⟩ := info_parts infoBs
  have hsz : (Try.prog.info? 5).map (·.size) = some 1 := by rw [hi]; simp [hz1]
  obtain ⟨m, hm⟩ : ∃ m : Nat, countP p n = (m : Int) := ⟨(countP p n).toNat, by have := (countP_le p n).1; omega⟩
  have hmn : m ≤ n := by have := (countP_le p n).2 (by omega); omega
  have HM := hid hm
  clear hm
  have hv : p.val = .agg #[.int .i64 p.K, .int .i64 p.H, .int .i64 p.S] := rfl
  rw [hv]
  clear hv
  go_enter Try.func17, Try.ntmps17
  go_wp2_with fail
  refine (count_any p n m _ (by omega) HM.out).mono ?_
  rintro e w1 ⟨rfl, hb⟩
  have pc := (PCells.new w p 23).keep hb (by simp)
  have b1 : Below w.heap.size w w1 := ((Below.refl _ _).alloc (Nat.le_refl _) _).trans (hb.mono (by simp))
  go_wp2_with fail
  have hlt0 := pc.lt
  clear hb
  generalize hg : w.heap.size = g at *
  have HG := hid hg
  clear hg
  obtain ⟨G, hG⟩ : ∃ G, G = w1.heap.size := ⟨_, rfl⟩
  have g1 : g ≤ G := by omega
  have s1 : G ≤ w1.heap.size := by omega
  have hlt0 : g < G := by omega
  have GG := hid hG
  clear hG
  go_loopw [5, 12] (fun v i wr => ∃ (k : Nat) (vs : List Value) (Ao : Option Addr) (co : Nat), k ≤ m ∧ i = .int .i64 k ∧ v = .slice Ao k co ∧ OBs G wr (.slice Ao k co) vs ((List.range k).map (blk p.size.toNat l)) ∧ Below G w1 wr) (fun _ i _ => m - (intOf i).toNat)
  case atStart => exact ⟨0, [], none, 0, by omega, rfl, rfl, OBs.nil_ _ _, Below.refl _ _⟩
  case round =>
    obtain ⟨k, vs, Ao, co, hk, rfl, rfl, ho, hbw⟩ := hrel
    have hlen := hid (show ((List.range k).map (blk p.size.toNat l)).length = k by simp)
    by_cases hlt : k < m
    · have hmay : p.may = true := by
        by_cases hh : p.may = true
        · exact hh
        · have := HM.out; rw [countP_no (fun h => hh h.1)] at this; omega
      have hok := Par.may_ok hmay
      have hs1 := Par.size_le hok
      obtain ⟨z, hz⟩ : ∃ z : Nat, p.size = (z : Int) := ⟨p.size.toNat, by omega⟩
      have hzl : 1 ≤ z := by omega
      have hzu : z ≤ 384 := by omega
      have hn0 : 0 < n := by
        rcases Nat.eq_zero_or_pos n with h0 | h0
        · have := HM.out; rw [h0] at this; rw [countP_no (by simp)] at this; omega
        · exact h0
      obtain ⟨q, hq⟩ : ∃ q : Nat, (k : Int) * (z : Int) = (q : Int) := ⟨k * z, by simp⟩
      have hqn : q < n := by
        have h1 := HM.out
        rw [countP_yes hmay (by omega), hz] at h1
        have h2 : (k : Int) ≤ ((n : Int) - 1) / (z : Int) := by omega
        have h3 : (k : Int) * (z : Int) ≤ ((n : Int) - 1) / (z : Int) * (z : Int) := Int.mul_le_mul_of_nonneg_right h2 (by omega)
        have h4 := Int.ediv_mul_le ((n : Int) - 1) (show (z : Int) ≠ 0 by omega)
        omega
      have hqk : q = k * z := by
        have : ((k * z : Nat) : Int) = (q : Int) := by rw [Int.natCast_mul]; exact hq
        omega
      have HO := hid hok
      have HZ := hid hz
      have HQ := hid hqk
      have hzn := hid (show p.size.toNat = z by omega)
      clear hok hs1 hmay hz hqk
      have hne : ¬ c = q := by omega
      have hsl := h.below (b1.mono hB)
      have pr := pc.keep hbw hlt0
      obtain ⟨r0, r1, r2⟩ := pr
      go_wp2_with fail
      refine (size_any p z _ HO.out HZ.out).mono ?_
      rintro e w2 ⟨rfl, hb2⟩
      have p2 := PCells.keep ⟨r0, r1, r2⟩ hb2 (by have := hbw.size; omega)
      clear r0 r1 r2
      go_wp2_with (at_make; refine wpl_make _ rfl (.tmp 16) (.tmp 16) 30 rfl 5 i0 (.int .u8 0) 1 Try.underlying30 hi hz0 hz1 hz2 rfl .i64 .i64 _ _ z z rfl rfl rfl rfl (by omega) (by omega) (by omega) ?_; intro w3 x3 b3 s3; obtain ⟨d0, d1, d2⟩ := p2.keep b3 p2.lt)
      refine (size_any p z _ HO.out HZ.out).mono ?_
      rintro e w4 ⟨rfl, hb4⟩
      have b4 : Below wr.heap.size wr w4 := (hb2.trans (b3.mono hb2.size)).trans (hb4.mono (Nat.le_trans hb2.size b3.size))
      have x4 := x3.below hb4 x3.lt
      generalize hr : w2.heap.size = r at *
      have hr1 : wr.heap.size ≤ r := by have := hb2.size; omega
      have HR := hid hr
      clear hr x3
      have sx : Sl w4 G 1 (A.map (·.add q)) (n - q) ((l.drop q).map bv8) := by
        have := ((h.below (b1.mono hB)).mono (by omega : B ≤ G)).below (hbw.trans (b4.mono (by have := hbw.size; omega)))
        have := this.cut (k := q) (m := n) (c := c) (by omega) (by omega) hc
        rw [if_neg hne, Nat.mul_one, Nat.mul_one, ← List.map_drop, ← List.map_take, List.take_of_length_le (by rw [List.length_drop, HL.out]; omega)] at this
        exact this
      go_wp2_with (first
        | ((with_reducible show wpList _ _ _ (⟨some 25, _, _, _, _, _⟩ :: _) _ _); go_must (refine wpl_copy rfl (.tmp 18) (.tmp 24) 30 30 rfl 5 Try.underlying30 hsz _ _ z z (n - q) (c - q) rfl rfl r 0 _ 5 x4 G _ sx (fun _ => rfl) (by simp; omega) (u8s_cell _) ?_); intro w5 x5 g5; rw [blk_at l hzn.out HQ.out] at x5; have ob := blk_own (g := G) hzn.out x5 (by have := hbw.size; omega) (by omega); have b5 := below_fresh b4 g5 hr1; have ho5 := ho.below b5; have hw5 := ho5.own; rw [hlen.out] at hw5)
        | (at_builtin; go_must (refine wpl_append rfl (.tmp 26) (.tmp 28) 31 rfl G 30 i1 (.slice none 0 0) 1 24 Try.underlying31 hi' hz0' hz1' hz2' rfl (by omega) (.slice Ao k co) k vs rfl (hw5.alloc _) _ _ 1 1 _ rfl (Sl.fresh _ _ _ _ 1 rfl) (by simp [Value.oneCell']) (k + 1) rfl _ rfl (by omega) (by omega) (by have := b5.size; have := hbw.size; simp; omega) ?_); intro A6 c6 w6 o6 g6 _))
      have b6 : Below G w1 w6 := below_own ((hbw.trans (b5.mono (by have := hbw.size; omega))).alloc (by have := hbw.size; have := b5.size; omega) _) (hw5.alloc _) g6 (Nat.le_refl _) (by have := hbw.size; have := b5.size; simp; omega)
      have ho6 := (ho5.below ((Below.refl _ _).alloc (Nat.le_refl _) _)).push (ob.below ((Below.refl _ _).alloc (Nat.le_refl _) _)) (by rw [hlen.out]; exact o6) g6
      go_roundw
      case rel => exact ⟨k + 1, _, A6, c6, by omega, by go_num, rfl, by rw [List.range_succ, List.map_append]; exact ho6, b6⟩
      case measure => simp [intOf]; omega
    · have hkm : m = k := by omega
      subst hkm
      go_wp2_with fail
      go_ret
      refine ⟨_, vs, rfl, ?_, ?_⟩
      · have hbl : blocks p l = (List.range m).map (blk p.size.toNat l) := by
          unfold blocks; rw [HL.out, HM.out]; simp
        rw [hbl, HG.out]
        exact ho.base g1
      · rw [HG.out]
        exact b1.trans (hbw.mono g1)
end Go.Proofs.Ytnamnoaedfbhpaa
