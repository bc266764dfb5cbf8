/- The walks of chapter 15's laws. -/
import Derived.Test.YtkabbfbbdcmaoaaSum
import Derived.Test.YtkabbfbbdcmaoaaFrame
import Derived.Test.YtkabbfbbdcmaoaaTurn
import Derived.StillTailTactics
namespace Go.Proofs.Ytkabbfbbdcmaoaa
open Go.RowKit Wells

theorem below_drewN {B : Nat} {a w : World} (h : Below B a w) (n : Nat) : Below B a (w.drewN n) := ⟨h.os, h.tape, h.output, h.size, h.block⟩
theorem walk_SumTells (A : Option Addr) (n c : Nat) (l : List Byte) (w : World) (h : IsBytes w A n c l) :
    Calls Try.prog 3 #[.slice A n c] w fun e w' => e = .returned (.bool true) ∧ Below w.heap.size w w' := by
  obtain ⟨hs, hle, hcap⟩ := h
  obtain ⟨m, hm⟩ : ∃ m, m = min n 300 := ⟨_, rfl⟩
  have hml : m ≤ 300 := by omega
  have hmn : m ≤ n := by omega
  have hs' : Sl w w.heap.size 1 A m ((l.take m).map u8) := by
    have := hs.take hmn
    rwa [Nat.mul_one, ← List.map_take] at this
  generalize l.take m = l' at hs'
  have HM := hid hm
  clear hm
  go_enter Try.func3, Try.ntmps3
  go_wp2_with fail
  refine (cut_any A n c m 300 _ (by omega) (by omega) (by omega) hle HM.out).mono ?_
  rintro e w1 ⟨rfl, rfl⟩
  go_wp2_with fail
  refine (spare_any _ A l' m c 71#8 _ hs' (Nat.le_refl _) (by omega)).mono ?_
  rintro e w1 ⟨g, rfl, hg, hr, hb⟩
  have hsr : Sl w1 (w1.heap.size) 1 (some ⟨g, 0, none⟩) m (l'.map u8) := by
    have := hr.sl (B := w1.heap.size) (m := m) hr.lt (by have := hs'.len; simp at this; simp [this])
    rwa [List.take_append_of_le_length (by have := hs'.len; simp at this; simp [this]), List.take_of_length_le (by have := hs'.len; simp at this; simp [this])] at this
  go_wp2_with fail
  refine (sum_any _ _ l' m _ _ hsr (by omega)).mono ?_
  rintro e w2 ⟨rfl, rfl⟩
  go_wp2_with fail
  refine (refsum_any _ _ l' m _ _ (hs'.below hb) (by omega)).mono ?_
  rintro e w2 ⟨rfl, rfl⟩
  go_wp2_with fail
  refine (kept_any _ A g l' m c 71#8 _ (hs'.below hb) hr (by omega)).mono ?_
  rintro e w2 ⟨rfl, d, rfl⟩
  go_wp2_with fail
  refine (wakes15 _).mono ?_
  rintro e w3 ⟨rfl, hb3⟩
  go_wp2
  go_ret
  exact ⟨rfl, (below_drewN hb d).trans (hb3.mono hb.size)⟩

theorem le4_val (x : BitVec 32) : (le4 x).map u8 = [.int .u8 ((x.toNat : Int) % 256), .int .u8 ((x.toNat : Int) / 256 % 256), .int .u8 ((x.toNat : Int) / 65536 % 256), .int .u8 ((x.toNat : Int) / 16777216)] := by
  simp only [le4, List.map_cons, List.map_nil, u8, BitVec.toNat_setWidth, BitVec.toNat_ushiftRight, Nat.shiftRight_eq_div_pow]
  have h := x.isLt
  simp
  omega
theorem walk_SumBehind (A : Option Addr) (n c : Nat) (l : List Byte) (w : World) (h : IsBytes w A n c l) :
    Calls Try.prog 5 #[.slice A n c] w fun e w' => e = .returned (.bool true) ∧ Below w.heap.size w w' := by
  obtain ⟨hs, hle, hcap⟩ := h
  obtain ⟨m, hm⟩ : ∃ m, m = min n 300 := ⟨_, rfl⟩
  have hml : m ≤ 300 := by omega
  have hmn : m ≤ n := by omega
  have hs' : Sl w w.heap.size 1 A m ((l.take m).map u8) := by
    have := hs.take hmn
    rwa [Nat.mul_one, ← List.map_take] at this
  generalize l.take m = l' at hs'
  have HM := hid hm
  clear hm
  obtain ⟨i0, hi, hz0, hz1, hz2⟩ := info_parts infoU8
  go_enter Try.func5, Try.ntmps5
  go_wp2_with fail
  refine (cut_any A n c m 300 _ (by omega) (by omega) (by omega) hle HM.out).mono ?_
  rintro e w1 ⟨rfl, rfl⟩
  go_wp2_with fail
  refine (sum_any _ A l' m c _ hs' (by omega)).mono ?_
  rintro e w1 ⟨rfl, rfl⟩
  have hx := (crc l').isLt
  go_wp2_with (first
    | (at_builtin; refine wpl_append rfl (.const (.slice none 0 0)) (.tmp 9) 22 rfl w.heap.size 5 i0 (.int .u8 0) 1 1 Try.underlying22 hi hz0 hz1 hz2 rfl (by omega) (.slice none 0 0) 0 [] rfl (World.ownsRow_nil _ _ _ _) _ A m c _ rfl hs' (u8s_one l') m (by omega) (l'.map u8) rfl (by omega) (by omega) (Nat.le_refl _) ?_; intro A1 c1 w1 o1 g1 k1)
    | (at_builtin; refine wpl_append rfl (.tmp 10) (.tmp 22) 22 rfl w.heap.size 5 i0 (.int .u8 0) 1 1 Try.underlying22 hi hz0 hz1 hz2 rfl (by omega) (.slice A1 m c1) m (l'.map u8) rfl (o1.alloc _) _ _ 4 4 _ rfl (Sl.fresh _ _ _ _ 4 rfl) (by simp [Value.oneCell']) (m + 4) rfl ((l' ++ le4 (crc l')).map u8) (by rw [List.map_append, le4_val]) (by omega) (by omega) (by have := g1.size; simp; omega) ?_; intro A2 c2 w2 o2 g2 k2))
  have b2 : Below w.heap.size w w2 := below_own ((below_own (Below.refl _ _) (World.ownsRow_nil w w.heap.size 5 1) g1 (Nat.le_refl _) (Nat.le_refl _)).alloc g1.size _) (o1.alloc _) g2 (Nat.le_refl _) (by have := g1.size; simp; omega)
  have hv : ((crc (l' ++ le4 (crc l'))).toNat : Int) = 558161692 := by rw [crc_behind]; rfl
  refine (sum_any _ A2 (l' ++ le4 (crc l')) (m + 4) c2 _ (Sl.own o2) (by omega)).mono ?_
  rintro e w3 ⟨rfl, rfl⟩
  rw [hv]
  go_wp2_with fail
  refine (wakes15 _).mono ?_
  rintro e w3 ⟨rfl, hb3⟩
  go_wp2
  go_ret
  exact ⟨rfl, b2.trans (hb3.mono b2.size)⟩

def third (l : List Byte) (m k : Nat) : List Byte := (l.drop (k * m)).take m
theorem third_get (l : List Byte) (m k i : Nat) (hi : i < m) (hl : (k + 1) * m ≤ l.length) : (l.map u8)[k * m + i]? = some (.int .u8 (((third l m k).getD i 0).toNat : Int)) := by
  have h1 : k * m + i < l.length := by have : (k + 1) * m = k * m + m := Nat.succ_mul k m; omega
  rw [u8_get l _ h1]
  congr 2
  unfold third
  rw [List.getD_eq_getElem?_getD, List.getD_eq_getElem?_getD, List.getElem?_take, if_pos hi, List.getElem?_drop]
def joinRow (a b c : List Byte) (m k : Nat) : List Value := ((xr (xr a b) c).take k).map u8 ++ List.replicate (m - k) (.int .u8 0)
theorem joinRow_set (a b c : List Byte) (m k : Nat) (hk : k < m) (ha : a.length = m) (hb : b.length = m) (hc : c.length = m) :
    (joinRow a b c m k).set k (.int .u8 ((a.getD k 0 ^^^ b.getD k 0 ^^^ c.getD k 0).toNat : Int)) = joinRow a b c m (k + 1) := by
  have hlen : (xr (xr a b) c).length = m := by rw [xr_length, xr_length]; omega
  unfold joinRow
  rw [List.set_append_right _ _ (by simp [hlen]; omega)]
  rw [List.take_succ_eq_append_getElem (by omega), List.map_append, List.append_assoc]
  congr 1
  have h1 : (((xr (xr a b) c).take k).map u8).length = k := by simp [hlen]; omega
  rw [h1, Nat.sub_self, show m - k = (m - (k + 1)) + 1 by omega, List.replicate_succ, List.set_cons_zero]
  simp [xr, u8, ha, hb, hc, hk]
theorem walk_SumJoins (A : Option Addr) (n c : Nat) (l : List Byte) (w : World) (h : IsBytes w A n c l) :
    Calls Try.prog 4 #[.slice A n c] w fun e w' => e = .returned (.bool true) ∧ Below w.heap.size w w' := by
  obtain ⟨hs, hle, hcap⟩ := h
  obtain ⟨p, hm⟩ : ∃ p, p = min n 240 := ⟨_, rfl⟩
  have hml : p ≤ 240 := by omega
  have hmn : p ≤ n := by omega
  have hs' : Sl w w.heap.size 1 A p ((l.take p).map u8) := by
    have := hs.take hmn
    rwa [Nat.mul_one, ← List.map_take] at this
  generalize l.take p = l' at hs'
  have HM := hid hm
  clear hm
  obtain ⟨i0, hi, hz0, hz1, hz2⟩ := info_parts infoU8
  go_enter Try.func4, Try.ntmps4
  go_wp2_with fail
  refine (cut_any A n c p 240 _ (by omega) (by omega) (by omega) hle HM.out).mono ?_
  rintro e w1 ⟨rfl, rfl⟩
  obtain ⟨m, hm3⟩ : ∃ m, m = p / 3 := ⟨_, rfl⟩
  have h3m : 3 * m ≤ p := by omega
  have hq : ((p : Int) / 3) = (m : Int) := by omega
  have HQ := hid hm3
  clear hm3
  go_wp2_with (first
    | (at_make; refine wpl_make _ rfl (.tmp 11) (.tmp 11) 22 rfl 5 i0 (.int .u8 0) 1 Try.underlying22 hi hz0 hz1 hz2 rfl .i64 .i64 _ _ m m rfl rfl rfl rfl (by omega) (by omega) (by omega) ?_; intro w1 r1 b1 s1))
  have HLp := hid (show l'.length = p by have := hs'.len; simpa using this)
  obtain ⟨x, hx⟩ : ∃ x, x = third l' m 0 := ⟨_, rfl⟩
  obtain ⟨y, hy⟩ : ∃ y, y = third l' m 1 := ⟨_, rfl⟩
  obtain ⟨z, hz⟩ : ∃ z, z = third l' m 2 := ⟨_, rfl⟩
  have HX := hid hx
  have HY := hid hy
  have HZ := hid hz
  have hxl := hid (show x.length = m by rw [hx]; simp [third, HLp.out]; omega)
  have hyl := hid (show y.length = m by rw [hy]; simp [third, HLp.out]; omega)
  have hzl := hid (show z.length = m by rw [hz]; simp [third, HLp.out]; omega)
  clear hx hy hz
  have R0 : Row w1 w.heap.size 5 (joinRow x y z m 0) := by simpa [joinRow] using r1
  generalize hg : w.heap.size = g at *
  have HG := hid hg
  clear hg r1
  go_loopw [15] (fun i wr => ∃ k : Nat, k ≤ m ∧ i = .int .i64 k ∧ Row wr g 5 (joinRow x y z m k) ∧ Below g w wr) (fun i _ => m - (intOf i).toNat)
  case atStart => exact ⟨0, by omega, rfl, R0, b1⟩
  case round =>
    obtain ⟨k, hk, rfl, hr, hbw⟩ := hrel
    by_cases hlt : k < m
    · obtain ⟨b, o, rfl, hb, hc⟩ := (hs'.below hbw).at_ (by omega)
      have hc0 := hc _ _ (third_get l' m 0 k hlt (by rw [HLp.out]; omega))
      have hc1 := hc _ _ (third_get l' m 1 k hlt (by rw [HLp.out]; omega))
      have hc2 := hc _ _ (third_get l' m 2 k hlt (by rw [HLp.out]; omega))
      rw [← HX.out] at hc0
      rw [← HY.out] at hc1
      rw [← HZ.out] at hc2
      simp only [Nat.zero_mul, Nat.zero_add, Nat.one_mul] at hc0 hc1
      have hset := joinRow_set x y z m k hlt hxl.out hyl.out hzl.out
      have hfz := hr.frozen k
      have hcl := hr.cell k
      obtain ⟨u, hu⟩ : ∃ u, (joinRow x y z m k)[k]? = some u := ⟨_, List.getElem?_eq_getElem (by simp [joinRow, xr_length, hxl.out, hyl.out, hzl.out]; omega)⟩
      rw [hu] at hcl
      have hR := hr.set k (.int .u8 ((x.getD k 0 ^^^ y.getD k 0 ^^^ z.getD k 0).toNat : Int))
      rw [hset] at hR
      clear hset hu hr hc
      generalize x.getD k 0 = xk at *
      generalize y.getD k 0 = yk at *
      generalize z.getD k 0 = zk at *
      have e1 := x8 xk yk
      have e2 := x8 (xk ^^^ yk) zk
      generalize xk ^^^ yk = xy at *
      generalize xy ^^^ zk = xyz at *
      go_wp2
      go_region
      all_goals go_wp2
      go_roundw
      case rel => exact ⟨k + 1, by omega, by go_num, hR, (hbw.setCell (Nat.le_refl _) _).drew⟩
      case measure => simp [intOf]; omega
    · have hkm : m = k := by omega
      subst hkm
      have hsw := hs'.below hbw
      have s0 : Sl wr g 1 A m (x.map u8) := by
        have := hsw.take (m := m) (by omega)
        rw [Nat.mul_one, ← List.map_take] at this
        rw [HX.out]; simpa [third] using this
      have s1 : Sl wr g 1 (if c = m then A else A.map (·.add m)) m (y.map u8) := by
        have := hsw.cut (k := m) (m := 2 * m) (c := c) (by omega) (by omega) (by omega)
        rw [Nat.mul_one, show 2 * m - m = m by omega, Nat.mul_one, ← List.map_drop, ← List.map_take] at this
        rw [HY.out]; simpa [third] using this
      have s2 : Sl wr g 1 (if c = 2 * m then A else A.map (·.add (2 * m))) m (z.map u8) := by
        have := hsw.cut (k := 2 * m) (m := 3 * m) (c := c) (by omega) (by omega) (by omega)
        rw [Nat.mul_one, show 3 * m - 2 * m = m by omega, Nat.mul_one, ← List.map_drop, ← List.map_take] at this
        rw [HZ.out]; simpa [third] using this
      have sx : Sl wr (g + 1) 1 (some ⟨g, 0, none⟩) m ((xr (xr x y) z).map u8) := by
        have hlen : (xr (xr x y) z).length = m := by rw [xr_length, xr_length, hxl.out, hyl.out, hzl.out]; omega
        have := hr.sl (B := g + 1) (m := m) (by omega) (by simp [joinRow, hlen])
        have e : (joinRow x y z m m).take m = (xr (xr x y) z).map u8 := by simp only [joinRow, Nat.sub_self, List.replicate_zero, List.append_nil]; rw [List.take_of_length_le (by simp [hlen]), List.take_of_length_le (by omega)]
        rwa [e] at this
      have hj : ((crc (xr (xr x y) z)).toNat : Int) = ((crc x ^^^ crc y ^^^ crc z).toNat : Int) := by rw [crc_joins _ _ _ (by rw [hxl.out, hyl.out]) (by rw [hxl.out, hzl.out])]
      have e1 := x32 (crc x) (crc y)
      have e2 := x32 (crc x ^^^ crc y) (crc z)
      generalize crc x ^^^ crc y = cxy at *
      generalize cxy ^^^ crc z = cxyz at *
      clear hr hsw
      go_wp2
      obtain ⟨m2, hm2⟩ : ∃ m2, m2 = 2 * m := ⟨_, rfl⟩
      obtain ⟨m3, hm3⟩ : ∃ m3, m3 = 3 * m := ⟨_, rfl⟩
      have f1 : m ≤ c := by omega
      have f2 : m ≤ m2 := by omega
      have f3 : m2 ≤ c := by omega
      have f4 : m2 ≤ m3 := by omega
      have f5 : m3 ≤ c := by omega
      have f6 : IntKind.i64.wrap (2 * (m : Int)) = (m2 : Int) := by rw [IntKind.wrap_i64]; omega
      have f7 : IntKind.i64.wrap (3 * (m : Int)) = (m3 : Int) := by rw [IntKind.wrap_i64]; omega
      have f8 : m2 - m = m := by omega
      have f9 : m3 - m2 = m := by omega
      rw [← hm2] at s2
      clear hm2 hm3
      refine wp_region_still_tail 23 (by kernel_rfl) (by kernel_rfl) ?_
      simp only [List.take_succ_cons, List.take_zero, List.drop_succ_cons, List.drop_zero]
      have hsum : ∀ (A : Option Addr) (l : List Byte) (n c B : Nat) (W : World), Sl W B 1 A n (l.map u8) → n ≤ 9223372036854775807 → Calls Try.prog 9 #[.slice A n c] W fun e w' => e = .returned (.int .u32 ((crc l).toNat : Int)) ∧ w' = W :=
        fun A l n c B W h hn => (sum_any B A l n c W h hn).mono fun _ _ hh => ⟨hh.1, hh.2.symm⟩
      have Hsum := hid hsum
      clear hsum
      repeat still_step
      still_call (Hsum.out _ _ _ _ _ _ sx.drew (by omega))
      repeat still_step
      still_call (Hsum.out _ _ _ _ _ _ s0.drew (by omega))
      repeat still_step
      still_call (Hsum.out _ _ _ _ _ _ s1.drew (by omega))
      repeat still_step
      still_call (Hsum.out _ _ _ _ _ _ s2.drew (by omega))
      repeat still_step
      refine wpStill_nil ?_
      have hbg : Below w.heap.size w wr := by rw [HG.out]; exact hbw
      go_wp2_with fail
      all_goals
        refine (wakes15 _).mono ?_
        rintro e w3 ⟨rfl, hb3⟩
        go_wp2
        go_ret
        exact ⟨rfl, hbg.drew.trans (hb3.mono hbg.size)⟩

theorem le4_surj (b0 b1 b2 b3 : Byte) : ∃ c, le4 c = [b0, b1, b2, b3] := by
  have h0 := b0.isLt
  have h1 := b1.isLt
  have h2 := b2.isLt
  have h3 := b3.isLt
  refine ⟨BitVec.ofNat 32 (b0.toNat + 256 * b1.toNat + 65536 * b2.toNat + 16777216 * b3.toNat), ?_⟩
  have e : (BitVec.ofNat 32 (b0.toNat + 256 * b1.toNat + 65536 * b2.toNat + 16777216 * b3.toNat)).toNat = b0.toNat + 256 * b1.toNat + 65536 * b2.toNat + 16777216 * b3.toNat := by
    rw [BitVec.toNat_ofNat]; omega
  generalize BitVec.ofNat 32 (b0.toNat + 256 * b1.toNat + 65536 * b2.toNat + 16777216 * b3.toNat) = c at e
  unfold le4
  congr 1
  · exact BitVec.eq_of_toNat_eq (by rw [BitVec.toNat_setWidth, e]; omega)
  congr 1
  · exact BitVec.eq_of_toNat_eq (by rw [BitVec.toNat_setWidth, BitVec.toNat_ushiftRight, Nat.shiftRight_eq_div_pow, e]; omega)
  congr 1
  · exact BitVec.eq_of_toNat_eq (by rw [BitVec.toNat_setWidth, BitVec.toNat_ushiftRight, Nat.shiftRight_eq_div_pow, e]; omega)
  congr 1
  · exact BitVec.eq_of_toNat_eq (by rw [BitVec.toNat_setWidth, BitVec.toNat_ushiftRight, Nat.shiftRight_eq_div_pow, e]; omega)
theorem split4 (x : List Byte) (n : Nat) (h : x.length = n + 4) : ∃ b c, x = b ++ le4 c ∧ b.length = n := by
  obtain ⟨c, hc⟩ := le4_surj (x.getD n 0) (x.getD (n + 1) 0) (x.getD (n + 2) 0) (x.getD (n + 3) 0)
  refine ⟨x.take n, c, ?_, by simp; omega⟩
  rw [hc]
  have e : x.drop n = [x.getD n 0, x.getD (n + 1) 0, x.getD (n + 2) 0, x.getD (n + 3) 0] := by
    apply List.ext_getElem?
    intro i
    rw [List.getElem?_drop]
    by_cases hi : i < 4
    · obtain rfl | rfl | rfl | rfl : i = 0 ∨ i = 1 ∨ i = 2 ∨ i = 3 := by omega
      all_goals (rw [List.getElem?_eq_getElem (by omega)]; simp [show n < x.length by omega, show n + 1 < x.length by omega, show n + 2 < x.length by omega, show n + 3 < x.length by omega])
    · rw [List.getElem?_eq_none (by omega), List.getElem?_eq_none (by simp; omega)]
  rw [← e, List.take_append_drop]
theorem walk_SumBurst (A : Option Addr) (n c : Nat) (l : List Byte) (a1 a2 : Int) (w : World) (h : IsBytes w A n c l) (ha1 : -9223372036854775808 ≤ a1 ∧ a1 ≤ 9223372036854775807) (ha2 : 0 ≤ a2 ∧ a2 ≤ 18446744073709551615) :
    Calls Try.prog 6 #[.slice A n c, .int .i64 a1, .int .u64 a2] w fun e w' => e = .returned (.bool true) ∧ Below w.heap.size w w' := by
  obtain ⟨hs, hle, hcap⟩ := h
  obtain ⟨m, hm⟩ : ∃ m, m = min n 300 := ⟨_, rfl⟩
  have hml : m ≤ 300 := by omega
  have hmn : m ≤ n := by omega
  have hs' : Sl w w.heap.size 1 A m ((l.take m).map u8) := by
    have := hs.take hmn
    rwa [Nat.mul_one, ← List.map_take] at this
  generalize l.take m = l' at hs'
  have HL := hid (show l'.length = m by have := hs'.len; simpa using this)
  have HM := hid hm
  clear hm
  obtain ⟨i0, hi, hz0, hz1, hz2⟩ := info_parts infoU8
  go_enter Try.func6, Try.ntmps6
  go_wp2_with fail
  refine (cut_any A n c m 300 _ (by omega) (by omega) (by omega) hle HM.out).mono ?_
  rintro e w1 ⟨rfl, rfl⟩
  go_wp2_with fail
  refine (sum_any _ A l' m c _ hs' (by omega)).mono ?_
  rintro e w1 ⟨rfl, rfl⟩
  have hx := (crc l').isLt
  go_wp2_with (first
    | (at_builtin; refine wpl_append rfl (.const (.slice none 0 0)) (.tmp 17) 22 rfl w.heap.size 5 i0 (.int .u8 0) 1 1 Try.underlying22 hi hz0 hz1 hz2 rfl (by omega) (.slice none 0 0) 0 [] rfl (World.ownsRow_nil _ _ _ _) _ A m c _ rfl hs' (u8s_one l') m (by omega) (l'.map u8) rfl (by omega) (by omega) (Nat.le_refl _) ?_; intro A1 c1 w1 o1 g1 k1)
    | (at_builtin; refine wpl_append rfl (.tmp 18) (.tmp 30) 22 rfl w.heap.size 5 i0 (.int .u8 0) 1 1 Try.underlying22 hi hz0 hz1 hz2 rfl (by omega) (.slice A1 m c1) m (l'.map u8) rfl (o1.alloc _) _ _ 4 4 _ rfl (Sl.fresh _ _ _ _ 4 rfl) (by simp [Value.oneCell']) (m + 4) rfl ((l' ++ le4 (crc l')).map u8) (by rw [List.map_append, le4_val]) (by omega) (by omega) (by have := g1.size; simp; omega) ?_; intro A2 c2 w2 o2 g2 k2))
  have b2 : Below w.heap.size w w2 := below_own ((below_own (Below.refl _ _) (World.ownsRow_nil w w.heap.size 5 1) g1 (Nat.le_refl _) (Nat.le_refl _)).alloc g1.size _) (o1.alloc _) g2 (Nat.le_refl _) (by have := g1.size; simp; omega)
  obtain ⟨bit, hbit⟩ : ∃ bit : Nat, (bit : Int) = a1 % (8 * ((m : Int) + 4)) := ⟨(a1 % (8 * ((m : Int) + 4))).toNat, by have := Int.emod_nonneg a1 (show (8 * ((m : Int) + 4)) ≠ 0 by omega); omega⟩
  have hb8 : bit < 8 * (m + 4) := by have := Int.emod_lt_of_pos a1 (show 0 < (8 * ((m : Int) + 4)) by omega); omega
  obtain ⟨mask, hmask⟩ : ∃ mask : BitVec 32, (mask.toNat : Int) = a2 % 4294967296 := ⟨BitVec.ofNat 32 a2.toNat, by rw [BitVec.toNat_ofNat]; omega⟩
  have HB := hid hbit
  have HK := hid hmask
  clear hbit hmask
  refine (within_any a1 _ _ ha1.1 ha1.2 (by omega) (by omega)).mono ?_
  rintro e w3 ⟨rfl, rfl⟩
  rw [← HB.out]
  go_wp2_with fail
  rw [← HK.out]
  refine (walk_Turn w.heap.size A2 (m + 4) c2 _ bit mask _ o2 (by omega) (by omega) hb8).mono ?_
  rintro e w3 ⟨rfl, o3, g3⟩
  have b3 : Below w.heap.size w w3 := below_own b2 o2 g3 (Nat.le_refl _) b2.size
  obtain ⟨x', c', hx', hxl⟩ := split4 (xr (l' ++ le4 (crc l')) (errL (m + 4) bit mask 32)) m (by rw [xr_length, errL_length, List.length_append, HL.out]; simp [le4])
  have hbu := crc_burst l' bit mask x' c' (by rw [HL.out]; omega) (by rw [HL.out]; exact hx')
  rw [HL.out] at hbu
  rw [hx'] at o3
  have s3 := Sl.own o3
  have sx : Sl w3 w3.heap.size 1 A2 m (x'.map u8) := by
    have := s3.take (m := m) (by omega)
    rwa [Nat.mul_one, List.map_append, List.take_append_of_le_length (by simp [hxl]), List.take_of_length_le (by simp [hxl])] at this
  obtain ⟨hc2, hc2'⟩ := own_cap o2
  obtain ⟨b, o, rfl, hb, hc⟩ := s3.at_ (by omega)
  have e4 : (x' ++ le4 c').map u8 = x'.map u8 ++ [.int .u8 ((c'.toNat : Int) % 256), .int .u8 ((c'.toNat : Int) / 256 % 256), .int .u8 ((c'.toNat : Int) / 65536 % 256), .int .u8 ((c'.toNat : Int) / 16777216)] := by rw [List.map_append, le4_val]
  rw [e4] at hc
  have hk0 := hc m _ (by rw [List.getElem?_append_right (by simp [hxl])]; simp [hxl]; rfl)
  have hk1 := hc (m + 1) _ (by rw [List.getElem?_append_right (by simp [hxl])]; simp [hxl]; rfl)
  have hk2 := hc (m + 2) _ (by rw [List.getElem?_append_right (by simp [hxl])]; simp [hxl]; rfl)
  have hk3 := hc (m + 3) _ (by rw [List.getElem?_append_right (by simp [hxl])]; simp [hxl]; rfl)
  have hcl := c'.isLt
  have htl := (crc x').isLt
  clear hc e4 o3 o2 o1 s3 hs hs'
  generalize hT : turnN (m + 4) bit mask 32 = T at *
  generalize hC : crc x' = cx at *
  have HC := hid hC
  clear hT hC hxl hx'
  by_cases h0 : T = 0
  · have hcc : c' = cx := hbu.2 h0
    subst hcc
    have HU := hid hbu
    clear hbu
    have ht0 : ((T : Int) == 0) = true := by simp [h0]
    clear h0
    go_wp2_with fail
    refine (sum_any _ _ x' m _ _ sx (by omega)).mono ?_
    rintro e w4 ⟨rfl, rfl⟩
    rw [HC.out]
    go_wp2_with fail
    refine (wakes15 _).mono ?_
    rintro e w5 ⟨rfl, hb5⟩
    go_wp2
    go_ret
    exact ⟨rfl, b3.trans (hb5.mono b3.size)⟩
  · have hcc : c' ≠ cx := fun h => h0 (hbu.1 h)
    clear hbu
    have ht0 : ((T : Int) == 0) = false := by simp [h0]
    clear h0
    go_wp2_with fail
    refine (sum_any _ _ x' m _ _ sx (by omega)).mono ?_
    rintro e w4 ⟨rfl, rfl⟩
    rw [HC.out]
    go_wp2_with fail
    · exact absurd (BitVec.eq_of_toNat_eq (by omega)) hcc
    all_goals
      refine (wakes15 _).mono ?_
      rintro e w5 ⟨rfl, hb5⟩
      go_wp2
      go_ret
      exact ⟨by first | rfl | exact ret_bool (by simp only [Bool.not_eq_true', beq_eq_false_iff_ne]; assumption), b3.trans (hb5.mono b3.size)⟩
end Go.Proofs.Ytkabbfbbdcmaoaa
