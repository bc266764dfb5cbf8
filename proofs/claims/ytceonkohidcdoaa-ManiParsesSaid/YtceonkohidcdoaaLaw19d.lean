/- The walk of ManiParses. -/
import Derived.Test.YtceonkohidcdoaaWakes19
import Derived.Test.YtceonkohidcdoaaPlayMani
import Derived.Test.YtceonkohidcdoaaSameMani
import Derived.Test.YtceonkohidcdoaaRefParse
import Derived.Test.YtceonkohidcdoaaOwnPut
import Derived.Test.YtceonkohidcdoaaFrame
import Derived.Test.YtceonkohidcdoaaReadApp
import Derived.Test.YtceonkohidcdoaaKeep
import Derived.Deep.DeepCutAuto
import Derived.Deep.CutBlock
namespace Go.Proofs.Ytceonkohidcdoaa
open Go.RowKit Wells
/-- bytes to be read, with their bounds -/
structure RL (w : World) (A : Option Addr) (n c : Nat) (l : List Byte) : Prop where
  sl : Sl w w.heap.size 1 A n (l.map bv8)
  n_ : n ≤ 2000
  nc : n ≤ c
  c_ : c ≤ 9223372036854775807
theorem RL.below {w w' : World} {A : Option Addr} {n c : Nat} {l : List Byte} (h : RL w A n c l) (hb : Below w.heap.size w w') : RL w' A n c l := ⟨(h.sl.below hb).mono hb.size, h.n_, h.nc, h.c_⟩
theorem RL.trans {w0 w w' : World} {A : Option Addr} {n c : Nat} {l : List Byte} (h : RL w A n c l) {B : Nat} (hB : w.heap.size ≤ B) (hb : Below B w w') : RL w' A n c l := h.below (hb.mono hB)
set_option maxRecDepth 20000 in
set_option maxHeartbeats 8000000 in
theorem walk_ManiParses (Ab : Option Addr) (nb cb : Nat) (lb : List Byte) (A : Option Addr) (n c : Nat) (l : List Int) (at_ cc how : Int) (w : World) (hb : IsBytes w Ab nb cb lb) (h : IsInts w A n c l) (ha : -9223372036854775808 ≤ at_ ∧ at_ ≤ 9223372036854775807) (hcc : 0 ≤ cc ∧ cc ≤ 255) (hh : -9223372036854775808 ≤ how ∧ how ≤ 9223372036854775807) :
    Calls Try.prog 4 #[.slice Ab nb cb, .slice A n c, .int .i64 at_, .int .u8 cc, .int .i64 how] w fun e w' => e = .returned (.bool true) ∧ Below w.heap.size w w' := by
  obtain ⟨i0, hi, hz0, hz1, hz2⟩ := info_parts infoB
  obtain ⟨hs, hle, hcap, hwf⟩ := h
  obtain ⟨hsb, hleb, hcapb⟩ := hb
  by_cases h300 : 300 < nb
  · have h3 : (300 : Int) < (nb : Int) := by omega
    go_enter Try.func4, Try.ntmps4
    go_wp2_with fail
    refine (wakes19 _).mono ?_
    rintro e w9 ⟨rfl, hb9⟩
    go_wp2_with fail
    go_ret
    exact ⟨rfl, hb9⟩
  have h3 : ¬ (300 : Int) < (nb : Int) := by omega
  obtain ⟨xc, hxc⟩ : ∃ xc : Byte, (xc.toNat : Int) = cc := ⟨BitVec.ofNat 8 cc.toNat, by rw [BitVec.toNat_ofNat]; omega⟩
  subst hxc
  go_enter Try.func4, Try.ntmps4
  go_wp2_with fail
  refine (mani_any w.heap.size A n c l w hs (Nat.le_refl _) (by omega) hwf).mono ?_
  rintro e w1 ⟨m, Ad, nd, cd, Ao, no, co, ts, rfl, hom, hpl, hb1⟩
  have hmay := hpl.may
  have h64 := hpl.m64
  have HM := hid hom.read
  have HB1 := hid hb1
  have HMAY := hid hmay
  have H64 := hid h64
  clear hom hb1 hmay h64 hpl
  unfold Mani.val
  go_wp2_with fail
  refine (refpack_any m _ _ _ _ _ _ _ _ w1 HM.out (Nat.le_refl _) H64.out.1 H64.out.2).mono ?_
  rintro e w3 ⟨A3, n3, c3, rfl, hn3, hn3', ho3, hb3⟩
  obtain ⟨pk, hpk⟩ : ∃ p, pack m = p := ⟨_, rfl⟩
  have h14 : 14 ≤ n3 := by rw [← hn3]; exact pack_len14 HMAY.out
  rw [hpk] at hn3 ho3
  obtain ⟨A3', c3', e3, hc31, hc32, s3⟩ := ho3.read
  injection e3 with e31 e32 e33
  subst e31 e33
  rw [hn3] at s3 hc31
  have HN3 := hid hn3
  have HB3 := hid (HB1.out.trans (hb3.mono HB1.out.size))
  have HS3 := hid (RL.mk s3 (by omega) hc31 hc32)
  clear hn3 e32 ho3 s3 hb3 hpk
  have hz3 := HB3.out.size
  go_wp2_with (at_builtin; go_must (refine wpl_append rfl (.const (.slice none 0 0)) (.tmp 28) 36 rfl w3.heap.size 5 i0 (.int .u8 0) 1 1 Try.underlying36 hi hz0 hz1 hz2 rfl (by omega) _ 0 [] rfl (World.ownsRow_nil _ _ _ _) _ A3 n3 c3 (pk.map bv8) rfl HS3.out.sl (u8s_cell _) n3 (by omega) (pk.map bv8) rfl (by omega) (by omega) (Nat.le_refl _) ?_); intro A4 c4 w4 o4 g4 wh4; clear wh4; have HO4 := hid o4; have HB4 := hid (below_own (Below.refl w3.heap.size w3) (World.ownsRow_nil w3 w3.heap.size 5 1) g4 (Nat.le_refl _) (Nat.le_refl _)); clear o4 g4)
  obtain ⟨k, hk⟩ : ∃ k, at_ % (n3 : Int) = k := ⟨_, rfl⟩
  have hk0 : 0 ≤ k := by rw [← hk]; exact Int.emod_nonneg _ (by omega)
  have hk1 : k < (n3 : Int) := by rw [← hk]; exact Int.emod_lt_of_pos _ (by omega)
  have HK := hid hk
  obtain ⟨q, hq⟩ : ∃ q, how % 3 = q := ⟨_, rfl⟩
  have hq0 : 0 ≤ q ∧ q < 3 := by omega
  have HQ := hid hq
  clear hk hq
  refine (within_any at_ n3 w4 ha.1 ha.2 (by omega) (by omega)).mono ?_
  rintro e w8 ⟨rfl, rfl⟩
  rw [HK.out]
  obtain ⟨k, rfl⟩ := Int.eq_ofNat_of_zero_le hk0
  have hk2 : k < n3 := by omega
  go_wp2_with fail
  refine (within_any how 3 w4 hh.1 hh.2 (by omega) (by omega)).mono ?_
  rintro e w8 ⟨rfl, rfl⟩
  rw [HQ.out]
  go_upto_block 0 with fail
  go_cut [12] (fun y wx => ∃ (Ay : Option Addr) (ny cy : Nat) (ly : List Byte), y = .slice Ay ny cy ∧ RL wx Ay ny cy ly ∧ Below w3.heap.size w3 wx)
  case first =>
    rcases (show q = 0 ∨ q = 1 ∨ q = 2 by omega) with rfl | rfl | rfl
    · obtain ⟨yb, hyb⟩ : ∃ y, pk.getD k 0 ^^^ xc = y := ⟨_, rfl⟩
      obtain ⟨g, rfl, hgb, hgl, hcy, hfz, hset⟩ := own_put HO4.out hk2 yb
      have hyc : bits .xor .u8 (((pk.getD k 0).toNat : Nat) : Int) (xc.toNat : Int) = (yb.toNat : Int) := by rw [← hyb]; exact x8' _ _
      have hybb := yb.isLt
      have hold := (pk.getD k 0).isLt
      have hxcb := xc.isLt
      generalize pk.getD k 0 = old at *
      clear hyb
      rw [show bv8 yb = Value.int .u8 (yb.toNat : Int) from rfl] at hset
      have hbset : Below w3.heap.size w3 (w4.setCell ⟨g, k, none⟩ (.int .u8 (yb.toNat : Int))) := HB4.out.setCell (p := (⟨g, k, none⟩ : Addr)) hgb _
      obtain ⟨hc1, hc2⟩ := own_cap hset
      have HRL := hid (RL.mk (Sl.own hset) (by omega) hc1 hc2)
      have HBS := hid hbset
      clear hset hbset
      go_wp2_with fail
      go_meet
      exact ⟨_, n3, c4, pk.set k yb, rfl, HRL.out, HBS.out⟩
    · obtain ⟨hc1, hc2⟩ := own_cap HO4.out
      have hkc : k ≤ c4 := by omega
      have hst := (Sl.own HO4.out).take (show k ≤ n3 by omega)
      rw [Nat.mul_one, ← List.map_take] at hst
      have HRL := hid (RL.mk hst (by omega) hkc hc2)
      clear hst
      go_wp2_with fail
      go_meet
      exact ⟨_, k, c4, pk.take k, rfl, HRL.out, HB4.out⟩
    · go_wp2_with (at_builtin; go_must (refine wpl_append rfl (.tmp 36) (.tmp 38) 36 rfl w3.heap.size 5 i0 (.int .u8 0) 1 1 Try.underlying36 hi hz0 hz1 hz2 rfl (by omega) (.slice A4 n3 c4) n3 (pk.map bv8) rfl (HO4.out.alloc _) _ _ 1 1 [.int .u8 (xc.toNat : Int)] rfl (Sl.fresh _ _ _ _ 1 rfl) (by simp [Value.oneCell']) (n3 + 1) rfl ((pk ++ [xc]).map bv8) (by simp [bv8]) (by omega) (by omega) (by have := HB4.out.size; simp; omega) ?_); intro A6 c6 w6 o6 g6 wh6; clear wh6; have HO6 := hid o6; have HB6 := hid (below_own (HB4.out.alloc HB4.out.size (.cells #[.int .u8 (xc.toNat : Int)] 5)) (HO4.out.alloc _) g6 (Nat.le_refl _) (by have := HB4.out.size; simp; omega)); clear o6 g6)
      obtain ⟨hc1, hc2⟩ := own_cap HO6.out
      have HRL := hid (RL.mk (Sl.own HO6.out) (by omega) hc1 hc2)
      go_meet
      exact ⟨_, n3 + 1, c6, pk ++ [xc], rfl, HRL.out, HB6.out⟩
  case rest =>
  obtain ⟨Ay, ny, cy, ly, rfl, hry, hby⟩ := hcut
  have HRY := hid hry
  have HRX := hid (HS3.out.below hby)
  have HBY := hid (HB3.out.trans (hby.mono HB3.out.size))
  have HRB := hid (RL.mk ((hsb.below HBY.out).mono HBY.out.size) (by omega) hleb hcapb)
  clear hry hby hq0
  go_wp2_with fail
  have hcell : ∀ k : Nat, k < 3 → ∃ (Az : Option Addr) (nz cz : Nat) (lz : List Byte), (wc.alloc (.cells #[.slice Ab nb cb, .slice A3 n3 c3, .slice Ay ny cy] 36)).cell? ⟨wc.heap.size, k, none⟩ = some (.slice Az nz cz) ∧ RL (wc.alloc (.cells #[.slice Ab nb cb, .slice A3 n3 c3, .slice Ay ny cy] 36)) Az nz cz lz := by
    have hrw := Row.new wc 36 #[.slice Ab nb cb, .slice A3 n3 c3, .slice Ay ny cy]
    have hbl : Below wc.heap.size wc (wc.alloc (.cells #[.slice Ab nb cb, .slice A3 n3 c3, .slice Ay ny cy] 36)) := (Below.refl _ _).alloc (Nat.le_refl _) _
    intro k hk
    obtain rfl | rfl | rfl : k = 0 ∨ k = 1 ∨ k = 2 := by omega
    · exact ⟨Ab, nb, cb, lb, by rw [hrw.cell]; rfl, HRB.out.below hbl⟩
    · exact ⟨A3, n3, c3, pk, by rw [hrw.cell]; rfl, HRX.out.below hbl⟩
    · exact ⟨Ay, ny, cy, ly, by rw [hrw.cell]; rfl, HRY.out.below hbl⟩
  have hgl : wc.heap.size < (wc.alloc (.cells #[.slice Ab nb cb, .slice A3 n3 c3, .slice Ay ny cy] 36)).heap.size := by simp
  have hb5 := HBY.out.alloc HBY.out.size (.cells #[.slice Ab nb cb, .slice A3 n3 c3, .slice Ay ny cy] 36)
  have HCELL := hid hcell
  clear hcell
  generalize wc.alloc (.cells #[.slice Ab nb cb, .slice A3 n3 c3, .slice Ay ny cy] 36) = w5 at *
  generalize wc.heap.size = g5 at *
  have hz5 := hb5.size
  go_loopw [59] (fun i wr => ∃ k : Nat, k ≤ 3 ∧ i = .int .i64 (k : Int) ∧ Below w5.heap.size w5 wr) (fun i _ => 3 - (intOf i).toNat)
  case atStart => exact ⟨0, by omega, rfl, Below.refl _ _⟩
  case round =>
    obtain ⟨k, hk3, rfl, hbr⟩ := hrel
    have hb0r := hb5.trans (hbr.mono hz5)
    have hzr := hb0r.size
    by_cases hlt : k < 3
    · obtain ⟨Az, nz, cz, lz, hcz, hrz⟩ := HCELL.out k hlt
      replace hcz := (hbr.cell (p := ⟨g5, k, none⟩) hgl).trans hcz
      have HRZ := hid (hrz.below hbr)
      obtain ⟨r, hr⟩ : ∃ r, parseL lz = r := ⟨_, rfl⟩
      have HR := hid hr
      have hlz : lz.length = nz := by have := hrz.sl.len; simpa using this
      have HLZ := hid hlz
      have hnz := hrz.n_
      have hnzc := hrz.nc
      have hczc := hrz.c_
      have HBR := hid hbr
      have hki0 : (0 : Int) ≤ (k : Int) := by omega
      have hki1 : (k : Int) < 3 := by omega
      clear hr hrz hlz
      go_wp2_with fail
      refine (spare_any wr.heap.size Az lz nz cz 71#8 wr HRZ.out.sl (Nat.le_refl _) (by omega)).mono ?_
      rintro e w6 ⟨g6, rfl, hg6, hrow, hb6⟩
      have hs6 : RL w6 (some ⟨g6, 0, none⟩) nz (nz + 2) lz := by
        refine ⟨?_, by omega, by omega, by omega⟩
        have := hrow.sl (B := w6.heap.size) (m := nz) hrow.lt (by simp [HLZ.out])
        rwa [List.take_append_of_le_length (by simp [HLZ.out]), List.take_of_length_le (by simp [HLZ.out])] at this
      have HROW := hid hrow
      have HS6 := hid hs6
      have HRZ := hid (HRZ.out.below hb6)
      have HB6 := hid (HBR.out.trans (hb6.mono HBR.out.size))
      clear hrow hs6 hb6 hg6 hcz
      go_wp2_with fail
      refine (parse_any _ (some ⟨g6, 0, none⟩) nz (nz + 2) lz w6 HS6.out.sl (Nat.le_refl _) (by omega) (by omega) (by omega) r HR.out).mono ?_
      rintro e w7 ⟨Bd, md, dd, Bo, mo, eo, us, rfl, hom7, hb7⟩
      obtain ⟨bo, hbo⟩ : ∃ b, r.isSome = b := ⟨_, rfl⟩
      obtain ⟨q, hq⟩ : ∃ q, r.getD Mani.zero = q := ⟨_, rfl⟩
      rw [hq] at hom7 ⊢
      rw [hbo]
      have HBO := hid hbo
      have HQG := hid hq
      have HROW := hid (HROW.out.below hb7 HROW.out.lt)
      have HRZ := hid (HRZ.out.below hb7)
      have HB7 := hid (HB6.out.trans (hb7.mono HB6.out.size))
      have hrm7 := hom7.read
      clear hbo hq hom7 hb7
      unfold Mani.val
      have hy7 := Row.new w7 27 #[.int .i64 q.seq, .int .i64 q.next, .int .i64 q.P.K, .int .i64 q.P.H, .int .i64 q.P.S, .int .i64 q.extra, (.slice Bd md dd), (.slice Bo mo eo)]
      have hb8 : Below w7.heap.size w7 (w7.alloc (.cells #[.int .i64 q.seq, .int .i64 q.next, .int .i64 q.P.K, .int .i64 q.P.H, .int .i64 q.P.S, .int .i64 q.extra, (.slice Bd md dd), (.slice Bo mo eo)] 27)) := (Below.refl _ _).alloc (Nat.le_refl _) _
      have HY := hid hy7
      have HM7 := hid ((hrm7.below hb8).mono hb8.size)
      have HROW := hid (HROW.out.below hb8 HROW.out.lt)
      have HRZ := hid (HRZ.out.below hb8)
      have HB8 := hid (HB7.out.trans (hb8.mono HB7.out.size))
      clear hy7 hb8 hrm7
      go_wp2_with fail
      generalize w7.alloc (.cells #[.int .i64 q.seq, .int .i64 q.next, .int .i64 q.P.K, .int .i64 q.P.H, .int .i64 q.P.S, .int .i64 q.extra, (.slice Bd md dd), (.slice Bo mo eo)] 27) = w8 at *
      obtain ⟨gy, hgy⟩ : ∃ g, w7.heap.size = g := ⟨_, rfl⟩
      rw [hgy] at HY ⊢
      clear hgy
      refine (refparse_any _ Az nz cz lz w8 HRZ.out.sl (Nat.le_refl _) (by omega) hnzc hczc r HR.out).mono ?_
      rintro e w9 ⟨Cd, kd, ed, Co, ko, fo, vs, rfl, hom9, hb9⟩
      rw [HQG.out] at hom9 ⊢
      rw [HBO.out]
      have HROW := hid (HROW.out.below hb9 HROW.out.lt)
      have HRZ := hid (HRZ.out.below hb9)
      have HY := hid (HY.out.below hb9 HY.out.lt)
      have HM7 := hid ((HM7.out.below hb9).mono hb9.size)
      have HB9 := hid (HB8.out.trans (hb9.mono HB8.out.size))
      have hrm9 := hom9.read
      clear hom9 hb9
      unfold Mani.val
      have hx9 := Row.new w9 27 #[.int .i64 q.seq, .int .i64 q.next, .int .i64 q.P.K, .int .i64 q.P.H, .int .i64 q.P.S, .int .i64 q.extra, (.slice Cd kd ed), (.slice Co ko fo)]
      have hb10 : Below w9.heap.size w9 (w9.alloc (.cells #[.int .i64 q.seq, .int .i64 q.next, .int .i64 q.P.K, .int .i64 q.P.H, .int .i64 q.P.S, .int .i64 q.extra, (.slice Cd kd ed), (.slice Co ko fo)] 27)) := (Below.refl _ _).alloc (Nat.le_refl _) _
      have HM9 := hid ((hrm9.below hb10).mono hb10.size)
      have HM7 := hid ((HM7.out.below hb10).mono hb10.size)
      have hy10 := HY.out.below hb10 HY.out.lt
      have HROW := hid (HROW.out.below hb10 HROW.out.lt)
      have HRZ := hid (HRZ.out.below hb10)
      have HB10 := hid (HB9.out.trans (hb10.mono HB9.out.size))
      have x0 := hx9.cell 0
      have x1 := hx9.cell 1
      have x2 := hx9.cell 2
      have x3 := hx9.cell 3
      have x4 := hx9.cell 4
      have x5 := hx9.cell 5
      have x6 := hx9.cell 6
      have x7 := hx9.cell 7
      have y0 := hy10.cell 0
      have y1 := hy10.cell 1
      have y2 := hy10.cell 2
      have y3 := hy10.cell 3
      have y4 := hy10.cell 4
      have y5 := hy10.cell 5
      have y6 := hy10.cell 6
      have y7 := hy10.cell 7
      simp only [List.getElem?_cons_succ, List.getElem?_cons_zero] at x0 x1 x2 x3 x4 x5 x6 x7 y0 y1 y2 y3 y4 y5 y6 y7
      have hbb : (bo != bo) = false := by simp
      clear hx9 hy10 hrm9 hb10
      go_wp2_with fail
      generalize w9.alloc (.cells #[.int .i64 q.seq, .int .i64 q.next, .int .i64 q.P.K, .int .i64 q.P.H, .int .i64 q.P.S, .int .i64 q.extra, (.slice Cd kd ed), (.slice Co ko fo)] 27) = w10 at *
      refine (samemani_any q q w10.heap.size _ _ _ _ _ _ _ _ _ _ _ _ _ _ true w10 HM7.out HM9.out (Nat.le_refl _) (by simp)).mono ?_
      rintro e w11 ⟨rfl, hb11⟩
      have HROW := hid (HROW.out.below hb11 HROW.out.lt)
      have HRZ := hid (HRZ.out.below hb11)
      have HB11 := hid (HB10.out.trans (hb11.mono HB10.out.size))
      clear hb11 x0 x1 x2 x3 x4 x5 x6 x7 y0 y1 y2 y3 y4 y5 y6 y7
      go_wp2_with fail
      refine (kept_any w11.heap.size Az g6 lz nz cz 71#8 w11 HRZ.out.sl HROW.out (by omega)).mono ?_
      rintro e w12 ⟨rfl, d12, rfl⟩
      have HB12 := hid (below_drewN HB11.out d12)
      go_wp2_with fail
      go_roundw
      case rel => exact ⟨k + 1, by omega, by go_num, HB12.out⟩
      case measure => simp [intOf]; omega
    · have hki1 : ¬ (k : Int) < 3 := by omega
      go_wp2_with fail
      refine (wakes19 _).mono ?_
      rintro e w9 ⟨rfl, hb9⟩
      go_wp2_with fail
      go_ret
      exact ⟨rfl, hb0r.trans (hb9.mono hzr)⟩
end Go.Proofs.Ytceonkohidcdoaa
