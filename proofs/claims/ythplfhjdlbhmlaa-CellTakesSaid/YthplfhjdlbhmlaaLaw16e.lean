/- The walk of CellTakes (printed by mk16e.py). -/
import Derived.Test.YthplfhjdlbhmlaaLaw16b
import Derived.Test.YthplfhjdlbhmlaaData
namespace Go.Proofs.Ythplfhjdlbhmlaa
open Go.RowKit Wells
theorem own_set {w : World} {base n c g i : Nat} {t : TypeId} {l : List Byte} (h : w.ownsRow base t 1 (.slice (some ⟨g, 0, none⟩) n c) n (l.map bv8)) (hi : i < n) (b : Byte) :
    (w.setCell ⟨g, i, none⟩ (bv8 b)).ownsRow base t 1 (.slice (some ⟨g, 0, none⟩) n c) n ((l.set i b).map bv8) := by
  obtain ⟨g', cur, e, hb, hr, hcl, hct, hnc, hcm⟩ := own_row h (by omega)
  injection e with e
  injection e with e _ _
  subst e
  refine ⟨by have := h.1; simpa using this, .inr ⟨g, c, (cur.set i (bv8 b)).toArray, rfl, hb, hr.set i _, hnc, hcm, by simpa using hcl, ?_⟩⟩
  simp only [Nat.mul_one, List.toList_toArray]
  rw [List.take_set, hct, List.map_set]
theorem own_at {w : World} {base n c g i : Nat} {t : TypeId} {l : List Byte} (h : w.ownsRow base t 1 (.slice (some ⟨g, 0, none⟩) n c) n (l.map bv8)) (hi : i < n) :
    w.cell? ⟨g, i, none⟩ = some (.int .u8 ((l.getD i 0).toNat : Int)) ∧ w.frozen? ⟨g, i, none⟩ = false ∧ base ≤ g ∧ g < w.heap.size := by
  obtain ⟨g', cur, e, hb, hr, hcl, hct, hnc, hcm⟩ := own_row h (by omega)
  injection e with e
  injection e with e _ _
  subst e
  have hl : l.length = n := by have := h.1; simpa using this
  refine ⟨?_, hr.frozen i, hb, hr.lt⟩
  rw [hr.cell i]
  have h1 : (l.map bv8)[i]? = some (bv8 (l.getD i 0)) := u8s_get l i (by omega)
  rw [← hct, List.getElem?_take, if_pos hi] at h1
  exact h1
set_option maxRecDepth 20000 in
set_option maxHeartbeats 4000000 in
theorem walk_CellTakes (A : Option Addr) (n c : Nat) (l : List Byte) (kind nn x at_ cc how : Int) (w : World) (h : IsBytes w A n c l) (hk : -9223372036854775808 ≤ kind ∧ kind ≤ 9223372036854775807) (hnn : -9223372036854775808 ≤ nn ∧ nn ≤ 9223372036854775807) (hx : -9223372036854775808 ≤ x ∧ x ≤ 9223372036854775807) (ha : -9223372036854775808 ≤ at_ ∧ at_ ≤ 9223372036854775807) (hcc : 0 ≤ cc ∧ cc ≤ 255) (hh : -9223372036854775808 ≤ how ∧ how ≤ 9223372036854775807) :
    Calls Try.prog 4 #[.slice A n c, .int .i64 kind, .int .i64 nn, .int .i64 x, .int .i64 at_, .int .u8 cc, .int .i64 how] w fun e w' => e = .returned (.bool true) ∧ Below w.heap.size w w' := by
  obtain ⟨hs, hle, hcap⟩ := h
  by_cases h100 : 100 < n
  · go_enter Try.func4, Try.ntmps4
    go_wp2_with fail
    refine (wakes16 _).mono ?_
    rintro e w9 ⟨rfl, hb9⟩
    go_wp2
    go_ret
    exact ⟨rfl, hb9⟩
  obtain ⟨x0, hx0⟩ : ∃ x, kind % 255 = x := ⟨_, rfl⟩
  have hx00 : 0 ≤ x0 ∧ x0 ≤ 254 := by omega
  obtain ⟨hx01, hx02⟩ := hx00
  obtain ⟨m, hm⟩ : ∃ m : Nat, (m : Int) = at_ % 64 := ⟨(at_ % 64).toNat, by omega⟩
  have hm64 : m < 64 := by omega
  obtain ⟨nd, hnd⟩ : ∃ m : Nat, (m : Int) = nn % 56 := ⟨(nn % 56).toNat, by omega⟩
  have hnd55 : nd ≤ 55 := by omega
  obtain ⟨cb, hcb⟩ : ∃ c : Byte, cc = (c.toNat : Int) := ⟨BitVec.ofNat 8 cc.toNat, by rw [BitVec.toNat_ofNat]; omega⟩
  subst hcb
  obtain ⟨r3, hr3⟩ : ∃ r, r = how.tmod 3 := ⟨_, rfl⟩
  have HX := hid hx0
  have HM := hid hm
  have HD := hid hnd
  have hmi : (0 : Int) ≤ (m : Int) := by omega
  have hmi2 : (m : Int) < 64 := by omega
  clear hm hnd
  have hcbb := cb.isLt
  go_enter Try.func4, Try.ntmps4
  go_wp2_with fail
  refine (within_any kind 255 _ hk.1 hk.2 (by omega) (by omega)).mono ?_
  rintro e w1 ⟨rfl, rfl⟩
  rw [HX.out]
  go_wp2_with fail
  refine (within_any nn 56 _ hnn.1 hnn.2 (by omega) (by omega)).mono ?_
  rintro e w1 ⟨rfl, rfl⟩
  rw [← HD.out]
  go_wp2_with fail
  refine (data_any nd x _ (by omega) hx).mono ?_
  rintro e w1 ⟨Ad, cd, ld, rfl, hld, od, hb1⟩
  obtain ⟨k, hk0, hkx, hce⟩ := made_cell hx0 (show ld.length ≤ 55 by omega)
  have hfl := frame_len (k := k) (show ld.length ≤ 55 by omega)
  have sd := od.read
  obtain ⟨Ad', cd', ed, hcd1, hcd2, sd⟩ := sd
  injection ed with ed1 ed0 ed2
  clear ed0
  subst ed1 ed2
  rw [hld] at hcd1 sd
  have hs1 := hb1.size
  clear hx0 od hld
  have HCE := hid hce
  have HFL := hid hfl
  clear hce hfl hkx
  go_wp2_with fail
  refine (refput_any (1 + x0) _ Ad ld nd cd _ (by omega) sd (Nat.le_refl _) (by omega)).mono ?_
  rintro e w2 ⟨v, rfl, hv, hb2⟩
  rw [HCE.out] at hv
  obtain ⟨A1, c1, rfl, hc1, hc2⟩ := own_form2 hv
  unfold OB at hv
  rw [HFL.out] at hv hc1 ⊢
  have hv0 := own_base hv hs1
  have b2 := hb1.trans (hb2.mono hs1)
  clear hv sd hb1 hb2
  generalize hfr : frame k ld = fr at *
  clear hfr
  obtain ⟨g, cur, rfl, _⟩ := own_row hv0 (by omega)
  go_wp2_with fail
  refine (within_any at_ 64 _ ha.1 ha.2 (by omega) (by omega)).mono ?_
  rintro e w3 ⟨rfl, rfl⟩
  rw [← HM.out]
  obtain ⟨hcy, hfz, hgb, hgl0⟩ := own_at hv0 hm64
  obtain ⟨y, hy⟩ : ∃ y, fr.getD m 0 = y := ⟨_, rfl⟩
  rw [hy] at hcy
  have hyb := y.isLt
  clear hy
  obtain ⟨yc, hyc⟩ : ∃ yc : Byte, bits .xor .u8 (y.toNat : Int) (cb.toNat : Int) = (yc.toNat : Int) := ⟨y ^^^ cb, x8 y cb⟩
  have hycb := yc.isLt
  have hvx := own_set hv0 hm64 yc
  have bX := below_put b2 g m hgb b2.size (bv8 yc)
  obtain ⟨WX, hWX⟩ : ∃ W : World, W = w2.setCell ⟨g, m, none⟩ (.int .u8 (yc.toNat : Int)) := ⟨_, rfl⟩
  have hglX : g < WX.heap.size := by rw [hWX]; simpa [World.setCell] using hgl0
  rw [show w2.setCell ⟨g, m, none⟩ (bv8 yc) = WX from hWX.symm] at hvx bX
  have HWX := hid hWX
  clear hWX
  have HFS := hid (show (fr.set m yc).length = 64 by rw [List.length_set, HFL.out])
  have hr0 : how.tmod 3 = 0 ∨ how.tmod 3 = 1 ∨ ((how.tmod 3 == 0) = false ∧ (how.tmod 3 == 1) = false) := by
    simp only [beq_eq_false_iff_ne]; omega
  clear hr3 hv0 b2 hgl0
  generalize fr.set m yc = fx at *
  have hsX : Sl WX WX.heap.size 1 (some ⟨g, 0, none⟩) 64 (fx.map bv8) := by
    have hvo : OB w.heap.size WX (.slice (some ⟨g, 0, none⟩) 64 c1) fx := by unfold OB; rw [HFS.out]; exact hvx
    obtain ⟨A', c', e', _, _, s'⟩ := hvo.read
    injection e' with e1 e2 e3
    subst e1
    rwa [HFS.out] at s'
  rcases hr0 with h3 | h3 | ⟨h30, h31⟩
  · have s5 := hsX.take (show 59 ≤ 64 by omega)
    rw [Nat.mul_one, ← List.map_take] at s5
    have HSX := hid (show w2.heap.size = WX.heap.size by rw [HWX.out]; simp [World.setCell])
    go_wp2_with fail
    rw [← HWX.out]
    refine (sum_any _ _ (fx.take 59) 59 c1 _ s5 (by omega)).mono ?_
    rintro e w4 ⟨rfl, rfl⟩
    generalize crc (fx.take 59) = s
    have hsb := s.isLt
    have hG0w : w.heap.size ≤ WX.heap.size := bX.size
    clear hsX s5
    go_wp2_with fail
    go_loopw [18] (fun i wr => ∃ (j : Nat) (f : List Byte), j ≤ 4 ∧ i = .int .i64 j ∧ f.length = 64 ∧ wr.ownsRow w.heap.size 5 1 (.slice (some ⟨g, 0, none⟩) 64 c1) 64 (f.map bv8) ∧ Below w.heap.size w wr) (fun i _ => 4 - (intOf i).toNat)
    case atStart => exact ⟨0, fx, by omega, rfl, HFS.out, hvx, bX⟩
    case round =>
      obtain ⟨j, f, hj, rfl, hf, hvr, br⟩ := hrel
      by_cases hlt : j < 4
      · obtain ⟨hcr, hfzr, _, hglr⟩ := own_at hvr (show 59 + j < 64 by omega)
        generalize f.getD (59 + j) 0 = old at hcr
        have hval := hid (le4_at s j hlt)
        obtain ⟨bj, hbj⟩ : ∃ b : Byte, b = (le4 s).getD j 0 := ⟨_, rfl⟩
        have hset := own_set hvr (show 59 + j < 64 by omega) ((le4 s).getD j 0)
        have bset := below_put br g (59 + j) hgb (by have := br.size; omega) (bv8 ((le4 s).getD j 0))
        go_wp2_with fail
        rw [← hval.out]
        go_roundw
        case rel => exact ⟨j + 1, _, by omega, by go_num, by rw [List.length_set]; exact hf, hset, bset⟩
        case measure => simp [intOf]; omega
      · obtain ⟨WY, hWY⟩ : ∃ W, W = wr := ⟨_, rfl⟩
        have hvo : OB w.heap.size wr (.slice (some ⟨g, 0, none⟩) 64 c1) f := by unfold OB; rw [hf]; exact hvr
        obtain ⟨A', c', e', _, _, sY⟩ := hvo.read
        injection e' with e1 e2 e3
        subst e1
        rw [hf] at sY
        clear e2 e3
        have bY := br
        rw [← hWY] at bY sY
        rw [← hWY]
        have hncY : 64 ≤ c1 := by omega
        clear hWY hvr br hvo
        go_wp2_with fail
        obtain ⟨Gy, hGy⟩ : ∃ G, G = WY.heap.size := ⟨_, rfl⟩
        have hsb := hs.below bY
        have hwY := bY.size
        have hrw := Row.new WY 22 #[.slice A n c, .slice (some ⟨g, 0, none⟩) 64 c1]
        have hb2 : Below WY.heap.size WY (WY.alloc (.cells #[.slice A n c, .slice (some ⟨g, 0, none⟩) 64 c1] 22)) := (Below.refl _ _).alloc (Nat.le_refl _) _
        have hcell : ∀ j : Nat, j < 2 → ∃ Az nz cz lz, Sl WY WY.heap.size 1 Az nz (List.map bv8 lz) ∧ nz ≤ 1048576 ∧ nz ≤ cz ∧ cz ≤ 9223372036854775807 ∧ (WY.alloc (.cells #[.slice A n c, .slice (some ⟨g, 0, none⟩) 64 c1] 22)).cell? ⟨WY.heap.size, j, none⟩ = some (.slice Az nz cz) := by
          intro j hj2
          obtain rfl | rfl : j = 0 ∨ j = 1 := by omega
          · exact ⟨A, n, c, l, hsb.mono hwY, by omega, hle, hcap, by rw [hrw.cell]; rfl⟩
          · exact ⟨some ⟨g, 0, none⟩, 64, c1, _, sY, by omega, hncY, hc2, by rw [hrw.cell]; rfl⟩
        have hgl := hrw.lt
        have b3 := bY.trans (hb2.mono hwY)
        generalize WY.alloc (.cells #[.slice A n c, .slice (some ⟨g, 0, none⟩) 64 c1] 22) = w3 at *
        rw [← hGy] at hcell hb2 hgl hwY
        rw [← hGy]
        clear hrw hGy
        obtain ⟨G, hG⟩ : ∃ G, G = w3.heap.size := ⟨_, rfl⟩
        rw [← hG] at hgl
        have hwG : w.heap.size ≤ G := by omega
        have hG2 : G ≤ w3.heap.size := by omega
        have HC := hid hcell
        have HB2 := hid hb2
        clear hG hcell hb2
        go_loopw [77] (fun i wr => ∃ j : Nat, j ≤ 2 ∧ i = .int .i64 j ∧ Below G w3 wr) (fun i _ => 2 - (intOf i).toNat)
        case atStart => exact ⟨0, by omega, rfl, Below.refl _ _⟩
        case round =>
          obtain ⟨j, hj2, rfl, hbw⟩ := hrel
          have hwr := hbw.size
          have bw := b3.trans (hbw.mono hwG)
          have hbws := bw.size
          by_cases hlt : j < 2
          · obtain ⟨Az, nz, cz, lz, sz, hnz, hnc, hcz, hcv⟩ := HC.out j hlt
            rw [← hbw.cell (p := ⟨Gy, j, none⟩) hgl] at hcv
            have sz1 := (sz.mono (Nat.le_refl _)).below (HB2.out.mono (Nat.le_refl _))
            have szr := sz1.below (hbw.mono (show Gy ≤ G by omega))
            go_wp2_with fail
            refine (take_any _ Az lz nz cz _ szr (by omega) hnz hnc hcz).mono ?_
            rintro e w4 ⟨v4, rfl, hv4, hb4⟩
            obtain ⟨A4, c4, rfl, hc41, hc42, s4⟩ := hv4.read
            have sz4 := szr.below (hb4.mono (show Gy ≤ wr.heap.size by omega))
            go_wp2_with fail
            refine (reftake_any _ Az lz nz cz _ sz4 (by have := hb4.size; omega) hnz hnc hcz).mono ?_
            rintro e w5 ⟨v5, rfl, hv5, hb5⟩
            obtain ⟨A5, c5, rfl, hc51, hc52, s5⟩ := hv5.read
            have s45 := (s4.below hb5).mono hb5.size
            have hb45 := hb4.trans (hb5.mono hb4.size)
            have hbt : Below G w3 w5 := hbw.trans (hb45.mono (by omega))
            unfold tkV
            generalize takeP lz = tk at *
            generalize tk.isSome = tb at *
            obtain ⟨kk, hkk⟩ : ∃ kk : Nat, (tk.getD (0#8, [])).1.toNat = kk := ⟨_, rfl⟩
            rw [hkk]
            generalize (tk.getD (0#8, [])).2 = tl at *
            have hkb2 : ((kk : Int) != (kk : Int)) = false := by simp
            have htb : (tb != tb) = false := by simp
            clear hkk
            go_wp2_with fail
            refine (same_is true _ _ _ tl tl _ _ _ _ _ s45 s5 (by omega) (by omega) (decide_eq_true rfl)).mono ?_
            rintro e w6 ⟨rfl, d, rfl⟩
            go_wp2_with fail
            go_roundw
            case rel => exact ⟨j + 1, by omega, by go_num, below_drewN hbt d⟩
            case measure => simp [intOf]; omega
          · go_wp2_with fail
            refine (wakes16 _).mono ?_
            rintro e w9 ⟨rfl, hb9⟩
            go_wp2
            go_ret
            exact ⟨rfl, bw.trans (hb9.mono hbws)⟩
  · obtain ⟨WY, hWY⟩ : ∃ W, W = WX := ⟨_, rfl⟩
    have bY := bX
    have sY := hsX.take (show m ≤ 64 by omega)
    rw [← hWY] at bY sY
    rw [Nat.mul_one, ← List.map_take] at sY
    have hncY : m ≤ c1 := by omega
    have HWX2 := hid (HWX.out.symm.trans hWY.symm)
    have HWZ := hid (show w2.heap.size = WY.heap.size by rw [hWY, HWX.out]; simp [World.setCell])
    clear hWY HWX hvx bX hsX hglX
    go_wp2_with fail
    rw [HWX2.out, HWZ.out]
    obtain ⟨Gy, hGy⟩ : ∃ G, G = WY.heap.size := ⟨_, rfl⟩
    have hsb := hs.below bY
    have hwY := bY.size
    have hrw := Row.new WY 22 #[.slice A n c, .slice (some ⟨g, 0, none⟩) m c1]
    have hb2 : Below WY.heap.size WY (WY.alloc (.cells #[.slice A n c, .slice (some ⟨g, 0, none⟩) m c1] 22)) := (Below.refl _ _).alloc (Nat.le_refl _) _
    have hcell : ∀ j : Nat, j < 2 → ∃ Az nz cz lz, Sl WY WY.heap.size 1 Az nz (List.map bv8 lz) ∧ nz ≤ 1048576 ∧ nz ≤ cz ∧ cz ≤ 9223372036854775807 ∧ (WY.alloc (.cells #[.slice A n c, .slice (some ⟨g, 0, none⟩) m c1] 22)).cell? ⟨WY.heap.size, j, none⟩ = some (.slice Az nz cz) := by
      intro j hj2
      obtain rfl | rfl : j = 0 ∨ j = 1 := by omega
      · exact ⟨A, n, c, l, hsb.mono hwY, by omega, hle, hcap, by rw [hrw.cell]; rfl⟩
      · exact ⟨some ⟨g, 0, none⟩, m, c1, _, sY, by omega, hncY, hc2, by rw [hrw.cell]; rfl⟩
    have hgl := hrw.lt
    have b3 := bY.trans (hb2.mono hwY)
    generalize WY.alloc (.cells #[.slice A n c, .slice (some ⟨g, 0, none⟩) m c1] 22) = w3 at *
    rw [← hGy] at hcell hb2 hgl hwY
    rw [← hGy]
    clear hrw hGy
    obtain ⟨G, hG⟩ : ∃ G, G = w3.heap.size := ⟨_, rfl⟩
    rw [← hG] at hgl
    have hwG : w.heap.size ≤ G := by omega
    have hG2 : G ≤ w3.heap.size := by omega
    have HC := hid hcell
    have HB2 := hid hb2
    clear hG hcell hb2
    go_loopw [77] (fun i wr => ∃ j : Nat, j ≤ 2 ∧ i = .int .i64 j ∧ Below G w3 wr) (fun i _ => 2 - (intOf i).toNat)
    case atStart => exact ⟨0, by omega, rfl, Below.refl _ _⟩
    case round =>
      obtain ⟨j, hj2, rfl, hbw⟩ := hrel
      have hwr := hbw.size
      have bw := b3.trans (hbw.mono hwG)
      have hbws := bw.size
      by_cases hlt : j < 2
      · obtain ⟨Az, nz, cz, lz, sz, hnz, hnc, hcz, hcv⟩ := HC.out j hlt
        rw [← hbw.cell (p := ⟨Gy, j, none⟩) hgl] at hcv
        have sz1 := (sz.mono (Nat.le_refl _)).below (HB2.out.mono (Nat.le_refl _))
        have szr := sz1.below (hbw.mono (show Gy ≤ G by omega))
        go_wp2_with fail
        refine (take_any _ Az lz nz cz _ szr (by omega) hnz hnc hcz).mono ?_
        rintro e w4 ⟨v4, rfl, hv4, hb4⟩
        obtain ⟨A4, c4, rfl, hc41, hc42, s4⟩ := hv4.read
        have sz4 := szr.below (hb4.mono (show Gy ≤ wr.heap.size by omega))
        go_wp2_with fail
        refine (reftake_any _ Az lz nz cz _ sz4 (by have := hb4.size; omega) hnz hnc hcz).mono ?_
        rintro e w5 ⟨v5, rfl, hv5, hb5⟩
        obtain ⟨A5, c5, rfl, hc51, hc52, s5⟩ := hv5.read
        have s45 := (s4.below hb5).mono hb5.size
        have hb45 := hb4.trans (hb5.mono hb4.size)
        have hbt : Below G w3 w5 := hbw.trans (hb45.mono (by omega))
        unfold tkV
        generalize takeP lz = tk at *
        generalize tk.isSome = tb at *
        obtain ⟨kk, hkk⟩ : ∃ kk : Nat, (tk.getD (0#8, [])).1.toNat = kk := ⟨_, rfl⟩
        rw [hkk]
        generalize (tk.getD (0#8, [])).2 = tl at *
        have hkb2 : ((kk : Int) != (kk : Int)) = false := by simp
        have htb : (tb != tb) = false := by simp
        clear hkk
        go_wp2_with fail
        refine (same_is true _ _ _ tl tl _ _ _ _ _ s45 s5 (by omega) (by omega) (decide_eq_true rfl)).mono ?_
        rintro e w6 ⟨rfl, d, rfl⟩
        go_wp2_with fail
        go_roundw
        case rel => exact ⟨j + 1, by omega, by go_num, below_drewN hbt d⟩
        case measure => simp [intOf]; omega
      · go_wp2_with fail
        refine (wakes16 _).mono ?_
        rintro e w9 ⟨rfl, hb9⟩
        go_wp2
        go_ret
        exact ⟨rfl, bw.trans (hb9.mono hbws)⟩
  · obtain ⟨WY, hWY⟩ : ∃ W, W = WX := ⟨_, rfl⟩
    have bY := bX
    have sY := hsX
    rw [← hWY] at bY sY
    have hncY : 64 ≤ c1 := by omega
    have hNYm : 64 ≤ 64 := by omega
    have HWX2 := hid (HWX.out.symm.trans hWY.symm)
    have HWZ := hid (show w2.heap.size = WY.heap.size by rw [hWY, HWX.out]; simp [World.setCell])
    clear hWY HWX hvx bX hsX hglX
    go_wp2_with fail
    rw [HWX2.out, HWZ.out]
    obtain ⟨Gy, hGy⟩ : ∃ G, G = WY.heap.size := ⟨_, rfl⟩
    have hsb := hs.below bY
    have hwY := bY.size
    have hrw := Row.new WY 22 #[.slice A n c, .slice (some ⟨g, 0, none⟩) 64 c1]
    have hb2 : Below WY.heap.size WY (WY.alloc (.cells #[.slice A n c, .slice (some ⟨g, 0, none⟩) 64 c1] 22)) := (Below.refl _ _).alloc (Nat.le_refl _) _
    have hcell : ∀ j : Nat, j < 2 → ∃ Az nz cz lz, Sl WY WY.heap.size 1 Az nz (List.map bv8 lz) ∧ nz ≤ 1048576 ∧ nz ≤ cz ∧ cz ≤ 9223372036854775807 ∧ (WY.alloc (.cells #[.slice A n c, .slice (some ⟨g, 0, none⟩) 64 c1] 22)).cell? ⟨WY.heap.size, j, none⟩ = some (.slice Az nz cz) := by
      intro j hj2
      obtain rfl | rfl : j = 0 ∨ j = 1 := by omega
      · exact ⟨A, n, c, l, hsb.mono hwY, by omega, hle, hcap, by rw [hrw.cell]; rfl⟩
      · exact ⟨some ⟨g, 0, none⟩, 64, c1, _, sY, by omega, hncY, hc2, by rw [hrw.cell]; rfl⟩
    have hgl := hrw.lt
    have b3 := bY.trans (hb2.mono hwY)
    generalize WY.alloc (.cells #[.slice A n c, .slice (some ⟨g, 0, none⟩) 64 c1] 22) = w3 at *
    rw [← hGy] at hcell hb2 hgl hwY
    rw [← hGy]
    clear hrw hGy
    obtain ⟨G, hG⟩ : ∃ G, G = w3.heap.size := ⟨_, rfl⟩
    rw [← hG] at hgl
    have hwG : w.heap.size ≤ G := by omega
    have hG2 : G ≤ w3.heap.size := by omega
    have HC := hid hcell
    have HB2 := hid hb2
    clear hG hcell hb2
    go_loopw [77] (fun i wr => ∃ j : Nat, j ≤ 2 ∧ i = .int .i64 j ∧ Below G w3 wr) (fun i _ => 2 - (intOf i).toNat)
    case atStart => exact ⟨0, by omega, rfl, Below.refl _ _⟩
    case round =>
      obtain ⟨j, hj2, rfl, hbw⟩ := hrel
      have hwr := hbw.size
      have bw := b3.trans (hbw.mono hwG)
      have hbws := bw.size
      by_cases hlt : j < 2
      · obtain ⟨Az, nz, cz, lz, sz, hnz, hnc, hcz, hcv⟩ := HC.out j hlt
        rw [← hbw.cell (p := ⟨Gy, j, none⟩) hgl] at hcv
        have sz1 := (sz.mono (Nat.le_refl _)).below (HB2.out.mono (Nat.le_refl _))
        have szr := sz1.below (hbw.mono (show Gy ≤ G by omega))
        go_wp2_with fail
        refine (take_any _ Az lz nz cz _ szr (by omega) hnz hnc hcz).mono ?_
        rintro e w4 ⟨v4, rfl, hv4, hb4⟩
        obtain ⟨A4, c4, rfl, hc41, hc42, s4⟩ := hv4.read
        have sz4 := szr.below (hb4.mono (show Gy ≤ wr.heap.size by omega))
        go_wp2_with fail
        refine (reftake_any _ Az lz nz cz _ sz4 (by have := hb4.size; omega) hnz hnc hcz).mono ?_
        rintro e w5 ⟨v5, rfl, hv5, hb5⟩
        obtain ⟨A5, c5, rfl, hc51, hc52, s5⟩ := hv5.read
        have s45 := (s4.below hb5).mono hb5.size
        have hb45 := hb4.trans (hb5.mono hb4.size)
        have hbt : Below G w3 w5 := hbw.trans (hb45.mono (by omega))
        unfold tkV
        generalize takeP lz = tk at *
        generalize tk.isSome = tb at *
        obtain ⟨kk, hkk⟩ : ∃ kk : Nat, (tk.getD (0#8, [])).1.toNat = kk := ⟨_, rfl⟩
        rw [hkk]
        generalize (tk.getD (0#8, [])).2 = tl at *
        have hkb2 : ((kk : Int) != (kk : Int)) = false := by simp
        have htb : (tb != tb) = false := by simp
        clear hkk
        go_wp2_with fail
        refine (same_is true _ _ _ tl tl _ _ _ _ _ s45 s5 (by omega) (by omega) (decide_eq_true rfl)).mono ?_
        rintro e w6 ⟨rfl, d, rfl⟩
        go_wp2_with fail
        go_roundw
        case rel => exact ⟨j + 1, by omega, by go_num, below_drewN hbt d⟩
        case measure => simp [intOf]; omega
      · go_wp2_with fail
        refine (wakes16 _).mono ?_
        rintro e w9 ⟨rfl, hb9⟩
        go_wp2
        go_ret
        exact ⟨rfl, bw.trans (hb9.mono hbws)⟩
end Go.Proofs.Ythplfhjdlbhmlaa
