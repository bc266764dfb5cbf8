/- RecordPuts. -/
import Derived.Test.YthafodblffgmmaaHeld2
import Derived.Test.YthafodblffgmmaaRecOpen
import Derived.Deep.RegionHeld3
import Derived.Deep.CutBlock
import Derived.Deep.DeepCutAuto
namespace Go.Proofs.Ythafodblffgmmaa
open Go.RowKit Wells
set_option maxRecDepth 20000 in
set_option maxHeartbeats 16000000 in
theorem walk_RecordPuts (r0 : Rec) (A0 : Option Addr) (n0 c0 : Nat) (o b i a1 b1 c1 x s : Int) (what vv : Int) (w : World) (hr : IsRec w A0 n0 c0 r0) (ho : -9223372036854775808 ≤ o ∧ o ≤ 9223372036854775807) (hb : -9223372036854775808 ≤ b ∧ b ≤ 9223372036854775807) (hi : -9223372036854775808 ≤ i ∧ i ≤ 9223372036854775807) (ha1 : -9223372036854775808 ≤ a1 ∧ a1 ≤ 9223372036854775807) (hb1 : -9223372036854775808 ≤ b1 ∧ b1 ≤ 9223372036854775807) (hc1 : -9223372036854775808 ≤ c1 ∧ c1 ≤ 9223372036854775807) (hx : -9223372036854775808 ≤ x ∧ x ≤ 9223372036854775807) (hs : 0 ≤ s ∧ s ≤ 18446744073709551615) (hk : -9223372036854775808 ≤ what ∧ what ≤ 9223372036854775807) (hvv : -9223372036854775808 ≤ vv ∧ vv ≤ 9223372036854775807) :
    Calls Try.prog 3 #[r0.val (.slice A0 n0 c0), .int .i64 o, .int .i64 b, .int .i64 i, .int .i64 a1, .int .i64 b1, .int .i64 c1, .int .i64 x, .int .u64 s, .int .i64 what, .int .i64 vv] w fun e w' => e = .returned (.bool true) ∧ Below w.heap.size w w' := by
  obtain ⟨hrO, hrB, hrI, hrK, hrH, hrS, hd⟩ := hr
  obtain ⟨s0, hle0, hcap0⟩ := hd
  have hn0 : r0.D.length = n0 := by have := s0.len; simpa using this
  have HN0 := hid hn0
  have hb0 : Below w.heap.size w (w.alloc (recObj 27 r0 (.slice A0 n0 c0))) := (Below.refl _ _).alloc (Nat.le_refl _) _
  clear hn0
  have hrsb := r0.S.isLt
  unfold Rec.val
  by_cases h60 : 60 < n0
  · go_enter Try.func3, Try.ntmps3
    go_wp2_with fail
    refine (wakes17 _).mono ?_
    rintro e w9 ⟨rfl, hb9⟩
    go_wp2
    go_ret
    exact ⟨rfl, hb0.trans (hb9.mono hb0.size)⟩
  obtain ⟨xw, hxw⟩ : ∃ r, what % 7 = r := ⟨_, rfl⟩
  have hxw0 : xw = 0 ∨ xw = 1 ∨ xw = 2 ∨ xw = 3 ∨ xw = 4 ∨ xw = 5 ∨ xw = 6 := by omega
  have HXW := hid hxw
  clear hxw
  have rc0 := RCells.new w r0 (.slice A0 n0 c0) 27
  go_enter Try.func3, Try.ntmps3
  go_wp2_with fail
  generalize w.alloc (recObj 27 r0 (.slice A0 n0 c0)) = w1 at *
  have hz0 := rc0.lt
  have s0 := s0.below hb0
  refine (made_any o b i a1 b1 c1 x s _ ho hb hi ha1 hb1 hc1 hx hs).mono ?_
  rintro e w2 ⟨y, A, c, rfl, hm, hv, hb2⟩
  have hz1 := hb2.size
  have rc0 := rc0.keep hb2 hz0
  have s0 := s0.below (hb2.mono (by omega))
  have hbw := hb0.trans (hb2.mono (by omega))
  clear hb0 hb2
  have hsh := rec_short hm
  rw [recB_len] at hsh
  have HM := hid hm
  obtain ⟨n, hn⟩ : ∃ n, y.D.length = n := ⟨_, rfl⟩
  rw [hn] at hsh hv ⊢
  have HN := hid hn
  have sa := ob_sl hv hn
  obtain ⟨_, _, ee, hc2, hc3⟩ := own_form3 hv hn
  injection ee with e1 e2 e3
  subst e1 e3
  clear hn hm hv e2
  have hysb := y.S.isLt
  unfold Rec.val
  have hb2 := (Below.refl w2.heap.size w2).alloc (Nat.le_refl _) (recObj 27 y (.slice A n c))
  have ra : Row (w2.alloc (recObj 27 y (.slice A n c))) w2.heap.size 27 (recL' y (.slice A n c)) := Row.new w2 27 #[.int .i64 y.O, .int .i64 y.B, .int .i64 y.I, .int .i64 y.P.K, .int .i64 y.P.H, .int .i64 y.P.S, .int .u32 (y.S.toNat : Int), (.slice A n c)]
  have rb : Row ((w2.alloc (recObj 27 y (.slice A n c))).alloc (recObj 27 y (.slice A n c))) (w2.alloc (recObj 27 y (.slice A n c))).heap.size 27 (recL' y (.slice A n c)) := Row.new _ 27 #[.int .i64 y.O, .int .i64 y.B, .int .i64 y.I, .int .i64 y.P.K, .int .i64 y.P.H, .int .i64 y.P.S, .int .u32 (y.S.toNat : Int), (.slice A n c)]
  rw [alloc_size'] at rb
  have rcy := RCells.of_row ra
  have ra2 := ra.alloc (recObj 27 y (.slice A n c))
  have hb3 := hb2.alloc hb2.size (recObj 27 y (.slice A n c))
  obtain ⟨d0, d1, d2, d3, d4, d5, d6, d7⟩ := rcy
  clear ra hb2
  go_wp2_with fail
  generalize (w2.alloc (recObj 27 y (.slice A n c))).alloc (recObj 27 y (.slice A n c)) = w3 at *
  clear d0 d1 d2 d3 d4 d5 d6 d7
  refine (within_any what 7 _ hk.1 hk.2 (by omega) (by omega)).mono ?_
  rintro e w3' ⟨rfl, hw3⟩
  rw [HXW.out, ← hw3]
  clear hw3 w3'
  have hl3 := ra2.lt
  have hl3b := rb.lt
  have rc3 := rc0.keep hb3 (by omega)
  go_upto_block 0 with fail
  go_cut [] (fun wx => ∃ (z : Rec) (Az : Option Addr) (nz cz : Nat), RCells wx (w2.heap.size + 1) z (.slice Az nz cz) ∧ RCells wx w2.heap.size y (.slice A n c) ∧ RCells wx w.heap.size r0 (.slice A0 n0 c0) ∧ Sl wx wx.heap.size 1 Az nz (z.D.map bv8) ∧ z.D.length = nz ∧ nz ≤ 60 ∧ nz ≤ cz ∧ cz ≤ 9223372036854775807 ∧ Below w2.heap.size w2 wx)
  case first =>
    rcases hxw0 with rfl | rfl | rfl | rfl | rfl | rfl | rfl
    · have fz := rb.frozen 0
      have cj := rb.cell 0
      simp only [List.getElem?_cons_succ, List.getElem?_cons_zero] at cj
      have hrq := rb.set 0 (.int .i64 vv)
      have hbs : Below w2.heap.size w3 (w3.setCell ⟨w2.heap.size + 1, 0, none⟩ (.int .i64 vv)) := below_put (Below.refl _ _) _ _ (by omega) (by omega) _
      have hzz : w3.heap.size ≤ (w3.setCell ⟨w2.heap.size + 1, 0, none⟩ (.int .i64 vv)).heap.size := hbs.size
      go_wp2_with fail
      go_meet
      exact ⟨{ y with O := vv }, A, n, c, .of_row hrq, .of_row (ra2.far (by simp) _), rc3.keep hbs (by omega), ((sa.below hb3).below hbs).mono (by omega), HN.out, by omega, hc2, hc3, hb3.trans hbs⟩
    · have fz := rb.frozen 1
      have cj := rb.cell 1
      simp only [List.getElem?_cons_succ, List.getElem?_cons_zero] at cj
      have hrq := rb.set 1 (.int .i64 vv)
      have hbs : Below w2.heap.size w3 (w3.setCell ⟨w2.heap.size + 1, 1, none⟩ (.int .i64 vv)) := below_put (Below.refl _ _) _ _ (by omega) (by omega) _
      have hzz : w3.heap.size ≤ (w3.setCell ⟨w2.heap.size + 1, 1, none⟩ (.int .i64 vv)).heap.size := hbs.size
      go_wp2_with fail
      go_meet
      exact ⟨{ y with B := vv }, A, n, c, .of_row hrq, .of_row (ra2.far (by simp) _), rc3.keep hbs (by omega), ((sa.below hb3).below hbs).mono (by omega), HN.out, by omega, hc2, hc3, hb3.trans hbs⟩
    · have fz := rb.frozen 2
      have cj := rb.cell 2
      simp only [List.getElem?_cons_succ, List.getElem?_cons_zero] at cj
      have hrq := rb.set 2 (.int .i64 vv)
      have hbs : Below w2.heap.size w3 (w3.setCell ⟨w2.heap.size + 1, 2, none⟩ (.int .i64 vv)) := below_put (Below.refl _ _) _ _ (by omega) (by omega) _
      have hzz : w3.heap.size ≤ (w3.setCell ⟨w2.heap.size + 1, 2, none⟩ (.int .i64 vv)).heap.size := hbs.size
      go_wp2_with fail
      go_meet
      exact ⟨{ y with I := vv }, A, n, c, .of_row hrq, .of_row (ra2.far (by simp) _), rc3.keep hbs (by omega), ((sa.below hb3).below hbs).mono (by omega), HN.out, by omega, hc2, hc3, hb3.trans hbs⟩
    · have fz := rb.frozen 3
      have cj := rb.cell 3
      simp only [List.getElem?_cons_succ, List.getElem?_cons_zero] at cj
      have hrq := rb.set 3 (.int .i64 vv)
      have hbs : Below w2.heap.size w3 (w3.setCell ⟨w2.heap.size + 1, 3, none⟩ (.int .i64 vv)) := below_put (Below.refl _ _) _ _ (by omega) (by omega) _
      have hzz : w3.heap.size ≤ (w3.setCell ⟨w2.heap.size + 1, 3, none⟩ (.int .i64 vv)).heap.size := hbs.size
      go_wp2_with fail
      go_meet
      exact ⟨{ y with P := { y.P with K := vv } }, A, n, c, .of_row hrq, .of_row (ra2.far (by simp) _), rc3.keep hbs (by omega), ((sa.below hb3).below hbs).mono (by omega), HN.out, by omega, hc2, hc3, hb3.trans hbs⟩
    · have fz := rb.frozen 4
      have cj := rb.cell 4
      simp only [List.getElem?_cons_succ, List.getElem?_cons_zero] at cj
      have hrq := rb.set 4 (.int .i64 vv)
      have hbs : Below w2.heap.size w3 (w3.setCell ⟨w2.heap.size + 1, 4, none⟩ (.int .i64 vv)) := below_put (Below.refl _ _) _ _ (by omega) (by omega) _
      have hzz : w3.heap.size ≤ (w3.setCell ⟨w2.heap.size + 1, 4, none⟩ (.int .i64 vv)).heap.size := hbs.size
      go_wp2_with fail
      go_meet
      exact ⟨{ y with P := { y.P with H := vv } }, A, n, c, .of_row hrq, .of_row (ra2.far (by simp) _), rc3.keep hbs (by omega), ((sa.below hb3).below hbs).mono (by omega), HN.out, by omega, hc2, hc3, hb3.trans hbs⟩
    · have fz := rb.frozen 5
      have cj := rb.cell 5
      simp only [List.getElem?_cons_succ, List.getElem?_cons_zero] at cj
      have hrq := rb.set 5 (.int .i64 vv)
      have hbs : Below w2.heap.size w3 (w3.setCell ⟨w2.heap.size + 1, 5, none⟩ (.int .i64 vv)) := below_put (Below.refl _ _) _ _ (by omega) (by omega) _
      have hzz : w3.heap.size ≤ (w3.setCell ⟨w2.heap.size + 1, 5, none⟩ (.int .i64 vv)).heap.size := hbs.size
      go_wp2_with fail
      go_meet
      exact ⟨{ y with P := { y.P with S := vv } }, A, n, c, .of_row hrq, .of_row (ra2.far (by simp) _), rc3.keep hbs (by omega), ((sa.below hb3).below hbs).mono (by omega), HN.out, by omega, hc2, hc3, hb3.trans hbs⟩
    · obtain ⟨k, hk1⟩ : ∃ k : Nat, (k : Int) = vv % 30 := ⟨(vv % 30).toNat, by omega⟩
      have hk30 : k < 30 := by omega
      have HK1 := hid hk1
      obtain ⟨nk, hnk⟩ : ∃ m, m = min (n + 1) k := ⟨_, rfl⟩
      have hnk1 : nk ≤ n + 1 := by omega
      have hnk2 : nk ≤ 30 := by omega
      have HNK := hid hnk
      clear hk1 hnk
      have hca7 := ra2.cell 7
      simp only [List.getElem?_cons_succ, List.getElem?_cons_zero] at hca7
      obtain ⟨i0, hi', hz0', hz1', hz2⟩ := info_parts infoB
      have hone : (y.D ++ [1#8]).map bv8 = y.D.map bv8 ++ [.int .u8 1] := by rw [List.map_append]; rfl
      have HONE := hid hone
      clear hone
      go_wp2_with (first
        | ((with_reducible show wpList _ _ _ (⟨some 47, _, _, _, _, _⟩ :: _) _ _); go_must (refine wpl_append rfl (.const (.slice none 0 0)) (.tmp 46) 25 rfl w3.heap.size 5 i0 (.int .u8 0) 1 1 Try.underlying25 hi' hz0' hz1' hz2 rfl (by omega) (.slice none 0 0) 0 [] rfl (World.ownsRow_nil _ _ _ _) w2.heap.size A n c (y.D.map bv8) rfl (sa.below hb3) (u8s_cell _) n (by omega) (y.D.map bv8) rfl (by omega) (by omega) (Nat.le_refl _) ?_); intro A4 c4 w4 o4 g4 _; have b4 : Below w3.heap.size w3 w4 := below_own (Below.refl _ _) (World.ownsRow_nil w3 w3.heap.size 5 1) g4 (Nat.le_refl _) (Nat.le_refl _); have hzw4 := b4.size)
        | ((with_reducible show wpList _ _ _ (⟨some 49, _, _, _, _, _⟩ :: _) _ _); go_must (refine wpl_append rfl (.tmp 47) (.tmp 48) 25 rfl w3.heap.size 5 i0 (.int .u8 0) 1 1 Try.underlying25 hi' hz0' hz1' hz2 rfl (by omega) (.slice A4 n c4) n _ rfl (o4.alloc _) _ _ 1 1 _ rfl (Sl.fresh _ _ _ _ 1 rfl) (by simp [Value.oneCell']) (n + 1) (by omega) ((y.D ++ [1#8]).map bv8) HONE.out.symm (by omega) (by omega) (by simp; omega) ?_); intro A5 c5 w5 o5 g5 _; have b5 : Below w3.heap.size w3 w5 := below_own (b4.alloc hzw4 _) (o4.alloc _) g5 (Nat.le_refl _) (by simp; omega)))
      refine (within_any vv 30 _ hvv.1 hvv.2 (by omega) (by omega)).mono ?_
      rintro e w5' ⟨rfl, hw5⟩
      rw [← HK1.out, ← hw5]
      clear hw5 w5'
      go_wp2_with fail
      obtain ⟨hcc1, hcc2⟩ := own_cap o5
      refine (cut_any A5 (n + 1) c5 nk k _ (by omega) (by omega) (by omega) hcc1 (by rw [HNK.out]; simp)).mono ?_
      rintro e w5' ⟨rfl, hw5⟩
      rw [← hw5]
      clear hw5 w5'
      have rb5 := rb.below b5 hl3b
      have ra5 := ra2.below b5 hl3
      have rc5 := rc3.keep b5 (by omega)
      have fz := rb5.frozen 7
      have cj := rb5.cell 7
      simp only [List.getElem?_cons_succ, List.getElem?_cons_zero] at cj
      have hz5 := b5.size
      have hrq := rb5.set 7 (.slice A5 nk c5)
      have hbs : Below w2.heap.size w5 (w5.setCell ⟨w2.heap.size + 1, 7, none⟩ (.slice A5 nk c5)) := below_put (Below.refl _ _) _ _ (by omega) (by omega) _
      have ho5 : OB w3.heap.size w5 (.slice A5 (n + 1) c5) (y.D ++ [1#8]) := by unfold OB; rw [List.length_append, HN.out]; exact o5
      have ho6 := ob_put ho5 hl3b 7 (.slice A5 nk c5)
      have hs6 := (ob_sl ho6 (show (y.D ++ [1#8]).length = n + 1 by rw [List.length_append, HN.out]; rfl)).take hnk1
      rw [Nat.mul_one, ← List.map_take] at hs6
      go_wp2_with fail
      go_meet
      exact ⟨{ y with D := (y.D ++ [1#8]).take nk }, A5, nk, c5, .of_row hrq, .of_row (ra5.far (by simp) _), rc5.keep hbs (by omega), hs6, by dsimp only; rw [List.length_take, List.length_append, HN.out]; simp; omega, by omega, by omega, hcc2, (hb3.trans (b5.mono (by omega))).trans hbs⟩
  case rest =>
  obtain ⟨z, Az, nz, cz, rcz, rcy, rcr, sz, hnz, hnz60, hcz1, hcz2, hbz⟩ := hcut
  obtain ⟨a0, a1', a2, a3, a4, a5, a6, a7⟩ := rcr
  obtain ⟨y0, y1, y2, y3, y4, y5, y6, y7⟩ := rcy
  obtain ⟨z0, z1, z2, z3, z4, z5, z6, z7⟩ := rcz
  have hzc := hbz.size
  have s0c := s0.below (hbz.mono (by omega))
  have sac := sa.below hbz
  have hbwc := hbw.trans (hbz.mono (by omega))
  have HNZ := hid hnz
  clear hnz hb3 ra2 rb rc3
  go_wp2_with fail
  have hrw := Row.new wc 27 #[.int .i64 r0.O, .int .i64 r0.B, .int .i64 r0.I, .int .i64 r0.P.K, .int .i64 r0.P.H, .int .i64 r0.P.S, .int .u32 (r0.S.toNat : Int), (.slice A0 n0 c0), .int .i64 y.O, .int .i64 y.B, .int .i64 y.I, .int .i64 y.P.K, .int .i64 y.P.H, .int .i64 y.P.S, .int .u32 (y.S.toNat : Int), (.slice A n c), .int .i64 z.O, .int .i64 z.B, .int .i64 z.I, .int .i64 z.P.K, .int .i64 z.P.H, .int .i64 z.P.S, .int .u32 (z.S.toNat : Int), (.slice Az nz cz)]
  have hb8 : Below wc.heap.size wc (wc.alloc (.cells #[.int .i64 r0.O, .int .i64 r0.B, .int .i64 r0.I, .int .i64 r0.P.K, .int .i64 r0.P.H, .int .i64 r0.P.S, .int .u32 (r0.S.toNat : Int), (.slice A0 n0 c0), .int .i64 y.O, .int .i64 y.B, .int .i64 y.I, .int .i64 y.P.K, .int .i64 y.P.H, .int .i64 y.P.S, .int .u32 (y.S.toNat : Int), (.slice A n c), .int .i64 z.O, .int .i64 z.B, .int .i64 z.I, .int .i64 z.P.K, .int .i64 z.P.H, .int .i64 z.P.S, .int .u32 (z.S.toNat : Int), (.slice Az nz cz)] 27)) := (Below.refl _ _).alloc (Nat.le_refl _) _
  have hcell : ∀ j : Nat, j < 3 → ∃ (q : Rec) (Aq : Option Addr) (nq cq : Nat), ((wc.alloc (.cells #[.int .i64 r0.O, .int .i64 r0.B, .int .i64 r0.I, .int .i64 r0.P.K, .int .i64 r0.P.H, .int .i64 r0.P.S, .int .u32 (r0.S.toNat : Int), (.slice A0 n0 c0), .int .i64 y.O, .int .i64 y.B, .int .i64 y.I, .int .i64 y.P.K, .int .i64 y.P.H, .int .i64 y.P.S, .int .u32 (y.S.toNat : Int), (.slice A n c), .int .i64 z.O, .int .i64 z.B, .int .i64 z.I, .int .i64 z.P.K, .int .i64 z.P.H, .int .i64 z.P.S, .int .u32 (z.S.toNat : Int), (.slice Az nz cz)] 27)).cell? ⟨wc.heap.size, j * 8, none⟩ = some (.int .i64 q.O) ∧ (wc.alloc (.cells #[.int .i64 r0.O, .int .i64 r0.B, .int .i64 r0.I, .int .i64 r0.P.K, .int .i64 r0.P.H, .int .i64 r0.P.S, .int .u32 (r0.S.toNat : Int), (.slice A0 n0 c0), .int .i64 y.O, .int .i64 y.B, .int .i64 y.I, .int .i64 y.P.K, .int .i64 y.P.H, .int .i64 y.P.S, .int .u32 (y.S.toNat : Int), (.slice A n c), .int .i64 z.O, .int .i64 z.B, .int .i64 z.I, .int .i64 z.P.K, .int .i64 z.P.H, .int .i64 z.P.S, .int .u32 (z.S.toNat : Int), (.slice Az nz cz)] 27)).cell? ⟨wc.heap.size, j * 8 + 1, none⟩ = some (.int .i64 q.B) ∧ (wc.alloc (.cells #[.int .i64 r0.O, .int .i64 r0.B, .int .i64 r0.I, .int .i64 r0.P.K, .int .i64 r0.P.H, .int .i64 r0.P.S, .int .u32 (r0.S.toNat : Int), (.slice A0 n0 c0), .int .i64 y.O, .int .i64 y.B, .int .i64 y.I, .int .i64 y.P.K, .int .i64 y.P.H, .int .i64 y.P.S, .int .u32 (y.S.toNat : Int), (.slice A n c), .int .i64 z.O, .int .i64 z.B, .int .i64 z.I, .int .i64 z.P.K, .int .i64 z.P.H, .int .i64 z.P.S, .int .u32 (z.S.toNat : Int), (.slice Az nz cz)] 27)).cell? ⟨wc.heap.size, j * 8 + 2, none⟩ = some (.int .i64 q.I) ∧ (wc.alloc (.cells #[.int .i64 r0.O, .int .i64 r0.B, .int .i64 r0.I, .int .i64 r0.P.K, .int .i64 r0.P.H, .int .i64 r0.P.S, .int .u32 (r0.S.toNat : Int), (.slice A0 n0 c0), .int .i64 y.O, .int .i64 y.B, .int .i64 y.I, .int .i64 y.P.K, .int .i64 y.P.H, .int .i64 y.P.S, .int .u32 (y.S.toNat : Int), (.slice A n c), .int .i64 z.O, .int .i64 z.B, .int .i64 z.I, .int .i64 z.P.K, .int .i64 z.P.H, .int .i64 z.P.S, .int .u32 (z.S.toNat : Int), (.slice Az nz cz)] 27)).cell? ⟨wc.heap.size, j * 8 + 3, none⟩ = some (.int .i64 q.P.K) ∧ (wc.alloc (.cells #[.int .i64 r0.O, .int .i64 r0.B, .int .i64 r0.I, .int .i64 r0.P.K, .int .i64 r0.P.H, .int .i64 r0.P.S, .int .u32 (r0.S.toNat : Int), (.slice A0 n0 c0), .int .i64 y.O, .int .i64 y.B, .int .i64 y.I, .int .i64 y.P.K, .int .i64 y.P.H, .int .i64 y.P.S, .int .u32 (y.S.toNat : Int), (.slice A n c), .int .i64 z.O, .int .i64 z.B, .int .i64 z.I, .int .i64 z.P.K, .int .i64 z.P.H, .int .i64 z.P.S, .int .u32 (z.S.toNat : Int), (.slice Az nz cz)] 27)).cell? ⟨wc.heap.size, j * 8 + 4, none⟩ = some (.int .i64 q.P.H) ∧ (wc.alloc (.cells #[.int .i64 r0.O, .int .i64 r0.B, .int .i64 r0.I, .int .i64 r0.P.K, .int .i64 r0.P.H, .int .i64 r0.P.S, .int .u32 (r0.S.toNat : Int), (.slice A0 n0 c0), .int .i64 y.O, .int .i64 y.B, .int .i64 y.I, .int .i64 y.P.K, .int .i64 y.P.H, .int .i64 y.P.S, .int .u32 (y.S.toNat : Int), (.slice A n c), .int .i64 z.O, .int .i64 z.B, .int .i64 z.I, .int .i64 z.P.K, .int .i64 z.P.H, .int .i64 z.P.S, .int .u32 (z.S.toNat : Int), (.slice Az nz cz)] 27)).cell? ⟨wc.heap.size, j * 8 + 5, none⟩ = some (.int .i64 q.P.S) ∧ (wc.alloc (.cells #[.int .i64 r0.O, .int .i64 r0.B, .int .i64 r0.I, .int .i64 r0.P.K, .int .i64 r0.P.H, .int .i64 r0.P.S, .int .u32 (r0.S.toNat : Int), (.slice A0 n0 c0), .int .i64 y.O, .int .i64 y.B, .int .i64 y.I, .int .i64 y.P.K, .int .i64 y.P.H, .int .i64 y.P.S, .int .u32 (y.S.toNat : Int), (.slice A n c), .int .i64 z.O, .int .i64 z.B, .int .i64 z.I, .int .i64 z.P.K, .int .i64 z.P.H, .int .i64 z.P.S, .int .u32 (z.S.toNat : Int), (.slice Az nz cz)] 27)).cell? ⟨wc.heap.size, j * 8 + 6, none⟩ = some (.int .u32 (q.S.toNat : Int)) ∧ (wc.alloc (.cells #[.int .i64 r0.O, .int .i64 r0.B, .int .i64 r0.I, .int .i64 r0.P.K, .int .i64 r0.P.H, .int .i64 r0.P.S, .int .u32 (r0.S.toNat : Int), (.slice A0 n0 c0), .int .i64 y.O, .int .i64 y.B, .int .i64 y.I, .int .i64 y.P.K, .int .i64 y.P.H, .int .i64 y.P.S, .int .u32 (y.S.toNat : Int), (.slice A n c), .int .i64 z.O, .int .i64 z.B, .int .i64 z.I, .int .i64 z.P.K, .int .i64 z.P.H, .int .i64 z.P.S, .int .u32 (z.S.toNat : Int), (.slice Az nz cz)] 27)).cell? ⟨wc.heap.size, j * 8 + 7, none⟩ = some (.slice Aq nq cq)) ∧ Sl wc wc.heap.size 1 Aq nq (q.D.map bv8) ∧ q.D.length = nq ∧ nq ≤ 60 := by
    intro j hj
    obtain rfl | rfl | rfl : j = 0 ∨ j = 1 ∨ j = 2 := by omega
    · exact ⟨r0, A0, n0, c0, ⟨by rw [hrw.cell]; rfl, by rw [hrw.cell]; rfl, by rw [hrw.cell]; rfl, by rw [hrw.cell]; rfl, by rw [hrw.cell]; rfl, by rw [hrw.cell]; rfl, by rw [hrw.cell]; rfl, by rw [hrw.cell]; rfl⟩, s0c.mono (by omega), HN0.out, by omega⟩
    · exact ⟨y, A, n, c, ⟨by rw [hrw.cell]; rfl, by rw [hrw.cell]; rfl, by rw [hrw.cell]; rfl, by rw [hrw.cell]; rfl, by rw [hrw.cell]; rfl, by rw [hrw.cell]; rfl, by rw [hrw.cell]; rfl, by rw [hrw.cell]; rfl⟩, sac.mono (by omega), HN.out, by omega⟩
    · exact ⟨z, Az, nz, cz, ⟨by rw [hrw.cell]; rfl, by rw [hrw.cell]; rfl, by rw [hrw.cell]; rfl, by rw [hrw.cell]; rfl, by rw [hrw.cell]; rfl, by rw [hrw.cell]; rfl, by rw [hrw.cell]; rfl, by rw [hrw.cell]; rfl⟩, sz, HNZ.out, by omega⟩
  have hgl := hrw.lt
  have hbw8 := hbwc.trans (hb8.mono (by omega))
  clear hrw s0c sac sz hbwc s0 sa hbz hbw a0 a1' a2 a3 a4 a5 a6 a7 y0 y1 y2 y3 y4 y5 y6 y7 z0 z1 z2 z3 z4 z5 z6 z7
  generalize wc.alloc (.cells #[.int .i64 r0.O, .int .i64 r0.B, .int .i64 r0.I, .int .i64 r0.P.K, .int .i64 r0.P.H, .int .i64 r0.P.S, .int .u32 (r0.S.toNat : Int), (.slice A0 n0 c0), .int .i64 y.O, .int .i64 y.B, .int .i64 y.I, .int .i64 y.P.K, .int .i64 y.P.H, .int .i64 y.P.S, .int .u32 (y.S.toNat : Int), (.slice A n c), .int .i64 z.O, .int .i64 z.B, .int .i64 z.I, .int .i64 z.P.K, .int .i64 z.P.H, .int .i64 z.P.S, .int .u32 (z.S.toNat : Int), (.slice Az nz cz)] 27) = w8 at *
  obtain ⟨Gy, hGy⟩ : ∃ G, G = wc.heap.size := ⟨_, rfl⟩
  have hwy : w.heap.size ≤ Gy := by omega
  rw [← hGy] at hcell hb8 hgl
  rw [← hGy]
  clear hGy
  obtain ⟨G, hG⟩ : ∃ G, G = w8.heap.size := ⟨_, rfl⟩
  rw [← hG] at hgl
  have hG2 : G ≤ w8.heap.size := by omega
  have hwG : w.heap.size ≤ G := by omega
  have HC := hid hcell
  have HB8 := hid hb8
  clear hG hcell hb8
  go_loopw [86] (fun i wr => ∃ j : Nat, j ≤ 3 ∧ i = .int .i64 j ∧ Below G w8 wr) (fun i _ => 3 - (intOf i).toNat)
  case atStart => exact ⟨0, by omega, rfl, Below.refl _ _⟩
  case round =>
    obtain ⟨j, hj2, rfl, hbr⟩ := hrel
    have hwr := hbr.size
    by_cases hlt : j < 3
    · obtain ⟨q, Aq, nq, cq, hcl, sq, hnq, hnq60⟩ := HC.out j hlt
      have HNQ := hid hnq
      clear hnq
      obtain ⟨e0, e1, e2, e3, e4, e5, e6, e7⟩ := hcl
      rw [← hbr.cell (p := ⟨Gy, j * 8, none⟩) hgl] at e0
      rw [← hbr.cell (p := ⟨Gy, j * 8 + 1, none⟩) hgl] at e1
      rw [← hbr.cell (p := ⟨Gy, j * 8 + 2, none⟩) hgl] at e2
      rw [← hbr.cell (p := ⟨Gy, j * 8 + 3, none⟩) hgl] at e3
      rw [← hbr.cell (p := ⟨Gy, j * 8 + 4, none⟩) hgl] at e4
      rw [← hbr.cell (p := ⟨Gy, j * 8 + 5, none⟩) hgl] at e5
      rw [← hbr.cell (p := ⟨Gy, j * 8 + 6, none⟩) hgl] at e6
      rw [← hbr.cell (p := ⟨Gy, j * 8 + 7, none⟩) hgl] at e7
      have sq := (sq.below HB8.out).below (hbr.mono (show Gy ≤ G by omega))
      have hsq := q.S.isLt
      have hb2 := (Below.refl wr.heap.size wr).alloc (Nat.le_refl _) (recObj 27 q (.slice Aq nq cq))
      have ra : Row (wr.alloc (recObj 27 q (.slice Aq nq cq))) wr.heap.size 27 (recL' q (.slice Aq nq cq)) := Row.new wr 27 #[.int .i64 q.O, .int .i64 q.B, .int .i64 q.I, .int .i64 q.P.K, .int .i64 q.P.H, .int .i64 q.P.S, .int .u32 (q.S.toNat : Int), (.slice Aq nq cq)]
      have rb : Row ((wr.alloc (recObj 27 q (.slice Aq nq cq))).alloc (recObj 27 q (.slice Aq nq cq))) (wr.alloc (recObj 27 q (.slice Aq nq cq))).heap.size 27 (recL' q (.slice Aq nq cq)) := Row.new _ 27 #[.int .i64 q.O, .int .i64 q.B, .int .i64 q.I, .int .i64 q.P.K, .int .i64 q.P.H, .int .i64 q.P.S, .int .u32 (q.S.toNat : Int), (.slice Aq nq cq)]
      rw [alloc_size'] at rb
      have rcy := RCells.of_row ra
      have ra2 := ra.alloc (recObj 27 q (.slice Aq nq cq))
      have hca7 := ra2.cell 7
      simp only [List.getElem?_cons_succ, List.getElem?_cons_zero] at hca7
      have hb3 := hb2.alloc hb2.size (recObj 27 q (.slice Aq nq cq))
      obtain ⟨d0, d1, d2, d3, d4, d5, d6, d7⟩ := rcy
      clear ra hb2
      go_wp2_with fail
      generalize (wr.alloc (recObj 27 q (.slice Aq nq cq))).alloc (recObj 27 q (.slice Aq nq cq)) = w3 at *
      clear d0 d1 d2 d3 d4 d5 d6 d7 e0 e1 e2 e3 e4 e5 e6 e7
      have hl3 := ra2.lt
      have hl3b := rb.lt
      refine (spare_any wr.heap.size Aq q.D nq cq 71#8 w3 ((sq.mono (by omega)).below hb3) (by omega) (by omega)).mono ?_
      rintro e w4 ⟨g, rfl, hgs, hrs, hb4⟩
      have hz4 := hb4.size
      have ra4 := ra2.below hb4 hl3
      have rb4 := rb.below hb4 hl3b
      have hb34 := hb3.trans (hb4.mono (by omega))
      have fz := rb4.frozen 7
      have cj := rb4.cell 7
      simp only [List.getElem?_cons_succ, List.getElem?_cons_zero] at cj
      have hrq := rb4.set 7 (.slice (some ⟨g, 0, none⟩) nq (nq + 2))
      have hcin : RCells (w4.setCell ⟨wr.heap.size + 1, 7, none⟩ (.slice (some ⟨g, 0, none⟩) nq (nq + 2))) (wr.heap.size + 1) q (.slice (some ⟨g, 0, none⟩) nq (nq + 2)) := .of_row hrq
      have hcqq : RCells (w4.setCell ⟨wr.heap.size + 1, 7, none⟩ (.slice (some ⟨g, 0, none⟩) nq (nq + 2))) wr.heap.size q (.slice Aq nq cq) := .of_row (ra4.far (by simp) _)
      have hb5 : Below wr.heap.size wr (w4.setCell ⟨wr.heap.size + 1, 7, none⟩ (.slice (some ⟨g, 0, none⟩) nq (nq + 2))) := below_put hb34 _ _ (by omega) (by omega) _
      have hrs5 := hrs.far (p := ⟨wr.heap.size + 1, 7, none⟩) (by simp; omega) (.slice (some ⟨g, 0, none⟩) nq (nq + 2))
      have hz5 : w4.heap.size ≤ (w4.setCell ⟨wr.heap.size + 1, 7, none⟩ (.slice (some ⟨g, 0, none⟩) nq (nq + 2))).heap.size := by simp [World.setCell]
      clear ra2 rb ra4 rb4 hrs hb3 hb4 hb34 hca7
      go_wp2_with fail
      generalize w4.setCell ⟨wr.heap.size + 1, 7, none⟩ (.slice (some ⟨g, 0, none⟩) nq (nq + 2)) = w5 at *
      clear fz cj hrq
      have sq5 := (sq.mono (show Gy ≤ wr.heap.size by omega)).below hb5
      have hgl5 := hrs5.lt
      have sin : Sl w5 (g + 1) 1 (some ⟨g, 0, none⟩) nq (q.D.map bv8) := by
        have := hrs5.sl (B := g + 1) (m := nq) (by omega) (by simp [HNQ.out])
        rwa [List.take_append_of_le_length (by simp [HNQ.out]), List.take_of_length_le (by simp [HNQ.out])] at this
      obtain ⟨mb, hmb⟩ : ∃ b, q.may = b := ⟨_, rfl⟩
      have HMB := hid hmb
      have hmb2 : (mb != mb) = false := by simp
      obtain ⟨pl, hpl⟩ : ∃ p, putR q = p := ⟨_, rfl⟩
      have HPL := hid hpl
      obtain ⟨m, hm⟩ : ∃ m, pl.length = m := ⟨_, rfl⟩
      have hm64 : m ≤ 64 := by
        rw [← hm, ← hpl]; unfold putR; split
        · rw [cellL_len]; split <;> omega
        · simp
      have HPM := hid hm
      clear hmb hpl hm
      obtain ⟨c0', c1', c2', c3', c4', c5', c6', c7'⟩ := hcqq
      obtain ⟨d0, d1, d2, d3, d4, d5, d6, d7⟩ := hcin
      go_wp2_with fail
      go_region_held3 (fun w' => w'.cell? ⟨wr.heap.size, 0, none⟩ = some (.int .i64 q.O) ∧ w'.cell? ⟨wr.heap.size, 1, none⟩ = some (.int .i64 q.B) ∧ w'.cell? ⟨wr.heap.size, 2, none⟩ = some (.int .i64 q.I) ∧ w'.cell? ⟨wr.heap.size, 3, none⟩ = some (.int .i64 q.P.K) ∧ w'.cell? ⟨wr.heap.size, 4, none⟩ = some (.int .i64 q.P.H) ∧ w'.cell? ⟨wr.heap.size, 5, none⟩ = some (.int .i64 q.P.S) ∧ w'.cell? ⟨wr.heap.size, 6, none⟩ = some (.int .u32 (q.S.toNat : Int)) ∧ w'.cell? ⟨wr.heap.size, 7, none⟩ = some (.slice Aq nq cq) ∧ w'.cell? ⟨wr.heap.size + 1, 0, none⟩ = some (.int .i64 q.O) ∧ w'.cell? ⟨wr.heap.size + 1, 1, none⟩ = some (.int .i64 q.B) ∧ w'.cell? ⟨wr.heap.size + 1, 2, none⟩ = some (.int .i64 q.I) ∧ w'.cell? ⟨wr.heap.size + 1, 3, none⟩ = some (.int .i64 q.P.K) ∧ w'.cell? ⟨wr.heap.size + 1, 4, none⟩ = some (.int .i64 q.P.H) ∧ w'.cell? ⟨wr.heap.size + 1, 5, none⟩ = some (.int .i64 q.P.S) ∧ w'.cell? ⟨wr.heap.size + 1, 6, none⟩ = some (.int .u32 (q.S.toNat : Int)) ∧ w'.cell? ⟨wr.heap.size + 1, 7, none⟩ = some (.slice (some ⟨g, 0, none⟩) nq (nq + 2)) ∧ Below w5.heap.size w5 w')
        (first
          | exact RTwo.drew (r := q) (q := q) (d1 := .slice Aq nq cq) (d2 := .slice (some ⟨g, 0, none⟩) nq (nq + 2)) (g1 := wr.heap.size) (g2 := wr.heap.size + 1) (RTwo.of ⟨c0', c1', c2', c3', c4', c5', c6', c7'⟩ ⟨d0, d1, d2, d3, d4, d5, d6, d7⟩ (Below.refl _ _))
          | exact RTwo.keep (r := q) (q := q) (d1 := .slice Aq nq cq) (d2 := .slice (some ⟨g, 0, none⟩) nq (nq + 2)) (g1 := wr.heap.size) (g2 := wr.heap.size + 1) hbb (by assumption) (by omega) (by omega)
          | exact RTwo.draws (r := q) (q := q) (d1 := .slice Aq nq cq) (d2 := .slice (some ⟨g, 0, none⟩) nq (nq + 2)) (g1 := wr.heap.size) (g2 := wr.heap.size + 1) (by assumption) _
          | exact RTwo.more (r := q) (q := q) (d1 := .slice Aq nq cq) (d2 := .slice (some ⟨g, 0, none⟩) nq (nq + 2)) (g1 := wr.heap.size) (g2 := wr.heap.size + 1) (by assumption) _
          | exact RTwo.draws (r := q) (q := q) (d1 := .slice Aq nq cq) (d2 := .slice (some ⟨g, 0, none⟩) nq (nq + 2)) (g1 := wr.heap.size) (g2 := wr.heap.size + 1) (RTwo.keep (r := q) (q := q) (d1 := .slice Aq nq cq) (d2 := .slice (some ⟨g, 0, none⟩) nq (nq + 2)) (g1 := wr.heap.size) (g2 := wr.heap.size + 1) hbb (by assumption) (by omega) (by omega)) _)
        (first
          | (go_at_call 12; have hh0 := ‹_ ∧ _ ∧ _ ∧ _ ∧ _ ∧ _ ∧ _ ∧ _ ∧ _ ∧ _ ∧ _ ∧ _ ∧ _ ∧ _ ∧ _ ∧ _ ∧ Below w5.heap.size w5 _›; have hhb := hh0.2.2.2.2.2.2.2.2.2.2.2.2.2.2.2.2; clear hh0; have hhs := hhb.size; refine (recmay_any q _ nq (nq + 2) mb _ HNQ.out HMB.out).mono ?_; rintro e w' ⟨rfl, hbb0⟩; have hbb := hbb0.mono hhs)
          | (go_at_call 13; have hh0 := ‹_ ∧ _ ∧ _ ∧ _ ∧ _ ∧ _ ∧ _ ∧ _ ∧ _ ∧ _ ∧ _ ∧ _ ∧ _ ∧ _ ∧ _ ∧ _ ∧ Below w5.heap.size w5 _›; have hhb := hh0.2.2.2.2.2.2.2.2.2.2.2.2.2.2.2.2; clear hh0; have hhs := hhb.size; refine (refrecmay_any q _ nq cq mb _ HNQ.out HMB.out).mono ?_; rintro e w' ⟨rfl, hbb0⟩; have hbb := hbb0.mono hhs)
          | (go_at_call 15; have hh0 := ‹_ ∧ _ ∧ _ ∧ _ ∧ _ ∧ _ ∧ _ ∧ _ ∧ _ ∧ _ ∧ _ ∧ _ ∧ _ ∧ _ ∧ _ ∧ _ ∧ Below w5.heap.size w5 _›; have hhb := hh0.2.2.2.2.2.2.2.2.2.2.2.2.2.2.2.2; clear hh0; have hhs := hhb.size; refine (putrec_any (g + 1) q _ nq (nq + 2) _ (sin.below (hhb.mono (by omega))) (by omega)).mono ?_; rintro e w' ⟨v1, rfl, hv1, hbb0⟩; have hbb := hbb0.mono hhs; rw [HPL.out] at hv1; obtain ⟨B1, k1, rfl, _, _⟩ := own_form3 hv1 HPM.out; have s1 := ob_sl hv1 HPM.out)
          | (go_at_call 16; have hh0 := ‹_ ∧ _ ∧ _ ∧ _ ∧ _ ∧ _ ∧ _ ∧ _ ∧ _ ∧ _ ∧ _ ∧ _ ∧ _ ∧ _ ∧ _ ∧ _ ∧ Below w5.heap.size w5 _›; have hhb := hh0.2.2.2.2.2.2.2.2.2.2.2.2.2.2.2.2; clear hh0; have hhs := hhb.size; refine (refputrec_any wr.heap.size q Aq nq cq _ (sq5.below (hhb.mono (by omega))) (by omega)).mono ?_; rintro e w' ⟨v2, rfl, hv2, hbb0⟩; have hbb := hbb0.mono hhs; rw [HPL.out] at hv2; obtain ⟨B2, k2, rfl, _, _⟩ := own_form3 hv2 HPM.out; have s2 := ob_sl hv2 HPM.out; have s1b := (s1.below hbb0).mono hbb0.size)
          | (go_at_call 14; have hh0 := ‹_ ∧ _ ∧ _ ∧ _ ∧ _ ∧ _ ∧ _ ∧ _ ∧ _ ∧ _ ∧ _ ∧ _ ∧ _ ∧ _ ∧ _ ∧ _ ∧ Below w5.heap.size w5 _›; have hhb := hh0.2.2.2.2.2.2.2.2.2.2.2.2.2.2.2.2; clear hh0; have hhs := hhb.size; refine (same_is true _ B1 B2 pl pl m m k1 k2 _ s1b s2 (by omega) (by omega) (decide_eq_true rfl)).mono ?_; rintro e w' ⟨rfl, dd, rfl⟩)
          | (go_at_call 17; have hh0 := ‹_ ∧ _ ∧ _ ∧ _ ∧ _ ∧ _ ∧ _ ∧ _ ∧ _ ∧ _ ∧ _ ∧ _ ∧ _ ∧ _ ∧ _ ∧ _ ∧ Below w5.heap.size w5 _›; have hhb := hh0.2.2.2.2.2.2.2.2.2.2.2.2.2.2.2.2; clear hh0; have hhs := hhb.size; refine (kept_any wr.heap.size Aq g q.D nq cq 71#8 _ (sq5.below (hhb.mono (by omega))) (hrs5.below hhb hgl5) (by omega)).mono ?_; rintro e w' ⟨rfl, dd, rfl⟩))
      have hh0 := ‹_ ∧ _ ∧ _ ∧ _ ∧ _ ∧ _ ∧ _ ∧ _ ∧ _ ∧ _ ∧ _ ∧ _ ∧ _ ∧ _ ∧ _ ∧ _ ∧ Below w5.heap.size w5 _›
      have hhb := hh0.2.2.2.2.2.2.2.2.2.2.2.2.2.2.2.2
      clear hh0
      have hbt := hbr.trans ((hb5.mono (show G ≤ wr.heap.size by omega)).trans (hhb.mono (by omega)))
      clear ‹_ ∧ _ ∧ _ ∧ _ ∧ _ ∧ _ ∧ _ ∧ _ ∧ _ ∧ _ ∧ _ ∧ _ ∧ _ ∧ _ ∧ _ ∧ _ ∧ Below w5.heap.size w5 _›
      go_wp2_with fail
      go_roundw
      case rel => exact ⟨j + 1, by omega, by go_num, hbt⟩
      case measure => simp [intOf]; omega
    · have bw9 := hbw8.trans (hbr.mono hwG)
      have hbws := bw9.size
      go_wp2_with fail
      refine (wakes17 _).mono ?_
      rintro e w19 ⟨rfl, hb19⟩
      go_wp2
      go_ret
      exact ⟨rfl, bw9.trans (hb19.mono hbws)⟩
end Go.Proofs.Ythafodblffgmmaa
