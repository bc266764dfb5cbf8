/- A record of numbers. -/
import Derived.Test.YthafodblffgmmaaTakeRec
import Derived.Test.YthafodblffgmmaaParams
import Derived.Test.YthafodblffgmmaaData
namespace Go.Proofs.Ythafodblffgmmaa
open Go.RowKit Wells
theorem cell8_far {w : World} {g k j : Nat} {v : Value} (h : w.cell? ⟨k, j, none⟩ = some v) (hne : g ≠ k) (a0 a1 a2 a3 a4 a5 a6 a7 : Value) : ((((((((w.setCell ⟨g, 0, none⟩ a0).setCell ⟨g, 1, none⟩ a1).setCell ⟨g, 2, none⟩ a2).setCell ⟨g, 3, none⟩ a3).setCell ⟨g, 4, none⟩ a4).setCell ⟨g, 5, none⟩ a5).setCell ⟨g, 6, none⟩ a6).setCell ⟨g, 7, none⟩ a7).cell? ⟨k, j, none⟩ = some v :=
  ((World.cell?_setCell_other _ _ _ _ (fun e => hne (by injection e))).trans ((World.cell?_setCell_other _ _ _ _ (fun e => hne (by injection e))).trans ((World.cell?_setCell_other _ _ _ _ (fun e => hne (by injection e))).trans ((World.cell?_setCell_other _ _ _ _ (fun e => hne (by injection e))).trans ((World.cell?_setCell_other _ _ _ _ (fun e => hne (by injection e))).trans ((World.cell?_setCell_other _ _ _ _ (fun e => hne (by injection e))).trans ((World.cell?_setCell_other _ _ _ _ (fun e => hne (by injection e))).trans ((World.cell?_setCell_other _ _ _ _ (fun e => hne (by injection e))).trans h))))))))
theorem le8 {w : World} {g m : Nat} (h : m ≤ w.heap.size) (a0 a1 a2 a3 a4 a5 a6 a7 : Value) : m ≤ (((((((((w.setCell ⟨g, 0, none⟩ a0).setCell ⟨g, 1, none⟩ a1).setCell ⟨g, 2, none⟩ a2).setCell ⟨g, 3, none⟩ a3).setCell ⟨g, 4, none⟩ a4).setCell ⟨g, 5, none⟩ a5).setCell ⟨g, 6, none⟩ a6).setCell ⟨g, 7, none⟩ a7)).heap.size := by simpa [World.setCell] using h
set_option maxRecDepth 20000 in
set_option maxHeartbeats 8000000 in
theorem made_any (o b i a1 b1 c1 x s : Int) (w : World) (ho : -9223372036854775808 ≤ o ∧ o ≤ 9223372036854775807) (hb : -9223372036854775808 ≤ b ∧ b ≤ 9223372036854775807) (hi : -9223372036854775808 ≤ i ∧ i ≤ 9223372036854775807) (ha1 : -9223372036854775808 ≤ a1 ∧ a1 ≤ 9223372036854775807) (hb1 : -9223372036854775808 ≤ b1 ∧ b1 ≤ 9223372036854775807) (hc1 : -9223372036854775808 ≤ c1 ∧ c1 ≤ 9223372036854775807) (hx : -9223372036854775808 ≤ x ∧ x ≤ 9223372036854775807) (hs : 0 ≤ s ∧ s ≤ 18446744073709551615) :
    Calls Try.prog 8 #[.int .i64 o, .int .i64 b, .int .i64 i, .int .i64 a1, .int .i64 b1, .int .i64 c1, .int .i64 x, .int .u64 s] w fun e w' => ∃ (r : Rec) (A : Option Addr) (c : Nat), e = .returned (r.val (.slice A r.D.length c)) ∧ r.may = true ∧ OB w.heap.size w' (.slice A r.D.length c) r.D ∧ Below w.heap.size w w' := by
  obtain ⟨p, hp⟩ : ∃ p, parOf a1 b1 c1 = p := ⟨_, rfl⟩
  have hpo := parOf_ok a1 b1 c1
  rw [hp] at hpo
  have hpo2 := hpo
  obtain ⟨K, H, S⟩ := p
  obtain ⟨k1, k2, k3, k4, k5, k6⟩ := hpo2
  dsimp only at k1 k2 k3 k4 k5 k6
  obtain ⟨sS, rfl⟩ : ∃ m : Nat, S = (m : Int) := ⟨S.toNat, by omega⟩
  obtain ⟨xo, hxo⟩ : ∃ r, o % 16777216 = r := ⟨_, rfl⟩
  obtain ⟨xb, hxb⟩ : ∃ r, b % 8 = r := ⟨_, rfl⟩
  obtain ⟨xi, hxi⟩ : ∃ r, i % 65536 = r := ⟨_, rfl⟩
  have r1 : 0 ≤ xo ∧ xo ≤ 16777215 := by omega
  have r2 : 0 ≤ xb ∧ xb < 8 := by omega
  have r3 : 0 ≤ xi ∧ xi ≤ 65535 := by omega
  obtain ⟨sv, hsv⟩ : ∃ sv : BitVec 32, (sv.toNat : Int) = s % 4294967296 := ⟨BitVec.ofNat 32 s.toNat, by rw [BitVec.toNat_ofNat]; omega⟩
  have hw32 : IntKind.u32.wrap s = (sv.toNat : Int) := by rw [IntKind.wrap_u32]; omega
  have HP := hid hp
  have HPO := hid hpo
  have HO := hid hxo
  have HBk := hid hxb
  have HI := hid hxi
  have R1 := hid r1
  have R2 := hid r2
  have R3 := hid r3
  have HS := hid hw32
  have HSV := hid hsv
  clear hp hpo hxo hxb hxi r1 r2 r3 hw32 hsv
  go_enter Try.func8, Try.ntmps8
  go_wp2_with fail
  have hr0 : Row (w.alloc (.cells #[.int .i64 0, .int .i64 0, .int .i64 0, .int .i64 0, .int .i64 0, .int .i64 0, .int .u32 0, .slice none 0 0] 27)) w.heap.size 27 [.int .i64 0, .int .i64 0, .int .i64 0, .int .i64 0, .int .i64 0, .int .i64 0, .int .u32 0, .slice none 0 0] := Row.new w 27 #[.int .i64 0, .int .i64 0, .int .i64 0, .int .i64 0, .int .i64 0, .int .i64 0, .int .u32 0, .slice none 0 0]
  have hb0 : Below w.heap.size w (w.alloc (.cells #[.int .i64 0, .int .i64 0, .int .i64 0, .int .i64 0, .int .i64 0, .int .i64 0, .int .u32 0, .slice none 0 0] 27)) := (Below.refl _ _).alloc (Nat.le_refl _) _
  generalize w.alloc (.cells #[.int .i64 0, .int .i64 0, .int .i64 0, .int .i64 0, .int .i64 0, .int .i64 0, .int .u32 0, .slice none 0 0] 27) = w1 at *
  have hlt0 := hr0.lt
  refine (params_any ⟨K, H, sS⟩ a1 b1 c1 _ ha1 hb1 hc1 HP.out).mono ?_
  rintro e w2 ⟨rfl, hb2⟩
  have hr2 := hr0.below hb2 hlt0
  have hb02 := hb0.trans (hb2.mono (by omega))
  have hlt2 := hr2.lt
  clear hr0 hb0 hb2
  have p3 := PCells.new w2 ⟨K, H, sS⟩ 23
  have hrp := Row.alloc hr2 (.cells #[.int .i64 K, .int .i64 H, .int .i64 (sS : Int)] 23)
  have hbp : Below w.heap.size w (w2.alloc (.cells #[.int .i64 K, .int .i64 H, .int .i64 (sS : Int)] 23)) := hb02.alloc hb02.size _
  have hlp := p3.lt
  obtain ⟨gp, hgp⟩ : ∃ gp, gp = w2.heap.size := ⟨_, rfl⟩
  have HGP := hid hgp
  try dsimp only at p3
  go_wp2_with fail
  generalize (w2.alloc (.cells #[.int .i64 K, .int .i64 H, .int .i64 (sS : Int)] 23)) = w3 at *
  rw [← hgp]
  rw [← hgp] at p3 hlp hlt2
  clear hgp hb02 hr2
  obtain ⟨p0, p1, p2⟩ := p3
  try dsimp only at p0 p1 p2
  have hne : w.heap.size ≠ gp := by omega
  have wso : s = s := rfl
  have hws := HS.out
  go_region_held3 (fun w' => w'.cell? ⟨gp, 0, none⟩ = some (.int .i64 K) ∧ w'.cell? ⟨gp, 1, none⟩ = some (.int .i64 H) ∧ w'.cell? ⟨gp, 2, none⟩ = some (.int .i64 (sS : Int)) ∧ w3.heap.size ≤ w'.heap.size)
    (first
      | with_reducible assumption
      | with_reducible exact ⟨cell8_far (g := w.heap.size) (k := gp) q0 hne _ _ _ _ _ _ _ _, cell8_far (g := w.heap.size) (k := gp) q1 hne _ _ _ _ _ _ _ _, cell8_far (g := w.heap.size) (k := gp) q2 hne _ _ _ _ _ _ _ _, le8 hsz4 _ _ _ _ _ _ _ _⟩
      | with_reducible exact ⟨q0, q1, q2, hsz4⟩
      | exact ⟨p0, p1, p2, Nat.le_refl _⟩)
    (first
      | (go_at_call 9; (with_reducible show Calls _ _ #[_, .int .i64 16777216] _ _); refine (within_any o 16777216 _ ho.1 ho.2 (by omega) (by omega)).mono ?_; rintro e w' ⟨rfl, rfl⟩; rw [HO.out])
      | (go_at_call 9; (with_reducible show Calls _ _ #[_, .int .i64 8] _ _); refine (within_any b 8 _ hb.1 hb.2 (by omega) (by omega)).mono ?_; rintro e w' ⟨rfl, rfl⟩; rw [HBk.out])
      | (go_at_call 9; (with_reducible show Calls _ _ #[_, .int .i64 65536] _ _); refine (within_any i 65536 _ hi.1 hi.2 (by omega) (by omega)).mono ?_; rintro e w' ⟨rfl, rfl⟩; rw [HI.out])
      | (go_at_call 26; refine (data_any sS x _ (by omega) hx).mono ?_; rintro e w4 ⟨A4, c4, D, rfl, hD, hv4, hb4⟩; have hsz4 : w3.heap.size ≤ w4.heap.size := hb4.size; have q0 := (hb4.cell (p := ⟨gp, 0, none⟩) hlp).trans p0; have q1 := (hb4.cell (p := ⟨gp, 1, none⟩) hlp).trans p1; have q2 := (hb4.cell (p := ⟨gp, 2, none⟩) hlp).trans p2; have hr4 := hrp.drew.below hb4 (show w.heap.size < w3.heap.size by omega); have z0 := hr4.cell 0; have z1 := hr4.cell 1; have z2 := hr4.cell 2; have z3 := hr4.cell 3; have z4 := hr4.cell 4; have z5 := hr4.cell 5; have z6 := hr4.cell 6; have z7 := hr4.cell 7; simp only [List.getElem?_cons_succ, List.getElem?_cons_zero] at z0 z1 z2 z3 z4 z5 z6 z7; have y0 := hr4.frozen 0; have y1 := hr4.frozen 1; have y2 := hr4.frozen 2; have y3 := hr4.frozen 3; have y4 := hr4.frozen 4; have y5 := hr4.frozen 5; have y6 := hr4.frozen 6; have y7 := hr4.frozen 7))
  clear ‹_ ∧ _ ∧ _ ∧ _›
  go_wp2_with fail
  have hb5 : Below w.heap.size w w4 := hbp.trans ((below_drewN (Below.refl _ _) 1).trans (hb4.mono (show w.heap.size ≤ w3.heap.size by omega)))
  have R8 := row8 hr4 (.int .i64 xo) (.int .i64 xb) (.int .i64 xi) (.int .i64 K) (.int .i64 H) (.int .i64 (sS : Int)) (.int .u32 (sv.toNat : Int)) (.slice A4 sS c4)
  have B8 := below8 hb5 (Nat.le_refl _) hb5.size (.int .i64 xo) (.int .i64 xb) (.int .i64 xi) (.int .i64 K) (.int .i64 H) (.int .i64 (sS : Int)) (.int .u32 (sv.toNat : Int)) (.slice A4 sS c4)
  have t0 := R8.cell 0
  have t1 := R8.cell 1
  have t2 := R8.cell 2
  have t3 := R8.cell 3
  have t4 := R8.cell 4
  have t5 := R8.cell 5
  have t6 := R8.cell 6
  have t7 := R8.cell 7
  simp only [List.getElem?_cons_succ, List.getElem?_cons_zero] at t0 t1 t2 t3 t4 t5 t6 t7
  have ov := ob8 hv4 (show w.heap.size < w3.heap.size by omega) (.int .i64 xo) (.int .i64 xb) (.int .i64 xi) (.int .i64 K) (.int .i64 H) (.int .i64 (sS : Int)) (.int .u32 (sv.toNat : Int)) (.slice A4 sS c4)
  have ov2 := own_base ov (show w.heap.size ≤ w3.heap.size by omega)
  obtain ⟨r1, r2⟩ := R1.out
  obtain ⟨r3, r4⟩ := R2.out
  obtain ⟨r5, r6⟩ := R3.out
  refine bodyPost_ret (v := Rec.val ⟨xo, xb, xi, ⟨K, H, (sS : Int)⟩, sv, D⟩ (.slice A4 sS c4)) ?_ rfl ⟨⟨xo, xb, xi, ⟨K, H, (sS : Int)⟩, sv, D⟩, A4, c4, ?_, ?_, ?_, B8⟩
  · simp [results, Try.results8, go_sem, t0, t1, t2, t3, t4, t5, t6, t7]
    rfl
  · dsimp only; rw [hD]
  · unfold Rec.may; exact decide_eq_true ⟨r1, r2, r3, r4, r5, r6, Par.ok_may HPO.out, by dsimp only; rw [hD]⟩
  · dsimp only; rw [hD]; exact (by unfold OB; exact ov2)
end Go.Proofs.Ythafodblffgmmaa
