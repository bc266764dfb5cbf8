/- The cells of records. -/
import Derived.Test.YthafodblffgmmaaNumber
import Derived.Test.YthafodblffgmmaaRec
import Derived.Test.YthafodblffgmmaaCell
import Derived.Test.YthafodblffgmmaaRefCell
namespace Wells
open Go Go.RowKit
/-- a record in eight cells at the head of block g -/
def RCells (w : World) (g : Nat) (r : Rec) (d : Value) : Prop := w.cell? ⟨g, 0, none⟩ = some (.int .i64 r.O) ∧ w.cell? ⟨g, 1, none⟩ = some (.int .i64 r.B) ∧ w.cell? ⟨g, 2, none⟩ = some (.int .i64 r.I) ∧ w.cell? ⟨g, 3, none⟩ = some (.int .i64 r.P.K) ∧ w.cell? ⟨g, 4, none⟩ = some (.int .i64 r.P.H) ∧ w.cell? ⟨g, 5, none⟩ = some (.int .i64 r.P.S) ∧ w.cell? ⟨g, 6, none⟩ = some (.int .u32 (r.S.toNat : Int)) ∧ w.cell? ⟨g, 7, none⟩ = some d
theorem RCells.keep {w w' : World} {g B : Nat} {r : Rec} {d : Value} (h : RCells w g r d) (hb : Below B w w') (hg : g < B) : RCells w' g r d := by
  obtain ⟨c0, c1, c2, c3, c4, c5, c6, c7⟩ := h
  exact ⟨(hb.cell (p := ⟨g, 0, none⟩) hg).trans c0, (hb.cell (p := ⟨g, 1, none⟩) hg).trans c1, (hb.cell (p := ⟨g, 2, none⟩) hg).trans c2, (hb.cell (p := ⟨g, 3, none⟩) hg).trans c3, (hb.cell (p := ⟨g, 4, none⟩) hg).trans c4, (hb.cell (p := ⟨g, 5, none⟩) hg).trans c5, (hb.cell (p := ⟨g, 6, none⟩) hg).trans c6, (hb.cell (p := ⟨g, 7, none⟩) hg).trans c7⟩
theorem RCells.new (w : World) (r : Rec) (d : Value) (t : TypeId) : RCells (w.alloc (.cells #[.int .i64 r.O, .int .i64 r.B, .int .i64 r.I, .int .i64 r.P.K, .int .i64 r.P.H, .int .i64 r.P.S, .int .u32 (r.S.toNat : Int), d] t)) w.heap.size r d :=
  ⟨World.cell?_alloc_at _ _ _ _ rfl, World.cell?_alloc_at _ _ _ _ rfl, World.cell?_alloc_at _ _ _ _ rfl, World.cell?_alloc_at _ _ _ _ rfl, World.cell?_alloc_at _ _ _ _ rfl, World.cell?_alloc_at _ _ _ _ rfl, World.cell?_alloc_at _ _ _ _ rfl, World.cell?_alloc_at _ _ _ _ rfl⟩
theorem RCells.lt {w : World} {g : Nat} {r : Rec} {d : Value} (h : RCells w g r d) : g < w.heap.size := World.block_lt_of_cell? w _ h.1
theorem hi0 {x : Int} (h : 0 ≤ x ∧ x < 256) : bv8 (hiB x 0) = .int .u8 x := by
  unfold bv8
  rw [hiB_toNat]
  congr 1
  simp
  omega
end Wells
namespace Go.Proofs.Ythafodblffgmmaa
open Go.RowKit Wells
theorem putrec_any (B : Nat) (r : Rec) (A : Option Addr) (n c : Nat) (w : World) (h : Sl w B 1 A n (r.D.map bv8)) (hB : B ≤ w.heap.size) :
    Calls Try.prog 15 #[r.val (.slice A n c)] w fun e w' => ∃ v, e = .returned v ∧ OB w.heap.size w' v (putR r) ∧ Below w.heap.size w w' := by
  obtain ⟨i0, hi, hz0, hz1, hz2⟩ := info_parts infoB
  obtain ⟨O, B', I, ⟨K, H, S⟩, s, D⟩ := r
  have hsb := s.isLt
  obtain ⟨L, hL⟩ : ∃ L, putR ⟨O, B', I, ⟨K, H, S⟩, s, D⟩ = L := ⟨_, rfl⟩
  have HL := hid hL
  clear hL
  rw [HL.out]
  unfold Rec.val
  dsimp only at *
  have hn0 : D.length = n := by have := h.len; simpa using this
  have HN := hid hn0
  cases hm : Rec.may ⟨O, B', I, ⟨K, H, S⟩, s, D⟩ with
  | false =>
    have HL2 := hid (show [] = L by rw [← HL.out]; unfold putR; rw [if_neg (by rw [hm]; decide)])
    rw [← HL2.out]
    go_enter Try.func15, Try.ntmps15
    go_wp2_with fail
    refine (recmay_any ⟨O, B', I, ⟨K, H, S⟩, s, D⟩ A n c false _ hn0 hm).mono ?_
    rintro e w2 ⟨rfl, hb2⟩
    go_wp2_with fail
    go_ret
    exact ⟨_, rfl, World.ownsRow_nil _ _ _ _, ((Below.refl _ _).alloc (Nat.le_refl _) _).trans (hb2.mono (by simp))⟩
  | true =>
    obtain ⟨r1, r2, r3, r4, r5, r6, r7, r8⟩ := may_open hm
    obtain ⟨k1, k2, k3, k4, k5, k6⟩ := Par.may_ok r7
    have hshort := rec_short hm
    have HSH := hid hshort
    rw [recB_len] at hshort
    dsimp only at r1 r2 r3 r4 r5 r6 r7 r8 k1 k2 k3 k4 k5 k6 hshort
    have hn42 : n ≤ 42 := by omega
    have hn1 : 1 ≤ n := by omega
    have hpl := hid (show cellL 1 (recB ⟨O, B', I, ⟨K, H, S⟩, s, D⟩) = L by rw [← putR_yes hm]; exact HL.out)
    have hlen := hid (recB_len ⟨O, B', I, ⟨K, H, S⟩, s, D⟩)
    have HMI := hid hm
    have HM := hid hn0
    have cK := hid (hi0 (x := K) (by omega))
    have cH := hid (hi0 (x := H) (by omega))
    have cS := hid (hi0 (x := S) (by omega))
    clear hm hn0 r7 r8 hshort
    have rc0 := RCells.new w ⟨O, B', I, ⟨K, H, S⟩, s, D⟩ (.slice A n c) 27
    have bb0 : Below w.heap.size w (w.alloc (.cells #[.int .i64 O, .int .i64 B', .int .i64 I, .int .i64 K, .int .i64 H, .int .i64 S, .int .u32 (s.toNat : Int), .slice A n c] 27)) := (Below.refl _ _).alloc (Nat.le_refl _) _
    go_enter Try.func15, Try.ntmps15
    go_wp2_with fail
    try dsimp only at rc0
    generalize w.alloc (.cells #[.int .i64 O, .int .i64 B', .int .i64 I, .int .i64 K, .int .i64 H, .int .i64 S, .int .u32 (s.toNat : Int), .slice A n c] 27) = w1 at *
    have hg1 := rc0.lt
    obtain ⟨G, hG⟩ : ∃ G, G = w1.heap.size := ⟨_, rfl⟩
    refine (recmay_any ⟨O, B', I, ⟨K, H, S⟩, s, D⟩ A n c true w1 HM.out HMI.out).mono ?_
    rintro e w2 ⟨rfl, hb2⟩
    rw [← hG] at hg1 hb2
    have hG2 : G ≤ w2.heap.size := by have := hb2.size; omega
    have RC2 := rc0.keep hb2 hg1
    have hsD := (h.below (bb0.mono hB)).below (hb2.mono (show B ≤ G by omega))
    have hwG : w.heap.size ≤ G := by omega
    have hbw := bb0.trans (hb2.mono hwG)
    clear rc0 bb0 hb2 hG h
    have HRC := hid RC2
    obtain ⟨c0, c1, c2, c3, c4, c5, c6, c7⟩ := RC2
    try dsimp only at c0 c1 c2 c3 c4 c5 c6 c7
    have h3b := hid (show [hiB K 0, hiB H 0, hiB S 0].map bv8 = [.int .u8 K, .int .u8 H, .int .u8 S] by simp [cK.out, cH.out, cS.out])
    go_wp2_with fail
    refine (number_to G none 0 0 ([]) O 3 _ 3 (highL 3 O) (by omega) rfl (World.ownsRow_nil _ _ _ _) (by omega) (by omega) (by omega) (by omega)).mono ?_
    rintro e w3 ⟨A3, cc3, rfl, o3, b3⟩
    have hG3 : G ≤ w3.heap.size := by have := b3.size; omega
    have RC3 := HRC.out.keep b3 hg1
    have hsD3 := hsD.below (b3.mono (show B ≤ G by omega))
    have hbw3 := hbw.trans (b3.mono hwG)
    clear b3 HRC c0 c1 c2 c3 c4 c5 c6 c7 hsD hbw 
    have HRC := hid RC3
    obtain ⟨c0, c1, c2, c3, c4, c5, c6, c7⟩ := RC3
    try dsimp only at c0 c1 c2 c3 c4 c5 c6 c7
    go_wp2_with fail
    refine (number_to G A3 3 cc3 (highL 3 O) B' 1 _ 4 (highL 3 O ++ highL 1 B') (by omega) rfl o3 (by omega) (by omega) (by omega) (by omega)).mono ?_
    rintro e w4 ⟨A4, cc4, rfl, o4, b4⟩
    have hG4 : G ≤ w4.heap.size := by have := b4.size; omega
    have RC4 := HRC.out.keep b4 hg1
    have hsD4 := hsD3.below (b4.mono (show B ≤ G by omega))
    have hbw4 := hbw3.trans (b4.mono hwG)
    clear b4 HRC c0 c1 c2 c3 c4 c5 c6 c7 hsD3 hbw3 o3
    have HRC := hid RC4
    obtain ⟨c0, c1, c2, c3, c4, c5, c6, c7⟩ := RC4
    try dsimp only at c0 c1 c2 c3 c4 c5 c6 c7
    go_wp2_with fail
    refine (number_to G A4 4 cc4 (highL 3 O ++ highL 1 B') I 2 _ 6 (highL 3 O ++ highL 1 B' ++ highL 2 I) (by omega) rfl o4 (by omega) (by omega) (by omega) (by omega)).mono ?_
    rintro e w5 ⟨A5, cc5, rfl, o5, b5⟩
    have hG5 : G ≤ w5.heap.size := by have := b5.size; omega
    have RC5 := HRC.out.keep b5 hg1
    have hsD5 := hsD4.below (b5.mono (show B ≤ G by omega))
    have hbw5 := hbw4.trans (b5.mono hwG)
    clear b5 HRC c0 c1 c2 c3 c4 c5 c6 c7 hsD4 hbw4 o4
    have HRC := hid RC5
    obtain ⟨c0, c1, c2, c3, c4, c5, c6, c7⟩ := RC5
    try dsimp only at c0 c1 c2 c3 c4 c5 c6 c7
    go_wp2_with (at_builtin; go_must (refine wpl_append rfl (.tmp 18) (.tmp 31) 25 rfl G 5 i0 (.int .u8 0) 1 1 Try.underlying25 hi hz0 hz1 hz2 rfl (by omega) (.slice A5 6 cc5) 6 _ rfl (o5.alloc _) _ _ 3 3 _ rfl (Sl.fresh _ _ _ _ 3 rfl) (by simp [Value.oneCell']) 9 (by omega) ((highL 3 O ++ highL 1 B' ++ highL 2 I ++ [hiB K 0, hiB H 0, hiB S 0]).map bv8) (by rw [← h3b.out, ← List.map_append]) (by omega) (by omega) (by simp; omega) ?_); intro A6 cc6 w6 o6 g6 _; have b6 : Below G w5 w6 := below_own ((Below.refl _ _).alloc hG5 _) (o5.alloc _) g6 (Nat.le_refl _) (by simp; omega); have RC6 := HRC.out.keep b6 hg1; obtain ⟨d0, d1, d2, d3, d4, d5, d6, d7⟩ := RC6; try dsimp only at d0 d1 d2 d3 d4 d5 d6 d7)
    have hG6 : G ≤ w6.heap.size := by have := b6.size; omega
    have RC6 := HRC.out.keep b6 hg1
    have hsD6 := hsD5.below (b6.mono (show B ≤ G by omega))
    have hbw6 := hbw5.trans (b6.mono hwG)
    clear d0 d1 d2 d3 d4 d5 d6 d7 g6 b6 HRC c0 c1 c2 c3 c4 c5 c6 c7 hsD5 hbw5 o5
    have HRC := hid RC6
    obtain ⟨c0, c1, c2, c3, c4, c5, c6, c7⟩ := RC6
    try dsimp only at c0 c1 c2 c3 c4 c5 c6 c7
    refine (number_to G A6 9 cc6 (highL 3 O ++ highL 1 B' ++ highL 2 I ++ [hiB K 0, hiB H 0, hiB S 0]) (s.toNat : Int) 4 _ 13 (highL 3 O ++ highL 1 B' ++ highL 2 I ++ [hiB K 0, hiB H 0, hiB S 0] ++ highL 4 (s.toNat : Int)) (by omega) rfl o6 (by omega) (by omega) (by omega) (by omega)).mono ?_
    rintro e w7 ⟨A7, cc7, rfl, o7, b7⟩
    have hG7 : G ≤ w7.heap.size := by have := b7.size; omega
    have RC7 := HRC.out.keep b7 hg1
    have hsD7 := hsD6.below (b7.mono (show B ≤ G by omega))
    have hbw7 := hbw6.trans (b7.mono hwG)
    clear b7 HRC c0 c1 c2 c3 c4 c5 c6 c7 hsD6 hbw6 o6
    have HRC := hid RC7
    obtain ⟨c0, c1, c2, c3, c4, c5, c6, c7⟩ := RC7
    try dsimp only at c0 c1 c2 c3 c4 c5 c6 c7
    have hfin := hid (show (recB ⟨O, B', I, ⟨K, H, S⟩, s, D⟩).map bv8 = (highL 3 O ++ highL 1 B' ++ highL 2 I ++ [hiB K 0, hiB H 0, hiB S 0] ++ highL 4 (s.toNat : Int)).map bv8 ++ D.map bv8 by rw [← List.map_append]; rfl)
    go_wp2_with (at_builtin; go_must (refine wpl_append rfl (.tmp 38) (.tmp 40) 25 rfl G 5 i0 (.int .u8 0) 1 1 Try.underlying25 hi hz0 hz1 hz2 rfl (by omega) (.slice A7 13 cc7) 13 _ rfl o7 B A n c _ rfl hsD7 (u8s_cell _) (13 + n) (by omega) ((recB ⟨O, B', I, ⟨K, H, S⟩, s, D⟩).map bv8) hfin.out.symm (by omega) (by omega) hG7 ?_); intro A8 cc8 w8 o8 g8 _)
    have b8 : Below G w7 w8 := below_own (Below.refl _ _) o7 g8 (Nat.le_refl _) hG7
    have hG8 : G ≤ w8.heap.size := by have := b8.size; omega
    have hbw8 := hbw7.trans (b8.mono hwG)
    refine (put_any 1 w8.heap.size A8 (recB ⟨O, B', I, ⟨K, H, S⟩, s, D⟩) (13 + n) cc8 w8 (by omega) (Sl.own o8) (Nat.le_refl _) (by omega)).mono ?_
    rintro e w9 ⟨v, rfl, hv, hb9⟩
    rw [hpl.out] at hv
    have hv2 : OB w.heap.size w9 v L := own_base hv (by omega)
    go_wp2_with fail
    go_ret
    exact ⟨_, rfl, hv2, hbw8.trans (hb9.mono (by omega))⟩
end Go.Proofs.Ythafodblffgmmaa
