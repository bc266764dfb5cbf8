/- RefPut -/
import Derived.Deep.RegionHeld3
import Derived.Deep.AppendLies
import Derived.Test.YtlfmfhdgnmchgaaBRoomLess15
set_option maxRecDepth 20000
set_option linter.unusedSimpArgs false
set_option linter.unusedVariables false
namespace Go.Proofs.Ytlfmfhdgnmchgaa
open Go.RowKit Wells
/-- the same cells, inline, and all blocks below B -/
def RHeld (w0 : World) (B g : Nat) (r : Rec) (d : Value) (w : World) : Prop := w.cell? ⟨g, 0, none⟩ = some (.int .i64 r.O) ∧ w.cell? ⟨g, 1, none⟩ = some (.int .i64 r.B) ∧ w.cell? ⟨g, 2, none⟩ = some (.int .i64 r.I) ∧ w.cell? ⟨g, 3, none⟩ = some (.int .i64 r.P.K) ∧ w.cell? ⟨g, 4, none⟩ = some (.int .i64 r.P.H) ∧ w.cell? ⟨g, 5, none⟩ = some (.int .i64 r.P.S) ∧ w.cell? ⟨g, 6, none⟩ = some (.int .u32 (r.S.toNat : Int)) ∧ w.cell? ⟨g, 7, none⟩ = some d ∧ Below B w0 w
theorem RHeld.b {w0 w : World} {B g : Nat} {r : Rec} {d : Value} (h : RHeld w0 B g r d w) : Below B w0 w := h.2.2.2.2.2.2.2.2
theorem RHeld.cells {w0 w : World} {B g : Nat} {r : Rec} {d : Value} (h : RHeld w0 B g r d w) : RCells w g r d := ⟨h.1, h.2.1, h.2.2.1, h.2.2.2.1, h.2.2.2.2.1, h.2.2.2.2.2.1, h.2.2.2.2.2.2.1, h.2.2.2.2.2.2.2.1⟩
theorem RHeld.of {w0 w : World} {B g : Nat} {r : Rec} {d : Value} (h : RCells w g r d) (hb : Below B w0 w) : RHeld w0 B g r d w := ⟨h.1, h.2.1, h.2.2.1, h.2.2.2.1, h.2.2.2.2.1, h.2.2.2.2.2.1, h.2.2.2.2.2.2.1, h.2.2.2.2.2.2.2, hb⟩
theorem RHeld.keep {w0 w w' : World} {B g : Nat} {r : Rec} {d : Value} (hb : Below B w w') (h : RHeld w0 B g r d w) (hg : g < B) : RHeld w0 B g r d w' := .of (h.cells.keep hb hg) (h.b.trans hb)
theorem RHeld.drew {w0 w : World} {B g : Nat} {r : Rec} {d : Value} (h : RHeld w0 B g r d w) : RHeld w0 B g r d w.drew := .of h.cells (below_drewN h.b 1)
theorem RHeld.draws {w0 w : World} {B g : Nat} {r : Rec} {d : Value} (h : RHeld w0 B g r d w) (n : Nat) : RHeld w0 B g r d (w.drewN n) := .of h.cells (below_drewN h.b n)
theorem RHeld.mk_ {w0 w : World} {B g : Nat} {O B' I K H S : Int} {s : BitVec 32} {d : Value} (h : w.cell? ⟨g, 0, none⟩ = some (.int .i64 O) ∧ w.cell? ⟨g, 1, none⟩ = some (.int .i64 B') ∧ w.cell? ⟨g, 2, none⟩ = some (.int .i64 I) ∧ w.cell? ⟨g, 3, none⟩ = some (.int .i64 K) ∧ w.cell? ⟨g, 4, none⟩ = some (.int .i64 H) ∧ w.cell? ⟨g, 5, none⟩ = some (.int .i64 S) ∧ w.cell? ⟨g, 6, none⟩ = some (.int .u32 (s.toNat : Int)) ∧ w.cell? ⟨g, 7, none⟩ = some d ∧ Below B w0 w) : RHeld w0 B g ⟨O, B', I, ⟨K, H, S⟩, s, []⟩ d w := h
theorem own_drew {w : World} {base : Nat} {e : TypeId} {size n : Nat} {v : Value} {xs : List Value} (h : w.ownsRow base e size v n xs) : w.drew.ownsRow base e size v n xs := h
theorem _root_.Wells.Sl.news {w : World} {B b o n : Nat} {xs : List Value} (h : Sl w B 1 (some ⟨b, o, none⟩) n xs) (hn : 0 < n) : ∀ j u, xs[j]? = some u → w.cell? ((⟨b, o, none⟩ : Addr).add j) = some u := by
  intro j u hu
  obtain ⟨b', o', e, _, hcc⟩ := h.at_ (by omega)
  injection e with e
  injection e with e1 e2
  subst e1 e2
  rw [addr_add]
  exact hcc j u hu
theorem refputrec_any (B : Nat) (r : Rec) (A : Option Addr) (n c : Nat) (w : World) (h : Sl w B 1 A n (r.D.map bv8)) (hB : B ≤ w.heap.size) :
    Calls Try.prog 17 #[r.val (.slice A n c)] w fun e w' => ∃ v, e = .returned v ∧ OB w.heap.size w' v (putR r) ∧ Below w.heap.size w w' := by
  obtain ⟨i0, hi, hz0, hz1, hz2⟩ := info_parts infoB
  obtain ⟨O, B', I, ⟨K, H, S⟩, s, D⟩ := r
  have hsb := s.isLt
  obtain ⟨L, hL⟩ : ∃ L, putR ⟨O, B', I, ⟨K, H, S⟩, s, D⟩ = L := ⟨_, rfl⟩
  have HL := hid hL
  clear hL
  rw [HL.out]
  unfold Rec.val
  dsimp only at *
  have hn0 : D.length = n := by have := h.len; simpa using this
  have HN := hid hn0
  cases hm : Rec.may ⟨O, B', I, ⟨K, H, S⟩, s, D⟩ with
  | false =>
    have HL2 := hid (show [] = L by rw [← HL.out]; unfold putR; rw [if_neg (by rw [hm]; decide)])
    rw [← HL2.out]
    go_enter Try.func17, Try.ntmps17
    go_wp2_with fail
    refine (refrecmay_any ⟨O, B', I, ⟨K, H, S⟩, s, D⟩ A n c false _ hn0 hm).mono ?_
    rintro e w2 ⟨rfl, hb2⟩
    go_wp2_with fail
    go_ret
    exact ⟨_, rfl, World.ownsRow_nil _ _ _ _, ((Below.refl _ _).alloc (Nat.le_refl _) _).trans (hb2.mono (by simp))⟩
  | true =>
    obtain ⟨r1, r2, r3, r4, r5, r6, r7, r8⟩ := may_open hm
    obtain ⟨k1, k2, k3, k4, k5, k6⟩ := Par.may_ok r7
    have hshort := rec_short hm
    have HSH := hid hshort
    rw [recB_len] at hshort
    dsimp only at r1 r2 r3 r4 r5 r6 r7 r8 k1 k2 k3 k4 k5 k6 hshort
    have hn42 : n ≤ 42 := by omega
    have hn1 : 1 ≤ n := by omega
    have hpl := hid (show cellL 1 (recB ⟨O, B', I, ⟨K, H, S⟩, s, D⟩) = L by rw [← putR_yes hm]; exact HL.out)
    have hlen := hid (recB_len ⟨O, B', I, ⟨K, H, S⟩, s, D⟩)
    have HMI := hid hm
    have HM := hid hn0
    have cK := hid (hi0 (x := K) (by omega))
    have cH := hid (hi0 (x := H) (by omega))
    have cS := hid (hi0 (x := S) (by omega))
    clear hm hn0 r7 r8 hshort
    have rc0 := RCells.new w ⟨O, B', I, ⟨K, H, S⟩, s, D⟩ (.slice A n c) 53
    have bb0 : Below w.heap.size w (w.alloc (.cells #[.int .i64 O, .int .i64 B', .int .i64 I, .int .i64 K, .int .i64 H, .int .i64 S, .int .u32 (s.toNat : Int), .slice A n c] 53)) := (Below.refl _ _).alloc (Nat.le_refl _) _
    go_enter Try.func17, Try.ntmps17
    go_wp2_with fail
    try dsimp only at rc0
    generalize w.alloc (.cells #[.int .i64 O, .int .i64 B', .int .i64 I, .int .i64 K, .int .i64 H, .int .i64 S, .int .u32 (s.toNat : Int), .slice A n c] 53) = w1 at *
    have hg1 := rc0.lt
    obtain ⟨G, hG⟩ : ∃ G, G = w1.heap.size := ⟨_, rfl⟩
    refine (refrecmay_any ⟨O, B', I, ⟨K, H, S⟩, s, D⟩ A n c true w1 HM.out HMI.out).mono ?_
    rintro e w2 ⟨rfl, hb2⟩
    rw [← hG] at hg1 hb2
    have hG2 : G ≤ w2.heap.size := by have := hb2.size; omega
    have RC2 := rc0.keep hb2 hg1
    have hsD := (h.below (bb0.mono hB)).below (hb2.mono (show B ≤ G by omega))
    have hwG : w.heap.size ≤ G := by omega
    have hbw := bb0.trans (hb2.mono hwG)
    clear rc0 bb0 hb2 hG h
    have HRC := hid RC2
    obtain ⟨c0, c1, c2, c3, c4, c5, c6, c7⟩ := RC2
    try dsimp only at c0 c1 c2 c3 c4 c5 c6 c7
    have h3b := hid (show [hiB K 0, hiB H 0, hiB S 0].map bv8 = [.int .u8 K, .int .u8 H, .int .u8 S] by simp [cK.out, cH.out, cS.out])
    obtain ⟨db, dof, rfl, _⟩ := hsD.at_ (by omega)
    go_wp2_with fail
    go_region_held3 (fun w' => w'.cell? ⟨w.heap.size, 0, none⟩ = some (.int .i64 O) ∧ w'.cell? ⟨w.heap.size, 1, none⟩ = some (.int .i64 B') ∧ w'.cell? ⟨w.heap.size, 2, none⟩ = some (.int .i64 I) ∧ w'.cell? ⟨w.heap.size, 3, none⟩ = some (.int .i64 K) ∧ w'.cell? ⟨w.heap.size, 4, none⟩ = some (.int .i64 H) ∧ w'.cell? ⟨w.heap.size, 5, none⟩ = some (.int .i64 S) ∧ w'.cell? ⟨w.heap.size, 6, none⟩ = some (.int .u32 (s.toNat : Int)) ∧ w'.cell? ⟨w.heap.size, 7, none⟩ = some (.slice (some ⟨db, dof, none⟩) n c) ∧ Below G w2 w')
      (first
      | exact RHeld.drew (r := ⟨O, B', I, ⟨K, H, S⟩, s, D⟩) ⟨c0, c1, c2, c3, c4, c5, c6, c7, Below.refl _ _⟩
      | exact RHeld.drew (r := ⟨O, B', I, ⟨K, H, S⟩, s, D⟩) (by assumption)
      | exact RHeld.keep (r := ⟨O, B', I, ⟨K, H, S⟩, s, D⟩) b3 (by assumption) hg1
      | exact RHeld.keep (r := ⟨O, B', I, ⟨K, H, S⟩, s, D⟩) b4 (by assumption) hg1
      | exact RHeld.keep (r := ⟨O, B', I, ⟨K, H, S⟩, s, D⟩) b5 (by assumption) hg1
      | exact RHeld.draws (r := ⟨O, B', I, ⟨K, H, S⟩, s, D⟩) (by assumption) _)
      (first
        | (go_at_call 36; have hh0 := ‹_ ∧ _ ∧ _ ∧ _ ∧ _ ∧ _ ∧ _ ∧ _ ∧ Below G w2 _›; have hh := RHeld.mk_ hh0; clear hh0; have hhs := hh.b.size; first | (refine (high_to G A4 4 cc4 (highL 3 O ++ highL 1 B') I 2 _ 6 (highL 3 O ++ highL 1 B' ++ highL 2 I) (by omega) rfl o4 (by omega) (by omega) (by omega) (by omega)).mono ?_; rintro e w5 ⟨A5, cc5, rfl, o5, b5⟩) | (refine (high_to G A3 3 cc3 (highL 3 O) B' 1 _ 4 (highL 3 O ++ highL 1 B') (by omega) rfl o3 (by omega) (by omega) (by omega) (by omega)).mono ?_; rintro e w4 ⟨A4, cc4, rfl, o4, b4⟩) | (refine (high_to G none 0 0 ([]) O 3 _ 3 (highL 3 O) (by omega) rfl (World.ownsRow_nil _ _ _ _) (by omega) (by omega) (by omega) (by omega)).mono ?_; rintro e w3 ⟨A3, cc3, rfl, o3, b3⟩)))
    have hh0 := ‹_ ∧ _ ∧ _ ∧ _ ∧ _ ∧ _ ∧ _ ∧ _ ∧ Below G w2 w5›
    have hh5 := RHeld.mk_ hh0
    clear hh0
    have hG5 : G ≤ w5.heap.size := by have := hh5.b.size; omega
    have hsD5 := hsD.below (hh5.b.mono (show B ≤ G by omega))
    have hbw5 := hbw.trans (hh5.b.mono hwG)
    clear c0 c1 c2 c3 c4 c5 c6 c7 HRC b3 b4 b5 hsD hbw o3 o4
    have HRC := hid hh5.cells
    obtain ⟨c0, c1, c2, c3, c4, c5, c6, c7⟩ := hh5.cells
    try dsimp only at c0 c1 c2 c3 c4 c5 c6 c7
    clear hh5
    clear ‹_ ∧ _ ∧ _ ∧ _ ∧ _ ∧ _ ∧ _ ∧ _ ∧ Below G w2 w5›
    go_wp2_with (at_builtin; go_must (refine wpl_append rfl (.tmp 16) (.tmp 29) 45 rfl G 5 i0 (.int .u8 0) 1 1 Try.underlying45 hi hz0 hz1 hz2 rfl (by omega) (.slice A5 6 cc5) 6 _ rfl (o5.alloc _) _ _ 3 3 _ rfl (Sl.fresh _ _ _ _ 3 rfl) (by simp [Value.oneCell']) 9 (by omega) ((highL 3 O ++ highL 1 B' ++ highL 2 I ++ [hiB K 0, hiB H 0, hiB S 0]).map bv8) (by rw [← h3b.out, ← List.map_append]) (by omega) (by omega) (by simp; omega) ?_); intro A6 cc6 w6 o6 g6 _; have b6 : Below G w5 w6 := below_own ((Below.refl _ _).alloc hG5 _) (o5.alloc _) g6 (Nat.le_refl _) (by simp; omega); have RC6 := HRC.out.keep b6 hg1; obtain ⟨d0, d1, d2, d3, d4, d5, d6, d7⟩ := RC6; try dsimp only at d0 d1 d2 d3 d4 d5 d6 d7)
    have hG6 : G ≤ w6.heap.size := by have := b6.size; omega
    have RC6 := HRC.out.keep b6 hg1
    have hsD6 := hsD5.below (b6.mono (show B ≤ G by omega))
    have hbw6 := hbw5.trans (b6.mono hwG)
    clear d0 d1 d2 d3 d4 d5 d6 d7 g6 b6 HRC c0 c1 c2 c3 c4 c5 c6 c7 hsD5 hbw5 o5
    have HRC := hid RC6
    obtain ⟨c0, c1, c2, c3, c4, c5, c6, c7⟩ := RC6
    try dsimp only at c0 c1 c2 c3 c4 c5 c6 c7
    have hfin := hid (show (recB ⟨O, B', I, ⟨K, H, S⟩, s, D⟩).map bv8 = (highL 3 O ++ highL 1 B' ++ highL 2 I ++ [hiB K 0, hiB H 0, hiB S 0] ++ highL 4 (s.toNat : Int)).map bv8 ++ D.map bv8 by rw [← List.map_append]; rfl)
    have hDl : (D.map bv8).length = n * 1 := by rw [List.length_map, HM.out]; omega
    have hrl := hid (show (recB ⟨O, B', I, ⟨K, H, S⟩, s, D⟩).length = 13 + n by rw [hlen.out, HM.out])
    have h64s : IntKind.i64.wrap (s.toNat : Int) = (s.toNat : Int) := by rw [IntKind.wrap_i64]; omega
    go_wp2_with fail
    go_region_held3 (fun w' => w'.cell? ⟨w.heap.size, 0, none⟩ = some (.int .i64 O) ∧ w'.cell? ⟨w.heap.size, 1, none⟩ = some (.int .i64 B') ∧ w'.cell? ⟨w.heap.size, 2, none⟩ = some (.int .i64 I) ∧ w'.cell? ⟨w.heap.size, 3, none⟩ = some (.int .i64 K) ∧ w'.cell? ⟨w.heap.size, 4, none⟩ = some (.int .i64 H) ∧ w'.cell? ⟨w.heap.size, 5, none⟩ = some (.int .i64 S) ∧ w'.cell? ⟨w.heap.size, 6, none⟩ = some (.int .u32 (s.toNat : Int)) ∧ w'.cell? ⟨w.heap.size, 7, none⟩ = some (.slice (some ⟨db, dof, none⟩) n c) ∧ Below G w6 w')
      (first
      | exact RHeld.drew (r := ⟨O, B', I, ⟨K, H, S⟩, s, D⟩) ⟨c0, c1, c2, c3, c4, c5, c6, c7, Below.refl _ _⟩
      | exact RHeld.drew (r := ⟨O, B', I, ⟨K, H, S⟩, s, D⟩) (by assumption)
      | exact RHeld.keep (r := ⟨O, B', I, ⟨K, H, S⟩, s, D⟩) b7 (by assumption) hg1
      | exact RHeld.keep (r := ⟨O, B', I, ⟨K, H, S⟩, s, D⟩) b8 (by assumption) hg1
      | exact RHeld.keep (r := ⟨O, B', I, ⟨K, H, S⟩, s, D⟩) b9 (by assumption) hg1
      | exact RHeld.draws (r := ⟨O, B', I, ⟨K, H, S⟩, s, D⟩) (by assumption) _)
      (first
        | (go_at_call 36; have hh0 := ‹_ ∧ _ ∧ _ ∧ _ ∧ _ ∧ _ ∧ _ ∧ _ ∧ Below G w6 _›; have hh := RHeld.mk_ hh0; clear hh0; have hhs := hh.b.size; (refine (high_to G A6 9 cc6 (highL 3 O ++ highL 1 B' ++ highL 2 I ++ [hiB K 0, hiB H 0, hiB S 0]) (s.toNat : Int) 4 _ 13 (highL 3 O ++ highL 1 B' ++ highL 2 I ++ [hiB K 0, hiB H 0, hiB S 0] ++ highL 4 (s.toNat : Int)) (by omega) rfl (own_drew o6) (by omega) (by omega) (by omega) (by omega)).mono ?_; rintro e w7 ⟨A7, cc7, rfl, o7, b7⟩))
        | (refine step_append_lies _ rfl (.tmp 35) (.tmp 37) 45 rfl G 5 i0 (.int .u8 0) 1 1 Try.underlying45 hi hz0 hz1 hz2 rfl (by omega) (.slice A7 13 cc7) 13 _ rfl o7 ⟨db, dof, none⟩ n c (D.map bv8) rfl hDl ((hsD6.drew.below (b7.mono (show B ≤ G by omega))).news (by omega)) (u8s_cell _) (by omega) (by unfold maxLen; omega) (by omega) (Nat.le_trans hG6 b7.size) _ rfl ?_; intro g8 cc8 w8 o8 gr8 _ _; have b8 : Below G w7 w8 := below_own (Below.refl _ _) o7 gr8 (Nat.le_refl _) (Nat.le_trans hG6 b7.size))
        | (go_at_call 19; rw [← hfin.out] at o8; refine (refput_any 1 _ _ (recB ⟨O, B', I, ⟨K, H, S⟩, s, D⟩) (13 + n) cc8 _ (by omega) (Sl.own o8) (Nat.le_refl _) (by omega)).mono ?_; rintro e w9 ⟨v, rfl, hv, hb9⟩; have b9 : Below G w8 w9 := hb9.mono (Nat.le_trans (Nat.le_trans hG6 b7.size) b8.size)))
    have hh0 := ‹_ ∧ _ ∧ _ ∧ _ ∧ _ ∧ _ ∧ _ ∧ _ ∧ Below G w6 w9›
    have hh9 := RHeld.mk_ hh0
    have bb := hbw6.trans (hh9.b.mono hwG)
    rw [hpl.out] at hv
    have hG8 : w.heap.size ≤ w8.heap.size := Nat.le_trans hwG (Nat.le_trans (Nat.le_trans hG6 b7.size) b8.size)
    have hv2 : OB w.heap.size w9 v L := own_base hv hG8
    clear hh9 hh0
    go_wp2_with fail
    go_ret
    exact ⟨_, rfl, hv2, bb⟩
end Go.Proofs.Ytlfmfhdgnmchgaa

