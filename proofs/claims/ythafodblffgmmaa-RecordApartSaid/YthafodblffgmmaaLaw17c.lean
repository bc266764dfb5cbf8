/- RecordApart. -/
import Derived.Test.YthafodblffgmmaaLaw17
import Derived.Test.YthafodblffgmmaaOwnAt
import Derived.Deep.RegionHeld3
import Derived.StillTailTactics
namespace Go.Proofs.Ythafodblffgmmaa
open Go.RowKit Wells
/-- two records in cells, and all blocks below B -/
def RHeld2 (w0 : World) (B g1 : Nat) (r : Rec) (d1 : Value) (g2 : Nat) (q : Rec) (d2 : Value) (w : World) : Prop := w.cell? ⟨g1, 0, none⟩ = some (.int .i64 r.O) ∧ w.cell? ⟨g1, 1, none⟩ = some (.int .i64 r.B) ∧ w.cell? ⟨g1, 2, none⟩ = some (.int .i64 r.I) ∧ w.cell? ⟨g1, 3, none⟩ = some (.int .i64 r.P.K) ∧ w.cell? ⟨g1, 4, none⟩ = some (.int .i64 r.P.H) ∧ w.cell? ⟨g1, 5, none⟩ = some (.int .i64 r.P.S) ∧ w.cell? ⟨g1, 6, none⟩ = some (.int .u32 (r.S.toNat : Int)) ∧ w.cell? ⟨g1, 7, none⟩ = some d1 ∧ w.cell? ⟨g2, 0, none⟩ = some (.int .i64 q.O) ∧ w.cell? ⟨g2, 1, none⟩ = some (.int .i64 q.B) ∧ w.cell? ⟨g2, 2, none⟩ = some (.int .i64 q.I) ∧ w.cell? ⟨g2, 3, none⟩ = some (.int .i64 q.P.K) ∧ w.cell? ⟨g2, 4, none⟩ = some (.int .i64 q.P.H) ∧ w.cell? ⟨g2, 5, none⟩ = some (.int .i64 q.P.S) ∧ w.cell? ⟨g2, 6, none⟩ = some (.int .u32 (q.S.toNat : Int)) ∧ w.cell? ⟨g2, 7, none⟩ = some d2 ∧ Below B w0 w
theorem RHeld2.mk_ {w0 w : World} {B g1 g2 : Nat} {r q : Rec} {d1 d2 : Value} (h : w.cell? ⟨g1, 0, none⟩ = some (.int .i64 r.O) ∧ w.cell? ⟨g1, 1, none⟩ = some (.int .i64 r.B) ∧ w.cell? ⟨g1, 2, none⟩ = some (.int .i64 r.I) ∧ w.cell? ⟨g1, 3, none⟩ = some (.int .i64 r.P.K) ∧ w.cell? ⟨g1, 4, none⟩ = some (.int .i64 r.P.H) ∧ w.cell? ⟨g1, 5, none⟩ = some (.int .i64 r.P.S) ∧ w.cell? ⟨g1, 6, none⟩ = some (.int .u32 (r.S.toNat : Int)) ∧ w.cell? ⟨g1, 7, none⟩ = some d1 ∧ w.cell? ⟨g2, 0, none⟩ = some (.int .i64 q.O) ∧ w.cell? ⟨g2, 1, none⟩ = some (.int .i64 q.B) ∧ w.cell? ⟨g2, 2, none⟩ = some (.int .i64 q.I) ∧ w.cell? ⟨g2, 3, none⟩ = some (.int .i64 q.P.K) ∧ w.cell? ⟨g2, 4, none⟩ = some (.int .i64 q.P.H) ∧ w.cell? ⟨g2, 5, none⟩ = some (.int .i64 q.P.S) ∧ w.cell? ⟨g2, 6, none⟩ = some (.int .u32 (q.S.toNat : Int)) ∧ w.cell? ⟨g2, 7, none⟩ = some d2 ∧ Below B w0 w) : RHeld2 w0 B g1 r d1 g2 q d2 w := h
theorem RHeld2.b {w0 w : World} {B g1 g2 : Nat} {r q : Rec} {d1 d2 : Value} (h : RHeld2 w0 B g1 r d1 g2 q d2 w) : Below B w0 w := h.2.2.2.2.2.2.2.2.2.2.2.2.2.2.2.2
theorem RHeld2.one {w0 w : World} {B g1 g2 : Nat} {r q : Rec} {d1 d2 : Value} (h : RHeld2 w0 B g1 r d1 g2 q d2 w) : RCells w g1 r d1 := ⟨h.1, h.2.1, h.2.2.1, h.2.2.2.1, h.2.2.2.2.1, h.2.2.2.2.2.1, h.2.2.2.2.2.2.1, h.2.2.2.2.2.2.2.1⟩
theorem RHeld2.two {w0 w : World} {B g1 g2 : Nat} {r q : Rec} {d1 d2 : Value} (h : RHeld2 w0 B g1 r d1 g2 q d2 w) : RCells w g2 q d2 := ⟨h.2.2.2.2.2.2.2.2.1, h.2.2.2.2.2.2.2.2.2.1, h.2.2.2.2.2.2.2.2.2.2.1, h.2.2.2.2.2.2.2.2.2.2.2.1, h.2.2.2.2.2.2.2.2.2.2.2.2.1, h.2.2.2.2.2.2.2.2.2.2.2.2.2.1, h.2.2.2.2.2.2.2.2.2.2.2.2.2.2.1, h.2.2.2.2.2.2.2.2.2.2.2.2.2.2.2.1⟩
theorem RHeld2.of {w0 w : World} {B g1 g2 : Nat} {r q : Rec} {d1 d2 : Value} (h : RCells w g1 r d1) (h' : RCells w g2 q d2) (hb : Below B w0 w) : RHeld2 w0 B g1 r d1 g2 q d2 w := by
  obtain ⟨a0, a1, a2, a3, a4, a5, a6, a7⟩ := h
  obtain ⟨b0, b1, b2, b3, b4, b5, b6, b7⟩ := h'
  exact ⟨a0, a1, a2, a3, a4, a5, a6, a7, b0, b1, b2, b3, b4, b5, b6, b7, hb⟩
theorem RHeld2.keep {w0 w : World} {B g1 g2 : Nat} {r q : Rec} {d1 d2 : Value} {w' : World} (hb : Below B w w') (h : RHeld2 w0 B g1 r d1 g2 q d2 w) (h1 : g1 < B) (h2 : g2 < B) : RHeld2 w0 B g1 r d1 g2 q d2 w' := .of (h.one.keep hb h1) (h.two.keep hb h2) (h.b.trans hb)
theorem RHeld2.draws {w0 w : World} {B g1 g2 : Nat} {r q : Rec} {d1 d2 : Value} (h : RHeld2 w0 B g1 r d1 g2 q d2 w) (n : Nat) : RHeld2 w0 B g1 r d1 g2 q d2 (w.drewN n) := .of h.one h.two (below_drewN h.b n)
theorem RHeld2.drew {w0 w : World} {B g1 g2 : Nat} {r q : Rec} {d1 d2 : Value} (h : RHeld2 w0 B g1 r d1 g2 q d2 w) : RHeld2 w0 B g1 r d1 g2 q d2 w.drew := .of h.one h.two (below_drewN h.b 1)
theorem alloc_size (w : World) (o : Obj) : (w.alloc o).heap.size = w.heap.size + 1 := by simp
abbrev recL (r : Rec) (d : Value) : List Value := [.int .i64 r.O, .int .i64 r.B, .int .i64 r.I, .int .i64 r.P.K, .int .i64 r.P.H, .int .i64 r.P.S, .int .u32 (r.S.toNat : Int), d]
set_option maxRecDepth 20000 in
set_option maxHeartbeats 16000000 in
theorem walk_RecordApart (o b i a1 b1 c1 x s : Int) (what vv : Int) (w : World) (ho : -9223372036854775808 ≤ o ∧ o ≤ 9223372036854775807) (hb : -9223372036854775808 ≤ b ∧ b ≤ 9223372036854775807) (hi : -9223372036854775808 ≤ i ∧ i ≤ 9223372036854775807) (ha1 : -9223372036854775808 ≤ a1 ∧ a1 ≤ 9223372036854775807) (hb1 : -9223372036854775808 ≤ b1 ∧ b1 ≤ 9223372036854775807) (hc1 : -9223372036854775808 ≤ c1 ∧ c1 ≤ 9223372036854775807) (hx : -9223372036854775808 ≤ x ∧ x ≤ 9223372036854775807) (hs : 0 ≤ s ∧ s ≤ 18446744073709551615) (hk : -9223372036854775808 ≤ what ∧ what ≤ 9223372036854775807) (hvv : -9223372036854775808 ≤ vv ∧ vv ≤ 9223372036854775807) :
    Calls Try.prog 6 #[.int .i64 o, .int .i64 b, .int .i64 i, .int .i64 a1, .int .i64 b1, .int .i64 c1, .int .i64 x, .int .u64 s, .int .i64 what, .int .i64 vv] w fun e w' => e = .returned (.bool true) ∧ Below w.heap.size w w' := by
  obtain ⟨xw, hxw⟩ : ∃ r, what % 6 = r := ⟨_, rfl⟩
  have hxw0 : xw = 0 ∨ xw = 1 ∨ xw = 2 ∨ xw = 3 ∨ xw = 4 ∨ xw = 5 := by omega
  have HXW := hid hxw
  clear hxw
  go_enter Try.func6, Try.ntmps6
  go_wp2_with fail
  refine (made_any o b i a1 b1 c1 x s _ ho hb hi ha1 hb1 hc1 hx hs).mono ?_
  rintro e w1 ⟨r, A, c, rfl, hm, hv, hbw⟩
  have hz1 := hbw.size
  have hsh := rec_short hm
  rw [recB_len] at hsh
  have hn24 : 1 ≤ r.D.length := by
    obtain ⟨_, _, _, _, _, _, h7, h8⟩ := may_open hm
    obtain ⟨_, _, _, _, h9, _⟩ := Par.may_ok h7
    omega
  have hlr := hid (putR_len hm)
  have HM := hid hm
  obtain ⟨n, hn⟩ : ∃ n, r.D.length = n := ⟨_, rfl⟩
  rw [hn] at hsh hn24 hv ⊢
  have HN := hid hn
  have sa := ob_sl hv hn
  obtain ⟨_, _, ee, hc2, hc3⟩ := own_form3 hv hn
  injection ee with e1 e2 e3
  subst e1 e3
  clear hn hm hv e2
  unfold Rec.val
  have hb2 := (Below.refl w1.heap.size w1).alloc (Nat.le_refl _) (recObj 27 r (.slice A n c))
  have ra : Row (w1.alloc (recObj 27 r (.slice A n c))) w1.heap.size 27 (recL r (.slice A n c)) := Row.new w1 27 #[.int .i64 r.O, .int .i64 r.B, .int .i64 r.I, .int .i64 r.P.K, .int .i64 r.P.H, .int .i64 r.P.S, .int .u32 (r.S.toNat : Int), .slice A n c]
  have rb : Row ((w1.alloc (recObj 27 r (.slice A n c))).alloc (recObj 27 r (.slice A n c))) (w1.alloc (recObj 27 r (.slice A n c))).heap.size 27 (recL r (.slice A n c)) := Row.new _ 27 #[.int .i64 r.O, .int .i64 r.B, .int .i64 r.I, .int .i64 r.P.K, .int .i64 r.P.H, .int .i64 r.P.S, .int .u32 (r.S.toNat : Int), .slice A n c]
  rw [alloc_size] at rb
  have rc0 := RCells.of_row ra
  have ra2 := ra.alloc (recObj 27 r (.slice A n c))
  have hb3 := hb2.alloc hb2.size (recObj 27 r (.slice A n c))
  obtain ⟨c0, c1, c2, c3, c4, c5, c6, c7⟩ := rc0
  clear ra hb2
  go_wp2_with fail
  generalize (w1.alloc (recObj 27 r (.slice A n c))).alloc (recObj 27 r (.slice A n c)) = w2 at *
  clear c0 c1 c2 c3 c4 c5 c6 c7
  refine (within_any what 6 _ hk.1 hk.2 (by omega) (by omega)).mono ?_
  rintro e w2' ⟨rfl, hw2⟩
  rw [HXW.out, ← hw2]
  clear hw2 w2'
  have hl2 := ra2.lt
  have hl2b := rb.lt
  have hy0 := rb.frozen 0
  have hy1 := rb.frozen 1
  have hy2 := rb.frozen 2
  have hy3 := rb.frozen 3
  have hy6 := rb.frozen 6
  have hy7 := rb.frozen 7
  have hc0 := rb.cell 0
  have hc1' := rb.cell 1
  have hc2' := rb.cell 2
  have hc3' := rb.cell 3
  have hc6 := rb.cell 6
  have hc7 := rb.cell 7
  have hca7 := ra2.cell 7
  simp only [List.getElem?_cons_succ, List.getElem?_cons_zero] at hc0 hc1' hc2' hc3' hc6 hc7 hca7
  rcases hxw0 with rfl | rfl | rfl | rfl | rfl | rfl
  · obtain ⟨xv, hxv⟩ : ∃ r, vv % 16777216 = r := ⟨_, rfl⟩
    have hxv0 : 0 ≤ xv ∧ xv < 16777216 := by omega
    obtain ⟨hxv1, hxv2⟩ := hxv0
    have HXV := hid hxv
    clear hxv
    go_wp2_with fail
    refine (within_any vv 16777216 _ hvv.1 hvv.2 (by omega) (by omega)).mono ?_
    rintro e w3' ⟨rfl, hw3⟩
    rw [HXV.out, ← hw3]
    clear hw3 w3'
    obtain ⟨q, hq⟩ : ∃ q : Rec, q = { r with O := xv } := ⟨_, rfl⟩
    have hqm : q.may = true := by
      obtain ⟨m1, m2, m3, m4, m5, m6, m7, m8⟩ := may_open HM.out
      rw [hq]
      unfold Rec.may; refine decide_eq_true ?_; dsimp only; exact ⟨by omega, by omega, by omega, by omega, by omega, by omega, m7, m8⟩
    have hrq := rb.set 0 (.int .i64 xv)
    have hcq : RCells (w2.setCell ⟨w1.heap.size + 1, 0, none⟩ (.int .i64 xv)) (w1.heap.size + 1) q (.slice A n c) := by rw [hq]; exact .of_row hrq
    have hcr : RCells (w2.setCell ⟨w1.heap.size + 1, 0, none⟩ (.int .i64 xv)) w1.heap.size r (.slice A n c) := .of_row (ra2.far (by simp) _)
    have hbq : Below w1.heap.size w1 (w2.setCell ⟨w1.heap.size + 1, 0, none⟩ (.int .i64 xv)) := below_put hb3 _ _ (by omega) (by omega) _
    have hqD : q.D = r.D := by rw [hq]
    clear hrq hq
    go_wp2_with fail
    generalize w2.setCell ⟨w1.heap.size + 1, 0, none⟩ (.int .i64 xv) = w4 at *
    clear hy0 hy1 hy2 hy3 hy6 hy7 hc0 hc1' hc2' hc3' hc6 hc7 hca7
    have sq : Sl w4 w1.heap.size 1 A n (q.D.map bv8) := by rw [hqD]; exact sa.below hbq
    have HQN := hid (show q.D.length = n by rw [hqD, HN.out])
    obtain ⟨Aq, hAq⟩ : ∃ B, B = A := ⟨_, rfl⟩
    obtain ⟨cq, hcqq⟩ : ∃ b, b = c := ⟨_, rfl⟩
    rw [← hAq] at sq
    rw [← hAq, ← hcqq] at hcq
    clear hqD hAq hcqq
    have hl4 := hcq.lt
    have hlq := hid (putR_len hqm)
    have sr : Sl w4 w1.heap.size 1 A n (r.D.map bv8) := sa.below hbq
    obtain ⟨tb, htb⟩ : ∃ tb, decide (putR q = putR r) = tb := ⟨_, rfl⟩
    have htb2 : decide (q = r) = tb := by rw [← htb]; exact decide_eq_decide.2 (putR_inj HM.out hqm).symm
    have HTB := hid htb
    have HTB2 := hid htb2
    have hrefl : (tb == tb) = true := by simp
    obtain ⟨c0, c1, c2, c3, c4, c5, c6, c7⟩ := hcr
    obtain ⟨d0, d1, d2, d3, d4, d5, d6, d7⟩ := hcq
    clear htb htb2
    go_wp2_with fail
    go_region_held3 (fun w' => w'.cell? ⟨w1.heap.size, 0, none⟩ = some (.int .i64 r.O) ∧ w'.cell? ⟨w1.heap.size, 1, none⟩ = some (.int .i64 r.B) ∧ w'.cell? ⟨w1.heap.size, 2, none⟩ = some (.int .i64 r.I) ∧ w'.cell? ⟨w1.heap.size, 3, none⟩ = some (.int .i64 r.P.K) ∧ w'.cell? ⟨w1.heap.size, 4, none⟩ = some (.int .i64 r.P.H) ∧ w'.cell? ⟨w1.heap.size, 5, none⟩ = some (.int .i64 r.P.S) ∧ w'.cell? ⟨w1.heap.size, 6, none⟩ = some (.int .u32 (r.S.toNat : Int)) ∧ w'.cell? ⟨w1.heap.size, 7, none⟩ = some (.slice A n c) ∧ w'.cell? ⟨w1.heap.size + 1, 0, none⟩ = some (.int .i64 q.O) ∧ w'.cell? ⟨w1.heap.size + 1, 1, none⟩ = some (.int .i64 q.B) ∧ w'.cell? ⟨w1.heap.size + 1, 2, none⟩ = some (.int .i64 q.I) ∧ w'.cell? ⟨w1.heap.size + 1, 3, none⟩ = some (.int .i64 q.P.K) ∧ w'.cell? ⟨w1.heap.size + 1, 4, none⟩ = some (.int .i64 q.P.H) ∧ w'.cell? ⟨w1.heap.size + 1, 5, none⟩ = some (.int .i64 q.P.S) ∧ w'.cell? ⟨w1.heap.size + 1, 6, none⟩ = some (.int .u32 (q.S.toNat : Int)) ∧ w'.cell? ⟨w1.heap.size + 1, 7, none⟩ = some (.slice Aq n cq) ∧ Below w4.heap.size w4 w')
      (first
        | exact RHeld2.drew (r := r) (q := q) (d1 := .slice A n c) (d2 := .slice Aq n cq) (g1 := w1.heap.size) (g2 := w1.heap.size + 1) (RHeld2.of ⟨c0, c1, c2, c3, c4, c5, c6, c7⟩ ⟨d0, d1, d2, d3, d4, d5, d6, d7⟩ (Below.refl _ _))
        | exact RHeld2.keep (r := r) (q := q) (d1 := .slice A n c) (d2 := .slice Aq n cq) (g1 := w1.heap.size) (g2 := w1.heap.size + 1) hbb (by assumption) (by omega) (by omega)
        | exact RHeld2.draws (r := r) (q := q) (d1 := .slice A n c) (d2 := .slice Aq n cq) (g1 := w1.heap.size) (g2 := w1.heap.size + 1) (by assumption) _
        | exact RHeld2.draws (r := r) (q := q) (d1 := .slice A n c) (d2 := .slice Aq n cq) (g1 := w1.heap.size) (g2 := w1.heap.size + 1) (RHeld2.keep (r := r) (q := q) (d1 := .slice A n c) (d2 := .slice Aq n cq) (g1 := w1.heap.size) (g2 := w1.heap.size + 1) hbb (by assumption) (by omega) (by omega)) _)
      (first
        | (go_at_call 15; (with_reducible show Calls _ _ #[.agg #[.int .i64 q.O, _, _, _, _, _, _, _]] _ _); have hh0 := ‹_ ∧ _ ∧ _ ∧ _ ∧ _ ∧ _ ∧ _ ∧ _ ∧ _ ∧ _ ∧ _ ∧ _ ∧ _ ∧ _ ∧ _ ∧ _ ∧ Below w4.heap.size w4 _›; have hhb := hh0.2.2.2.2.2.2.2.2.2.2.2.2.2.2.2.2; clear hh0; have hhs := hhb.size; refine (putrec_any w1.heap.size q Aq n cq _ (sq.below (hhb.mono (by omega))) (by omega)).mono ?_; rintro e w' ⟨v1, rfl, hv1, hbb0⟩; have hbb := hbb0.mono hhs; obtain ⟨B1, k1, rfl, _, _⟩ := own_form3 hv1 hlq.out; have s1 := ob_sl hv1 hlq.out)
        | (go_at_call 15; (with_reducible show Calls _ _ #[.agg #[.int .i64 r.O, _, _, _, _, _, _, _]] _ _); have hh0 := ‹_ ∧ _ ∧ _ ∧ _ ∧ _ ∧ _ ∧ _ ∧ _ ∧ _ ∧ _ ∧ _ ∧ _ ∧ _ ∧ _ ∧ _ ∧ _ ∧ Below w4.heap.size w4 _›; have hhb := hh0.2.2.2.2.2.2.2.2.2.2.2.2.2.2.2.2; clear hh0; have hhs := hhb.size; refine (putrec_any w1.heap.size r A n c _ (sr.below (hhb.mono (by omega))) (by omega)).mono ?_; rintro e w' ⟨v2, rfl, hv2, hbb0⟩; have hbb := hbb0.mono hhs; obtain ⟨B2, k2, rfl, _, _⟩ := own_form3 hv2 hlr.out; have s2 := ob_sl hv2 hlr.out; have s1b := (s1.below hbb0).mono hbb0.size)
        | (go_at_call 14; have hh0 := ‹_ ∧ _ ∧ _ ∧ _ ∧ _ ∧ _ ∧ _ ∧ _ ∧ _ ∧ _ ∧ _ ∧ _ ∧ _ ∧ _ ∧ _ ∧ _ ∧ Below w4.heap.size w4 _›; have hhb := hh0.2.2.2.2.2.2.2.2.2.2.2.2.2.2.2.2; clear hh0; have hhs := hhb.size; refine (same_is tb _ B1 B2 (putR q) (putR r) 64 64 k1 k2 _ s1b s2 (by omega) (by omega) HTB.out).mono ?_; rintro e w' ⟨rfl, dd, rfl⟩)
        | (go_at_call 22; have hh0 := ‹_ ∧ _ ∧ _ ∧ _ ∧ _ ∧ _ ∧ _ ∧ _ ∧ _ ∧ _ ∧ _ ∧ _ ∧ _ ∧ _ ∧ _ ∧ _ ∧ Below w4.heap.size w4 _›; have hhb := hh0.2.2.2.2.2.2.2.2.2.2.2.2.2.2.2.2; clear hh0; have hhs := hhb.size; refine (samerec_any q r Aq A n n cq c tb w4.heap.size _ ((sq.below (hhb.mono (by omega))).mono (by omega)) ((sr.below (hhb.mono (by omega))).mono (by omega)) (by omega) (by omega) (by omega) HTB2.out).mono ?_; rintro e w' ⟨rfl, hbb0⟩; have hbb := hbb0.mono hhs)
        | (go_at_call 7; have hh0 := ‹_ ∧ _ ∧ _ ∧ _ ∧ _ ∧ _ ∧ _ ∧ _ ∧ _ ∧ _ ∧ _ ∧ _ ∧ _ ∧ _ ∧ _ ∧ _ ∧ Below w4.heap.size w4 _›; have hhb := hh0.2.2.2.2.2.2.2.2.2.2.2.2.2.2.2.2; clear hh0; have hhs := hhb.size; refine (wakes17 _).mono ?_; rintro e w' ⟨rfl, hbb0⟩; have hbb := hbb0.mono hhs))
    have hh0 := ‹_ ∧ _ ∧ _ ∧ _ ∧ _ ∧ _ ∧ _ ∧ _ ∧ _ ∧ _ ∧ _ ∧ _ ∧ _ ∧ _ ∧ _ ∧ _ ∧ Below w4.heap.size w4 _›
    have hhb := hh0.2.2.2.2.2.2.2.2.2.2.2.2.2.2.2.2
    clear hh0
    have hbt := (hbw.trans (hbq.mono (by omega))).trans (hhb.mono (by omega))
    clear ‹_ ∧ _ ∧ _ ∧ _ ∧ _ ∧ _ ∧ _ ∧ _ ∧ _ ∧ _ ∧ _ ∧ _ ∧ _ ∧ _ ∧ _ ∧ _ ∧ Below w4.heap.size w4 _›
    go_wp2_with fail
    go_ret
    exact ⟨rfl, hbt⟩
  · obtain ⟨xv, hxv⟩ : ∃ r, vv % 8 = r := ⟨_, rfl⟩
    have hxv0 : 0 ≤ xv ∧ xv < 8 := by omega
    obtain ⟨hxv1, hxv2⟩ := hxv0
    have HXV := hid hxv
    clear hxv
    go_wp2_with fail
    refine (within_any vv 8 _ hvv.1 hvv.2 (by omega) (by omega)).mono ?_
    rintro e w3' ⟨rfl, hw3⟩
    rw [HXV.out, ← hw3]
    clear hw3 w3'
    obtain ⟨q, hq⟩ : ∃ q : Rec, q = { r with B := xv } := ⟨_, rfl⟩
    have hqm : q.may = true := by
      obtain ⟨m1, m2, m3, m4, m5, m6, m7, m8⟩ := may_open HM.out
      rw [hq]
      unfold Rec.may; refine decide_eq_true ?_; dsimp only; exact ⟨by omega, by omega, by omega, by omega, by omega, by omega, m7, m8⟩
    have hrq := rb.set 1 (.int .i64 xv)
    have hcq : RCells (w2.setCell ⟨w1.heap.size + 1, 1, none⟩ (.int .i64 xv)) (w1.heap.size + 1) q (.slice A n c) := by rw [hq]; exact .of_row hrq
    have hcr : RCells (w2.setCell ⟨w1.heap.size + 1, 1, none⟩ (.int .i64 xv)) w1.heap.size r (.slice A n c) := .of_row (ra2.far (by simp) _)
    have hbq : Below w1.heap.size w1 (w2.setCell ⟨w1.heap.size + 1, 1, none⟩ (.int .i64 xv)) := below_put hb3 _ _ (by omega) (by omega) _
    have hqD : q.D = r.D := by rw [hq]
    clear hrq hq
    go_wp2_with fail
    generalize w2.setCell ⟨w1.heap.size + 1, 1, none⟩ (.int .i64 xv) = w4 at *
    clear hy0 hy1 hy2 hy3 hy6 hy7 hc0 hc1' hc2' hc3' hc6 hc7 hca7
    have sq : Sl w4 w1.heap.size 1 A n (q.D.map bv8) := by rw [hqD]; exact sa.below hbq
    have HQN := hid (show q.D.length = n by rw [hqD, HN.out])
    obtain ⟨Aq, hAq⟩ : ∃ B, B = A := ⟨_, rfl⟩
    obtain ⟨cq, hcqq⟩ : ∃ b, b = c := ⟨_, rfl⟩
    rw [← hAq] at sq
    rw [← hAq, ← hcqq] at hcq
    clear hqD hAq hcqq
    have hl4 := hcq.lt
    have hlq := hid (putR_len hqm)
    have sr : Sl w4 w1.heap.size 1 A n (r.D.map bv8) := sa.below hbq
    obtain ⟨tb, htb⟩ : ∃ tb, decide (putR q = putR r) = tb := ⟨_, rfl⟩
    have htb2 : decide (q = r) = tb := by rw [← htb]; exact decide_eq_decide.2 (putR_inj HM.out hqm).symm
    have HTB := hid htb
    have HTB2 := hid htb2
    have hrefl : (tb == tb) = true := by simp
    obtain ⟨c0, c1, c2, c3, c4, c5, c6, c7⟩ := hcr
    obtain ⟨d0, d1, d2, d3, d4, d5, d6, d7⟩ := hcq
    clear htb htb2
    go_wp2_with fail
    go_region_held3 (fun w' => w'.cell? ⟨w1.heap.size, 0, none⟩ = some (.int .i64 r.O) ∧ w'.cell? ⟨w1.heap.size, 1, none⟩ = some (.int .i64 r.B) ∧ w'.cell? ⟨w1.heap.size, 2, none⟩ = some (.int .i64 r.I) ∧ w'.cell? ⟨w1.heap.size, 3, none⟩ = some (.int .i64 r.P.K) ∧ w'.cell? ⟨w1.heap.size, 4, none⟩ = some (.int .i64 r.P.H) ∧ w'.cell? ⟨w1.heap.size, 5, none⟩ = some (.int .i64 r.P.S) ∧ w'.cell? ⟨w1.heap.size, 6, none⟩ = some (.int .u32 (r.S.toNat : Int)) ∧ w'.cell? ⟨w1.heap.size, 7, none⟩ = some (.slice A n c) ∧ w'.cell? ⟨w1.heap.size + 1, 0, none⟩ = some (.int .i64 q.O) ∧ w'.cell? ⟨w1.heap.size + 1, 1, none⟩ = some (.int .i64 q.B) ∧ w'.cell? ⟨w1.heap.size + 1, 2, none⟩ = some (.int .i64 q.I) ∧ w'.cell? ⟨w1.heap.size + 1, 3, none⟩ = some (.int .i64 q.P.K) ∧ w'.cell? ⟨w1.heap.size + 1, 4, none⟩ = some (.int .i64 q.P.H) ∧ w'.cell? ⟨w1.heap.size + 1, 5, none⟩ = some (.int .i64 q.P.S) ∧ w'.cell? ⟨w1.heap.size + 1, 6, none⟩ = some (.int .u32 (q.S.toNat : Int)) ∧ w'.cell? ⟨w1.heap.size + 1, 7, none⟩ = some (.slice Aq n cq) ∧ Below w4.heap.size w4 w')
      (first
        | exact RHeld2.drew (r := r) (q := q) (d1 := .slice A n c) (d2 := .slice Aq n cq) (g1 := w1.heap.size) (g2 := w1.heap.size + 1) (RHeld2.of ⟨c0, c1, c2, c3, c4, c5, c6, c7⟩ ⟨d0, d1, d2, d3, d4, d5, d6, d7⟩ (Below.refl _ _))
        | exact RHeld2.keep (r := r) (q := q) (d1 := .slice A n c) (d2 := .slice Aq n cq) (g1 := w1.heap.size) (g2 := w1.heap.size + 1) hbb (by assumption) (by omega) (by omega)
        | exact RHeld2.draws (r := r) (q := q) (d1 := .slice A n c) (d2 := .slice Aq n cq) (g1 := w1.heap.size) (g2 := w1.heap.size + 1) (by assumption) _
        | exact RHeld2.draws (r := r) (q := q) (d1 := .slice A n c) (d2 := .slice Aq n cq) (g1 := w1.heap.size) (g2 := w1.heap.size + 1) (RHeld2.keep (r := r) (q := q) (d1 := .slice A n c) (d2 := .slice Aq n cq) (g1 := w1.heap.size) (g2 := w1.heap.size + 1) hbb (by assumption) (by omega) (by omega)) _)
      (first
        | (go_at_call 15; (with_reducible show Calls _ _ #[.agg #[.int .i64 q.O, _, _, _, _, _, _, _]] _ _); have hh0 := ‹_ ∧ _ ∧ _ ∧ _ ∧ _ ∧ _ ∧ _ ∧ _ ∧ _ ∧ _ ∧ _ ∧ _ ∧ _ ∧ _ ∧ _ ∧ _ ∧ Below w4.heap.size w4 _›; have hhb := hh0.2.2.2.2.2.2.2.2.2.2.2.2.2.2.2.2; clear hh0; have hhs := hhb.size; refine (putrec_any w1.heap.size q Aq n cq _ (sq.below (hhb.mono (by omega))) (by omega)).mono ?_; rintro e w' ⟨v1, rfl, hv1, hbb0⟩; have hbb := hbb0.mono hhs; obtain ⟨B1, k1, rfl, _, _⟩ := own_form3 hv1 hlq.out; have s1 := ob_sl hv1 hlq.out)
        | (go_at_call 15; (with_reducible show Calls _ _ #[.agg #[.int .i64 r.O, _, _, _, _, _, _, _]] _ _); have hh0 := ‹_ ∧ _ ∧ _ ∧ _ ∧ _ ∧ _ ∧ _ ∧ _ ∧ _ ∧ _ ∧ _ ∧ _ ∧ _ ∧ _ ∧ _ ∧ _ ∧ Below w4.heap.size w4 _›; have hhb := hh0.2.2.2.2.2.2.2.2.2.2.2.2.2.2.2.2; clear hh0; have hhs := hhb.size; refine (putrec_any w1.heap.size r A n c _ (sr.below (hhb.mono (by omega))) (by omega)).mono ?_; rintro e w' ⟨v2, rfl, hv2, hbb0⟩; have hbb := hbb0.mono hhs; obtain ⟨B2, k2, rfl, _, _⟩ := own_form3 hv2 hlr.out; have s2 := ob_sl hv2 hlr.out; have s1b := (s1.below hbb0).mono hbb0.size)
        | (go_at_call 14; have hh0 := ‹_ ∧ _ ∧ _ ∧ _ ∧ _ ∧ _ ∧ _ ∧ _ ∧ _ ∧ _ ∧ _ ∧ _ ∧ _ ∧ _ ∧ _ ∧ _ ∧ Below w4.heap.size w4 _›; have hhb := hh0.2.2.2.2.2.2.2.2.2.2.2.2.2.2.2.2; clear hh0; have hhs := hhb.size; refine (same_is tb _ B1 B2 (putR q) (putR r) 64 64 k1 k2 _ s1b s2 (by omega) (by omega) HTB.out).mono ?_; rintro e w' ⟨rfl, dd, rfl⟩)
        | (go_at_call 22; have hh0 := ‹_ ∧ _ ∧ _ ∧ _ ∧ _ ∧ _ ∧ _ ∧ _ ∧ _ ∧ _ ∧ _ ∧ _ ∧ _ ∧ _ ∧ _ ∧ _ ∧ Below w4.heap.size w4 _›; have hhb := hh0.2.2.2.2.2.2.2.2.2.2.2.2.2.2.2.2; clear hh0; have hhs := hhb.size; refine (samerec_any q r Aq A n n cq c tb w4.heap.size _ ((sq.below (hhb.mono (by omega))).mono (by omega)) ((sr.below (hhb.mono (by omega))).mono (by omega)) (by omega) (by omega) (by omega) HTB2.out).mono ?_; rintro e w' ⟨rfl, hbb0⟩; have hbb := hbb0.mono hhs)
        | (go_at_call 7; have hh0 := ‹_ ∧ _ ∧ _ ∧ _ ∧ _ ∧ _ ∧ _ ∧ _ ∧ _ ∧ _ ∧ _ ∧ _ ∧ _ ∧ _ ∧ _ ∧ _ ∧ Below w4.heap.size w4 _›; have hhb := hh0.2.2.2.2.2.2.2.2.2.2.2.2.2.2.2.2; clear hh0; have hhs := hhb.size; refine (wakes17 _).mono ?_; rintro e w' ⟨rfl, hbb0⟩; have hbb := hbb0.mono hhs))
    have hh0 := ‹_ ∧ _ ∧ _ ∧ _ ∧ _ ∧ _ ∧ _ ∧ _ ∧ _ ∧ _ ∧ _ ∧ _ ∧ _ ∧ _ ∧ _ ∧ _ ∧ Below w4.heap.size w4 _›
    have hhb := hh0.2.2.2.2.2.2.2.2.2.2.2.2.2.2.2.2
    clear hh0
    have hbt := (hbw.trans (hbq.mono (by omega))).trans (hhb.mono (by omega))
    clear ‹_ ∧ _ ∧ _ ∧ _ ∧ _ ∧ _ ∧ _ ∧ _ ∧ _ ∧ _ ∧ _ ∧ _ ∧ _ ∧ _ ∧ _ ∧ _ ∧ Below w4.heap.size w4 _›
    go_wp2_with fail
    go_ret
    exact ⟨rfl, hbt⟩
  · obtain ⟨xv, hxv⟩ : ∃ r, vv % 65536 = r := ⟨_, rfl⟩
    have hxv0 : 0 ≤ xv ∧ xv < 65536 := by omega
    obtain ⟨hxv1, hxv2⟩ := hxv0
    have HXV := hid hxv
    clear hxv
    go_wp2_with fail
    refine (within_any vv 65536 _ hvv.1 hvv.2 (by omega) (by omega)).mono ?_
    rintro e w3' ⟨rfl, hw3⟩
    rw [HXV.out, ← hw3]
    clear hw3 w3'
    obtain ⟨q, hq⟩ : ∃ q : Rec, q = { r with I := xv } := ⟨_, rfl⟩
    have hqm : q.may = true := by
      obtain ⟨m1, m2, m3, m4, m5, m6, m7, m8⟩ := may_open HM.out
      rw [hq]
      unfold Rec.may; refine decide_eq_true ?_; dsimp only; exact ⟨by omega, by omega, by omega, by omega, by omega, by omega, m7, m8⟩
    have hrq := rb.set 2 (.int .i64 xv)
    have hcq : RCells (w2.setCell ⟨w1.heap.size + 1, 2, none⟩ (.int .i64 xv)) (w1.heap.size + 1) q (.slice A n c) := by rw [hq]; exact .of_row hrq
    have hcr : RCells (w2.setCell ⟨w1.heap.size + 1, 2, none⟩ (.int .i64 xv)) w1.heap.size r (.slice A n c) := .of_row (ra2.far (by simp) _)
    have hbq : Below w1.heap.size w1 (w2.setCell ⟨w1.heap.size + 1, 2, none⟩ (.int .i64 xv)) := below_put hb3 _ _ (by omega) (by omega) _
    have hqD : q.D = r.D := by rw [hq]
    clear hrq hq
    go_wp2_with fail
    generalize w2.setCell ⟨w1.heap.size + 1, 2, none⟩ (.int .i64 xv) = w4 at *
    clear hy0 hy1 hy2 hy3 hy6 hy7 hc0 hc1' hc2' hc3' hc6 hc7 hca7
    have sq : Sl w4 w1.heap.size 1 A n (q.D.map bv8) := by rw [hqD]; exact sa.below hbq
    have HQN := hid (show q.D.length = n by rw [hqD, HN.out])
    obtain ⟨Aq, hAq⟩ : ∃ B, B = A := ⟨_, rfl⟩
    obtain ⟨cq, hcqq⟩ : ∃ b, b = c := ⟨_, rfl⟩
    rw [← hAq] at sq
    rw [← hAq, ← hcqq] at hcq
    clear hqD hAq hcqq
    have hl4 := hcq.lt
    have hlq := hid (putR_len hqm)
    have sr : Sl w4 w1.heap.size 1 A n (r.D.map bv8) := sa.below hbq
    obtain ⟨tb, htb⟩ : ∃ tb, decide (putR q = putR r) = tb := ⟨_, rfl⟩
    have htb2 : decide (q = r) = tb := by rw [← htb]; exact decide_eq_decide.2 (putR_inj HM.out hqm).symm
    have HTB := hid htb
    have HTB2 := hid htb2
    have hrefl : (tb == tb) = true := by simp
    obtain ⟨c0, c1, c2, c3, c4, c5, c6, c7⟩ := hcr
    obtain ⟨d0, d1, d2, d3, d4, d5, d6, d7⟩ := hcq
    clear htb htb2
    go_wp2_with fail
    go_region_held3 (fun w' => w'.cell? ⟨w1.heap.size, 0, none⟩ = some (.int .i64 r.O) ∧ w'.cell? ⟨w1.heap.size, 1, none⟩ = some (.int .i64 r.B) ∧ w'.cell? ⟨w1.heap.size, 2, none⟩ = some (.int .i64 r.I) ∧ w'.cell? ⟨w1.heap.size, 3, none⟩ = some (.int .i64 r.P.K) ∧ w'.cell? ⟨w1.heap.size, 4, none⟩ = some (.int .i64 r.P.H) ∧ w'.cell? ⟨w1.heap.size, 5, none⟩ = some (.int .i64 r.P.S) ∧ w'.cell? ⟨w1.heap.size, 6, none⟩ = some (.int .u32 (r.S.toNat : Int)) ∧ w'.cell? ⟨w1.heap.size, 7, none⟩ = some (.slice A n c) ∧ w'.cell? ⟨w1.heap.size + 1, 0, none⟩ = some (.int .i64 q.O) ∧ w'.cell? ⟨w1.heap.size + 1, 1, none⟩ = some (.int .i64 q.B) ∧ w'.cell? ⟨w1.heap.size + 1, 2, none⟩ = some (.int .i64 q.I) ∧ w'.cell? ⟨w1.heap.size + 1, 3, none⟩ = some (.int .i64 q.P.K) ∧ w'.cell? ⟨w1.heap.size + 1, 4, none⟩ = some (.int .i64 q.P.H) ∧ w'.cell? ⟨w1.heap.size + 1, 5, none⟩ = some (.int .i64 q.P.S) ∧ w'.cell? ⟨w1.heap.size + 1, 6, none⟩ = some (.int .u32 (q.S.toNat : Int)) ∧ w'.cell? ⟨w1.heap.size + 1, 7, none⟩ = some (.slice Aq n cq) ∧ Below w4.heap.size w4 w')
      (first
        | exact RHeld2.drew (r := r) (q := q) (d1 := .slice A n c) (d2 := .slice Aq n cq) (g1 := w1.heap.size) (g2 := w1.heap.size + 1) (RHeld2.of ⟨c0, c1, c2, c3, c4, c5, c6, c7⟩ ⟨d0, d1, d2, d3, d4, d5, d6, d7⟩ (Below.refl _ _))
        | exact RHeld2.keep (r := r) (q := q) (d1 := .slice A n c) (d2 := .slice Aq n cq) (g1 := w1.heap.size) (g2 := w1.heap.size + 1) hbb (by assumption) (by omega) (by omega)
        | exact RHeld2.draws (r := r) (q := q) (d1 := .slice A n c) (d2 := .slice Aq n cq) (g1 := w1.heap.size) (g2 := w1.heap.size + 1) (by assumption) _
        | exact RHeld2.draws (r := r) (q := q) (d1 := .slice A n c) (d2 := .slice Aq n cq) (g1 := w1.heap.size) (g2 := w1.heap.size + 1) (RHeld2.keep (r := r) (q := q) (d1 := .slice A n c) (d2 := .slice Aq n cq) (g1 := w1.heap.size) (g2 := w1.heap.size + 1) hbb (by assumption) (by omega) (by omega)) _)
      (first
        | (go_at_call 15; (with_reducible show Calls _ _ #[.agg #[.int .i64 q.O, _, _, _, _, _, _, _]] _ _); have hh0 := ‹_ ∧ _ ∧ _ ∧ _ ∧ _ ∧ _ ∧ _ ∧ _ ∧ _ ∧ _ ∧ _ ∧ _ ∧ _ ∧ _ ∧ _ ∧ _ ∧ Below w4.heap.size w4 _›; have hhb := hh0.2.2.2.2.2.2.2.2.2.2.2.2.2.2.2.2; clear hh0; have hhs := hhb.size; refine (putrec_any w1.heap.size q Aq n cq _ (sq.below (hhb.mono (by omega))) (by omega)).mono ?_; rintro e w' ⟨v1, rfl, hv1, hbb0⟩; have hbb := hbb0.mono hhs; obtain ⟨B1, k1, rfl, _, _⟩ := own_form3 hv1 hlq.out; have s1 := ob_sl hv1 hlq.out)
        | (go_at_call 15; (with_reducible show Calls _ _ #[.agg #[.int .i64 r.O, _, _, _, _, _, _, _]] _ _); have hh0 := ‹_ ∧ _ ∧ _ ∧ _ ∧ _ ∧ _ ∧ _ ∧ _ ∧ _ ∧ _ ∧ _ ∧ _ ∧ _ ∧ _ ∧ _ ∧ _ ∧ Below w4.heap.size w4 _›; have hhb := hh0.2.2.2.2.2.2.2.2.2.2.2.2.2.2.2.2; clear hh0; have hhs := hhb.size; refine (putrec_any w1.heap.size r A n c _ (sr.below (hhb.mono (by omega))) (by omega)).mono ?_; rintro e w' ⟨v2, rfl, hv2, hbb0⟩; have hbb := hbb0.mono hhs; obtain ⟨B2, k2, rfl, _, _⟩ := own_form3 hv2 hlr.out; have s2 := ob_sl hv2 hlr.out; have s1b := (s1.below hbb0).mono hbb0.size)
        | (go_at_call 14; have hh0 := ‹_ ∧ _ ∧ _ ∧ _ ∧ _ ∧ _ ∧ _ ∧ _ ∧ _ ∧ _ ∧ _ ∧ _ ∧ _ ∧ _ ∧ _ ∧ _ ∧ Below w4.heap.size w4 _›; have hhb := hh0.2.2.2.2.2.2.2.2.2.2.2.2.2.2.2.2; clear hh0; have hhs := hhb.size; refine (same_is tb _ B1 B2 (putR q) (putR r) 64 64 k1 k2 _ s1b s2 (by omega) (by omega) HTB.out).mono ?_; rintro e w' ⟨rfl, dd, rfl⟩)
        | (go_at_call 22; have hh0 := ‹_ ∧ _ ∧ _ ∧ _ ∧ _ ∧ _ ∧ _ ∧ _ ∧ _ ∧ _ ∧ _ ∧ _ ∧ _ ∧ _ ∧ _ ∧ _ ∧ Below w4.heap.size w4 _›; have hhb := hh0.2.2.2.2.2.2.2.2.2.2.2.2.2.2.2.2; clear hh0; have hhs := hhb.size; refine (samerec_any q r Aq A n n cq c tb w4.heap.size _ ((sq.below (hhb.mono (by omega))).mono (by omega)) ((sr.below (hhb.mono (by omega))).mono (by omega)) (by omega) (by omega) (by omega) HTB2.out).mono ?_; rintro e w' ⟨rfl, hbb0⟩; have hbb := hbb0.mono hhs)
        | (go_at_call 7; have hh0 := ‹_ ∧ _ ∧ _ ∧ _ ∧ _ ∧ _ ∧ _ ∧ _ ∧ _ ∧ _ ∧ _ ∧ _ ∧ _ ∧ _ ∧ _ ∧ _ ∧ Below w4.heap.size w4 _›; have hhb := hh0.2.2.2.2.2.2.2.2.2.2.2.2.2.2.2.2; clear hh0; have hhs := hhb.size; refine (wakes17 _).mono ?_; rintro e w' ⟨rfl, hbb0⟩; have hbb := hbb0.mono hhs))
    have hh0 := ‹_ ∧ _ ∧ _ ∧ _ ∧ _ ∧ _ ∧ _ ∧ _ ∧ _ ∧ _ ∧ _ ∧ _ ∧ _ ∧ _ ∧ _ ∧ _ ∧ Below w4.heap.size w4 _›
    have hhb := hh0.2.2.2.2.2.2.2.2.2.2.2.2.2.2.2.2
    clear hh0
    have hbt := (hbw.trans (hbq.mono (by omega))).trans (hhb.mono (by omega))
    clear ‹_ ∧ _ ∧ _ ∧ _ ∧ _ ∧ _ ∧ _ ∧ _ ∧ _ ∧ _ ∧ _ ∧ _ ∧ _ ∧ _ ∧ _ ∧ _ ∧ Below w4.heap.size w4 _›
    go_wp2_with fail
    go_ret
    exact ⟨rfl, hbt⟩
  · obtain ⟨xv, hxv⟩ : ∃ r, vv % 16 = r := ⟨_, rfl⟩
    have hxv0 : 0 ≤ xv ∧ xv < 16 := by omega
    obtain ⟨hxv1, hxv2⟩ := hxv0
    have HXV := hid hxv
    clear hxv
    go_wp2_with fail
    refine (within_any vv 16 _ hvv.1 hvv.2 (by omega) (by omega)).mono ?_
    rintro e w3' ⟨rfl, hw3⟩
    rw [HXV.out, ← hw3]
    clear hw3 w3'
    obtain ⟨q, hq⟩ : ∃ q : Rec, q = { r with P := { r.P with K := 1 + xv } } := ⟨_, rfl⟩
    have hqm : q.may = true := by
      obtain ⟨m1, m2, m3, m4, m5, m6, m7, m8⟩ := may_open HM.out
      rw [hq]
      obtain ⟨o1, o2, o3, o4, o5, o6⟩ := Par.may_ok m7
      unfold Rec.may; refine decide_eq_true ?_; dsimp only; exact ⟨m1, m2, m3, m4, m5, m6, Par.ok_may ⟨by dsimp only; omega, by dsimp only; omega, o3, o4, o5, o6⟩, m8⟩
    have hrq := rb.set 3 (.int .i64 (1 + xv))
    have hcq : RCells (w2.setCell ⟨w1.heap.size + 1, 3, none⟩ (.int .i64 (1 + xv))) (w1.heap.size + 1) q (.slice A n c) := by rw [hq]; exact .of_row hrq
    have hcr : RCells (w2.setCell ⟨w1.heap.size + 1, 3, none⟩ (.int .i64 (1 + xv))) w1.heap.size r (.slice A n c) := .of_row (ra2.far (by simp) _)
    have hbq : Below w1.heap.size w1 (w2.setCell ⟨w1.heap.size + 1, 3, none⟩ (.int .i64 (1 + xv))) := below_put hb3 _ _ (by omega) (by omega) _
    have hqD : q.D = r.D := by rw [hq]
    clear hrq hq
    go_wp2_with fail
    generalize w2.setCell ⟨w1.heap.size + 1, 3, none⟩ (.int .i64 (1 + xv)) = w4 at *
    clear hy0 hy1 hy2 hy3 hy6 hy7 hc0 hc1' hc2' hc3' hc6 hc7 hca7
    have sq : Sl w4 w1.heap.size 1 A n (q.D.map bv8) := by rw [hqD]; exact sa.below hbq
    have HQN := hid (show q.D.length = n by rw [hqD, HN.out])
    obtain ⟨Aq, hAq⟩ : ∃ B, B = A := ⟨_, rfl⟩
    obtain ⟨cq, hcqq⟩ : ∃ b, b = c := ⟨_, rfl⟩
    rw [← hAq] at sq
    rw [← hAq, ← hcqq] at hcq
    clear hqD hAq hcqq
    have hl4 := hcq.lt
    have hlq := hid (putR_len hqm)
    have sr : Sl w4 w1.heap.size 1 A n (r.D.map bv8) := sa.below hbq
    obtain ⟨tb, htb⟩ : ∃ tb, decide (putR q = putR r) = tb := ⟨_, rfl⟩
    have htb2 : decide (q = r) = tb := by rw [← htb]; exact decide_eq_decide.2 (putR_inj HM.out hqm).symm
    have HTB := hid htb
    have HTB2 := hid htb2
    have hrefl : (tb == tb) = true := by simp
    obtain ⟨c0, c1, c2, c3, c4, c5, c6, c7⟩ := hcr
    obtain ⟨d0, d1, d2, d3, d4, d5, d6, d7⟩ := hcq
    clear htb htb2
    go_wp2_with fail
    go_region_held3 (fun w' => w'.cell? ⟨w1.heap.size, 0, none⟩ = some (.int .i64 r.O) ∧ w'.cell? ⟨w1.heap.size, 1, none⟩ = some (.int .i64 r.B) ∧ w'.cell? ⟨w1.heap.size, 2, none⟩ = some (.int .i64 r.I) ∧ w'.cell? ⟨w1.heap.size, 3, none⟩ = some (.int .i64 r.P.K) ∧ w'.cell? ⟨w1.heap.size, 4, none⟩ = some (.int .i64 r.P.H) ∧ w'.cell? ⟨w1.heap.size, 5, none⟩ = some (.int .i64 r.P.S) ∧ w'.cell? ⟨w1.heap.size, 6, none⟩ = some (.int .u32 (r.S.toNat : Int)) ∧ w'.cell? ⟨w1.heap.size, 7, none⟩ = some (.slice A n c) ∧ w'.cell? ⟨w1.heap.size + 1, 0, none⟩ = some (.int .i64 q.O) ∧ w'.cell? ⟨w1.heap.size + 1, 1, none⟩ = some (.int .i64 q.B) ∧ w'.cell? ⟨w1.heap.size + 1, 2, none⟩ = some (.int .i64 q.I) ∧ w'.cell? ⟨w1.heap.size + 1, 3, none⟩ = some (.int .i64 q.P.K) ∧ w'.cell? ⟨w1.heap.size + 1, 4, none⟩ = some (.int .i64 q.P.H) ∧ w'.cell? ⟨w1.heap.size + 1, 5, none⟩ = some (.int .i64 q.P.S) ∧ w'.cell? ⟨w1.heap.size + 1, 6, none⟩ = some (.int .u32 (q.S.toNat : Int)) ∧ w'.cell? ⟨w1.heap.size + 1, 7, none⟩ = some (.slice Aq n cq) ∧ Below w4.heap.size w4 w')
      (first
        | exact RHeld2.drew (r := r) (q := q) (d1 := .slice A n c) (d2 := .slice Aq n cq) (g1 := w1.heap.size) (g2 := w1.heap.size + 1) (RHeld2.of ⟨c0, c1, c2, c3, c4, c5, c6, c7⟩ ⟨d0, d1, d2, d3, d4, d5, d6, d7⟩ (Below.refl _ _))
        | exact RHeld2.keep (r := r) (q := q) (d1 := .slice A n c) (d2 := .slice Aq n cq) (g1 := w1.heap.size) (g2 := w1.heap.size + 1) hbb (by assumption) (by omega) (by omega)
        | exact RHeld2.draws (r := r) (q := q) (d1 := .slice A n c) (d2 := .slice Aq n cq) (g1 := w1.heap.size) (g2 := w1.heap.size + 1) (by assumption) _
        | exact RHeld2.draws (r := r) (q := q) (d1 := .slice A n c) (d2 := .slice Aq n cq) (g1 := w1.heap.size) (g2 := w1.heap.size + 1) (RHeld2.keep (r := r) (q := q) (d1 := .slice A n c) (d2 := .slice Aq n cq) (g1 := w1.heap.size) (g2 := w1.heap.size + 1) hbb (by assumption) (by omega) (by omega)) _)
      (first
        | (go_at_call 15; (with_reducible show Calls _ _ #[.agg #[.int .i64 q.O, _, _, _, _, _, _, _]] _ _); have hh0 := ‹_ ∧ _ ∧ _ ∧ _ ∧ _ ∧ _ ∧ _ ∧ _ ∧ _ ∧ _ ∧ _ ∧ _ ∧ _ ∧ _ ∧ _ ∧ _ ∧ Below w4.heap.size w4 _›; have hhb := hh0.2.2.2.2.2.2.2.2.2.2.2.2.2.2.2.2; clear hh0; have hhs := hhb.size; refine (putrec_any w1.heap.size q Aq n cq _ (sq.below (hhb.mono (by omega))) (by omega)).mono ?_; rintro e w' ⟨v1, rfl, hv1, hbb0⟩; have hbb := hbb0.mono hhs; obtain ⟨B1, k1, rfl, _, _⟩ := own_form3 hv1 hlq.out; have s1 := ob_sl hv1 hlq.out)
        | (go_at_call 15; (with_reducible show Calls _ _ #[.agg #[.int .i64 r.O, _, _, _, _, _, _, _]] _ _); have hh0 := ‹_ ∧ _ ∧ _ ∧ _ ∧ _ ∧ _ ∧ _ ∧ _ ∧ _ ∧ _ ∧ _ ∧ _ ∧ _ ∧ _ ∧ _ ∧ _ ∧ Below w4.heap.size w4 _›; have hhb := hh0.2.2.2.2.2.2.2.2.2.2.2.2.2.2.2.2; clear hh0; have hhs := hhb.size; refine (putrec_any w1.heap.size r A n c _ (sr.below (hhb.mono (by omega))) (by omega)).mono ?_; rintro e w' ⟨v2, rfl, hv2, hbb0⟩; have hbb := hbb0.mono hhs; obtain ⟨B2, k2, rfl, _, _⟩ := own_form3 hv2 hlr.out; have s2 := ob_sl hv2 hlr.out; have s1b := (s1.below hbb0).mono hbb0.size)
        | (go_at_call 14; have hh0 := ‹_ ∧ _ ∧ _ ∧ _ ∧ _ ∧ _ ∧ _ ∧ _ ∧ _ ∧ _ ∧ _ ∧ _ ∧ _ ∧ _ ∧ _ ∧ _ ∧ Below w4.heap.size w4 _›; have hhb := hh0.2.2.2.2.2.2.2.2.2.2.2.2.2.2.2.2; clear hh0; have hhs := hhb.size; refine (same_is tb _ B1 B2 (putR q) (putR r) 64 64 k1 k2 _ s1b s2 (by omega) (by omega) HTB.out).mono ?_; rintro e w' ⟨rfl, dd, rfl⟩)
        | (go_at_call 22; have hh0 := ‹_ ∧ _ ∧ _ ∧ _ ∧ _ ∧ _ ∧ _ ∧ _ ∧ _ ∧ _ ∧ _ ∧ _ ∧ _ ∧ _ ∧ _ ∧ _ ∧ Below w4.heap.size w4 _›; have hhb := hh0.2.2.2.2.2.2.2.2.2.2.2.2.2.2.2.2; clear hh0; have hhs := hhb.size; refine (samerec_any q r Aq A n n cq c tb w4.heap.size _ ((sq.below (hhb.mono (by omega))).mono (by omega)) ((sr.below (hhb.mono (by omega))).mono (by omega)) (by omega) (by omega) (by omega) HTB2.out).mono ?_; rintro e w' ⟨rfl, hbb0⟩; have hbb := hbb0.mono hhs)
        | (go_at_call 7; have hh0 := ‹_ ∧ _ ∧ _ ∧ _ ∧ _ ∧ _ ∧ _ ∧ _ ∧ _ ∧ _ ∧ _ ∧ _ ∧ _ ∧ _ ∧ _ ∧ _ ∧ Below w4.heap.size w4 _›; have hhb := hh0.2.2.2.2.2.2.2.2.2.2.2.2.2.2.2.2; clear hh0; have hhs := hhb.size; refine (wakes17 _).mono ?_; rintro e w' ⟨rfl, hbb0⟩; have hbb := hbb0.mono hhs))
    have hh0 := ‹_ ∧ _ ∧ _ ∧ _ ∧ _ ∧ _ ∧ _ ∧ _ ∧ _ ∧ _ ∧ _ ∧ _ ∧ _ ∧ _ ∧ _ ∧ _ ∧ Below w4.heap.size w4 _›
    have hhb := hh0.2.2.2.2.2.2.2.2.2.2.2.2.2.2.2.2
    clear hh0
    have hbt := (hbw.trans (hbq.mono (by omega))).trans (hhb.mono (by omega))
    clear ‹_ ∧ _ ∧ _ ∧ _ ∧ _ ∧ _ ∧ _ ∧ _ ∧ _ ∧ _ ∧ _ ∧ _ ∧ _ ∧ _ ∧ _ ∧ _ ∧ Below w4.heap.size w4 _›
    go_wp2_with fail
    go_ret
    exact ⟨rfl, hbt⟩
  · obtain ⟨sv, hsv⟩ : ∃ sv : BitVec 32, IntKind.u32.wrap vv = (sv.toNat : Int) := ⟨BitVec.ofNat 32 (vv % 4294967296).toNat, by rw [IntKind.wrap_u32, BitVec.toNat_ofNat]; omega⟩
    have hsvb := sv.isLt
    obtain ⟨q, hq⟩ : ∃ q : Rec, q = { r with S := sv } := ⟨_, rfl⟩
    have hqm : q.may = true := by
      obtain ⟨m1, m2, m3, m4, m5, m6, m7, m8⟩ := may_open HM.out
      rw [hq]
      unfold Rec.may; exact decide_eq_true ⟨m1, m2, m3, m4, m5, m6, m7, m8⟩
    have hrq := rb.set 6 (.int .u32 (sv.toNat : Int))
    have hcq : RCells (w2.setCell ⟨w1.heap.size + 1, 6, none⟩ (.int .u32 (sv.toNat : Int))) (w1.heap.size + 1) q (.slice A n c) := by rw [hq]; exact .of_row hrq
    have hcr : RCells (w2.setCell ⟨w1.heap.size + 1, 6, none⟩ (.int .u32 (sv.toNat : Int))) w1.heap.size r (.slice A n c) := .of_row (ra2.far (by simp) _)
    have hbq : Below w1.heap.size w1 (w2.setCell ⟨w1.heap.size + 1, 6, none⟩ (.int .u32 (sv.toNat : Int))) := below_put hb3 _ _ (by omega) (by omega) _
    have hqD : q.D = r.D := by rw [hq]
    clear hrq hq
    go_wp2_with fail
    generalize w2.setCell ⟨w1.heap.size + 1, 6, none⟩ (.int .u32 (sv.toNat : Int)) = w4 at *
    clear hy0 hy1 hy2 hy3 hy6 hy7 hc0 hc1' hc2' hc3' hc6 hc7 hca7
    have sq : Sl w4 w1.heap.size 1 A n (q.D.map bv8) := by rw [hqD]; exact sa.below hbq
    have HQN := hid (show q.D.length = n by rw [hqD, HN.out])
    obtain ⟨Aq, hAq⟩ : ∃ B, B = A := ⟨_, rfl⟩
    obtain ⟨cq, hcqq⟩ : ∃ b, b = c := ⟨_, rfl⟩
    rw [← hAq] at sq
    rw [← hAq, ← hcqq] at hcq
    clear hqD hAq hcqq
    have hl4 := hcq.lt
    have hlq := hid (putR_len hqm)
    have sr : Sl w4 w1.heap.size 1 A n (r.D.map bv8) := sa.below hbq
    obtain ⟨tb, htb⟩ : ∃ tb, decide (putR q = putR r) = tb := ⟨_, rfl⟩
    have htb2 : decide (q = r) = tb := by rw [← htb]; exact decide_eq_decide.2 (putR_inj HM.out hqm).symm
    have HTB := hid htb
    have HTB2 := hid htb2
    have hrefl : (tb == tb) = true := by simp
    obtain ⟨c0, c1, c2, c3, c4, c5, c6, c7⟩ := hcr
    obtain ⟨d0, d1, d2, d3, d4, d5, d6, d7⟩ := hcq
    clear htb htb2
    go_wp2_with fail
    go_region_held3 (fun w' => w'.cell? ⟨w1.heap.size, 0, none⟩ = some (.int .i64 r.O) ∧ w'.cell? ⟨w1.heap.size, 1, none⟩ = some (.int .i64 r.B) ∧ w'.cell? ⟨w1.heap.size, 2, none⟩ = some (.int .i64 r.I) ∧ w'.cell? ⟨w1.heap.size, 3, none⟩ = some (.int .i64 r.P.K) ∧ w'.cell? ⟨w1.heap.size, 4, none⟩ = some (.int .i64 r.P.H) ∧ w'.cell? ⟨w1.heap.size, 5, none⟩ = some (.int .i64 r.P.S) ∧ w'.cell? ⟨w1.heap.size, 6, none⟩ = some (.int .u32 (r.S.toNat : Int)) ∧ w'.cell? ⟨w1.heap.size, 7, none⟩ = some (.slice A n c) ∧ w'.cell? ⟨w1.heap.size + 1, 0, none⟩ = some (.int .i64 q.O) ∧ w'.cell? ⟨w1.heap.size + 1, 1, none⟩ = some (.int .i64 q.B) ∧ w'.cell? ⟨w1.heap.size + 1, 2, none⟩ = some (.int .i64 q.I) ∧ w'.cell? ⟨w1.heap.size + 1, 3, none⟩ = some (.int .i64 q.P.K) ∧ w'.cell? ⟨w1.heap.size + 1, 4, none⟩ = some (.int .i64 q.P.H) ∧ w'.cell? ⟨w1.heap.size + 1, 5, none⟩ = some (.int .i64 q.P.S) ∧ w'.cell? ⟨w1.heap.size + 1, 6, none⟩ = some (.int .u32 (q.S.toNat : Int)) ∧ w'.cell? ⟨w1.heap.size + 1, 7, none⟩ = some (.slice Aq n cq) ∧ Below w4.heap.size w4 w')
      (first
        | exact RHeld2.drew (r := r) (q := q) (d1 := .slice A n c) (d2 := .slice Aq n cq) (g1 := w1.heap.size) (g2 := w1.heap.size + 1) (RHeld2.of ⟨c0, c1, c2, c3, c4, c5, c6, c7⟩ ⟨d0, d1, d2, d3, d4, d5, d6, d7⟩ (Below.refl _ _))
        | exact RHeld2.keep (r := r) (q := q) (d1 := .slice A n c) (d2 := .slice Aq n cq) (g1 := w1.heap.size) (g2 := w1.heap.size + 1) hbb (by assumption) (by omega) (by omega)
        | exact RHeld2.draws (r := r) (q := q) (d1 := .slice A n c) (d2 := .slice Aq n cq) (g1 := w1.heap.size) (g2 := w1.heap.size + 1) (by assumption) _
        | exact RHeld2.draws (r := r) (q := q) (d1 := .slice A n c) (d2 := .slice Aq n cq) (g1 := w1.heap.size) (g2 := w1.heap.size + 1) (RHeld2.keep (r := r) (q := q) (d1 := .slice A n c) (d2 := .slice Aq n cq) (g1 := w1.heap.size) (g2 := w1.heap.size + 1) hbb (by assumption) (by omega) (by omega)) _)
      (first
        | (go_at_call 15; (with_reducible show Calls _ _ #[.agg #[.int .i64 q.O, _, _, _, _, _, _, _]] _ _); have hh0 := ‹_ ∧ _ ∧ _ ∧ _ ∧ _ ∧ _ ∧ _ ∧ _ ∧ _ ∧ _ ∧ _ ∧ _ ∧ _ ∧ _ ∧ _ ∧ _ ∧ Below w4.heap.size w4 _›; have hhb := hh0.2.2.2.2.2.2.2.2.2.2.2.2.2.2.2.2; clear hh0; have hhs := hhb.size; refine (putrec_any w1.heap.size q Aq n cq _ (sq.below (hhb.mono (by omega))) (by omega)).mono ?_; rintro e w' ⟨v1, rfl, hv1, hbb0⟩; have hbb := hbb0.mono hhs; obtain ⟨B1, k1, rfl, _, _⟩ := own_form3 hv1 hlq.out; have s1 := ob_sl hv1 hlq.out)
        | (go_at_call 15; (with_reducible show Calls _ _ #[.agg #[.int .i64 r.O, _, _, _, _, _, _, _]] _ _); have hh0 := ‹_ ∧ _ ∧ _ ∧ _ ∧ _ ∧ _ ∧ _ ∧ _ ∧ _ ∧ _ ∧ _ ∧ _ ∧ _ ∧ _ ∧ _ ∧ _ ∧ Below w4.heap.size w4 _›; have hhb := hh0.2.2.2.2.2.2.2.2.2.2.2.2.2.2.2.2; clear hh0; have hhs := hhb.size; refine (putrec_any w1.heap.size r A n c _ (sr.below (hhb.mono (by omega))) (by omega)).mono ?_; rintro e w' ⟨v2, rfl, hv2, hbb0⟩; have hbb := hbb0.mono hhs; obtain ⟨B2, k2, rfl, _, _⟩ := own_form3 hv2 hlr.out; have s2 := ob_sl hv2 hlr.out; have s1b := (s1.below hbb0).mono hbb0.size)
        | (go_at_call 14; have hh0 := ‹_ ∧ _ ∧ _ ∧ _ ∧ _ ∧ _ ∧ _ ∧ _ ∧ _ ∧ _ ∧ _ ∧ _ ∧ _ ∧ _ ∧ _ ∧ _ ∧ Below w4.heap.size w4 _›; have hhb := hh0.2.2.2.2.2.2.2.2.2.2.2.2.2.2.2.2; clear hh0; have hhs := hhb.size; refine (same_is tb _ B1 B2 (putR q) (putR r) 64 64 k1 k2 _ s1b s2 (by omega) (by omega) HTB.out).mono ?_; rintro e w' ⟨rfl, dd, rfl⟩)
        | (go_at_call 22; have hh0 := ‹_ ∧ _ ∧ _ ∧ _ ∧ _ ∧ _ ∧ _ ∧ _ ∧ _ ∧ _ ∧ _ ∧ _ ∧ _ ∧ _ ∧ _ ∧ _ ∧ Below w4.heap.size w4 _›; have hhb := hh0.2.2.2.2.2.2.2.2.2.2.2.2.2.2.2.2; clear hh0; have hhs := hhb.size; refine (samerec_any q r Aq A n n cq c tb w4.heap.size _ ((sq.below (hhb.mono (by omega))).mono (by omega)) ((sr.below (hhb.mono (by omega))).mono (by omega)) (by omega) (by omega) (by omega) HTB2.out).mono ?_; rintro e w' ⟨rfl, hbb0⟩; have hbb := hbb0.mono hhs)
        | (go_at_call 7; have hh0 := ‹_ ∧ _ ∧ _ ∧ _ ∧ _ ∧ _ ∧ _ ∧ _ ∧ _ ∧ _ ∧ _ ∧ _ ∧ _ ∧ _ ∧ _ ∧ _ ∧ Below w4.heap.size w4 _›; have hhb := hh0.2.2.2.2.2.2.2.2.2.2.2.2.2.2.2.2; clear hh0; have hhs := hhb.size; refine (wakes17 _).mono ?_; rintro e w' ⟨rfl, hbb0⟩; have hbb := hbb0.mono hhs))
    have hh0 := ‹_ ∧ _ ∧ _ ∧ _ ∧ _ ∧ _ ∧ _ ∧ _ ∧ _ ∧ _ ∧ _ ∧ _ ∧ _ ∧ _ ∧ _ ∧ _ ∧ Below w4.heap.size w4 _›
    have hhb := hh0.2.2.2.2.2.2.2.2.2.2.2.2.2.2.2.2
    clear hh0
    have hbt := (hbw.trans (hbq.mono (by omega))).trans (hhb.mono (by omega))
    clear ‹_ ∧ _ ∧ _ ∧ _ ∧ _ ∧ _ ∧ _ ∧ _ ∧ _ ∧ _ ∧ _ ∧ _ ∧ _ ∧ _ ∧ _ ∧ _ ∧ Below w4.heap.size w4 _›
    go_wp2_with fail
    go_ret
    exact ⟨rfl, hbt⟩
  · obtain ⟨k, hk1⟩ : ∃ k : Nat, (k : Int) = vv % (n : Int) := ⟨(vv % (n : Int)).toNat, by have := Int.emod_nonneg vv (show (n : Int) ≠ 0 by omega); omega⟩
    have hkn : k < n := by
      have := Int.emod_lt_of_pos vv (show (0 : Int) < (n : Int) by omega)
      omega
    have HK1 := hid hk1
    have hki : (0 : Int) ≤ (k : Int) := by omega
    have hkni : (k : Int) < (n : Int) := by omega
    obtain ⟨cb, hcb⟩ : ∃ cb : Byte, IntKind.u8.wrap (vv / 32) = (cb.toNat : Int) := ⟨BitVec.ofNat 8 (vv / 32 % 256).toNat, by rw [IntKind.wrap_u8', BitVec.toNat_ofNat]; omega⟩
    have hcbb := cb.isLt
    have HCB := hid hcb
    clear hk1 hcb
    obtain ⟨i0, hi', hz0, hz1', hz2⟩ := info_parts infoB
    go_wp2_with (at_builtin; go_must (refine wpl_append rfl (.const (.slice none 0 0)) (.tmp 38) 25 rfl w2.heap.size 5 i0 (.int .u8 0) 1 1 Try.underlying25 hi' hz0 hz1' hz2 rfl (by omega) (.slice none 0 0) 0 [] rfl (World.ownsRow_nil _ _ _ _) w1.heap.size A n c (r.D.map bv8) rfl (sa.below hb3) (u8s_cell _) n (by omega) (r.D.map bv8) rfl (by omega) (by omega) (Nat.le_refl _) ?_); intro A3 c3 w3 o3 g3 _; have b3 : Below w2.heap.size w2 w3 := below_own (Below.refl _ _) (World.ownsRow_nil w2 w2.heap.size 5 1) g3 (Nat.le_refl _) (Nat.le_refl _); have rb3 := rb.below b3 hl2b; have ra3 := ra2.below b3 hl2; have e7 := rb3.cell 7; have f7 := rb3.frozen 7; simp only [List.getElem?_cons_succ, List.getElem?_cons_zero] at e7)
    have rb4 := rb3.set 7 (.slice A3 n c3)
    have ra4 : Row (w3.setCell ⟨w1.heap.size + 1, 7, none⟩ (.slice A3 n c3)) w1.heap.size 27 (recL r (.slice A n c)) := ra3.far (by simp) _
    have hb4 : Below w1.heap.size w1 (w3.setCell ⟨w1.heap.size + 1, 7, none⟩ (.slice A3 n c3)) := below_put (hb3.trans (b3.mono (by omega))) _ _ (by omega) (by have := b3.size; omega) _
    have ho3 : OB w2.heap.size w3 (.slice A3 n c3) r.D := by unfold OB; rw [HN.out]; exact o3
    have ho4 := ob_put ho3 hl2b 7 (.slice A3 n c3)
    unfold OB at ho4
    rw [HN.out] at ho4
    have hcr4 : RCells (w3.setCell ⟨w1.heap.size + 1, 7, none⟩ (.slice A3 n c3)) w1.heap.size r (.slice A n c) := .of_row ra4
    have hz4 : w2.heap.size ≤ (w3.setCell ⟨w1.heap.size + 1, 7, none⟩ (.slice A3 n c3)).heap.size := by have := b3.size; simpa [World.setCell] using this
    generalize w3.setCell ⟨w1.heap.size + 1, 7, none⟩ (.slice A3 n c3) = w35 at *
    clear hy0 hy1 hy2 hy3 hy6 hy7 hc0 hc1' hc2' hc3' hc6 hc7 hca7
    clear rb3 ra3 e7 f7 ho3 o3 g3 b3
    obtain ⟨yb, hyb⟩ : ∃ y, r.D.getD k 0 ^^^ cb = y := ⟨_, rfl⟩
    obtain ⟨g, rfl, hgb, hgl, hcy, hfz, hset⟩ := own_put (show w35.drew.ownsRow w2.heap.size 5 1 (.slice A3 n c3) n (r.D.map bv8) from ho4) hkn yb
    have hgl : g < w35.heap.size := hgl
    have hcy : w35.cell? ⟨g, k, none⟩ = some (.int .u8 ((r.D.getD k 0).toNat : Int)) := hcy
    have hfz' := hfz
    have hfz : w35.frozen? ⟨g, k, none⟩ = false := hfz
    have hyc : bits .xor .u8 (((r.D.getD k 0).toNat : Nat) : Int) (cb.toNat : Int) = (yb.toNat : Int) := by rw [← hyb]; exact x8' _ _
    have hybb := yb.isLt
    have hold := (r.D.getD k 0).isLt
    rw [show bv8 yb = Value.int .u8 (yb.toNat : Int) from rfl] at hset
    generalize r.D.getD k 0 = old at *
    clear hyb ho4
    obtain ⟨q, hq⟩ : ∃ q : Rec, q = { r with D := r.D.set k yb } := ⟨_, rfl⟩
    have hqm : q.may = true := by
      obtain ⟨m1, m2, m3, m4, m5, m6, m7, m8⟩ := may_open HM.out
      rw [hq]
      unfold Rec.may; refine decide_eq_true ?_; dsimp only; exact ⟨m1, m2, m3, m4, m5, m6, m7, by rw [List.length_set]; exact m8⟩
    have e7 := rb4.cell 7
    simp only [List.set_cons_succ, List.set_cons_zero, List.getElem?_cons_succ, List.getElem?_cons_zero] at e7
    have hrq := rb4.drew.far (p := ⟨g, k, none⟩) (by simp; omega) (.int .u8 (yb.toNat : Int))
    have hcq : RCells ((w35.setCell ⟨g, k, none⟩ (.int .u8 (yb.toNat : Int))).drew) (w1.heap.size + 1) q (.slice (some ⟨g, 0, none⟩) n c3) := by rw [hq]; exact .of_row hrq
    have hcr : RCells ((w35.setCell ⟨g, k, none⟩ (.int .u8 (yb.toNat : Int))).drew) w1.heap.size r (.slice A n c) := .of_row (ra4.drew.far (by simp; omega) _)
    have hbq : Below w1.heap.size w1 ((w35.setCell ⟨g, k, none⟩ (.int .u8 (yb.toNat : Int))).drew) := below_put hb4.drew _ _ (by omega) (show w1.heap.size ≤ w35.heap.size by omega) _
    have HQN := hid (show q.D.length = n by rw [hq]; dsimp only; rw [List.length_set, HN.out])
    have hoq : OB w2.heap.size ((w35.setCell ⟨g, k, none⟩ (.int .u8 (yb.toNat : Int))).drew) (.slice (some ⟨g, 0, none⟩) n c3) q.D := by unfold OB; rw [HQN.out, hq]; exact hset
    have sq := ob_sl hoq HQN.out
    clear hrq hq hoq hset rb4 ra4 hcr4
    refine wp_region_still_tail 15 (by kernel_rfl) (by kernel_rfl) ?_
    simp only [List.take_succ_cons, List.take_zero, List.drop_succ_cons, List.drop_zero]
    have hwi : ∀ W : World, Calls Try.prog 9 #[.int .i64 vv, .int .i64 (n : Int)] W fun e w' => e = .returned (.int .i64 (k : Int)) ∧ w' = W :=
      fun W => (within_any vv n W hvv.1 hvv.2 (by omega) (by omega)).mono fun _ _ hh => ⟨by rw [HK1.out]; exact hh.1, hh.2.symm⟩
    have HWI := hid hwi
    clear hwi
    have hcb2 := HCB.out
    repeat still_step
    still_call (HWI.out _)
    repeat still_step
    refine wpStill_nil ?_
    change wpList _ _ _ _ _ w35.drew
    go_wp2_with fail
    generalize (w35.setCell ⟨g, k, none⟩ (.int .u8 (yb.toNat : Int))).drew = w4 at *
    have hz35 := hbq.size
    have sr0 : w1.heap.size ≤ w4.heap.size := by omega
    obtain ⟨Aq, hAq⟩ : ∃ B, B = (some ⟨g, 0, none⟩ : Option Addr) := ⟨_, rfl⟩
    rw [← hAq] at sq
    rw [← hAq] at hcq
    clear hAq
    obtain ⟨cq, hcqq⟩ : ∃ b, b = c3 := ⟨_, rfl⟩
    rw [← hcqq] at hcq
    clear hcqq
    have hl4 := hcq.lt
    have hlq := hid (putR_len hqm)
    have sr : Sl w4 w1.heap.size 1 A n (r.D.map bv8) := sa.below hbq
    obtain ⟨tb, htb⟩ : ∃ tb, decide (putR q = putR r) = tb := ⟨_, rfl⟩
    have htb2 : decide (q = r) = tb := by rw [← htb]; exact decide_eq_decide.2 (putR_inj HM.out hqm).symm
    have HTB := hid htb
    have HTB2 := hid htb2
    have hrefl : (tb == tb) = true := by simp
    obtain ⟨c0, c1, c2, c3, c4, c5, c6, c7⟩ := hcr
    obtain ⟨d0, d1, d2, d3, d4, d5, d6, d7⟩ := hcq
    clear htb htb2
    go_wp2_with fail
    go_region_held3 (fun w' => w'.cell? ⟨w1.heap.size, 0, none⟩ = some (.int .i64 r.O) ∧ w'.cell? ⟨w1.heap.size, 1, none⟩ = some (.int .i64 r.B) ∧ w'.cell? ⟨w1.heap.size, 2, none⟩ = some (.int .i64 r.I) ∧ w'.cell? ⟨w1.heap.size, 3, none⟩ = some (.int .i64 r.P.K) ∧ w'.cell? ⟨w1.heap.size, 4, none⟩ = some (.int .i64 r.P.H) ∧ w'.cell? ⟨w1.heap.size, 5, none⟩ = some (.int .i64 r.P.S) ∧ w'.cell? ⟨w1.heap.size, 6, none⟩ = some (.int .u32 (r.S.toNat : Int)) ∧ w'.cell? ⟨w1.heap.size, 7, none⟩ = some (.slice A n c) ∧ w'.cell? ⟨w1.heap.size + 1, 0, none⟩ = some (.int .i64 q.O) ∧ w'.cell? ⟨w1.heap.size + 1, 1, none⟩ = some (.int .i64 q.B) ∧ w'.cell? ⟨w1.heap.size + 1, 2, none⟩ = some (.int .i64 q.I) ∧ w'.cell? ⟨w1.heap.size + 1, 3, none⟩ = some (.int .i64 q.P.K) ∧ w'.cell? ⟨w1.heap.size + 1, 4, none⟩ = some (.int .i64 q.P.H) ∧ w'.cell? ⟨w1.heap.size + 1, 5, none⟩ = some (.int .i64 q.P.S) ∧ w'.cell? ⟨w1.heap.size + 1, 6, none⟩ = some (.int .u32 (q.S.toNat : Int)) ∧ w'.cell? ⟨w1.heap.size + 1, 7, none⟩ = some (.slice Aq n cq) ∧ Below w4.heap.size w4 w')
      (first
        | exact RHeld2.drew (r := r) (q := q) (d1 := .slice A n c) (d2 := .slice Aq n cq) (g1 := w1.heap.size) (g2 := w1.heap.size + 1) (RHeld2.of ⟨c0, c1, c2, c3, c4, c5, c6, c7⟩ ⟨d0, d1, d2, d3, d4, d5, d6, d7⟩ (Below.refl _ _))
        | exact RHeld2.keep (r := r) (q := q) (d1 := .slice A n c) (d2 := .slice Aq n cq) (g1 := w1.heap.size) (g2 := w1.heap.size + 1) hbb (by assumption) (by omega) (by omega)
        | exact RHeld2.draws (r := r) (q := q) (d1 := .slice A n c) (d2 := .slice Aq n cq) (g1 := w1.heap.size) (g2 := w1.heap.size + 1) (by assumption) _
        | exact RHeld2.draws (r := r) (q := q) (d1 := .slice A n c) (d2 := .slice Aq n cq) (g1 := w1.heap.size) (g2 := w1.heap.size + 1) (RHeld2.keep (r := r) (q := q) (d1 := .slice A n c) (d2 := .slice Aq n cq) (g1 := w1.heap.size) (g2 := w1.heap.size + 1) hbb (by assumption) (by omega) (by omega)) _)
      (first
        | (go_at_call 15; (with_reducible show Calls _ _ #[.agg #[.int .i64 q.O, _, _, _, _, _, _, _]] _ _); have hh0 := ‹_ ∧ _ ∧ _ ∧ _ ∧ _ ∧ _ ∧ _ ∧ _ ∧ _ ∧ _ ∧ _ ∧ _ ∧ _ ∧ _ ∧ _ ∧ _ ∧ Below w4.heap.size w4 _›; have hhb := hh0.2.2.2.2.2.2.2.2.2.2.2.2.2.2.2.2; clear hh0; have hhs := hhb.size; refine (putrec_any w4.heap.size q Aq n cq _ (sq.below (hhb.mono (by omega))) (by omega)).mono ?_; rintro e w' ⟨v1, rfl, hv1, hbb0⟩; have hbb := hbb0.mono hhs; obtain ⟨B1, k1, rfl, _, _⟩ := own_form3 hv1 hlq.out; have s1 := ob_sl hv1 hlq.out)
        | (go_at_call 15; (with_reducible show Calls _ _ #[.agg #[.int .i64 r.O, _, _, _, _, _, _, _]] _ _); have hh0 := ‹_ ∧ _ ∧ _ ∧ _ ∧ _ ∧ _ ∧ _ ∧ _ ∧ _ ∧ _ ∧ _ ∧ _ ∧ _ ∧ _ ∧ _ ∧ _ ∧ Below w4.heap.size w4 _›; have hhb := hh0.2.2.2.2.2.2.2.2.2.2.2.2.2.2.2.2; clear hh0; have hhs := hhb.size; refine (putrec_any w1.heap.size r A n c _ (sr.below (hhb.mono (by omega))) (by omega)).mono ?_; rintro e w' ⟨v2, rfl, hv2, hbb0⟩; have hbb := hbb0.mono hhs; obtain ⟨B2, k2, rfl, _, _⟩ := own_form3 hv2 hlr.out; have s2 := ob_sl hv2 hlr.out; have s1b := (s1.below hbb0).mono hbb0.size)
        | (go_at_call 14; have hh0 := ‹_ ∧ _ ∧ _ ∧ _ ∧ _ ∧ _ ∧ _ ∧ _ ∧ _ ∧ _ ∧ _ ∧ _ ∧ _ ∧ _ ∧ _ ∧ _ ∧ Below w4.heap.size w4 _›; have hhb := hh0.2.2.2.2.2.2.2.2.2.2.2.2.2.2.2.2; clear hh0; have hhs := hhb.size; refine (same_is tb _ B1 B2 (putR q) (putR r) 64 64 k1 k2 _ s1b s2 (by omega) (by omega) HTB.out).mono ?_; rintro e w' ⟨rfl, dd, rfl⟩)
        | (go_at_call 22; have hh0 := ‹_ ∧ _ ∧ _ ∧ _ ∧ _ ∧ _ ∧ _ ∧ _ ∧ _ ∧ _ ∧ _ ∧ _ ∧ _ ∧ _ ∧ _ ∧ _ ∧ Below w4.heap.size w4 _›; have hhb := hh0.2.2.2.2.2.2.2.2.2.2.2.2.2.2.2.2; clear hh0; have hhs := hhb.size; refine (samerec_any q r Aq A n n cq c tb w4.heap.size _ ((sq.below (hhb.mono (by omega))).mono (by omega)) ((sr.below (hhb.mono (by omega))).mono (by omega)) (by omega) (by omega) (by omega) HTB2.out).mono ?_; rintro e w' ⟨rfl, hbb0⟩; have hbb := hbb0.mono hhs)
        | (go_at_call 7; have hh0 := ‹_ ∧ _ ∧ _ ∧ _ ∧ _ ∧ _ ∧ _ ∧ _ ∧ _ ∧ _ ∧ _ ∧ _ ∧ _ ∧ _ ∧ _ ∧ _ ∧ Below w4.heap.size w4 _›; have hhb := hh0.2.2.2.2.2.2.2.2.2.2.2.2.2.2.2.2; clear hh0; have hhs := hhb.size; refine (wakes17 _).mono ?_; rintro e w' ⟨rfl, hbb0⟩; have hbb := hbb0.mono hhs))
    have hh0 := ‹_ ∧ _ ∧ _ ∧ _ ∧ _ ∧ _ ∧ _ ∧ _ ∧ _ ∧ _ ∧ _ ∧ _ ∧ _ ∧ _ ∧ _ ∧ _ ∧ Below w4.heap.size w4 _›
    have hhb := hh0.2.2.2.2.2.2.2.2.2.2.2.2.2.2.2.2
    clear hh0
    have hbt := (hbw.trans (hbq.mono (by omega))).trans (hhb.mono (by omega))
    clear ‹_ ∧ _ ∧ _ ∧ _ ∧ _ ∧ _ ∧ _ ∧ _ ∧ _ ∧ _ ∧ _ ∧ _ ∧ _ ∧ _ ∧ _ ∧ _ ∧ Below w4.heap.size w4 _›
    go_wp2_with fail
    go_ret
    exact ⟨rfl, hbt⟩
end Go.Proofs.Ythafodblffgmmaa
