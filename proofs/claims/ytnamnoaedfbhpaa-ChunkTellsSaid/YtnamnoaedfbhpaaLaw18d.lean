/- The walk of ChunkTells. -/
import Derived.Test.YtnamnoaedfbhpaaLaw18
import Derived.Test.YtnamnoaedfbhpaaOpen
import Derived.Deep.RegionHeld3
import Derived.BigGuardPart
namespace Wells
open Go Go.RowKit
/-- what is held while a region's calls go by: the cells of the boxed parameters, and all blocks below B -/
def Held (w0 : World) (B g : Nat) (p : Par) (w : World) : Prop :=
  w.cell? ⟨g, 0, none⟩ = some (.int .i64 p.K) ∧ w.cell? ⟨g, 1, none⟩ = some (.int .i64 p.H) ∧ w.cell? ⟨g, 2, none⟩ = some (.int .i64 p.S) ∧ Below B w0 w
theorem Held.keep {w0 w w' : World} {B g : Nat} {p : Par} (hb : Below w.heap.size w w') (h : Held w0 B g p w) (hB : B ≤ w0.heap.size) : Held w0 B g p w' := by
  obtain ⟨h0, h1, h2, h3⟩ := h
  have pc : PCells w g p := ⟨h0, h1, h2⟩
  obtain ⟨k0, k1, k2⟩ := pc.keep hb pc.lt
  exact ⟨k0, k1, k2, h3.trans (hb.mono (by have := h3.size; omega))⟩
theorem Held.new {w0 w : World} {B g : Nat} {p : Par} (h : Held w0 B g p w) (hB : B ≤ w0.heap.size) (o : Obj) : Held w0 B g p (w.alloc o) :=
  h.keep ((Below.refl _ _).alloc (Nat.le_refl _) o) hB
theorem Held.drew {w0 w : World} {B g : Nat} {p : Par} (h : Held w0 B g p w) : Held w0 B g p w.drew :=
  ⟨h.1, h.2.1, h.2.2.1, ⟨h.2.2.2.os, h.2.2.2.tape, h.2.2.2.output, h.2.2.2.size, h.2.2.2.block⟩⟩
theorem Held.draws {w0 w : World} {B g : Nat} {p : Par} (h : Held w0 B g p w) (n : Nat) : Held w0 B g p (w.drewN n) :=
  ⟨h.1, h.2.1, h.2.2.1, ⟨h.2.2.2.os, h.2.2.2.tape, h.2.2.2.output, h.2.2.2.size, h.2.2.2.block⟩⟩
theorem Held.mk_ {w0 w : World} {B g : Nat} {p : Par} (h : w.cell? ⟨g, 0, none⟩ = some (.int .i64 p.K) ∧ w.cell? ⟨g, 1, none⟩ = some (.int .i64 p.H) ∧ w.cell? ⟨g, 2, none⟩ = some (.int .i64 p.S) ∧ Below B w0 w) : Held w0 B g p w := h
end Wells
namespace Go.Proofs.Ytnamnoaedfbhpaa
open Go.RowKit Wells
set_option maxRecDepth 20000 in
set_option maxHeartbeats 4000000 in
theorem walk_ChunkTells (p : Par) (a b c n odd : Int) (A : Option Addr) (n0 c0 : Nat) (l : List Byte) (A1 : Option Addr) (n1 c1 : Nat) (vs1 : List Value) (ls1 : List (List Byte)) (w : World) (hp : IsPar p) (ha : -9223372036854775808 ≤ a ∧ a ≤ 9223372036854775807) (hb : -9223372036854775808 ≤ b ∧ b ≤ 9223372036854775807) (hc : -9223372036854775808 ≤ c ∧ c ≤ 9223372036854775807) (hn : -9223372036854775808 ≤ n ∧ n ≤ 9223372036854775807) (ho : -9223372036854775808 ≤ odd ∧ odd ≤ 9223372036854775807) (h : IsBytes w A n0 c0 l) (h1 : IsBytess w A1 n1 c1 vs1 ls1) :
    Calls Try.prog 4 #[p.val, .int .i64 a, .int .i64 b, .int .i64 c, .int .i64 n, .int .i64 odd, .slice A n0 c0, .slice A1 n1 c1] w fun e w' => e = .returned (.bool true) ∧ Below w.heap.size w w' := by
  obtain ⟨hs, hle, hcap⟩ := h
  obtain ⟨hr1, hle1, hcap1⟩ := h1
  obtain ⟨P2, hP2⟩ : ∃ q, parOf a b c = q := ⟨_, rfl⟩
  obtain ⟨P3, hP3⟩ : ∃ q, smallOf a b c = q := ⟨_, rfl⟩
  have HP2 := hid hP2
  have HP3 := hid hP3
  clear hP2 hP3
  have hv : p.val = .agg #[.int .i64 p.K, .int .i64 p.H, .int .i64 p.S] := rfl
  rw [hv]
  clear hv
  by_cases hA : 500 < n0
  · go_enter Try.func4, Try.ntmps4
    go_wp2_with fail
    all_goals
      refine (wakes18 _).mono ?_
      rintro e w9 ⟨rfl, hb9⟩
      go_wp2
      go_ret
      exact ⟨rfl, ((Below.refl _ _).alloc (Nat.le_refl _) _).trans (hb9.mono (by simp))⟩
  by_cases hB : 10 < n1
  · go_enter Try.func4, Try.ntmps4
    go_wp2_with fail
    all_goals
      refine (wakes18 _).mono ?_
      rintro e w9 ⟨rfl, hb9⟩
      go_wp2
      go_ret
      exact ⟨rfl, ((Below.refl _ _).alloc (Nat.le_refl _) _).trans (hb9.mono (by simp))⟩
  go_enter Try.func4, Try.ntmps4
  go_wp2_with fail
  all_goals try omega
  have p1 := PCells.new w p 23
  have b1 : Below w.heap.size w (w.alloc (.cells #[.int .i64 p.K, .int .i64 p.H, .int .i64 p.S] 23)) := (Below.refl _ _).alloc (Nat.le_refl _) _
  have hs1 := hs.below b1
  have hr2 := hr1.below b1
  have hGB : w.heap.size < (w.alloc (.cells #[.int .i64 p.K, .int .i64 p.H, .int .i64 p.S] 23)).heap.size := by simp
  generalize w.alloc (.cells #[.int .i64 p.K, .int .i64 p.H, .int .i64 p.S] 23) = w1 at *
  go_loop [40] (fun i => ∃ k : Nat, k ≤ n1 ∧ i = .int .i64 k ∧ ∀ j, j < k → (ls1.getD j []).length ≤ 400) (fun i => n1 - (intOf i).toNat)
  case atStart => exact ⟨0, by omega, rfl, by omega⟩
  case round =>
    obtain ⟨k, hk, rfl, hsm⟩ := hrel
    by_cases hlt : k < n1
    · obtain ⟨bo, oo, A2, c2, rfl, hbb, hcc, hl1, hc1, sl1⟩ := hr2.get hlt
      have HSM := hid hsm
      clear hsm
      generalize hlq : (ls1.getD k []).length = q at *
      have HLQ := hid hlq
      clear hlq
      by_cases hq : 400 < q
      · go_wp2_with fail
        refine (wakes18 _).mono ?_
        rintro e w9 ⟨rfl, hb9⟩
        go_wp2
        go_ret
        exact ⟨rfl, b1.trans (hb9.mono (by omega))⟩
      · go_wp2_with fail
        go_round
        case rel => exact ⟨k + 1, by omega, by go_num, fun j hj => by
          by_cases hjk : j = k
          · subst hjk; have := HLQ.out; omega
          · exact HSM.out j (by omega)⟩
        case measure => simp [intOf]; omega
    · obtain ⟨d0, d1, d2⟩ := id p1
      go_wp2_with fail
      go_region_held3 (fun w' => w'.cell? ⟨w.heap.size, 0, none⟩ = some (.int .i64 p.K) ∧ w'.cell? ⟨w.heap.size, 1, none⟩ = some (.int .i64 p.H) ∧ w'.cell? ⟨w.heap.size, 2, none⟩ = some (.int .i64 p.S) ∧ Below w1.heap.size w1 w')
        (first
          | exact Held.drew ⟨d0, d1, d2, Below.refl _ _⟩
          | exact Held.drew (by assumption)
          | exact Held.keep hbb (by assumption) (Nat.le_refl _)
          | exact Held.new (by assumption) (Nat.le_refl _) _)
        (first
          | (go_at_call 7; refine (params_any P2 a b c _ ha hb hc HP2.out).mono ?_; rintro e w' ⟨rfl, hbb⟩)
          | (go_at_call 12; refine (small_any P3 a b c _ ha hb hc HP3.out).mono ?_; rintro e w' ⟨rfl, hbb⟩))
      have hbA : Below w1.heap.size w1 (w'.alloc (.cells #[.int .i64 p.K, .int .i64 p.H, .int .i64 p.S, .int .i64 P2.K, .int .i64 P2.H, .int .i64 P2.S, .int .i64 P3.K, .int .i64 P3.H, .int .i64 P3.S] 23)) := by
        have hh := ‹_ ∧ _ ∧ _ ∧ Below w1.heap.size w1 _›
        exact hh.2.2.2
      have hrow := Row.new w' 23 #[.int .i64 p.K, .int .i64 p.H, .int .i64 p.S, .int .i64 P2.K, .int .i64 P2.H, .int .i64 P2.S, .int .i64 P3.K, .int .i64 P3.H, .int .i64 P3.S]
      clear d0 d1 d2 hbb
      have hcells : ∀ k : Nat, k < 3 → ∃ q : Par, (w'.alloc (.cells #[.int .i64 p.K, .int .i64 p.H, .int .i64 p.S, .int .i64 P2.K, .int .i64 P2.H, .int .i64 P2.S, .int .i64 P3.K, .int .i64 P3.H, .int .i64 P3.S] 23)).cell? ⟨w'.heap.size, k * 3, none⟩ = some (.int .i64 q.K) ∧ (w'.alloc (.cells #[.int .i64 p.K, .int .i64 p.H, .int .i64 p.S, .int .i64 P2.K, .int .i64 P2.H, .int .i64 P2.S, .int .i64 P3.K, .int .i64 P3.H, .int .i64 P3.S] 23)).cell? ⟨w'.heap.size, k * 3 + 1, none⟩ = some (.int .i64 q.H) ∧ (w'.alloc (.cells #[.int .i64 p.K, .int .i64 p.H, .int .i64 p.S, .int .i64 P2.K, .int .i64 P2.H, .int .i64 P2.S, .int .i64 P3.K, .int .i64 P3.H, .int .i64 P3.S] 23)).cell? ⟨w'.heap.size, k * 3 + 2, none⟩ = some (.int .i64 q.S) := by
        intro k hk
        obtain rfl | rfl | rfl : k = 0 ∨ k = 1 ∨ k = 2 := by omega
        · exact ⟨p, by rw [hrow.cell]; rfl, by rw [hrow.cell]; rfl, by rw [hrow.cell]; rfl⟩
        · exact ⟨P2, by rw [hrow.cell]; rfl, by rw [hrow.cell]; rfl, by rw [hrow.cell]; rfl⟩
        · exact ⟨P3, by rw [hrow.cell]; rfl, by rw [hrow.cell]; rfl, by rw [hrow.cell]; rfl⟩
      have hgl := hrow.lt
      clear hrow
      generalize (w'.alloc (.cells #[.int .i64 p.K, .int .i64 p.H, .int .i64 p.S, .int .i64 P2.K, .int .i64 P2.H, .int .i64 P2.S, .int .i64 P3.K, .int .i64 P3.H, .int .i64 P3.S] 23)) = w2 at *
      clear ‹_ ∧ _ ∧ _ ∧ Below w1.heap.size w1 w2›
      generalize w'.heap.size = gs at *
      have b2 := b1.trans (hbA.mono (by omega))
      have hs2 := hs1.below (hbA.mono (by omega))
      have hr3 := hr2.below (hbA.mono (by omega))
      have HSM := hid hsm
      clear hsm hs1 hr2 b1 p1
      obtain ⟨G, hG⟩ : ∃ G, G = w2.heap.size := ⟨_, rfl⟩
      have HG := hid hG
      rw [← hG] at hgl
      have hsG := b2.size
      rw [← hG] at hsG
      have hsz2 : G ≤ w2.heap.size := by omega
      have HC := hid hcells
      clear hG hcells
      go_wp2_with fail
      go_loopw [62] (fun i wr => ∃ k : Nat, k ≤ 3 ∧ i = .int .i64 k ∧ Below G w2 wr) (fun i _ => 3 - (intOf i).toNat)
      case atStart => exact ⟨0, by omega, rfl, Below.refl _ _⟩
      case round =>
        obtain ⟨k2, hk2, rfl, hbw⟩ := hrel
        have hwr := hbw.size
        have bw := b2.trans (hbw.mono hsG)
        by_cases hlt2 : k2 < 3
        · obtain ⟨q, q0, q1, q2⟩ := HC.out k2 hlt2
          rw [← hbw.cell (p := ⟨gs, k2 * 3, none⟩) hgl] at q0
          rw [← hbw.cell (p := ⟨gs, k2 * 3 + 1, none⟩) hgl] at q1
          rw [← hbw.cell (p := ⟨gs, k2 * 3 + 2, none⟩) hgl] at q2
          have hsr := hs2.below (hbw.mono hsG)
          have hrr := hr3.below (hbw.mono hsG)
          go_wp2_with fail
          have pq := PCells.new wr q 23
          have bq : Below wr.heap.size wr (wr.alloc (.cells #[.int .i64 q.K, .int .i64 q.H, .int .i64 q.S] 23)) := (Below.refl _ _).alloc (Nat.le_refl _) _
          refine (spare_any w.heap.size A l n0 c0 71#8 _ (hsr.below (bq.mono (by omega))) (by simp; omega) (by omega)).mono ?_
          rintro e w3 ⟨g, rfl, hg, hrow, hb3⟩
          have p3 := pq.keep hb3 pq.lt
          have b3 := bq.trans (hb3.mono (by simp))
          clear pq bq hb3 q0 q1 q2
          obtain ⟨q0, q1, q2⟩ := id p3
          have hs3 := hsr.below (b3.mono (show w.heap.size ≤ wr.heap.size by omega))
          have hw3 := b3.size
          go_wp2_with fail
          refine (refblocks_any q w.heap.size A n0 c0 l _ hs3 (by omega) (by omega) hle).mono ?_
          rintro e w4 ⟨v, vw, rfl, how, hb4⟩
          obtain ⟨Aw, cw, rfl, hcw1, hcw2⟩ := how.form
          obtain ⟨m, hm⟩ : ∃ m, (blocks q l).length = m := ⟨_, rfl⟩
          have hmn : m ≤ n0 := by
            have h1 := blocks_length q l
            have h2 := (countP_le q l.length).2 (by omega)
            have h3 : l.length = n0 := by have := hs.len; simpa using this
            omega
          have HM := hid hm
          rw [hm] at hcw1 how ⊢
          clear hm
          have rw4 := OBs.read how HM.out
          have p4 := p3.keep hb4 p3.lt
          have b4 := b3.trans (hb4.mono hw3)
          have hs4 := hs3.below (hb4.mono (by omega))
          have row4 := hrow.below hb4 hrow.lt
          have hr4 := hrr.below (b4.mono (show w.heap.size ≤ wr.heap.size by omega))
          have hw4 := b4.size
          have hwW4 : w.heap.size ≤ w4.heap.size := by omega
          clear p3 b3 hs3 how hrow hb4 q0 q1 q2
          obtain ⟨q0, q1, q2⟩ := id p4
          have hgq := p4.lt
          generalize wr.heap.size = gq at *
          have hl0 : l.length = n0 := by have := hs4.len; simpa using this
          have hsq : Sl w4 w4.heap.size 1 (some ⟨g, 0, none⟩) n0 (l.map bv8) := by
            have := row4.sl (B := w4.heap.size) (m := n0) row4.lt (by simp; omega)
            rwa [List.take_append_of_le_length (by simp; omega), List.take_of_length_le (by simp; omega)] at this
          have HL := hid hl0
          clear hl0
          obtain ⟨cn, hcn⟩ : ∃ cn, countP q n = cn := ⟨_, rfl⟩
          have HCN := hid hcn
          clear hcn
          have hnb : (cn != cn) = false := by simp
          generalize hblq : blocks q l = bl at *
          have HBQ := hid hblq
          clear hblq
          go_wp2_with fail
          go_region_held3 (fun w' => w'.cell? ⟨gq, 0, none⟩ = some (.int .i64 q.K) ∧ w'.cell? ⟨gq, 1, none⟩ = some (.int .i64 q.H) ∧ w'.cell? ⟨gq, 2, none⟩ = some (.int .i64 q.S) ∧ Below w4.heap.size w4 w')
            (first
              | exact Held.drew ⟨q0, q1, q2, Below.refl _ _⟩
              | exact Held.keep hbb (by assumption) (Nat.le_refl _)
              | exact Held.draws (by assumption) _)
            (first
              | (go_at_call 9; refine (count_any q n cn _ hn HCN.out).mono ?_; rintro e w' ⟨rfl, hbb⟩)
              | (go_at_call 15; refine (refcount_any q n cn _ hn HCN.out).mono ?_; rintro e w' ⟨rfl, hbb⟩)
              | (go_at_call 17; have hh := ‹_ ∧ _ ∧ _ ∧ Below w4.heap.size w4 _›; refine (split_any q w4.heap.size (some ⟨g, 0, none⟩) n0 (n0 + 2) l _ (hsq.below hh.2.2.2) hh.2.2.2.size (by omega) (by omega)).mono ?_; rintro e w' ⟨v, vs, rfl, hos, hbb⟩; rw [HBQ.out] at hos; obtain ⟨Ao, co, rfl, hco1, hco2⟩ := hos.form; rw [HM.out] at hco1 hos ⊢; have rws := hos.read HM.out)
              | (go_at_call 16; have hh := ‹_ ∧ _ ∧ _ ∧ Below w4.heap.size w4 _›; refine (rows_is true _ Ao Aw vs vw bl bl m m co cw _ rws ((rw4.below hh.2.2.2).mono hh.2.2.2.size) (by omega) (by omega) (decide_eq_true rfl)).mono ?_; rintro e w' ⟨rfl, dd, rfl⟩)
              | (go_at_call 18; have hh := ‹_ ∧ _ ∧ _ ∧ Below w4.heap.size w4 _›; refine (kept_any w.heap.size A g l n0 c0 71#8 _ (hs4.below (hh.2.2.2.mono hwW4)) (row4.below hh.2.2.2 row4.lt) (by omega)).mono ?_; rintro e w' ⟨rfl, dd, rfl⟩))
          have hh := ‹_ ∧ _ ∧ _ ∧ Below w4.heap.size w4 _›
          have hh2 := Held.mk_ hh
          clear hh
          generalize World.drewN _ _ = w5 at hh2 ⊢
          obtain ⟨q0, q1, q2, b5⟩ := hh2
          have hs5 := hs4.below (b5.mono hwW4)
          have hr5 := hr4.below (b5.mono hwW4)
          have rw5 := rw4.below b5
          have hw5 := b5.size
          have pq5 : PCells w5 gq q := ⟨q0, q1, q2⟩
          clear hs4 hr4 rw4 row4 hsq hbb rws hos q0 q1 q2
          obtain ⟨x1, hx1⟩ : ∃ x, odd % ((n0 : Int) + 1) = x := ⟨_, rfl⟩
          obtain ⟨x2, hx2⟩ : ∃ x, odd % 20 = x := ⟨_, rfl⟩
          have hx1b : 0 ≤ x1 ∧ x1 ≤ (n0 : Int) := by
            have := Int.emod_nonneg odd (show ((n0 : Int) + 1) ≠ 0 by omega)
            have := Int.emod_lt_of_pos odd (show 0 < ((n0 : Int) + 1) by omega)
            omega
          have hx2b : 0 ≤ x2 ∧ x2 ≤ 20 := by omega
          have HX1 := hid hx1
          have HX2 := hid hx2
          clear hx1 hx2
          obtain ⟨hx1a, hx1b⟩ := hx1b
          obtain ⟨hx2a, hx2b⟩ := hx2b
          go_wp2_with fail
          refine (within_any odd ((n0 : Int) + 1) _ ho.1 ho.2 (by omega) (by omega)).mono ?_
          rintro e w6 ⟨rfl, rfl⟩
          rw [HX1.out]
          go_wp2_with fail
          refine (within_any odd 20 _ ho.1 ho.2 (by omega) (by omega)).mono ?_
          rintro e w6 ⟨rfl, rfl⟩
          rw [HX2.out]
          go_wp2_with fail
          have hrw := Row.new w5 3 #[.int .i64 n, .int .i64 n0, .int .i64 x1, .int .i64 (n0 + x2)]
          have hb6 : Below w5.heap.size w5 (w5.alloc (.cells #[.int .i64 n, .int .i64 n0, .int .i64 x1, .int .i64 (n0 + x2)] 3)) := (Below.refl _ _).alloc (Nat.le_refl _) _
          have hcell6 : ∀ k : Nat, k < 4 → ∃ v : Int, (-9223372036854775808 ≤ v ∧ v ≤ 9223372036854775807) ∧ (w5.alloc (.cells #[.int .i64 n, .int .i64 n0, .int .i64 x1, .int .i64 (n0 + x2)] 3)).cell? ⟨w5.heap.size, k, none⟩ = some (.int .i64 v) := by
            intro k hk
            obtain rfl | rfl | rfl | rfl : k = 0 ∨ k = 1 ∨ k = 2 ∨ k = 3 := by omega
            · exact ⟨n, hn, by rw [hrw.cell]; rfl⟩
            · exact ⟨n0, by omega, by rw [hrw.cell]; rfl⟩
            · exact ⟨x1, by omega, by rw [hrw.cell]; rfl⟩
            · exact ⟨n0 + x2, by omega, by rw [hrw.cell]; rfl⟩
          have hgl6 := hrw.lt
          have hs6 := hs5.below (hb6.mono (show w.heap.size ≤ w5.heap.size by omega))
          have hr6 := hr5.below (hb6.mono (show w.heap.size ≤ w5.heap.size by omega))
          have rw6 := rw5.below (hb6.mono (show w4.heap.size ≤ w5.heap.size by omega))
          have pq6 := pq5.keep hb6 pq5.lt
          have b6 := b5.trans (hb6.mono hw5)
          clear hrw hb6 hs5 hr5 rw5 pq5 b5
          generalize w5.alloc (.cells #[.int .i64 n, .int .i64 n0, .int .i64 x1, .int .i64 (n0 + x2)] 3) = w6 at *
          generalize w5.heap.size = g6 at *
          have HC6 := hid hcell6
          clear hcell6
          obtain ⟨G6, hG6⟩ : ∃ G, G = w6.heap.size := ⟨_, rfl⟩
          have hw6 := b6.size
          rw [← hG6] at hgl6 hw6
          have hsz6 : G6 ≤ w6.heap.size := by omega
          have hpl : gq < G6 := by have := pq6.lt; omega
          have HG6 := hid hG6
          clear hG6
          go_loopw [107] (fun i wr => ∃ k : Nat, k ≤ 4 ∧ i = .int .i64 k ∧ Below G6 w6 wr) (fun i _ => 4 - (intOf i).toNat)
          case atStart => exact ⟨0, by omega, rfl, Below.refl _ _⟩
          case round =>
            obtain ⟨k3, hk3, rfl, hbi⟩ := hrel
            have hwi := hbi.size
            have hwiG : G6 ≤ wr.heap.size := by omega
            have hwiW : w.heap.size ≤ wr.heap.size := by omega
            have hwiW4 : w4.heap.size ≤ wr.heap.size := by omega
            by_cases hlt3 : k3 < 4
            · obtain ⟨v, hv, hcv⟩ := HC6.out k3 hlt3
              rw [← hbi.cell (p := ⟨g6, k3, none⟩) hgl6] at hcv
              have pqi := pq6.keep hbi hpl
              have hri := hr6.below (hbi.mono (show w.heap.size ≤ G6 by omega))
              have rwi := rw6.below (hbi.mono (show w4.heap.size ≤ G6 by omega))
              obtain ⟨q0, q1, q2⟩ := id pqi
              rcases (show k3 = 0 ∨ 0 < k3 by omega) with rfl | hk0
              · have HR := hri.mono hwiW
                obtain ⟨jo, hjo⟩ : ∃ jo, joinP q ls1 v = jo := ⟨_, rfl⟩
                have HJ := hid hjo
                clear hjo
                go_wp2_with fail
                refine (join_any q _ _ _ _ _ _ v _ HR (Nat.le_refl _) (by omega) hv).mono ?_
                rintro e w7 ⟨y, rfl, hy, hb7⟩
                rw [HJ.out] at hy ⊢
                obtain ⟨Ay, cy, e7, hcy1, hcy2, sy⟩ := hy.read
                subst e7
                have hHR7 := HR.below hb7
                have pq7 := pqi.keep hb7 pqi.lt
                clear q0 q1 q2
                obtain ⟨q0, q1, q2⟩ := id pq7
                go_wp2_with fail
                refine (whole_any q _ _ _ _ _ _ v _ (hHR7.mono hb7.size) (Nat.le_refl _) (by omega) hv).mono ?_
                rintro e w8 ⟨z, rfl, hz, hb8⟩
                rw [HJ.out] at hz ⊢
                obtain ⟨Az, cz, e8, hcz1, hcz2, sz⟩ := hz.read
                subst e8
                have hbt : Below G6 w6 w8 := hbi.trans ((hb7.mono hwiG).trans (hb8.mono (by have := hb7.size; omega)))
                have hbne : (jo.isSome != jo.isSome) = false := by simp
                have sy8 := (sy.below hb8).mono hb8.size
                generalize jo.isSome = jb at *
                go_wp2_with fail
                refine (same_is true w8.heap.size _ _ _ _ _ _ _ _ _ sy8 sz (by omega) (by omega) (decide_eq_true rfl)).mono ?_
                rintro e w9 ⟨rfl, d9, rfl⟩
                go_wp2_with fail
                go_roundw
                case rel => exact ⟨_, (by omega : 0 + 1 ≤ 4), by go_num, below_drewN hbt d9⟩
                case measure => simp [intOf]
              · have HR := rwi.mono hwiW4
                obtain ⟨jo, hjo⟩ : ∃ jo, joinP q bl v = jo := ⟨_, rfl⟩
                have HJ := hid hjo
                clear hjo
                go_wp2_with fail
                refine (join_any q _ _ _ _ _ _ v _ HR (Nat.le_refl _) (by omega) hv).mono ?_
                rintro e w7 ⟨y, rfl, hy, hb7⟩
                rw [HJ.out] at hy ⊢
                obtain ⟨Ay, cy, e7, hcy1, hcy2, sy⟩ := hy.read
                subst e7
                have hHR7 := HR.below hb7
                have pq7 := pqi.keep hb7 pqi.lt
                clear q0 q1 q2
                obtain ⟨q0, q1, q2⟩ := id pq7
                go_wp2_with fail
                refine (whole_any q _ _ _ _ _ _ v _ (hHR7.mono hb7.size) (Nat.le_refl _) (by omega) hv).mono ?_
                rintro e w8 ⟨z, rfl, hz, hb8⟩
                rw [HJ.out] at hz ⊢
                obtain ⟨Az, cz, e8, hcz1, hcz2, sz⟩ := hz.read
                subst e8
                have hbt : Below G6 w6 w8 := hbi.trans ((hb7.mono hwiG).trans (hb8.mono (by have := hb7.size; omega)))
                have hbne : (jo.isSome != jo.isSome) = false := by simp
                have sy8 := (sy.below hb8).mono hb8.size
                generalize jo.isSome = jb at *
                go_wp2_with fail
                refine (same_is true w8.heap.size _ _ _ _ _ _ _ _ _ sy8 sz (by omega) (by omega) (decide_eq_true rfl)).mono ?_
                rintro e w9 ⟨rfl, d9, rfl⟩
                go_wp2_with fail
                go_roundw
                case rel => exact ⟨_, (by omega : k3 + 1 ≤ 4), by go_num, below_drewN hbt d9⟩
                case measure => simp [intOf]; omega
            · have b7 := b4.trans (b6.mono (by omega))
              have b8 := b7.trans (hbi.mono (by omega))
              go_wp2_with fail
              go_roundw
              case rel => exact ⟨k2 + 1, by omega, by go_num, hbw.trans (b8.mono (by omega))⟩
              case measure => simp [intOf]; omega
        · go_wp2_with fail
          refine (wakes18 _).mono ?_
          rintro e w9 ⟨rfl, hb9⟩
          go_wp2
          go_ret
          exact ⟨rfl, bw.trans (hb9.mono bw.size)⟩
end Go.Proofs.Ytnamnoaedfbhpaa
