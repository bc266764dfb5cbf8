/- Law28c -/
import Derived.Deep.DeepCutAuto
import Derived.BigGuardPart
import Derived.Test.YtlfmfhdgnmchgaaGreatBRoomTells14
import Derived.Test.YtlfmfhdgnmchgaaGreatBRoomTells15
import Derived.Test.YtlfmfhdgnmchgaaGreatBRoomTells28
import Derived.Test.YtlfmfhdgnmchgaaGreatBRoomTells47
import Derived.Test.YtlfmfhdgnmchgaaGreatBRoomTells49
import Derived.Test.YtlfmfhdgnmchgaaGreatBRoomTells50
import Derived.Test.YtlfmfhdgnmchgaaGreatBRoomTells51
import Derived.Test.YtlfmfhdgnmchgaaGreatBRoomTells52
set_option maxRecDepth 20000
set_option linter.unusedSimpArgs false
set_option linter.unusedVariables false
namespace Go.Proofs.YtlfmfhdgnmchgaaGreat
open Go.RowKit Wells
theorem HS.ex_ {w0 w : World} {F G : Nat → Prop} {g pg gr qg : Nat} {d r : Dr} {m : Nat} (h : HS w0 w F G g pg gr qg d r m) : ∃ F G, HS w0 w F G g pg gr qg d r m := ⟨_, _, h⟩
theorem make_ok {mk : Nat} {d : Dr} {m : Mani} {n : Int} (h : DOk mk d) : DOk (mk + 1) (makeD m d n).1 := by
  unfold makeD
  split
  · exact h.up
  split
  · split
    · exact h.up
    · exact h.rewrite2 (keepL_64 m d.L)
  · exact h.up
theorem fits_nil (m : Mani) (dv ov : Value) (n : Int) (w : World) : Calls Tryz.prog 11 #[.pointer none, m.val dv ov, .int .i64 n] w fun e w' => e = .returned (.bool false) ∧ Below w.heap.size w w' := by
  have hb : Below w.heap.size w (w.alloc (.cells #[.int .i64 m.seq, .int .i64 m.next, .int .i64 m.P.K, .int .i64 m.P.H, .int .i64 m.P.S, .int .i64 m.extra, dv, ov] 27)) := (Below.refl _ _).alloc (Nat.le_refl _) _
  have HB := hid hb
  clear hb
  unfold Mani.val
  go_enter Tryz.func11, Tryz.ntmps11
  go_wp2_with fail
  go_ret
  exact ⟨rfl, HB.out⟩
theorem make_nil (m : Mani) (dv ov : Value) (n : Int) (w : World) : Calls Tryz.prog 12 #[.pointer none, m.val dv ov, .int .i64 n] w fun e w' => e = .returned (.int .i64 5) ∧ Below w.heap.size w w' := by
  have hb : Below w.heap.size w (w.alloc (.cells #[.int .i64 m.seq, .int .i64 m.next, .int .i64 m.P.K, .int .i64 m.P.H, .int .i64 m.P.S, .int .i64 m.extra, dv, ov] 27)) := (Below.refl _ _).alloc (Nat.le_refl _) _
  have HB := hid hb
  clear hb
  unfold Mani.val
  go_enter Tryz.func12, Tryz.ntmps12
  go_wp2_with fail
  go_ret
  exact ⟨rfl, HB.out⟩
/-- a manifest among others, in a row of them -/
def InRow28 (w : World) (gs k : Nat) : Prop :=
  ∃ (mk : Mani) (Ak : Option Addr) (nk ck : Nat) (Aok : Option Addr) (nok cok : Nat) (tsk : List Value), RM w w.heap.size mk Ak nk ck Aok nok cok tsk ∧ nok ≤ 9223372036854775807 ∧ M64 mk ∧ (∀ e ∈ mk.objs, e.name.length ≤ 1048576) ∧
  w.cell? ⟨gs, k * 8, none⟩ = some (.int .i64 mk.seq) ∧ w.cell? ⟨gs, k * 8 + 1, none⟩ = some (.int .i64 mk.next) ∧ w.cell? ⟨gs, k * 8 + 2, none⟩ = some (.int .i64 mk.P.K) ∧ w.cell? ⟨gs, k * 8 + 3, none⟩ = some (.int .i64 mk.P.H) ∧ w.cell? ⟨gs, k * 8 + 4, none⟩ = some (.int .i64 mk.P.S) ∧ w.cell? ⟨gs, k * 8 + 5, none⟩ = some (.int .i64 mk.extra) ∧ w.cell? ⟨gs, k * 8 + 6, none⟩ = some (.slice Ak nk ck) ∧ w.cell? ⟨gs, k * 8 + 7, none⟩ = some (.slice Aok nok cok)
set_option maxRecDepth 20000 in
set_option maxHeartbeats 8000000 in
theorem walk_RoomTells (A : Option Addr) (n c : Nat) (l : List Int) (A2 : Option Addr) (n2 c2 : Nat) (l2 : List Int) (xn xx xf : Int) (wm : Mani) (Ad0 : Option Addr) (nd0 cd0 : Nat) (Ao0 : Option Addr) (no0 co0 : Nat) (ts0 : List Value) (lost : Bool) (w : World) (h : IsInts w A n c l) (h2 : IsInts w A2 n2 c2 l2) (hn : -9223372036854775808 ≤ xn ∧ xn ≤ 9223372036854775807) (hx : -9223372036854775808 ≤ xx ∧ xx ≤ 9223372036854775807) (hf : -9223372036854775808 ≤ xf ∧ xf ≤ 9223372036854775807) (hm : IsMani w wm Ad0 nd0 cd0 Ao0 no0 co0 ts0) :
    Calls Tryz.prog 4 #[.slice A n c, .slice A2 n2 c2, .int .i64 xn, .int .i64 xx, .int .i64 xf, wm.val (.slice Ad0 nd0 cd0) (.slice Ao0 no0 co0), .bool lost] w fun e w' => e = .returned (.bool true) ∧ Below w.heap.size w w' := by
  obtain ⟨hs, hle, hcap, hwf⟩ := h
  obtain ⟨hs2, hle2, hcap2, hwf2⟩ := h2
  have HS0 := hid hs
  have HS2 := hid hs2
  obtain ⟨z12, hz12, hz12b⟩ : ∃ z : Nat, xx % 12 = (z : Int) ∧ z ≤ 11 := ⟨(xx % 12).toNat, by omega, by omega⟩
  obtain ⟨k30, hk30, hk30b⟩ : ∃ z : Int, xn % 30 = z ∧ 0 ≤ z ∧ z ≤ 29 := ⟨_, rfl, by omega, by omega⟩
  obtain ⟨zf, hzf0, hzf⟩ : ∃ z : Int, xf % 3 = z ∧ 0 ≤ z ∧ z ≤ 2 := ⟨_, rfl, by omega, by omega⟩
  obtain ⟨kb, hkb, hkbb⟩ : ∃ z : Int, k30 - 2 = z ∧ -2 ≤ z ∧ z ≤ 27 := ⟨_, rfl, by omega, by omega⟩
  have ekb : IntKind.i64.wrap (k30 - 2) = kb := by rw [IntKind.wrap_i64]; omega
  have HZ12 := hid hz12
  have HK30 := hid hk30
  have HZF := hid hzf0
  have hb1 : Below w.heap.size w (w.alloc (.cells #[.int .i64 wm.seq, .int .i64 wm.next, .int .i64 wm.P.K, .int .i64 wm.P.H, .int .i64 wm.P.S, .int .i64 wm.extra, (.slice Ad0 nd0 cd0), (.slice Ao0 no0 co0)] 27)) := (Below.refl _ _).alloc (Nat.le_refl _) _
  have hx1 := Row.new w 27 #[.int .i64 wm.seq, .int .i64 wm.next, .int .i64 wm.P.K, .int .i64 wm.P.H, .int .i64 wm.P.S, .int .i64 wm.extra, .slice Ad0 nd0 cd0, .slice Ao0 no0 co0]
  have HRM1 := hid ((hm.r.below hb1).mono hb1.size)
  have HM64 := hid hm.m64
  have hno0 := hm.r.oc
  have HB1 := hid hb1
  have HX1 := hid hx1
  clear hz12 hk30 hzf0 hkb hs hs2 hb1 hx1 hm
  unfold Mani.val
  go_enter Tryz.func4, Tryz.ntmps4
  go_upto_region 1 with fail
  generalize w.alloc (.cells #[.int .i64 wm.seq, .int .i64 wm.next, .int .i64 wm.P.K, .int .i64 wm.P.H, .int .i64 wm.P.S, .int .i64 wm.extra, (.slice Ad0 nd0 cd0), (.slice Ao0 no0 co0)] 27) = w1 at *
  obtain ⟨gm, hgm⟩ : ∃ g, w.heap.size = g := ⟨_, rfl⟩
  have HGM := hid hgm
  rw [hgm] at HX1 ⊢
  clear hgm
  have hr := HX1.out
  have x0 := hr.cell 0
  have x1 := hr.cell 1
  have x2 := hr.cell 2
  have x3 := hr.cell 3
  have x4 := hr.cell 4
  have x5 := hr.cell 5
  have x6 := hr.cell 6
  have x7 := hr.cell 7
  simp only [List.getElem?_cons_succ, List.getElem?_cons_zero] at x0 x1 x2 x3 x4 x5 x6 x7
  clear hr
  go_wp2_with fail
  refine (light_any wm _ Ad0 Ao0 nd0 cd0 no0 co0 ts0 w1 HRM1.out (Nat.le_refl _)).mono ?_
  rintro e w2 ⟨lb, rfl, hlight, hb2⟩
  have HB2 := hid (HB1.out.trans (hb2.mono HB1.out.size))
  have HRM2 := hid ((HRM1.out.below hb2).mono hb2.size)
  have HX2 := hid (HX1.out.below hb2 HX1.out.lt)
  clear hb2 x0 x1 x2 x3 x4 x5 x6 x7 HX1 HRM1 HB1
  cases lb with
  | false =>
    clear hlight
    go_wp2_with fail
    refine (wakes28 _).mono ?_
    rintro e w9 ⟨rfl, hb9⟩
    have hbe := HB2.out.trans (hb9.mono HB2.out.size)
    go_wp2_with fail
    go_ret
    exact ⟨rfl, hbe⟩
  | true =>
    have hlm := hlight rfl
    have HNM0 := hid (show ∀ e ∈ wm.objs, e.name.length ≤ 1048576 from fun e he => Nat.le_trans (hlm.nm e he) (by omega))
    clear hlight hlm
    go_wp2_with fail
    refine (mani_any w.heap.size A n c l w2 (HS0.out.below HB2.out) HB2.out.size (by omega) hwf).mono ?_
    rintro e w2' ⟨m, Ad, nd, cd, Ao, no, co, ts, rfl, hom, hpm, hb3⟩
    have HPM := hid hpm
    have HM64Y := hid hpm.m64.1
    have HNMY := hid hpm.m64.2
    have hno5 := hpm.olen
    have hnoY : m.objs.length = no := hom.read.o.len
    have hb4 : Below w2'.heap.size w2' (w2'.alloc (.cells #[.int .i64 m.seq, .int .i64 m.next, .int .i64 m.P.K, .int .i64 m.P.H, .int .i64 m.P.S, .int .i64 m.extra, (.slice Ad nd cd), (.slice Ao no co)] 27)) := (Below.refl _ _).alloc (Nat.le_refl _) _
    have hy3 := Row.new w2' 27 #[.int .i64 m.seq, .int .i64 m.next, .int .i64 m.P.K, .int .i64 m.P.H, .int .i64 m.P.S, .int .i64 m.extra, .slice Ad nd cd, .slice Ao no co]
    have hb5 := hb3.trans (hb4.mono hb3.size)
    have HRY := hid ((hom.read.below hb4).mono hb4.size)
    have HRM3 := hid ((HRM2.out.below hb5).mono hb5.size)
    have HX3 := hid (HX2.out.below hb5 HX2.out.lt)
    have HY3 := hid hy3
    have HB3 := hid (HB2.out.trans (hb5.mono HB2.out.size))
    clear hom hpm hb3 hb4 hb5 hy3 HRM2 HX2 HB2
    unfold Mani.val
    go_upto_region 4 with fail
    generalize w2'.alloc (.cells #[.int .i64 m.seq, .int .i64 m.next, .int .i64 m.P.K, .int .i64 m.P.H, .int .i64 m.P.S, .int .i64 m.extra, (.slice Ad nd cd), (.slice Ao no co)] 27) = w3 at *
    obtain ⟨gy, hgy⟩ : ∃ g, w2'.heap.size = g := ⟨_, rfl⟩
    rw [hgy] at HY3 ⊢
    clear hgy
    have hr := HY3.out
    have x0 := hr.cell 0
    have x1 := hr.cell 1
    have x2 := hr.cell 2
    have x3 := hr.cell 3
    have x4 := hr.cell 4
    have x5 := hr.cell 5
    have x6 := hr.cell 6
    have x7 := hr.cell 7
    simp only [List.getElem?_cons_succ, List.getElem?_cons_zero] at x0 x1 x2 x3 x4 x5 x6 x7
    clear hr
    go_wp2_with fail
    refine (playcells_any m w3.heap.size Ad Ao nd cd no co ts A2 n2 c2 24 l2 w3 HRY.out (Nat.le_refl _) HPM.out ((HS2.out.below HB3.out).mono HB3.out.size) (by omega) hwf2 (by omega)).mono ?_
    rintro e w4 ⟨A3, c3, vs3, ls, n3, rfl, hln, hn24, hl64, ho3, hb4⟩
    have HLN := hid hln
    have HL64 := hid hl64
    have HO4 := hid (ho3.read hln)
    have HB4 := hid (HB3.out.trans (hb4.mono HB3.out.size))
    have HX4 := hid (HX3.out.below hb4 HX3.out.lt)
    have HY4 := hid (HY3.out.below hb4 HY3.out.lt)
    have HRY4 := hid ((HRY.out.below hb4).mono hb4.size)
    have HRM4 := hid ((HRM3.out.below hb4).mono hb4.size)
    clear hln hl64 ho3 hb4 x0 x1 x2 x3 x4 x5 x6 x7 HX3 HY3 HRY HRM3 HB3
    have hr := HX4.out
    have x0 := hr.cell 0
    have x1 := hr.cell 1
    have x2 := hr.cell 2
    have x3 := hr.cell 3
    have x4 := hr.cell 4
    have x5 := hr.cell 5
    have x6 := hr.cell 6
    have x7 := hr.cell 7
    simp only [List.getElem?_cons_succ, List.getElem?_cons_zero] at x0 x1 x2 x3 x4 x5 x6 x7
    clear hr
    have hr := HY4.out
    have y0 := hr.cell 0
    have y1 := hr.cell 1
    have y2 := hr.cell 2
    have y3 := hr.cell 3
    have y4 := hr.cell 4
    have y5 := hr.cell 5
    have y6 := hr.cell 6
    have y7 := hr.cell 7
    simp only [List.getElem?_cons_succ, List.getElem?_cons_zero] at y0 y1 y2 y3 y4 y5 y6 y7
    clear hr
    go_upto_region 6 with fail
    have hrow24 : Row (w4.alloc (.cells #[.int .i64 m.seq, .int .i64 m.next, .int .i64 m.P.K, .int .i64 m.P.H, .int .i64 m.P.S, .int .i64 m.extra, .slice Ad nd cd, .slice Ao no co, .int .i64 wm.seq, .int .i64 wm.next, .int .i64 wm.P.K, .int .i64 wm.P.H, .int .i64 wm.P.S, .int .i64 wm.extra, .slice Ad0 nd0 cd0, .slice Ao0 no0 co0] 27)) w4.heap.size 27 [.int .i64 m.seq, .int .i64 m.next, .int .i64 m.P.K, .int .i64 m.P.H, .int .i64 m.P.S, .int .i64 m.extra, .slice Ad nd cd, .slice Ao no co, .int .i64 wm.seq, .int .i64 wm.next, .int .i64 wm.P.K, .int .i64 wm.P.H, .int .i64 wm.P.S, .int .i64 wm.extra, .slice Ad0 nd0 cd0, .slice Ao0 no0 co0] := Row.new w4 27 #[.int .i64 m.seq, .int .i64 m.next, .int .i64 m.P.K, .int .i64 m.P.H, .int .i64 m.P.S, .int .i64 m.extra, .slice Ad nd cd, .slice Ao no co, .int .i64 wm.seq, .int .i64 wm.next, .int .i64 wm.P.K, .int .i64 wm.P.H, .int .i64 wm.P.S, .int .i64 wm.extra, .slice Ad0 nd0 cd0, .slice Ao0 no0 co0]
    have hb5 : Below w4.heap.size w4 (w4.alloc (.cells #[.int .i64 m.seq, .int .i64 m.next, .int .i64 m.P.K, .int .i64 m.P.H, .int .i64 m.P.S, .int .i64 m.extra, .slice Ad nd cd, .slice Ao no co, .int .i64 wm.seq, .int .i64 wm.next, .int .i64 wm.P.K, .int .i64 wm.P.H, .int .i64 wm.P.S, .int .i64 wm.extra, .slice Ad0 nd0 cd0, .slice Ao0 no0 co0] 27)) := (Below.refl _ _).alloc (Nat.le_refl _) _
    have hrow : ∀ k, k < 2 → InRow28 (w4.alloc (.cells #[.int .i64 m.seq, .int .i64 m.next, .int .i64 m.P.K, .int .i64 m.P.H, .int .i64 m.P.S, .int .i64 m.extra, .slice Ad nd cd, .slice Ao no co, .int .i64 wm.seq, .int .i64 wm.next, .int .i64 wm.P.K, .int .i64 wm.P.H, .int .i64 wm.P.S, .int .i64 wm.extra, .slice Ad0 nd0 cd0, .slice Ao0 no0 co0] 27)) w4.heap.size k := by
      intro k hk
      have hk2 : k = 0 ∨ k = 1 := by omega
      rcases hk2 with rfl | rfl
      · exact ⟨m, Ad, nd, cd, Ao, no, co, ts, (HRY4.out.below hb5).mono hb5.size, by omega, HM64Y.out, HNMY.out, hrow24.cell 0, hrow24.cell 1, hrow24.cell 2, hrow24.cell 3, hrow24.cell 4, hrow24.cell 5, hrow24.cell 6, hrow24.cell 7⟩
      · exact ⟨wm, Ad0, nd0, cd0, Ao0, no0, co0, ts0, (HRM4.out.below hb5).mono hb5.size, by omega, HM64.out, HNM0.out, hrow24.cell 8, hrow24.cell 9, hrow24.cell 10, hrow24.cell 11, hrow24.cell 12, hrow24.cell 13, hrow24.cell 14, hrow24.cell 15⟩
    have HROW := hid hrow
    have HY5 := hid (HY4.out.below hb5 HY4.out.lt)
    have HO5 := hid ((HO4.out.below hb5).mono hb5.size)
    have HB5 := hid (HB4.out.trans (hb5.mono HB4.out.size))
    clear hrow hrow24 hb5 HRY4 HRM4 HX4 HY4 HO4 HB4 x0 x1 x2 x3 x4 x5 x6 x7 y0 y1 y2 y3 y4 y5 y6 y7
    generalize (w4.alloc (.cells #[.int .i64 m.seq, .int .i64 m.next, .int .i64 m.P.K, .int .i64 m.P.H, .int .i64 m.P.S, .int .i64 m.extra, .slice Ad nd cd, .slice Ao no co, .int .i64 wm.seq, .int .i64 wm.next, .int .i64 wm.P.K, .int .i64 wm.P.H, .int .i64 wm.P.S, .int .i64 wm.extra, .slice Ad0 nd0 cd0, .slice Ao0 no0 co0] 27)) = w5 at *
    obtain ⟨gs, hgs⟩ : ∃ g, w4.heap.size = g := ⟨_, rfl⟩
    rw [hgs] at HROW ⊢
    clear hgs
    obtain ⟨N0, hN0⟩ : ∃ N0, 1 + n3 = N0 := ⟨_, rfl⟩
    obtain ⟨N, hN⟩ : ∃ N, N0 + z12 = N := ⟨_, rfl⟩
    have eN0 : 1 + (n3 : Int) = (N0 : Int) := by omega
    have eN : (N0 : Int) + (z12 : Int) = (N : Int) := by omega
    have hNb : N0 ≤ 25 ∧ N ≤ 36 ∧ n3 < N ∧ 1 ≤ N := by omega
    clear hN0 hN
    go_loopw [41] (fun i wr => ∃ k : Nat, k ≤ 2 ∧ i = .int .i64 (k : Int) ∧ Below w5.heap.size w5 wr) (fun i _ => 2 - (intOf i).toNat)
    case atStart => exact ⟨0, by omega, rfl, Below.refl _ _⟩
    case round =>
      obtain ⟨k, hk, rfl, hbw⟩ := hrel
      by_cases hlt : k < 2
      · have hk2 : (k : Int) < 2 := by omega
        obtain ⟨mq, Adq, ndq, cdq, Aoq, noq, coq, tsq, hrq, hnoq, hq64, hqnm, r0, r1, r2, r3, r4, r5, r6, r7⟩ := HROW.out k hlt
        have s0 := (hbw.cell (p := ⟨gs, k * 8, none⟩) (World.block_lt_of_cell? _ _ r0)).trans r0
        have s1 := (hbw.cell (p := ⟨gs, k * 8 + 1, none⟩) (World.block_lt_of_cell? _ _ r1)).trans r1
        have s2 := (hbw.cell (p := ⟨gs, k * 8 + 2, none⟩) (World.block_lt_of_cell? _ _ r2)).trans r2
        have s3 := (hbw.cell (p := ⟨gs, k * 8 + 3, none⟩) (World.block_lt_of_cell? _ _ r3)).trans r3
        have s4 := (hbw.cell (p := ⟨gs, k * 8 + 4, none⟩) (World.block_lt_of_cell? _ _ r4)).trans r4
        have s5 := (hbw.cell (p := ⟨gs, k * 8 + 5, none⟩) (World.block_lt_of_cell? _ _ r5)).trans r5
        have s6 := (hbw.cell (p := ⟨gs, k * 8 + 6, none⟩) (World.block_lt_of_cell? _ _ r6)).trans r6
        have s7 := (hbw.cell (p := ⟨gs, k * 8 + 7, none⟩) (World.block_lt_of_cell? _ _ r7)).trans r7
        have HBWQ := hid hbw
        have HRMQ0 := hid ((hrq.below hbw).mono hbw.size)
        clear hrq r0 r1 r2 r3 r4 r5 r6 r7 hbw
        have hxq := Row.new wr 27 #[.int .i64 mq.seq, .int .i64 mq.next, .int .i64 mq.P.K, .int .i64 mq.P.H, .int .i64 mq.P.S, .int .i64 mq.extra, .slice Adq ndq cdq, .slice Aoq noq coq]
        have hb6 : Below wr.heap.size wr (wr.alloc (.cells #[.int .i64 mq.seq, .int .i64 mq.next, .int .i64 mq.P.K, .int .i64 mq.P.H, .int .i64 mq.P.S, .int .i64 mq.extra, (.slice Adq ndq cdq), (.slice Aoq noq coq)] 27)) := (Below.refl _ _).alloc (Nat.le_refl _) _
        have HXQ0 := hid hxq
        have HRMQ1 := hid ((HRMQ0.out.below hb6).mono hb6.size)
        have HB6 := hid (HBWQ.out.trans (hb6.mono HBWQ.out.size))
        clear hxq hb6 HRMQ0 HBWQ
        go_upto_region 8 with fail
        generalize wr.alloc (.cells #[.int .i64 mq.seq, .int .i64 mq.next, .int .i64 mq.P.K, .int .i64 mq.P.H, .int .i64 mq.P.S, .int .i64 mq.extra, (.slice Adq ndq cdq), (.slice Aoq noq coq)] 27) = w6 at *
        obtain ⟨gq, hgq⟩ : ∃ g, wr.heap.size = g := ⟨_, rfl⟩
        rw [hgq] at HXQ0 ⊢
        clear hgq s0 s1 s2 s3 s4 s5 s6 s7
        go_wp2_with fail
        refine (within_any xn 30 _ hn.1 hn.2 (by omega) (by omega)).mono ?_
        rintro e w' ⟨rfl, rfl⟩
        rw [HK30.out]
        go_upto_region 9 with fail
        have hrk : Row (w6.alloc (.cells #[.int .i64 xn, .int .i64 kb] 3)) w6.heap.size 3 [.int .i64 xn, .int .i64 kb] := Row.new w6 3 #[.int .i64 xn, .int .i64 kb]
        have hb7 : Below w6.heap.size w6 (w6.alloc (.cells #[.int .i64 xn, .int .i64 kb] 3)) := (Below.refl _ _).alloc (Nat.le_refl _) _
        have HXQ := hid (HXQ0.out.below hb7 HXQ0.out.lt)
        have HRMQ := hid ((HRMQ1.out.below hb7).mono hb7.size)
        have HB7 := hid (HB6.out.trans (hb7.mono HB6.out.size))
        have hkvs : ∀ j, j < 2 → ∃ v, (w6.alloc (.cells #[.int .i64 xn, .int .i64 kb] 3)).cell? ⟨w6.heap.size, j, none⟩ = some (.int .i64 v) ∧ (-9223372036854775808 ≤ v ∧ v ≤ 9223372036854775807) := by
          intro j hj
          have hj2 : j = 0 ∨ j = 1 := by omega
          rcases hj2 with rfl | rfl
          · exact ⟨xn, hrk.cell 0, hn⟩
          · exact ⟨kb, hrk.cell 1, by omega⟩
        have HKV := hid hkvs
        clear hkvs hrk hb7 HXQ0 HRMQ1 HB6
        generalize (w6.alloc (.cells #[.int .i64 xn, .int .i64 kb] 3)) = wq at *
        obtain ⟨gk, hgk⟩ : ∃ g, w6.heap.size = g := ⟨_, rfl⟩
        rw [hgk] at HKV ⊢
        clear hgk
        go_loopw [51] (fun i wr => ∃ j : Nat, j ≤ 2 ∧ i = .int .i64 (j : Int) ∧ Below wq.heap.size wq wr) (fun i _ => 2 - (intOf i).toNat)
        case atStart => exact ⟨0, by omega, rfl, Below.refl _ _⟩
        case round =>
          obtain ⟨wi, hwi⟩ : ∃ x, x = wr := ⟨_, rfl⟩
          subst hwi
          obtain ⟨j, hj, rfl, hbw2⟩ := hrel
          have HBR := hid hbw2
          have HBRQ := HBR
          by_cases hjlt : j < 2
          · have hj2 : (j : Int) < 2 := by omega
            obtain ⟨kv, hkc, hkv⟩ := HKV.out j hjlt
            have hkc2 := (hbw2.cell (p := ⟨gk, j, none⟩) (World.block_lt_of_cell? _ _ hkc)).trans hkc
            clear hbw2 hkc
            go_wp2_with fail
            refine (pnew_any wi).mono ?_
            rintro e w7 ⟨pg, rfl, hpg, hp1, hb1⟩
            have hz1 := hb1.size
            have hpgl := hp1.lt
            have hq3 := Row.new w7 55 #[.bool false, .bool false, .int .i64 0, .int .i64 0]
            have hb3 : Below w7.heap.size w7 (w7.alloc (.cells #[.bool false, .bool false, .int .i64 0, .int .i64 0] 55)) := (Below.refl _ _).alloc (Nat.le_refl _) _
            have HP3 := hid (hp1.below hb3 hp1.lt)
            have HB3 := hid (hb1.trans (hb3.mono hz1))
            have HQ3 := hid hq3
            obtain ⟨qg, hqg⟩ : ∃ x, w7.heap.size = x := ⟨_, rfl⟩
            rw [hqg] at HQ3
            have HQG := hid hqg
            have hqw : wi.heap.size ≤ qg := by omega
            have hpq : pg < qg := by omega
            clear hb1 hb3 hq3 hp1 hqg
            go_upto_region 12 with fail
            try rw [HQG.out]
            generalize w7.alloc (.cells #[.bool false, .bool false, .int .i64 0, .int .i64 0] 55) = w8 at *
            go_wp2_with fail
            refine (within_any xx 12 _ hx.1 hx.2 (by omega) (by omega)).mono ?_
            rintro e w' ⟨rfl, rfl⟩
            rw [HZ12.out]
            go_wp2_with fail
            refine (dnew_any N pg Pw.new w8 hNb.2.2.2 (by omega) HP3.out).mono ?_
            rintro e w9 ⟨g, rfl, hg, hd9, hb9⟩
            have hz9 := hb9.size
            have HQ9 := hid (HQ3.out.below hb9 HQ3.out.lt)
            have hgl : g < w9.heap.size := hd9.ltp g (.inl rfl)
            have hqgl := HQ3.out.lt
            go_wp2_with fail
            refine (rnew_any N qg Pw.new w9 hNb.2.2.2 (by omega) HQ9.out).mono ?_
            rintro e w10 ⟨gr, rfl, hgr, hr10, hb10⟩
            have hz10 := hb10.size
            have hp8l := HP3.out.lt
            have hz83 := HB3.out.size
            have HH := hid (show HS wi w10 (fun k => k = g ∨ k = pg) (fun k => k = gr ∨ k = qg) g pg gr qg (fillD N [] 0) (fillD N [] 0) 0 from
              ⟨hd9.new_ hb10, hr10, fun k hf hg2 => by rcases hf with rfl | rfl <;> rcases hg2 with h1 | h1 <;> omega, fun k hf => by rcases hf with rfl | rfl <;> omega, fun k hf => by rcases hf with rfl | rfl <;> omega, (HB3.out.trans (hb9.mono hz83)).trans (hb10.mono (by omega)), fill_ok ⟨hNb.2.2.2, by omega⟩ (Nat.zero_le _) (Nat.zero_le _) (fun x hx => by cases hx), fill_ok ⟨hNb.2.2.2, by omega⟩ (Nat.zero_le _) (Nat.zero_le _) (fun x hx => by cases hx)⟩)
            clear hd9 hr10 hb9 hb10 HP3 HB3 HQ3 HQ9 HQG hz1 hz9 hz10 hpgl hgl hqgl hgr hpq hqw hg hpg hp8l hz83 hkc2
            go_upto_region 17 with fail
            go_loopw [74] (fun iv wr => ∃ (k : Nat) (F G : Nat → Prop), k ≤ n3 ∧ iv = .int .i64 (k : Int) ∧ HS wi wr F G g pg gr qg (fillD N (ls.take k) k) (fillD N (ls.take k) k) 0) (fun iv _ => n3 - (intOf iv).toNat)
            case atStart => exact ⟨0, _, _, Nat.zero_le _, rfl, HH.out⟩
            case round =>
              clear HH
              obtain ⟨q, F, G, hq, rfl, hh⟩ := hrel
              have HH := hid hh
              clear hh
              have hlk : (ls.take q).length = q := by rw [List.length_take, HLN.out]; omega
              by_cases hql : q < n3
              · have hql' : (q : Int) < (n3 : Int) := by omega
                obtain ⟨bb, o, A', c', e', hbb, hcell, hc1, hc2, hsl⟩ := ((HO5.out.below HB7.out).below (HBR.out.mono HB7.out.size)).below (HH.out.be.mono (Nat.le_trans HB7.out.size HBR.out.size)) |>.get hql
                obtain ⟨x, hx0⟩ : ∃ x, ls.getD q [] = x := ⟨_, rfl⟩
                rw [hx0] at hcell hsl hc1
                have hkl : q < ls.length := by rw [HLN.out]; exact hql
                have hx64 : x.length = 64 := by rw [← hx0, List.getD_eq_getElem?_getD, List.getElem?_eq_getElem hkl]; exact HL64.out _ (List.getElem_mem _)
                have htk : ls.take (q + 1) = ls.take q ++ [x] := by
                  rw [List.take_succ_eq_append_getElem hkl, ← hx0, List.getD_eq_getElem?_getD, List.getElem?_eq_getElem hkl]; rfl
                rw [hx64] at hcell hsl hc1
                subst e'
                have HSL := hid hsl
                have HTK := hid htk
                have happ := fill_app (room := N) (wt := q) hx64 (show (ls.take q).length < N by omega)
                rw [← htk] at happ
                have HAPP := hid happ
                have HOK := hid (fill_ok (wt := q + 1) ⟨hNb.2.2.2, by omega⟩ (show (ls.take (q + 1)).length ≤ N by rw [List.length_take, HLN.out]; omega) (by rw [List.length_take, HLN.out]; omega) (fun x hx => HL64.out x (List.mem_of_mem_take hx)))
                have hwle := Nat.le_trans (Nat.le_trans HB7.out.size HBR.out.size) HH.out.be.size
                clear hx0 hsl htk happ hx64 hkl
                go_wp2_with fail
                refine (dappend_any F g pg _ 0 w5.heap.size A' x 64 c' wr HH.out.d_ HH.out.okd (by omega) HSL.out hwle (by omega)).mono ?_
                rintro e w15 ⟨rfl, hd5, ho5⟩
                rw [HAPP.out] at hd5 ⊢
                have H5 := hid (HH.out.prog ho5 hd5 HOK.out (Nat.le_refl _))
                have hb15 := ho5.below HH.out.hF HH.out.be.size
                have HSL5 := hid (HSL.out.below (hb15.mono (Nat.le_trans HB7.out.size HBR.out.size)))
                have hwle2 := Nat.le_trans hwle hb15.size
                clear hd5 ho5 hb15
                dsimp only
                go_wp2_with fail
                refine (rappend_any G gr qg _ 0 A' x 64 c' w15 H5.out.r_ H5.out.okr (by omega) (fun w' ho => (HSL5.out.below ((ho.below H5.out.hG H5.out.be.size).mono (Nat.le_trans HB7.out.size HBR.out.size))).mono (Nat.le_trans hwle2 (ho.below H5.out.hG H5.out.be.size).size)) (by omega)).mono ?_
                rintro e w16 ⟨rfl, hd6, ho6⟩
                rw [HAPP.out] at hd6 ⊢
                have H6 := hid (H5.out.doc ho6 hd6 HOK.out (Nat.le_refl _))
                clear hd6 ho6
                dsimp only
                go_wp2_with fail
                go_roundw
                case rel => exact ⟨q + 1, _, _, by omega, by go_num, H6.out⟩
                case measure => simp [intOf]; omega
              · have hql' : ¬ (q : Int) < (n3 : Int) := by omega
                obtain rfl : q = n3 := by omega
                have htk : ls.take q = ls := List.take_of_length_le (by rw [HLN.out]; exact Nat.le_refl _)
                rw [htk] at HH
                clear htk hlk
                cases lost with
                | true =>
                  go_wp2_with fail
                  refine (dlose_any F g pg _ wr HH.out.d_).mono ?_
                  rintro e w11 ⟨rfl, hd11, ho11⟩
                  have H11 := hid (HH.out.prog ho11 hd11.up HH.out.okd.lose (Nat.le_refl 0))
                  clear hd11 ho11
                  go_wp2_with fail
                  refine (rlose_any G gr qg _ w11 H11.out.r_).mono ?_
                  rintro e w12 ⟨rfl, hr12, ho12⟩
                  have H12 := hid (H11.out.doc ho12 hr12.up HH.out.okr.lose (Nat.le_refl 0))
                  clear hr12 ho12 HH H11
                  go_wp2_with fail
                  refine (within_any xf 3 _ hf.1 hf.2 (by omega) (by omega)).mono ?_
                  rintro e w1 ⟨rfl, rfl⟩
                  rw [HZF.out]
                  go_wp2_with fail
                  refine (parm_any pg _ zf _ H12.out.d_.powp).mono ?_
                  rintro e w10 ⟨rfl, hp1, hg1⟩
                  obtain ⟨hd1, ho1⟩ := H12.out.d_.powerp hp1 hg1
                  have H1 := hid (H12.out.prog ho1 hd1.up (H12.out.okd.arm ⟨hzf.1, by omega⟩) (Nat.le_refl 0))
                  clear hp1 hg1 hd1 ho1
                  go_wp2_with fail
                  refine (within_any xf 3 _ hf.1 hf.2 (by omega) (by omega)).mono ?_
                  rintro e w2 ⟨rfl, rfl⟩
                  rw [HZF.out]
                  go_wp2_with fail
                  refine (rarm_any qg _ zf w10 H1.out.r_.pow_.1).mono ?_
                  rintro e w11 ⟨rfl, hp2, hg2⟩
                  rw [Pw.rarm_eq hzf.1] at hp2
                  obtain ⟨hr2, ho2⟩ := H1.out.r_.powerp hp2 hg2
                  have H2 := hid (H1.out.doc ho2 hr2.up (H12.out.okr.arm ⟨hzf.1, by omega⟩) (Nat.le_refl 0))
                  clear hp2 hg2 hr2 ho2
                  go_upto_region 27 with fail
                  obtain ⟨dd, hdd⟩ : ∃ dq, ({ (fillD N ls q).lose with s := ((fillD N ls q).lose).s.arm zf } : Dr) = dq := ⟨_, rfl⟩
                  rw [hdd] at H2
                  clear hdd
                  have HXS := H2.out.ex_
                  clear H1 H2
                  obtain ⟨F5, G5, h5⟩ := HXS
                  have h5' := h5.new_ (below_drewN (Below.refl _ _) 1)
                  have H5 := hid h5'
                  clear h5 h5'
                  obtain ⟨bf, hbf⟩ : ∃ b, fitsM mq dd kv = b := ⟨_, rfl⟩
                  have HBF := hid hbf
                  clear hbf
                  refine Org.begin [] (fun w' => Below wi.heap.size wi w') [0, 1, 2, 4, 5, 6, 3, 7, 8, 9, 10, 11, 12, 14, 15, 16, 13, 17, 18, 19, 20, 21, 22, 23, 24, 25] (by kernel_rfl) (H5.out.be) (fun hS => ?_)
                  (refine Org.yes (v := ?_) rfl (by kernel_rfl) (by kernel_rfl) (by kernel_rfl) (by kernel_rfl) (by kernel_rfl) (fun _ _ _ h => h) (by kernel_rfl) (SM.of hS) ?_ ?_; rotate_left; (focus (intro w hSw; (try dsimp only at hSw); refine Pure.val ?_; go_simp; (try with_reducible rfl); done)); try simp only [Act.put, List.setIfInBounds_toArray, List.set_cons_zero, List.set_cons_succ])
                  (refine Org.yes (v := ?_) rfl (by kernel_rfl) (by kernel_rfl) (by kernel_rfl) (by kernel_rfl) (by kernel_rfl) (fun _ _ _ h => h) (by kernel_rfl) (SM.of hS) ?_ ?_; rotate_left; (focus (intro w hSw; (try dsimp only at hSw); have hr := HXQ.out.below ((HBRQ.out).trans (hSw.mono HBRQ.out.size)) HXQ.out.lt; have x0 := hr.cell 0; have x1 := hr.cell 1; have x2 := hr.cell 2; have x3 := hr.cell 3; have x4 := hr.cell 4; have x5 := hr.cell 5; have x6 := hr.cell 6; have x7 := hr.cell 7; simp only [List.getElem?_cons_succ, List.getElem?_cons_zero] at x0 x1 x2 x3 x4 x5 x6 x7; refine Pure.val ?_; go_simp; (try with_reducible rfl); done)); try simp only [Act.put, List.setIfInBounds_toArray, List.set_cons_zero, List.set_cons_succ])
                  (refine Org.yes (v := ?_) rfl (by kernel_rfl) (by kernel_rfl) (by kernel_rfl) (by kernel_rfl) (by kernel_rfl) (fun _ _ _ h => h) (by kernel_rfl) (SM.of hS) ?_ ?_; rotate_left; (focus (intro w hSw; (try dsimp only at hSw); refine Pure.val ?_; go_simp; (try with_reducible rfl); done)); try simp only [Act.put, List.setIfInBounds_toArray, List.set_cons_zero, List.set_cons_succ])
                  (refine Org.yes (v := ?_) rfl (by kernel_rfl) (by kernel_rfl) (by kernel_rfl) (by kernel_rfl) (by kernel_rfl) (fun _ _ _ h => h) (by kernel_rfl) (SM.of hS) ?_ ?_; rotate_left; (focus (intro w hSw; (try dsimp only at hSw); refine Pure.val ?_; go_simp; (try with_reducible rfl); done)); try simp only [Act.put, List.setIfInBounds_toArray, List.set_cons_zero, List.set_cons_succ])
                  (refine Org.yes (v := ?_) rfl (by kernel_rfl) (by kernel_rfl) (by kernel_rfl) (by kernel_rfl) (by kernel_rfl) (fun _ _ _ h => h) (by kernel_rfl) (SM.of hS) ?_ ?_; rotate_left; (focus (intro w hSw; (try dsimp only at hSw); have hr := HXQ.out.below ((HBRQ.out).trans (hSw.mono HBRQ.out.size)) HXQ.out.lt; have x0 := hr.cell 0; have x1 := hr.cell 1; have x2 := hr.cell 2; have x3 := hr.cell 3; have x4 := hr.cell 4; have x5 := hr.cell 5; have x6 := hr.cell 6; have x7 := hr.cell 7; simp only [List.getElem?_cons_succ, List.getElem?_cons_zero] at x0 x1 x2 x3 x4 x5 x6 x7; refine Pure.val ?_; go_simp; (try with_reducible rfl); done)); try simp only [Act.put, List.setIfInBounds_toArray, List.set_cons_zero, List.set_cons_succ])
                  (refine Org.yes (v := ?_) rfl (by kernel_rfl) (by kernel_rfl) (by kernel_rfl) (by kernel_rfl) (by kernel_rfl) (fun _ _ _ h => h) (by kernel_rfl) (SM.of hS) ?_ ?_; rotate_left; (focus (intro w hSw; (try dsimp only at hSw); refine Pure.val ?_; go_simp; (try with_reducible rfl); done)); try simp only [Act.put, List.setIfInBounds_toArray, List.set_cons_zero, List.set_cons_succ])
                  refine Org.go rfl (by kernel_rfl) (by kernel_rfl) (fun K hK => ?_)
                  go_simp
                  go_at_call 11
                  refine (fits_any F5 g pg dd 0 mq wq.heap.size Adq Aoq ndq cdq noq coq tsq kv bf _ H5.out.d_ H5.out.okd ((HRMQ.out.below HBRQ.out).below (hS.mono HBRQ.out.size)) (Nat.le_trans HBRQ.out.size hS.size) hnoq hq64 hqnm hkv HBF.out).mono ?_
                  rintro e wz ⟨rfl, hbz⟩
                  have H6 := hid (H5.out.new_ hbz)
                  clear hbz
                  go_wp2_with fail
                  refine hK.out _ _ H6.out.be (fun hS2 => ?_)
                  clear hK K hS
                  have hS := hS2
                  clear hS2
                  try simp only [Act.put, List.setIfInBounds_toArray, List.set_cons_zero, List.set_cons_succ]
                  refine Org.go rfl (by kernel_rfl) (by kernel_rfl) (fun K hK => ?_)
                  go_simp
                  go_at_call 30
                  refine (reffits_any G5 gr qg dd 0 mq wq.heap.size Adq Aoq ndq cdq noq coq tsq kv bf _ H6.out.r_ H6.out.okr ((HRMQ.out.below HBRQ.out).below (hS.mono HBRQ.out.size)) (Nat.le_trans HBRQ.out.size hS.size) hnoq hq64 hqnm hkv HBF.out).mono ?_
                  rintro e wy ⟨rfl, hby⟩
                  have H7 := hid (H6.out.new_ hby)
                  clear hby
                  go_wp2_with fail
                  refine hK.out _ _ H7.out.be (fun hS2 => ?_)
                  clear hK K hS
                  have hS := hS2
                  clear hS2
                  try simp only [Act.put, List.setIfInBounds_toArray, List.set_cons_zero, List.set_cons_succ]
                  (refine Org.yes (v := ?_) rfl (by kernel_rfl) (by kernel_rfl) (by kernel_rfl) (by kernel_rfl) (by kernel_rfl) (fun _ _ _ h => h) (by kernel_rfl) (SM.of hS) ?_ ?_; rotate_left; (focus (intro w hSw; (try dsimp only at hSw); refine Pure.val ?_; go_simp; (try with_reducible rfl); done)); try simp only [Act.put, List.setIfInBounds_toArray, List.set_cons_zero, List.set_cons_succ])
                  (refine Org.yes (v := ?_) rfl (by kernel_rfl) (by kernel_rfl) (by kernel_rfl) (by kernel_rfl) (by kernel_rfl) (fun _ _ _ h => h) (by kernel_rfl) (SM.of hS) ?_ ?_; rotate_left; (focus (intro w hSw; (try dsimp only at hSw); refine Pure.val ?_; go_simp; (try with_reducible rfl); done)); try simp only [Act.put, List.setIfInBounds_toArray, List.set_cons_zero, List.set_cons_succ])
                  (refine Org.yes (v := ?_) rfl (by kernel_rfl) (by kernel_rfl) (by kernel_rfl) (by kernel_rfl) (by kernel_rfl) (fun _ _ _ h => h) (by kernel_rfl) (SM.of hS) ?_ ?_; rotate_left; (focus (intro w hSw; (try dsimp only at hSw); refine Pure.val ?_; go_simp; (try with_reducible rfl); done)); try simp only [Act.put, List.setIfInBounds_toArray, List.set_cons_zero, List.set_cons_succ])
                  (refine Org.yes (v := ?_) rfl (by kernel_rfl) (by kernel_rfl) (by kernel_rfl) (by kernel_rfl) (by kernel_rfl) (fun _ _ _ h => h) (by kernel_rfl) (SM.of hS) ?_ ?_; rotate_left; (focus (intro w hSw; (try dsimp only at hSw); have hr := HXQ.out.below ((HBRQ.out).trans (hSw.mono HBRQ.out.size)) HXQ.out.lt; have x0 := hr.cell 0; have x1 := hr.cell 1; have x2 := hr.cell 2; have x3 := hr.cell 3; have x4 := hr.cell 4; have x5 := hr.cell 5; have x6 := hr.cell 6; have x7 := hr.cell 7; simp only [List.getElem?_cons_succ, List.getElem?_cons_zero] at x0 x1 x2 x3 x4 x5 x6 x7; refine Pure.val ?_; go_simp; (try with_reducible rfl); done)); try simp only [Act.put, List.setIfInBounds_toArray, List.set_cons_zero, List.set_cons_succ])
                  (refine Org.yes (v := ?_) rfl (by kernel_rfl) (by kernel_rfl) (by kernel_rfl) (by kernel_rfl) (by kernel_rfl) (fun _ _ _ h => h) (by kernel_rfl) (SM.of hS) ?_ ?_; rotate_left; (focus (intro w hSw; (try dsimp only at hSw); refine Pure.val ?_; go_simp; (try with_reducible rfl); done)); try simp only [Act.put, List.setIfInBounds_toArray, List.set_cons_zero, List.set_cons_succ])
                  (refine Org.yes (v := ?_) rfl (by kernel_rfl) (by kernel_rfl) (by kernel_rfl) (by kernel_rfl) (by kernel_rfl) (fun _ _ _ h => h) (by kernel_rfl) (SM.of hS) ?_ ?_; rotate_left; (focus (intro w hSw; (try dsimp only at hSw); refine Pure.val ?_; go_simp; (try with_reducible rfl); done)); try simp only [Act.put, List.setIfInBounds_toArray, List.set_cons_zero, List.set_cons_succ])
                  (refine Org.yes (v := ?_) rfl (by kernel_rfl) (by kernel_rfl) (by kernel_rfl) (by kernel_rfl) (by kernel_rfl) (fun _ _ _ h => h) (by kernel_rfl) (SM.of hS) ?_ ?_; rotate_left; (focus (intro w hSw; (try dsimp only at hSw); have hr := HXQ.out.below ((HBRQ.out).trans (hSw.mono HBRQ.out.size)) HXQ.out.lt; have x0 := hr.cell 0; have x1 := hr.cell 1; have x2 := hr.cell 2; have x3 := hr.cell 3; have x4 := hr.cell 4; have x5 := hr.cell 5; have x6 := hr.cell 6; have x7 := hr.cell 7; simp only [List.getElem?_cons_succ, List.getElem?_cons_zero] at x0 x1 x2 x3 x4 x5 x6 x7; refine Pure.val ?_; go_simp; (try with_reducible rfl); done)); try simp only [Act.put, List.setIfInBounds_toArray, List.set_cons_zero, List.set_cons_succ])
                  (refine Org.yes (v := ?_) rfl (by kernel_rfl) (by kernel_rfl) (by kernel_rfl) (by kernel_rfl) (by kernel_rfl) (fun _ _ _ h => h) (by kernel_rfl) (SM.of hS) ?_ ?_; rotate_left; (focus (intro w hSw; (try dsimp only at hSw); refine Pure.val ?_; go_simp; (try with_reducible rfl); done)); try simp only [Act.put, List.setIfInBounds_toArray, List.set_cons_zero, List.set_cons_succ])
                  refine Org.go rfl (by kernel_rfl) (by kernel_rfl) (fun K hK => ?_)
                  go_simp
                  go_at_call 12
                  refine (make_any F5 g pg dd 0 mq wq.heap.size Adq Aoq ndq cdq noq coq tsq kv _ H7.out.d_ H7.out.okd (by omega) ((HRMQ.out.below HBRQ.out).below (hS.mono HBRQ.out.size)) (Nat.le_trans HBRQ.out.size hS.size) hnoq hq64 hqnm hkv).mono ?_
                  rintro e wx ⟨rfl, hdx, hox⟩
                  have H8 := hid (H7.out.prog hox hdx (make_ok H7.out.okd) (Nat.zero_le 1))
                  clear hdx hox
                  obtain ⟨dm, hdm⟩ : ∃ q, (makeD mq dd kv).1 = q := ⟨_, rfl⟩
                  obtain ⟨er, her⟩ : ∃ q, (makeD mq dd kv).2 = q := ⟨_, rfl⟩
                  rw [hdm] at H8
                  rw [her]
                  have HDM := hid hdm
                  have HER := hid her
                  clear hdm her
                  obtain ⟨F8, hF8⟩ : ∃ q, Ext F5 wy wx = q := ⟨_, rfl⟩
                  rw [hF8] at H8
                  clear hF8
                  go_wp2_with fail
                  refine hK.out _ _ H8.out.be (fun hS2 => ?_)
                  clear hK K hS
                  have hS := hS2
                  clear hS2
                  try simp only [Act.put, List.setIfInBounds_toArray, List.set_cons_zero, List.set_cons_succ]
                  refine Org.go rfl (by kernel_rfl) (by kernel_rfl) (fun K hK => ?_)
                  go_simp
                  go_at_call 31
                  refine (refmake_any G5 gr qg dd 1 mq wq.heap.size Adq Aoq ndq cdq noq coq tsq kv _ H8.out.r_ H8.out.okr ((HRMQ.out.below HBRQ.out).below (hS.mono HBRQ.out.size)) (Nat.le_trans HBRQ.out.size hS.size) hnoq hq64 hqnm (by omega) hkv).mono ?_
                  rintro e wv ⟨rfl, hdv, hov⟩
                  have H9 := hid (H8.out.doc hov hdv (make_ok H8.out.okr) (Nat.le_succ 1))
                  clear hdv hov
                  rw [HDM.out] at H9
                  rw [HER.out]
                  obtain ⟨G9, hG9⟩ : ∃ q, Ext G5 wx wv = q := ⟨_, rfl⟩
                  rw [hG9] at H9
                  clear hG9
                  have H9 := hid (show HS wi wv F8 G9 g pg gr qg dm dm 2 from ⟨H9.out.d_, H9.out.r_, H9.out.dj, H9.out.hF, H9.out.hG, H9.out.be, H9.out.okd, H9.out.okr⟩)
                  go_wp2_with fail
                  refine hK.out _ _ H9.out.be (fun hS2 => ?_)
                  clear hK K hS
                  have hS := hS2
                  clear hS2
                  try simp only [Act.put, List.setIfInBounds_toArray, List.set_cons_zero, List.set_cons_succ]
                  (refine Org.yes (v := ?_) rfl (by kernel_rfl) (by kernel_rfl) (by kernel_rfl) (by kernel_rfl) (by kernel_rfl) (fun _ _ _ h => h) (by kernel_rfl) (SM.of hS) ?_ ?_; rotate_left; (focus (intro w hSw; (try dsimp only at hSw); refine Pure.val ?_; go_simp; (try with_reducible rfl); done)); try simp only [Act.put, List.setIfInBounds_toArray, List.set_cons_zero, List.set_cons_succ])
                  (refine Org.yes (v := ?_) rfl (by kernel_rfl) (by kernel_rfl) (by kernel_rfl) (by kernel_rfl) (by kernel_rfl) (fun _ _ _ h => h) (by kernel_rfl) (SM.of hS) ?_ ?_; rotate_left; (focus (intro w hSw; (try dsimp only at hSw); refine Pure.val ?_; go_simp; (try with_reducible rfl); done)); try simp only [Act.put, List.setIfInBounds_toArray, List.set_cons_zero, List.set_cons_succ])
                  (refine Org.yes (v := ?_) rfl (by kernel_rfl) (by kernel_rfl) (by kernel_rfl) (by kernel_rfl) (by kernel_rfl) (fun _ _ _ h => h) (by kernel_rfl) (SM.of hS) ?_ ?_; rotate_left; (focus (intro w hSw; (try dsimp only at hSw); refine Pure.val ?_; go_simp; (try with_reducible rfl); done)); try simp only [Act.put, List.setIfInBounds_toArray, List.set_cons_zero, List.set_cons_succ])
                  (refine Org.yes (v := ?_) rfl (by kernel_rfl) (by kernel_rfl) (by kernel_rfl) (by kernel_rfl) (by kernel_rfl) (fun _ _ _ h => h) (by kernel_rfl) (SM.of hS) ?_ ?_; rotate_left; (focus (intro w hSw; (try dsimp only at hSw); refine Pure.val ?_; go_simp; (try with_reducible rfl); done)); try simp only [Act.put, List.setIfInBounds_toArray, List.set_cons_zero, List.set_cons_succ])
                  (refine Org.yes (v := ?_) rfl (by kernel_rfl) (by kernel_rfl) (by kernel_rfl) (by kernel_rfl) (by kernel_rfl) (fun _ _ _ h => h) (by kernel_rfl) (SM.of hS) ?_ ?_; rotate_left; (focus (intro w hSw; (try dsimp only at hSw); refine Pure.val ?_; go_simp; (try with_reducible rfl); done)); try simp only [Act.put, List.setIfInBounds_toArray, List.set_cons_zero, List.set_cons_succ])
                  refine Org.go rfl (by kernel_rfl) (by kernel_rfl) (fun K hK => ?_)
                  go_simp
                  go_at_call 32
                  refine (same22_any wi F8 G9 g pg gr qg dm 2 _ H9.out).mono ?_
                  rintro e wu ⟨rfl, hbu⟩
                  have H10 := hid (H9.out.new_ hbu)
                  clear hbu
                  go_wp2_with fail
                  refine hK.out _ _ H10.out.be (fun hS2 => ?_)
                  clear hK K hS
                  have hS := hS2
                  clear hS2
                  try simp only [Act.put, List.setIfInBounds_toArray, List.set_cons_zero, List.set_cons_succ]
                  (refine Org.yes (v := ?_) rfl (by kernel_rfl) (by kernel_rfl) (by kernel_rfl) (by kernel_rfl) (by kernel_rfl) (fun _ _ _ h => h) (by kernel_rfl) (SM.of hS) ?_ ?_; rotate_left; (focus (intro w hSw; (try dsimp only at hSw); refine Pure.val ?_; go_simp; (try with_reducible rfl); done)); try simp only [Act.put, List.setIfInBounds_toArray, List.set_cons_zero, List.set_cons_succ])
                  (refine Org.yes (v := ?_) rfl (by kernel_rfl) (by kernel_rfl) (by kernel_rfl) (by kernel_rfl) (by kernel_rfl) (fun _ _ _ h => h) (by kernel_rfl) (SM.of hS) ?_ ?_; rotate_left; (focus (intro w hSw; (try dsimp only at hSw); refine Pure.val ?_; go_simp; (try with_reducible rfl); done)); try simp only [Act.put, List.setIfInBounds_toArray, List.set_cons_zero, List.set_cons_succ])
                  refine Org.done (by kernel_rfl) ?_
                  have HBE := hid (HBR.out.trans (hS.mono HBR.out.size))
                  clear hS
                  go_wp2_with fail
                  go_roundw
                  case rel => exact ⟨j + 1, by omega, by go_num, HBE.out⟩
                  case measure => simp [intOf]; omega
                | false =>
                  go_wp2_with fail
                  refine (within_any xf 3 _ hf.1 hf.2 (by omega) (by omega)).mono ?_
                  rintro e w1 ⟨rfl, rfl⟩
                  rw [HZF.out]
                  go_wp2_with fail
                  refine (parm_any pg _ zf _ HH.out.d_.powp).mono ?_
                  rintro e w10 ⟨rfl, hp1, hg1⟩
                  obtain ⟨hd1, ho1⟩ := HH.out.d_.powerp hp1 hg1
                  have H1 := hid (HH.out.prog ho1 hd1.up (HH.out.okd.arm ⟨hzf.1, by omega⟩) (Nat.le_refl 0))
                  clear hp1 hg1 hd1 ho1
                  go_wp2_with fail
                  refine (within_any xf 3 _ hf.1 hf.2 (by omega) (by omega)).mono ?_
                  rintro e w2 ⟨rfl, rfl⟩
                  rw [HZF.out]
                  go_wp2_with fail
                  refine (rarm_any qg _ zf w10 H1.out.r_.pow_.1).mono ?_
                  rintro e w11 ⟨rfl, hp2, hg2⟩
                  rw [Pw.rarm_eq hzf.1] at hp2
                  obtain ⟨hr2, ho2⟩ := H1.out.r_.powerp hp2 hg2
                  have H2 := hid (H1.out.doc ho2 hr2.up (HH.out.okr.arm ⟨hzf.1, by omega⟩) (Nat.le_refl 0))
                  clear hp2 hg2 hr2 ho2
                  go_upto_region 27 with fail
                  obtain ⟨dd, hdd⟩ : ∃ dq, ({ fillD N ls q with s := (fillD N ls q).s.arm zf } : Dr) = dq := ⟨_, rfl⟩
                  rw [hdd] at H2
                  clear hdd
                  have HXS := H2.out.ex_
                  clear H1 H2
                  obtain ⟨F5, G5, h5⟩ := HXS
                  have h5' := h5.new_ (below_drewN (Below.refl _ _) 1)
                  have H5 := hid h5'
                  clear h5 h5'
                  obtain ⟨bf, hbf⟩ : ∃ b, fitsM mq dd kv = b := ⟨_, rfl⟩
                  have HBF := hid hbf
                  clear hbf
                  refine Org.begin [] (fun w' => Below wi.heap.size wi w') [0, 1, 2, 4, 5, 6, 3, 7, 8, 9, 10, 11, 12, 14, 15, 16, 13, 17, 18, 19, 20, 21, 22, 23, 24, 25] (by kernel_rfl) (H5.out.be) (fun hS => ?_)
                  (refine Org.yes (v := ?_) rfl (by kernel_rfl) (by kernel_rfl) (by kernel_rfl) (by kernel_rfl) (by kernel_rfl) (fun _ _ _ h => h) (by kernel_rfl) (SM.of hS) ?_ ?_; rotate_left; (focus (intro w hSw; (try dsimp only at hSw); refine Pure.val ?_; go_simp; (try with_reducible rfl); done)); try simp only [Act.put, List.setIfInBounds_toArray, List.set_cons_zero, List.set_cons_succ])
                  (refine Org.yes (v := ?_) rfl (by kernel_rfl) (by kernel_rfl) (by kernel_rfl) (by kernel_rfl) (by kernel_rfl) (fun _ _ _ h => h) (by kernel_rfl) (SM.of hS) ?_ ?_; rotate_left; (focus (intro w hSw; (try dsimp only at hSw); have hr := HXQ.out.below ((HBRQ.out).trans (hSw.mono HBRQ.out.size)) HXQ.out.lt; have x0 := hr.cell 0; have x1 := hr.cell 1; have x2 := hr.cell 2; have x3 := hr.cell 3; have x4 := hr.cell 4; have x5 := hr.cell 5; have x6 := hr.cell 6; have x7 := hr.cell 7; simp only [List.getElem?_cons_succ, List.getElem?_cons_zero] at x0 x1 x2 x3 x4 x5 x6 x7; refine Pure.val ?_; go_simp; (try with_reducible rfl); done)); try simp only [Act.put, List.setIfInBounds_toArray, List.set_cons_zero, List.set_cons_succ])
                  (refine Org.yes (v := ?_) rfl (by kernel_rfl) (by kernel_rfl) (by kernel_rfl) (by kernel_rfl) (by kernel_rfl) (fun _ _ _ h => h) (by kernel_rfl) (SM.of hS) ?_ ?_; rotate_left; (focus (intro w hSw; (try dsimp only at hSw); refine Pure.val ?_; go_simp; (try with_reducible rfl); done)); try simp only [Act.put, List.setIfInBounds_toArray, List.set_cons_zero, List.set_cons_succ])
                  (refine Org.yes (v := ?_) rfl (by kernel_rfl) (by kernel_rfl) (by kernel_rfl) (by kernel_rfl) (by kernel_rfl) (fun _ _ _ h => h) (by kernel_rfl) (SM.of hS) ?_ ?_; rotate_left; (focus (intro w hSw; (try dsimp only at hSw); refine Pure.val ?_; go_simp; (try with_reducible rfl); done)); try simp only [Act.put, List.setIfInBounds_toArray, List.set_cons_zero, List.set_cons_succ])
                  (refine Org.yes (v := ?_) rfl (by kernel_rfl) (by kernel_rfl) (by kernel_rfl) (by kernel_rfl) (by kernel_rfl) (fun _ _ _ h => h) (by kernel_rfl) (SM.of hS) ?_ ?_; rotate_left; (focus (intro w hSw; (try dsimp only at hSw); have hr := HXQ.out.below ((HBRQ.out).trans (hSw.mono HBRQ.out.size)) HXQ.out.lt; have x0 := hr.cell 0; have x1 := hr.cell 1; have x2 := hr.cell 2; have x3 := hr.cell 3; have x4 := hr.cell 4; have x5 := hr.cell 5; have x6 := hr.cell 6; have x7 := hr.cell 7; simp only [List.getElem?_cons_succ, List.getElem?_cons_zero] at x0 x1 x2 x3 x4 x5 x6 x7; refine Pure.val ?_; go_simp; (try with_reducible rfl); done)); try simp only [Act.put, List.setIfInBounds_toArray, List.set_cons_zero, List.set_cons_succ])
                  (refine Org.yes (v := ?_) rfl (by kernel_rfl) (by kernel_rfl) (by kernel_rfl) (by kernel_rfl) (by kernel_rfl) (fun _ _ _ h => h) (by kernel_rfl) (SM.of hS) ?_ ?_; rotate_left; (focus (intro w hSw; (try dsimp only at hSw); refine Pure.val ?_; go_simp; (try with_reducible rfl); done)); try simp only [Act.put, List.setIfInBounds_toArray, List.set_cons_zero, List.set_cons_succ])
                  refine Org.go rfl (by kernel_rfl) (by kernel_rfl) (fun K hK => ?_)
                  go_simp
                  go_at_call 11
                  refine (fits_any F5 g pg dd 0 mq wq.heap.size Adq Aoq ndq cdq noq coq tsq kv bf _ H5.out.d_ H5.out.okd ((HRMQ.out.below HBRQ.out).below (hS.mono HBRQ.out.size)) (Nat.le_trans HBRQ.out.size hS.size) hnoq hq64 hqnm hkv HBF.out).mono ?_
                  rintro e wz ⟨rfl, hbz⟩
                  have H6 := hid (H5.out.new_ hbz)
                  clear hbz
                  go_wp2_with fail
                  refine hK.out _ _ H6.out.be (fun hS2 => ?_)
                  clear hK K hS
                  have hS := hS2
                  clear hS2
                  try simp only [Act.put, List.setIfInBounds_toArray, List.set_cons_zero, List.set_cons_succ]
                  refine Org.go rfl (by kernel_rfl) (by kernel_rfl) (fun K hK => ?_)
                  go_simp
                  go_at_call 30
                  refine (reffits_any G5 gr qg dd 0 mq wq.heap.size Adq Aoq ndq cdq noq coq tsq kv bf _ H6.out.r_ H6.out.okr ((HRMQ.out.below HBRQ.out).below (hS.mono HBRQ.out.size)) (Nat.le_trans HBRQ.out.size hS.size) hnoq hq64 hqnm hkv HBF.out).mono ?_
                  rintro e wy ⟨rfl, hby⟩
                  have H7 := hid (H6.out.new_ hby)
                  clear hby
                  go_wp2_with fail
                  refine hK.out _ _ H7.out.be (fun hS2 => ?_)
                  clear hK K hS
                  have hS := hS2
                  clear hS2
                  try simp only [Act.put, List.setIfInBounds_toArray, List.set_cons_zero, List.set_cons_succ]
                  (refine Org.yes (v := ?_) rfl (by kernel_rfl) (by kernel_rfl) (by kernel_rfl) (by kernel_rfl) (by kernel_rfl) (fun _ _ _ h => h) (by kernel_rfl) (SM.of hS) ?_ ?_; rotate_left; (focus (intro w hSw; (try dsimp only at hSw); refine Pure.val ?_; go_simp; (try with_reducible rfl); done)); try simp only [Act.put, List.setIfInBounds_toArray, List.set_cons_zero, List.set_cons_succ])
                  (refine Org.yes (v := ?_) rfl (by kernel_rfl) (by kernel_rfl) (by kernel_rfl) (by kernel_rfl) (by kernel_rfl) (fun _ _ _ h => h) (by kernel_rfl) (SM.of hS) ?_ ?_; rotate_left; (focus (intro w hSw; (try dsimp only at hSw); refine Pure.val ?_; go_simp; (try with_reducible rfl); done)); try simp only [Act.put, List.setIfInBounds_toArray, List.set_cons_zero, List.set_cons_succ])
                  (refine Org.yes (v := ?_) rfl (by kernel_rfl) (by kernel_rfl) (by kernel_rfl) (by kernel_rfl) (by kernel_rfl) (fun _ _ _ h => h) (by kernel_rfl) (SM.of hS) ?_ ?_; rotate_left; (focus (intro w hSw; (try dsimp only at hSw); refine Pure.val ?_; go_simp; (try with_reducible rfl); done)); try simp only [Act.put, List.setIfInBounds_toArray, List.set_cons_zero, List.set_cons_succ])
                  (refine Org.yes (v := ?_) rfl (by kernel_rfl) (by kernel_rfl) (by kernel_rfl) (by kernel_rfl) (by kernel_rfl) (fun _ _ _ h => h) (by kernel_rfl) (SM.of hS) ?_ ?_; rotate_left; (focus (intro w hSw; (try dsimp only at hSw); have hr := HXQ.out.below ((HBRQ.out).trans (hSw.mono HBRQ.out.size)) HXQ.out.lt; have x0 := hr.cell 0; have x1 := hr.cell 1; have x2 := hr.cell 2; have x3 := hr.cell 3; have x4 := hr.cell 4; have x5 := hr.cell 5; have x6 := hr.cell 6; have x7 := hr.cell 7; simp only [List.getElem?_cons_succ, List.getElem?_cons_zero] at x0 x1 x2 x3 x4 x5 x6 x7; refine Pure.val ?_; go_simp; (try with_reducible rfl); done)); try simp only [Act.put, List.setIfInBounds_toArray, List.set_cons_zero, List.set_cons_succ])
                  (refine Org.yes (v := ?_) rfl (by kernel_rfl) (by kernel_rfl) (by kernel_rfl) (by kernel_rfl) (by kernel_rfl) (fun _ _ _ h => h) (by kernel_rfl) (SM.of hS) ?_ ?_; rotate_left; (focus (intro w hSw; (try dsimp only at hSw); refine Pure.val ?_; go_simp; (try with_reducible rfl); done)); try simp only [Act.put, List.setIfInBounds_toArray, List.set_cons_zero, List.set_cons_succ])
                  (refine Org.yes (v := ?_) rfl (by kernel_rfl) (by kernel_rfl) (by kernel_rfl) (by kernel_rfl) (by kernel_rfl) (fun _ _ _ h => h) (by kernel_rfl) (SM.of hS) ?_ ?_; rotate_left; (focus (intro w hSw; (try dsimp only at hSw); refine Pure.val ?_; go_simp; (try with_reducible rfl); done)); try simp only [Act.put, List.setIfInBounds_toArray, List.set_cons_zero, List.set_cons_succ])
                  (refine Org.yes (v := ?_) rfl (by kernel_rfl) (by kernel_rfl) (by kernel_rfl) (by kernel_rfl) (by kernel_rfl) (fun _ _ _ h => h) (by kernel_rfl) (SM.of hS) ?_ ?_; rotate_left; (focus (intro w hSw; (try dsimp only at hSw); have hr := HXQ.out.below ((HBRQ.out).trans (hSw.mono HBRQ.out.size)) HXQ.out.lt; have x0 := hr.cell 0; have x1 := hr.cell 1; have x2 := hr.cell 2; have x3 := hr.cell 3; have x4 := hr.cell 4; have x5 := hr.cell 5; have x6 := hr.cell 6; have x7 := hr.cell 7; simp only [List.getElem?_cons_succ, List.getElem?_cons_zero] at x0 x1 x2 x3 x4 x5 x6 x7; refine Pure.val ?_; go_simp; (try with_reducible rfl); done)); try simp only [Act.put, List.setIfInBounds_toArray, List.set_cons_zero, List.set_cons_succ])
                  (refine Org.yes (v := ?_) rfl (by kernel_rfl) (by kernel_rfl) (by kernel_rfl) (by kernel_rfl) (by kernel_rfl) (fun _ _ _ h => h) (by kernel_rfl) (SM.of hS) ?_ ?_; rotate_left; (focus (intro w hSw; (try dsimp only at hSw); refine Pure.val ?_; go_simp; (try with_reducible rfl); done)); try simp only [Act.put, List.setIfInBounds_toArray, List.set_cons_zero, List.set_cons_succ])
                  refine Org.go rfl (by kernel_rfl) (by kernel_rfl) (fun K hK => ?_)
                  go_simp
                  go_at_call 12
                  refine (make_any F5 g pg dd 0 mq wq.heap.size Adq Aoq ndq cdq noq coq tsq kv _ H7.out.d_ H7.out.okd (by omega) ((HRMQ.out.below HBRQ.out).below (hS.mono HBRQ.out.size)) (Nat.le_trans HBRQ.out.size hS.size) hnoq hq64 hqnm hkv).mono ?_
                  rintro e wx ⟨rfl, hdx, hox⟩
                  have H8 := hid (H7.out.prog hox hdx (make_ok H7.out.okd) (Nat.zero_le 1))
                  clear hdx hox
                  obtain ⟨dm, hdm⟩ : ∃ q, (makeD mq dd kv).1 = q := ⟨_, rfl⟩
                  obtain ⟨er, her⟩ : ∃ q, (makeD mq dd kv).2 = q := ⟨_, rfl⟩
                  rw [hdm] at H8
                  rw [her]
                  have HDM := hid hdm
                  have HER := hid her
                  clear hdm her
                  obtain ⟨F8, hF8⟩ : ∃ q, Ext F5 wy wx = q := ⟨_, rfl⟩
                  rw [hF8] at H8
                  clear hF8
                  go_wp2_with fail
                  refine hK.out _ _ H8.out.be (fun hS2 => ?_)
                  clear hK K hS
                  have hS := hS2
                  clear hS2
                  try simp only [Act.put, List.setIfInBounds_toArray, List.set_cons_zero, List.set_cons_succ]
                  refine Org.go rfl (by kernel_rfl) (by kernel_rfl) (fun K hK => ?_)
                  go_simp
                  go_at_call 31
                  refine (refmake_any G5 gr qg dd 1 mq wq.heap.size Adq Aoq ndq cdq noq coq tsq kv _ H8.out.r_ H8.out.okr ((HRMQ.out.below HBRQ.out).below (hS.mono HBRQ.out.size)) (Nat.le_trans HBRQ.out.size hS.size) hnoq hq64 hqnm (by omega) hkv).mono ?_
                  rintro e wv ⟨rfl, hdv, hov⟩
                  have H9 := hid (H8.out.doc hov hdv (make_ok H8.out.okr) (Nat.le_succ 1))
                  clear hdv hov
                  rw [HDM.out] at H9
                  rw [HER.out]
                  obtain ⟨G9, hG9⟩ : ∃ q, Ext G5 wx wv = q := ⟨_, rfl⟩
                  rw [hG9] at H9
                  clear hG9
                  have H9 := hid (show HS wi wv F8 G9 g pg gr qg dm dm 2 from ⟨H9.out.d_, H9.out.r_, H9.out.dj, H9.out.hF, H9.out.hG, H9.out.be, H9.out.okd, H9.out.okr⟩)
                  go_wp2_with fail
                  refine hK.out _ _ H9.out.be (fun hS2 => ?_)
                  clear hK K hS
                  have hS := hS2
                  clear hS2
                  try simp only [Act.put, List.setIfInBounds_toArray, List.set_cons_zero, List.set_cons_succ]
                  (refine Org.yes (v := ?_) rfl (by kernel_rfl) (by kernel_rfl) (by kernel_rfl) (by kernel_rfl) (by kernel_rfl) (fun _ _ _ h => h) (by kernel_rfl) (SM.of hS) ?_ ?_; rotate_left; (focus (intro w hSw; (try dsimp only at hSw); refine Pure.val ?_; go_simp; (try with_reducible rfl); done)); try simp only [Act.put, List.setIfInBounds_toArray, List.set_cons_zero, List.set_cons_succ])
                  (refine Org.yes (v := ?_) rfl (by kernel_rfl) (by kernel_rfl) (by kernel_rfl) (by kernel_rfl) (by kernel_rfl) (fun _ _ _ h => h) (by kernel_rfl) (SM.of hS) ?_ ?_; rotate_left; (focus (intro w hSw; (try dsimp only at hSw); refine Pure.val ?_; go_simp; (try with_reducible rfl); done)); try simp only [Act.put, List.setIfInBounds_toArray, List.set_cons_zero, List.set_cons_succ])
                  (refine Org.yes (v := ?_) rfl (by kernel_rfl) (by kernel_rfl) (by kernel_rfl) (by kernel_rfl) (by kernel_rfl) (fun _ _ _ h => h) (by kernel_rfl) (SM.of hS) ?_ ?_; rotate_left; (focus (intro w hSw; (try dsimp only at hSw); refine Pure.val ?_; go_simp; (try with_reducible rfl); done)); try simp only [Act.put, List.setIfInBounds_toArray, List.set_cons_zero, List.set_cons_succ])
                  (refine Org.yes (v := ?_) rfl (by kernel_rfl) (by kernel_rfl) (by kernel_rfl) (by kernel_rfl) (by kernel_rfl) (fun _ _ _ h => h) (by kernel_rfl) (SM.of hS) ?_ ?_; rotate_left; (focus (intro w hSw; (try dsimp only at hSw); refine Pure.val ?_; go_simp; (try with_reducible rfl); done)); try simp only [Act.put, List.setIfInBounds_toArray, List.set_cons_zero, List.set_cons_succ])
                  (refine Org.yes (v := ?_) rfl (by kernel_rfl) (by kernel_rfl) (by kernel_rfl) (by kernel_rfl) (by kernel_rfl) (fun _ _ _ h => h) (by kernel_rfl) (SM.of hS) ?_ ?_; rotate_left; (focus (intro w hSw; (try dsimp only at hSw); refine Pure.val ?_; go_simp; (try with_reducible rfl); done)); try simp only [Act.put, List.setIfInBounds_toArray, List.set_cons_zero, List.set_cons_succ])
                  refine Org.go rfl (by kernel_rfl) (by kernel_rfl) (fun K hK => ?_)
                  go_simp
                  go_at_call 32
                  refine (same22_any wi F8 G9 g pg gr qg dm 2 _ H9.out).mono ?_
                  rintro e wu ⟨rfl, hbu⟩
                  have H10 := hid (H9.out.new_ hbu)
                  clear hbu
                  go_wp2_with fail
                  refine hK.out _ _ H10.out.be (fun hS2 => ?_)
                  clear hK K hS
                  have hS := hS2
                  clear hS2
                  try simp only [Act.put, List.setIfInBounds_toArray, List.set_cons_zero, List.set_cons_succ]
                  (refine Org.yes (v := ?_) rfl (by kernel_rfl) (by kernel_rfl) (by kernel_rfl) (by kernel_rfl) (by kernel_rfl) (fun _ _ _ h => h) (by kernel_rfl) (SM.of hS) ?_ ?_; rotate_left; (focus (intro w hSw; (try dsimp only at hSw); refine Pure.val ?_; go_simp; (try with_reducible rfl); done)); try simp only [Act.put, List.setIfInBounds_toArray, List.set_cons_zero, List.set_cons_succ])
                  (refine Org.yes (v := ?_) rfl (by kernel_rfl) (by kernel_rfl) (by kernel_rfl) (by kernel_rfl) (by kernel_rfl) (fun _ _ _ h => h) (by kernel_rfl) (SM.of hS) ?_ ?_; rotate_left; (focus (intro w hSw; (try dsimp only at hSw); refine Pure.val ?_; go_simp; (try with_reducible rfl); done)); try simp only [Act.put, List.setIfInBounds_toArray, List.set_cons_zero, List.set_cons_succ])
                  refine Org.done (by kernel_rfl) ?_
                  have HBE := hid (HBR.out.trans (hS.mono HBR.out.size))
                  clear hS
                  go_wp2_with fail
                  go_roundw
                  case rel => exact ⟨j + 1, by omega, by go_num, HBE.out⟩
                  case measure => simp [intOf]; omega
          · have hj2 : ¬ (j : Int) < 2 := by omega
            go_wp2_with fail
            go_roundw
            case rel => exact ⟨k + 1, by omega, by go_num, HB7.out.trans (HBR.out.mono HB7.out.size)⟩
            case measure => simp [intOf]; omega
      · have hk2 : ¬ (k : Int) < 2 := by omega
        have HBW := hid hbw
        have HY6 := hid (HY5.out.below hbw HY5.out.lt)
        clear hbw
        have hr := HY6.out
        have x0 := hr.cell 0
        have x1 := hr.cell 1
        have x2 := hr.cell 2
        have x3 := hr.cell 3
        have x4 := hr.cell 4
        have x5 := hr.cell 5
        have x6 := hr.cell 6
        have x7 := hr.cell 7
        simp only [List.getElem?_cons_succ, List.getElem?_cons_zero] at x0 x1 x2 x3 x4 x5 x6 x7
        clear hr
        go_wp2_with fail
        refine (fits_nil m _ _ xn wr).mono ?_
        rintro e wz ⟨rfl, hbz⟩
        have HBZ := hid (HBW.out.trans (hbz.mono HBW.out.size))
        have HYZ := hid (HY6.out.below hbz HY6.out.lt)
        clear hbz x0 x1 x2 x3 x4 x5 x6 x7
        have hr := HYZ.out
        have x0 := hr.cell 0
        have x1 := hr.cell 1
        have x2 := hr.cell 2
        have x3 := hr.cell 3
        have x4 := hr.cell 4
        have x5 := hr.cell 5
        have x6 := hr.cell 6
        have x7 := hr.cell 7
        simp only [List.getElem?_cons_succ, List.getElem?_cons_zero] at x0 x1 x2 x3 x4 x5 x6 x7
        clear hr
        go_wp2_with fail
        refine (make_nil m _ _ xn wz).mono ?_
        rintro e wy ⟨rfl, hby⟩
        have HBY := hid (HBZ.out.trans (hby.mono HBZ.out.size))
        clear hby x0 x1 x2 x3 x4 x5 x6 x7
        go_wp2_with fail
        refine (wakes28 _).mono ?_
        rintro e wx ⟨rfl, hbx⟩
        have HBX := hid (HB5.out.trans ((HBY.out.trans (hbx.mono HBY.out.size)).mono HB5.out.size))
        clear hbx
        go_wp2_with fail
        go_ret
        exact ⟨rfl, HBX.out⟩
end Go.Proofs.YtlfmfhdgnmchgaaGreat

