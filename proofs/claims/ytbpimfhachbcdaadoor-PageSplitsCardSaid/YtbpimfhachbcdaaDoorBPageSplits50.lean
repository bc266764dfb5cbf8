/- Law20c -/
import Derived.Deep.DeepCutAuto
import Derived.Deep.CutBlock
import Derived.Test.YtbpimfhachbcdaaDoorBPageSplits04
import Derived.Test.YtbpimfhachbcdaaDoorBPageSplits10
import Derived.Test.YtbpimfhachbcdaaDoorBPageSplits25
import Derived.Test.YtbpimfhachbcdaaDoorBPageSplits33
import Derived.Test.YtbpimfhachbcdaaDoorBPageSplits34
import Derived.Test.YtbpimfhachbcdaaDoorBPageSplits36
import Derived.Test.YtbpimfhachbcdaaDoorBPageSplits37
import Derived.Test.YtbpimfhachbcdaaDoorBPageSplits38
import Derived.Test.YtbpimfhachbcdaaDoorBPageSplits46
import Derived.Test.YtbpimfhachbcdaaDoorBPageSplits49
set_option maxRecDepth 20000
set_option linter.unusedSimpArgs false
set_option linter.unusedVariables false
namespace Go.Proofs.YtbpimfhachbcdaaDoor
open Go.RowKit Wells
/-- a manifest among others, in a row of them -/
def InRow (w : World) (gs k : Nat) : Prop :=
  ∃ (mk : Mani) (Ak : Option Addr) (nk ck : Nat) (Aok : Option Addr) (nok cok : Nat) (tsk : List Value), RM w w.heap.size mk Ak nk ck Aok nok cok tsk ∧ Lt 2000 mk ∧
  w.cell? ⟨gs, k * 8, none⟩ = some (.int .i64 mk.seq) ∧ w.cell? ⟨gs, k * 8 + 1, none⟩ = some (.int .i64 mk.next) ∧ w.cell? ⟨gs, k * 8 + 2, none⟩ = some (.int .i64 mk.P.K) ∧ w.cell? ⟨gs, k * 8 + 3, none⟩ = some (.int .i64 mk.P.H) ∧ w.cell? ⟨gs, k * 8 + 4, none⟩ = some (.int .i64 mk.P.S) ∧ w.cell? ⟨gs, k * 8 + 5, none⟩ = some (.int .i64 mk.extra) ∧ w.cell? ⟨gs, k * 8 + 6, none⟩ = some (.slice Ak nk ck) ∧ w.cell? ⟨gs, k * 8 + 7, none⟩ = some (.slice Aok nok cok)
set_option maxRecDepth 20000 in
set_option maxHeartbeats 8000000 in
theorem walk_PageSplits (m : Mani) (Ad : Option Addr) (nd cd : Nat) (Ao : Option Addr) (no co : Nat) (ts : List Value) (A : Option Addr) (n c : Nat) (l : List Int) (what vv : Int) (w : World) (hm : IsMani w m Ad nd cd Ao no co ts) (h : IsInts w A n c l) (ha : -9223372036854775808 ≤ what ∧ what ≤ 9223372036854775807) (hv : -9223372036854775808 ≤ vv ∧ vv ≤ 9223372036854775807) :
    Calls Tryd.prog 3 #[m.val (.slice Ad nd cd) (.slice Ao no co), .slice A n c, .int .i64 what, .int .i64 vv] w fun e w' => e = .returned (.bool true) ∧ Below w.heap.size w w' := by
  obtain ⟨hs, hle, hcap, hwf⟩ := h
  have hb1 : Below w.heap.size w (w.alloc (.cells #[.int .i64 m.seq, .int .i64 m.next, .int .i64 m.P.K, .int .i64 m.P.H, .int .i64 m.P.S, .int .i64 m.extra, (.slice Ad nd cd), (.slice Ao no co)] 27)) := (Below.refl _ _).alloc (Nat.le_refl _) _
  have hx1 := Row.new w 27 #[.int .i64 m.seq, .int .i64 m.next, .int .i64 m.P.K, .int .i64 m.P.H, .int .i64 m.P.S, .int .i64 m.extra, (.slice Ad nd cd), (.slice Ao no co)]
  have HRM1 := hid ((hm.r.below hb1).mono hb1.size)
  have HM64 := hid hm.m64
  have HB1 := hid hb1
  have HX1 := hid hx1
  have x0 := hx1.cell 0
  have x1 := hx1.cell 1
  have x2 := hx1.cell 2
  have x3 := hx1.cell 3
  have x4 := hx1.cell 4
  have x5 := hx1.cell 5
  have x6 := hx1.cell 6
  have x7 := hx1.cell 7
  simp only [List.getElem?_cons_succ, List.getElem?_cons_zero] at x0 x1 x2 x3 x4 x5 x6 x7
  have hs1 := hs.below hb1
  have HS1 := hid (hs1.mono hb1.size)
  clear hb1 hx1 hm hs hs1
  unfold Mani.val
  go_enter Tryd.func3, Tryd.ntmps3
  go_wp2_with fail
  generalize w.alloc (.cells #[.int .i64 m.seq, .int .i64 m.next, .int .i64 m.P.K, .int .i64 m.P.H, .int .i64 m.P.S, .int .i64 m.extra, (.slice Ad nd cd), (.slice Ao no co)] 27) = w1 at *
  refine (light_any m _ Ad Ao nd cd no co ts w1 HRM1.out (Nat.le_refl _)).mono ?_
  rintro e w2 ⟨lb, rfl, hlight, hb2⟩
  cases lb with
  | false =>
    have HB2 := hid (HB1.out.trans (hb2.mono HB1.out.size))
    clear hlight hb2
    go_wp2_with fail
    refine (wakes20 _).mono ?_
    rintro e w9 ⟨rfl, hb9⟩
    have hbe := HB2.out.trans (hb9.mono HB2.out.size)
    go_wp2_with fail
    go_ret
    exact ⟨rfl, hbe⟩
  | true =>
    have HLM := hid ((hlight rfl).lt HM64.out)
    clear hlight
    have HRM2 := hid ((HRM1.out.below hb2).mono hb2.size)
    have HX2 := hid (HX1.out.below hb2 HX1.out.lt)
    have HB2 := hid (HB1.out.trans (hb2.mono HB1.out.size))
    have HS2 := hid ((HS1.out.below hb2).mono hb2.size)
    clear hb2 x0 x1 x2 x3 x4 x5 x6 x7 HX1 HRM1 HS1 HB1
    obtain ⟨gm, hgm⟩ : ∃ g, w.heap.size = g := ⟨_, rfl⟩
    have HGM := hid hgm
    rw [hgm] at HX2 ⊢
    clear hgm
    go_wp2_with fail
    refine (mani_any w2.heap.size A n c l w2 HS2.out (Nat.le_refl _) (by omega) hwf).mono ?_
    rintro e w2' ⟨px, Ad1, nd1, cd1, Ao1, no1, co1, ts1, he, hom, hpl, hb3⟩
    unfold Mani.val at he
    subst he
    have HLX := hid hpl.lt
    have hb4 : Below w2'.heap.size w2' (w2'.alloc (.cells #[.int .i64 px.seq, .int .i64 px.next, .int .i64 px.P.K, .int .i64 px.P.H, .int .i64 px.P.S, .int .i64 px.extra, (.slice Ad1 nd1 cd1), (.slice Ao1 no1 co1)] 27)) := (Below.refl _ _).alloc (Nat.le_refl _) _
    have hy3 := Row.new w2' 27 #[.int .i64 px.seq, .int .i64 px.next, .int .i64 px.P.K, .int .i64 px.P.H, .int .i64 px.P.S, .int .i64 px.extra, (.slice Ad1 nd1 cd1), (.slice Ao1 no1 co1)]
    have hb5 := hb3.trans (hb4.mono hb3.size)
    have HRX := hid ((hom.read.below hb4).mono hb4.size)
    have HRM3 := hid ((HRM2.out.below hb5).mono hb5.size)
    have HX3 := hid (HX2.out.below hb5 HX2.out.lt)
    have HY3 := hid hy3
    have HB3 := hid (HB2.out.trans (hb5.mono HB2.out.size))
    clear hom hpl hb3 hb4 hb5 hy3 HRM2 HX2 HB2 HS2
    go_wp2_with fail
    generalize w2'.alloc (.cells #[.int .i64 px.seq, .int .i64 px.next, .int .i64 px.P.K, .int .i64 px.P.H, .int .i64 px.P.S, .int .i64 px.extra, (.slice Ad1 nd1 cd1), (.slice Ao1 no1 co1)] 27) = w3 at *
    obtain ⟨gx, hgx⟩ : ∃ g, w2'.heap.size = g := ⟨_, rfl⟩
    rw [hgx] at HY3 ⊢
    clear hgx
    have x0 := HX3.out.cell 0
    have x1 := HX3.out.cell 1
    have x2 := HX3.out.cell 2
    have x3 := HX3.out.cell 3
    have x4 := HX3.out.cell 4
    have x5 := HX3.out.cell 5
    have x6 := HX3.out.cell 6
    have x7 := HX3.out.cell 7
    simp only [List.getElem?_cons_succ, List.getElem?_cons_zero] at x0 x1 x2 x3 x4 x5 x6 x7
    have y0 := HY3.out.cell 0
    have y1 := HY3.out.cell 1
    have y2 := HY3.out.cell 2
    have y3 := HY3.out.cell 3
    have y4 := HY3.out.cell 4
    have y5 := HY3.out.cell 5
    have y6 := HY3.out.cell 6
    have y7 := HY3.out.cell 7
    simp only [List.getElem?_cons_succ, List.getElem?_cons_zero] at y0 y1 y2 y3 y4 y5 y6 y7
    refine Org.begin [] (fun w' => Below w3.heap.size w3 w') [0, 1, 2, 3, 4, 8, 5, 6, 7] (by kernel_rfl) (below_drew' (Below.refl _ _)) (fun hS => ?_)
    (refine Org.yes (v := ?_) rfl (by kernel_rfl) (by kernel_rfl) (by kernel_rfl) (by kernel_rfl) (by kernel_rfl) (fun _ _ _ h => h) (by kernel_rfl) (SM.of hS) ?_ ?_; rotate_left; (focus (intro w hSw; (try dsimp only at hSw); have qx0 := cell_keep hSw x0; have qx1 := cell_keep hSw x1; have qx2 := cell_keep hSw x2; have qx3 := cell_keep hSw x3; have qx4 := cell_keep hSw x4; have qx5 := cell_keep hSw x5; have qx6 := cell_keep hSw x6; have qx7 := cell_keep hSw x7; refine Pure.val ?_; go_simp; (try with_reducible rfl); done)); try simp only [Act.put, List.setIfInBounds_toArray, List.set_cons_zero, List.set_cons_succ])
    (refine Org.yes (v := ?_) rfl (by kernel_rfl) (by kernel_rfl) (by kernel_rfl) (by kernel_rfl) (by kernel_rfl) (fun _ _ _ h => h) (by kernel_rfl) (SM.of hS) ?_ ?_; rotate_left; (focus (intro w hSw; (try dsimp only at hSw); have qy0 := cell_keep hSw y0; have qy1 := cell_keep hSw y1; have qy2 := cell_keep hSw y2; have qy3 := cell_keep hSw y3; have qy4 := cell_keep hSw y4; have qy5 := cell_keep hSw y5; have qy6 := cell_keep hSw y6; have qy7 := cell_keep hSw y7; refine Pure.val ?_; go_simp; (try with_reducible rfl); done)); try simp only [Act.put, List.setIfInBounds_toArray, List.set_cons_zero, List.set_cons_succ])
    (refine Org.yes (v := ?_) rfl (by kernel_rfl) (by kernel_rfl) (by kernel_rfl) (by kernel_rfl) (by kernel_rfl) (fun _ _ _ h => h) (by kernel_rfl) (SM.of hS) ?_ ?_; rotate_left; (focus (intro w hSw; (try dsimp only at hSw); have qy0 := cell_keep hSw y0; have qy1 := cell_keep hSw y1; have qy2 := cell_keep hSw y2; have qy3 := cell_keep hSw y3; have qy4 := cell_keep hSw y4; have qy5 := cell_keep hSw y5; have qy6 := cell_keep hSw y6; have qy7 := cell_keep hSw y7; refine Pure.val ?_; go_simp; (try with_reducible rfl); done)); try simp only [Act.put, List.setIfInBounds_toArray, List.set_cons_zero, List.set_cons_succ])
    (refine Org.yes (v := ?_) rfl (by kernel_rfl) (by kernel_rfl) (by kernel_rfl) (by kernel_rfl) (by kernel_rfl) (fun _ _ _ h => h) (by kernel_rfl) (SM.of hS) ?_ ?_; rotate_left; (focus (intro w hSw; (try dsimp only at hSw); refine Pure.val ?_; go_simp; (try with_reducible rfl); done)); try simp only [Act.put, List.setIfInBounds_toArray, List.set_cons_zero, List.set_cons_succ])
    (refine Org.yes (v := ?_) rfl (by kernel_rfl) (by kernel_rfl) (by kernel_rfl) (by kernel_rfl) (by kernel_rfl) (fun _ _ _ h => h) (by kernel_rfl) (SM.of hS) ?_ ?_; rotate_left; (focus (intro w hSw; (try dsimp only at hSw); refine Pure.val ?_; go_simp; (try with_reducible rfl); done)); try simp only [Act.put, List.setIfInBounds_toArray, List.set_cons_zero, List.set_cons_succ])
    (refine Org.yes (v := ?_) rfl (by kernel_rfl) (by kernel_rfl) (by kernel_rfl) (by kernel_rfl) (by kernel_rfl) (fun _ _ _ h => h) (by kernel_rfl) (SM.of hS) ?_ ?_; rotate_left; (focus (intro w hSw; (try dsimp only at hSw); refine Pure.val ?_; go_simp; (try with_reducible rfl); done)); try simp only [Act.put, List.setIfInBounds_toArray, List.set_cons_zero, List.set_cons_succ])
    refine Org.go rfl (by kernel_rfl) (by kernel_rfl) (fun K hK => ?_)
    go_simp
    go_at_call 11
    refine (bent_any px _ Ad1 Ao1 nd1 cd1 no1 co1 ts1 what vv _ ((HRX.out.below hS).mono hS.size) (Nat.le_refl _) HLX.out ha hv).mono ?_
    rintro e V1 ⟨py, Ad2, nd2, cd2, Ao2, no2, co2, ts2, he, hom2, hlt2, hbk⟩
    unfold Mani.val at he
    subst he
    have hS3 := hS.trans (hbk.mono hS.size)
    have HRY := hid hom2.read
    have HLY := hid hlt2
    clear hom2 hlt2 hbk
    go_wp2_with fail
    refine hK.out _ _ hS3 (fun hS2 => ?_)
    clear hS3
    clear hK K hS
    have hS := hS2
    clear hS2
    try simp only [Act.put, List.setIfInBounds_toArray, List.set_cons_zero, List.set_cons_succ]
    refine Org.go rfl (by kernel_rfl) (by kernel_rfl) (fun K hK => ?_)
    go_simp
    have hbA : Below V1.heap.size V1 (V1.alloc (.cells #[.int .i64 m.seq, .int .i64 m.next, .int .i64 m.P.K, .int .i64 m.P.H, .int .i64 m.P.S, .int .i64 m.extra, .slice Ad nd cd, .slice Ao no co, .int .i64 px.seq, .int .i64 px.next, .int .i64 px.P.K, .int .i64 px.P.H, .int .i64 px.P.S, .int .i64 px.extra, .slice Ad1 nd1 cd1, .slice Ao1 no1 co1, .int .i64 py.seq, .int .i64 py.next, .int .i64 py.P.K, .int .i64 py.P.H, .int .i64 py.P.S, .int .i64 py.extra, .slice Ad2 nd2 cd2, .slice Ao2 no2 co2] 27)) := (Below.refl _ _).alloc (Nat.le_refl _) _
    have hS3 := hS.trans ((hbA).mono hS.size)
    have HR24 := hid (Row.new V1 27 #[.int .i64 m.seq, .int .i64 m.next, .int .i64 m.P.K, .int .i64 m.P.H, .int .i64 m.P.S, .int .i64 m.extra, .slice Ad nd cd, .slice Ao no co, .int .i64 px.seq, .int .i64 px.next, .int .i64 px.P.K, .int .i64 px.P.H, .int .i64 px.P.S, .int .i64 px.extra, .slice Ad1 nd1 cd1, .slice Ao1 no1 co1, .int .i64 py.seq, .int .i64 py.next, .int .i64 py.P.K, .int .i64 py.P.H, .int .i64 py.P.S, .int .i64 py.extra, .slice Ad2 nd2 cd2, .slice Ao2 no2 co2])
    have HBA := hid hbA
    clear hbA
    refine hK.out _ _ hS3 (fun hS2 => ?_)
    clear hS3
    clear hK K hS
    have hS := hS2
    clear hS2
    try simp only [Act.put, List.setIfInBounds_toArray, List.set_cons_zero, List.set_cons_succ]
    (refine Org.yes (v := ?_) rfl (by kernel_rfl) (by kernel_rfl) (by kernel_rfl) (by kernel_rfl) (by kernel_rfl) (fun _ _ _ h => h) (by kernel_rfl) (SM.of hS) ?_ ?_; rotate_left; (focus (intro w hSw; (try dsimp only at hSw); refine Pure.val ?_; go_simp; (try with_reducible rfl); done)); try simp only [Act.put, List.setIfInBounds_toArray, List.set_cons_zero, List.set_cons_succ])
    refine Org.done (by kernel_rfl) ?_
    have hb34 : Below w3.heap.size w3 (V1.alloc (.cells #[.int .i64 m.seq, .int .i64 m.next, .int .i64 m.P.K, .int .i64 m.P.H, .int .i64 m.P.S, .int .i64 m.extra, .slice Ad nd cd, .slice Ao no co, .int .i64 px.seq, .int .i64 px.next, .int .i64 px.P.K, .int .i64 px.P.H, .int .i64 px.P.S, .int .i64 px.extra, .slice Ad1 nd1 cd1, .slice Ao1 no1 co1, .int .i64 py.seq, .int .i64 py.next, .int .i64 py.P.K, .int .i64 py.P.H, .int .i64 py.P.S, .int .i64 py.extra, .slice Ad2 nd2 cd2, .slice Ao2 no2 co2] 27)) := hS
    clear hS
    have hrow : ∀ k, k < 3 → InRow (V1.alloc (.cells #[.int .i64 m.seq, .int .i64 m.next, .int .i64 m.P.K, .int .i64 m.P.H, .int .i64 m.P.S, .int .i64 m.extra, .slice Ad nd cd, .slice Ao no co, .int .i64 px.seq, .int .i64 px.next, .int .i64 px.P.K, .int .i64 px.P.H, .int .i64 px.P.S, .int .i64 px.extra, .slice Ad1 nd1 cd1, .slice Ao1 no1 co1, .int .i64 py.seq, .int .i64 py.next, .int .i64 py.P.K, .int .i64 py.P.H, .int .i64 py.P.S, .int .i64 py.extra, .slice Ad2 nd2 cd2, .slice Ao2 no2 co2] 27)) V1.heap.size k := by
      have hr24 : Row (V1.alloc (.cells #[.int .i64 m.seq, .int .i64 m.next, .int .i64 m.P.K, .int .i64 m.P.H, .int .i64 m.P.S, .int .i64 m.extra, .slice Ad nd cd, .slice Ao no co, .int .i64 px.seq, .int .i64 px.next, .int .i64 px.P.K, .int .i64 px.P.H, .int .i64 px.P.S, .int .i64 px.extra, .slice Ad1 nd1 cd1, .slice Ao1 no1 co1, .int .i64 py.seq, .int .i64 py.next, .int .i64 py.P.K, .int .i64 py.P.H, .int .i64 py.P.S, .int .i64 py.extra, .slice Ad2 nd2 cd2, .slice Ao2 no2 co2] 27)) V1.heap.size 27 [.int .i64 m.seq, .int .i64 m.next, .int .i64 m.P.K, .int .i64 m.P.H, .int .i64 m.P.S, .int .i64 m.extra, .slice Ad nd cd, .slice Ao no co, .int .i64 px.seq, .int .i64 px.next, .int .i64 px.P.K, .int .i64 px.P.H, .int .i64 px.P.S, .int .i64 px.extra, .slice Ad1 nd1 cd1, .slice Ao1 no1 co1, .int .i64 py.seq, .int .i64 py.next, .int .i64 py.P.K, .int .i64 py.P.H, .int .i64 py.P.S, .int .i64 py.extra, .slice Ad2 nd2 cd2, .slice Ao2 no2 co2] := HR24.out
      intro k hk
      have hk3 : k = 0 ∨ k = 1 ∨ k = 2 := by omega
      rcases hk3 with rfl | rfl | rfl
      · exact ⟨m, Ad, nd, cd, Ao, no, co, ts, (HRM3.out.below hb34).mono hb34.size, HLM.out, hr24.cell 0, hr24.cell 1, hr24.cell 2, hr24.cell 3, hr24.cell 4, hr24.cell 5, hr24.cell 6, hr24.cell 7⟩
      · exact ⟨px, Ad1, nd1, cd1, Ao1, no1, co1, ts1, (HRX.out.below hb34).mono hb34.size, HLX.out.more (by omega), hr24.cell 8, hr24.cell 9, hr24.cell 10, hr24.cell 11, hr24.cell 12, hr24.cell 13, hr24.cell 14, hr24.cell 15⟩
      · exact ⟨py, Ad2, nd2, cd2, Ao2, no2, co2, ts2, (HRY.out.below HBA.out).mono HBA.out.size, HLY.out, hr24.cell 16, hr24.cell 17, hr24.cell 18, hr24.cell 19, hr24.cell 20, hr24.cell 21, hr24.cell 22, hr24.cell 23⟩
    have HROW := hid hrow
    have HB4 := hid (HB3.out.trans (hb34.mono HB3.out.size))
    clear hrow hb34 HR24 HBA HRY HLY
    clear x0 x1 x2 x3 x4 x5 x6 x7 y0 y1 y2 y3 y4 y5 y6 y7
    generalize (V1.alloc (.cells #[.int .i64 m.seq, .int .i64 m.next, .int .i64 m.P.K, .int .i64 m.P.H, .int .i64 m.P.S, .int .i64 m.extra, .slice Ad nd cd, .slice Ao no co, .int .i64 px.seq, .int .i64 px.next, .int .i64 px.P.K, .int .i64 px.P.H, .int .i64 px.P.S, .int .i64 px.extra, .slice Ad1 nd1 cd1, .slice Ao1 no1 co1, .int .i64 py.seq, .int .i64 py.next, .int .i64 py.P.K, .int .i64 py.P.H, .int .i64 py.P.S, .int .i64 py.extra, .slice Ad2 nd2 cd2, .slice Ao2 no2 co2] 27)) = w4 at *
    obtain ⟨gs, hgs⟩ : ∃ g, V1.heap.size = g := ⟨_, rfl⟩
    rw [hgs] at HROW ⊢
    clear hgs
    go_wp2_with fail
    go_loopw [26] (fun i wr => ∃ k : Nat, k ≤ 3 ∧ i = .int .i64 (k : Int) ∧ Below w4.heap.size w4 wr) (fun i _ => 3 - (intOf i).toNat)
    case atStart => exact ⟨0, by omega, rfl, Below.refl _ _⟩
    case round =>
      obtain ⟨k, hk, rfl, hbw⟩ := hrel
      by_cases hlt : k < 3
      · have hk3 : (k : Int) < 3 := by omega
        obtain ⟨mk, Ak, nk, ck, Aok, nok, cok, tsk, hrk, hlk, r0, r1, r2, r3, r4, r5, r6, r7⟩ := HROW.out k hlt
        have s0 := cell_keep hbw r0
        have s1 := cell_keep hbw r1
        have s2 := cell_keep hbw r2
        have s3 := cell_keep hbw r3
        have s4 := cell_keep hbw r4
        have s5 := cell_keep hbw r5
        have s6 := cell_keep hbw r6
        have s7 := cell_keep hbw r7
        have HRK := hid ((hrk.below hbw).mono hbw.size)
        have HRK0 := hid hrk
        have HLK := hid hlk
        have HNK := hid (show ∀ e ∈ mk.objs, e.name.length ≤ 1048576 from fun e he => Nat.le_trans (hlk.nm e he) (by omega))
        have hnk : nk ≤ 2000 := by rw [← hrk.dl]; exact hlk.dl
        have hnok : nok ≤ 2000 := by rw [← hrk.o.len]; exact hlk.ol
        have HBW0 := hid hbw
        obtain ⟨qn, hqn⟩ : ∃ q, (pagesL mk.seq (pack mk)).length = q := ⟨_, rfl⟩
        have hq9 : qn ≤ 9 := by rw [← hqn]; exact pages_le mk
        have HQN := hid hqn
        clear hrk hlk r0 r1 r2 r3 r4 r5 r6 r7 hbw hqn
        have hx5 := Row.new wr 27 #[.int .i64 mk.seq, .int .i64 mk.next, .int .i64 mk.P.K, .int .i64 mk.P.H, .int .i64 mk.P.S, .int .i64 mk.extra, .slice Ak nk ck, .slice Aok nok cok]
        have hb5 : Below wr.heap.size wr (wr.alloc (.cells #[.int .i64 mk.seq, .int .i64 mk.next, .int .i64 mk.P.K, .int .i64 mk.P.H, .int .i64 mk.P.S, .int .i64 mk.extra, (.slice Ak nk ck), (.slice Aok nok cok)] 27)) := (Below.refl _ _).alloc (Nat.le_refl _) _
        have HR5 := hid ((HRK.out.below hb5).mono hb5.size)
        have HX5 := hid hx5
        have HB5 := hid (HBW0.out.trans (hb5.mono HBW0.out.size))
        have x0 := hx5.cell 0
        have x1 := hx5.cell 1
        have x2 := hx5.cell 2
        have x3 := hx5.cell 3
        have x4 := hx5.cell 4
        have x5 := hx5.cell 5
        have x6 := hx5.cell 6
        have x7 := hx5.cell 7
        simp only [List.getElem?_cons_succ, List.getElem?_cons_zero] at x0 x1 x2 x3 x4 x5 x6 x7
        clear hx5 hb5 HRK
        go_wp2_with fail
        clear s0 s1 s2 s3 s4 s5 s6 s7
        generalize wr.alloc (.cells #[.int .i64 mk.seq, .int .i64 mk.next, .int .i64 mk.P.K, .int .i64 mk.P.H, .int .i64 mk.P.S, .int .i64 mk.extra, (.slice Ak nk ck), (.slice Aok nok cok)] 27) = w5 at *
        obtain ⟨gn, hgn⟩ : ∃ g, wr.heap.size = g := ⟨_, rfl⟩
        have HGN := hid hgn
        rw [hgn] at HX5 x0 x1 x2 x3 x4 x5 x6 x7 ⊢
        clear hgn
        go_upto_region 7 with fail
        refine Org.begin [] (fun w' => Below w5.heap.size w5 w') [0, 2, 1, 3, 4, 5] (by kernel_rfl) (below_drew' (Below.refl _ _)) (fun hS => ?_)
        (refine Org.yes (v := ?_) rfl (by kernel_rfl) (by kernel_rfl) (by kernel_rfl) (by kernel_rfl) (by kernel_rfl) (fun _ _ _ h => h) (by kernel_rfl) (SM.of hS) ?_ ?_; rotate_left; (focus (intro w hSw; (try dsimp only at hSw); have qx0 := cell_keep hSw x0; have qx1 := cell_keep hSw x1; have qx2 := cell_keep hSw x2; have qx3 := cell_keep hSw x3; have qx4 := cell_keep hSw x4; have qx5 := cell_keep hSw x5; have qx6 := cell_keep hSw x6; have qx7 := cell_keep hSw x7; refine Pure.val ?_; go_simp; (try with_reducible rfl); done)); try simp only [Act.put, List.setIfInBounds_toArray, List.set_cons_zero, List.set_cons_succ])
        (refine Org.yes (v := ?_) rfl (by kernel_rfl) (by kernel_rfl) (by kernel_rfl) (by kernel_rfl) (by kernel_rfl) (fun _ _ _ h => h) (by kernel_rfl) (SM.of hS) ?_ ?_; rotate_left; (focus (intro w hSw; (try dsimp only at hSw); have qx0 := cell_keep hSw x0; have qx1 := cell_keep hSw x1; have qx2 := cell_keep hSw x2; have qx3 := cell_keep hSw x3; have qx4 := cell_keep hSw x4; have qx5 := cell_keep hSw x5; have qx6 := cell_keep hSw x6; have qx7 := cell_keep hSw x7; refine Pure.val ?_; go_simp; (try with_reducible rfl); done)); try simp only [Act.put, List.setIfInBounds_toArray, List.set_cons_zero, List.set_cons_succ])
        refine Org.go rfl (by kernel_rfl) (by kernel_rfl) (fun K hK => ?_)
        go_simp
        go_at_call 13
        refine (psplit_any mk _ Ak Aok nk ck nok cok tsk _ ((HR5.out.below hS).mono hS.size) (Nat.le_refl _) HLK.out.m64 HNK.out).mono ?_
        rintro e Ua ⟨APa, cPa, vPa, rfl, hop, hbk⟩
        rw [HQN.out] at hop ⊢
        have HQa := hid (hop.read HQN.out)
        have hS3 := hS.trans (hbk.mono hS.size)
        clear hop hbk
        go_wp2_with fail
        refine hK.out _ _ hS3 (fun hS2 => ?_)
        clear hS3
        clear hK K hS
        have hS := hS2
        clear hS2
        try simp only [Act.put, List.setIfInBounds_toArray, List.set_cons_zero, List.set_cons_succ]
        refine Org.go rfl (by kernel_rfl) (by kernel_rfl) (fun K hK => ?_)
        go_simp
        go_at_call 14
        refine (refsplit_any mk _ Ak Aok nk ck nok cok tsk _ ((HR5.out.below hS).mono hS.size) (Nat.le_refl _) HLK.out.m64 HNK.out).mono ?_
        rintro e Ub ⟨APb, cPb, vPb, rfl, hop, hbk⟩
        rw [HQN.out] at hop ⊢
        have HQb := hid (hop.read HQN.out)
        have hS3 := hS.trans (hbk.mono hS.size)
        have HQa := hid ((HQa.out.below hbk).mono hbk.size)
        clear hop hbk
        go_wp2_with fail
        refine hK.out _ _ hS3 (fun hS2 => ?_)
        clear hS3
        clear hK K hS
        have hS := hS2
        clear hS2
        try simp only [Act.put, List.setIfInBounds_toArray, List.set_cons_zero, List.set_cons_succ]
        refine Org.go rfl (by kernel_rfl) (by kernel_rfl) (fun K hK => ?_)
        go_simp
        go_at_call 12
        refine (rows_is true _ APa APb vPa vPb (pagesL mk.seq (pack mk)) (pagesL mk.seq (pack mk)) qn qn cPa cPb _ HQa.out HQb.out (by omega) (by omega) (decide_eq_true rfl)).mono ?_
        rintro e UU ⟨rfl, dd, rfl⟩
        have hS3 := below_drewN hS dd
        go_wp2_with fail
        refine hK.out _ _ hS3 (fun hS2 => ?_)
        clear hS3
        clear hK K hS
        have hS := hS2
        clear hS2
        try simp only [Act.put, List.setIfInBounds_toArray, List.set_cons_zero, List.set_cons_succ]
        (refine Org.yes (v := ?_) rfl (by kernel_rfl) (by kernel_rfl) (by kernel_rfl) (by kernel_rfl) (by kernel_rfl) (fun _ _ _ h => h) (by kernel_rfl) (SM.of hS) ?_ ?_; rotate_left; (focus (intro w hSw; (try dsimp only at hSw); refine Pure.val ?_; go_simp; (try with_reducible rfl); done)); try simp only [Act.put, List.setIfInBounds_toArray, List.set_cons_zero, List.set_cons_succ])
        refine Org.done (by kernel_rfl) ?_
        have hSE : Below w5.heap.size w5 _ := hS
        clear hS
        have hbe9 := HB5.out.trans (hSE.mono HB5.out.size)
        have HBE9 := hid hbe9
        clear hSE hbe9
        go_wp2_with fail
        go_roundw
        case rel => exact ⟨k + 1, by omega, by go_num, HBE9.out⟩
        case measure => simp [intOf]; omega
      · have hk3 : ¬ (k : Int) < 3 := by omega
        have HBW := hid hbw
        clear hbw
        go_wp2_with fail
        refine (wakes20 _).mono ?_
        rintro e w9 ⟨rfl, hb9⟩
        have hbe := HB4.out.trans ((HBW.out.trans (hb9.mono HBW.out.size)).mono HB4.out.size)
        go_wp2_with fail
        go_ret
        exact ⟨rfl, hbe⟩
end Go.Proofs.YtbpimfhachbcdaaDoor

