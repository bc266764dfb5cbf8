/- The document's Peel. -/
import Derived.Test.YtmefbbpcfphciaaDoorPeel
import Derived.Test.YtmefbbpcfphciaaDoorDocOpen
namespace Go.Proofs.YtmefbbpcfphciaaDoor
open Go.RowKit Wells
structure RK (base N : Nat) (w0 w : World) (gk gv : Nat) (rows : List Eqn) (vs : List Value) (S : PSt) : Prop where
  r : Wells.Reach N rows S
  kv : KV base N w gk gv vs S
  be : Below base w0 w
section
variable {base N : Nat} {w0 w w' : World} {gk gv : Nat} {rows : List Eqn} {vs : List Value} {S : PSt}
theorem RK.below (h : RK base N w0 w gk gv rows vs S) (hb : Below w.heap.size w w') (hs : base ≤ w.heap.size) : RK base N w0 w' gk gv rows vs S := ⟨h.r, h.kv.below hb, h.be.trans (hb.mono hs)⟩
theorem RK.app_ {v : Value} {m : Nat} {xs : List Value} (h : RK base N w0 w gk gv rows vs S) (ho : w.ownsRow base 27 2 v m xs) (hg : w.grownBy w' v.ownBlock) (hs : base ≤ w.heap.size) : RK base N w0 w' gk gv rows vs S := by
  have fa : ∀ {g : Nat} {t : TypeId} {cs : List Value}, Row w g t cs → 27 ≠ t → some g ≠ v.ownBlock := fun hr hne e => by
    rcases own_ne ho hr hne with e1 | e1
    · rw [e1] at e; cases e
    · exact e1 e.symm
  exact ⟨h.r, ⟨h.kv.k.grown hg (fa h.kv.k (by decide)), h.kv.v.grown hg (fa h.kv.v (by decide)), h.kv.kl, h.kv.vl, h.kv.sl, fun i hi => (h.kv.at_ i hi).keep hg (own_other (h.kv.at_ i hi) ho (by decide)), h.kv.gek, h.kv.gev⟩, h.be.grown hg hs (fun k hk => (ho.lt k hk).1)⟩
end
def okTo (m : Int) (rows : List Eqn) (k : Nat) : Prop := ∀ i, i < k → ColsOk m (rows.getD i default).cols ∧ (rows.getD i default).data.length = (rows.getD 0 default).data.length
set_option maxRecDepth 20000 in
set_option maxHeartbeats 1000000 in
theorem refpeel_any (m : Int) (B : Nat) (A : Option Addr) (n c : Nat) (ps : List (Value × Value)) (rows : List Eqn) (w : World) (h : REqs w B A n ps rows) (hB : B ≤ w.heap.size) (hn : n ≤ 1048576)
    (hm : -9223372036854775808 ≤ m ∧ m ≤ 9223372036854775807) (hz : ∀ q ∈ rows, ∀ x ∈ q.cols, -9223372036854775808 ≤ x ∧ x ≤ 9223372036854775807) (hnc : ∀ q ∈ rows, q.cols.length ≤ 1048576) (hnd : ∀ q ∈ rows, q.data.length ≤ 1048576) :
    Calls Tryd.prog 14 #[.int .i64 m, .slice A n c] w (PeelR w m rows) := by
  obtain ⟨ib, hib, hz0ib, hz1ib, hz2ib⟩ := info_parts infoBool
  obtain ⟨iw, hiw, hz0iw, hz1iw, hz2iw⟩ := info_parts infoBs
  obtain ⟨ie, hie, hz0ie, hz1ie, hz2ie⟩ := info_parts infoEq
  have H := hid h
  have HL := hid h.len
  have HNC := hid hnc
  have HND := hid hnd
  have HZ := hid hz
  obtain ⟨hm1, hm2⟩ := hm
  clear h hnc hnd hz
  by_cases hneg : m < 0
  · go_enter Tryd.func14, Tryd.ntmps14
    go_wp2_with fail
    exact bodyPost_ret (v := .tuple #[.slice none 0 0, .slice none 0 0, .slice none 0 0, .int .i64 1]) (by simp [results, Tryd.results14, go_sem]) rfl ⟨Below.refl _ _, .inl ⟨fun h9 => absurd h9.1 (by omega), rfl⟩⟩
  by_cases hbig : 64 < m
  · go_enter Tryd.func14, Tryd.ntmps14
    go_wp2_with fail
    exact bodyPost_ret (v := .tuple #[.slice none 0 0, .slice none 0 0, .slice none 0 0, .int .i64 1]) (by simp [results, Tryd.results14, go_sem]) rfl ⟨Below.refl _ _, .inl ⟨fun h9 => absurd h9.2.1 (by omega), rfl⟩⟩
  have h0 : 0 ≤ m := by omega
  have h64 : m ≤ 64 := by omega
  obtain ⟨N, rfl⟩ := Int.eq_ofNat_of_zero_le h0
  clear hneg hbig h0
  go_enter Tryd.func14, Tryd.ntmps14
  go_wp2_with fail
  go_loopw [29] (fun i wr => ∃ k : Nat, k ≤ n ∧ i = .int .i64 k ∧ Below w.heap.size w wr ∧ Hid (okTo (N : Int) rows k)) (fun i _ => n - (intOf i).toNat)
  case atStart => exact ⟨0, Nat.zero_le _, rfl, Below.refl _ _, hid (fun j hj => absurd hj (by omega))⟩
  case round =>
    obtain ⟨k, hk, rfl, hbr, HK⟩ := hrel
    have hzr := hbr.size
    by_cases hlt : k < n
    · have hre := H.out.below (hbr.mono hB)
      obtain ⟨bb, o, A1, c1, A2, c2, eA, hbb, e0, e1, h1, h2, h3, h4, h5, h6⟩ := hre.get hlt
      subst eA
      obtain ⟨bb', o', A1', c1', A2', c2', hbo, hbb', e0', e1', _, _, _, h4', h5', _⟩ := hre.get (show 0 < n by omega)
      injection hbo with hbo
      injection hbo with hbo1 hbo2
      subst hbo1 hbo2
      have hqm : rows.getD k default ∈ rows := by rw [List.getD_eq_getElem?_getD, List.getElem?_eq_getElem (by rw [HL.out]; exact hlt)]; exact List.getElem_mem _
      have hnq := HNC.out _ hqm
      obtain ⟨q, hq⟩ : ∃ q, rows.getD k default = q := ⟨_, rfl⟩
      rw [hq] at e0 e1 h1 h3 h4 h6 hqm hnq
      obtain ⟨q0, hq0⟩ : ∃ q0, rows.getD 0 default = q0 := ⟨_, rfl⟩
      rw [hq0] at e0' e1' h4'
      have HQ := hid hq
      have HQ0 := hid hq0
      have HQZ := hid (HZ.out q hqm)
      obtain ⟨nc, hnc⟩ : ∃ nc, q.cols.length = nc := ⟨_, rfl⟩
      obtain ⟨nd, hnd⟩ : ∃ nd, q.data.length = nd := ⟨_, rfl⟩
      obtain ⟨nd0, hnd0⟩ : ∃ nd0, q0.data.length = nd0 := ⟨_, rfl⟩
      rw [hnc] at e0 h1 h3 hnq
      rw [hnd] at e1 h4
      rw [hnd0] at e1' h4'
      have HND1 := hid hnd
      have HND0 := hid hnd0
      have hx := Row.new wr 27 #[.slice A1 nc c1, .slice A2 nd c2]
      have hbx : Below wr.heap.size wr (wr.alloc (.cells #[.slice A1 nc c1, .slice A2 nd c2] 27)) := (Below.refl _ _).alloc (Nat.le_refl _) _
      have x0 := hx.cell 0
      have x1 := hx.cell 1
      simp only [List.getElem?_cons_succ, List.getElem?_cons_zero] at x0 x1
      have H3 := hid (h3.below (hbx.mono (Nat.le_trans hB hzr)))
      have e1x := (hbx.cell (p := ⟨bb, o + 1, none⟩) (by show bb < wr.heap.size; omega)).trans (by simpa using e1')
      have HBX := hid (hbr.trans (hbx.mono hzr))
      have hg9 : wr.heap.size < (wr.alloc (.cells #[.slice A1 nc c1, .slice A2 nd c2] 27)).heap.size := by simp
      have hbbx : bb < (wr.alloc (.cells #[.slice A1 nc c1, .slice A2 nd c2] 27)).heap.size := by simp; omega
      have hBx : B ≤ (wr.alloc (.cells #[.slice A1 nc c1, .slice A2 nd c2] 27)).heap.size := by simp; omega
      clear hq hq0 hnc hnd hnd0 hre e0' e1' hx h3 h6 hqm hbr hbx
      go_wp2_with fail
      generalize wr.alloc (.cells #[.slice A1 nc c1, .slice A2 nd c2] 27) = wx at *
      generalize wr.heap.size = g9 at *
      have hn0 : 0 < n := by omega
      by_cases hok : ColsOk (N : Int) q.cols
      · have HOK := hid (iff_of_true (rfl : true = true) hok)
        by_cases hdd : nd = nd0
        · have hbt : ((nd : Int) != (nd0 : Int)) = false := by simp [hdd]
          subst hdd
          refine Org.begin [] (fun w' => Below wx.heap.size wx w') [0, 1, 2, 3, 4, 5, 6, 7, 8, 9, 10, 11, 12, 13, 14, 15] (by kernel_rfl) (below_drew' (Below.refl _ _)) (fun hS => ?_)
          (refine Org.yes (v := ?_) rfl (by kernel_rfl) (by kernel_rfl) (by kernel_rfl) (by kernel_rfl) (by kernel_rfl) (fun _ _ _ h => h) (by kernel_rfl) (SM.of hS) ?_ ?_; rotate_left; (focus (intro w hSw; (try dsimp only at hSw); refine Pure.val ?_; go_simp; (try with_reducible rfl); done)); try simp only [Act.put, List.setIfInBounds_toArray, List.set_cons_zero, List.set_cons_succ])
          (refine Org.yes (v := ?_) rfl (by kernel_rfl) (by kernel_rfl) (by kernel_rfl) (by kernel_rfl) (by kernel_rfl) (fun _ _ _ h => h) (by kernel_rfl) (SM.of hS) ?_ ?_; rotate_left; (focus (intro w hSw; (try dsimp only at hSw); refine Pure.val ?_; go_simp; (try with_reducible rfl); done)); try simp only [Act.put, List.setIfInBounds_toArray, List.set_cons_zero, List.set_cons_succ])
          (refine Org.yes (v := ?_) rfl (by kernel_rfl) (by kernel_rfl) (by kernel_rfl) (by kernel_rfl) (by kernel_rfl) (fun _ _ _ h => h) (by kernel_rfl) (SM.of hS) ?_ ?_; rotate_left; (focus (intro w hSw; (try dsimp only at hSw); have q0 := (hSw.cell (p := ⟨g9, 0, none⟩) hg9).trans x0; have q1 := (hSw.cell (p := ⟨g9, 1, none⟩) hg9).trans x1; have q2 := (hSw.cell (p := ⟨bb, o + 1, none⟩) hbbx).trans e1x; refine Pure.val ?_; go_simp; (try with_reducible rfl); done)); try simp only [Act.put, List.setIfInBounds_toArray, List.set_cons_zero, List.set_cons_succ])
          (refine Org.yes (v := ?_) rfl (by kernel_rfl) (by kernel_rfl) (by kernel_rfl) (by kernel_rfl) (by kernel_rfl) (fun _ _ _ h => h) (by kernel_rfl) (SM.of hS) ?_ ?_; rotate_left; (focus (intro w hSw; (try dsimp only at hSw); refine Pure.call 25 #[.int .i64 (N : Int), .slice A1 nc c1] (by go_simp; first | done | rfl) ?_; refine (mayrow_any true (N : Int) q.cols B A1 nc c1 w (H3.out.below (hSw.mono (by omega))) (Nat.le_trans (by omega) hSw.size) (by omega) h64 hnq HQZ.out HOK.out).mono ?_; rintro e w' ⟨rfl, rfl⟩; refine ⟨?_, rfl⟩; with_reducible rfl)); try simp only [Act.put, List.setIfInBounds_toArray, List.set_cons_zero, List.set_cons_succ])
          (refine Org.yes (v := ?_) rfl (by kernel_rfl) (by kernel_rfl) (by kernel_rfl) (by kernel_rfl) (by kernel_rfl) (fun _ _ _ h => h) (by kernel_rfl) (SM.of hS) ?_ ?_; rotate_left; (focus (intro w hSw; (try dsimp only at hSw); refine Pure.val ?_; go_simp; (try with_reducible rfl); done)); try simp only [Act.put, List.setIfInBounds_toArray, List.set_cons_zero, List.set_cons_succ])
          (refine Org.yes (v := ?_) rfl (by kernel_rfl) (by kernel_rfl) (by kernel_rfl) (by kernel_rfl) (by kernel_rfl) (fun _ _ _ h => h) (by kernel_rfl) (SM.of hS) ?_ ?_; rotate_left; (focus (intro w hSw; (try dsimp only at hSw); refine Pure.val ?_; go_simp; (try with_reducible rfl); done)); try simp only [Act.put, List.setIfInBounds_toArray, List.set_cons_zero, List.set_cons_succ])
          (refine Org.yes (v := ?_) rfl (by kernel_rfl) (by kernel_rfl) (by kernel_rfl) (by kernel_rfl) (by kernel_rfl) (fun _ _ _ h => h) (by kernel_rfl) (SM.of hS) ?_ ?_; rotate_left; (focus (intro w hSw; (try dsimp only at hSw); refine Pure.val ?_; go_simp; (try with_reducible rfl); done)); try simp only [Act.put, List.setIfInBounds_toArray, List.set_cons_zero, List.set_cons_succ])
          (refine Org.yes (v := ?_) rfl (by kernel_rfl) (by kernel_rfl) (by kernel_rfl) (by kernel_rfl) (by kernel_rfl) (fun _ _ _ h => h) (by kernel_rfl) (SM.of hS) ?_ ?_; rotate_left; (focus (intro w hSw; (try dsimp only at hSw); have q0 := (hSw.cell (p := ⟨g9, 0, none⟩) hg9).trans x0; have q1 := (hSw.cell (p := ⟨g9, 1, none⟩) hg9).trans x1; have q2 := (hSw.cell (p := ⟨bb, o + 1, none⟩) hbbx).trans e1x; refine Pure.val ?_; go_simp; (try with_reducible rfl); done)); try simp only [Act.put, List.setIfInBounds_toArray, List.set_cons_zero, List.set_cons_succ])
          (refine Org.yes (v := ?_) rfl (by kernel_rfl) (by kernel_rfl) (by kernel_rfl) (by kernel_rfl) (by kernel_rfl) (fun _ _ _ h => h) (by kernel_rfl) (SM.of hS) ?_ ?_; rotate_left; (focus (intro w hSw; (try dsimp only at hSw); refine Pure.val ?_; go_simp; (try with_reducible rfl); done)); try simp only [Act.put, List.setIfInBounds_toArray, List.set_cons_zero, List.set_cons_succ])
          (refine Org.yes (v := ?_) rfl (by kernel_rfl) (by kernel_rfl) (by kernel_rfl) (by kernel_rfl) (by kernel_rfl) (fun _ _ _ h => h) (by kernel_rfl) (SM.of hS) ?_ ?_; rotate_left; (focus (intro w hSw; (try dsimp only at hSw); refine Pure.val ?_; go_simp; (try with_reducible rfl); done)); try simp only [Act.put, List.setIfInBounds_toArray, List.set_cons_zero, List.set_cons_succ])
          (refine Org.yes (v := ?_) rfl (by kernel_rfl) (by kernel_rfl) (by kernel_rfl) (by kernel_rfl) (by kernel_rfl) (fun _ _ _ h => h) (by kernel_rfl) (SM.of hS) ?_ ?_; rotate_left; (focus (intro w hSw; (try dsimp only at hSw); refine Pure.val ?_; go_simp; (try with_reducible rfl); done)); try simp only [Act.put, List.setIfInBounds_toArray, List.set_cons_zero, List.set_cons_succ])
          (refine Org.yes (v := ?_) rfl (by kernel_rfl) (by kernel_rfl) (by kernel_rfl) (by kernel_rfl) (by kernel_rfl) (fun _ _ _ h => h) (by kernel_rfl) (SM.of hS) ?_ ?_; rotate_left; (focus (intro w hSw; (try dsimp only at hSw); refine Pure.val ?_; go_simp; (try with_reducible rfl); done)); try simp only [Act.put, List.setIfInBounds_toArray, List.set_cons_zero, List.set_cons_succ])
          (refine Org.yes (v := ?_) rfl (by kernel_rfl) (by kernel_rfl) (by kernel_rfl) (by kernel_rfl) (by kernel_rfl) (fun _ _ _ h => h) (by kernel_rfl) (SM.of hS) ?_ ?_; rotate_left; (focus (intro w hSw; (try dsimp only at hSw); have q0 := (hSw.cell (p := ⟨g9, 0, none⟩) hg9).trans x0; have q1 := (hSw.cell (p := ⟨g9, 1, none⟩) hg9).trans x1; have q2 := (hSw.cell (p := ⟨bb, o + 1, none⟩) hbbx).trans e1x; refine Pure.val ?_; go_simp; (try with_reducible rfl); done)); try simp only [Act.put, List.setIfInBounds_toArray, List.set_cons_zero, List.set_cons_succ])
          (refine Org.yes (v := ?_) rfl (by kernel_rfl) (by kernel_rfl) (by kernel_rfl) (by kernel_rfl) (by kernel_rfl) (fun _ _ _ h => h) (by kernel_rfl) (SM.of hS) ?_ ?_; rotate_left; (focus (intro w hSw; (try dsimp only at hSw); refine Pure.val ?_; go_simp; (try with_reducible rfl); done)); try simp only [Act.put, List.setIfInBounds_toArray, List.set_cons_zero, List.set_cons_succ])
          (refine Org.yes (v := ?_) rfl (by kernel_rfl) (by kernel_rfl) (by kernel_rfl) (by kernel_rfl) (by kernel_rfl) (fun _ _ _ h => h) (by kernel_rfl) (SM.of hS) ?_ ?_; rotate_left; (focus (intro w hSw; (try dsimp only at hSw); refine Pure.val ?_; go_simp; (try with_reducible rfl); done)); try simp only [Act.put, List.setIfInBounds_toArray, List.set_cons_zero, List.set_cons_succ])
          (refine Org.yes (v := ?_) rfl (by kernel_rfl) (by kernel_rfl) (by kernel_rfl) (by kernel_rfl) (by kernel_rfl) (fun _ _ _ h => h) (by kernel_rfl) (SM.of hS) ?_ ?_; rotate_left; (focus (intro w hSw; (try dsimp only at hSw); refine Pure.val ?_; go_simp; (try with_reducible rfl); done)); try simp only [Act.put, List.setIfInBounds_toArray, List.set_cons_zero, List.set_cons_succ])
          refine Org.done (by kernel_rfl) ?_
          go_wp2_with fail
          go_roundw
          case rel => exact ⟨k + 1, by omega, by go_num, below_drew' HBX.out, hid (fun i hi => by
              rcases Nat.lt_or_ge i k with h9 | h9
              · exact HK.out i h9
              · obtain rfl : i = k := by omega
                rw [HQ.out, HQ0.out]; exact ⟨hok, by rw [HND1.out, HND0.out]⟩)⟩
          case measure => simp [intOf]; omega
        · have hbt : ((nd : Int) != (nd0 : Int)) = true := by simp; omega
          refine Org.begin [] (fun w' => Below wx.heap.size wx w') [0, 1, 2, 3, 4, 5, 6, 7, 8, 9, 10, 11, 12, 13, 14, 15] (by kernel_rfl) (below_drew' (Below.refl _ _)) (fun hS => ?_)
          (refine Org.yes (v := ?_) rfl (by kernel_rfl) (by kernel_rfl) (by kernel_rfl) (by kernel_rfl) (by kernel_rfl) (fun _ _ _ h => h) (by kernel_rfl) (SM.of hS) ?_ ?_; rotate_left; (focus (intro w hSw; (try dsimp only at hSw); refine Pure.val ?_; go_simp; (try with_reducible rfl); done)); try simp only [Act.put, List.setIfInBounds_toArray, List.set_cons_zero, List.set_cons_succ])
          (refine Org.yes (v := ?_) rfl (by kernel_rfl) (by kernel_rfl) (by kernel_rfl) (by kernel_rfl) (by kernel_rfl) (fun _ _ _ h => h) (by kernel_rfl) (SM.of hS) ?_ ?_; rotate_left; (focus (intro w hSw; (try dsimp only at hSw); refine Pure.val ?_; go_simp; (try with_reducible rfl); done)); try simp only [Act.put, List.setIfInBounds_toArray, List.set_cons_zero, List.set_cons_succ])
          (refine Org.yes (v := ?_) rfl (by kernel_rfl) (by kernel_rfl) (by kernel_rfl) (by kernel_rfl) (by kernel_rfl) (fun _ _ _ h => h) (by kernel_rfl) (SM.of hS) ?_ ?_; rotate_left; (focus (intro w hSw; (try dsimp only at hSw); have q0 := (hSw.cell (p := ⟨g9, 0, none⟩) hg9).trans x0; have q1 := (hSw.cell (p := ⟨g9, 1, none⟩) hg9).trans x1; have q2 := (hSw.cell (p := ⟨bb, o + 1, none⟩) hbbx).trans e1x; refine Pure.val ?_; go_simp; (try with_reducible rfl); done)); try simp only [Act.put, List.setIfInBounds_toArray, List.set_cons_zero, List.set_cons_succ])
          (refine Org.yes (v := ?_) rfl (by kernel_rfl) (by kernel_rfl) (by kernel_rfl) (by kernel_rfl) (by kernel_rfl) (fun _ _ _ h => h) (by kernel_rfl) (SM.of hS) ?_ ?_; rotate_left; (focus (intro w hSw; (try dsimp only at hSw); refine Pure.call 25 #[.int .i64 (N : Int), .slice A1 nc c1] (by go_simp; first | done | rfl) ?_; refine (mayrow_any true (N : Int) q.cols B A1 nc c1 w (H3.out.below (hSw.mono (by omega))) (Nat.le_trans (by omega) hSw.size) (by omega) h64 hnq HQZ.out HOK.out).mono ?_; rintro e w' ⟨rfl, rfl⟩; refine ⟨?_, rfl⟩; with_reducible rfl)); try simp only [Act.put, List.setIfInBounds_toArray, List.set_cons_zero, List.set_cons_succ])
          (refine Org.yes (v := ?_) rfl (by kernel_rfl) (by kernel_rfl) (by kernel_rfl) (by kernel_rfl) (by kernel_rfl) (fun _ _ _ h => h) (by kernel_rfl) (SM.of hS) ?_ ?_; rotate_left; (focus (intro w hSw; (try dsimp only at hSw); refine Pure.val ?_; go_simp; (try with_reducible rfl); done)); try simp only [Act.put, List.setIfInBounds_toArray, List.set_cons_zero, List.set_cons_succ])
          (refine Org.yes (v := ?_) rfl (by kernel_rfl) (by kernel_rfl) (by kernel_rfl) (by kernel_rfl) (by kernel_rfl) (fun _ _ _ h => h) (by kernel_rfl) (SM.of hS) ?_ ?_; rotate_left; (focus (intro w hSw; (try dsimp only at hSw); refine Pure.val ?_; go_simp; (try with_reducible rfl); done)); try simp only [Act.put, List.setIfInBounds_toArray, List.set_cons_zero, List.set_cons_succ])
          (refine Org.yes (v := ?_) rfl (by kernel_rfl) (by kernel_rfl) (by kernel_rfl) (by kernel_rfl) (by kernel_rfl) (fun _ _ _ h => h) (by kernel_rfl) (SM.of hS) ?_ ?_; rotate_left; (focus (intro w hSw; (try dsimp only at hSw); refine Pure.val ?_; go_simp; (try with_reducible rfl); done)); try simp only [Act.put, List.setIfInBounds_toArray, List.set_cons_zero, List.set_cons_succ])
          (refine Org.yes (v := ?_) rfl (by kernel_rfl) (by kernel_rfl) (by kernel_rfl) (by kernel_rfl) (by kernel_rfl) (fun _ _ _ h => h) (by kernel_rfl) (SM.of hS) ?_ ?_; rotate_left; (focus (intro w hSw; (try dsimp only at hSw); have q0 := (hSw.cell (p := ⟨g9, 0, none⟩) hg9).trans x0; have q1 := (hSw.cell (p := ⟨g9, 1, none⟩) hg9).trans x1; have q2 := (hSw.cell (p := ⟨bb, o + 1, none⟩) hbbx).trans e1x; refine Pure.val ?_; go_simp; (try with_reducible rfl); done)); try simp only [Act.put, List.setIfInBounds_toArray, List.set_cons_zero, List.set_cons_succ])
          (refine Org.yes (v := ?_) rfl (by kernel_rfl) (by kernel_rfl) (by kernel_rfl) (by kernel_rfl) (by kernel_rfl) (fun _ _ _ h => h) (by kernel_rfl) (SM.of hS) ?_ ?_; rotate_left; (focus (intro w hSw; (try dsimp only at hSw); refine Pure.val ?_; go_simp; (try with_reducible rfl); done)); try simp only [Act.put, List.setIfInBounds_toArray, List.set_cons_zero, List.set_cons_succ])
          (refine Org.yes (v := ?_) rfl (by kernel_rfl) (by kernel_rfl) (by kernel_rfl) (by kernel_rfl) (by kernel_rfl) (fun _ _ _ h => h) (by kernel_rfl) (SM.of hS) ?_ ?_; rotate_left; (focus (intro w hSw; (try dsimp only at hSw); refine Pure.val ?_; go_simp; (try with_reducible rfl); done)); try simp only [Act.put, List.setIfInBounds_toArray, List.set_cons_zero, List.set_cons_succ])
          (refine Org.yes (v := ?_) rfl (by kernel_rfl) (by kernel_rfl) (by kernel_rfl) (by kernel_rfl) (by kernel_rfl) (fun _ _ _ h => h) (by kernel_rfl) (SM.of hS) ?_ ?_; rotate_left; (focus (intro w hSw; (try dsimp only at hSw); refine Pure.val ?_; go_simp; (try with_reducible rfl); done)); try simp only [Act.put, List.setIfInBounds_toArray, List.set_cons_zero, List.set_cons_succ])
          (refine Org.yes (v := ?_) rfl (by kernel_rfl) (by kernel_rfl) (by kernel_rfl) (by kernel_rfl) (by kernel_rfl) (fun _ _ _ h => h) (by kernel_rfl) (SM.of hS) ?_ ?_; rotate_left; (focus (intro w hSw; (try dsimp only at hSw); refine Pure.val ?_; go_simp; (try with_reducible rfl); done)); try simp only [Act.put, List.setIfInBounds_toArray, List.set_cons_zero, List.set_cons_succ])
          (refine Org.yes (v := ?_) rfl (by kernel_rfl) (by kernel_rfl) (by kernel_rfl) (by kernel_rfl) (by kernel_rfl) (fun _ _ _ h => h) (by kernel_rfl) (SM.of hS) ?_ ?_; rotate_left; (focus (intro w hSw; (try dsimp only at hSw); have q0 := (hSw.cell (p := ⟨g9, 0, none⟩) hg9).trans x0; have q1 := (hSw.cell (p := ⟨g9, 1, none⟩) hg9).trans x1; have q2 := (hSw.cell (p := ⟨bb, o + 1, none⟩) hbbx).trans e1x; refine Pure.val ?_; go_simp; (try with_reducible rfl); done)); try simp only [Act.put, List.setIfInBounds_toArray, List.set_cons_zero, List.set_cons_succ])
          (refine Org.yes (v := ?_) rfl (by kernel_rfl) (by kernel_rfl) (by kernel_rfl) (by kernel_rfl) (by kernel_rfl) (fun _ _ _ h => h) (by kernel_rfl) (SM.of hS) ?_ ?_; rotate_left; (focus (intro w hSw; (try dsimp only at hSw); refine Pure.val ?_; go_simp; (try with_reducible rfl); done)); try simp only [Act.put, List.setIfInBounds_toArray, List.set_cons_zero, List.set_cons_succ])
          (refine Org.yes (v := ?_) rfl (by kernel_rfl) (by kernel_rfl) (by kernel_rfl) (by kernel_rfl) (by kernel_rfl) (fun _ _ _ h => h) (by kernel_rfl) (SM.of hS) ?_ ?_; rotate_left; (focus (intro w hSw; (try dsimp only at hSw); refine Pure.val ?_; go_simp; (try with_reducible rfl); done)); try simp only [Act.put, List.setIfInBounds_toArray, List.set_cons_zero, List.set_cons_succ])
          (refine Org.yes (v := ?_) rfl (by kernel_rfl) (by kernel_rfl) (by kernel_rfl) (by kernel_rfl) (by kernel_rfl) (fun _ _ _ h => h) (by kernel_rfl) (SM.of hS) ?_ ?_; rotate_left; (focus (intro w hSw; (try dsimp only at hSw); refine Pure.val ?_; go_simp; (try with_reducible rfl); done)); try simp only [Act.put, List.setIfInBounds_toArray, List.set_cons_zero, List.set_cons_succ])
          refine Org.done (by kernel_rfl) ?_
          go_wp2_with fail
          refine bodyPost_ret (v := .tuple #[.slice none 0 0, .slice none 0 0, .slice none 0 0, .int .i64 1]) (by simp [results, Tryd.results14, go_sem]) rfl ⟨below_drew' HBX.out, .inl ⟨fun h9 => ?_, rfl⟩⟩
          have h8 := (h9.2.2 k (by rw [HL.out]; exact hlt)).2
          rw [HQ.out, HQ0.out, HND1.out, HND0.out] at h8
          exact hdd h8
      · have HOK := hid (iff_of_false (fun h9 => Bool.noConfusion h9 : ¬ (false = true)) hok)
        refine Org.begin [] (fun w' => Below wx.heap.size wx w') [0, 1, 2, 3, 4, 5, 6, 7, 8, 9, 10, 11, 12, 13, 14, 15] (by kernel_rfl) (below_drew' (Below.refl _ _)) (fun hS => ?_)
        (refine Org.yes (v := ?_) rfl (by kernel_rfl) (by kernel_rfl) (by kernel_rfl) (by kernel_rfl) (by kernel_rfl) (fun _ _ _ h => h) (by kernel_rfl) (SM.of hS) ?_ ?_; rotate_left; (focus (intro w hSw; (try dsimp only at hSw); refine Pure.val ?_; go_simp; (try with_reducible rfl); done)); try simp only [Act.put, List.setIfInBounds_toArray, List.set_cons_zero, List.set_cons_succ])
        (refine Org.yes (v := ?_) rfl (by kernel_rfl) (by kernel_rfl) (by kernel_rfl) (by kernel_rfl) (by kernel_rfl) (fun _ _ _ h => h) (by kernel_rfl) (SM.of hS) ?_ ?_; rotate_left; (focus (intro w hSw; (try dsimp only at hSw); refine Pure.val ?_; go_simp; (try with_reducible rfl); done)); try simp only [Act.put, List.setIfInBounds_toArray, List.set_cons_zero, List.set_cons_succ])
        (refine Org.yes (v := ?_) rfl (by kernel_rfl) (by kernel_rfl) (by kernel_rfl) (by kernel_rfl) (by kernel_rfl) (fun _ _ _ h => h) (by kernel_rfl) (SM.of hS) ?_ ?_; rotate_left; (focus (intro w hSw; (try dsimp only at hSw); have q0 := (hSw.cell (p := ⟨g9, 0, none⟩) hg9).trans x0; have q1 := (hSw.cell (p := ⟨g9, 1, none⟩) hg9).trans x1; have q2 := (hSw.cell (p := ⟨bb, o + 1, none⟩) hbbx).trans e1x; refine Pure.val ?_; go_simp; (try with_reducible rfl); done)); try simp only [Act.put, List.setIfInBounds_toArray, List.set_cons_zero, List.set_cons_succ])
        (refine Org.yes (v := ?_) rfl (by kernel_rfl) (by kernel_rfl) (by kernel_rfl) (by kernel_rfl) (by kernel_rfl) (fun _ _ _ h => h) (by kernel_rfl) (SM.of hS) ?_ ?_; rotate_left; (focus (intro w hSw; (try dsimp only at hSw); refine Pure.call 25 #[.int .i64 (N : Int), .slice A1 nc c1] (by go_simp; first | done | rfl) ?_; refine (mayrow_any false (N : Int) q.cols B A1 nc c1 w (H3.out.below (hSw.mono (by omega))) (Nat.le_trans (by omega) hSw.size) (by omega) h64 hnq HQZ.out HOK.out).mono ?_; rintro e w' ⟨rfl, rfl⟩; refine ⟨?_, rfl⟩; with_reducible rfl)); try simp only [Act.put, List.setIfInBounds_toArray, List.set_cons_zero, List.set_cons_succ])
        (refine Org.yes (v := ?_) rfl (by kernel_rfl) (by kernel_rfl) (by kernel_rfl) (by kernel_rfl) (by kernel_rfl) (fun _ _ _ h => h) (by kernel_rfl) (SM.of hS) ?_ ?_; rotate_left; (focus (intro w hSw; (try dsimp only at hSw); refine Pure.val ?_; go_simp; (try with_reducible rfl); done)); try simp only [Act.put, List.setIfInBounds_toArray, List.set_cons_zero, List.set_cons_succ])
        (refine Org.yes (v := ?_) rfl (by kernel_rfl) (by kernel_rfl) (by kernel_rfl) (by kernel_rfl) (by kernel_rfl) (fun _ _ _ h => h) (by kernel_rfl) (SM.of hS) ?_ ?_; rotate_left; (focus (intro w hSw; (try dsimp only at hSw); refine Pure.val ?_; go_simp; (try with_reducible rfl); done)); try simp only [Act.put, List.setIfInBounds_toArray, List.set_cons_zero, List.set_cons_succ])
        (refine Org.no rfl (by kernel_rfl) (by kernel_rfl) (by kernel_rfl) (by kernel_rfl) (by kernel_rfl) (fun _ _ _ h => h) (by kernel_rfl) (SM.of hS) ?_; try simp only [Act.put, List.setIfInBounds_toArray, List.set_cons_zero, List.set_cons_succ])
        (refine Org.no rfl (by kernel_rfl) (by kernel_rfl) (by kernel_rfl) (by kernel_rfl) (by kernel_rfl) (fun _ _ _ h => h) (by kernel_rfl) (SM.of hS) ?_; try simp only [Act.put, List.setIfInBounds_toArray, List.set_cons_zero, List.set_cons_succ])
        (refine Org.no rfl (by kernel_rfl) (by kernel_rfl) (by kernel_rfl) (by kernel_rfl) (by kernel_rfl) (fun _ _ _ h => h) (by kernel_rfl) (SM.of hS) ?_; try simp only [Act.put, List.setIfInBounds_toArray, List.set_cons_zero, List.set_cons_succ])
        (refine Org.no rfl (by kernel_rfl) (by kernel_rfl) (by kernel_rfl) (by kernel_rfl) (by kernel_rfl) (fun _ _ _ h => h) (by kernel_rfl) (SM.of hS) ?_; try simp only [Act.put, List.setIfInBounds_toArray, List.set_cons_zero, List.set_cons_succ])
        (refine Org.no rfl (by kernel_rfl) (by kernel_rfl) (by kernel_rfl) (by kernel_rfl) (by kernel_rfl) (fun _ _ _ h => h) (by kernel_rfl) (SM.of hS) ?_; try simp only [Act.put, List.setIfInBounds_toArray, List.set_cons_zero, List.set_cons_succ])
        (refine Org.no rfl (by kernel_rfl) (by kernel_rfl) (by kernel_rfl) (by kernel_rfl) (by kernel_rfl) (fun _ _ _ h => h) (by kernel_rfl) (SM.of hS) ?_; try simp only [Act.put, List.setIfInBounds_toArray, List.set_cons_zero, List.set_cons_succ])
        (refine Org.no rfl (by kernel_rfl) (by kernel_rfl) (by kernel_rfl) (by kernel_rfl) (by kernel_rfl) (fun _ _ _ h => h) (by kernel_rfl) (SM.of hS) ?_; try simp only [Act.put, List.setIfInBounds_toArray, List.set_cons_zero, List.set_cons_succ])
        (refine Org.no rfl (by kernel_rfl) (by kernel_rfl) (by kernel_rfl) (by kernel_rfl) (by kernel_rfl) (fun _ _ _ h => h) (by kernel_rfl) (SM.of hS) ?_; try simp only [Act.put, List.setIfInBounds_toArray, List.set_cons_zero, List.set_cons_succ])
        (refine Org.no rfl (by kernel_rfl) (by kernel_rfl) (by kernel_rfl) (by kernel_rfl) (by kernel_rfl) (fun _ _ _ h => h) (by kernel_rfl) (SM.of hS) ?_; try simp only [Act.put, List.setIfInBounds_toArray, List.set_cons_zero, List.set_cons_succ])
        (refine Org.yes (v := ?_) rfl (by kernel_rfl) (by kernel_rfl) (by kernel_rfl) (by kernel_rfl) (by kernel_rfl) (fun _ _ _ h => h) (by kernel_rfl) (SM.of hS) ?_ ?_; rotate_left; (focus (intro w hSw; (try dsimp only at hSw); refine Pure.val ?_; go_simp; (try with_reducible rfl); done)); try simp only [Act.put, List.setIfInBounds_toArray, List.set_cons_zero, List.set_cons_succ])
        refine Org.done (by kernel_rfl) ?_
        go_wp2_with fail
        refine bodyPost_ret (v := .tuple #[.slice none 0 0, .slice none 0 0, .slice none 0 0, .int .i64 1]) (by simp [results, Tryd.results14, go_sem]) rfl ⟨below_drew' HBX.out, .inl ⟨fun h9 => ?_, rfl⟩⟩
        have h8 := (h9.2.2 k (by rw [HL.out]; exact hlt)).1
        rw [HQ.out] at h8
        exact hok h8
    · obtain rfl : n = k := by omega
      have hR : RightP (N : Int) rows := ⟨by omega, h64, fun i hi => HK.out i (by rw [← HL.out]; exact hi)⟩
      have hrt := right_of hR
      rw [Int.toNat_natCast] at hrt
      obtain ⟨D, hD⟩ : ∃ D, (rows.getD 0 default).data.length = D := ⟨_, rfl⟩
      rw [hD] at hrt
      have hDb : D ≤ 1048576 := by
        rw [← hD]
        rcases Nat.eq_zero_or_pos rows.length with h9 | h9
        · rw [List.eq_nil_of_length_eq_zero h9]; exact Nat.zero_le _
        · exact HND.out _ (by rw [List.getD_eq_getElem?_getD, List.getElem?_eq_getElem h9]; exact List.getElem_mem _)
      have HRT := hid hrt
      have HR := hid hR
      obtain ⟨w1, hw1⟩ : ∃ w1, wr = w1 := ⟨_, rfl⟩
      rw [hw1] at hbr hzr ⊢
      have HB1 := hid hbr
      clear hR hrt hD hw1 hbr HK
      go_upto_region 9 with fail
      go_cut [10, 11] (fun s10 s11 wx => ∃ gk gv : Nat, s10 = .slice (some ⟨gk, 0, none⟩) N N ∧ s11 = .slice (some ⟨gv, 0, none⟩) N N ∧ KV w.heap.size N wx gk gv (List.replicate N (.slice none 0 0)) (PSt.new N) ∧ Below w.heap.size w wx ∧ gk ≠ gv)
      case first =>
        refine Org.begin [] (fun w' => Below w.heap.size w w') [0, 2] (by kernel_rfl) (below_drew' HB1.out) (fun hS => ?_)
        (refine Org.yes (v := ?_) rfl (by kernel_rfl) (by kernel_rfl) (by kernel_rfl) (by kernel_rfl) (by kernel_rfl) (fun _ _ _ h => h) (by kernel_rfl) (SM.of hS) ?_ ?_; rotate_left; (focus (intro w hSw; (try dsimp only at hSw); refine Pure.val ?_; go_simp; (try with_reducible rfl); done)); try simp only [Act.put, List.setIfInBounds_toArray, List.set_cons_zero, List.set_cons_succ])
        (refine Org.yes (v := ?_) rfl (by kernel_rfl) (by kernel_rfl) (by kernel_rfl) (by kernel_rfl) (by kernel_rfl) (fun _ _ _ h => h) (by kernel_rfl) (SM.of hS) ?_ ?_; rotate_left; (focus (intro w hSw; (try dsimp only at hSw); refine Pure.val ?_; go_simp; (try with_reducible rfl); done)); try simp only [Act.put, List.setIfInBounds_toArray, List.set_cons_zero, List.set_cons_succ])
        refine Org.two (i := 1) (j := 3) [4, 3, 5] [1, 4, 5] rfl rfl (by kernel_rfl) (by kernel_rfl) (by kernel_rfl) (fun K hK => ?_) (fun K hK => ?_)
        · skip
          (refine op_make (.tmp 50) (.tmp 50) 35 (by rfl) 4 ib (.bool false) 1 Tryd.underlying35 hib hz0ib hz1ib hz2ib rfl .i64 .i64 (N : Int) (N : Int) N N (by rfl) (by rfl) rfl rfl (Nat.le_refl _) (by omega) (by omega) ?_)
          intro wk rk bk sk
          refine hK.out _ _ (hS.trans (bk.mono hS.size)) (fun hS2 => ?_)
          clear hK K hS
          have hS := hS2
          clear hS2
          try simp only [Act.put, List.setIfInBounds_toArray, List.set_cons_zero, List.set_cons_succ]
          (refine Org.yes (v := ?_) rfl (by kernel_rfl) (by kernel_rfl) (by kernel_rfl) (by kernel_rfl) (by kernel_rfl) (fun _ _ _ h => h) (by kernel_rfl) (SM.of hS) ?_ ?_; rotate_left; (focus (intro w hSw; (try dsimp only at hSw); refine Pure.val ?_; go_simp; (try with_reducible rfl); done)); try simp only [Act.put, List.setIfInBounds_toArray, List.set_cons_zero, List.set_cons_succ])
          refine Org.go rfl (by kernel_rfl) (by kernel_rfl) (fun K hK => ?_)
          (refine op_make (.tmp 52) (.tmp 52) 30 (by rfl) 24 iw (.slice none 0 0) 24 Tryd.underlying30 hiw hz0iw hz1iw hz2iw rfl .i64 .i64 (N : Int) (N : Int) N N (by rfl) (by rfl) rfl rfl (Nat.le_refl _) (by omega) (by omega) ?_)
          intro wv rv bv sv
          refine hK.out _ _ (hS.trans (bv.mono hS.size)) (fun hS2 => ?_)
          clear hK K hS
          have hS := hS2
          clear hS2
          try simp only [Act.put, List.setIfInBounds_toArray, List.set_cons_zero, List.set_cons_succ]
          (refine Org.yes (v := ?_) rfl (by kernel_rfl) (by kernel_rfl) (by kernel_rfl) (by kernel_rfl) (by kernel_rfl) (fun _ _ _ h => h) (by kernel_rfl) (SM.of hS) ?_ ?_; rotate_left; (focus (intro w hSw; (try dsimp only at hSw); refine Pure.val ?_; go_simp; (try with_reducible rfl); done)); try simp only [Act.put, List.setIfInBounds_toArray, List.set_cons_zero, List.set_cons_succ])
          refine Org.done (by kernel_rfl) ?_
          have e1 : wk.heap.size = w1.heap.size + 1 := sk
          rw [e1] at rv
          go_wp2_with fail
          go_meet
          exact ⟨w1.heap.size, (w1.heap.size + 1), rfl, rfl, kv_new (rk.below bv rk.lt) rv (by omega) (by omega), hS, by omega⟩
        · skip
          (refine op_make (.tmp 52) (.tmp 52) 30 (by rfl) 24 iw (.slice none 0 0) 24 Tryd.underlying30 hiw hz0iw hz1iw hz2iw rfl .i64 .i64 (N : Int) (N : Int) N N (by rfl) (by rfl) rfl rfl (Nat.le_refl _) (by omega) (by omega) ?_)
          intro wv rv bv sv
          refine hK.out _ _ (hS.trans (bv.mono hS.size)) (fun hS2 => ?_)
          clear hK K hS
          have hS := hS2
          clear hS2
          try simp only [Act.put, List.setIfInBounds_toArray, List.set_cons_zero, List.set_cons_succ]
          refine Org.go rfl (by kernel_rfl) (by kernel_rfl) (fun K hK => ?_)
          (refine op_make (.tmp 50) (.tmp 50) 35 (by rfl) 4 ib (.bool false) 1 Tryd.underlying35 hib hz0ib hz1ib hz2ib rfl .i64 .i64 (N : Int) (N : Int) N N (by rfl) (by rfl) rfl rfl (Nat.le_refl _) (by omega) (by omega) ?_)
          intro wk rk bk sk
          refine hK.out _ _ (hS.trans (bk.mono hS.size)) (fun hS2 => ?_)
          clear hK K hS
          have hS := hS2
          clear hS2
          try simp only [Act.put, List.setIfInBounds_toArray, List.set_cons_zero, List.set_cons_succ]
          (refine Org.yes (v := ?_) rfl (by kernel_rfl) (by kernel_rfl) (by kernel_rfl) (by kernel_rfl) (by kernel_rfl) (fun _ _ _ h => h) (by kernel_rfl) (SM.of hS) ?_ ?_; rotate_left; (focus (intro w hSw; (try dsimp only at hSw); refine Pure.val ?_; go_simp; (try with_reducible rfl); done)); try simp only [Act.put, List.setIfInBounds_toArray, List.set_cons_zero, List.set_cons_succ])
          (refine Org.yes (v := ?_) rfl (by kernel_rfl) (by kernel_rfl) (by kernel_rfl) (by kernel_rfl) (by kernel_rfl) (fun _ _ _ h => h) (by kernel_rfl) (SM.of hS) ?_ ?_; rotate_left; (focus (intro w hSw; (try dsimp only at hSw); refine Pure.val ?_; go_simp; (try with_reducible rfl); done)); try simp only [Act.put, List.setIfInBounds_toArray, List.set_cons_zero, List.set_cons_succ])
          refine Org.done (by kernel_rfl) ?_
          have e1 : wv.heap.size = w1.heap.size + 1 := sv
          rw [e1] at rk
          go_wp2_with fail
          go_meet
          exact ⟨(w1.heap.size + 1), w1.heap.size, rfl, rfl, kv_new rk (rv.below bk rv.lt) (by omega) (by omega), hS, by omega⟩
      case rest =>
      obtain ⟨gk, gv, rfl, rfl, hkv, hbc, hne⟩ := hcut
      have HRK := hid (show RK w.heap.size N w wc gk gv rows _ _ from ⟨.start, hkv, hbc⟩)
      have hzc := hbc.size
      clear hkv hbc
      obtain ⟨w2, hw2⟩ : ∃ x, wc = x := ⟨_, rfl⟩
      rw [hw2] at HRK hzc ⊢
      clear hw2
      go_wp2_with fail
      go_loopw [12] (fun v wr => ∃ (b : Bool) (vs : List Value) (S : PSt), v = .bool b ∧ RK w.heap.size N w wr gk gv rows vs S ∧ w2.heap.size ≤ wr.heap.size ∧ Hid (b = false → Final rows S)) (fun v wr => match v with | .bool true => 2 * cntF gk wr + 1 | _ => 0)
      case atStart => exact ⟨true, _, _, rfl, HRK.out, Nat.le_refl _, hid (fun h => by cases h)⟩
      case round =>
        obtain ⟨b, vs, S, rfl, hrk, hzw, HF⟩ := hrel
        have HRKP := hid hrk
        clear hrk
        cases b with
        | true =>
          obtain ⟨wp, hwp⟩ : ∃ wp, wr = wp := ⟨_, rfl⟩
          rw [hwp] at HRKP hzw ⊢
          clear hwp HF
          obtain ⟨U, hU⟩ : ∃ U, S.known.countP (fun b => !b) = U := ⟨_, rfl⟩
          have HU0 := hid hU
          clear hU
          go_wp2_with fail
          go_loopw [12, 57] (fun v i wr => ∃ (k : Nat) (b : Bool) (vs : List Value) (S : PSt), k ≤ n ∧ i = .int .i64 (k : Int) ∧ v = .bool b ∧ RK w.heap.size N w wr gk gv rows vs S ∧ w2.heap.size ≤ wr.heap.size ∧ Hid (S.known.countP (fun b => !b) ≤ U ∧ (b = true → S.known.countP (fun b => !b) < U) ∧ (b = false → ∀ j, j < k → (S.opn (rows.getD j default).cols).length ≠ 1))) (fun _ i _ => n - (intOf i).toNat)
          case atStart => exact ⟨0, false, vs, S, Nat.zero_le _, rfl, rfl, HRKP.out, hzw, hid ⟨by rw [HU0.out]; exact Nat.le_refl _, fun h => Bool.noConfusion h, fun _ j hj => absurd hj (by omega)⟩⟩
          case round =>
            obtain ⟨k, b, vs, S, hk, rfl, rfl, hrk, hzr, HU⟩ := hrel
            have HRKR := hid hrk
            have hbr := hrk.be
            clear hrk
            by_cases hlt : k < n
            · have hre := H.out.below (hbr.mono hB)
              obtain ⟨bb, o, A1, c1, A2, c2, eA, hbb, e0, e1, h1, h2, h3, h4, h5, h6⟩ := hre.get hlt
              subst eA
              have hkr : k < rows.length := by rw [HL.out]; exact hlt
              have hqm : rows.getD k default ∈ rows := by rw [List.getD_eq_getElem?_getD, List.getElem?_eq_getElem hkr]; exact List.getElem_mem _
              have hcq := HRT.out.rng _ hqm
              have hnq := HNC.out _ hqm
              have hdq := HRT.out.len _ hqm
              obtain ⟨q, hq⟩ : ∃ q, rows.getD k default = q := ⟨_, rfl⟩
              rw [hq] at e0 e1 h1 h3 h4 h6 hcq hnq hdq hqm
              have HQ := hid hq
              obtain ⟨nc, hnc⟩ : ∃ nc, q.cols.length = nc := ⟨_, rfl⟩
              obtain ⟨nd, hnd⟩ : ∃ nd, q.data.length = nd := ⟨_, rfl⟩
              rw [hnc] at e0 h1 h3 hnq
              rw [hnd] at e1 h4 h6
              have HNDD : Hid (nd = D) := hid (by rw [← hnd]; exact hdq)
              have hndb : nd ≤ 1048576 := by have := HNDD.out; omega
              have hform := HRKR.out.r.form HRT.out
              have hx := Row.new wr 27 #[.slice A1 nc c1, .slice A2 nd c2]
              have hbx : Below wr.heap.size wr (wr.alloc (.cells #[.slice A1 nc c1, .slice A2 nd c2] 27)) := (Below.refl _ _).alloc (Nat.le_refl _) _
              have x0 := hx.cell 0
              have x1 := hx.cell 1
              simp only [List.getElem?_cons_succ, List.getElem?_cons_zero] at x0 x1
              have hbz : w.heap.size ≤ wr.heap.size := by omega
              have HRKX := hid (HRKR.out.below hbx hbz)
              have HX := hid hx
              have H3 := hid (h3.below (hbx.mono (by omega)))
              have H6 := hid (h6.below (hbx.mono (by omega)))
              have HCQ := hid hcq
              have HNCQ := hid hnc
              have HFO := hid hform
              have HQM := hid hqm
              have hszx : (wr.alloc (.cells #[.slice A1 nc c1, .slice A2 nd c2] 27)).heap.size = wr.heap.size + 1 := by simp
              clear hre hq hnc hnd h3 h6 hcq hqm hx hbx hform hdq hbr
              go_wp2_with fail
              generalize wr.alloc (.cells #[.slice A1 nc c1, .slice A2 nd c2] 27) = wx at *
              refine (open_any S q.cols w.heap.size N gk gv vs B A1 nc c1 wx HRKX.out.kv H3.out (by omega) HCQ.out (by omega) hnq).mono ?_
              rintro e w3 ⟨A3, c3, rfl, oi3, b3⟩
              obtain ⟨lo, hlo⟩ : ∃ lo, (S.opn q.cols).length = lo := ⟨_, rfl⟩
              rw [hlo] at oi3 ⊢
              have HLO := hid hlo
              have hz3 := b3.size
              have HRKY := hid (HRKX.out.below b3 (by omega))
              have hXy := HX.out.below b3 (by omega)
              have y0 := hXy.cell 0
              have y1 := hXy.cell 1
              simp only [List.getElem?_cons_succ, List.getElem?_cons_zero] at y0 y1
              have H3y := hid (H3.out.below (b3.mono (by omega)))
              have H6y := hid (H6.out.below (b3.mono (by omega)))
              have HOI := hid oi3
              have hg14 := hXy.lt
              clear x0 x1 oi3 hlo hXy b3 H3 H6
              by_cases hl1 : lo = 1
              · subst hl1
                obtain ⟨x, hx⟩ : ∃ x : Nat, S.opn q.cols = [(x : Int)] ∧ x < N := by
                  have h9 := HLO.out
                  match hl : S.opn q.cols with
                  | [y] =>
                    have hm := (opn_mem.1 (show y ∈ S.opn q.cols by rw [hl]; exact List.mem_singleton.2 rfl)).1
                    obtain ⟨h7, h8⟩ := HCQ.out y hm
                    obtain ⟨x, rfl⟩ := Int.eq_ofNat_of_zero_le h7
                    exact ⟨x, rfl, by omega⟩
                  | [] => rw [hl] at h9; simp at h9
                  | _ :: _ :: _ => rw [hl] at h9; simp at h9
                obtain ⟨hx, hxN⟩ := hx
                have hoi := HOI.out
                unfold OI at hoi
                rw [hx] at hoi
                obtain ⟨go, hgo9⟩ : ∃ go, A3 = some ⟨go, 0, none⟩ := by
                  rcases own_form (show w3.ownsRow _ _ _ (.slice A3 1 c3) 1 _ from hoi) with ⟨_, h9, _⟩ | ⟨g, h9, _⟩
                  · omega
                  · exact ⟨g, h9⟩
                subst hgo9
                have hslx := (Sl.own (show w3.ownsRow _ _ _ (.slice (some ⟨go, 0, none⟩) 1 c3) 1 _ from hoi))
                obtain ⟨bq, oq, eq9, hgo, hcq9⟩ := hslx.at_ (by omega)
                injection eq9 with eq9
                injection eq9 with e91 e92
                subst e91 e92
                have o0 := hcq9 0 (.int .i64 (x : Int)) rfl
                have hx0 : (0 : Int) ≤ (x : Int) := by omega
                have hx1 : (x : Int) < (N : Int) := by omega
                have HST := hid (Wells.Reach.step HRKY.out.r HQM.out hx)
                have HCS : Hid ((S.put (x : Int) (S.rest q)).known.countP (fun b => !b) < S.known.countP (fun b => !b)) := hid (by
                  refine count_set S.known x (by rw [HRKY.out.kv.kl]; exact hxN) ?_
                  have h9 := (opn_mem.1 (show (x : Int) ∈ S.opn q.cols by rw [hx]; exact List.mem_singleton.2 rfl)).2
                  unfold PSt.kn at h9
                  rw [Int.toNat_natCast] at h9
                  rw [List.getD_eq_getElem?_getD, List.getElem?_eq_getElem (by rw [HRKY.out.kv.kl]; exact hxN)] at h9 ⊢
                  exact h9)
                generalize wr.heap.size = g14 at *
                have HX9 := hid hx
                clear hx hoi hslx hcq9
                go_wp2_with fail
                refine Org.begin [13, 15] (fun w' => Below w3.heap.size w3 w') [0, 1, 2, 3, 4, 5, 6, 7, 8, 9, 10, 11, 12, 13, 14, 15, 16] (by kernel_rfl) (below_drew' (Below.refl _ _)) (fun hS => ?_)
                (refine Org.yes (v := ?_) rfl (by kernel_rfl) (by kernel_rfl) (by kernel_rfl) (by kernel_rfl) (by kernel_rfl) (fun _ _ _ h => h) (by kernel_rfl) (SM.of hS) ?_ ?_; rotate_left; (focus (intro w hSw; (try dsimp only at hSw); refine Pure.val ?_; go_simp; (try with_reducible rfl); done)); try simp only [Act.put, List.setIfInBounds_toArray, List.set_cons_zero, List.set_cons_succ])
                (refine Org.yes (v := ?_) rfl (by kernel_rfl) (by kernel_rfl) (by kernel_rfl) (by kernel_rfl) (by kernel_rfl) (fun _ _ _ h => h) (by kernel_rfl) (SM.of hS) ?_ ?_; rotate_left; (focus (intro w hSw; (try dsimp only at hSw); refine Pure.val ?_; go_simp; (try with_reducible rfl); done)); try simp only [Act.put, List.setIfInBounds_toArray, List.set_cons_zero, List.set_cons_succ])
                (refine Org.yes (v := ?_) rfl (by kernel_rfl) (by kernel_rfl) (by kernel_rfl) (by kernel_rfl) (by kernel_rfl) (fun _ _ _ h => h) (by kernel_rfl) (SM.of hS) ?_ ?_; rotate_left; (focus (intro w hSw; (try dsimp only at hSw); refine Pure.val ?_; go_simp; (try with_reducible rfl); done)); try simp only [Act.put, List.setIfInBounds_toArray, List.set_cons_zero, List.set_cons_succ])
                (refine Org.yes (v := ?_) rfl (by kernel_rfl) (by kernel_rfl) (by kernel_rfl) (by kernel_rfl) (by kernel_rfl) (fun _ _ _ h => h) (by kernel_rfl) (SM.of hS) ?_ ?_; rotate_left; (focus (intro w hSw; (try dsimp only at hSw); have q0 := (hSw.cell (p := ⟨go, 0, none⟩) hgo).trans o0; have q1 := (hSw.cell (p := ⟨g14, 0, none⟩) hg14).trans y0; have q2 := (hSw.cell (p := ⟨g14, 1, none⟩) hg14).trans y1; refine Pure.val ?_; go_simp; (try with_reducible rfl); done)); try simp only [Act.put, List.setIfInBounds_toArray, List.set_cons_zero, List.set_cons_succ])
                (refine Org.free (v := ?_) rfl (by kernel_rfl) (by kernel_rfl) (by kernel_rfl) (by kernel_rfl) (by kernel_rfl) (fun _ _ _ h => h) (by kernel_rfl) (SM.of hS) ?_ ?_; rotate_left; (focus (intro w; refine Pure.val ?_; go_simp; (try with_reducible rfl); done)); try simp only [Act.put, List.setIfInBounds_toArray, List.set_cons_zero, List.set_cons_succ])
                (refine Org.free (v := ?_) rfl (by kernel_rfl) (by kernel_rfl) (by kernel_rfl) (by kernel_rfl) (by kernel_rfl) (fun _ _ _ h => h) (by kernel_rfl) (SM.of hS) ?_ ?_; rotate_left; (focus (intro w; refine Pure.val ?_; go_simp; (try with_reducible rfl); done)); try simp only [Act.put, List.setIfInBounds_toArray, List.set_cons_zero, List.set_cons_succ])
                (refine Org.free (v := ?_) rfl (by kernel_rfl) (by kernel_rfl) (by kernel_rfl) (by kernel_rfl) (by kernel_rfl) (fun _ _ _ h => h) (by kernel_rfl) (SM.of hS) ?_ ?_; rotate_left; (focus (intro w; refine Pure.val ?_; go_simp; (try with_reducible rfl); done)); try simp only [Act.put, List.setIfInBounds_toArray, List.set_cons_zero, List.set_cons_succ])
                (refine Org.yes (v := ?_) rfl (by kernel_rfl) (by kernel_rfl) (by kernel_rfl) (by kernel_rfl) (by kernel_rfl) (fun _ _ _ h => h) (by kernel_rfl) (SM.of hS) ?_ ?_; rotate_left; (focus (intro w hSw; (try dsimp only at hSw); have q0 := (hSw.cell (p := ⟨go, 0, none⟩) hgo).trans o0; have q1 := (hSw.cell (p := ⟨g14, 0, none⟩) hg14).trans y0; have q2 := (hSw.cell (p := ⟨g14, 1, none⟩) hg14).trans y1; refine Pure.val ?_; go_simp; (try with_reducible rfl); done)); try simp only [Act.put, List.setIfInBounds_toArray, List.set_cons_zero, List.set_cons_succ])
                (refine Org.yes (v := ?_) rfl (by kernel_rfl) (by kernel_rfl) (by kernel_rfl) (by kernel_rfl) (by kernel_rfl) (fun _ _ _ h => h) (by kernel_rfl) (SM.of hS) ?_ ?_; rotate_left; (focus (intro w hSw; (try dsimp only at hSw); have q0 := (hSw.cell (p := ⟨go, 0, none⟩) hgo).trans o0; have q1 := (hSw.cell (p := ⟨g14, 0, none⟩) hg14).trans y0; have q2 := (hSw.cell (p := ⟨g14, 1, none⟩) hg14).trans y1; refine Pure.val ?_; go_simp; (try with_reducible rfl); done)); try simp only [Act.put, List.setIfInBounds_toArray, List.set_cons_zero, List.set_cons_succ])
                (refine Org.yes (v := ?_) rfl (by kernel_rfl) (by kernel_rfl) (by kernel_rfl) (by kernel_rfl) (by kernel_rfl) (fun _ _ _ h => h) (by kernel_rfl) (SM.of hS) ?_ ?_; rotate_left; (focus (intro w hSw; (try dsimp only at hSw); refine Pure.val ?_; go_simp; (try with_reducible rfl); done)); try simp only [Act.put, List.setIfInBounds_toArray, List.set_cons_zero, List.set_cons_succ])
                (refine Org.yes (v := ?_) rfl (by kernel_rfl) (by kernel_rfl) (by kernel_rfl) (by kernel_rfl) (by kernel_rfl) (fun _ _ _ h => h) (by kernel_rfl) (SM.of hS) ?_ ?_; rotate_left; (focus (intro w hSw; (try dsimp only at hSw); refine Pure.val ?_; go_simp; (try with_reducible rfl); done)); try simp only [Act.put, List.setIfInBounds_toArray, List.set_cons_zero, List.set_cons_succ])
                refine Org.go rfl (by kernel_rfl) (by kernel_rfl) (fun K hK => ?_)
                go_simp
                refine (rest_any S q w.heap.size N gk gv vs B A1 A2 c1 c2 nc nd _ (HRKY.out.kv.below hS) (H3y.out.below (hS.mono (by omega))) (H6y.out.below (hS.mono (by omega))) (Nat.le_trans (by omega) hS.size) HCQ.out (by omega) (fun c h0 hk => by rw [HFO.out.len c h0 hk, HNDD.out]) hndb hnq).mono ?_
                rintro e w5 ⟨A5, c5, rfl, ob5, b5⟩
                have HOB5 := hid ob5
                have HB5 := hid b5
                have HBY := hid (hS.trans (b5.mono hS.size))
                have HS5 := hid hS.size
                have hz5 := (hS.trans (b5.mono hS.size)).size
                have hrk5 := HRKY.out.below (hS.trans (b5.mono hS.size)) (by omega)
                have kf := hrk5.kv.k.frozen x
                have kc := hrk5.kv.cellk hx0 hx1
                have vf := hrk5.kv.v.frozen x
                obtain ⟨Av, mv, vc, _⟩ := hrk5.kv.cellv hx0 hx1
                rw [Int.toNat_natCast] at kc vc
                have HRK5 := hid hrk5
                clear ob5 b5 hrk5
                go_wp2_with fail
                refine hK.out _ _ HBY.out (fun hS2 => ?_)
                clear hK K hS
                have hS := hS2
                clear hS2
                try simp only [Act.put, List.setIfInBounds_toArray, List.set_cons_zero, List.set_cons_succ]
                (refine Org.yes (v := ?_) rfl (by kernel_rfl) (by kernel_rfl) (by kernel_rfl) (by kernel_rfl) (by kernel_rfl) (fun _ _ _ h => h) (by kernel_rfl) (SM.of hS) ?_ ?_; rotate_left; (focus (intro w hSw; (try dsimp only at hSw); refine Pure.val ?_; go_simp; (try with_reducible rfl); done)); try simp only [Act.put, List.setIfInBounds_toArray, List.set_cons_zero, List.set_cons_succ])
                refine Org.mark (p := 13) rfl (by kernel_rfl) (by kernel_rfl) (by kernel_rfl) (by kernel_rfl) (fun K hK => ?_)
                go_simp
                refine hK.out _ _ ?_
                clear hK K hS
                try simp only [Act.put, List.setIfInBounds_toArray, List.set_cons_zero, List.set_cons_succ]
                (refine Org.free (v := ?_) rfl (by kernel_rfl) (by kernel_rfl) (by kernel_rfl) (by kernel_rfl) (by kernel_rfl) (fun _ _ _ h => h) (by kernel_rfl) (SM.past (p := 13) (by kernel_rfl) (by kernel_rfl)) ?_ ?_; rotate_left; (focus (intro w; refine Pure.val ?_; go_simp; (try with_reducible rfl); done)); try simp only [Act.put, List.setIfInBounds_toArray, List.set_cons_zero, List.set_cons_succ])
                refine Org.mark (p := 13) rfl (by kernel_rfl) (by kernel_rfl) (by kernel_rfl) (by kernel_rfl) (fun K hK => ?_)
                go_simp
                refine hK.out _ _ ?_
                clear hK K
                try simp only [Act.put, List.setIfInBounds_toArray, List.set_cons_zero, List.set_cons_succ]
                (refine Org.free (v := ?_) rfl (by kernel_rfl) (by kernel_rfl) (by kernel_rfl) (by kernel_rfl) (by kernel_rfl) (fun _ _ _ h => h) (by kernel_rfl) (SM.past (p := 13) (by kernel_rfl) (by kernel_rfl)) ?_ ?_; rotate_left; (focus (intro w; refine Pure.val ?_; go_simp; (try with_reducible rfl); done)); try simp only [Act.put, List.setIfInBounds_toArray, List.set_cons_zero, List.set_cons_succ])
                refine Org.done (by kernel_rfl) ?_
                go_wp2_with fail
                have hkv9 := HRK5.out.kv.put2 (x := x) (v := .slice A5 nd c5) (d := S.rest q) hne hxN (own_base HOB5.out (Nat.le_trans (by omega) HS5.out))
                have HKV9 := hid hkv9
                have hb9 := (HRK5.out.be.setCell (p := (⟨gv, x, none⟩ : Addr)) HRK5.out.kv.gev (.slice A5 nd c5)).setCell (p := (⟨gk, x, none⟩ : Addr)) HRK5.out.kv.gek (.bool true)
                have HB9 := hid hb9
                clear hkv9 hb9
                go_roundw
                case rel => exact ⟨k + 1, true, _, _, by omega, by go_num, rfl, ⟨HST.out, HKV9.out, HB9.out⟩, by simp [World.setCell]; omega, hid ⟨by have := HCS.out; have := HU.out.1; omega, fun _ => by have := HCS.out; have := HU.out.1; omega, fun h9 => Bool.noConfusion h9⟩⟩
                case measure => simp [intOf]; omega
              · have hb1 : ((lo : Int) == 1) = false := by simp; omega
                clear y0 y1 hg14
                go_wp2_with fail
                go_roundw
                case rel => exact ⟨k + 1, b, vs, S, by omega, by go_num, rfl, HRKY.out, by omega, hid ⟨HU.out.1, HU.out.2.1, fun h9 j hj => by
                  rcases Nat.lt_or_ge j k with h8 | h8
                  · exact HU.out.2.2 h9 j h8
                  · obtain rfl : j = k := by omega
                    rw [HQ.out, HLO.out]; exact hl1⟩⟩
                case measure => simp [intOf]; omega
            · obtain rfl : k = n := by omega
              have HCN : Hid (cntF gk wr = S.known.countP (fun b => !b)) := hid (cntF_row HRKR.out.kv.k)
              have HCP : Hid (cntF gk wp = U) := hid ((cntF_row HRKP.out.kv.k).trans HU0.out)
              have hu1 := HU.out.1
              clear hbr
              go_wp2_with fail
              go_roundw
              case rel => exact ⟨b, vs, S, rfl, HRKR.out, hzr, hid (fun h9 q hq => by
                obtain ⟨i, hi, rfl⟩ := List.getElem_of_mem hq
                have := HU.out.2.2 h9 i (by rw [← HL.out]; exact hi)
                rwa [List.getD_eq_getElem?_getD, List.getElem?_eq_getElem hi] at this)⟩
              case measure =>
                cases b with
                | true =>
                  have h7 := HU.out.2.1 rfl
                  have h8 := HCN.out
                  have h9 := HCP.out
                  show 2 * cntF gk wr + 1 < 2 * cntF gk wp + 1
                  omega
                | false => show 0 < 2 * cntF gk wp + 1; omega
        | false =>
          have HFIN := hid (HF.out rfl)
          obtain ⟨T, hT⟩ : ∃ T, S = T := ⟨_, rfl⟩
          rw [hT] at HRKP HFIN
          obtain ⟨w5, hw5⟩ : ∃ w5, wr = w5 := ⟨_, rfl⟩
          rw [hw5] at HRKP hzw ⊢
          clear hT hw5 HF
          go_wp2_with fail
          go_loopw [16, 85] (fun v i wr => ∃ (k : Nat) (Ao : Option Addr) (mo co : Nat) (ps' : List (Value × Value)), k ≤ n ∧ i = .int .i64 (k : Int) ∧ v = .slice Ao mo co ∧ Hid ((T.left (rows.take k)).length = mo) ∧ RK w.heap.size N w wr gk gv rows vs T ∧ OEqs w.heap.size wr (.slice Ao mo co) ps' (T.left (rows.take k)) ∧ w2.heap.size ≤ wr.heap.size ∧ Hid (∀ j, j < k → T.opn (rows.getD j default).cols = [] → ∀ b ∈ T.rest (rows.getD j default), b = 0#8)) (fun _ i _ => n - (intOf i).toNat)
          case atStart => exact ⟨0, none, 0, 0, [], Nat.zero_le _, rfl, rfl, hid rfl, HRKP.out, OEqs.nil_ _ _, hzw, hid (fun j hj => absurd hj (by omega))⟩
          case round =>
            obtain ⟨k, Ao, mo, co, ps', hk, rfl, rfl, HMO, hrk, hoe, hzr, HK⟩ := hrel
            have HRKR := hid hrk
            have HOE := hid hoe
            have hmok : mo ≤ k := by rw [← HMO.out]; exact Nat.le_trans (left_le _ _) (List.length_take_le _ _)
            have hbr := hrk.be
            clear hrk hoe
            by_cases hlt : k < n
            · have hre := H.out.below (hbr.mono hB)
              obtain ⟨bb, o, A1, c1, A2, c2, eA, hbb, e0, e1, h1, h2, h3, h4, h5, h6⟩ := hre.get hlt
              subst eA
              have hkr : k < rows.length := by rw [HL.out]; exact hlt
              have hqm : rows.getD k default ∈ rows := by rw [List.getD_eq_getElem?_getD, List.getElem?_eq_getElem hkr]; exact List.getElem_mem _
              have hcq := HRT.out.rng _ hqm
              have hnq := HNC.out _ hqm
              have hdq := HRT.out.len _ hqm
              have hyes := left_take_yes (S := T) hkr
              have hno := left_take_no (S := T) hkr
              obtain ⟨q, hq⟩ : ∃ q, rows.getD k default = q := ⟨_, rfl⟩
              rw [hq] at e0 e1 h1 h3 h4 h6 hcq hnq hdq hqm hyes hno
              have HQ := hid hq
              obtain ⟨nc, hnc⟩ : ∃ nc, q.cols.length = nc := ⟨_, rfl⟩
              obtain ⟨nd, hnd⟩ : ∃ nd, q.data.length = nd := ⟨_, rfl⟩
              rw [hnc] at e0 h1 h3 hnq
              rw [hnd] at e1 h4 h6
              have HNDD : Hid (nd = D) := hid (by rw [← hnd]; exact hdq)
              have hndb : nd ≤ 1048576 := by have := HNDD.out; omega
              have hform := HRKR.out.r.form HRT.out
              have hrl : (T.rest q).length = nd := by
                have h9 := foldl_len hform.len q.cols q.data (fun c hc => (hcq c hc).1) hdq
                rw [HNDD.out]; exact h9
              have HRL := hid hrl
              have hx := Row.new wr 27 #[.slice A1 nc c1, .slice A2 nd c2]
              have hbx : Below wr.heap.size wr (wr.alloc (.cells #[.slice A1 nc c1, .slice A2 nd c2] 27)) := (Below.refl _ _).alloc (Nat.le_refl _) _
              have x0 := hx.cell 0
              have x1 := hx.cell 1
              simp only [List.getElem?_cons_succ, List.getElem?_cons_zero] at x0 x1
              have hg18 := hx.lt
              have hbz : w.heap.size ≤ wr.heap.size := by omega
              have HRKX := hid (HRKR.out.below hbx hbz)
              have HOEX := hid (HOE.out.below hbx hbz)
              have H3 := hid (h3.below (hbx.mono (by omega)))
              have H6 := hid (h6.below (hbx.mono (by omega)))
              have HCQ := hid hcq
              have HNCQ := hid hnc
              have HFO := hid hform
              have HQM := hid hqm
              have HYES := hid hyes
              have HNO := hid hno
              have hszx : (wr.alloc (.cells #[.slice A1 nc c1, .slice A2 nd c2] 27)).heap.size = wr.heap.size + 1 := by simp
              clear hyes hno hre hq hnc hnd h3 h6 hcq hqm hx hbx hform hdq hbr hrl
              go_wp2_with fail
              generalize wr.alloc (.cells #[.slice A1 nc c1, .slice A2 nd c2] 27) = wx at *
              obtain ⟨g18, hg9⟩ : ∃ g18, wr.heap.size = g18 := ⟨_, rfl⟩
              rw [hg9] at x0 x1 hg18 hszx
              try simp only [hg9]
              have HG18 := hid hg9
              have hzg : w2.heap.size ≤ g18 := by rw [← hg9]; exact hzr
              have hbg : w.heap.size ≤ g18 := by rw [← hg9]; exact hbz
              clear hg9
              clear hzr hbz
              refine Org.begin [] (fun w' => Below wx.heap.size wx w') [0, 1, 2, 4, 5, 6, 3, 7, 8, 9] (by kernel_rfl) (below_drew' (Below.refl _ _)) (fun hS => ?_)
              (refine Org.yes (v := ?_) rfl (by kernel_rfl) (by kernel_rfl) (by kernel_rfl) (by kernel_rfl) (by kernel_rfl) (fun _ _ _ h => h) (by kernel_rfl) (SM.of hS) ?_ ?_; rotate_left; (focus (intro w hSw; (try dsimp only at hSw); refine Pure.val ?_; go_simp; (try with_reducible rfl); done)); try simp only [Act.put, List.setIfInBounds_toArray, List.set_cons_zero, List.set_cons_succ])
              (refine Org.yes (v := ?_) rfl (by kernel_rfl) (by kernel_rfl) (by kernel_rfl) (by kernel_rfl) (by kernel_rfl) (fun _ _ _ h => h) (by kernel_rfl) (SM.of hS) ?_ ?_; rotate_left; (focus (intro w hSw; (try dsimp only at hSw); have q1 := (hSw.cell (p := ⟨g18, 0, none⟩) hg18).trans x0; have q2 := (hSw.cell (p := ⟨g18, 1, none⟩) hg18).trans x1; refine Pure.val ?_; go_simp; (try with_reducible rfl); done)); try simp only [Act.put, List.setIfInBounds_toArray, List.set_cons_zero, List.set_cons_succ])
              (refine Org.yes (v := ?_) rfl (by kernel_rfl) (by kernel_rfl) (by kernel_rfl) (by kernel_rfl) (by kernel_rfl) (fun _ _ _ h => h) (by kernel_rfl) (SM.of hS) ?_ ?_; rotate_left; (focus (intro w hSw; (try dsimp only at hSw); refine Pure.val ?_; go_simp; (try with_reducible rfl); done)); try simp only [Act.put, List.setIfInBounds_toArray, List.set_cons_zero, List.set_cons_succ])
              (refine Org.yes (v := ?_) rfl (by kernel_rfl) (by kernel_rfl) (by kernel_rfl) (by kernel_rfl) (by kernel_rfl) (fun _ _ _ h => h) (by kernel_rfl) (SM.of hS) ?_ ?_; rotate_left; (focus (intro w hSw; (try dsimp only at hSw); have q1 := (hSw.cell (p := ⟨g18, 0, none⟩) hg18).trans x0; have q2 := (hSw.cell (p := ⟨g18, 1, none⟩) hg18).trans x1; refine Pure.val ?_; go_simp; (try with_reducible rfl); done)); try simp only [Act.put, List.setIfInBounds_toArray, List.set_cons_zero, List.set_cons_succ])
              (refine Org.yes (v := ?_) rfl (by kernel_rfl) (by kernel_rfl) (by kernel_rfl) (by kernel_rfl) (by kernel_rfl) (fun _ _ _ h => h) (by kernel_rfl) (SM.of hS) ?_ ?_; rotate_left; (focus (intro w hSw; (try dsimp only at hSw); refine Pure.val ?_; go_simp; (try with_reducible rfl); done)); try simp only [Act.put, List.setIfInBounds_toArray, List.set_cons_zero, List.set_cons_succ])
              (refine Org.yes (v := ?_) rfl (by kernel_rfl) (by kernel_rfl) (by kernel_rfl) (by kernel_rfl) (by kernel_rfl) (fun _ _ _ h => h) (by kernel_rfl) (SM.of hS) ?_ ?_; rotate_left; (focus (intro w hSw; (try dsimp only at hSw); refine Pure.val ?_; go_simp; (try with_reducible rfl); done)); try simp only [Act.put, List.setIfInBounds_toArray, List.set_cons_zero, List.set_cons_succ])
              refine Org.go rfl (by kernel_rfl) (by kernel_rfl) (fun K hK => ?_)
              go_simp
              refine (open_any T q.cols w.heap.size N gk gv vs B A1 nc c1 _ (HRKX.out.kv.below hS) (H3.out.below (hS.mono (by omega))) (Nat.le_trans (by omega) hS.size) HCQ.out (by omega) hnq).mono ?_
              rintro e w5 ⟨A5, c5, rfl, oi5, b5⟩
              have HOI5 := hid oi5
              have HBX5 := hid (hS.trans (b5.mono hS.size))
              have hz5 := (hS.trans (b5.mono hS.size)).size
              clear oi5 b5
              go_wp2_with fail
              refine hK.out _ _ HBX5.out (fun hS2 => ?_)
              clear hK K hS
              have hS := hS2
              clear hS2
              try simp only [Act.put, List.setIfInBounds_toArray, List.set_cons_zero, List.set_cons_succ]
              refine Org.go rfl (by kernel_rfl) (by kernel_rfl) (fun K hK => ?_)
              go_simp
              refine (rest_any T q w.heap.size N gk gv vs B A1 A2 c1 c2 nc nd _ (HRKX.out.kv.below hS) (H3.out.below (hS.mono (by omega))) (H6.out.below (hS.mono (by omega))) (Nat.le_trans (by omega) hS.size) HCQ.out (by omega) (fun c h0 hk => by rw [HFO.out.len c h0 hk, HNDD.out]) hndb hnq).mono ?_
              rintro e w6 ⟨A6, c6, rfl, ob6, b6⟩
              have HOB6 := hid ob6
              have HB6 := hid b6
              have HBX6 := hid (hS.trans (b6.mono hS.size))
              have hz6 := b6.size
              clear ob6 b6
              go_wp2_with fail
              refine hK.out _ _ HBX6.out (fun hS2 => ?_)
              clear hK K hS
              have hS := hS2
              clear hS2
              try simp only [Act.put, List.setIfInBounds_toArray, List.set_cons_zero, List.set_cons_succ]
              (refine Org.yes (v := ?_) rfl (by kernel_rfl) (by kernel_rfl) (by kernel_rfl) (by kernel_rfl) (by kernel_rfl) (fun _ _ _ h => h) (by kernel_rfl) (SM.of hS) ?_ ?_; rotate_left; (focus (intro w hSw; (try dsimp only at hSw); refine Pure.val ?_; go_simp; (try with_reducible rfl); done)); try simp only [Act.put, List.setIfInBounds_toArray, List.set_cons_zero, List.set_cons_succ])
              (refine Org.yes (v := ?_) rfl (by kernel_rfl) (by kernel_rfl) (by kernel_rfl) (by kernel_rfl) (by kernel_rfl) (fun _ _ _ h => h) (by kernel_rfl) (SM.of hS) ?_ ?_; rotate_left; (focus (intro w hSw; (try dsimp only at hSw); refine Pure.val ?_; go_simp; (try with_reducible rfl); done)); try simp only [Act.put, List.setIfInBounds_toArray, List.set_cons_zero, List.set_cons_succ])
              refine Org.done (by kernel_rfl) ?_
              obtain ⟨lo, hlo⟩ : ∃ lo, (T.opn q.cols).length = lo := ⟨_, rfl⟩
              have hoi5 := HOI5.out
              rw [hlo] at hoi5 ⊢
              have HLO := hid hlo
              have hlon : lo ≤ nc := by rw [← hlo, ← HNCQ.out]; exact List.length_filter_le _ _
              have HRK6 := hid (HRKX.out.below HBX6.out (by omega))
              have HOE6 := hid (HOEX.out.below HBX6.out (by omega))
              have HOI6 := hid ((show OI _ _ _ _ from own_base (base' := w.heap.size) hoi5 (by show w.heap.size ≤ wx.heap.size; omega)).below HB6.out)
              have HOB6b := hid (show OB _ _ _ _ from own_base (base' := w.heap.size) HOB6.out (by omega))
              have hz6x := HBX6.out.size
              clear hlo hoi5 hS
              by_cases hl0 : 0 < lo
              · have hne0 : T.opn q.cols ≠ [] := fun e9 => by
                  have := HLO.out
                  rw [e9] at this
                  simp at this
                  omega
                have hnx := HYES.out hne0
                have HNX := hid hnx
                have hlt9 : (0 : Int) < (lo : Int) := by omega
                clear hnx
                have hbq : Below w6.heap.size w6 (w6.alloc (.cells #[.slice A5 lo c5, .slice A6 nd c6] 27)) := (Below.refl _ _).alloc (Nat.le_refl _) _
                have HRKQ := hid (HRK6.out.below hbq (by omega))
                have HOEQ := hid (HOE6.out.below hbq (by omega))
                have howq := HOEQ.out.own
                rw [HMO.out] at howq
                have HOW := hid howq
                have HOI2 := hid ((show OI _ _ _ _ from HOI6.out).below hbq)
                have HOB2 := hid ((show OB _ _ _ _ from HOB6b.out).below hbq)
                have hszq : (w6.alloc (.cells #[.slice A5 lo c5, .slice A6 nd c6] 27)).heap.size = w6.heap.size + 1 := by simp
                clear hbq howq
                go_wp2_with (at_builtin; go_must (refine wpl_append rfl (.tmp 100) (.tmp 104) 22 rfl w.heap.size 27 ie (.agg #[.slice none 0 0, .slice none 0 0]) 2 48 Tryd.underlying22 hie hz0ie hz1ie hz2ie rfl (by omega) (.slice Ao mo co) mo (eqC ps') rfl HOW.out _ _ 1 1 [.slice A5 lo c5, .slice A6 nd c6] rfl (fresh2 _ _ _ _ _ (by simp)) (by simp [Value.oneCell']) (mo + 1) rfl _ rfl (by omega) (by omega) (by omega) ?_); intro A8 c8 w8 o8 g8 _)
                have hoe8 : OEqs w.heap.size w8 (.slice A8 (mo + 1) c8) (ps' ++ [(.slice A5 lo c5, .slice A6 nd c6)]) (T.left (rows.take (k + 1))) := by
                  rw [HNX.out]
                  refine HOEQ.out.app (ps2 := [(.slice A5 lo c5, .slice A6 nd c6)]) (rows2 := [⟨T.opn q.cols, T.rest q⟩]) rfl (fun i hi => ?_) ?_ g8 (by omega)
                  · obtain rfl : i = 0 := by simpa using hi
                    exact ⟨.inr (by have h9 := HOI2.out; rw [← HLO.out] at h9 ⊢; exact h9), .inr (by have h9 := HOB2.out; rw [← HRL.out] at h9 ⊢; exact h9)⟩
                  · rw [HMO.out]; exact o8
                have HRK8 := hid (HRKQ.out.app_ HOW.out g8 (by omega))
                have hz8 := g8.size
                have HOE8 := hid hoe8
                clear hoe8 o8 g8
                go_roundw
                case rel => exact ⟨k + 1, A8, mo + 1, c8, _, by omega, by go_num, rfl, hid (by rw [HNX.out, List.length_append, HMO.out]; rfl), HRK8.out, HOE8.out, by omega, hid (fun j hj ho9 => by
                  rcases Nat.lt_or_ge j k with h9 | h9
                  · exact HK.out j h9 ho9
                  · obtain rfl : j = k := by omega
                    rw [HQ.out] at ho9
                    exact absurd ho9 hne0)⟩
                case measure => simp [intOf]; omega
              · obtain rfl : lo = 0 := by omega
                have he0 : T.opn q.cols = [] := List.eq_nil_of_length_eq_zero HLO.out
                have hnx := HNO.out he0
                have HNX := hid hnx
                have HSR : Hid (Sl w6 w6.heap.size 1 A6 nd ((T.rest q).map bv8)) := hid (by
                  have h9 := HOB6b.out
                  unfold OB at h9
                  rw [HRL.out] at h9
                  exact Sl.own h9)
                clear hnx
                go_wp2_with fail
                refine (lead_any w6.heap.size A6 (T.rest q) nd c6 _ HSR.out hndb).mono ?_
                rintro e w8 ⟨z, rfl, rfl, hz9⟩
                rcases hz9 with ⟨rfl, hall9⟩ | ⟨hz0, hbad⟩
                · have HALL := hid hall9
                  clear hall9
                  go_wp2_with fail
                  go_roundw
                  case rel => exact ⟨k + 1, Ao, mo, co, ps', by omega, by go_num, rfl, hid (by rw [HNX.out]; exact HMO.out), HRK6.out, by rw [HNX.out]; exact HOE6.out, by omega, hid (fun j hj ho9 b hb9 => by
                    rcases Nat.lt_or_ge j k with h9 | h9
                    · exact HK.out j h9 ho9 b hb9
                    · obtain rfl : j = k := by omega
                      rw [HQ.out] at hb9
                      exact HALL.out b hb9)⟩
                  case measure => simp [intOf]; omega
                · have HBAD := hid hbad
                  clear hbad
                  go_wp2_with fail
                  refine bodyPost_ret (v := .tuple #[.slice none 0 0, .slice none 0 0, .slice none 0 0, .int .i64 10]) (by simp [results, Tryd.results14, go_sem]) rfl ⟨?_, .inr ⟨HR.out, T, HRKR.out.r, HFIN.out, .inl ⟨fun hs => ?_, rfl⟩⟩⟩
                  · exact HRK6.out.be
                  · obtain ⟨b, hb8, hb9⟩ := HBAD.out
                    exact hb9 (hs q HQM.out he0 b hb8)
            · obtain rfl : k = n := by omega
              have hall : rows.take k = rows := by rw [← HL.out, List.take_length]
              rw [hall] at HMO HOE
              clear hall
              go_wp2_with fail
              refine bodyPost_ret (v := .tuple #[.slice (some ⟨gk, 0, none⟩) N N, .slice (some ⟨gv, 0, none⟩) N N, .slice Ao mo co, .int .i64 0]) (by simp [results, Tryd.results14, go_sem]) rfl ⟨?_, .inr ⟨HR.out, T, HRKR.out.r, HFIN.out, .inr ⟨fun q hq ho9 => ?_, _, _, _, vs, ps', rfl, ?_, ?_, ?_⟩⟩⟩
              · exact hbr
              · obtain ⟨i, hi, rfl⟩ := List.getElem_of_mem hq
                have := HK.out i (by rw [← HL.out]; exact hi)
                rw [List.getD_eq_getElem?_getD, List.getElem?_eq_getElem hi] at this
                exact this ho9
              · have h9 := Row.own (base := w.heap.size) (size := 1) (n := N) (cap := N) HRKR.out.kv.k (by have := HRKR.out.kv.gek; omega) (Nat.le_refl _) (by unfold maxLen; omega) (by simp [HRKR.out.kv.kl])
                rw [List.take_of_length_le (by simp [HRKR.out.kv.kl])] at h9
                rw [HRKR.out.kv.kl]
                exact h9
              · have h9 := Row.own (base := w.heap.size) (size := 1) (n := N) (cap := N) HRKR.out.kv.v (by have := HRKR.out.kv.gev; omega) (Nat.le_refl _) (by unfold maxLen; omega) (by simp [HRKR.out.kv.vl])
                rw [List.take_of_length_le (by simp [HRKR.out.kv.vl])] at h9
                refine ⟨by rw [HRKR.out.kv.sl]; exact h9, fun i hi => ?_⟩
                exact HRKR.out.kv.at_ i (by rw [← HRKR.out.kv.sl]; exact hi)
              · exact HOE.out
end Go.Proofs.YtmefbbpcfphciaaDoor
