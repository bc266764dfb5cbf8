/- Peel: what is known, and what is left. -/
import Derived.Test.YtmefbbpcfphciaaDoorPeelGo
import Derived.Test.YtmefbbpcfphciaaDoorTrim
import Derived.Test.YtmefbbpcfphciaaDoorOpMake
import Derived.Test.YtmefbbpcfphciaaDoorOrdG
import Derived.Test.YtmefbbpcfphciaaDoorPeelA
import Derived.Test.YtmefbbpcfphciaaDoorPeelMade
namespace Wells
open Go Go.RowKit
theorem cols_lt {n : Int} {cols : List Int} (h : ColsOk n cols) : ∀ j i, i < j → j < cols.length → cols.getD i 0 < cols.getD j 0
  | 0, i, hi, _ => absurd hi (by omega)
  | j + 1, i, hi, hj => by
    have h1 := (h (j + 1) hj).2.2 (by omega)
    rw [Nat.add_sub_cancel] at h1
    rcases Nat.lt_or_ge i j with h9 | h9
    · have := cols_lt h j i h9 (by omega); omega
    · obtain rfl : i = j := by omega
      exact h1
theorem cols_nodup {n : Int} {cols : List Int} (h : ColsOk n cols) : cols.Nodup := by
  unfold List.Nodup
  rw [List.pairwise_iff_getElem]
  intro i j hi hj hij
  have := cols_lt h j i hij hj
  rw [List.getD_eq_getElem?_getD, List.getD_eq_getElem?_getD, List.getElem?_eq_getElem hi, List.getElem?_eq_getElem hj] at this
  simp only [Option.getD_some] at this
  omega
theorem right_of {n : Int} {rows : List Eqn} (h : RightP n rows) : Right n.toNat (rows.getD 0 default).data.length rows := by
  obtain ⟨h0, _, hr⟩ := h
  have at_ : ∀ q ∈ rows, ∃ i, i < rows.length ∧ rows.getD i default = q := fun q hq => by
    obtain ⟨i, hi, rfl⟩ := List.getElem_of_mem hq
    exact ⟨i, hi, by rw [List.getD_eq_getElem?_getD, List.getElem?_eq_getElem hi]; rfl⟩
  refine ⟨fun q hq c hc => ?_, fun q hq => ?_, fun q hq => ?_⟩
  · obtain ⟨i, hi, rfl⟩ := at_ q hq
    obtain ⟨j, hj, rfl⟩ := List.getElem_of_mem hc
    have := (hr i hi).1 j hj
    rw [List.getD_eq_getElem?_getD (l := (rows.getD i default).cols), List.getElem?_eq_getElem hj] at this
    simp only [Option.getD_some] at this
    omega
  · obtain ⟨i, hi, rfl⟩ := at_ q hq
    exact cols_nodup (hr i hi).1
  · obtain ⟨i, hi, rfl⟩ := at_ q hq
    exact (hr i hi).2
theorem left_take_yes {S : PSt} {rows : List Eqn} {k : Nat} (hk : k < rows.length) (h : S.opn (rows.getD k default).cols ≠ []) : S.left (rows.take (k + 1)) = S.left (rows.take k) ++ [⟨S.opn (rows.getD k default).cols, S.rest (rows.getD k default)⟩] := by
  unfold PSt.left
  rw [List.take_succ_eq_append_getElem hk, List.filter_append, List.map_append]
  rw [List.getD_eq_getElem?_getD, List.getElem?_eq_getElem hk] at h ⊢
  simp only [Option.getD_some] at h ⊢
  rw [List.filter_cons_of_pos (by simpa using h)]
  rfl
theorem left_take_no {S : PSt} {rows : List Eqn} {k : Nat} (hk : k < rows.length) (h : S.opn (rows.getD k default).cols = []) : S.left (rows.take (k + 1)) = S.left (rows.take k) := by
  unfold PSt.left
  rw [List.take_succ_eq_append_getElem hk, List.filter_append, List.map_append]
  rw [List.getD_eq_getElem?_getD, List.getElem?_eq_getElem hk] at h
  simp only [Option.getD_some] at h
  rw [List.filter_cons_of_neg (by simp [h])]
  simp
theorem left_le (S : PSt) (rows : List Eqn) : (S.left rows).length ≤ rows.length := by unfold PSt.left; rw [List.length_map]; exact List.length_filter_le _ _
end Wells
namespace Go.Proofs.YtmefbbpcfphciaaDoor
open Go.RowKit Wells
/-- the peeler at its start -/
structure PelS (w wx : World) (N gp gk gv n c : Nat) (A : Option Addr) : Prop where
  kv : KV w.heap.size N wx gk gv (List.replicate N (.slice none 0 0)) (PSt.new N)
  p : Row wx gp 53 [.slice A n c, .slice (some ⟨gk, 0, none⟩) N N, .slice (some ⟨gv, 0, none⟩) N N]
  be : Below w.heap.size w wx
  ne : gk ≠ gv
  ge : w.heap.size ≤ gp
theorem kv_new {base : Nat} {wx : World} {N gk gv : Nat} (h1 : Row wx gk 4 (List.replicate N (.bool false))) (h2 : Row wx gv 24 (List.replicate N (.slice none 0 0))) (hk : base ≤ gk) (hv : base ≤ gv) : KV base N wx gk gv (List.replicate N (.slice none 0 0)) (PSt.new N) :=
  ⟨by unfold PSt.new; rw [List.map_replicate]; exact h1, h2, by simp [PSt.new], by simp, by simp [PSt.new], fun i hi => by
    unfold PSt.new
    rw [List.getD_eq_getElem?_getD, List.getD_eq_getElem?_getD, List.getElem?_replicate, List.getElem?_replicate, if_pos hi, if_pos hi]
    exact World.ownsRow_nil _ _ _ _, hk, hv⟩
theorem pels_mk (w wx : World) (N gp gk gv n c : Nat) (A : Option Addr) (h1 : Row wx gk 4 (List.replicate N (.bool false))) (h2 : Row wx gv 24 (List.replicate N (.slice none 0 0)))
    (h3 : Row wx gp 53 [.slice A n c, .slice (some ⟨gk, 0, none⟩) N N, .slice (some ⟨gv, 0, none⟩) N N]) (hk : w.heap.size ≤ gk) (hv : w.heap.size ≤ gv) (hne : gk ≠ gv) (hge : w.heap.size ≤ gp) (hb : Below w.heap.size w wx) : PelS w wx N gp gk gv n c A :=
  ⟨kv_new h1 h2 hk hv, h3, hb, hne, hge⟩
theorem row_ne_t {w : World} {g g' : Nat} {t t' : TypeId} {cs cs' : List Value} (h : Row w g t cs) (h' : Row w g' t' cs') (hn : t ≠ t') : g ≠ g' := fun e => by
  subst e
  unfold Row at h h'
  rw [h] at h'
  injection h' with h'
  injection h' with _ h'
  exact hn h'
theorem fresh2 (w : World) (x y : Value) (t : TypeId) (g : Nat) (hg : w.heap.size = g) : Sl (w.alloc (.cells #[x, y] t)) (g + 1) 2 (some ⟨g, 0, none⟩) 1 [x, y] := by
  subst hg
  exact ⟨rfl, fun _ => ⟨_, 0, rfl, by omega, fun j u hu => by
    rw [Nat.zero_add, cell_of_row _ _ j #[x, y] t (0, 0) (heap_alloc_new w _)]
    simpa using hu⟩⟩
section
variable {base N : Nat} {w0 w w' : World} {gp gk gv n c : Nat} {A : Option Addr} {rows : List Eqn} {vs : List Value} {S : PSt}
theorem PS.drewN_ (h : PS base N w0 w gp gk gv n c A rows vs S) (d : Nat) : PS base N w0 (w.drewN d) gp gk gv n c A rows vs S :=
  ⟨h.r, h.kv.below (below_drewN (Below.refl _ _) d), h.p, below_drewN h.be d⟩
/-- rows of another list grow -/
theorem PS.app_ {v : Value} {m : Nat} {xs : List Value} (h : PS base N w0 w gp gk gv n c A rows vs S) (ho : w.ownsRow base 27 2 v m xs) (hg : w.grownBy w' v.ownBlock) (hs : base ≤ w.heap.size) : PS base N w0 w' gp gk gv n c A rows vs S := by
  have fa : ∀ {g : Nat} {t : TypeId} {cs : List Value}, Row w g t cs → 27 ≠ t → some g ≠ v.ownBlock := fun hr hne e => by
    rcases own_ne ho hr hne with e1 | e1
    · rw [e1] at e; cases e
    · exact e1 e.symm
  exact ⟨h.r, ⟨h.kv.k.grown hg (fa h.kv.k (by decide)), h.kv.v.grown hg (fa h.kv.v (by decide)), h.kv.kl, h.kv.vl, h.kv.sl, fun i hi => (h.kv.at_ i hi).keep hg (own_other (h.kv.at_ i hi) ho (by decide)), h.kv.gek, h.kv.gev⟩, h.p.grown hg (fa h.p (by decide)), h.be.grown hg hs (fun k hk => (ho.lt k hk).1)⟩
end
/-- what Peel answers -/
def PeelR (w : World) (m : Int) (rows : List Eqn) (e : Ending) (w' : World) : Prop :=
  Below w.heap.size w w' ∧ ((¬ RightP m rows ∧ e = .returned (.tuple #[.slice none 0 0, .slice none 0 0, .slice none 0 0, .int .i64 1])) ∨ (RightP m rows ∧ ∃ T, Wells.Reach m.toNat rows T ∧ Final rows T ∧
    ((¬ Sound rows T ∧ e = .returned (.tuple #[.slice none 0 0, .slice none 0 0, .slice none 0 0, .int .i64 10])) ∨
     (Sound rows T ∧ ∃ vk vv vr vs ps, e = .returned (.tuple #[vk, vv, vr, .int .i64 0]) ∧ w'.ownsRow w.heap.size 4 1 vk T.known.length (T.known.map Value.bool) ∧ OBs w.heap.size w' vv vs T.vals ∧ OEqs w.heap.size w' vr ps (T.left rows)))))
set_option maxRecDepth 20000 in
set_option maxHeartbeats 1000000 in
theorem peel_any (m : Int) (B : Nat) (A : Option Addr) (n c : Nat) (ps : List (Value × Value)) (rows : List Eqn) (w : World) (h : REqs w B A n ps rows) (hB : B ≤ w.heap.size) (hn : n ≤ 1048576)
    (hm : -9223372036854775808 ≤ m ∧ m ≤ 9223372036854775807) (hz : ∀ q ∈ rows, ∀ x ∈ q.cols, -9223372036854775808 ≤ x ∧ x ≤ 9223372036854775807) (hnc : ∀ q ∈ rows, q.cols.length ≤ 1048576) (hnd : ∀ q ∈ rows, q.data.length ≤ 1048576) :
    Calls Tryd.prog 13 #[.int .i64 m, .slice A n c] w (PeelR w m rows) := by
  obtain ⟨ib, hib, hz0ib, hz1ib, hz2ib⟩ := info_parts infoBool
  obtain ⟨iw, hiw, hz0iw, hz1iw, hz2iw⟩ := info_parts infoBs
  obtain ⟨ie, hie, hz0ie, hz1ie, hz2ie⟩ := info_parts infoEq
  have H := hid h
  have HL := hid h.len
  have HNC := hid hnc
  have HND := hid hnd
  have HZ := hid hz
  by_cases hr : RightP m rows
  · have HR := hid hr
    have hC := right_any true m B A n c ps rows w h hB (by omega) hm hz ⟨fun _ => hr, fun _ => rfl⟩
    have HC := hid hC
    have hrt := right_of hr
    obtain ⟨h0, h64, _⟩ := hr
    obtain ⟨N, rfl⟩ := Int.eq_ofNat_of_zero_le h0
    rw [Int.toNat_natCast] at hrt
    obtain ⟨D, hD⟩ : ∃ D, (rows.getD 0 default).data.length = D := ⟨_, rfl⟩
    rw [hD] at hrt
    have hDb : D ≤ 1048576 := by
      rw [← hD]
      rcases Nat.eq_zero_or_pos rows.length with h9 | h9
      · rw [List.eq_nil_of_length_eq_zero h9]; exact Nat.zero_le _
      · exact HND.out _ (by rw [List.getD_eq_getElem?_getD, List.getElem?_eq_getElem h9]; exact List.getElem_mem _)
    have HRT := hid hrt
    clear h hnc hnd hz hC hrt hD h0
    go_enter Tryd.func13, Tryd.ntmps13
    go_wp2_with fail
    refine HC.out.mono ?_
    rintro e w1 ⟨rfl, b1⟩
    have hzz := b1.size
    have H1 := hid (H.out.below (b1.mono hB))
    go_upto_region 3 with fail
    go_cut [8] (fun s8 wx => ∃ gp gk gv : Nat, s8 = .pointer (some ⟨gp, 0, none⟩) ∧ PelS w wx N gp gk gv n c A)
    case first =>
      refine Org.begin [] (fun w' => Below w.heap.size w w') [0, 1, 3] (by kernel_rfl) (below_drew' b1) (fun hS => ?_)
      (refine Org.yes (v := ?_) rfl (by kernel_rfl) (by kernel_rfl) (by kernel_rfl) (by kernel_rfl) (by kernel_rfl) (fun _ _ _ h => h) (by kernel_rfl) (SM.of hS) ?_ ?_; rotate_left; (focus (intro w hSw; (try dsimp only at hSw); refine Pure.val ?_; go_simp; (try with_reducible rfl); done)); try simp only [Act.put, List.setIfInBounds_toArray, List.set_cons_zero, List.set_cons_succ])
      (refine Org.yes (v := ?_) rfl (by kernel_rfl) (by kernel_rfl) (by kernel_rfl) (by kernel_rfl) (by kernel_rfl) (fun _ _ _ h => h) (by kernel_rfl) (SM.of hS) ?_ ?_; rotate_left; (focus (intro w hSw; (try dsimp only at hSw); refine Pure.val ?_; go_simp; (try with_reducible rfl); done)); try simp only [Act.put, List.setIfInBounds_toArray, List.set_cons_zero, List.set_cons_succ])
      (refine Org.yes (v := ?_) rfl (by kernel_rfl) (by kernel_rfl) (by kernel_rfl) (by kernel_rfl) (by kernel_rfl) (fun _ _ _ h => h) (by kernel_rfl) (SM.of hS) ?_ ?_; rotate_left; (focus (intro w hSw; (try dsimp only at hSw); refine Pure.val ?_; go_simp; (try with_reducible rfl); done)); try simp only [Act.put, List.setIfInBounds_toArray, List.set_cons_zero, List.set_cons_succ])
      refine Org.two (i := 2) (j := 4) [4, 5, 6, 7] [2, 5, 6, 7] rfl rfl (by kernel_rfl) (by kernel_rfl) (by kernel_rfl) (fun K hK => ?_) (fun K hK => ?_)
      · skip
        (refine op_make (.tmp 17) (.tmp 17) 35 (by rfl) 4 ib (.bool false) 1 Tryd.underlying35 hib hz0ib hz1ib hz2ib rfl .i64 .i64 (N : Int) (N : Int) N N (by rfl) (by rfl) rfl rfl (Nat.le_refl _) (by omega) (by omega) ?_)
        intro wk rk bk sk
        refine hK.out _ _ (hS.trans (bk.mono hS.size)) (fun hS2 => ?_)
        clear hK K hS
        have hS := hS2
        clear hS2
        try simp only [Act.put, List.setIfInBounds_toArray, List.set_cons_zero, List.set_cons_succ]
        refine Org.go rfl (by kernel_rfl) (by kernel_rfl) (fun K hK => ?_)
        (refine op_make (.tmp 19) (.tmp 19) 30 (by rfl) 24 iw (.slice none 0 0) 24 Tryd.underlying30 hiw hz0iw hz1iw hz2iw rfl .i64 .i64 (N : Int) (N : Int) N N (by rfl) (by rfl) rfl rfl (Nat.le_refl _) (by omega) (by omega) ?_)
        intro wv rv bv sv
        refine hK.out _ _ (hS.trans (bv.mono hS.size)) (fun hS2 => ?_)
        clear hK K hS
        have hS := hS2
        clear hS2
        try simp only [Act.put, List.setIfInBounds_toArray, List.set_cons_zero, List.set_cons_succ]
        (refine Org.yes (v := ?_) rfl (by kernel_rfl) (by kernel_rfl) (by kernel_rfl) (by kernel_rfl) (by kernel_rfl) (fun _ _ _ h => h) (by kernel_rfl) (SM.of hS) ?_ ?_; rotate_left; (focus (intro w hSw; (try dsimp only at hSw); refine Pure.val ?_; go_simp; (try with_reducible rfl); done)); try simp only [Act.put, List.setIfInBounds_toArray, List.set_cons_zero, List.set_cons_succ])
        refine Org.go rfl (by kernel_rfl) (by kernel_rfl) (fun K hK => ?_)
        go_simp
        refine hK.out _ _ (hS.alloc hS.size _) (fun hS2 => ?_)
        clear hK K hS
        have hS := hS2
        clear hS2
        try simp only [Act.put, List.setIfInBounds_toArray, List.set_cons_zero, List.set_cons_succ]
        (refine Org.yes (v := ?_) rfl (by kernel_rfl) (by kernel_rfl) (by kernel_rfl) (by kernel_rfl) (by kernel_rfl) (fun _ _ _ h => h) (by kernel_rfl) (SM.of hS) ?_ ?_; rotate_left; (focus (intro w hSw; (try dsimp only at hSw); refine Pure.val ?_; go_simp; (try with_reducible rfl); done)); try simp only [Act.put, List.setIfInBounds_toArray, List.set_cons_zero, List.set_cons_succ])
        refine Org.done (by kernel_rfl) ?_
        have e1 : wk.heap.size = w1.heap.size + 1 := sk
        have e2 : wv.heap.size = w1.heap.size + 1 + 1 := by rw [sv, e1]
        have rp := Row.new wv 53 #[.slice A n c, .slice (some ⟨w1.heap.size, 0, none⟩) N N, .slice (some ⟨(w1.heap.size + 1), 0, none⟩) N N]
        rw [e2] at rp
        rw [e1] at rv
        go_wp2_with fail
        go_meet
        exact ⟨w1.heap.size + 1 + 1, w1.heap.size, (w1.heap.size + 1), rfl, pels_mk w _ N _ _ _ n c A ((rk.below bv rk.lt).alloc _) (rv.alloc _) rp (by omega) (by omega) (by omega) (by omega) hS⟩
      · skip
        (refine op_make (.tmp 19) (.tmp 19) 30 (by rfl) 24 iw (.slice none 0 0) 24 Tryd.underlying30 hiw hz0iw hz1iw hz2iw rfl .i64 .i64 (N : Int) (N : Int) N N (by rfl) (by rfl) rfl rfl (Nat.le_refl _) (by omega) (by omega) ?_)
        intro wv rv bv sv
        refine hK.out _ _ (hS.trans (bv.mono hS.size)) (fun hS2 => ?_)
        clear hK K hS
        have hS := hS2
        clear hS2
        try simp only [Act.put, List.setIfInBounds_toArray, List.set_cons_zero, List.set_cons_succ]
        refine Org.go rfl (by kernel_rfl) (by kernel_rfl) (fun K hK => ?_)
        (refine op_make (.tmp 17) (.tmp 17) 35 (by rfl) 4 ib (.bool false) 1 Tryd.underlying35 hib hz0ib hz1ib hz2ib rfl .i64 .i64 (N : Int) (N : Int) N N (by rfl) (by rfl) rfl rfl (Nat.le_refl _) (by omega) (by omega) ?_)
        intro wk rk bk sk
        refine hK.out _ _ (hS.trans (bk.mono hS.size)) (fun hS2 => ?_)
        clear hK K hS
        have hS := hS2
        clear hS2
        try simp only [Act.put, List.setIfInBounds_toArray, List.set_cons_zero, List.set_cons_succ]
        (refine Org.yes (v := ?_) rfl (by kernel_rfl) (by kernel_rfl) (by kernel_rfl) (by kernel_rfl) (by kernel_rfl) (fun _ _ _ h => h) (by kernel_rfl) (SM.of hS) ?_ ?_; rotate_left; (focus (intro w hSw; (try dsimp only at hSw); refine Pure.val ?_; go_simp; (try with_reducible rfl); done)); try simp only [Act.put, List.setIfInBounds_toArray, List.set_cons_zero, List.set_cons_succ])
        refine Org.go rfl (by kernel_rfl) (by kernel_rfl) (fun K hK => ?_)
        go_simp
        refine hK.out _ _ (hS.alloc hS.size _) (fun hS2 => ?_)
        clear hK K hS
        have hS := hS2
        clear hS2
        try simp only [Act.put, List.setIfInBounds_toArray, List.set_cons_zero, List.set_cons_succ]
        (refine Org.yes (v := ?_) rfl (by kernel_rfl) (by kernel_rfl) (by kernel_rfl) (by kernel_rfl) (by kernel_rfl) (fun _ _ _ h => h) (by kernel_rfl) (SM.of hS) ?_ ?_; rotate_left; (focus (intro w hSw; (try dsimp only at hSw); refine Pure.val ?_; go_simp; (try with_reducible rfl); done)); try simp only [Act.put, List.setIfInBounds_toArray, List.set_cons_zero, List.set_cons_succ])
        refine Org.done (by kernel_rfl) ?_
        have e1 : wv.heap.size = w1.heap.size + 1 := sv
        have e2 : wk.heap.size = w1.heap.size + 1 + 1 := by rw [sk, e1]
        have rp := Row.new wk 53 #[.slice A n c, .slice (some ⟨(w1.heap.size + 1), 0, none⟩) N N, .slice (some ⟨w1.heap.size, 0, none⟩) N N]
        rw [e2] at rp
        rw [e1] at rk
        go_wp2_with fail
        go_meet
        exact ⟨w1.heap.size + 1 + 1, (w1.heap.size + 1), w1.heap.size, rfl, pels_mk w _ N _ _ _ n c A (rk.alloc _) ((rv.below bk rv.lt).alloc _) rp (by omega) (by omega) (by omega) (by omega) hS⟩
    case rest =>
    obtain ⟨gp, gk, gv, rfl, hps⟩ := hcut
    have HPS := hid hps
    have hzc := hps.be.size
    clear hps
    obtain ⟨w2, hw2⟩ : ∃ x, wc = x := ⟨_, rfl⟩
    rw [hw2] at HPS hzc ⊢
    clear hw2
    have hpt : PS w.heap.size N w2 w2 gp gk gv n c A rows (List.replicate N (.slice none 0 0)) (PSt.new N) := ⟨.start, HPS.out.kv, HPS.out.p, Below.refl _ _⟩
    have npk : gp ≠ gk := row_ne_t HPS.out.p HPS.out.kv.k (by decide)
    have npv : gp ≠ gv := row_ne_t HPS.out.p HPS.out.kv.v (by decide)
    have HPT := hid hpt
    have H2 := hid (H.out.below (HPS.out.be.mono (by omega)))
    have hgp := HPS.out.ge
    have hne := HPS.out.ne
    clear hpt
    go_wp2_with fail
    refine (all_any (PSt.new N) D w.heap.size N gp gk gv _ B A n c ps rows w2 HPT.out H2.out (by omega) hzc HRT.out (by omega) hn HNC.out hDb hne npk npv hgp).mono ?_
    rintro e w3 ⟨rfl, ⟨vs, T, hfin, hps3⟩, hz3⟩
    have HFIN := hid hfin
    have HPS3 := hid hps3
    clear hfin hps3 HPT
    go_wp2_with fail
    go_loopw [6, 27] (fun v i wr => ∃ (k : Nat) (Ao : Option Addr) (mo co : Nat) (ps' : List (Value × Value)), k ≤ n ∧ i = .int .i64 (k : Int) ∧ v = .slice Ao mo co ∧ Hid ((T.left (rows.take k)).length = mo) ∧ PS w.heap.size N w2 wr gp gk gv n c A rows vs T ∧ OEqs w.heap.size wr (.slice Ao mo co) ps' (T.left (rows.take k)) ∧ w2.heap.size ≤ wr.heap.size ∧ Hid (∀ j, j < k → T.opn (rows.getD j default).cols = [] → ∀ b ∈ T.rest (rows.getD j default), b = 0#8)) (fun _ i _ => n - (intOf i).toNat)
    case atStart => exact ⟨0, none, 0, 0, [], Nat.zero_le _, rfl, rfl, hid rfl, HPS3.out, OEqs.nil_ _ _, hz3, hid (fun j hj => absurd hj (by omega))⟩
    case round =>
      obtain ⟨k, Ao, mo, co, ps', hk, rfl, rfl, HMO, hps, hoe, hzr, HK⟩ := hrel
      have HPSR := hid hps
      have HOE := hid hoe
      have hmok : mo ≤ k := by rw [← HMO.out]; exact Nat.le_trans (left_le _ _) (List.length_take_le _ _)
      have hb1r : Below w.heap.size w wr := HPS.out.be.trans (hps.be)
      have HB1R := hid hb1r
      clear hps hoe
      by_cases hlt : k < n
      · have hre := H.out.below (hb1r.mono (by omega : B ≤ w.heap.size))
        obtain ⟨bb, o, A1, c1, A2, c2, eA, hbb, e0, e1, h1, h2, h3, h4, h5, h6⟩ := hre.get hlt
        subst eA
        have hkr : k < rows.length := by rw [HL.out]; exact hlt
        have hqm : rows.getD k default ∈ rows := by rw [List.getD_eq_getElem?_getD, List.getElem?_eq_getElem hkr]; exact List.getElem_mem _
        have hcq := HRT.out.rng _ hqm
        have hnq := HNC.out _ hqm
        have hdq := HRT.out.len _ hqm
        have hyes := left_take_yes (S := T) hkr
        have hno := left_take_no (S := T) hkr
        obtain ⟨q, hq⟩ : ∃ q, rows.getD k default = q := ⟨_, rfl⟩
        rw [hq] at e0 e1 h1 h3 h4 h6 hcq hnq hdq hqm hyes hno
        have HQ := hid hq
        obtain ⟨nc, hnc⟩ : ∃ nc, q.cols.length = nc := ⟨_, rfl⟩
        obtain ⟨nd, hnd⟩ : ∃ nd, q.data.length = nd := ⟨_, rfl⟩
        rw [hnc] at e0 h1 h3 hnq
        rw [hnd] at e1 h4 h6
        have HNDD : Hid (nd = D) := hid (by rw [← hnd]; exact hdq)
        have hndb : nd ≤ 1048576 := by have := HNDD.out; omega
        have hform := HPSR.out.r.form HRT.out
        have hx := Row.new wr 27 #[.slice A1 nc c1, .slice A2 nd c2]
        have hbx : Below wr.heap.size wr (wr.alloc (.cells #[.slice A1 nc c1, .slice A2 nd c2] 27)) := (Below.refl _ _).alloc (Nat.le_refl _) _
        have x0 := hx.cell 0
        have x1 := hx.cell 1
        simp only [List.getElem?_cons_succ, List.getElem?_cons_zero] at x0 x1
        have hbz : w.heap.size ≤ wr.heap.size := by omega
        have hpsx := HPSR.out.below hbx hbz
        have HPSX := hid hpsx
        have HOEX := hid (HOE.out.below hbx hbz)
        have H3 := hid (h3.below (hbx.mono (by omega)))
        have H6 := hid (h6.below (hbx.mono (by omega)))
        have HCQ := hid hcq
        have HNCQ := hid hnc
        have HNDQ := hid hnd
        have HFO := hid hform
        have HQM := hid hqm
        have HYES := hid hyes
        have HNO := hid hno
        have hrl : (T.rest q).length = nd := by
          have h9 := foldl_len hform.len q.cols q.data (fun c hc => (hcq c hc).1) hdq
          rw [HNDD.out]; exact h9
        have HRL := hid hrl
        have hszx : (wr.alloc (.cells #[.slice A1 nc c1, .slice A2 nd c2] 27)).heap.size = wr.heap.size + 1 := by simp
        clear hyes hno hre hq hnc hnd h3 h6 hcq hqm hx hbx hpsx hform hdq hb1r hrl
        go_wp2_with fail
        generalize wr.alloc (.cells #[.slice A1 nc c1, .slice A2 nd c2] 27) = wx at *
        refine (left_any q T w.heap.size N gp gk gv vs (.slice (some ⟨bb, o, none⟩) n c) B A1 A2 c1 c2 nc nd wx HPSX.out.p HPSX.out.kv H3.out H6.out HNCQ.out HNDQ.out (by omega) HCQ.out (by omega) (fun c h0 hk => by rw [HFO.out.len c h0 hk, HNDD.out]) (by omega) hnq).mono ?_
        rintro e w4 ⟨A1', c1', A2', c2', rfl, hoi, hob, b4⟩
        obtain ⟨lo, hlo⟩ : ∃ lo, (T.opn q.cols).length = lo := ⟨_, rfl⟩
        rw [hlo, HNDQ.out]
        rw [hlo] at hoi
        rw [HNDQ.out] at hob
        have HLO := hid hlo
        have hlon : lo ≤ nc := by rw [← hlo, ← HNCQ.out]; exact List.length_filter_le _ _
        have hz4 := b4.size
        have hx4 := Row.new w4 27 #[.slice A1' lo c1', .slice A2' nd c2']
        have hb4 : Below w4.heap.size w4 (w4.alloc (.cells #[.slice A1' lo c1', .slice A2' nd c2'] 27)) := (Below.refl _ _).alloc (Nat.le_refl _) _
        have y0 := hx4.cell 0
        have y1 := hx4.cell 1
        simp only [List.getElem?_cons_succ, List.getElem?_cons_zero] at y0 y1
        have hb49 := b4.trans (hb4.mono hz4)
        have HPSY := hid (HPSX.out.below hb49 (by omega))
        have HOEY := hid (HOEX.out.below hb49 (by omega))
        have HOI := hid (own_base (base' := w.heap.size) ((show OI _ _ _ _ from hoi).below hb4) (by omega))
        have HOB := hid (own_base (base' := w.heap.size) ((show OB _ _ _ _ from hob).below hb4) (by omega))
        have hszy : (w4.alloc (.cells #[.slice A1' lo c1', .slice A2' nd c2'] 27)).heap.size = w4.heap.size + 1 := by simp
        clear hlo hoi hob b4 hx4 hb4 hb49
        by_cases hl0 : 0 < lo
        · have hne0 : T.opn q.cols ≠ [] := fun e9 => by
            have := HLO.out
            rw [e9] at this
            simp at this
            omega
          have hnx := HYES.out hne0
          have HNX := hid hnx
          have hlt9 : (0 : Int) < (lo : Int) := by omega
          clear hnx
          have hbq : Below (w4.alloc (.cells #[.slice A1' lo c1', .slice A2' nd c2'] 27)).heap.size (w4.alloc (.cells #[.slice A1' lo c1', .slice A2' nd c2'] 27)) ((w4.alloc (.cells #[.slice A1' lo c1', .slice A2' nd c2'] 27)).alloc (.cells #[.slice A1' lo c1', .slice A2' nd c2'] 27)) := (Below.refl _ _).alloc (Nat.le_refl _) _
          have HPSQ := hid (HPSY.out.below hbq (by omega))
          have HOEQ := hid (HOEY.out.below hbq (by omega))
          have howq := HOEQ.out.own
          rw [HMO.out] at howq
          have HOW := hid howq
          have HOI2 := hid ((show OI _ _ _ _ from HOI.out).below hbq)
          have HOB2 := hid ((show OB _ _ _ _ from HOB.out).below hbq)
          have hszq : ((w4.alloc (.cells #[.slice A1' lo c1', .slice A2' nd c2'] 27)).alloc (.cells #[.slice A1' lo c1', .slice A2' nd c2'] 27)).heap.size = (w4.alloc (.cells #[.slice A1' lo c1', .slice A2' nd c2'] 27)).heap.size + 1 := by simp
          clear hbq howq
          go_wp2_with (at_builtin; go_must (refine wpl_append rfl (.tmp 38) (.tmp 40) 22 rfl w.heap.size 27 ie (.agg #[.slice none 0 0, .slice none 0 0]) 2 48 Tryd.underlying22 hie hz0ie hz1ie hz2ie rfl (by omega) (.slice Ao mo co) mo (eqC ps') rfl HOW.out _ _ 1 1 [.slice A1' lo c1', .slice A2' nd c2'] rfl (fresh2 _ _ _ _ _ (by simp)) (by simp [Value.oneCell']) (mo + 1) rfl _ rfl (by omega) (by omega) (by omega) ?_); intro A6 c6 w6 o6 g6 _)
          have hoe6 : OEqs w.heap.size w6 (.slice A6 (mo + 1) c6) (ps' ++ [(.slice A1' lo c1', .slice A2' nd c2')]) (T.left (rows.take (k + 1))) := by
            rw [HNX.out]
            refine HOEQ.out.app (ps2 := [(.slice A1' lo c1', .slice A2' nd c2')]) (rows2 := [⟨T.opn q.cols, T.rest q⟩]) rfl (fun i hi => ?_) ?_ g6 (by omega)
            · obtain rfl : i = 0 := by simpa using hi
              exact ⟨.inr (by have h9 := HOI2.out; rw [← HLO.out] at h9 ⊢; exact h9), .inr (by have h9 := HOB2.out; rw [← HRL.out] at h9 ⊢; exact h9)⟩
            · rw [HMO.out]; exact o6
          have hps6 : PS w.heap.size N w2 w6 gp gk gv n (_) (some ⟨bb, o, none⟩) rows vs T := HPSQ.out.app_ HOW.out g6 (by omega)
          have hz6 := g6.size
          have HOE6 := hid hoe6
          have HPS6 := hid hps6
          clear hoe6 hps6 o6 g6
          go_roundw
          case rel => exact ⟨k + 1, A6, mo + 1, c6, _, by omega, by go_num, rfl, hid (by rw [HNX.out, List.length_append, HMO.out]; rfl), HPS6.out, HOE6.out, by omega, hid (fun j hj ho9 => by
            rcases Nat.lt_or_ge j k with h9 | h9
            · exact HK.out j h9 ho9
            · obtain rfl : j = k := by omega
              rw [HQ.out] at ho9
              exact absurd ho9 hne0)⟩
          case measure => simp [intOf]; omega
        · obtain rfl : lo = 0 := by omega
          have he0 : T.opn q.cols = [] := List.eq_nil_of_length_eq_zero HLO.out
          have hnx := HNO.out he0
          have HNX := hid hnx
          have HSR : Hid (Sl (w4.alloc (.cells #[.slice A1' 0 c1', .slice A2' nd c2'] 27)) (w4.alloc (.cells #[.slice A1' 0 c1', .slice A2' nd c2'] 27)).heap.size 1 A2' nd ((T.rest q).map bv8)) := hid (by
            have h9 := HOB.out
            rw [HRL.out] at h9
            exact Sl.own h9)
          have h9 := HOB.out
          rw [HRL.out] at h9
          have hcap := own_cap h9
          clear h9
          obtain ⟨hcap1, hcap2⟩ := hcap
          clear hnx
          go_wp2_with fail
          by_cases hz0 : ∀ i, i < (T.rest q).length → (T.rest q).getD i 0 = 0#8
          · refine (nought_any true _ A2' (T.rest q) nd c2' _ HSR.out hcap1 hcap2 (iff_of_true rfl hz0)).mono ?_
            rintro e w6 ⟨rfl, d, rfl⟩
            have HZ0 := hid hz0
            clear hz0
            go_wp2_with fail
            go_roundw
            case rel => exact ⟨k + 1, Ao, mo, co, ps', by omega, by go_num, rfl, hid (by rw [HNX.out]; exact HMO.out), HPSY.out.drewN_ d, by rw [HNX.out]; exact HOEY.out.below (below_drewN (Below.refl _ _) d) (by omega), by simp [World.drewN]; omega, hid (fun j hj ho9 b hb9 => by
              rcases Nat.lt_or_ge j k with h9 | h9
              · exact HK.out j h9 ho9 b hb9
              · obtain rfl : j = k := by omega
                rw [HQ.out] at hb9
                obtain ⟨i, hi, rfl⟩ := List.getElem_of_mem hb9
                have := HZ0.out i hi
                rwa [List.getD_eq_getElem?_getD, List.getElem?_eq_getElem hi] at this)⟩
            case measure => simp [intOf]; omega
          · refine (nought_any false _ A2' (T.rest q) nd c2' _ HSR.out hcap1 hcap2 (iff_of_false (fun h9 => Bool.noConfusion h9) hz0)).mono ?_
            rintro e w6 ⟨rfl, d, rfl⟩
            have HZ0 := hid hz0
            clear hz0
            go_wp2_with fail
            refine bodyPost_ret (v := .tuple #[.slice none 0 0, .slice none 0 0, .slice none 0 0, .int .i64 10]) (by simp [results, Tryd.results13, go_sem]) rfl ⟨?_, .inr ⟨HR.out, T, HPSR.out.r, HFIN.out, .inl ⟨fun hs => ?_, rfl⟩⟩⟩
            · exact below_drewN (HPS.out.be.trans HPSY.out.be) d
            · refine HZ0.out (fun i hi => ?_)
              have := hs q HQM.out he0 ((T.rest q)[i]) (List.getElem_mem _)
              rw [List.getD_eq_getElem?_getD, List.getElem?_eq_getElem hi]
              exact this
      · obtain rfl : k = n := by omega
        have hall : rows.take k = rows := by rw [← HL.out, List.take_length]
        rw [hall] at HMO HOE
        have p1 := HPSR.out.p.cell 1
        have p2 := HPSR.out.p.cell 2
        simp only [List.getElem?_cons_succ, List.getElem?_cons_zero] at p1 p2
        clear hall hb1r
        go_wp2_with fail
        go_quiet (fail)
        go_wp2_with fail
        refine bodyPost_ret (v := .tuple #[.slice (some ⟨gk, 0, none⟩) N N, .slice (some ⟨gv, 0, none⟩) N N, .slice Ao mo co, .int .i64 0]) (by simp [results, Tryd.results13, go_sem]) rfl ⟨?_, .inr ⟨HR.out, T, HPSR.out.r, HFIN.out, .inr ⟨fun q hq ho9 => ?_, _, _, _, vs, ps', rfl, ?_, ?_, ?_⟩⟩⟩
        · exact below_drewN HB1R.out _
        · obtain ⟨i, hi, rfl⟩ := List.getElem_of_mem hq
          have := HK.out i (by rw [← HL.out]; exact hi)
          rw [List.getD_eq_getElem?_getD, List.getElem?_eq_getElem hi] at this
          exact this ho9
        · have h9 := Row.own (base := w.heap.size) (size := 1) (n := N) (cap := N) HPSR.out.kv.k (by have := HPSR.out.kv.gek; omega) (Nat.le_refl _) (by unfold maxLen; omega) (by simp [HPSR.out.kv.kl])
          rw [List.take_of_length_le (by simp [HPSR.out.kv.kl])] at h9
          rw [HPSR.out.kv.kl]
          exact h9
        · have h9 := Row.own (base := w.heap.size) (size := 1) (n := N) (cap := N) HPSR.out.kv.v (by have := HPSR.out.kv.gev; omega) (Nat.le_refl _) (by unfold maxLen; omega) (by simp [HPSR.out.kv.vl])
          rw [List.take_of_length_le (by simp [HPSR.out.kv.vl])] at h9
          refine ⟨by rw [HPSR.out.kv.sl]; exact h9, fun i hi => ?_⟩
          exact own_base ((HPSR.out.kv.at_ i (by rw [← HPSR.out.kv.sl]; exact hi)).below (below_drewN (Below.refl _ _) _)) (by omega)
        · exact (HOE.out.below (below_drewN (Below.refl _ _) _) (by omega))
  · have HC := hid (right_any false m B A n c ps rows w h hB (by omega) hm hz (iff_of_false (fun h9 => Bool.noConfusion h9) hr))
    have HR := hid hr
    clear h hnc hnd hz hr
    go_enter Tryd.func13, Tryd.ntmps13
    go_wp2_with fail
    refine HC.out.mono ?_
    rintro e w1 ⟨rfl, b1⟩
    go_wp2_with fail
    exact bodyPost_ret (v := .tuple #[.slice none 0 0, .slice none 0 0, .slice none 0 0, .int .i64 1]) (by simp [results, Tryd.results13, go_sem]) rfl ⟨b1, .inl ⟨HR.out, rfl⟩⟩
end Go.Proofs.YtmefbbpcfphciaaDoor
