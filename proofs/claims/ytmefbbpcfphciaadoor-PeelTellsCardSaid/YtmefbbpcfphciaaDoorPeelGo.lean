/- all: as many as can be. -/
import Derived.Test.YtmefbbpcfphciaaDoorPeelN
import Derived.Test.YtmefbbpcfphciaaDoorOrdG
import Derived.WalkMore
import Derived.ScopeJumps
namespace Wells
open Go Go.RowKit
theorem wp_scope_again {P : Program} {a : Act} {w : World} {Q : Exit → Act → World → Prop} {X : Code} (l : Nat) (J : Act → World → Prop) (μ : Act → World → Nat) (hJ : J a w)
    (pass : ∀ a w, J a w → X.wp P (Exit.jump l (fun a' w' => J a' w' ∧ μ a' w' < μ a w) Q) a w) : (Code.scope ((Code.label l).seq X)).wp P Q a w := by
  refine wp_scope_jumps (rest := Code.skip.seq X) l J μ (by simp [findLabel]) ?_ (fun a w h => wp_seq (wp_skip (pass a w h)))
  refine wp_seq (wp_label ?_)
  refine wp_mono (pass a w hJ) fun e a' w' h => ?_
  cases e <;> first | exact h | exact ⟨h.1, h.2.1⟩
def isF : Value → Bool | .bool false => true | _ => false
def cntF (gk : Nat) (w : World) : Nat := match w.heap[gk]? with | some (.cells cs _ _) => cs.toList.countP isF | _ => 0
theorem cntF_row {gk : Nat} {w : World} {t : TypeId} {ks : List Bool} (h : Row w gk t (ks.map Value.bool)) : cntF gk w = ks.countP (fun b => !b) := by
  unfold cntF
  rw [h]
  simp only [List.toList_toArray, List.countP_map]
  congr 1
  funext b
  cases b <;> rfl
theorem count_set : ∀ (ks : List Bool) (i : Nat), i < ks.length → ks.getD i true = false → (ks.set i true).countP (fun b => !b) < ks.countP (fun b => !b)
  | [], i, h, _ => absurd h (by simp)
  | k :: ks, 0, _, h => by
    simp at h
    subst h
    simp
  | k :: ks, i + 1, h, h2 => by
    simp only [List.set_cons_succ, List.countP_cons]
    have := count_set ks i (by simpa using h) (by simpa using h2)
    omega
end Wells
namespace Go.Proofs.YtmefbbpcfphciaaDoor
open Go.RowKit Wells
theorem cell_off {w : World} {g i b o : Nat} (h : g ≠ b) (v : Value) : (w.setCell ⟨g, i, none⟩ v).cell? ⟨b, o, none⟩ = w.cell? ⟨b, o, none⟩ := World.cell?_setCell_other _ _ _ _ (by intro e; injection e with e1 e2; first | exact h e1 | exact h e1.symm)
theorem KV.put_ {base N : Nat} {w : World} {gk gv : Nat} {vs : List Value} {S : PSt} {x : Nat} {v : Value} {d : List Byte} (h : KV base N w gk gv vs S) (hne : gk ≠ gv) (hx : x < N) (hv : OB base w v d) :
    KV base N ((w.setCell ⟨gk, x, none⟩ (.bool true)).setCell ⟨gv, x, none⟩ v) gk gv (vs.set x v) (S.put x d) := by
  have r1 := h.k.set x (.bool true)
  have r2 := h.v.far (p := ⟨gk, x, none⟩) (fun e => hne e.symm) (.bool true)
  have ow : ∀ (u : Value) (l : List Byte), OB base w u l → OB base ((w.setCell ⟨gk, x, none⟩ (.bool true)).setCell ⟨gv, x, none⟩ v) u l := fun u l ho =>
    World.ownsRow.farC (World.ownsRow.farC ho h.k (by decide) x _) r2 (by decide) x _
  refine ⟨?_, r2.set x v, by simp [PSt.put, h.kl], by simp [h.vl], by simp [PSt.put, h.sl], fun i hi => ?_, h.gek, h.gev⟩
  · have := r1.far (p := ⟨gv, x, none⟩) hne v
    rw [show S.put (x : Int) d = ⟨S.known.set x true, S.vals.set x d⟩ from rfl]
    simp only
    rwa [List.map_set]
  · show OB base _ ((vs.set x v).getD i undef) ((S.vals.set x d).getD i [])
    rw [getD_set_t (by rw [h.vl]; exact hx), getD_set_t (by rw [h.sl]; exact hx)]
    by_cases hix : i = x
    · rw [if_pos hix, if_pos hix]; exact ow _ _ hv
    · rw [if_neg hix, if_neg hix]; exact ow _ _ (h.at_ i hi)
theorem KV.put2 {base N : Nat} {w : World} {gk gv : Nat} {vs : List Value} {S : PSt} {x : Nat} {v : Value} {d : List Byte} (h : KV base N w gk gv vs S) (hne : gk ≠ gv) (hx : x < N) (hv : OB base w v d) :
    KV base N ((w.setCell ⟨gv, x, none⟩ v).setCell ⟨gk, x, none⟩ (.bool true)) gk gv (vs.set x v) (S.put x d) := by
  have r1 := h.v.set x v
  have r2 := h.k.far (p := ⟨gv, x, none⟩) hne v
  have ow : ∀ (u : Value) (l : List Byte), OB base w u l → OB base ((w.setCell ⟨gv, x, none⟩ v).setCell ⟨gk, x, none⟩ (.bool true)) u l := fun u l ho =>
    World.ownsRow.farC (World.ownsRow.farC ho h.v (by decide) x _) r2 (by decide) x _
  refine ⟨?_, r1.far (p := ⟨gk, x, none⟩) (fun e => hne e.symm) _, by simp [PSt.put, h.kl], by simp [h.vl], by simp [PSt.put, h.sl], fun i hi => ?_, h.gek, h.gev⟩
  · have := r2.set x (.bool true)
    rw [show S.put (x : Int) d = ⟨S.known.set x true, S.vals.set x d⟩ from rfl]
    simp only
    rwa [List.map_set]
  · show OB base _ ((vs.set x v).getD i undef) ((S.vals.set x d).getD i [])
    rw [getD_set_t (by rw [h.vl]; exact hx), getD_set_t (by rw [h.sl]; exact hx)]
    by_cases hix : i = x
    · rw [if_pos hix, if_pos hix]; exact ow _ _ hv
    · rw [if_neg hix, if_neg hix]; exact ow _ _ (h.at_ i hi)
/-- the peeler in memory: what is reached -/
structure PS (base N : Nat) (w0 w : World) (gp gk gv n c : Nat) (A : Option Addr) (rows : List Eqn) (vs : List Value) (S : PSt) : Prop where
  r : Wells.Reach N rows S
  kv : KV base N w gk gv vs S
  p : Row w gp 53 [.slice A n c, .slice (some ⟨gk, 0, none⟩) N N, .slice (some ⟨gv, 0, none⟩) N N]
  be : Below base w0 w
theorem PS.below {base N : Nat} {w0 w w' : World} {gp gk gv n c : Nat} {A : Option Addr} {rows : List Eqn} {vs : List Value} {S : PSt} (h : PS base N w0 w gp gk gv n c A rows vs S) (hb : Below w.heap.size w w') (hs : base ≤ w.heap.size) : PS base N w0 w' gp gk gv n c A rows vs S :=
  ⟨h.r, h.kv.below hb, h.p.below hb h.p.lt, h.be.trans (hb.mono hs)⟩
def AllR (base N : Nat) (w0 : World) (gp gk gv n c : Nat) (A : Option Addr) (rows : List Eqn) (w : World) (e : Ending) (w' : World) : Prop :=
  e = .returned (.tuple #[]) ∧ (∃ vs T, Final rows T ∧ PS base N w0 w' gp gk gv n c A rows vs T) ∧ w.heap.size ≤ w'.heap.size
def AllJ (base N : Nat) (w0 : World) (gp gk gv n c : Nat) (A : Option Addr) (rows : List Eqn) (a : Act) (w : World) : Prop :=
  ∃ u1 u2 u3 u4 u5 u6 u7 u8 u9 u10 u11 u12 u13 u14 u15 u16 u17 u18 u19 u20 u21 u22 u23 u24 u25 u26 u27 u28 u29 u30 u31 u32 u33 u34 u35 u36 : Value, a = { tmps := #[.pointer (some ⟨gp, 0, none⟩), u1, u2, u3, u4, u5, u6, u7, u8, u9, u10, u11, u12, u13, u14, u15, u16, u17, u18, u19, u20, u21, u22, u23, u24, u25, u26, u27, u28, u29, u30, u31, u32, u33, u34, u35, u36], defers := [] } ∧ (∃ vs S, PS base N w0 w gp gk gv n c A rows vs S) ∧ w0.heap.size ≤ w.heap.size
set_option maxRecDepth 20000 in
set_option maxHeartbeats 3000000 in
theorem all_any (S : PSt) (D base N gp gk gv : Nat) (vs : List Value) (B : Nat) (A : Option Addr) (n c : Nat) (ps : List (Value × Value)) (rows : List Eqn) (w : World) (hp : PS base N w w gp gk gv n c A rows vs S)
    (h : REqs w B A n ps rows) (hB : B ≤ base) (hbs : base ≤ w.heap.size) (hr : Right N D rows) (hN : N ≤ 64) (hn : n ≤ 1048576) (hnc : ∀ q ∈ rows, q.cols.length ≤ 1048576) (hD : D ≤ 1048576) (hne : gk ≠ gv) (hpk : gp ≠ gk) (hpv : gp ≠ gv) (hgp : base ≤ gp) :
    Calls Tryd.prog 22 #[.pointer (some ⟨gp, 0, none⟩)] w (AllR base N w gp gk gv n c A rows w) := by
  have H := hid h
  have HR := hid hr
  have HNC := hid hnc
  have HL := hid h.len
  have HP := hid hp
  clear h hr hnc hp
  go_enter Tryd.func22, Tryd.ntmps22
  go_wp2_with fail
  refine wp_scope_again 0 (AllJ base N w gp gk gv n c A rows) (fun _ w => cntF gk w) ?_ ?_
  · exact ⟨_, _, _, _, _, _, _, _, _, _, _, _, _, _, _, _, _, _, _, _, _, _, _, _, _, _, _, _, _, _, _, _, _, _, _, _, rfl, ⟨vs, S, HP.out⟩, Nat.le_refl _⟩
  clear HP
  rintro a wo ⟨u1, u2, u3, u4, u5, u6, u7, u8, u9, u10, u11, u12, u13, u14, u15, u16, u17, u18, u19, u20, u21, u22, u23, u24, u25, u26, u27, u28, u29, u30, u31, u32, u33, u34, u35, u36, rfl, ⟨vs, S, hps⟩, hzo⟩
  have HPS := hid hps
  have hbo : base ≤ wo.heap.size := by omega
  have HC := hid (fun q hq => HR.out.rng q hq)
  have hre := H.out.below (hps.be.mono hB)
  have HRE := hid hre
  clear hps hre
  go_wp2_with fail
  refine (next_any S base N gp gk gv vs B A n c ps rows _ HPS.out.p HPS.out.kv HRE.out (by omega) HC.out hN hn HNC.out).mono ?_
  rintro e w1 ⟨z, rfl, b1, hz⟩
  have hz1 := b1.size
  rcases hz with ⟨rfl, hfin⟩ | ⟨i, hi, rfl, hone⟩
  · have HF := hid hfin
    clear hfin
    go_wp2_with fail
    simp only [Exit.jump]
    refine bodyPost_ret (results_none rfl _ _ _) rfl ?_
    exact ⟨rfl, ⟨vs, S, HF.out, HPS.out.below b1 hbo⟩, by omega⟩
  · have hps1 := HPS.out.below b1 hbo
    have HP1 := hid hps1
    have hre1 := HRE.out.below (b1.mono (by omega : B ≤ wo.heap.size))
    have hin : i < n := by rw [← HL.out]; exact hi
    obtain ⟨bb, o, A1, c1, A2, c2, rfl, hbb, e0, e1, h1, h2, h3, h4, h5, h6⟩ := hre1.get hin
    have hqm : rows.getD i default ∈ rows := by rw [List.getD_eq_getElem?_getD, List.getElem?_eq_getElem hi]; exact List.getElem_mem _
    have hcq := HC.out _ hqm
    have hnq := HNC.out _ hqm
    have hdq := HR.out.len _ hqm
    obtain ⟨q, hq⟩ : ∃ q, rows.getD i default = q := ⟨_, rfl⟩
    rw [hq] at e0 e1 h1 h3 h4 h6 hcq hnq hdq hone hqm
    obtain ⟨nc, hnc⟩ : ∃ nc, q.cols.length = nc := ⟨_, rfl⟩
    obtain ⟨nd, hnd⟩ : ∃ nd, q.data.length = nd := ⟨_, rfl⟩
    rw [hnc] at e0 h1 h3 hnq
    rw [hnd] at e1 h4 h6
    have hform := HPS.out.r.form HR.out
    have p0 := hps1.p.cell 0
    simp only [List.getElem?_cons_zero] at p0
    have hndD : nd = D := by rw [← hnd]; exact hdq
    have HCQ := hid hcq
    have HONE := hid hone
    have HQM := hid hqm
    have H3 := hid h3
    have H6 := hid h6
    have HNC2 := hid hnc
    have HND := hid hnd
    have HFO := hid hform
    have HDQ := hid hdq
    have hi0 : (0 : Int) ≤ (i : Int) := by omega
    have hi1 : (i : Int) < (n : Int) := by omega
    clear hps1 hre1 hq hcq hone hqm h3 h6 hnc hnd hform hdq hndD
    go_wp2_with fail
    refine (left_any q S base N gp gk gv vs (.slice (some ⟨bb, o, none⟩) n c) B A1 A2 c1 c2 nc nd _ HP1.out.p HP1.out.kv H3.out H6.out HNC2.out HND.out (by omega) HCQ.out hN (fun c h0 hk => by rw [HFO.out.len c h0 hk, ← HDQ.out, HND.out]) (by rw [← HND.out, HDQ.out]; exact hD) hnq).mono ?_
    rintro e w2 ⟨A1', c1', A2', c2', rfl, hoi, hob, b2⟩
    rw [HONE.out] at hoi
    rw [HND.out] at hob
    rw [HONE.out, HND.out]
    have hz2 := b2.size
    obtain ⟨x, hx⟩ : ∃ x : Nat, S.opn q.cols = [(x : Int)] ∧ x < N := by
      have h9 := HONE.out
      match hl : S.opn q.cols with
      | [y] =>
        have hm := (opn_mem.1 (show y ∈ S.opn q.cols by rw [hl]; exact List.mem_singleton.2 rfl)).1
        obtain ⟨h7, h8⟩ := HCQ.out y hm
        obtain ⟨x, rfl⟩ := Int.eq_ofNat_of_zero_le h7
        exact ⟨x, rfl, by omega⟩
      | [] => rw [hl] at h9; simp at h9
      | _ :: _ :: _ => rw [hl] at h9; simp at h9
    obtain ⟨hx, hxN⟩ := hx
    rw [hx] at hoi
    have hps2 := HP1.out.below b2 (by omega)
    obtain ⟨gc, rfl⟩ : ∃ gc, A1' = some ⟨gc, 0, none⟩ := by
      rcases own_form (show w2.ownsRow _ _ _ (.slice A1' 1 c1') 1 _ from hoi) with ⟨_, h9, _⟩ | ⟨g, h9, _⟩
      · omega
      · exact ⟨g, h9⟩
    have dc : gk ≠ gc := fun e => by
      rcases own_ne (show w2.ownsRow _ 3 _ (.slice (some ⟨gc, 0, none⟩) 1 c1') 1 _ from hoi) hps2.kv.k (by decide) with h9 | h9
      · cases h9
      · exact h9 (by rw [e]; rfl)
    have hslx := (Sl.own (show w2.ownsRow _ _ _ (.slice (some ⟨gc, 0, none⟩) 1 c1') 1 _ from hoi))
    obtain ⟨bq, oq, eq9, hbq, hcq9⟩ := hslx.at_ (by omega)
    injection eq9 with eq9
    injection eq9 with e91 e92
    subst e91 e92
    have n2 := hcq9 0 (.int .i64 (x : Int)) rfl
    have hx3 := Row.new w2 27 #[.slice (some ⟨gc, 0, none⟩) 1 c1', .slice A2' nd c2']
    have hb3 : Below w2.heap.size w2 (w2.alloc (.cells #[.slice (some ⟨gc, 0, none⟩) 1 c1', .slice A2' nd c2'] 27)) := (Below.refl _ _).alloc (Nat.le_refl _) _
    have n2' := (hb3.cell (p := ⟨gc, 0, none⟩) hbq).trans n2
    have hps3 := hps2.below hb3 (by omega)
    have hob3 : OB base _ (.slice A2' nd c2') (S.rest q) := own_base ((hob : OB _ _ _ _).below hb3) (by omega)
    have hst := Wells.Reach.step hps3.r HQM.out hx
    have HST := hid hst
    have HX := hid hx
    have HPS3 := hid hps3
    have HOB3 := hid hob3
    have HB3 := hid hb3
    have HX3 := hid hx3
    clear hps2 hx3 hob3 hps3 hst hx hoi hob hslx hcq9 n2 hb3 p0 e0 e1
    go_wp2_with fail
    obtain ⟨g3, hg3⟩ : ∃ g3, w2.heap.size = g3 := ⟨_, rfl⟩
    have HG3 := hid hg3
    rw [hg3] at HX3
    try simp only [hg3]
    generalize w2.alloc (.cells #[.slice (some ⟨gc, 0, none⟩) 1 c1', .slice A2' nd c2'] 27) = wx at *
    clear hg3
    have m1 := HPS3.out.p.cell 1
    have m2 := HPS3.out.p.cell 2
    have n0 := HX3.out.cell 0
    have n1 := HX3.out.cell 1
    simp only [List.getElem?_cons_succ, List.getElem?_cons_zero] at m1 m2 n0 n1
    have hx0 : (0 : Int) ≤ (x : Int) := by omega
    have hx1 : (x : Int) < (N : Int) := by omega
    have kf := HPS3.out.kv.k.frozen x
    have kc := HPS3.out.kv.cellk hx0 hx1
    have vf := HPS3.out.kv.v.frozen x
    obtain ⟨Av, mv, vc, _⟩ := HPS3.out.kv.cellv hx0 hx1
    rw [Int.toNat_natCast] at kc vc
    have d3 : gk ≠ g3 := fun e => by
      have h9 := HP1.out.below b2 (by omega)
      have h8 := h9.kv.k.lt
      have h7 := HG3.out
      omega
    refine Org.begin [21] (fun w' => w'.cell? ⟨gp, 1, none⟩ = some (.slice (some ⟨gk, 0, none⟩) N N) ∧ w'.cell? ⟨gp, 2, none⟩ = some (.slice (some ⟨gv, 0, none⟩) N N) ∧ w'.cell? ⟨g3, 0, none⟩ = some (.slice (some ⟨gc, 0, none⟩) 1 c1') ∧ w'.cell? ⟨g3, 1, none⟩ = some (.slice A2' nd c2') ∧ w'.cell? ⟨gc, 0, none⟩ = some (.int .i64 (x : Int))) [0, 1, 2, 3, 4, 5, 6, 7, 8, 9, 10, 11, 12, 13, 14, 15, 16, 17, 18, 19, 20, 21] (by kernel_rfl) (⟨m1, m2, n0, n1, n2'⟩) (fun hS => ?_)
    (refine Org.yes (v := ?_) rfl (by kernel_rfl) (by kernel_rfl) (by kernel_rfl) (by kernel_rfl) (by kernel_rfl) (fun _ _ _ h => h) (by kernel_rfl) (SM.of hS) ?_ ?_; rotate_left; (focus (intro w hSw; (try dsimp only at hSw); refine Pure.val ?_; go_simp; (try with_reducible rfl); done)); try simp only [Act.put, List.setIfInBounds_toArray, List.set_cons_zero, List.set_cons_succ])
    (refine Org.yes (v := ?_) rfl (by kernel_rfl) (by kernel_rfl) (by kernel_rfl) (by kernel_rfl) (by kernel_rfl) (fun _ _ _ h => h) (by kernel_rfl) (SM.of hS) ?_ ?_; rotate_left; (focus (intro w hSw; (try dsimp only at hSw); refine Pure.val ?_; go_simp; (try with_reducible rfl); done)); try simp only [Act.put, List.setIfInBounds_toArray, List.set_cons_zero, List.set_cons_succ])
    (refine Org.yes (v := ?_) rfl (by kernel_rfl) (by kernel_rfl) (by kernel_rfl) (by kernel_rfl) (by kernel_rfl) (fun _ _ _ h => h) (by kernel_rfl) (SM.of hS) ?_ ?_; rotate_left; (focus (intro w hSw; (try dsimp only at hSw); refine Pure.val ?_; go_simp; (try with_reducible rfl); done)); try simp only [Act.put, List.setIfInBounds_toArray, List.set_cons_zero, List.set_cons_succ])
    (refine Org.yes (v := ?_) rfl (by kernel_rfl) (by kernel_rfl) (by kernel_rfl) (by kernel_rfl) (by kernel_rfl) (fun _ _ _ h => h) (by kernel_rfl) (SM.of hS) ?_ ?_; rotate_left; (focus (intro w hSw; (try dsimp only at hSw); have q0 := hSw.1; have q1 := hSw.2.1; have q2 := hSw.2.2.1; have q3 := hSw.2.2.2.1; have q4 := hSw.2.2.2.2; refine Pure.val ?_; go_simp; (try with_reducible rfl); done)); try simp only [Act.put, List.setIfInBounds_toArray, List.set_cons_zero, List.set_cons_succ])
    (refine Org.yes (v := ?_) rfl (by kernel_rfl) (by kernel_rfl) (by kernel_rfl) (by kernel_rfl) (by kernel_rfl) (fun _ _ _ h => h) (by kernel_rfl) (SM.of hS) ?_ ?_; rotate_left; (focus (intro w hSw; (try dsimp only at hSw); refine Pure.val ?_; go_simp; (try with_reducible rfl); done)); try simp only [Act.put, List.setIfInBounds_toArray, List.set_cons_zero, List.set_cons_succ])
    (refine Org.yes (v := ?_) rfl (by kernel_rfl) (by kernel_rfl) (by kernel_rfl) (by kernel_rfl) (by kernel_rfl) (fun _ _ _ h => h) (by kernel_rfl) (SM.of hS) ?_ ?_; rotate_left; (focus (intro w hSw; (try dsimp only at hSw); have q0 := hSw.1; have q1 := hSw.2.1; have q2 := hSw.2.2.1; have q3 := hSw.2.2.2.1; have q4 := hSw.2.2.2.2; refine Pure.val ?_; go_simp; (try with_reducible rfl); done)); try simp only [Act.put, List.setIfInBounds_toArray, List.set_cons_zero, List.set_cons_succ])
    (refine Org.yes (v := ?_) rfl (by kernel_rfl) (by kernel_rfl) (by kernel_rfl) (by kernel_rfl) (by kernel_rfl) (fun _ _ _ h => h) (by kernel_rfl) (SM.of hS) ?_ ?_; rotate_left; (focus (intro w hSw; (try dsimp only at hSw); refine Pure.val ?_; go_simp; (try with_reducible rfl); done)); try simp only [Act.put, List.setIfInBounds_toArray, List.set_cons_zero, List.set_cons_succ])
    (refine Org.yes (v := ?_) rfl (by kernel_rfl) (by kernel_rfl) (by kernel_rfl) (by kernel_rfl) (by kernel_rfl) (fun _ _ _ h => h) (by kernel_rfl) (SM.of hS) ?_ ?_; rotate_left; (focus (intro w hSw; (try dsimp only at hSw); have q0 := hSw.1; have q1 := hSw.2.1; have q2 := hSw.2.2.1; have q3 := hSw.2.2.2.1; have q4 := hSw.2.2.2.2; refine Pure.val ?_; go_simp; (try with_reducible rfl); done)); try simp only [Act.put, List.setIfInBounds_toArray, List.set_cons_zero, List.set_cons_succ])
    (refine Org.yes (v := ?_) rfl (by kernel_rfl) (by kernel_rfl) (by kernel_rfl) (by kernel_rfl) (by kernel_rfl) (fun _ _ _ h => h) (by kernel_rfl) (SM.of hS) ?_ ?_; rotate_left; (focus (intro w hSw; (try dsimp only at hSw); refine Pure.val ?_; go_simp; (try with_reducible rfl); done)); try simp only [Act.put, List.setIfInBounds_toArray, List.set_cons_zero, List.set_cons_succ])
    (refine Org.yes (v := ?_) rfl (by kernel_rfl) (by kernel_rfl) (by kernel_rfl) (by kernel_rfl) (by kernel_rfl) (fun _ _ _ h => h) (by kernel_rfl) (SM.of hS) ?_ ?_; rotate_left; (focus (intro w hSw; (try dsimp only at hSw); refine Pure.val ?_; go_simp; (try with_reducible rfl); done)); try simp only [Act.put, List.setIfInBounds_toArray, List.set_cons_zero, List.set_cons_succ])
    (refine Org.yes (v := ?_) rfl (by kernel_rfl) (by kernel_rfl) (by kernel_rfl) (by kernel_rfl) (by kernel_rfl) (fun _ _ _ h => h) (by kernel_rfl) (SM.of hS) ?_ ?_; rotate_left; (focus (intro w hSw; (try dsimp only at hSw); refine Pure.val ?_; go_simp; (try with_reducible rfl); done)); try simp only [Act.put, List.setIfInBounds_toArray, List.set_cons_zero, List.set_cons_succ])
    (refine Org.yes (v := ?_) rfl (by kernel_rfl) (by kernel_rfl) (by kernel_rfl) (by kernel_rfl) (by kernel_rfl) (fun _ _ _ h => h) (by kernel_rfl) (SM.of hS) ?_ ?_; rotate_left; (focus (intro w hSw; (try dsimp only at hSw); have q0 := hSw.1; have q1 := hSw.2.1; have q2 := hSw.2.2.1; have q3 := hSw.2.2.2.1; have q4 := hSw.2.2.2.2; refine Pure.val ?_; go_simp; (try with_reducible rfl); done)); try simp only [Act.put, List.setIfInBounds_toArray, List.set_cons_zero, List.set_cons_succ])
    (refine Org.yes (v := ?_) rfl (by kernel_rfl) (by kernel_rfl) (by kernel_rfl) (by kernel_rfl) (by kernel_rfl) (fun _ _ _ h => h) (by kernel_rfl) (SM.of hS) ?_ ?_; rotate_left; (focus (intro w hSw; (try dsimp only at hSw); refine Pure.val ?_; go_simp; (try with_reducible rfl); done)); try simp only [Act.put, List.setIfInBounds_toArray, List.set_cons_zero, List.set_cons_succ])
    (refine Org.yes (v := ?_) rfl (by kernel_rfl) (by kernel_rfl) (by kernel_rfl) (by kernel_rfl) (by kernel_rfl) (fun _ _ _ h => h) (by kernel_rfl) (SM.of hS) ?_ ?_; rotate_left; (focus (intro w hSw; (try dsimp only at hSw); have q0 := hSw.1; have q1 := hSw.2.1; have q2 := hSw.2.2.1; have q3 := hSw.2.2.2.1; have q4 := hSw.2.2.2.2; refine Pure.val ?_; go_simp; (try with_reducible rfl); done)); try simp only [Act.put, List.setIfInBounds_toArray, List.set_cons_zero, List.set_cons_succ])
    (refine Org.yes (v := ?_) rfl (by kernel_rfl) (by kernel_rfl) (by kernel_rfl) (by kernel_rfl) (by kernel_rfl) (fun _ _ _ h => h) (by kernel_rfl) (SM.of hS) ?_ ?_; rotate_left; (focus (intro w hSw; (try dsimp only at hSw); refine Pure.val ?_; go_simp; (try with_reducible rfl); done)); try simp only [Act.put, List.setIfInBounds_toArray, List.set_cons_zero, List.set_cons_succ])
    (refine Org.yes (v := ?_) rfl (by kernel_rfl) (by kernel_rfl) (by kernel_rfl) (by kernel_rfl) (by kernel_rfl) (fun _ _ _ h => h) (by kernel_rfl) (SM.of hS) ?_ ?_; rotate_left; (focus (intro w hSw; (try dsimp only at hSw); have q0 := hSw.1; have q1 := hSw.2.1; have q2 := hSw.2.2.1; have q3 := hSw.2.2.2.1; have q4 := hSw.2.2.2.2; refine Pure.val ?_; go_simp; (try with_reducible rfl); done)); try simp only [Act.put, List.setIfInBounds_toArray, List.set_cons_zero, List.set_cons_succ])
    (refine Org.yes (v := ?_) rfl (by kernel_rfl) (by kernel_rfl) (by kernel_rfl) (by kernel_rfl) (by kernel_rfl) (fun _ _ _ h => h) (by kernel_rfl) (SM.of hS) ?_ ?_; rotate_left; (focus (intro w hSw; (try dsimp only at hSw); refine Pure.val ?_; go_simp; (try with_reducible rfl); done)); try simp only [Act.put, List.setIfInBounds_toArray, List.set_cons_zero, List.set_cons_succ])
    (refine Org.yes (v := ?_) rfl (by kernel_rfl) (by kernel_rfl) (by kernel_rfl) (by kernel_rfl) (by kernel_rfl) (fun _ _ _ h => h) (by kernel_rfl) (SM.of hS) ?_ ?_; rotate_left; (focus (intro w hSw; (try dsimp only at hSw); have q0 := hSw.1; have q1 := hSw.2.1; have q2 := hSw.2.2.1; have q3 := hSw.2.2.2.1; have q4 := hSw.2.2.2.2; refine Pure.val ?_; go_simp; (try with_reducible rfl); done)); try simp only [Act.put, List.setIfInBounds_toArray, List.set_cons_zero, List.set_cons_succ])
    (refine Org.yes (v := ?_) rfl (by kernel_rfl) (by kernel_rfl) (by kernel_rfl) (by kernel_rfl) (by kernel_rfl) (fun _ _ _ h => h) (by kernel_rfl) (SM.of hS) ?_ ?_; rotate_left; (focus (intro w hSw; (try dsimp only at hSw); refine Pure.val ?_; go_simp; (try with_reducible rfl); done)); try simp only [Act.put, List.setIfInBounds_toArray, List.set_cons_zero, List.set_cons_succ])
    refine Org.go rfl (by kernel_rfl) (by kernel_rfl) (fun K hK => ?_)
    go_simp
    refine hK.out _ _ ⟨(cell_off (Ne.symm hpk) _).trans hS.1, (cell_off (Ne.symm hpk) _).trans hS.2.1, (cell_off d3 _).trans hS.2.2.1, (cell_off d3 _).trans hS.2.2.2.1, (cell_off dc _).trans hS.2.2.2.2⟩ (fun hS2 => ?_)
    clear hK K hS
    have hS := hS2
    clear hS2
    try simp only [Act.put, List.setIfInBounds_toArray, List.set_cons_zero, List.set_cons_succ]
    (refine Org.yes (v := ?_) rfl (by kernel_rfl) (by kernel_rfl) (by kernel_rfl) (by kernel_rfl) (by kernel_rfl) (fun _ _ _ h => h) (by kernel_rfl) (SM.of hS) ?_ ?_; rotate_left; (focus (intro w hSw; (try dsimp only at hSw); refine Pure.val ?_; go_simp; (try with_reducible rfl); done)); try simp only [Act.put, List.setIfInBounds_toArray, List.set_cons_zero, List.set_cons_succ])
    refine Org.mark (p := 21) rfl (by kernel_rfl) (by kernel_rfl) (by kernel_rfl) (by kernel_rfl) (fun K hK => ?_)
    go_simp
    refine hK.out _ _ ?_
    clear hK K hS
    try simp only [Act.put, List.setIfInBounds_toArray, List.set_cons_zero, List.set_cons_succ]
    refine Org.done (by kernel_rfl) ?_
    go_wp2_with fail
    go_step3
    have hkv9 := (show KV base N wx.drew gk gv vs S from ⟨HPS3.out.kv.k, HPS3.out.kv.v, HPS3.out.kv.kl, HPS3.out.kv.vl, HPS3.out.kv.sl, HPS3.out.kv.at_, HPS3.out.kv.gek, HPS3.out.kv.gev⟩).put_ (x := x) (v := .slice A2' nd c2') (d := S.rest q) hne hxN HOB3.out
    refine ⟨rfl, ⟨_, _, _, _, _, _, _, _, _, _, _, _, _, _, _, _, _, _, _, _, _, _, _, _, _, _, _, _, _, _, _, _, _, _, _, _, rfl, ⟨_, _, HST.out, hkv9, ((show Row wx.drew gp _ _ from HPS3.out.p).far (p := ⟨gk, x, none⟩) hpk _).far (p := ⟨gv, x, none⟩) hpv _, ((below_drew' HPS3.out.be).setCell (p := (⟨gk, x, none⟩ : Addr)) HPS3.out.kv.gek _).setCell (p := (⟨gv, x, none⟩ : Addr)) HPS3.out.kv.gev _⟩, ?_⟩, ?_⟩
    · have h9 := HB3.out.size
      simp [World.setCell]
      omega
    · show cntF gk _ < cntF gk _
      rw [cntF_row HPS.out.kv.k]
      refine Nat.lt_of_le_of_lt (Nat.le_of_eq (cntF_row hkv9.k)) ?_
      refine count_set S.known x (by rw [HPS.out.kv.kl]; exact hxN) ?_
      have h9 := (opn_mem.1 (show (x : Int) ∈ S.opn q.cols by rw [HX.out]; exact List.mem_singleton.2 rfl)).2
      unfold PSt.kn at h9
      rw [Int.toNat_natCast] at h9
      rw [List.getD_eq_getElem?_getD, List.getElem?_eq_getElem (by rw [HPS.out.kv.kl]; exact hxN)] at h9 ⊢
      exact h9
end Go.Proofs.YtmefbbpcfphciaaDoor
