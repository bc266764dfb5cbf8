/- RDrvApp RDrvRew -/
import Derived.Deep.DeepCutAuto
import Derived.Test.YtnknjeipfjdjoaaGreatDoorBScanKept07
import Derived.Test.YtnknjeipfjdjoaaGreatDoorBScanKept10
import Derived.Test.YtnknjeipfjdjoaaGreatDoorBScanKept17
import Derived.Test.YtnknjeipfjdjoaaGreatDoorBScanKept23
set_option maxRecDepth 20000
set_option linter.unusedSimpArgs false
set_option linter.unusedVariables false
namespace Go.Proofs.YtnknjeipfjdjoaaGreatDoor
open Go.RowKit Wells
theorem own_below2 {base size n : Nat} {w w' : World} {e : TypeId} {v : Value} {xs : List Value} (h : w.ownsRow base e size v n xs) (hb : Below w.heap.size w w') : w'.ownsRow base e size v n xs := h.kept (grown_of_below hb none) (by cases v.ownBlock <;> simp)
theorem RDrv.appended {F : Nat → Prop} {w w2 w3 : World} {g pg : Nat} {lv bv lv' xv : Value} {lvs bvs : List Value} {d : Dr} {x : List Byte} (h : RDrv F w g pg lv lvs bv bvs d) (hb2 : Below w.heap.size w w2) (hx : OB w.heap.size w2 xv x) (o : Obj)
  (ho3 : w3.ownsRow 0 33 1 lv' (d.L.length + 1) (lvs ++ [xv])) (gr3 : (w2.alloc o).grownBy w3 lv.ownBlock) (hwh : ∀ k, lv'.ownBlock = some k → (lv.ownBlock = some k ∨ k = (w2.alloc o).heap.size) ∧ k < w3.heap.size) :
  RDrv (Ext F w w3) (w3.setCell ⟨g, 2, none⟩ lv') g pg lv' (lvs ++ [xv]) bv bvs { d with L := d.L ++ [x] } ∧ Only F w w3 ∧ Row w3 g 56 (rdRow pg d lv bv) := by
 have hsz := hb2.size
 have hb2a : Below w.heap.size w (w2.alloc o) := hb2.alloc hsz o
 have hsa : (w2.alloc o).heap.size = w2.heap.size + 1 := by simp
 have hs3 := gr3.size
 have hO : Only (fun k => lv.ownBlock = some k) w w3 := (Only.of_new hb2a).trans (Only.of_grown (F := fun k => lv.ownBlock = some k) gr3 (fun k e => e)) (fun _ _ hk => hk)
 have hOF : Only F w w3 := hO.mono (fun k hk => h.l.iv k hk)
 have row3 := h.row.only hO (fun e => own_row_ne h.l.own.own h.row (by decide) g e rfl)
 have pow3 := h.pow.only hO (fun e => own_row_ne h.l.own.own h.pow (by decide) pg e rfl)
 have L3 : OBs 0 w3 lv' (lvs ++ [xv]) (d.L ++ [x]) := (h.l.own.below hb2a).push (x := x) (OB.below (base := 0) (own_base hx (Nat.zero_le _)) ((Below.refl _ _).alloc (Nat.le_refl _) _)) ho3 gr3
 have B3 : OBs 0 w3 bv bvs d.B := h.b.own.only hO (fun k hk e => h.sep k e hk) (fun y hy k hk e => by
  obtain ⟨l', hl'⟩ := h.b.own.elem hy
  rcases own_other hl' h.l.own.own (by decide) with h1 | h1
  ·rw [h1] at hk; cases hk
  ·exact h1 (hk.trans e.symm))
 have hxn : ∀ k, xv.ownBlock = some k → w.heap.size ≤ k ∧ k < w3.heap.size := fun k hk => by
  have := own_lt hx k hk
  omega
 have hext : ∀ k, F k → Ext F w w3 k := fun k hk => .inl hk
 have hxe : In xv (Ext F w w3) := fun k hk => .inr (hxn k hk)
 have hve : In lv' (Ext F w w3) := fun k hk => by
  obtain ⟨h1, h2⟩ := hwh k hk
  rcases h1 with h1 | h1
  ·exact .inl (h.l.iv k h1)
  ·exact .inr ⟨by omega, h2⟩
 have hes : ∀ y ∈ lvs ++ [xv], In y (Ext F w w3) := fun y hy => by
  rcases List.mem_append.1 hy with hy | hy
  ·exact (h.l.is y hy).mono hext
  ·rw [List.mem_singleton] at hy; subst hy; exact hxe
 refine ⟨⟨row3.set 2 lv', pow3.far (Ne.symm h.ne) _, .inl h.fg, .inl h.fp, fun k hk => ?_, Lst.set_ L3 hve hes row3 (by decide) (by decide) _ _, Lst.set_ B3 (h.b.iv.mono hext) (fun y hy => (h.b.is y hy).mono hext) row3 (by decide) (by decide) _ _, fun k hk e => ?_⟩, hOF, row3⟩
 ·have : k < w3.heap.size := by
   rcases hk with hk | hk
   ·have := h.lt k hk; omega
   ·exact hk.2
  simpa [World.setCell] using this
 ·rcases (hwh k hk).1 with h1 | h1
  ·exact h.sep k h1 e
  ·have := h.lt k (h.b.iv k e)
   omega
/-- the set widens -/
theorem RDrv.widen {F : Nat → Prop} {w w1 w2 w' : World} {g pg : Nat} {lv bv : Value} {lvs bvs : List Value} {d : Dr} (h : RDrv (Ext F w1 w2) w' g pg lv lvs bv bvs d) (hs : w.heap.size ≤ w1.heap.size) (h2 : w2.heap.size ≤ w'.heap.size) (hF : ∀ k, F k → k < w'.heap.size) : RDrv (Ext F w w') w' g pg lv lvs bv bvs d :=
 h.more (fun k hk => by rcases hk with hk | hk; exact .inl hk; exact .inr ⟨by omega, by omega⟩) (fun k hk => by rcases hk with hk | hk; exact hF k hk; exact hk.2)
set_option maxRecDepth 20000 in
set_option maxHeartbeats 4000000 in
theorem rappend_any (F : Nat → Prop) (g pg : Nat) (d : Dr) (m : Nat) (A : Option Addr) (l : List Byte) (n c : Nat) (w : World) (h : RDrvE F w g pg d) (hok : DOk m d) (hm : m ≤ 1000000) (hsl : ∀ w', Only F w w' → Sl w' w'.heap.size 1 A n (l.map bv8)) (hn : n ≤ 1048576) :
  Calls Tryz.prog 39 #[.pointer (some ⟨g, 0, none⟩), .slice A n c] w fun e w' => e = .returned (.int .i64 (d.append l).2) ∧ RDrvE (Ext F w w') w' g pg (d.append l).1 ∧ Only F w w' := by
 obtain ⟨lv, lvs, bv, bvs, h⟩ := h
 have hln : l.length = n := by have := (hsl w (Only.refl F w)).len; simpa using this
 have HLN := hid hln
 have HSL := hid hsl
 obtain ⟨S, hS⟩ : ∃ S, d.append l = S := ⟨_, rfl⟩
 rw [hS]
 have HS := hid hS
 clear hS hsl
 have hsame : RDrvE (Ext F w w) w g pg d := ⟨_, _, _, _, h.ext_⟩
 obtain ⟨Al, cl, rfl, hcl1, hcl2⟩ := h.l.own.form
 obtain ⟨nl, hnl⟩ : ∃ k, d.L.length = k := ⟨_, rfl⟩
 rw [hnl] at h hcl1
 have HNL := hid hnl
 have hlen := hok.len
 have hroom := hok.room
 have hwt := hok.wait
 have c0 := h.row.cell 0
 have e0 : (rdRow pg d (.slice Al nl cl) (bv))[0]? = some (.int .i64 d.room) := rfl
 rw [e0] at c0
 clear e0
 have c1 := h.row.cell 1
 have e1 : (rdRow pg d (.slice Al nl cl) (bv))[1]? = some (.pointer (some ⟨pg, 0, none⟩)) := rfl
 rw [e1] at c1
 clear e1
 have c2 := h.row.cell 2
 have e2 : (rdRow pg d (.slice Al nl cl) (bv))[2]? = some (.slice Al nl cl) := rfl
 rw [e2] at c2
 clear e2
 have c6 := h.row.cell 6
 have e6 : (rdRow pg d (.slice Al nl cl) (bv))[6]? = some (.bool d.lost) := rfl
 rw [e6] at c6
 clear e6
 rw [hnl] at hlen hwt
 clear hnl
 by_cases h64 : n = 64
 rotate_left
 ·have hs : S = (d, 1) := by rw [← HS.out]; unfold Dr.append; rw [if_pos (by rw [HLN.out]; exact h64)]
  subst hs
  have hb64 : ((n : Int) != 64) = true := by simp; omega
  clear hln
  go_enter Tryz.func39, Tryz.ntmps39
  go_wp2_with fail
  go_ret
  exact ⟨rfl, hsame, Only.refl _ _⟩
 subst h64
 cases hlo : d.lost with
 | true =>
  rw [hlo] at c6
  have hs : S = (d, 5) := by rw [← HS.out]; unfold Dr.append; rw [if_neg (by rw [HLN.out]; simp), hlo]; rfl
  subst hs
  clear hln hlo
  go_enter Tryz.func39, Tryz.ntmps39
  go_wp2_with fail
  go_ret
  exact ⟨rfl, hsame, Only.refl _ _⟩
 | false =>
  rw [hlo] at c6
  have HLO := hid hlo
  clear hlo hln
  by_cases hfull : nl = d.room
  ·have hs : S = (d, 7) := by rw [← HS.out]; unfold Dr.append; rw [if_neg (by rw [HLN.out]; simp), HLO.out, HNL.out, if_neg (by simp), if_pos (by omega)]
   subst hs
   have HH := hid h
   subst hfull
   have hge : (((d.room : Nat) : Int) == ((d.room : Nat) : Int)) = true := by simp
   clear h
   go_enter Tryz.func39, Tryz.ntmps39
   go_wp2_with fail
   go_region_held3 (fun w' => w'.cell? ⟨g, 2, none⟩ = some (.slice Al d.room cl) ∧ w'.cell? ⟨g, 0, none⟩ = some (.int .i64 (d.room : Int))) (first | exact ⟨c2, c0⟩ | assumption) (fail)
   go_wp2_with fail
   go_ret
   exact ⟨rfl, hsame.drew_, (Only.refl _ _).drew⟩
  ·have hlt2 : nl < d.room := by omega
   have hge : ((nl : Int) == (d.room : Int)) = false := by simp; omega
   obtain ⟨i1, hi', hz0', hz1', hz2'⟩ := info_parts infoBs
   obtain ⟨iB, hiB, hzB0, hzB1, hzB2⟩ := info_parts infoB
   have hgl := h.row.lt
   have p0 := h.pow.cell 0
   have e0 : (pw d.s)[0]? = some (.bool d.s.off) := rfl
   rw [e0] at p0
   clear e0
   go_enter Tryz.func39, Tryz.ntmps39
   go_wp2_with fail
   go_region_held3 (fun w' => w'.cell? ⟨g, 2, none⟩ = some (.slice Al nl cl) ∧ w'.cell? ⟨g, 0, none⟩ = some (.int .i64 (d.room : Int))) (first | exact ⟨c2, c0⟩ | assumption) (fail)
   go_wp2_with fail
   have hl := hok.left
   have ho1 := hok.offs.1
   have ho2 := hok.offs.2
   refine (rstep_any pg d.s w.drew h.pow.drew (fun _ => hl) ⟨ho1, by omega⟩).mono ?_
   rintro e w1 ⟨rfl, hp1, hg1⟩
   have hz1 : w.heap.size ≤ w1.heap.size := hg1.size
   have h1 := h.drew_.power hp1 hg1
   have o1 : Only F w w1 := (Only.refl F w).drew.trans (Only.of_grown (F := F) hg1 (fun k e => by injection e with e; rw [← e]; exact h.fp)) (fun _ _ hk => hk)
   have H1 := hid h1
   have O1 := hid o1
   have HF1 := hid (show ∀ k, F k → k < w1.heap.size from fun k hk => Nat.lt_of_lt_of_le (h.lt k hk) hz1)
   have HFG := hid h.fg
   clear hp1 hg1 hge
   cases hoff : d.s.off with
   | true =>
    have hgo : d.s.goes = false := by unfold Pw.goes; rw [hoff]; rfl
    have hst : d.s.step = d.s := by unfold Pw.step; rw [hoff]; rfl
    have hs : S = (d, 14) := by rw [← HS.out]; unfold Dr.append; rw [if_neg (by rw [HLN.out]; simp), HLO.out, HNL.out, if_neg (by simp), if_neg (by omega), if_pos hoff]
    subst hs
    rw [hst] at h1
    have hF : RDrvE (Ext F w w1) w1 g pg d := ⟨_, _, _, _, h1.ext_.widen hz1 (Nat.le_refl _) HF1.out⟩
    have HF := hid hF
    clear hF h1 hst h hsame
    rw [hgo]
    clear hgo
    go_wp2_with fail
    go_ret
    exact ⟨rfl, HF.out, O1.out⟩
   | false =>
    have hg1 := h1.row.lt
    have c2 : w1.cell? ⟨g, 2, none⟩ = some (.slice Al nl cl) := h1.row.cell 2
    have c3 : w1.cell? ⟨g, 3, none⟩ = some (.int .i64 (d.wait : Int)) := h1.row.cell 3
    obtain ⟨nw, hnw⟩ : ∃ k, d.wait + 1 = k := ⟨_, rfl⟩
    have e55 : IntKind.i64.wrap ((d.wait : Int) + 1) = (nw : Int) := by rw [IntKind.wrap_i64]; omega
    have HNW := hid hnw
    have HOFF := hid hoff
    clear hnw hoff h1 o1 h hsame
    go_wp2_with fail
    refine Org.begin [17] (fun w' => w'.cell? ⟨g, 2, none⟩ = some (.slice Al nl cl) ∧ w'.cell? ⟨g, 3, none⟩ = some (.int .i64 (d.wait : Int))) [0, 1, 2, 3, 4, 5, 6, 10, 11, 12, 13, 14, 7, 8, 9, 15, 16, 17, 18, 19, 20] (by kernel_rfl) (⟨c2, c3⟩) (fun hS => ?_)
    (refine Org.yes (v := ?_) rfl (by kernel_rfl) (by kernel_rfl) (by kernel_rfl) (by kernel_rfl) (by kernel_rfl) (fun _ _ _ h => h) (by kernel_rfl) (SM.of hS) ?_ ?_; rotate_left; (focus (intro w hSw; (try dsimp only at hSw); refine Pure.val ?_; go_simp; (try with_reducible rfl); done)); try simp only [Act.put, List.setIfInBounds_toArray, List.set_cons_zero, List.set_cons_succ])
    (refine Org.free (v := ?_) rfl (by kernel_rfl) (by kernel_rfl) (by kernel_rfl) (by kernel_rfl) (by kernel_rfl) (fun _ _ _ h => h) (by kernel_rfl) (SM.of hS) ?_ ?_; rotate_left; (focus (intro w; refine Pure.val ?_; go_simp; (try with_reducible rfl); done)); try simp only [Act.put, List.setIfInBounds_toArray, List.set_cons_zero, List.set_cons_succ])
    iterate 3 (refine Org.yes (v := ?_) rfl (by kernel_rfl) (by kernel_rfl) (by kernel_rfl) (by kernel_rfl) (by kernel_rfl) (fun _ _ _ h => h) (by kernel_rfl) (SM.of hS) ?_ ?_; rotate_left; (focus (intro w hSw; (try dsimp only at hSw); refine Pure.val ?_; go_simp; (try with_reducible rfl); done)); try simp only [Act.put, List.setIfInBounds_toArray, List.set_cons_zero, List.set_cons_succ])
    (refine Org.yes (v := ?_) rfl (by kernel_rfl) (by kernel_rfl) (by kernel_rfl) (by kernel_rfl) (by kernel_rfl) (fun _ _ _ h => h) (by kernel_rfl) (SM.of hS) ?_ ?_; rotate_left; (focus (intro w hSw; (try dsimp only at hSw); have q2 := hSw.1; refine Pure.val ?_; go_simp; (try with_reducible rfl); done)); try simp only [Act.put, List.setIfInBounds_toArray, List.set_cons_zero, List.set_cons_succ])
    (refine Org.yes (v := ?_) rfl (by kernel_rfl) (by kernel_rfl) (by kernel_rfl) (by kernel_rfl) (by kernel_rfl) (fun _ _ _ h => h) (by kernel_rfl) (SM.of hS) ?_ ?_; rotate_left; (focus (intro w hSw; (try dsimp only at hSw); refine Pure.val ?_; go_simp; (try with_reducible rfl); done)); try simp only [Act.put, List.setIfInBounds_toArray, List.set_cons_zero, List.set_cons_succ])
    iterate 3 (refine Org.free (v := ?_) rfl (by kernel_rfl) (by kernel_rfl) (by kernel_rfl) (by kernel_rfl) (by kernel_rfl) (fun _ _ _ h => h) (by kernel_rfl) (SM.of hS) ?_ ?_; rotate_left; (focus (intro w; refine Pure.val ?_; go_simp; (try with_reducible rfl); done)); try simp only [Act.put, List.setIfInBounds_toArray, List.set_cons_zero, List.set_cons_succ])
    (refine Org.yes (v := ?_) rfl (by kernel_rfl) (by kernel_rfl) (by kernel_rfl) (by kernel_rfl) (by kernel_rfl) (fun _ _ _ h => h) (by kernel_rfl) (SM.of hS) ?_ ?_; rotate_left; (focus (intro w hSw; (try dsimp only at hSw); have q3 := hSw.2; refine Pure.val ?_; go_simp; (try with_reducible rfl); done)); try simp only [Act.put, List.setIfInBounds_toArray, List.set_cons_zero, List.set_cons_succ])
    (refine Org.free (v := ?_) rfl (by kernel_rfl) (by kernel_rfl) (by kernel_rfl) (by kernel_rfl) (by kernel_rfl) (fun _ _ _ h => h) (by kernel_rfl) (SM.of hS) ?_ ?_; rotate_left; (focus (intro w; refine Pure.val ?_; go_simp; (try with_reducible rfl); done)); try simp only [Act.put, List.setIfInBounds_toArray, List.set_cons_zero, List.set_cons_succ])
    refine Org.go rfl (by kernel_rfl) (by kernel_rfl) (fun K hK => ?_)
    refine op_append (.const (.slice none 0 0)) (.tmp 47) 33 rfl w1.heap.size 5 iB (.int .u8 0) 1 1 Tryz.underlying33 hiB hzB0 hzB1 hzB2 rfl (by omega) (.slice none 0 0) 0 [] rfl (World.ownsRow_nil _ _ _ _) _ A 64 c (l.map bv8) rfl (HSL.out _ O1.out.drew) (fun v hv => by obtain ⟨b, _, rfl⟩ := List.mem_map.1 hv; rfl) 64 rfl (l.map bv8) rfl (by omega) (by omega) (Nat.le_refl _) ?_
    intro A2 cc2 w2 o2 g2 _
    have hb12 : Below w1.heap.size w1 w2 := (below_drew' (Below.refl _ w1)).grown g2 (Nat.le_refl _) (fun k hk => by cases hk)
    have HB12 := hid hb12
    have HO2 := hid o2
    refine hK.out _ _ ⟨by rw [hb12.cell (p := ⟨g, 2, none⟩) hg1]; exact c2, by rw [hb12.cell (p := ⟨g, 3, none⟩) hg1]; exact c3⟩ (fun hS2 => ?_)
    clear hb12 o2 g2
    clear hK K hS
    have hS := hS2
    clear hS2
    try simp only [Act.put, List.setIfInBounds_toArray, List.set_cons_zero, List.set_cons_succ]
    refine Org.go rfl (by kernel_rfl) (by kernel_rfl) (fun K hK => ?_)
    go_simp
    have hbA : Below w2.heap.size w2 (w2.alloc (.cells #[.slice A2 64 cc2] 33)) := (Below.refl _ _).alloc (Nat.le_refl _) _
    have HBA := hid hbA
    refine hK.out _ _ ⟨by rw [hbA.cell (p := ⟨g, 2, none⟩) (Nat.lt_of_lt_of_le hg1 HB12.out.size)]; exact hS.1, by rw [hbA.cell (p := ⟨g, 3, none⟩) (Nat.lt_of_lt_of_le hg1 HB12.out.size)]; exact hS.2⟩ (fun hS2 => ?_)
    clear hbA
    clear hK K hS
    have hS := hS2
    clear hS2
    try simp only [Act.put, List.setIfInBounds_toArray, List.set_cons_zero, List.set_cons_succ]
    refine Org.go rfl (by kernel_rfl) (by kernel_rfl) (fun K hK => ?_)
    have how := own_below2 H1.out.l.own.own (HB12.out.trans (HBA.out.mono HB12.out.size))
    rw [show ({ d with s := d.s.step } : Dr).L.length = nl from HNL.out] at how
    refine op_append (.tmp 46) (.tmp 49) 23 rfl 0 33 i1 (.slice none 0 0) 1 24 Tryz.underlying23 hi' hz0' hz1' hz2' rfl (by omega) (.slice Al nl cl) nl lvs rfl how _ _ 1 1 [.slice A2 64 cc2] rfl (Sl.fresh w2 [.slice A2 64 cc2] 33 (0, 0) 1 rfl) (by simp [Value.oneCell']) (nl + 1) rfl (lvs ++ [.slice A2 64 cc2]) rfl (by omega) (by omega) (Nat.zero_le _) ?_
    intro A3 c3x w3 o3 g3 wh
    have hx2 : OB w1.heap.size w2 (.slice A2 64 cc2) l := by
     have := HO2.out
     unfold OB
     rw [HLN.out]
     exact this
    obtain ⟨hDA, hOA, hRA⟩ := H1.out.appended (lv' := .slice A3 (nl + 1) c3x) HB12.out hx2 (.cells #[.slice A2 64 cc2] 33) (by rw [show ({ d with s := d.s.step } : Dr).L.length = nl from HNL.out]; exact o3) g3 (fun k hk => by
     refine ⟨?_, (own_lt o3 k hk).2⟩
     rcases wh with h2 | h2
     ·exact .inl (by rw [← h2]; exact hk)
     ·rw [h2] at hk
      injection hk with hk
      exact .inr hk.symm)
    have HDA := hid hDA
    have HOA := hid hOA
    have HRA := hid hRA
    have k2 : w3.cell? ⟨g, 2, none⟩ = some (.slice Al nl cl) := hRA.cell 2
    have k3 : w3.cell? ⟨g, 3, none⟩ = some (.int .i64 (d.wait : Int)) := hRA.cell 3
    clear how
    refine hK.out _ _ ⟨k2, k3⟩ (fun hS2 => ?_)
    clear hDA hOA hRA k2 k3 o3 g3 wh hx2
    clear hK K hS
    have hS := hS2
    clear hS2
    try simp only [Act.put, List.setIfInBounds_toArray, List.set_cons_zero, List.set_cons_succ]
    (refine Org.free (v := ?_) rfl (by kernel_rfl) (by kernel_rfl) (by kernel_rfl) (by kernel_rfl) (by kernel_rfl) (fun _ _ _ h => h) (by kernel_rfl) (SM.of hS) ?_ ?_; rotate_left; (focus (intro w; refine Pure.val ?_; go_simp; (try with_reducible rfl); done)); try simp only [Act.put, List.setIfInBounds_toArray, List.set_cons_zero, List.set_cons_succ])
    (refine Org.yes (v := ?_) rfl (by kernel_rfl) (by kernel_rfl) (by kernel_rfl) (by kernel_rfl) (by kernel_rfl) (fun _ _ _ h => h) (by kernel_rfl) (SM.of hS) ?_ ?_; rotate_left; (focus (intro w hSw; (try dsimp only at hSw); refine Pure.val ?_; go_simp; (try with_reducible rfl); done)); try simp only [Act.put, List.setIfInBounds_toArray, List.set_cons_zero, List.set_cons_succ])
    refine Org.mark (p := 17) rfl (by kernel_rfl) (by kernel_rfl) (by kernel_rfl) (by kernel_rfl) (fun K hK => ?_)
    have k2 := hS.1
    have f2 := HRA.out.frozen 2
    go_simp
    refine hK.out _ _ ?_
    clear k2 f2
    clear hK K hS
    try simp only [Act.put, List.setIfInBounds_toArray, List.set_cons_zero, List.set_cons_succ]
    iterate 2 (refine Org.free (v := ?_) rfl (by kernel_rfl) (by kernel_rfl) (by kernel_rfl) (by kernel_rfl) (by kernel_rfl) (fun _ _ _ h => h) (by kernel_rfl) (SM.past (p := 17) (by kernel_rfl) (by kernel_rfl)) ?_ ?_; rotate_left; (focus (intro w; refine Pure.val ?_; go_simp; (try with_reducible rfl); done)); try simp only [Act.put, List.setIfInBounds_toArray, List.set_cons_zero, List.set_cons_succ])
    refine Org.mark (p := 17) rfl (by kernel_rfl) (by kernel_rfl) (by kernel_rfl) (by kernel_rfl) (fun K hK => ?_)
    have k3 : (w3.setCell ⟨g, 2, none⟩ (.slice A3 (nl + 1) c3x)).cell? ⟨g, 3, none⟩ = some (.int .i64 (d.wait : Int)) := HDA.out.row.cell 3
    have f3 := HDA.out.row.frozen 3
    go_simp
    refine hK.out _ _ ?_
    clear k3 f3
    clear hK K
    try simp only [Act.put, List.setIfInBounds_toArray, List.set_cons_zero, List.set_cons_succ]
    refine Org.done (by kernel_rfl) ?_
    have hF := HDA.out.setWait nw
    have hO : Only F w1 ((w3.setCell ⟨g, 2, none⟩ (.slice A3 (nl + 1) c3x)).setCell ⟨g, 3, none⟩ (.int .i64 (nw : Int))) := (HOA.out.set HFG.out 2 _).set HFG.out 3 _
    have hO2 := O1.out.trans hO (fun _ _ hk => hk)
    have hz3 : w3.heap.size ≤ ((w3.setCell ⟨g, 2, none⟩ (.slice A3 (nl + 1) c3x)).setCell ⟨g, 3, none⟩ (.int .i64 (nw : Int))).heap.size := by simp [World.setCell]
    have HF := hid hF
    have HO2 := hid hO2
    clear hF hO hO2 e55
    generalize (w3.setCell ⟨g, 2, none⟩ (.slice A3 (nl + 1) c3x)).setCell ⟨g, 3, none⟩ (.int .i64 (nw : Int)) = w5 at *
    cases hgo : d.s.goes with
    | false =>
     have hs : S = ({ d with L := d.L ++ [l], wait := d.wait + 1, s := d.s.step }, 14) := by rw [← HS.out]; unfold Dr.append; rw [if_neg (by rw [HLN.out]; simp), HLO.out, HNL.out, if_neg (by simp), if_neg (by omega), HOFF.out, if_neg (by simp), hgo, if_neg (by simp)]
     rw [HNW.out] at hs
     subst hs
     clear hgo
     go_wp2_with fail
     go_ret
     exact ⟨rfl, ⟨_, _, _, _, HF.out.widen hz1 hz3 (fun k hk => Nat.lt_of_lt_of_le (HF1.out k hk) (Nat.le_trans HOA.out.size hz3))⟩, HO2.out⟩
    | true =>
     have hs : S = ({ d with L := d.L ++ [l], wait := d.wait + 1, s := d.s.step }.went, 0) := by rw [← HS.out]; unfold Dr.append; rw [if_neg (by rw [HLN.out]; simp), HLO.out, HNL.out, if_neg (by simp), if_neg (by omega), HOFF.out, if_neg (by simp), hgo, if_pos rfl]
     rw [HNW.out] at hs
     subst hs
     have k4 : w5.cell? ⟨g, 4, none⟩ = some (.bool d.has) := HF.out.row.cell 4
     have k5 : w5.cell? ⟨g, 5, none⟩ = some bv := HF.out.row.cell 5
     have f4 := HF.out.row.frozen 4
     have f5 := HF.out.row.frozen 5
     have hG := (HF.out.setHas false).noB
     have hz5 : w3.heap.size ≤ ((w5.setCell ⟨g, 4, none⟩ (.bool false)).setCell ⟨g, 5, none⟩ (.slice none 0 0)).heap.size := by simpa [World.setCell] using hz3
     have hO5 : Only F w ((w5.setCell ⟨g, 4, none⟩ (.bool false)).setCell ⟨g, 5, none⟩ (.slice none 0 0)) := (HO2.out.set HFG.out 4 _).set HFG.out 5 _
     have HG := hid hG
     have HO5 := hid hO5
     clear hgo hG hO5
     go_wp2_with fail
     go_ret
     exact ⟨rfl, ⟨_, _, _, _, HG.out.widen hz1 hz5 (fun k hk => Nat.lt_of_lt_of_le (HF1.out k hk) (Nat.le_trans HOA.out.size hz5))⟩, HO5.out⟩
end Go.Proofs.YtnknjeipfjdjoaaGreatDoor
namespace Go.Proofs.YtnknjeipfjdjoaaGreatDoor
open Go.RowKit Wells
theorem RDrv.grow {F : Nat → Prop} {w w2 : World} {g pg : Nat} {lv bv : Value} {lvs bvs : List Value} {d : Dr} (h : RDrv F w g pg lv lvs bv bvs d) (hb : Below w.heap.size w w2) : RDrv (Ext F w w2) w2 g pg lv lvs bv bvs d :=
 (h.only (Only.of_new (F := fun _ => False) hb) (fun _ _ hf => hf)).more (fun k hk => .inl hk) (fun k hk => by
  rcases hk with hk | hk
  ·exact Nat.lt_of_lt_of_le (h.lt k hk) hb.size
  ·exact hk.2)
theorem RDrv.fresh {F : Nat → Prop} {w w2 : World} {v : Value} {vs : List Value} {ls : List (List Byte)} (ho : OBs w.heap.size w2 v vs ls) : Lst (Ext F w w2) w2 v vs ls := Lst.of_own ho (fun k h1 h2 => .inr ⟨h1, h2⟩)
end Go.Proofs.YtnknjeipfjdjoaaGreatDoor
