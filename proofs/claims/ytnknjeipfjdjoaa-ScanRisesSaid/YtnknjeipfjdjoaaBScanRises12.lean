/- DrvOps DrvSync DrvApp DrvApp2 DrvCrash0 DrvTorn DrvCrash DrvRew DrvMore DrvSpoil Law22 DrvClone -/
import Derived.Deep.RegionLaw
import Derived.Deep.AppendLies
import Derived.Deep.DeepCutAuto
import Derived.ArgAppend
import Derived.Test.YtnknjeipfjdjoaaBScanRises02
import Derived.Test.YtnknjeipfjdjoaaBScanRises11
set_option maxRecDepth 20000
set_option linter.unusedSimpArgs false
set_option linter.unusedVariables false
set_option linter.unusedSectionVars false
namespace Go.Proofs.Ytnknjeipfjdjoaa
open Go.RowKit Wells
theorem row_ne {w : World} {g g' : Nat} {t t' : TypeId} {cs cs' : List Value} (h : Row w g t cs) (h' : Row w g' t' cs') (hne : t ≠ t') : g ≠ g' := fun e => by
  subst e
  unfold Row at h h'
  rw [h] at h'
  injection h' with h'
  injection h' with _ h' _
  exact hne h'
section
variable {F : Nat → Prop} {w : World} {g pg : Nat} {lv bv : Value} {lvs bvs : List Value} {d : Dr}
theorem Drv.ne (h : Drv F w g pg lv lvs bv bvs d) : g ≠ pg := row_ne h.row h.pow (by decide)
theorem Drv.setL (h : Drv F w g pg lv lvs bv bvs d) {lv' : Value} {lvs' : List Value} {L' : List (List Byte)} (hl : Lst F w lv' lvs' L') (hs : ∀ k, lv'.ownBlock = some k → bv.ownBlock ≠ some k) (hd : Dist (lvs' ++ bvs)) :
    Drv F (w.setCell ⟨g, 2, none⟩ lv') g pg lv' lvs' bv bvs { d with L := L' } :=
  ⟨h.row.set 2 lv', h.pow.far (Ne.symm h.ne) _, h.fg, h.fp, fun k hk => by simpa [World.setCell] using h.lt k hk, hl.far h.row (by decide) (by decide) _ _, h.b.far h.row (by decide) (by decide) _ _, hs, hd⟩
theorem Drv.setWait (h : Drv F w g pg lv lvs bv bvs d) (n : Nat) : Drv F (w.setCell ⟨g, 3, none⟩ (.int .i64 n)) g pg lv lvs bv bvs { d with wait := n } :=
  ⟨h.row.set 3 _, h.pow.far (Ne.symm h.ne) _, h.fg, h.fp, fun k hk => by simpa [World.setCell] using h.lt k hk, h.l.far h.row (by decide) (by decide) _ _, h.b.far h.row (by decide) (by decide) _ _, h.sep, h.dist⟩
theorem Drv.setB (h : Drv F w g pg lv lvs bv bvs d) {bv' : Value} {bvs' : List Value} {B' : List (List Byte)} (hl : Lst F w bv' bvs' B') (hs : ∀ k, lv.ownBlock = some k → bv'.ownBlock ≠ some k) (hd : Dist (lvs ++ bvs')) :
    Drv F (w.setCell ⟨g, 4, none⟩ bv') g pg lv lvs bv' bvs' { d with B := B' } :=
  ⟨h.row.set 4 bv', h.pow.far (Ne.symm h.ne) _, h.fg, h.fp, fun k hk => by simpa [World.setCell] using h.lt k hk, h.l.far h.row (by decide) (by decide) _ _, hl.far h.row (by decide) (by decide) _ _, hs, hd⟩
theorem Drv.setHas (h : Drv F w g pg lv lvs bv bvs d) (b : Bool) : Drv F (w.setCell ⟨g, 5, none⟩ (.bool b)) g pg lv lvs bv bvs { d with has := b } :=
  ⟨h.row.set 5 _, h.pow.far (Ne.symm h.ne) _, h.fg, h.fp, fun k hk => by simpa [World.setCell] using h.lt k hk, h.l.far h.row (by decide) (by decide) _ _, h.b.far h.row (by decide) (by decide) _ _, h.sep, h.dist⟩
theorem Drv.setLost (h : Drv F w g pg lv lvs bv bvs d) (b : Bool) : Drv F (w.setCell ⟨g, 6, none⟩ (.bool b)) g pg lv lvs bv bvs { d with lost := b } :=
  ⟨h.row.set 6 _, h.pow.far (Ne.symm h.ne) _, h.fg, h.fp, fun k hk => by simpa [World.setCell] using h.lt k hk, h.l.far h.row (by decide) (by decide) _ _, h.b.far h.row (by decide) (by decide) _ _, h.sep, h.dist⟩
theorem dist_left {a b : List Value} (h : Dist (a ++ b)) : Dist a := (List.pairwise_append.1 h).1
theorem Drv.noB (h : Drv F w g pg lv lvs bv bvs d) : Drv F (w.setCell ⟨g, 4, none⟩ (.slice none 0 0)) g pg lv lvs (.slice none 0 0) [] { d with B := [] } :=
  h.setB (Lst.nil_ F w) (fun k _ e => by cases e) (by rw [List.append_nil]; exact dist_left h.dist)
theorem Drv.went (h : Drv F w g pg lv lvs bv bvs d) : Drv F ((w.setCell ⟨g, 4, none⟩ (.slice none 0 0)).setCell ⟨g, 5, none⟩ (.bool false)) g pg lv lvs (.slice none 0 0) [] d.went := h.noB.setHas false
theorem Drv.power (h : Drv F w g pg lv lvs bv bvs d) {w' : World} {s' : Pw} (hr : Row w' pg 94 (pw s')) (hg : w.grownBy w' (some pg)) : Drv F w' g pg lv lvs bv bvs { d with s := s' } := by
  have ho : Only (fun k => k = pg) w w' := Only.of_grown hg (fun k e => by injection e with e; exact e.symm)
  have fl : ∀ {v : Value} {vs : List Value} {ls : List (List Byte)}, Lst F w v vs ls → Lst F w' v vs ls := fun hl =>
    ⟨hl.own.only ho (fun k hk e => own_row_ne hl.own.own h.pow (by decide) k hk e) (fun y hy k hk e => by
      have hll := hl.len
      obtain ⟨j, hj, rfl⟩ := List.getElem_of_mem hy
      have := hl.own.at_ j (by omega)
      rw [List.getD_eq_getElem?_getD, List.getElem?_eq_getElem hj] at this
      exact own_row_ne this h.pow (by decide) k hk e), hl.iv, hl.is⟩
  exact ⟨h.row.only ho h.ne, hr, h.fg, h.fp, fun k hk => Nat.lt_of_lt_of_le (h.lt k hk) hg.size, fl h.l, fl h.b, h.sep, h.dist⟩
end
theorem dnew_any (n pg : Nat) (s : Pw) (w : World) (hn : 1 ≤ n) (hn2 : n ≤ 512) (hp : Row w pg 94 (pw s)) :
    Calls Try.prog 21 #[.int .i64 n, .pointer (some ⟨pg, 0, none⟩)] w fun e w' => ∃ g, e = .returned (.pointer (some ⟨g, 0, none⟩)) ∧ w.heap.size ≤ g ∧ DrvE (fun k => k = g ∨ k = pg) w' g pg (Dr.new s n) ∧ Below w.heap.size w w' := by
  have hr := Row.new w 83 #[.pointer (some ⟨pg, 0, none⟩), .int .i64 n, .slice none 0 0, .int .i64 0, .slice none 0 0, .bool false, .bool false]
  have hpl := hp.lt
  go_enter Try.func21, Try.ntmps21
  go_wp2_with fail
  go_ret
  refine ⟨w.heap.size, rfl, Nat.le_refl _, ⟨.slice none 0 0, [], .slice none 0 0, [], hr, hp.alloc _, .inl rfl, .inr rfl, fun k hk => ?_, Lst.nil_ _ _, Lst.nil_ _ _, fun k e => (by cases e), List.Pairwise.nil⟩, (Below.refl _ _).alloc (Nat.le_refl _) _⟩
  rcases hk with rfl | rfl <;> simp <;> omega
theorem dwent_any (F : Nat → Prop) (g pg : Nat) (d : Dr) (w : World) (h : DrvE F w g pg d) : Calls Try.prog 67 #[.pointer (some ⟨g, 0, none⟩)] w fun e w' => e = .returned (.int .i64 0) ∧ DrvE F w' g pg d.went ∧ Only F w w' := by
  obtain ⟨lv, lvs, bv, bvs, h⟩ := h
  have c4 := h.row.cell 4
  have c5 := h.row.cell 5
  have f4 := h.row.frozen 4
  have f5 := h.row.frozen 5
  have e4 : (drRow pg d lv bv)[4]? = some bv := rfl
  have e5 : (drRow pg d lv bv)[5]? = some (.bool d.has) := rfl
  rw [e4] at c4
  rw [e5] at c5
  clear e4 e5
  have hw := h.went
  have ho : Only F w ((w.setCell ⟨g, 4, none⟩ (.slice none 0 0)).setCell ⟨g, 5, none⟩ (.bool false)) := ((Only.refl F w).set h.fg 4 _).set h.fg 5 _
  go_enter Try.func67, Try.ntmps67
  go_wp2_with fail
  go_ret
  exact ⟨rfl, ⟨_, _, _, _, hw⟩, ho⟩
end Go.Proofs.Ytnknjeipfjdjoaa

namespace Go.Proofs.Ytnknjeipfjdjoaa
open Go.RowKit Wells
theorem errno_ret {a b : Int} (h : a = b) : Ending.returned (.int .i64 a) = .returned (.int .i64 b) := by rw [h]
theorem dsync_any (F : Nat → Prop) (g pg : Nat) (d : Dr) (m : Nat) (w : World) (h : DrvE F w g pg d) (hok : DOk m d) (hm : m ≤ 1000000) :
    Calls Try.prog 39 #[.pointer (some ⟨g, 0, none⟩)] w fun e w' => e = .returned (.int .i64 d.sync.2) ∧ DrvE F w' g pg d.sync.1 ∧ Only F w w' := by
  obtain ⟨lv, lvs, bv, bvs, h⟩ := h
  have c6 := h.row.cell 6
  have c0 := h.row.cell 0
  have e6 : (drRow pg d lv bv)[6]? = some (.bool d.lost) := rfl
  have e0 : (drRow pg d lv bv)[0]? = some (.pointer (some ⟨pg, 0, none⟩)) := rfl
  rw [e6] at c6
  rw [e0] at c0
  clear e6 e0
  obtain ⟨S, hS⟩ : ∃ S, d.sync = S := ⟨_, rfl⟩
  rw [hS]
  have HS := hid hS
  clear hS
  have hl := hok.left
  have ho1 := hok.offs.1
  have ho2 := hok.offs.2
  cases hlo : d.lost with
  | true =>
    rw [hlo] at c6
    have hs : S = (d, 5) := by rw [← HS.out]; unfold Dr.sync; rw [hlo]; rfl
    subst hs
    go_enter Try.func39, Try.ntmps39
    go_wp2_with fail
    go_ret
    exact ⟨rfl, ⟨_, _, _, _, h⟩, Only.refl _ _⟩
  | false =>
    rw [hlo] at c6
    have HLO := hid hlo
    clear hlo
    go_enter Try.func39, Try.ntmps39
    go_wp2_with fail
    refine (pstep_any pg d.s w h.pow hl ⟨ho1, by omega⟩).mono ?_
    rintro e w1 ⟨rfl, hp1, hg1⟩
    have h1 := h.power hp1 hg1
    have o1 : Only F w w1 := Only.of_grown hg1 (fun k e => by injection e with e; rw [← e]; exact h.fp)
    have c3 := h1.row.cell 3
    have f3 := h1.row.frozen 3
    have e3 : (drRow pg { d with s := d.s.step } lv bv)[3]? = some (.int .i64 (d.wait : Int)) := rfl
    rw [e3] at c3
    clear e3
    cases hgo : d.s.goes with
    | false =>
      have hs : S = ({ d with s := d.s.step }, 14) := by rw [← HS.out]; unfold Dr.sync; rw [HLO.out, hgo]; rfl
      subst hs
      clear hgo
      go_wp2_with fail
      go_ret
      exact ⟨rfl, ⟨_, _, _, _, h1⟩, o1⟩
    | true =>
      have hs : S = ({ d with wait := 0, s := d.s.step }.went, 0) := by rw [← HS.out]; unfold Dr.sync; rw [HLO.out, hgo]; rfl
      subst hs
      clear hgo
      go_wp2_with fail
      refine (dwent_any F g pg _ _ ⟨_, _, _, _, h1.setWait 0⟩).mono ?_
      rintro e w2 ⟨rfl, h2, o2⟩
      go_wp2_with fail
      go_ret
      exact ⟨rfl, h2, (o1.set h.fg 3 _).trans o2 (fun _ _ hk => hk)⟩
end Go.Proofs.Ytnknjeipfjdjoaa

namespace Go.Proofs.Ytnknjeipfjdjoaa
open Go.RowKit Wells
theorem Lst.set_ {F : Nat → Prop} {w : World} {g : Nat} {t : TypeId} {v : Value} {vs : List Value} {ls : List (List Byte)} {cs : List Value} (h : OBs 0 w v vs ls) (hv : In v F) (hs : ∀ x ∈ vs, In x F) (hr : Row w g t cs) (h1 : 29 ≠ t) (h2 : 5 ≠ t) (i : Nat) (x : Value) : Lst F (w.setCell ⟨g, i, none⟩ x) v vs ls :=
  Lst.far ⟨h, hv, hs⟩ hr h1 h2 i x
theorem OBs.elem {base : Nat} {w : World} {v : Value} {vs : List Value} {ls : List (List Byte)} (h : OBs base w v vs ls) {x : Value} (hx : x ∈ vs) : ∃ l, OB base w x l := by
  have hl : vs.length = ls.length := by have := h.own.1; omega
  obtain ⟨i, hi, rfl⟩ := List.getElem_of_mem hx
  have := h.at_ i (by omega)
  rw [List.getD_eq_getElem?_getD, List.getElem?_eq_getElem hi] at this
  exact ⟨_, this⟩
theorem Drv.appended {F : Nat → Prop} {w w2 w3 : World} {g pg : Nat} {lv bv lv' xv : Value} {lvs bvs : List Value} {d : Dr} {x : List Byte} (h : Drv F w g pg lv lvs bv bvs d) (hb2 : Below w.heap.size w w2) (hx : OB w.heap.size w2 xv x) (o : Obj)
    (ho3 : w3.ownsRow 0 29 1 lv' (d.L.length + 1) (lvs ++ [xv])) (gr3 : (w2.alloc o).grownBy w3 lv.ownBlock) (hwh : ∀ k, lv'.ownBlock = some k → (lv.ownBlock = some k ∨ k = (w2.alloc o).heap.size) ∧ k < w3.heap.size) :
    Drv (Ext F w w3) (w3.setCell ⟨g, 2, none⟩ lv') g pg lv' (lvs ++ [xv]) bv bvs { d with L := d.L ++ [x] } ∧ Only F w w3 ∧ Row w3 g 83 (drRow pg d lv bv) := by
  have hsz := hb2.size
  have hb2a : Below w.heap.size w (w2.alloc o) := hb2.alloc hsz o
  have hsa : (w2.alloc o).heap.size = w2.heap.size + 1 := by simp
  have hs3 := gr3.size
  have hO : Only (fun k => lv.ownBlock = some k) w w3 := (Only.of_new hb2a).trans (Only.of_grown (F := fun k => lv.ownBlock = some k) gr3 (fun k e => e)) (fun _ _ hk => hk)
  have hOF : Only F w w3 := hO.mono (fun k hk => h.l.iv k hk)
  have row3 := h.row.only hO (fun e => own_row_ne h.l.own.own h.row (by decide) g e rfl)
  have pow3 := h.pow.only hO (fun e => own_row_ne h.l.own.own h.pow (by decide) pg e rfl)
  have L3 : OBs 0 w3 lv' (lvs ++ [xv]) (d.L ++ [x]) := (h.l.own.below hb2a).push (x := x) (OB.below (base := 0) (own_base hx (Nat.zero_le _)) ((Below.refl _ _).alloc (Nat.le_refl _) _)) ho3 gr3
  have B3 : OBs 0 w3 bv bvs d.B := h.b.own.only hO (fun k hk e => h.sep k e hk) (fun y hy k hk e => by
    obtain ⟨l', hl'⟩ := h.b.own.elem hy
    rcases own_other hl' h.l.own.own (by decide) with h1 | h1
    · rw [h1] at hk; cases hk
    · exact h1 (hk.trans e.symm))
  have hxn : ∀ k, xv.ownBlock = some k → w.heap.size ≤ k ∧ k < w3.heap.size := fun k hk => by
    have := own_lt hx k hk
    omega
  have hext : ∀ k, F k → Ext F w w3 k := fun k hk => .inl hk
  have hxe : In xv (Ext F w w3) := fun k hk => .inr (hxn k hk)
  have hve : In lv' (Ext F w w3) := fun k hk => by
    obtain ⟨h1, h2⟩ := hwh k hk
    rcases h1 with h1 | h1
    · exact .inl (h.l.iv k h1)
    · exact .inr ⟨by omega, h2⟩
  have hes : ∀ y ∈ lvs ++ [xv], In y (Ext F w w3) := fun y hy => by
    rcases List.mem_append.1 hy with hy | hy
    · exact (h.l.is y hy).mono hext
    · rw [List.mem_singleton] at hy; subst hy; exact hxe
  refine ⟨⟨row3.set 2 lv', pow3.far (Ne.symm h.ne) _, .inl h.fg, .inl h.fp, fun k hk => ?_, Lst.set_ L3 hve hes row3 (by decide) (by decide) _ _, Lst.set_ B3 (h.b.iv.mono hext) (fun y hy => (h.b.is y hy).mono hext) row3 (by decide) (by decide) _ _, fun k hk e => ?_, ?_⟩, hOF, row3⟩
  · have : k < w3.heap.size := by
      rcases hk with hk | hk
      · have := h.lt k hk; omega
      · exact hk.2
    simpa [World.setCell] using this
  · rcases (hwh k hk).1 with h1 | h1
    · exact h.sep k h1 e
    · have := h.lt k (h.b.iv k e)
      omega
  · have hd := h.dist
    unfold Dist at hd ⊢
    rw [List.pairwise_append] at hd ⊢
    obtain ⟨d1, d2, d3⟩ := hd
    refine ⟨?_, d2, fun a ha b hb k hk e => ?_⟩
    · exact dist_push d1 (m := w.heap.size) (fun a ha k hk => h.lt k (h.l.is a ha k hk)) (fun k hk => (hxn k hk).1)
    · rcases List.mem_append.1 ha with ha | ha
      · exact d3 a ha b hb k hk e
      · rw [List.mem_singleton] at ha
        subst ha
        have := (hxn k hk).1
        have := h.lt k (h.b.is b hb k e)
        omega
end Go.Proofs.Ytnknjeipfjdjoaa

namespace Go.Proofs.Ytnknjeipfjdjoaa
open Go.RowKit Wells
theorem DrvE.drew_ {F : Nat → Prop} {w : World} {g pg : Nat} {d : Dr} (h : DrvE F w g pg d) : DrvE F w.drew g pg d := h.only (Only.refl (fun _ => False) w).drew (fun _ _ hf => hf)
theorem Drv.drew_ {F : Nat → Prop} {w : World} {g pg : Nat} {lv bv : Value} {lvs bvs : List Value} {d : Dr} (h : Drv F w g pg lv lvs bv bvs d) : Drv F w.drew g pg lv lvs bv bvs d := h.only (Only.refl (fun _ => False) w).drew (fun _ _ hf => hf)
theorem Drv.ext_set {F : Nat → Prop} {w w3 : World} {a : Addr} {v : Value} {g pg : Nat} {lv bv : Value} {lvs bvs : List Value} {d : Dr} (h : Drv (Ext F w.drew w3) (w3.setCell a v) g pg lv lvs bv bvs d) : Drv (Ext F w (w3.setCell a v)) (w3.setCell a v) g pg lv lvs bv bvs d :=
  h.more (fun k hk => by
    rcases hk with hk | ⟨h1, h2⟩
    · exact .inl hk
    · exact .inr ⟨h1, by simpa [World.setCell] using h2⟩) (fun k hk => by
    rcases hk with hk | ⟨_, h2⟩
    · exact h.lt k (.inl hk)
    · exact h2)
theorem DrvE.widen {F : Nat → Prop} {w w1 wc w5 : World} {g pg : Nat} {d : Dr} (h : DrvE (Ext F w1 wc) w5 g pg d) (hs : w1.heap.size = w.heap.size) (hc : wc.heap.size ≤ w5.heap.size) : DrvE (Ext F w w5) w5 g pg d := by
  obtain ⟨lv, lvs, bv, bvs, h⟩ := h
  refine ⟨lv, lvs, bv, bvs, h.more (fun k hk => ?_) (fun k hk => ?_)⟩
  · rcases hk with hk | ⟨h1, h2⟩
    · exact .inl hk
    · exact .inr ⟨by omega, by omega⟩
  · rcases hk with hk | ⟨_, h2⟩
    · exact h.lt k (.inl hk)
    · exact h2
set_option maxRecDepth 20000 in
set_option maxHeartbeats 4000000 in
theorem dappend_any (F : Nat → Prop) (g pg : Nat) (d : Dr) (m : Nat) (B : Nat) (A : Option Addr) (l : List Byte) (n c : Nat) (w : World) (h : DrvE F w g pg d) (hok : DOk m d) (hm : m ≤ 1000000) (hb : Sl w B 1 A n (l.map bv8)) (hB : B ≤ w.heap.size) (hn : n ≤ 1048576) :
    Calls Try.prog 37 #[.pointer (some ⟨g, 0, none⟩), .slice A n c] w fun e w' => e = .returned (.int .i64 (d.append l).2) ∧ DrvE (Ext F w w') w' g pg (d.append l).1 ∧ Only F w w' := by
  obtain ⟨lv, lvs, bv, bvs, h⟩ := h
  have hln : l.length = n := by have := hb.len; simpa using this
  have HLN := hid hln
  obtain ⟨S, hS⟩ : ∃ S, d.append l = S := ⟨_, rfl⟩
  rw [hS]
  have HS := hid hS
  clear hS
  have hsame : DrvE (Ext F w w) w g pg d := ⟨_, _, _, _, h.more (fun k hk => .inl hk) (fun k hk => by
    rcases hk with hk | hk
    · exact h.lt k hk
    · omega)⟩
  obtain ⟨Al, cl, rfl, hcl1, hcl2⟩ := h.l.own.form
  obtain ⟨nl, hnl⟩ : ∃ k, d.L.length = k := ⟨_, rfl⟩
  rw [hnl] at h hcl1
  have HNL := hid hnl
  have hlen := hok.len
  have hroom := hok.room
  have c6 := h.row.cell 6
  have c0 := h.row.cell 0
  have c1 := h.row.cell 1
  have c2 := h.row.cell 2
  have e6 : (drRow pg d (.slice Al nl cl) bv)[6]? = some (.bool d.lost) := rfl
  have e0 : (drRow pg d (.slice Al nl cl) bv)[0]? = some (.pointer (some ⟨pg, 0, none⟩)) := rfl
  have e1 : (drRow pg d (.slice Al nl cl) bv)[1]? = some (.int .i64 (d.room : Int)) := rfl
  have e2 : (drRow pg d (.slice Al nl cl) bv)[2]? = some (.slice Al nl cl) := rfl
  rw [e6] at c6
  rw [e0] at c0
  rw [e1] at c1
  rw [e2] at c2
  clear e6 e0 e1 e2
  rw [hnl] at hlen
  clear hnl
  by_cases h64 : n = 64
  rotate_left
  · have hs : S = (d, 1) := by rw [← HS.out]; unfold Dr.append; rw [if_pos (by rw [HLN.out]; exact h64)]
    subst hs
    have hb64 : ((n : Int) != 64) = true := by simp; omega
    clear hln
    go_enter Try.func37, Try.ntmps37
    go_wp2_with fail
    go_ret
    exact ⟨rfl, hsame, Only.refl _ _⟩
  subst h64
  cases hlo : d.lost with
  | true =>
    rw [hlo] at c6
    have hs : S = (d, 5) := by rw [← HS.out]; unfold Dr.append; rw [if_neg (by rw [HLN.out]; simp), hlo]; rfl
    subst hs
    clear hln hlo
    go_enter Try.func37, Try.ntmps37
    go_wp2_with fail
    go_ret
    exact ⟨rfl, hsame, Only.refl _ _⟩
  | false =>
    rw [hlo] at c6
    have HLO := hid hlo
    clear hlo hln
    by_cases hfull : d.room ≤ nl
    · have hs : S = (d, 7) := by rw [← HS.out]; unfold Dr.append; rw [if_neg (by rw [HLN.out]; simp), HLO.out, HNL.out, if_neg (by simp), if_pos hfull]
      subst hs
      have hge : (d.room : Int) ≤ (nl : Int) := by omega
      have HH := hid h
      clear h
      go_enter Try.func37, Try.ntmps37
      go_wp2_with fail
      go_region_held3 (fun w' => w'.cell? ⟨g, 2, none⟩ = some (.slice Al nl cl) ∧ w'.cell? ⟨g, 1, none⟩ = some (.int .i64 (d.room : Int))) (first | exact ⟨c2, c1⟩ | assumption) (fail)
      go_wp2_with fail
      go_ret
      exact ⟨rfl, hsame.drew_, (Only.refl _ _).drew⟩
    · have hlt : (nl : Int) < (d.room : Int) := by omega
      have hlt2 : nl < d.room := by omega
      obtain ⟨i1, hi', hz0', hz1', hz2'⟩ := info_parts infoBs
      have hgl := h.row.lt
      go_enter Try.func37, Try.ntmps37
      go_wp2_with fail
      go_region_held3 (fun w' => w'.cell? ⟨g, 2, none⟩ = some (.slice Al nl cl) ∧ w'.cell? ⟨g, 1, none⟩ = some (.int .i64 (d.room : Int))) (first | exact ⟨c2, c1⟩ | assumption) (fail)
      go_wp2_with fail
      refine (pon_any pg d.s w.drew h.pow.drew).mono ?_
      rintro e w1 ⟨rfl, hw1⟩
      rw [← hw1]
      clear hw1 w1
      cases hoff : d.s.off with
      | true =>
        have hs : S = (d, 14) := by rw [← HS.out]; unfold Dr.append; rw [if_neg (by rw [HLN.out]; simp), HLO.out, HNL.out, if_neg (by simp), if_neg hfull, if_pos hoff]
        subst hs
        clear hoff
        go_wp2_with fail
        go_ret
        exact ⟨rfl, hsame.drew_, (Only.refl _ _).drew⟩
      | false =>
        have HOFF := hid hoff
        clear hoff
        have hD := h.drew_
        have sD := hb.drew
        have eo : Only F w w.drew := (Only.refl _ _).drew
        have es : w.drew.heap.size = w.heap.size := rfl
        have d2 : w.drew.cell? ⟨g, 2, none⟩ = some (.slice Al nl cl) := c2
        have d0 : w.drew.cell? ⟨g, 0, none⟩ = some (.pointer (some ⟨pg, 0, none⟩)) := c0
        clear c0 c1 c2 c6
        have ESZ := hid es
        clear es
        generalize w.drew = w1 at *
        have hg1 := hD.row.lt
        have hB1 : B ≤ w1.heap.size := by rw [ESZ.out]; exact hB
        go_upto_region 9 with fail
        go_cut [] (fun wx => ∃ (lv' : Value) (lvs' : List Value), Drv (Ext F w1 wx) wx g pg lv' lvs' bv bvs { d with L := d.L ++ [l] } ∧ Only F w1 wx)
        case first =>
          have hD1 := hD.drew_
          go_region_law (first
            | (refine step_append_lies _ rfl (.tmp 40) (.tmp 43) 43 rfl 0 29 i1 (.slice none 0 0) 1 24 Try.underlying43 hi' hz0' hz1' hz2' rfl (by omega) (.slice Al nl cl) nl lvs rfl (hl2.alloc _) ⟨w2.heap.size, 0, none⟩ 1 1 [.slice A2 64 c2] rfl rfl (World.news_of_block (heap_alloc_new w2 _)) (by simp [Value.oneCell']) (by omega) (by unfold maxLen; omega) (by omega) (Nat.zero_le _) _ rfl ?_; intro g3 c3 w3 o3 gr3 hwh hlt3; obtain ⟨hDA, hOA, hRA⟩ := hD1.appended hb2 hx2 _ (by rw [HNL.out]; exact o3) gr3 (fun k hk => by have hk : some g3 = some k := hk; injection hk with hk; subst hk; exact ⟨hwh, hlt3⟩); have fA := hRA.frozen 2; have cA := hRA.cell 2; have eA : (drRow pg d (.slice Al nl cl) bv)[2]? = some (.slice Al nl cl) := rfl; rw [eA] at cA; clear eA)
            | (go_simp; go_at_call 54; refine (clone_any B A l 64 c _ sD.drew hB1 (by omega)).mono ?_; rintro e w2 ⟨v2, rfl, hx2, hb2⟩; obtain ⟨A2, c2, ev2, hc21, hc22, _⟩ := hx2.read; rw [HLN.out] at ev2; subst ev2; have hl2 := hD1.l.own.own.kept (grown_of_below hb2 none) (by cases (Value.slice Al nl cl).ownBlock <;> simp); rw [HNL.out] at hl2; have d2' := (hb2.cell (p := ⟨g, 2, none⟩) hg1).trans d2; have d2'' := ((((Below.refl w2.heap.size w2).alloc (Nat.le_refl _) (.cells #[.slice A2 64 c2] 29)).cell (p := ⟨g, 2, none⟩) (Nat.lt_of_lt_of_le hg1 hb2.size)).trans d2')))
          all_goals (go_wp2_with fail; go_meet; exact ⟨_, _, hDA.ext_set, ((Only.refl F w1).drew.trans hOA (fun _ _ hk => hk)).set hD.fg 2 _⟩)
        case rest =>
        obtain ⟨lv', lvs', hD', hO'⟩ := hcut
        have c3 := hD'.row.cell 3
        have c0 := hD'.row.cell 0
        have f3 := hD'.row.frozen 3
        have e3 : (drRow pg { d with L := d.L ++ [l] } lv' bv)[3]? = some (.int .i64 (d.wait : Int)) := rfl
        have e0 : (drRow pg { d with L := d.L ++ [l] } lv' bv)[0]? = some (.pointer (some ⟨pg, 0, none⟩)) := rfl
        rw [e3] at c3
        rw [e0] at c0
        clear e3 e0 d0 d2
        have hwt := hok.wait
        rw [HNL.out] at hwt
        have hD2 := hD'.setWait (d.wait + 1)
        have hcast : ((d.wait + 1 : Nat) : Int) = (d.wait : Int) + 1 := by omega
        rw [hcast] at hD2
        clear hcast
        have hO2 : Only F w1 (wc.setCell ⟨g, 3, none⟩ (.int .i64 ((d.wait : Int) + 1))) := hO'.set hD.fg 3 _
        have hz2 : wc.heap.size ≤ (wc.setCell ⟨g, 3, none⟩ (.int .i64 ((d.wait : Int) + 1))).heap.size := by simp [World.setCell]
        have hl := hok.left
        have ho1 := hok.offs.1
        have ho2 := hok.offs.2
        have HSZ := hid ESZ.out
        clear h hsame
        go_wp2_with fail
        generalize wc.setCell ⟨g, 3, none⟩ (.int .i64 ((d.wait : Int) + 1)) = w4 at *
        refine (pstep_any pg d.s w4 hD2.pow hl ⟨ho1, by omega⟩).mono ?_
        rintro e w5 ⟨rfl, hp5, hg5⟩
        have h5 := hD2.power hp5 hg5
        have o5 : Only F w1 w5 := hO2.trans (Only.of_grown (F := F) hg5 (fun k e => by injection e with e; rw [← e]; exact hD.fp)) (fun _ _ hk => hk)
        have hz5 := hg5.size
        have o6 : Only F w w5 := eo.trans o5 (fun _ _ hk => hk)
        cases hgo : d.s.goes with
        | false =>
          have hs : S = ({ d with L := d.L ++ [l], wait := d.wait + 1, s := d.s.step }, 14) := by rw [← HS.out]; unfold Dr.append; rw [if_neg (by rw [HLN.out]; simp), HLO.out, HNL.out, if_neg (by simp), if_neg hfull, HOFF.out, if_neg (by simp), hgo, if_neg (by simp)]
          subst hs
          clear hgo
          go_wp2_with fail
          go_ret
          exact ⟨rfl, DrvE.widen ⟨_, _, _, _, h5⟩ HSZ.out (by omega), o6⟩
        | true =>
          have hs : S = ({ d with L := d.L ++ [l], wait := d.wait + 1, s := d.s.step }.went, 0) := by rw [← HS.out]; unfold Dr.append; rw [if_neg (by rw [HLN.out]; simp), HLO.out, HNL.out, if_neg (by simp), if_neg hfull, HOFF.out, if_neg (by simp), hgo, if_pos rfl]
          subst hs
          clear hgo
          go_wp2_with fail
          refine (dwent_any (Ext F w1 wc) g pg _ _ ⟨_, _, _, _, h5⟩).mono ?_
          rintro e w6 ⟨rfl, h6, o7⟩
          have hz6 := o7.size
          go_wp2_with fail
          go_ret
          exact ⟨rfl, h6.widen HSZ.out (by omega), o6.trans o7 (fun k hk hx => by
            rcases hx with hx | hx
            · exact hx
            · have := HSZ.out; omega)⟩
end Go.Proofs.Ytnknjeipfjdjoaa

namespace Wells
open Go Go.RowKit
def tornL (c : List Byte) (torn : Int) : List Byte := c.take (min torn.toNat 64) ++ List.replicate (64 - min torn.toNat 64) 0#8
def Dr.fallen (d : Dr) (keep torn : Int) : List (List Byte) :=
  if d.has = true then (if 0 < keep then d.B else d.L.take (d.L.length - d.wait))
  else if min keep.toNat d.wait < d.wait ∧ 0 < torn then d.L.take (d.L.length - d.wait + min keep.toNat d.wait) ++ [tornL (d.L.getD (d.L.length - d.wait + min keep.toNat d.wait) []) torn]
  else d.L.take (d.L.length - d.wait + min keep.toNat d.wait)
def Dr.crash (d : Dr) (keep torn : Int) : Dr := { d with L := d.fallen keep torn, wait := 0, B := [], has := false }
end Wells
namespace Go.Proofs.Ytnknjeipfjdjoaa
open Go.RowKit Wells
theorem OBs.take_ {base : Nat} {w : World} {A : Option Addr} {n c m : Nat} {vs : List Value} {ls : List (List Byte)} (h : OBs base w (.slice A n c) vs ls) (hn : ls.length = n) (hm : m ≤ n) : OBs base w (.slice A m c) (vs.take m) (ls.take m) := by
  have hl : vs.length = n := by have := h.own.1; omega
  have hlt : (ls.take m).length = m := by simp; omega
  refine ⟨?_, fun i hi => ?_⟩
  · rw [hlt]
    refine ⟨by simp; omega, ?_⟩
    rcases h.own.2 with ⟨hv, h0⟩ | ⟨g, cap, cur, hv, hg, hh, h1, h2, h3, h4⟩
    · injection hv with e1 e2 e3
      subst e1 e2 e3
      have : m = 0 := by omega
      subst this
      exact .inl ⟨rfl, rfl⟩
    · injection hv with e1 e2 e3
      subst e1 e3
      refine .inr ⟨g, c, cur, rfl, hg, hh, by omega, h2, h3, ?_⟩
      rw [← h4]
      simp only [Nat.mul_one]
      rw [List.take_take, hn]
      congr 1
      omega
  · rw [hlt] at hi
    have := h.at_ i (by omega)
    rw [List.getD_eq_getElem?_getD, List.getD_eq_getElem?_getD] at this ⊢
    rw [List.getElem?_take, List.getElem?_take, if_pos hi, if_pos hi]
    exact this
theorem Lst.take_ {F : Nat → Prop} {w : World} {A : Option Addr} {n c m : Nat} {vs : List Value} {ls : List (List Byte)} (h : Lst F w (.slice A n c) vs ls) (hn : ls.length = n) (hm : m ≤ n) : Lst F w (.slice A m c) (vs.take m) (ls.take m) :=
  ⟨h.own.take_ hn hm, fun k hk => h.iv k (by cases A <;> exact hk), fun x hx => h.is x (List.mem_of_mem_take hx)⟩
theorem dist_take {a b : List Value} (h : Dist (a ++ b)) (m : Nat) : Dist (a.take m) := (dist_left h).sublist (List.take_sublist m a)
theorem dist_right {a b : List Value} (h : Dist (a ++ b)) : Dist b := (List.pairwise_append.1 h).2.1
/-- the four stores at the end of a fall -/
theorem crash_end {F : Nat → Prop} {w : World} {g pg : Nat} {lv bv lv' : Value} {lvs' : List Value} {d : Dr} {L' : List (List Byte)} (row : Row w g 83 (drRow pg d lv bv)) (pow : Row w pg 94 (pw d.s)) (fg : F g) (fp : F pg) (lt : ∀ k, F k → k < w.heap.size) (hl : Lst F w lv' lvs' L') (hd : Dist lvs') :
    Drv F ((((w.setCell ⟨g, 2, none⟩ lv').setCell ⟨g, 3, none⟩ (.int .i64 0)).setCell ⟨g, 4, none⟩ (.slice none 0 0)).setCell ⟨g, 5, none⟩ (.bool false)) g pg lv' lvs' (.slice none 0 0) [] { d with L := L', wait := 0, B := [], has := false } := by
  have hne : pg ≠ g := fun e => row_ne row pow (by decide) e.symm
  have r2 := row.set 2 lv'
  have r3 := r2.set 3 (.int .i64 0)
  have r4 := r3.set 4 (.slice none 0 0)
  have r5 := r4.set 5 (.bool false)
  exact ⟨r5, (((pow.far hne _).far hne _).far hne _).far hne _, fg, fp, fun k hk => by simpa [World.setCell] using lt k hk, (((hl.far row (by decide) (by decide) _ _).far r2 (by decide) (by decide) _ _).far r3 (by decide) (by decide) _ _).far r4 (by decide) (by decide) _ _, Lst.nil_ _ _, (fun k _ e => by cases e), by rw [List.append_nil]; exact hd⟩
theorem OBs.snoc_new {base : Nat} {w w' : World} {v v' xv : Value} {vs : List Value} {ls : List (List Byte)} {x : List Byte} (h : OBs base w v vs ls) (hb : Below w.heap.size w w') (ho : w'.ownsRow base 29 1 v' (ls.length + 1) (vs ++ [xv])) (hx : OB base w' xv x) : OBs base w' v' (vs ++ [xv]) (ls ++ [x]) := by
  have hlen : vs.length = ls.length := by have := h.own.1; omega
  refine ⟨by simpa using ho, fun i hi => ?_⟩
  simp only [List.length_append, List.length_singleton] at hi
  by_cases hlt : i < ls.length
  · rw [List.getD_eq_getElem?_getD, List.getD_eq_getElem?_getD, List.getElem?_append_left (by omega), List.getElem?_append_left hlt, ← List.getD_eq_getElem?_getD, ← List.getD_eq_getElem?_getD]
    exact (h.at_ i hlt).below hb
  · have he : i = ls.length := by omega
    subst he
    rw [List.getD_eq_getElem?_getD, List.getD_eq_getElem?_getD, List.getElem?_append_right (by omega), List.getElem?_append_right (by omega)]
    simp only [hlen, Nat.sub_self, List.getElem?_cons_zero, Option.getD_some]
    exact hx
theorem torn_row {x : List Byte} (hx : x.length = 64) {torn : Int} {tn : Nat} (ht : min torn.toNat 64 = tn) : splice (List.replicate 64 (Value.int .u8 0)) 0 (((x.take tn).map bv8).take 64) = (tornL x torn).map bv8 := by
  unfold tornL splice
  rw [ht, List.map_append, List.map_replicate]
  have hl : ((x.take tn).map bv8).length = tn := by simp; omega
  rw [show ((x.take tn).map bv8).take 64 = (x.take tn).map bv8 from List.take_of_length_le (by rw [hl]; omega), hl]
  simp only [List.take_zero, List.nil_append, Nat.zero_add, List.drop_replicate]
  rfl
theorem torn_len {x : List Byte} (hx : x.length = 64) (torn : Int) : (tornL x torn).length = 64 := by unfold tornL; simp; omega
theorem crash_out {F : Nat → Prop} {w : World} {g pg : Nat} {lv bv : Value} {lvs bvs : List Value} {d : Dr} {a2 a3 a4 a5 : Addr} {v2 v3 v4 v5 : Value} (h : Drv F ((((w.setCell a2 v2).setCell a3 v3).setCell a4 v4).setCell a5 v5) g pg lv lvs bv bvs d) (hlt : ∀ k, F k → k < w.heap.size) : DrvE (Ext F w ((((w.setCell a2 v2).setCell a3 v3).setCell a4 v4).setCell a5 v5).drew) ((((w.setCell a2 v2).setCell a3 v3).setCell a4 v4).setCell a5 v5).drew g pg d :=
  ⟨_, _, _, _, h.drew_.more (fun k hk => .inl hk) (fun k hk => by
    rcases hk with hk | ⟨_, h2⟩
    · exact h.drew_.lt k hk
    · exact h2)⟩
end Go.Proofs.Ytnknjeipfjdjoaa

namespace Go.Proofs.Ytnknjeipfjdjoaa
open Go.RowKit Wells
theorem _root_.Wells.Sl.holds {w : World} {B n : Nat} {A : Option Addr} {xs : List Value} (h : Sl w B 1 A n xs) : ∀ b', A = some b' → ∀ j u, xs[j]? = some u → w.cell? (b'.add j) = some u := by
  intro b' e j u hu
  have hl := h.len
  have hj := (List.getElem?_eq_some_iff.1 hu).1
  obtain ⟨b, o, e2, _, hc⟩ := h.at_ (by omega)
  rw [e] at e2
  injection e2 with e2
  subst e2
  rw [addr_add]
  exact hc j u hu
theorem torn_out {F : Nat → Prop} {w w4 : World} {g pg : Nat} {bv lv' xv : Value} {lvs bvs : List Value} {d : Dr} {st c n : Nat} {Al : Option Addr} {x : List Byte} (h : Drv F w g pg (.slice Al n c) lvs bv bvs d) (hn : d.L.length = n) (hst : st ≤ n) (hb : Below w.heap.size w w4)
    (ho : w4.ownsRow w.heap.size 29 1 lv' (st + 1) (lvs.take st ++ [xv])) (hx : OB w.heap.size w4 xv x) :
    Drv (Ext F w w4) ((((w4.setCell ⟨g, 2, none⟩ lv').setCell ⟨g, 3, none⟩ (.int .i64 0)).setCell ⟨g, 4, none⟩ (.slice none 0 0)).setCell ⟨g, 5, none⟩ (.bool false)) g pg lv' (lvs.take st ++ [xv]) (.slice none 0 0) [] { d with L := d.L.take st ++ [x], wait := 0, B := [], has := false } := by
  have hl := h.l.take_ hn hst
  have hlen : (d.L.take st).length = st := by simp; omega
  have hsz := hb.size
  have hob : OBs 0 w4 lv' (lvs.take st ++ [xv]) (d.L.take st ++ [x]) := hl.own.snoc_new hb (by rw [hlen]; exact own_base ho (Nat.zero_le _)) (own_base hx (Nat.zero_le _))
  have hfr : Only (fun _ => False) w w4 := Only.of_new hb
  refine crash_end (lv := .slice Al n c) (bv := bv) (h.row.only hfr (fun e => e)) (h.pow.only hfr (fun e => e)) (.inl h.fg) (.inl h.fp) (fun k hk => ?_) ⟨hob, fun k hk => ?_, fun y hy k hk => ?_⟩ ?_
  · rcases hk with hk | hk
    · have := h.lt k hk; omega
    · exact hk.2
  · have := own_lt ho k hk
    exact .inr this
  · rcases List.mem_append.1 hy with hy | hy
    · exact .inl (h.l.is y (List.mem_of_mem_take hy) k hk)
    · rw [List.mem_singleton] at hy
      subst hy
      exact .inr (own_lt hx k hk)
  · exact dist_push (dist_take h.dist st) (m := w.heap.size) (fun a ha k hk => h.lt k (h.l.is a (List.mem_of_mem_take ha) k hk)) (fun k hk => (own_lt hx k hk).1)
theorem crash_out4 {F : Nat → Prop} {w w4 : World} {g pg : Nat} {lv bv : Value} {lvs bvs : List Value} {d : Dr} {a2 a3 a4 a5 : Addr} {v2 v3 v4 v5 : Value} (h : Drv (Ext F w.drew w4) ((((w4.setCell a2 v2).setCell a3 v3).setCell a4 v4).setCell a5 v5) g pg lv lvs bv bvs d) : DrvE (Ext F w ((((w4.setCell a2 v2).setCell a3 v3).setCell a4 v4).setCell a5 v5)) ((((w4.setCell a2 v2).setCell a3 v3).setCell a4 v4).setCell a5 v5) g pg d :=
  ⟨_, _, _, _, h.more (fun k hk => by
    rcases hk with hk | ⟨h1, h2⟩
    · exact .inl hk
    · exact .inr ⟨h1, by simpa [World.setCell] using h2⟩) (fun k hk => by
    rcases hk with hk | ⟨_, h2⟩
    · exact h.lt k (.inl hk)
    · exact h2)⟩
end Go.Proofs.Ytnknjeipfjdjoaa

namespace Go.Proofs.Ytnknjeipfjdjoaa
open Go.RowKit Wells
end Go.Proofs.Ytnknjeipfjdjoaa

namespace Wells
open Go Go.RowKit
/-- what Rewrite does, of cells of 64 bytes each -/
def Dr.rewrite (d : Dr) (l : List (List Byte)) : Dr × Int :=
  if d.lost then (d, 5) else if d.room < l.length then (d, 7) else if d.s.off then (d, 14)
  else if d.s.goes then ({ d with L := l, wait := 0, s := d.s.step }.went, 0) else ({ d with B := l, has := true, s := d.s.step }, 14)
end Wells
namespace Go.Proofs.Ytnknjeipfjdjoaa
open Go.RowKit Wells
theorem Drv.fresh_lists {F : Nat → Prop} {w w2 : World} {v : Value} {vs : List Value} {ls : List (List Byte)} (ho : OBs w.heap.size w2 v vs ls) : Lst (Ext F w w2) w2 v vs ls :=
  Lst.of_own (w0 := w) ho (fun k h1 h2 => .inr ⟨h1, h2⟩)
theorem Drv.grow {F : Nat → Prop} {w w2 : World} {g pg : Nat} {lv bv : Value} {lvs bvs : List Value} {d : Dr} (h : Drv F w g pg lv lvs bv bvs d) (hb : Below w.heap.size w w2) : Drv (Ext F w w2) w2 g pg lv lvs bv bvs d :=
  (h.only (Only.of_new (F := fun _ => False) hb) (fun _ _ hf => hf)).more (fun k hk => .inl hk) (fun k hk => by
    rcases hk with hk | hk
    · have := h.lt k hk; have := hb.size; omega
    · exact hk.2)
theorem dist_fresh {w w2 : World} {v : Value} {vs us : List Value} {ls : List (List Byte)} (ho : OBs w.heap.size w2 v vs ls) (hd : Dist vs) (hu : Dist us) (hus : ∀ x ∈ us, ∀ k, x.ownBlock = some k → k < w.heap.size) : Dist (us ++ vs) ∧ Dist (vs ++ us) := by
  unfold Dist at *
  rw [List.pairwise_append, List.pairwise_append]
  refine ⟨⟨hu, hd, fun a ha b hb k hk e => ?_⟩, ⟨hd, hu, fun a ha b hb k hk e => ?_⟩⟩
  · have := hus a ha k hk
    have := ho.lt b hb k e
    omega
  · have := hus b hb k e
    have := ho.lt a ha k hk
    omega
theorem dist_right2 {a b : List Value} (h : Dist (a ++ b)) : Dist b := (List.pairwise_append.1 h).2.1
theorem DrvE.widen2 {F : Nat → Prop} {w w1 wc w5 : World} {g pg : Nat} {d : Dr} (h : DrvE (Ext F w1 wc) w5 g pg d) (hs : w.heap.size ≤ w1.heap.size) (hc : wc.heap.size ≤ w5.heap.size) : DrvE (Ext F w w5) w5 g pg d := by
  obtain ⟨lv, lvs, bv, bvs, h⟩ := h
  refine ⟨lv, lvs, bv, bvs, h.more (fun k hk => ?_) (fun k hk => ?_)⟩
  · rcases hk with hk | ⟨h1, h2⟩
    · exact .inl hk
    · exact .inr ⟨by omega, by omega⟩
  · rcases hk with hk | ⟨_, h2⟩
    · exact h.lt k (.inl hk)
    · exact h2
end Go.Proofs.Ytnknjeipfjdjoaa

namespace Wells
def Dr.read (d : Dr) (i : Int) : List Byte := if 0 ≤ i ∧ i < d.L.length then d.L.getD i.toNat [] else []
end Wells
namespace Go.Proofs.Ytnknjeipfjdjoaa
open Go.RowKit Wells
theorem nil_All (w : World) : Calls Try.prog 13 #[.pointer none] w fun e w' => e = .returned (.slice none 0 0) ∧ w = w' := by
  go_enter Try.func13, Try.ntmps13
  go_wp2_with fail
  go_ret
  exact ⟨rfl, rfl⟩
theorem nil_Sync (w : World) : Calls Try.prog 39 #[.pointer none] w fun e w' => e = .returned (.int .i64 5) ∧ w = w' := by
  go_enter Try.func39, Try.ntmps39
  go_wp2_with fail
  go_ret
  exact ⟨rfl, rfl⟩
theorem nil_Append (A : Option Addr) (n c : Nat) (w : World) (hn : n = 64) : Calls Try.prog 37 #[.pointer none, .slice A n c] w fun e w' => e = .returned (.int .i64 5) ∧ w = w' := by
  subst hn
  go_enter Try.func37, Try.ntmps37
  go_wp2_with fail
  go_ret
  exact ⟨rfl, rfl⟩
theorem nil_Spoil (i at_ m : Int) (w : World) : Calls Try.prog 19 #[.pointer none, .int .i64 i, .int .i64 at_, .int .u32 m] w fun e w' => e = .returned (.bool false) ∧ w = w' := by
  go_enter Try.func19, Try.ntmps19
  go_wp2_with fail
  go_ret
  exact ⟨rfl, rfl⟩
end Go.Proofs.Ytnknjeipfjdjoaa

namespace Wells
open Go Go.RowKit
def spoilB (m k : Nat) : Byte := BitVec.ofNat 8 (m / 2 ^ (8 * k))
def spoilL (x : List Byte) (a m : Nat) : Nat → List Byte
  | 0 => x
  | k + 1 => (spoilL x a m k).set (a + k) ((spoilL x a m k).getD (a + k) 0 ^^^ spoilB m k)
theorem spoilL_len (x : List Byte) (a m : Nat) : ∀ k, (spoilL x a m k).length = x.length
  | 0 => rfl
  | k + 1 => by unfold spoilL; rw [List.length_set, spoilL_len x a m k]
def Dr.spoil (d : Dr) (i a m : Int) : Dr × Bool :=
  if 0 ≤ i ∧ i < d.L.length ∧ 0 ≤ a ∧ a ≤ 60 ∧ m ≠ 0 then ({ d with L := d.L.set i.toNat (spoilL (d.L.getD i.toNat []) a.toNat m.toNat 4) }, true) else (d, false)
theorem ownrow_ {w : World} {base size n : Nat} {t : TypeId} {v : Value} {xs : List Value} (h : w.ownsRow base t size v n xs) (hn : 0 < n) :
    ∃ g c cur, v = .slice (some ⟨g, 0, none⟩) n c ∧ base ≤ g ∧ Row w g t cur ∧ cur.length = c * size ∧ cur.take (n * size) = xs ∧ n ≤ c ∧ c ≤ maxLen := by
  rcases h.2 with ⟨hv, h0⟩ | ⟨g, cap, cur, hv, hb, hg, hn', hc, hs, ht⟩
  · omega
  · exact ⟨g, cap, cur.toList, hv, hb, by simpa [Row] using hg, by simpa using hs, by simpa using ht, hn', hc⟩
theorem ownset_ {w : World} {base size n c g i : Nat} {t : TypeId} {xs : List Value} (h : w.ownsRow base t size (.slice (some ⟨g, 0, none⟩) n c) n xs) (hn : 0 < n) (u : Value) :
    (w.setCell ⟨g, i, none⟩ u).ownsRow base t size (.slice (some ⟨g, 0, none⟩) n c) n (xs.set i u) := by
  obtain ⟨g', c', cur, e, hb, hr, hcl, hct, hnc, hcm⟩ := ownrow_ h hn
  injection e with e e2 e3
  injection e with e
  injection e with e _ _
  subst e e3
  refine ⟨by rw [List.length_set]; exact h.1, .inr ⟨g, c, (cur.set i u).toArray, rfl, hb, hr.set i _, hnc, hcm, by simpa using hcl, ?_⟩⟩
  rw [← hct]
  simp only [List.toList_toArray, List.take_set]
theorem x8s (a b : BitVec 8) : bits .xor .u8 (a.toNat : Int) (b.toNat : Int) = ((a ^^^ b).toNat : Int) := by
  rw [u8_xor_nat _ _ a.isLt b.isLt, BitVec.toNat_xor]
theorem getD_setL {α : Type} {ls : List α} {x z : α} {i j : Nat} (hi : i < ls.length) : (ls.set i x).getD j z = if j = i then x else ls.getD j z := by
  simp only [List.getD_eq_getElem?_getD]
  split
  · rename_i h; subst h; simp [hi]
  · rename_i h; rw [List.getElem?_set_ne (fun e => h e.symm)]
end Wells
namespace Go.Proofs.Ytnknjeipfjdjoaa
open Go.RowKit Wells
theorem OBs.setByte {base : Nat} {w : World} {v : Value} {vs : List Value} {ls : List (List Byte)} {gi n c i k : Nat} {b : Byte} {cur : List Value} (h : OBs base w v vs ls) (hi : i < ls.length)
    (hv : vs.getD i undef = .slice (some ⟨gi, 0, none⟩) n c) (h0 : 0 < (ls.getD i []).length) (hr : Row w gi 5 cur) (hd : ∀ j, j < ls.length → j ≠ i → (vs.getD j undef).ownBlock ≠ some gi) :
    OBs base (w.setCell ⟨gi, k, none⟩ (bv8 b)) v vs (ls.set i ((ls.getD i []).set k b)) := by
  have ho : Only (fun q => q = gi) w (w.setCell ⟨gi, k, none⟩ (bv8 b)) := Only.set (F := fun q => q = gi) (Only.refl _ w) (show gi = gi from rfl) k _
  refine ⟨?_, fun j hj => ?_⟩
  · rw [List.length_set]
    exact own_only h.own ho (fun q hq e => own_row_ne h.own hr (by decide) q hq e)
  · rw [List.length_set] at hj
    rw [getD_setL hi]
    split
    · rename_i hji
      subst hji
      have h1 := h.at_ j hj
      unfold OB at h1 ⊢
      rw [hv] at h1 ⊢
      obtain ⟨_, _, e, _⟩ := own_slice h1
      injection e with _ e _
      rw [List.length_set, List.map_set, ← e]
      rw [← e] at h1
      exact ownset_ h1 (by omega) _
    · rename_i hji
      exact own_only (h.at_ j hj) ho (fun q hq e => hd j hj hji (by rw [hq, e]))
theorem Drv.setByte {F : Nat → Prop} {w : World} {g pg : Nat} {lv bv : Value} {lvs bvs : List Value} {d : Dr} {gi n c i k : Nat} {b : Byte} (h : Drv F w g pg lv lvs bv bvs d) (hi : i < d.L.length)
    (hv : lvs.getD i undef = .slice (some ⟨gi, 0, none⟩) n c) (h0 : 0 < (d.L.getD i []).length) :
    Drv F (w.setCell ⟨gi, k, none⟩ (bv8 b)) g pg lv lvs bv bvs { d with L := d.L.set i ((d.L.getD i []).set k b) } ∧ F gi := by
  have hll := h.l.len
  have hmem : lvs.getD i undef ∈ lvs := by rw [List.getD_eq_getElem?_getD, List.getElem?_eq_getElem (by omega), Option.getD_some]; exact List.getElem_mem _
  have hob : (lvs.getD i undef).ownBlock = some gi := by rw [hv]; rfl
  obtain ⟨g', c', cur, e, _, hr, _⟩ := ownrow_ (h.l.own.at_ i hi) h0
  rw [hv] at e
  injection e with e _ _
  injection e with e
  injection e with e _ _
  subst e
  have hfi : F gi := h.l.is _ hmem gi hob
  have ho : Only (fun q => q = gi) w (w.setCell ⟨gi, k, none⟩ (bv8 b)) := Only.set (F := fun q => q = gi) (Only.refl _ w) (show gi = gi from rfl) k _
  have hne : ∀ j, j < d.L.length → j ≠ i → (lvs.getD j undef).ownBlock ≠ some gi := fun j hj hji e => by
    have hd := dist_left h.dist
    unfold Dist at hd
    rw [List.pairwise_iff_getElem] at hd
    have ej : lvs.getD j undef = lvs[j]'(by omega) := by simp [List.getD_eq_getElem?_getD, show j < lvs.length by omega]
    have ei : lvs.getD i undef = lvs[i]'(by omega) := by simp [List.getD_eq_getElem?_getD, show i < lvs.length by omega]
    rcases Nat.lt_or_gt_of_ne hji with hlt | hgt
    · exact hd j i (by omega) (by omega) hlt gi (by rw [← ej]; exact e) (by rw [← ei]; exact hob)
    · exact hd i j (by omega) (by omega) hgt gi (by rw [← ei]; exact hob) (by rw [← ej]; exact e)
  have hneB : ∀ x ∈ bvs, ∀ q, x.ownBlock = some q → q ≠ gi := fun x hx q hq e => by
    subst e
    exact (List.pairwise_append.1 h.dist).2.2 _ hmem x hx q hob hq
  refine ⟨⟨h.row.far (p := ⟨gi, k, none⟩) (row_ne h.row hr (by decide)) _, h.pow.far (p := ⟨gi, k, none⟩) (row_ne h.pow hr (by decide)) _, h.fg, h.fp, fun q hq => by simpa [World.setCell] using h.lt q hq, ⟨h.l.own.setByte hi hv h0 hr hne, h.l.iv, h.l.is⟩, ⟨h.b.own.only ho (fun q hq e => own_row_ne h.b.own.own hr (by decide) q hq e) (fun x hx q hq => hneB x hx q hq), h.b.iv, h.b.is⟩, h.sep, h.dist⟩, hfi⟩
/-- where one byte of one cell lies -/
theorem Drv.at_ {F : Nat → Prop} {w : World} {g pg : Nat} {bv : Value} {lvs bvs : List Value} {d : Dr} {gl nl cl gi n ci i k : Nat} {x : List Byte} (h : Drv F w g pg (.slice (some ⟨gl, 0, none⟩) nl cl) lvs bv bvs d) (hnl : d.L.length = nl) (hi : i < nl)
    (hv : lvs.getD i undef = .slice (some ⟨gi, 0, none⟩) n ci) (hx : d.L.getD i [] = x) (hn : x.length = n) (hk : k < n) :
    w.cell? ⟨g, 2, none⟩ = some (.slice (some ⟨gl, 0, none⟩) nl cl) ∧ w.cell? ⟨gl, i, none⟩ = some (.slice (some ⟨gi, 0, none⟩) n ci) ∧ w.cell? ⟨gi, k, none⟩ = some (.int .u8 ((x.getD k 0).toNat : Int)) ∧ w.frozen? ⟨gi, k, none⟩ = false := by
  have hll := h.l.len
  obtain ⟨gl', cl', curl, el, _, hrl, hcl1, hcl2, _, _⟩ := ownrow_ h.l.own.own (by omega)
  injection el with el _ el2
  injection el with el
  injection el with el _ _
  subst el
  obtain ⟨gi', ci', cur, ei, _, hri, _, hci, _, _⟩ := ownrow_ (h.l.own.at_ i (by omega)) (by rw [hx]; omega)
  rw [hv] at ei
  injection ei with ei _ ei2
  injection ei with ei
  injection ei with ei _ _
  subst ei
  rw [hx] at hci
  refine ⟨h.row.cell 2, ?_, ?_, hri.frozen k⟩
  · rw [hrl.cell, ← hv, ← List.getElem?_take_of_lt (show i < d.L.length * 1 by omega), hcl2]
    simp [List.getD_eq_getElem?_getD, show i < lvs.length by omega]
  · rw [hri.cell, ← List.getElem?_take_of_lt (show k < x.length * 1 by omega), hci, List.getElem?_map]
    rw [List.getD_eq_getElem?_getD, List.getElem?_eq_getElem (show k < x.length by omega)]
    rfl
set_option maxRecDepth 20000 in
theorem dspoil_any (F : Nat → Prop) (g pg : Nat) (d : Dr) (m : Nat) (i a mk : Int) (w : World) (h : DrvE F w g pg d) (hok : DOk m d) (hi : -9223372036854775808 ≤ i ∧ i ≤ 9223372036854775807) (ha : -9223372036854775808 ≤ a ∧ a ≤ 9223372036854775807) (hm : 0 ≤ mk ∧ mk ≤ 4294967295) :
    Calls Try.prog 19 #[.pointer (some ⟨g, 0, none⟩), .int .i64 i, .int .i64 a, .int .u32 mk] w fun e w' => e = .returned (.bool (d.spoil i a mk).2) ∧ DrvE F w' g pg (d.spoil i a mk).1 ∧ Only F w w' := by
  obtain ⟨lv, lvs, bv, bvs, h⟩ := h
  obtain ⟨Al, cl, rfl, hlc, hlc2⟩ := h.l.own.form
  have c2 := h.row.cell 2
  have e2 : (drRow pg d (.slice Al d.L.length cl) (bv))[2]? = some (.slice Al d.L.length cl) := rfl
  rw [e2] at c2
  clear e2
  have hll := hok.len
  have hrm := hok.room
  obtain ⟨S, hS⟩ : ∃ S, d.spoil i a mk = S := ⟨_, rfl⟩
  rw [hS]
  have HS := hid hS
  clear hS
  by_cases h1 : i < 0
  · have hs : S = (d, false) := by rw [← HS.out]; exact if_neg (by omega)
    subst hs
    go_enter Try.func19, Try.ntmps19
    go_wp2_with fail
    go_ret
    exact ⟨rfl, ⟨_, _, _, _, h⟩, Only.refl _ _⟩
  by_cases h2 : (d.L.length : Int) ≤ i
  · have hs : S = (d, false) := by rw [← HS.out]; exact if_neg (by omega)
    subst hs
    go_enter Try.func19, Try.ntmps19
    go_wp2_with fail
    go_ret
    exact ⟨rfl, ⟨_, _, _, _, h⟩, Only.refl _ _⟩
  by_cases h3 : a < 0
  · have hs : S = (d, false) := by rw [← HS.out]; exact if_neg (by omega)
    subst hs
    go_enter Try.func19, Try.ntmps19
    go_wp2_with fail
    go_ret
    exact ⟨rfl, ⟨_, _, _, _, h⟩, Only.refl _ _⟩
  by_cases h4 : 60 < a
  · have hs : S = (d, false) := by rw [← HS.out]; exact if_neg (by omega)
    subst hs
    go_enter Try.func19, Try.ntmps19
    go_wp2_with fail
    go_ret
    exact ⟨rfl, ⟨_, _, _, _, h⟩, Only.refl _ _⟩
  by_cases h5 : mk = 0
  · have hs : S = (d, false) := by rw [← HS.out]; exact if_neg (by omega)
    subst hs h5
    go_enter Try.func19, Try.ntmps19
    go_wp2_with fail
    go_ret
    exact ⟨rfl, ⟨_, _, _, _, h⟩, Only.refl _ _⟩
  obtain ⟨i, rfl⟩ : ∃ k : Nat, i = (k : Int) := ⟨i.toNat, by omega⟩
  obtain ⟨a, rfl⟩ : ∃ k : Nat, a = (k : Int) := ⟨a.toNat, by omega⟩
  obtain ⟨q, rfl⟩ : ∃ k : Nat, mk = (k : Int) := ⟨mk.toNat, by omega⟩
  have hs : S = ({ d with L := d.L.set i (spoilL (d.L.getD i []) a q 4) }, true) := by rw [← HS.out]; exact if_pos (by omega)
  subst hs
  have hi0 : i < d.L.length := by omega
  have hx64 : (d.L.getD i []).length = 64 := by
    rw [List.getD_eq_getElem?_getD, List.getElem?_eq_getElem hi0]
    exact hok.cells _ (List.getElem_mem hi0)
  obtain ⟨x, hx⟩ : ∃ x, d.L.getD i [] = x := ⟨_, rfl⟩
  have HX := hid hx
  rw [hx] at hx64 ⊢
  have HX64 := hid hx64
  obtain ⟨gi, ci, cur, hvi, _, hri, _, _, _, _⟩ := ownrow_ (h.l.own.at_ i hi0) (by rw [hx, hx64]; omega)
  rw [hx, hx64] at hvi
  obtain ⟨gl, cl', curl, el, _, hrl, hcl1, hcl2, _, _⟩ := ownrow_ h.l.own.own (by omega)
  injection el with el _ el2
  subst el el2
  have kl : w.cell? ⟨gl, i, none⟩ = some (.slice (some ⟨gi, 0, none⟩) 64 ci) := by
    rw [hrl.cell, ← hvi]
    have hll2 := h.l.len
    rw [← List.getElem?_take_of_lt (show i < d.L.length by omega), show d.L.length = d.L.length * 1 by omega, hcl2]
    simp [List.getD_eq_getElem?_getD, show i < lvs.length by omega]
  have hd0 : Drv F w g pg (.slice (some ⟨gl, 0, none⟩) d.L.length cl) lvs bv bvs { d with L := d.L.set i (spoilL x a q 0) } := by
    have e : d.L.set i (spoilL x a q 0) = d.L := by
      show d.L.set i x = d.L
      rw [← hx, List.getD_eq_getElem?_getD, List.getElem?_eq_getElem hi0, Option.getD_some, List.set_getElem_self]
    rw [e]
    exact h
  have HD0 := hid hd0
  have HVI := hid hvi
  clear h hd0 hri hrl hcl1 hcl2 hvi HS hx
  go_enter Try.func19, Try.ntmps19
  go_wp2_with fail
  go_loopw [37] (fun k wr => ∃ j : Nat, j ≤ 4 ∧ k = .int .i64 (j : Int) ∧ Drv F wr g pg (.slice (some ⟨gl, 0, none⟩) d.L.length cl) lvs bv bvs { d with L := d.L.set i (spoilL x a q j) } ∧ Only F w wr) (fun k _ => 4 - (intOf k).toNat)
  case atStart => exact ⟨0, by omega, rfl, HD0.out, Only.refl _ _⟩
  case round =>
    clear c2 kl HD0
    obtain ⟨j, hj, rfl, hdj, hon⟩ := hrel
    by_cases hlt : j < 4
    · have hj4 : (j : Int) < 4 := by omega
      have hgx : (d.L.set i (spoilL x a q j)).getD i [] = spoilL x a q j := by rw [getD_setL hi0, if_pos rfl]
      have hxl : (spoilL x a q j).length = 64 := by rw [spoilL_len]; exact HX64.out
      have hlj : (d.L.set i (spoilL x a q j)).length = d.L.length := List.length_set
      obtain ⟨k2, kl, kb, fb⟩ := hdj.at_ (i := i) (k := a + j) (x := spoilL x a q j) hlj hi0 HVI.out hgx hxl (by omega)
      have hsb := fun b => hdj.setByte (i := i) (k := a + j) (b := b) (show i < (d.L.set i _).length by rw [hlj]; exact hi0) HVI.out (show 0 < ((d.L.set i (spoilL x a q j)).getD i []).length by rw [hgx, hxl]; omega)
      have hS2 : d.L.set i (spoilL x a q (j + 1)) = (d.L.set i (spoilL x a q j)).set i (((d.L.set i (spoilL x a q j)).getD i []).set (a + j) ((spoilL x a q j).getD (a + j) 0 ^^^ spoilB q j)) := by
        rw [hgx, List.set_set]
        rfl
      have hs3 := hsb ((spoilL x a q j).getD (a + j) 0 ^^^ spoilB q j)
      have HS4 := hid hs3
      have HS2 := hid hS2
      clear hsb hs3 hS2 hgx hxl hlj hdj
      generalize (spoilL x a q j).getD (a + j) 0 = b at *
      obtain ⟨sb, hsb⟩ : ∃ sb, spoilB q j = sb := ⟨_, rfl⟩
      rw [hsb] at HS4 HS2
      have HSB := hid hsb
      clear hsb
      go_wp2_with fail
      obtain ⟨z, hz⟩ : ∃ z, a + j = z := ⟨_, rfl⟩
      obtain ⟨s, hs⟩ : ∃ s, 8 * j = s := ⟨_, rfl⟩
      rw [hz] at kb fb HS4 HS2
      have HZ := hid hz
      have e49 : IntKind.i64.wrap ((a : Int) + (j : Int)) = (z : Int) := by rw [IntKind.wrap_i64]; omega
      have e54 : IntKind.i64.wrap (8 * (j : Int)) = (s : Int) := by rw [IntKind.wrap_i64]; omega
      have b49 : (z : Int) < 64 := by omega
      have e57 : bits .xor .u8 (b.toNat : Int) ((q : Int) / 2 ^ min s 32 % 256) = ((b ^^^ sb).toNat : Int) := by
        rw [show min s 32 = s by omega, ← x8s b sb, ← HSB.out]
        unfold spoilB
        rw [BitVec.toNat_ofNat, hs]
        have e : (q : Int) / 2 ^ s = ((q / 2 ^ s : Nat) : Int) := by simp
        rw [e]
        rfl
      have HE57 := hid e57
      clear hz hs e57
      refine Org.begin [19] (fun w' => w'.cell? ⟨g, 2, none⟩ = some (.slice (some ⟨gl, 0, none⟩) d.L.length cl) ∧ w'.cell? ⟨gl, i, none⟩ = some (.slice (some ⟨gi, 0, none⟩) 64 ci) ∧ w'.cell? ⟨gi, z, none⟩ = some (.int .u8 (b.toNat : Int))) [0, 1, 2, 3, 4, 5, 6, 7, 8, 9, 10, 11, 12, 13, 14, 15, 16, 17, 18, 19] (by kernel_rfl) (⟨k2, kl, kb⟩) (fun hS => ?_)
      (refine Org.yes (v := ?_) rfl (by kernel_rfl) (by kernel_rfl) (by kernel_rfl) (by kernel_rfl) (by kernel_rfl) (fun _ _ _ h => h) (by kernel_rfl) (SM.of hS) ?_ ?_; rotate_left; (focus (intro w hSw; (try dsimp only at hSw); refine Pure.val ?_; go_simp; (try with_reducible rfl); done)); try simp only [Act.put, List.setIfInBounds_toArray, List.set_cons_zero, List.set_cons_succ])
      (refine Org.yes (v := ?_) rfl (by kernel_rfl) (by kernel_rfl) (by kernel_rfl) (by kernel_rfl) (by kernel_rfl) (fun _ _ _ h => h) (by kernel_rfl) (SM.of hS) ?_ ?_; rotate_left; (focus (intro w hSw; (try dsimp only at hSw); refine Pure.val ?_; go_simp; (try with_reducible rfl); done)); try simp only [Act.put, List.setIfInBounds_toArray, List.set_cons_zero, List.set_cons_succ])
      (refine Org.yes (v := ?_) rfl (by kernel_rfl) (by kernel_rfl) (by kernel_rfl) (by kernel_rfl) (by kernel_rfl) (fun _ _ _ h => h) (by kernel_rfl) (SM.of hS) ?_ ?_; rotate_left; (focus (intro w hSw; (try dsimp only at hSw); refine Pure.val ?_; go_simp; (try with_reducible rfl); done)); try simp only [Act.put, List.setIfInBounds_toArray, List.set_cons_zero, List.set_cons_succ])
      (refine Org.yes (v := ?_) rfl (by kernel_rfl) (by kernel_rfl) (by kernel_rfl) (by kernel_rfl) (by kernel_rfl) (fun _ _ _ h => h) (by kernel_rfl) (SM.of hS) ?_ ?_; rotate_left; (focus (intro w hSw; (try dsimp only at hSw); have q2 := hSw.1; refine Pure.val ?_; go_simp; (try with_reducible rfl); done)); try simp only [Act.put, List.setIfInBounds_toArray, List.set_cons_zero, List.set_cons_succ])
      (refine Org.yes (v := ?_) rfl (by kernel_rfl) (by kernel_rfl) (by kernel_rfl) (by kernel_rfl) (by kernel_rfl) (fun _ _ _ h => h) (by kernel_rfl) (SM.of hS) ?_ ?_; rotate_left; (focus (intro w hSw; (try dsimp only at hSw); refine Pure.val ?_; go_simp; (try with_reducible rfl); done)); try simp only [Act.put, List.setIfInBounds_toArray, List.set_cons_zero, List.set_cons_succ])
      (refine Org.yes (v := ?_) rfl (by kernel_rfl) (by kernel_rfl) (by kernel_rfl) (by kernel_rfl) (by kernel_rfl) (fun _ _ _ h => h) (by kernel_rfl) (SM.of hS) ?_ ?_; rotate_left; (focus (intro w hSw; (try dsimp only at hSw); refine Pure.val ?_; go_simp; (try with_reducible rfl); done)); try simp only [Act.put, List.setIfInBounds_toArray, List.set_cons_zero, List.set_cons_succ])
      (refine Org.yes (v := ?_) rfl (by kernel_rfl) (by kernel_rfl) (by kernel_rfl) (by kernel_rfl) (by kernel_rfl) (fun _ _ _ h => h) (by kernel_rfl) (SM.of hS) ?_ ?_; rotate_left; (focus (intro w hSw; (try dsimp only at hSw); have q2 := hSw.2.1; refine Pure.val ?_; go_simp; (try with_reducible rfl); done)); try simp only [Act.put, List.setIfInBounds_toArray, List.set_cons_zero, List.set_cons_succ])
      (refine Org.yes (v := ?_) rfl (by kernel_rfl) (by kernel_rfl) (by kernel_rfl) (by kernel_rfl) (by kernel_rfl) (fun _ _ _ h => h) (by kernel_rfl) (SM.of hS) ?_ ?_; rotate_left; (focus (intro w hSw; (try dsimp only at hSw); refine Pure.val ?_; go_simp; (try with_reducible rfl); done)); try simp only [Act.put, List.setIfInBounds_toArray, List.set_cons_zero, List.set_cons_succ])
      (refine Org.yes (v := ?_) rfl (by kernel_rfl) (by kernel_rfl) (by kernel_rfl) (by kernel_rfl) (by kernel_rfl) (fun _ _ _ h => h) (by kernel_rfl) (SM.of hS) ?_ ?_; rotate_left; (focus (intro w hSw; (try dsimp only at hSw); refine Pure.val ?_; go_simp; (try with_reducible rfl); done)); try simp only [Act.put, List.setIfInBounds_toArray, List.set_cons_zero, List.set_cons_succ])
      (refine Org.yes (v := ?_) rfl (by kernel_rfl) (by kernel_rfl) (by kernel_rfl) (by kernel_rfl) (by kernel_rfl) (fun _ _ _ h => h) (by kernel_rfl) (SM.of hS) ?_ ?_; rotate_left; (focus (intro w hSw; (try dsimp only at hSw); refine Pure.val ?_; go_simp; (try with_reducible rfl); done)); try simp only [Act.put, List.setIfInBounds_toArray, List.set_cons_zero, List.set_cons_succ])
      (refine Org.yes (v := ?_) rfl (by kernel_rfl) (by kernel_rfl) (by kernel_rfl) (by kernel_rfl) (by kernel_rfl) (fun _ _ _ h => h) (by kernel_rfl) (SM.of hS) ?_ ?_; rotate_left; (focus (intro w hSw; (try dsimp only at hSw); refine Pure.val ?_; go_simp; (try with_reducible rfl); done)); try simp only [Act.put, List.setIfInBounds_toArray, List.set_cons_zero, List.set_cons_succ])
      (refine Org.yes (v := ?_) rfl (by kernel_rfl) (by kernel_rfl) (by kernel_rfl) (by kernel_rfl) (by kernel_rfl) (fun _ _ _ h => h) (by kernel_rfl) (SM.of hS) ?_ ?_; rotate_left; (focus (intro w hSw; (try dsimp only at hSw); have q2 := hSw.2.2; refine Pure.val ?_; go_simp; (try with_reducible rfl); done)); try simp only [Act.put, List.setIfInBounds_toArray, List.set_cons_zero, List.set_cons_succ])
      (refine Org.yes (v := ?_) rfl (by kernel_rfl) (by kernel_rfl) (by kernel_rfl) (by kernel_rfl) (by kernel_rfl) (fun _ _ _ h => h) (by kernel_rfl) (SM.of hS) ?_ ?_; rotate_left; (focus (intro w hSw; (try dsimp only at hSw); refine Pure.val ?_; go_simp; (try with_reducible rfl); done)); try simp only [Act.put, List.setIfInBounds_toArray, List.set_cons_zero, List.set_cons_succ])
      (refine Org.yes (v := ?_) rfl (by kernel_rfl) (by kernel_rfl) (by kernel_rfl) (by kernel_rfl) (by kernel_rfl) (fun _ _ _ h => h) (by kernel_rfl) (SM.of hS) ?_ ?_; rotate_left; (focus (intro w hSw; (try dsimp only at hSw); refine Pure.val ?_; go_simp; (try with_reducible rfl); done)); try simp only [Act.put, List.setIfInBounds_toArray, List.set_cons_zero, List.set_cons_succ])
      (refine Org.yes (v := ?_) rfl (by kernel_rfl) (by kernel_rfl) (by kernel_rfl) (by kernel_rfl) (by kernel_rfl) (fun _ _ _ h => h) (by kernel_rfl) (SM.of hS) ?_ ?_; rotate_left; (focus (intro w hSw; (try dsimp only at hSw); refine Pure.val ?_; go_simp; (try with_reducible rfl); done)); try simp only [Act.put, List.setIfInBounds_toArray, List.set_cons_zero, List.set_cons_succ])
      (refine Org.yes (v := ?_) rfl (by kernel_rfl) (by kernel_rfl) (by kernel_rfl) (by kernel_rfl) (by kernel_rfl) (fun _ _ _ h => h) (by kernel_rfl) (SM.of hS) ?_ ?_; rotate_left; (focus (intro w hSw; (try dsimp only at hSw); refine Pure.val ?_; go_simp; (try with_reducible rfl); done)); try simp only [Act.put, List.setIfInBounds_toArray, List.set_cons_zero, List.set_cons_succ])
      (refine Org.yes (v := ?_) rfl (by kernel_rfl) (by kernel_rfl) (by kernel_rfl) (by kernel_rfl) (by kernel_rfl) (fun _ _ _ h => h) (by kernel_rfl) (SM.of hS) ?_ ?_; rotate_left; (focus (intro w hSw; (try dsimp only at hSw); refine Pure.val ?_; go_simp; (try with_reducible rfl); done)); try simp only [Act.put, List.setIfInBounds_toArray, List.set_cons_zero, List.set_cons_succ])
      (refine Org.yes (v := ?_) rfl (by kernel_rfl) (by kernel_rfl) (by kernel_rfl) (by kernel_rfl) (by kernel_rfl) (fun _ _ _ h => h) (by kernel_rfl) (SM.of hS) ?_ ?_; rotate_left; (focus (intro w hSw; (try dsimp only at hSw); refine Pure.val ?_; go_simp; (try with_reducible rfl); done)); try simp only [Act.put, List.setIfInBounds_toArray, List.set_cons_zero, List.set_cons_succ])
      (refine Org.yes (v := ?_) rfl (by kernel_rfl) (by kernel_rfl) (by kernel_rfl) (by kernel_rfl) (by kernel_rfl) (fun _ _ _ h => h) (by kernel_rfl) (SM.of hS) ?_ ?_; rotate_left; (focus (intro w hSw; (try dsimp only at hSw); refine Pure.val ?_; go_simp; (try with_reducible rfl); done)); try simp only [Act.put, List.setIfInBounds_toArray, List.set_cons_zero, List.set_cons_succ])
      refine Org.mark (p := 19) rfl (by kernel_rfl) (by kernel_rfl) (by kernel_rfl) (by kernel_rfl) (fun K hK => ?_)
      have k8 := hS.2.2
      go_simp
      refine hK.out _ _ ?_
      clear k8
      clear hK K hS
      try simp only [Act.put, List.setIfInBounds_toArray, List.set_cons_zero, List.set_cons_succ]
      refine Org.done (by kernel_rfl) ?_
      have hF := HS4.out.1
      rw [← HS2.out] at hF
      have HF := hid hF
      have HON := hid (hon.set HS4.out.2 z (bv8 (b ^^^ sb)))
      clear hF
      go_wp2_with fail
      go_roundw
      case rel =>
        refine ⟨j + 1, by omega, by go_num, ?_, ?_⟩
        · rw [HE57.out]
          exact HF.out.drew_
        · rw [HE57.out]
          exact HON.out.drew
      case measure => simp [intOf]; omega
    · obtain rfl : j = 4 := by omega
      have HDJ := hid hdj
      clear hdj
      go_wp2_with fail
      go_ret
      exact ⟨rfl, ⟨_, _, _, _, HDJ.out⟩, hon⟩
end Go.Proofs.Ytnknjeipfjdjoaa

namespace Wells
open Go Go.RowKit
theorem Pw.step_ok {s : Pw} {m : Nat} (hl : 0 ≤ s.left ∧ s.left ≤ 9223372036854775807) (ho : 0 ≤ s.offs ∧ s.offs ≤ m) : (0 ≤ s.step.left ∧ s.step.left ≤ 9223372036854775807) ∧ (0 ≤ s.step.offs ∧ s.step.offs ≤ (m + 1 : Nat)) := by
  unfold Pw.step
  split
  · exact ⟨hl, by omega, by omega⟩
  · split
    · split
      · exact ⟨hl, by dsimp only; omega, by dsimp only; omega⟩
      · exact ⟨⟨by dsimp only; omega, by dsimp only; omega⟩, by dsimp only; omega, by dsimp only; omega⟩
    · exact ⟨hl, by omega, by omega⟩
theorem DOk.up {m : Nat} {d : Dr} (h : DOk m d) : DOk (m + 1) d := ⟨h.room, h.len, h.lenB, h.wait, h.cells, h.cellsB, h.left, by have := h.offs; omega⟩
theorem DOk.went {m : Nat} {d : Dr} (h : DOk m d) : DOk m d.went := ⟨h.room, h.len, Nat.zero_le _, h.wait, h.cells, (fun x hx => by cases hx), h.left, h.offs⟩
theorem DOk.append {m : Nat} {d : Dr} {l : List Byte} (h : DOk m d) : DOk (m + 1) (d.append l).1 := by
  unfold Dr.append
  split
  · exact h.up
  · split
    · exact h.up
    · split
      · exact h.up
      · split
        · exact h.up
        · rename_i h64 _ hfull _
          have hs := Pw.step_ok h.left h.offs
          have h1 : DOk (m + 1) { d with L := d.L ++ [l], wait := d.wait + 1, s := d.s.step } :=
            ⟨h.room, by simp; omega, h.lenB, by have := h.wait; simp; omega, fun x hx => by
              rcases List.mem_append.1 hx with hx | hx
              · exact h.cells x hx
              · rw [List.mem_singleton] at hx; subst hx; exact Classical.not_not.1 h64, h.cellsB, hs.1, hs.2⟩
          split
          · exact h1.went
          · exact h1
theorem DOk.new_ {n : Nat} (h : 1 ≤ n ∧ n ≤ 512) : DOk 0 (Dr.new Pw.new n) := ⟨h, Nat.zero_le _, Nat.zero_le _, Nat.le_refl _, (fun x hx => by cases hx), (fun x hx => by cases hx), ⟨Int.le_refl _, by show (0 : Int) ≤ 9223372036854775807; omega⟩, ⟨Int.le_refl _, Int.le_refl _⟩⟩
theorem DOk.sync {m : Nat} {d : Dr} (h : DOk m d) : DOk (m + 1) d.sync.1 := by
  unfold Dr.sync
  split
  · exact h.up
  · have hs := Pw.step_ok h.left h.offs
    split
    · exact DOk.went ⟨h.room, h.len, h.lenB, Nat.zero_le _, h.cells, h.cellsB, hs.1, hs.2⟩
    · exact ⟨h.room, h.len, h.lenB, h.wait, h.cells, h.cellsB, hs.1, hs.2⟩
end Wells
namespace Go.Proofs.Ytnknjeipfjdjoaa
open Go.RowKit Wells
end Go.Proofs.Ytnknjeipfjdjoaa

namespace Go.Proofs.Ytnknjeipfjdjoaa
open Go.RowKit Wells
end Go.Proofs.Ytnknjeipfjdjoaa

