/- Crash, with a torn cell. -/
import Derived.Test.YtcklnkilldeamaaDrvCrash0
namespace Go.Proofs.Ytcklnkilldeamaa
open Go.RowKit Wells
theorem _root_.Wells.Sl.holds {w : World} {B n : Nat} {A : Option Addr} {xs : List Value} (h : Sl w B 1 A n xs) : ∀ b', A = some b' → ∀ j u, xs[j]? = some u → w.cell? (b'.add j) = some u := by
  intro b' e j u hu
  have hl := h.len
  have hj := (List.getElem?_eq_some_iff.1 hu).1
  obtain ⟨b, o, e2, _, hc⟩ := h.at_ (by omega)
  rw [e] at e2
  injection e2 with e2
  subst e2
  rw [addr_add]
  exact hc j u hu
theorem torn_out {F : Nat → Prop} {w w4 : World} {g pg : Nat} {bv lv' xv : Value} {lvs bvs : List Value} {d : Dr} {st c n : Nat} {Al : Option Addr} {x : List Byte} (h : Drv F w g pg (.slice Al n c) lvs bv bvs d) (hn : d.L.length = n) (hst : st ≤ n) (hb : Below w.heap.size w w4)
    (ho : w4.ownsRow w.heap.size 28 1 lv' (st + 1) (lvs.take st ++ [xv])) (hx : OB w.heap.size w4 xv x) :
    Drv (Ext F w w4) ((((w4.setCell ⟨g, 2, none⟩ lv').setCell ⟨g, 3, none⟩ (.int .i64 0)).setCell ⟨g, 4, none⟩ (.slice none 0 0)).setCell ⟨g, 5, none⟩ (.bool false)) g pg lv' (lvs.take st ++ [xv]) (.slice none 0 0) [] { d with L := d.L.take st ++ [x], wait := 0, B := [], has := false } := by
  have hl := h.l.take_ hn hst
  have hlen : (d.L.take st).length = st := by simp; omega
  have hsz := hb.size
  have hob : OBs 0 w4 lv' (lvs.take st ++ [xv]) (d.L.take st ++ [x]) := hl.own.snoc_new hb (by rw [hlen]; exact own_base ho (Nat.zero_le _)) (own_base hx (Nat.zero_le _))
  have hfr : Only (fun _ => False) w w4 := Only.of_new hb
  refine crash_end (lv := .slice Al n c) (bv := bv) (h.row.only hfr (fun e => e)) (h.pow.only hfr (fun e => e)) (.inl h.fg) (.inl h.fp) (fun k hk => ?_) ⟨hob, fun k hk => ?_, fun y hy k hk => ?_⟩ ?_
  · rcases hk with hk | hk
    · have := h.lt k hk; omega
    · exact hk.2
  · have := own_lt ho k hk
    exact .inr this
  · rcases List.mem_append.1 hy with hy | hy
    · exact .inl (h.l.is y (List.mem_of_mem_take hy) k hk)
    · rw [List.mem_singleton] at hy
      subst hy
      exact .inr (own_lt hx k hk)
  · exact dist_push (dist_take h.dist st) (m := w.heap.size) (fun a ha k hk => h.lt k (h.l.is a (List.mem_of_mem_take ha) k hk)) (fun k hk => (own_lt hx k hk).1)
theorem crash_out4 {F : Nat → Prop} {w w4 : World} {g pg : Nat} {lv bv : Value} {lvs bvs : List Value} {d : Dr} {a2 a3 a4 a5 : Addr} {v2 v3 v4 v5 : Value} (h : Drv (Ext F w.drew w4) ((((w4.setCell a2 v2).setCell a3 v3).setCell a4 v4).setCell a5 v5) g pg lv lvs bv bvs d) : DrvE (Ext F w ((((w4.setCell a2 v2).setCell a3 v3).setCell a4 v4).setCell a5 v5)) ((((w4.setCell a2 v2).setCell a3 v3).setCell a4 v4).setCell a5 v5) g pg d :=
  ⟨_, _, _, _, h.more (fun k hk => by
    rcases hk with hk | ⟨h1, h2⟩
    · exact .inl hk
    · exact .inr ⟨h1, by simpa [World.setCell] using h2⟩) (fun k hk => by
    rcases hk with hk | ⟨_, h2⟩
    · exact h.lt k (.inl hk)
    · exact h2)⟩
set_option maxRecDepth 20000 in
set_option maxHeartbeats 8000000 in
theorem dcrash_torn (F : Nat → Prop) (g pg : Nat) (d : Dr) (keep torn : Int) (w : World) (Al : Option Addr) (nl cl : Nat) (Ab : Option Addr) (nb cb : Nat) (lvs bvs : List Value) (kk st : Nat) (h : Drv F w g pg (.slice Al nl cl) lvs (.slice Ab nb cb) bvs d) (HNL : d.L.length = nl) (hlen : nl ≤ 512) (hcl1 : nl ≤ cl) (hcl2 : cl ≤ 9223372036854775807) (hcells : ∀ x ∈ d.L, x.length = 64) (hha : d.has = false) (hwait : d.wait ≤ nl) (hkk : min keep.toNat d.wait = kk) (hst : nl - d.wait + kk = st) (hk : -9223372036854775808 ≤ keep ∧ keep ≤ 9223372036854775807) (ht : -9223372036854775808 ≤ torn ∧ torn ≤ 9223372036854775807) (h1 : kk < d.wait) (h2 : 0 < torn) :
    Calls Try.prog 15 #[.pointer (some ⟨g, 0, none⟩), .int .i64 keep, .int .i64 torn] w fun e w' => e = .returned (.tuple #[]) ∧ DrvE (Ext F w w') w' g pg { d with L := d.L.take st ++ [tornL (d.L.getD st []) torn], wait := 0, B := [], has := false } ∧ Only F w w' := by
  have hstn : st < nl := by omega
  obtain ⟨b, o, A1, c1, rfl, hb, hce, hl1, hc1, sl1⟩ := (h.l.own.read HNL).get hstn
  have hx64 : (d.L.getD st []).length = 64 := by
    rw [List.getD_eq_getElem?_getD, List.getElem?_eq_getElem (by omega)]
    exact hcells _ (List.getElem_mem _)
  generalize d.L.getD st [] = x at *
  rw [hx64] at hce hl1 sl1
  obtain ⟨tn, htn⟩ : ∃ k : Nat, min torn.toNat 64 = k := ⟨_, rfl⟩
  have HTR := hid (torn_row hx64 htn)
  have HTL := hid (torn_len hx64 torn)
  have c2 : w.drew.cell? ⟨g, 2, none⟩ = some (.slice (some ⟨b, o, none⟩) nl cl) := h.row.cell 2
  have c3 : w.drew.cell? ⟨g, 3, none⟩ = some (.int .i64 (d.wait : Int)) := h.row.cell 3
  have d2 : w.cell? ⟨g, 2, none⟩ = some (.slice (some ⟨b, o, none⟩) nl cl) := h.row.cell 2
  have d3 : w.cell? ⟨g, 3, none⟩ = some (.int .i64 (d.wait : Int)) := h.row.cell 3
  have c5 : w.cell? ⟨g, 5, none⟩ = some (.bool false) := by rw [← hha]; exact h.row.cell 5
  have hsub : IntKind.i64.wrap ((nl : Int) - (d.wait : Int)) = (nl : Int) - (d.wait : Int) := by rw [IntKind.wrap_i64]; omega
  have hadd : (nl : Int) - (d.wait : Int) + (kk : Int) = (st : Int) := by omega
  have hwr : IntKind.i64.wrap ((nl : Int) - (d.wait : Int) + (kk : Int)) = (st : Int) := by rw [IntKind.wrap_i64]; omega
  have hstc : (st : Int) ≤ (cl : Int) := by omega
  have hstc2 : st ≤ cl := by omega
  have hsti : (st : Int) < (nl : Int) := by omega
  have hst0 : (0 : Int) ≤ (st : Int) := by omega
  have hkwi : (kk : Int) < (d.wait : Int) := by omega
  have htn1 : 1 ≤ tn := by omega
  have htn64 : tn ≤ 64 := by omega
  have htc : (tn : Int) ≤ (c1 : Int) := by omega
  have hrl : Sl w w.heap.size 1 (some ⟨b, o, none⟩) st (lvs.take st) := by
    have := (h.l.own.read HNL).sl.take (show st ≤ nl by omega)
    rwa [Nat.mul_one] at this
  have stn : Sl w w.heap.size 1 A1 tn ((x.take tn).map bv8) := by
    have := sl1.take htn64
    rwa [Nat.mul_one, ← List.map_take] at this
  have hln : (lvs.take st).length = st * 1 := by have := h.l.len; simp; omega
  have HD := hid h.drew_
  have HNLH := hid HNL
  have HFG := hid h.fg
  have hgl := h.row.lt
  obtain ⟨i0, hi, hz0, hz1, hz2⟩ := info_parts infoB
  obtain ⟨i1, hi', hz0', hz1', hz2'⟩ := info_parts infoBs
  have hsz : (Try.prog.info? 5).map (·.size) = some 1 := by rw [hi]; simp [hz1]
  have ESZ : w.drew.heap.size = w.heap.size := rfl
  have e2 : w.drew.cell? ⟨b, o + st, none⟩ = some (.slice A1 64 c1) := hce
  have sD := stn.drew
  have rD := hrl.drew
  have hgD : g < w.drew.heap.size := hgl
  have hbD : b < w.drew.heap.size := hb
  have HKK := hid hkk
  have HST := hid hst
  have HTN := hid htn
  clear h HNL hcells hha hce stn hrl sl1 hkk hst hx64
  have hkc : (keep < 0 ∧ kk = 0) ∨ (0 ≤ keep ∧ keep = (kk : Int)) := by have := HKK.out; omega
  have htc2 : (torn ≤ 64 ∧ torn = (tn : Int)) ∨ (64 < torn ∧ tn = 64) := by have := HTN.out; omega
  rcases hkc with ⟨k1, k2⟩ | ⟨k1, k2⟩
  · subst k2
    obtain rfl : st = nl - d.wait := by have := HST.out; omega
    have x1 : (0 : Int) ≤ (nl : Int) - (d.wait : Int) := by omega
    have x2 : (nl : Int) - (d.wait : Int) < (nl : Int) := by omega
    have x3 : (nl : Int) - (d.wait : Int) ≤ (cl : Int) := by omega
    have x4 : 0 < d.wait := by omega
    have x5 : (0 : Int) < (d.wait : Int) := by omega
    rcases htc2 with ⟨t1, t2⟩ | ⟨t1, t2⟩
    · subst t2
      go_enter Try.func15, Try.ntmps15
      go_wp2_with fail
      go_region_held3 (fun w' => w'.cell? ⟨g, 2, none⟩ = some (.slice (some ⟨b, o, none⟩) nl cl) ∧ w'.cell? ⟨g, 3, none⟩ = some (.int .i64 (d.wait : Int))) (first | exact ⟨d2, d3⟩ | assumption) (fail)
      clear ‹_ ∧ _›
      clear d2 d3
      have c5 : w.drew.cell? ⟨g, 5, none⟩ = some (.bool false) := c5
      obtain ⟨w1, hw1⟩ : ∃ w1, w1 = w.drew := ⟨_, rfl⟩
      have HW1 := hid hw1
      rw [← hw1] at c2 c3 c5 e2 sD rD hgD hbD ⊢
      have rw1 : Row w1 g 60 (drRow pg d (.slice (some ⟨b, o, none⟩) nl cl) (.slice Ab nb cb)) := by rw [hw1]; exact HD.out.row
      clear hw1 ESZ
      go_wp2_with (first
        | (at_make; refine wpl_make _ rfl (.const (.int .i64 64)) (.const (.int .i64 64)) 28 rfl 5 i0 (.int .u8 0) 1 Try.underlying28 hi hz0 hz1 hz2 rfl .i64 .i64 _ _ 64 64 rfl rfl rfl (by omega) (by omega) (by omega) (by omega) ?_; intro w2 r2 b2 s2; have k2 := (b2.cell (p := ⟨g, 2, none⟩) hgD).trans c2; have k3 := (b2.cell (p := ⟨g, 3, none⟩) hgD).trans c3; have k5 := (b2.cell (p := ⟨g, 5, none⟩) hgD).trans c5; have ke := (b2.cell (p := ⟨b, o + (nl - d.wait), none⟩) hbD).trans e2)
        | ((with_reducible show wpList _ _ _ (⟨some 60, _, _, _, _, _⟩ :: _) _ _); go_must (refine wpl_copy rfl (.tmp 47) (.tmp 59) 28 28 rfl 5 Try.underlying28 hsz _ _ 64 64 tn c1 rfl rfl w1.heap.size 0 _ 5 r2 _ _ (sD.below (b2.mono (by rw [HW1.out]; exact Nat.le_refl _))) (fun _ => rfl) (by first | (simp; omega) | simp) (u8s_cell _) ?_); intro w3 r3 g3; rw [HTR.out] at r3; have b3 : Below w1.heap.size w1 w3 := b2.grown g3 (Nat.le_of_lt (by omega)) (fun k hk => by injection hk with hk; omega); have hw3 : w.heap.size ≤ w3.heap.size := Nat.le_trans (by rw [HW1.out]; exact Nat.le_refl _) b3.size)
        | ((with_reducible show wpList _ _ _ (⟨some 69, _, _, _, _, _⟩ :: _) _ _); go_must (refine wpList_append_grows _ rfl (.tmp 66) (.tmp 68) 27 rfl 28 i1 (.slice none 0 0) 1 24 Try.underlying27 hi' hz0' hz1' hz2' rfl (by omega) (some ⟨b, o, none⟩) (nl - d.wait) (nl - d.wait) (lvs.take (nl - d.wait)) rfl (fun e => by cases e) hln (((rD.below (b3.mono (by rw [HW1.out]; exact Nat.le_refl _))).below (((Below.refl w3.heap.size w3).alloc (Nat.le_refl _) _).mono hw3)).holds) ⟨w3.heap.size, 0, none⟩ 1 1 [.slice (some ⟨w1.heap.size, 0, none⟩) 64 64] rfl rfl (World.news_of_block (heap_alloc_new w3 _)) (by simp [Value.oneCell']) (by omega) (by unfold maxLen; omega) (by omega) ?_); intro v4 w4 o4 g4; obtain ⟨A4, c4, rfl, hc41, hc42, _⟩ := own_slice o4; have b4 : Below w1.heap.size w1 w4 := (b3.alloc b3.size _).grown g4 (Nat.le_trans b3.size (by simp)) (fun k hk => by cases hk); have rw4 := rw1.below b4 hgD; have q2 : w4.cell? ⟨g, 2, none⟩ = some (.slice (some ⟨b, o, none⟩) nl cl) := rw4.cell 2; have q3 : w4.cell? ⟨g, 3, none⟩ = some (.int .i64 (d.wait : Int)) := rw4.cell 3; have q4 : w4.cell? ⟨g, 4, none⟩ = some (.slice Ab nb cb) := rw4.cell 4; have q5 : w4.cell? ⟨g, 5, none⟩ = some (.bool d.has) := rw4.cell 5; have p2 := rw4.frozen 2; have p3 := rw4.frozen 3; have p4 := rw4.frozen 4; have p5 := rw4.frozen 5))
      have r4 := (r3.alloc (.cells #[.slice (some ⟨w1.heap.size, 0, none⟩) 64 64] 28)).grown g4 (by simp)
      have ox := r4.own (base := w1.heap.size) (size := 1) (n := 64) (cap := 64) (Nat.le_refl _) (Nat.le_refl _) (by unfold maxLen; omega) (by rw [List.length_map, HTL.out])
      rw [List.take_of_length_le (by rw [List.length_map, HTL.out]; omega)] at ox
      have hx : OB w1.heap.size w4 (.slice (some ⟨w1.heap.size, 0, none⟩) 64 64) (tornL x (tn : Int)) := by unfold OB; rw [HTL.out]; exact ox
      have ho4 : w4.ownsRow w1.heap.size 28 1 (.slice A4 ((nl - d.wait) + 1) c4) ((nl - d.wait) + 1) (lvs.take (nl - d.wait) ++ [.slice (some ⟨w1.heap.size, 0, none⟩) 64 64]) := own_base o4 (Nat.le_trans b3.size (by simp))
      have hcast : (((nl - d.wait) + 1 : Nat) : Int) = ((nl - d.wait) : Int) + 1 := by omega
      go_end0
      have hDD := HD.out
      have hOO : Only F w w4 := (Only.refl F w).drew.trans (by rw [← HW1.out]; exact Only.of_new b4) (fun _ _ hk => hk)
      rw [HW1.out] at b4 hx ho4
      exact ⟨rfl, crash_out4 (torn_out hDD HNLH.out (by omega) b4 ho4 hx), (((hOO.set HFG.out 2 _).set HFG.out 3 _).set HFG.out 4 _).set HFG.out 5 _⟩
    · subst t2
      go_enter Try.func15, Try.ntmps15
      go_wp2_with fail
      go_region_held3 (fun w' => w'.cell? ⟨g, 2, none⟩ = some (.slice (some ⟨b, o, none⟩) nl cl) ∧ w'.cell? ⟨g, 3, none⟩ = some (.int .i64 (d.wait : Int))) (first | exact ⟨d2, d3⟩ | assumption) (fail)
      clear ‹_ ∧ _›
      clear d2 d3
      have c5 : w.drew.cell? ⟨g, 5, none⟩ = some (.bool false) := c5
      obtain ⟨w1, hw1⟩ : ∃ w1, w1 = w.drew := ⟨_, rfl⟩
      have HW1 := hid hw1
      rw [← hw1] at c2 c3 c5 e2 sD rD hgD hbD ⊢
      have rw1 : Row w1 g 60 (drRow pg d (.slice (some ⟨b, o, none⟩) nl cl) (.slice Ab nb cb)) := by rw [hw1]; exact HD.out.row
      clear hw1 ESZ
      go_wp2_with (first
        | (at_make; refine wpl_make _ rfl (.const (.int .i64 64)) (.const (.int .i64 64)) 28 rfl 5 i0 (.int .u8 0) 1 Try.underlying28 hi hz0 hz1 hz2 rfl .i64 .i64 _ _ 64 64 rfl rfl rfl (by omega) (by omega) (by omega) (by omega) ?_; intro w2 r2 b2 s2; have k2 := (b2.cell (p := ⟨g, 2, none⟩) hgD).trans c2; have k3 := (b2.cell (p := ⟨g, 3, none⟩) hgD).trans c3; have k5 := (b2.cell (p := ⟨g, 5, none⟩) hgD).trans c5; have ke := (b2.cell (p := ⟨b, o + (nl - d.wait), none⟩) hbD).trans e2)
        | ((with_reducible show wpList _ _ _ (⟨some 60, _, _, _, _, _⟩ :: _) _ _); go_must (refine wpl_copy rfl (.tmp 47) (.tmp 59) 28 28 rfl 5 Try.underlying28 hsz _ _ 64 64 64 c1 rfl rfl w1.heap.size 0 _ 5 r2 _ _ (sD.below (b2.mono (by rw [HW1.out]; exact Nat.le_refl _))) (fun _ => rfl) (by first | (simp; omega) | simp) (u8s_cell _) ?_); intro w3 r3 g3; rw [HTR.out] at r3; have b3 : Below w1.heap.size w1 w3 := b2.grown g3 (Nat.le_of_lt (by omega)) (fun k hk => by injection hk with hk; omega); have hw3 : w.heap.size ≤ w3.heap.size := Nat.le_trans (by rw [HW1.out]; exact Nat.le_refl _) b3.size)
        | ((with_reducible show wpList _ _ _ (⟨some 69, _, _, _, _, _⟩ :: _) _ _); go_must (refine wpList_append_grows _ rfl (.tmp 66) (.tmp 68) 27 rfl 28 i1 (.slice none 0 0) 1 24 Try.underlying27 hi' hz0' hz1' hz2' rfl (by omega) (some ⟨b, o, none⟩) (nl - d.wait) (nl - d.wait) (lvs.take (nl - d.wait)) rfl (fun e => by cases e) hln (((rD.below (b3.mono (by rw [HW1.out]; exact Nat.le_refl _))).below (((Below.refl w3.heap.size w3).alloc (Nat.le_refl _) _).mono hw3)).holds) ⟨w3.heap.size, 0, none⟩ 1 1 [.slice (some ⟨w1.heap.size, 0, none⟩) 64 64] rfl rfl (World.news_of_block (heap_alloc_new w3 _)) (by simp [Value.oneCell']) (by omega) (by unfold maxLen; omega) (by omega) ?_); intro v4 w4 o4 g4; obtain ⟨A4, c4, rfl, hc41, hc42, _⟩ := own_slice o4; have b4 : Below w1.heap.size w1 w4 := (b3.alloc b3.size _).grown g4 (Nat.le_trans b3.size (by simp)) (fun k hk => by cases hk); have rw4 := rw1.below b4 hgD; have q2 : w4.cell? ⟨g, 2, none⟩ = some (.slice (some ⟨b, o, none⟩) nl cl) := rw4.cell 2; have q3 : w4.cell? ⟨g, 3, none⟩ = some (.int .i64 (d.wait : Int)) := rw4.cell 3; have q4 : w4.cell? ⟨g, 4, none⟩ = some (.slice Ab nb cb) := rw4.cell 4; have q5 : w4.cell? ⟨g, 5, none⟩ = some (.bool d.has) := rw4.cell 5; have p2 := rw4.frozen 2; have p3 := rw4.frozen 3; have p4 := rw4.frozen 4; have p5 := rw4.frozen 5))
      have r4 := (r3.alloc (.cells #[.slice (some ⟨w1.heap.size, 0, none⟩) 64 64] 28)).grown g4 (by simp)
      have ox := r4.own (base := w1.heap.size) (size := 1) (n := 64) (cap := 64) (Nat.le_refl _) (Nat.le_refl _) (by unfold maxLen; omega) (by rw [List.length_map, HTL.out])
      rw [List.take_of_length_le (by rw [List.length_map, HTL.out]; omega)] at ox
      have hx : OB w1.heap.size w4 (.slice (some ⟨w1.heap.size, 0, none⟩) 64 64) (tornL x torn) := by unfold OB; rw [HTL.out]; exact ox
      have ho4 : w4.ownsRow w1.heap.size 28 1 (.slice A4 ((nl - d.wait) + 1) c4) ((nl - d.wait) + 1) (lvs.take (nl - d.wait) ++ [.slice (some ⟨w1.heap.size, 0, none⟩) 64 64]) := own_base o4 (Nat.le_trans b3.size (by simp))
      have hcast : (((nl - d.wait) + 1 : Nat) : Int) = ((nl - d.wait) : Int) + 1 := by omega
      go_end0
      have hDD := HD.out
      have hOO : Only F w w4 := (Only.refl F w).drew.trans (by rw [← HW1.out]; exact Only.of_new b4) (fun _ _ hk => hk)
      rw [HW1.out] at b4 hx ho4
      exact ⟨rfl, crash_out4 (torn_out hDD HNLH.out (by omega) b4 ho4 hx), (((hOO.set HFG.out 2 _).set HFG.out 3 _).set HFG.out 4 _).set HFG.out 5 _⟩
  · subst k2
    rcases htc2 with ⟨t1, t2⟩ | ⟨t1, t2⟩
    · subst t2
      go_enter Try.func15, Try.ntmps15
      go_wp2_with fail
      go_region_held3 (fun w' => w'.cell? ⟨g, 2, none⟩ = some (.slice (some ⟨b, o, none⟩) nl cl) ∧ w'.cell? ⟨g, 3, none⟩ = some (.int .i64 (d.wait : Int))) (first | exact ⟨d2, d3⟩ | assumption) (fail)
      clear ‹_ ∧ _›
      clear d2 d3
      have c5 : w.drew.cell? ⟨g, 5, none⟩ = some (.bool false) := c5
      obtain ⟨w1, hw1⟩ : ∃ w1, w1 = w.drew := ⟨_, rfl⟩
      have HW1 := hid hw1
      rw [← hw1] at c2 c3 c5 e2 sD rD hgD hbD ⊢
      have rw1 : Row w1 g 60 (drRow pg d (.slice (some ⟨b, o, none⟩) nl cl) (.slice Ab nb cb)) := by rw [hw1]; exact HD.out.row
      clear hw1 ESZ
      go_wp2_with (first
        | (at_make; refine wpl_make _ rfl (.const (.int .i64 64)) (.const (.int .i64 64)) 28 rfl 5 i0 (.int .u8 0) 1 Try.underlying28 hi hz0 hz1 hz2 rfl .i64 .i64 _ _ 64 64 rfl rfl rfl (by omega) (by omega) (by omega) (by omega) ?_; intro w2 r2 b2 s2; have k2 := (b2.cell (p := ⟨g, 2, none⟩) hgD).trans c2; have k3 := (b2.cell (p := ⟨g, 3, none⟩) hgD).trans c3; have k5 := (b2.cell (p := ⟨g, 5, none⟩) hgD).trans c5; have ke := (b2.cell (p := ⟨b, o + st, none⟩) hbD).trans e2)
        | ((with_reducible show wpList _ _ _ (⟨some 60, _, _, _, _, _⟩ :: _) _ _); go_must (refine wpl_copy rfl (.tmp 47) (.tmp 59) 28 28 rfl 5 Try.underlying28 hsz _ _ 64 64 tn c1 rfl rfl w1.heap.size 0 _ 5 r2 _ _ (sD.below (b2.mono (by rw [HW1.out]; exact Nat.le_refl _))) (fun _ => rfl) (by first | (simp; omega) | simp) (u8s_cell _) ?_); intro w3 r3 g3; rw [HTR.out] at r3; have b3 : Below w1.heap.size w1 w3 := b2.grown g3 (Nat.le_of_lt (by omega)) (fun k hk => by injection hk with hk; omega); have hw3 : w.heap.size ≤ w3.heap.size := Nat.le_trans (by rw [HW1.out]; exact Nat.le_refl _) b3.size)
        | ((with_reducible show wpList _ _ _ (⟨some 69, _, _, _, _, _⟩ :: _) _ _); go_must (refine wpList_append_grows _ rfl (.tmp 66) (.tmp 68) 27 rfl 28 i1 (.slice none 0 0) 1 24 Try.underlying27 hi' hz0' hz1' hz2' rfl (by omega) (some ⟨b, o, none⟩) st st (lvs.take st) rfl (fun e => by cases e) hln (((rD.below (b3.mono (by rw [HW1.out]; exact Nat.le_refl _))).below (((Below.refl w3.heap.size w3).alloc (Nat.le_refl _) _).mono hw3)).holds) ⟨w3.heap.size, 0, none⟩ 1 1 [.slice (some ⟨w1.heap.size, 0, none⟩) 64 64] rfl rfl (World.news_of_block (heap_alloc_new w3 _)) (by simp [Value.oneCell']) (by omega) (by unfold maxLen; omega) (by omega) ?_); intro v4 w4 o4 g4; obtain ⟨A4, c4, rfl, hc41, hc42, _⟩ := own_slice o4; have b4 : Below w1.heap.size w1 w4 := (b3.alloc b3.size _).grown g4 (Nat.le_trans b3.size (by simp)) (fun k hk => by cases hk); have rw4 := rw1.below b4 hgD; have q2 : w4.cell? ⟨g, 2, none⟩ = some (.slice (some ⟨b, o, none⟩) nl cl) := rw4.cell 2; have q3 : w4.cell? ⟨g, 3, none⟩ = some (.int .i64 (d.wait : Int)) := rw4.cell 3; have q4 : w4.cell? ⟨g, 4, none⟩ = some (.slice Ab nb cb) := rw4.cell 4; have q5 : w4.cell? ⟨g, 5, none⟩ = some (.bool d.has) := rw4.cell 5; have p2 := rw4.frozen 2; have p3 := rw4.frozen 3; have p4 := rw4.frozen 4; have p5 := rw4.frozen 5))
      have r4 := (r3.alloc (.cells #[.slice (some ⟨w1.heap.size, 0, none⟩) 64 64] 28)).grown g4 (by simp)
      have ox := r4.own (base := w1.heap.size) (size := 1) (n := 64) (cap := 64) (Nat.le_refl _) (Nat.le_refl _) (by unfold maxLen; omega) (by rw [List.length_map, HTL.out])
      rw [List.take_of_length_le (by rw [List.length_map, HTL.out]; omega)] at ox
      have hx : OB w1.heap.size w4 (.slice (some ⟨w1.heap.size, 0, none⟩) 64 64) (tornL x (tn : Int)) := by unfold OB; rw [HTL.out]; exact ox
      have ho4 : w4.ownsRow w1.heap.size 28 1 (.slice A4 (st + 1) c4) (st + 1) (lvs.take st ++ [.slice (some ⟨w1.heap.size, 0, none⟩) 64 64]) := own_base o4 (Nat.le_trans b3.size (by simp))
      have hcast : ((st + 1 : Nat) : Int) = (st : Int) + 1 := by omega
      go_end0
      have hDD := HD.out
      have hOO : Only F w w4 := (Only.refl F w).drew.trans (by rw [← HW1.out]; exact Only.of_new b4) (fun _ _ hk => hk)
      rw [HW1.out] at b4 hx ho4
      exact ⟨rfl, crash_out4 (torn_out hDD HNLH.out (by omega) b4 ho4 hx), (((hOO.set HFG.out 2 _).set HFG.out 3 _).set HFG.out 4 _).set HFG.out 5 _⟩
    · subst t2
      go_enter Try.func15, Try.ntmps15
      go_wp2_with fail
      go_region_held3 (fun w' => w'.cell? ⟨g, 2, none⟩ = some (.slice (some ⟨b, o, none⟩) nl cl) ∧ w'.cell? ⟨g, 3, none⟩ = some (.int .i64 (d.wait : Int))) (first | exact ⟨d2, d3⟩ | assumption) (fail)
      clear ‹_ ∧ _›
      clear d2 d3
      have c5 : w.drew.cell? ⟨g, 5, none⟩ = some (.bool false) := c5
      obtain ⟨w1, hw1⟩ : ∃ w1, w1 = w.drew := ⟨_, rfl⟩
      have HW1 := hid hw1
      rw [← hw1] at c2 c3 c5 e2 sD rD hgD hbD ⊢
      have rw1 : Row w1 g 60 (drRow pg d (.slice (some ⟨b, o, none⟩) nl cl) (.slice Ab nb cb)) := by rw [hw1]; exact HD.out.row
      clear hw1 ESZ
      go_wp2_with (first
        | (at_make; refine wpl_make _ rfl (.const (.int .i64 64)) (.const (.int .i64 64)) 28 rfl 5 i0 (.int .u8 0) 1 Try.underlying28 hi hz0 hz1 hz2 rfl .i64 .i64 _ _ 64 64 rfl rfl rfl (by omega) (by omega) (by omega) (by omega) ?_; intro w2 r2 b2 s2; have k2 := (b2.cell (p := ⟨g, 2, none⟩) hgD).trans c2; have k3 := (b2.cell (p := ⟨g, 3, none⟩) hgD).trans c3; have k5 := (b2.cell (p := ⟨g, 5, none⟩) hgD).trans c5; have ke := (b2.cell (p := ⟨b, o + st, none⟩) hbD).trans e2)
        | ((with_reducible show wpList _ _ _ (⟨some 60, _, _, _, _, _⟩ :: _) _ _); go_must (refine wpl_copy rfl (.tmp 47) (.tmp 59) 28 28 rfl 5 Try.underlying28 hsz _ _ 64 64 64 c1 rfl rfl w1.heap.size 0 _ 5 r2 _ _ (sD.below (b2.mono (by rw [HW1.out]; exact Nat.le_refl _))) (fun _ => rfl) (by first | (simp; omega) | simp) (u8s_cell _) ?_); intro w3 r3 g3; rw [HTR.out] at r3; have b3 : Below w1.heap.size w1 w3 := b2.grown g3 (Nat.le_of_lt (by omega)) (fun k hk => by injection hk with hk; omega); have hw3 : w.heap.size ≤ w3.heap.size := Nat.le_trans (by rw [HW1.out]; exact Nat.le_refl _) b3.size)
        | ((with_reducible show wpList _ _ _ (⟨some 69, _, _, _, _, _⟩ :: _) _ _); go_must (refine wpList_append_grows _ rfl (.tmp 66) (.tmp 68) 27 rfl 28 i1 (.slice none 0 0) 1 24 Try.underlying27 hi' hz0' hz1' hz2' rfl (by omega) (some ⟨b, o, none⟩) st st (lvs.take st) rfl (fun e => by cases e) hln (((rD.below (b3.mono (by rw [HW1.out]; exact Nat.le_refl _))).below (((Below.refl w3.heap.size w3).alloc (Nat.le_refl _) _).mono hw3)).holds) ⟨w3.heap.size, 0, none⟩ 1 1 [.slice (some ⟨w1.heap.size, 0, none⟩) 64 64] rfl rfl (World.news_of_block (heap_alloc_new w3 _)) (by simp [Value.oneCell']) (by omega) (by unfold maxLen; omega) (by omega) ?_); intro v4 w4 o4 g4; obtain ⟨A4, c4, rfl, hc41, hc42, _⟩ := own_slice o4; have b4 : Below w1.heap.size w1 w4 := (b3.alloc b3.size _).grown g4 (Nat.le_trans b3.size (by simp)) (fun k hk => by cases hk); have rw4 := rw1.below b4 hgD; have q2 : w4.cell? ⟨g, 2, none⟩ = some (.slice (some ⟨b, o, none⟩) nl cl) := rw4.cell 2; have q3 : w4.cell? ⟨g, 3, none⟩ = some (.int .i64 (d.wait : Int)) := rw4.cell 3; have q4 : w4.cell? ⟨g, 4, none⟩ = some (.slice Ab nb cb) := rw4.cell 4; have q5 : w4.cell? ⟨g, 5, none⟩ = some (.bool d.has) := rw4.cell 5; have p2 := rw4.frozen 2; have p3 := rw4.frozen 3; have p4 := rw4.frozen 4; have p5 := rw4.frozen 5))
      have r4 := (r3.alloc (.cells #[.slice (some ⟨w1.heap.size, 0, none⟩) 64 64] 28)).grown g4 (by simp)
      have ox := r4.own (base := w1.heap.size) (size := 1) (n := 64) (cap := 64) (Nat.le_refl _) (Nat.le_refl _) (by unfold maxLen; omega) (by rw [List.length_map, HTL.out])
      rw [List.take_of_length_le (by rw [List.length_map, HTL.out]; omega)] at ox
      have hx : OB w1.heap.size w4 (.slice (some ⟨w1.heap.size, 0, none⟩) 64 64) (tornL x torn) := by unfold OB; rw [HTL.out]; exact ox
      have ho4 : w4.ownsRow w1.heap.size 28 1 (.slice A4 (st + 1) c4) (st + 1) (lvs.take st ++ [.slice (some ⟨w1.heap.size, 0, none⟩) 64 64]) := own_base o4 (Nat.le_trans b3.size (by simp))
      have hcast : ((st + 1 : Nat) : Int) = (st : Int) + 1 := by omega
      go_end0
      have hDD := HD.out
      have hOO : Only F w w4 := (Only.refl F w).drew.trans (by rw [← HW1.out]; exact Only.of_new b4) (fun _ _ hk => hk)
      rw [HW1.out] at b4 hx ho4
      exact ⟨rfl, crash_out4 (torn_out hDD HNLH.out (by omega) b4 ho4 hx), (((hOO.set HFG.out 2 _).set HFG.out 3 _).set HFG.out 4 _).set HFG.out 5 _⟩
end Go.Proofs.Ytcklnkilldeamaa
