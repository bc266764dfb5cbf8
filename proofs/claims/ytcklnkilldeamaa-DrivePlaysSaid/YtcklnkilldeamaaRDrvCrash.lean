/- The document's Crash. -/
import Derived.Test.YtcklnkilldeamaaRDrvRew
import Derived.Deep.CutBlock
namespace Go.Proofs.Ytcklnkilldeamaa
open Go.RowKit Wells
/-- the stores at the end of a fall -/
theorem rcrash_end {F : Nat → Prop} {w : World} {g pg : Nat} {lv bv lv' : Value} {lvs' : List Value} {d : Dr} {L' : List (List Byte)} (row : Row w g 65 (rdRow pg d lv bv)) (pow : Row w pg 51 (pw d.s)) (fg : F g) (fp : F pg) (lt : ∀ k, F k → k < w.heap.size) (hl : Lst F w lv' lvs' L') :
    RDrv F ((((w.setCell ⟨g, 2, none⟩ lv').setCell ⟨g, 3, none⟩ (.int .i64 0)).setCell ⟨g, 4, none⟩ (.bool false)).setCell ⟨g, 5, none⟩ (.slice none 0 0)) g pg lv' lvs' (.slice none 0 0) [] { d with L := L', wait := 0, B := [], has := false } := by
  have hne : pg ≠ g := fun e => row_ne row pow (by decide) e.symm
  have r2 := row.set 2 lv'
  have r3 := r2.set 3 (.int .i64 0)
  have r4 := r3.set 4 (.bool false)
  have r5 := r4.set 5 (.slice none 0 0)
  exact ⟨r5, (((pow.far hne _).far hne _).far hne _).far hne _, fg, fp, fun k hk => by simpa [World.setCell] using lt k hk, (((hl.far row (by decide) (by decide) _ _).far r2 (by decide) (by decide) _ _).far r3 (by decide) (by decide) _ _).far r4 (by decide) (by decide) _ _, Lst.nil_ _ _, (fun k _ e => by cases e)⟩
theorem RDrv.cutL {F : Nat → Prop} {wd w4 : World} {g pg : Nat} {bv : Value} {lvs bvs : List Value} {d : Dr} {Al A4 : Option Addr} {nl cl st c4 : Nat} (h : RDrv F wd g pg (.slice Al nl cl) lvs bv bvs d) (hn : d.L.length = nl) (hst : st ≤ nl)
    (o4 : w4.ownsRow wd.heap.size 28 1 (.slice A4 st c4) st (lvs.take st)) (hb4 : Below wd.heap.size wd w4) :
    (w4.cell? ⟨g, 2, none⟩ = some (.slice Al nl cl) ∧ w4.frozen? ⟨g, 2, none⟩ = false) ∧ RDrv (Ext F wd w4) (w4.setCell ⟨g, 2, none⟩ (.slice A4 st c4)) g pg (.slice A4 st c4) (lvs.take st) bv bvs { d with L := d.L.take st } ∧ Lst (Ext F wd w4) (w4.setCell ⟨g, 2, none⟩ (.slice A4 st c4)) (.slice Al nl cl) lvs d.L := by
  have h4 := h.grow hb4
  have ht := h4.l.take_ hn hst
  have hlt : (d.L.take st).length = st := by rw [List.length_take, hn]; omega
  refine ⟨⟨h4.row.cell 2, h4.row.frozen 2⟩, h4.setL ⟨⟨by rw [hlt]; exact own_base o4 (Nat.zero_le _), ht.own.at_⟩, fun k hk => .inr (own_lt o4 k hk), ht.is⟩ (fun k h1 h2 => ?_), h4.l.far h4.row (by decide) (by decide) _ _⟩
  have h3 := (own_lt o4 k h1).1
  have h5 := (own_lt h.b.own.own k h2).2
  omega
theorem RDrv.wide {F : Nat → Prop} {w w' : World} {g pg : Nat} {lv bv : Value} {lvs bvs : List Value} {d : Dr} (h : RDrv F w' g pg lv lvs bv bvs d) : RDrvE (Ext F w w') w' g pg d := ⟨_, _, _, _, h.more (fun k hk => .inl hk) (fun k hk => by
  rcases hk with hk | hk
  · exact h.lt k hk
  · exact hk.2)⟩
set_option maxRecDepth 20000 in
set_option maxHeartbeats 4000000 in
theorem rcrash_any (F : Nat → Prop) (g pg : Nat) (d : Dr) (m : Nat) (keep torn : Int) (w : World) (h : RDrvE F w g pg d) (hok : DOk m d) (hk : -9223372036854775808 ≤ keep ∧ keep ≤ 9223372036854775807) (ht : -9223372036854775808 ≤ torn ∧ torn ≤ 9223372036854775807) :
    Calls Try.prog 32 #[.pointer (some ⟨g, 0, none⟩), .int .i64 keep, .int .i64 torn] w fun e w' => e = .returned (.tuple #[]) ∧ RDrvE (Ext F w w') w' g pg (d.crash keep torn) ∧ Only F w w' := by
  obtain ⟨lv, lvs, bv, bvs, h⟩ := h
  obtain ⟨Al, cl, rfl, hcl1, hcl2⟩ := h.l.own.form
  obtain ⟨nl, hnl⟩ : ∃ k, d.L.length = k := ⟨_, rfl⟩
  rw [hnl] at h hcl1
  have HNL := hid hnl
  have hlen := hok.len
  have hroom := hok.room
  have hwait := hok.wait
  rw [hnl] at hlen hwait
  clear hnl
  obtain ⟨S, hS⟩ : ∃ S, d.fallen keep torn = S := ⟨_, rfl⟩
  have hcr : d.crash keep torn = { d with L := S, wait := 0, B := [], has := false } := by unfold Dr.crash; rw [hS]
  rw [hcr]
  have HS := hid hS
  clear hS hcr
  obtain ⟨Ab, cb, rfl, _, _⟩ := h.b.own.form
  have c2 : w.cell? ⟨g, 2, none⟩ = some (.slice Al nl cl) := h.row.cell 2
  have c3 : w.cell? ⟨g, 3, none⟩ = some (.int .i64 (d.wait : Int)) := h.row.cell 3
  have c4 : w.cell? ⟨g, 4, none⟩ = some (.bool d.has) := h.row.cell 4
  have c5 : w.cell? ⟨g, 5, none⟩ = some (.slice Ab d.B.length cb) := h.row.cell 5
  have f2 := h.row.frozen 2
  have f3 := h.row.frozen 3
  have f4 := h.row.frozen 4
  have f5 := h.row.frozen 5
  obtain ⟨fi, hfi⟩ : ∃ k : Nat, nl - d.wait = k := ⟨_, rfl⟩
  have hsub : IntKind.i64.wrap ((nl : Int) - (d.wait : Int)) = (fi : Int) := by rw [IntKind.wrap_i64]; omega
  have hfn : fi ≤ nl := by omega
  have hfc : (fi : Int) ≤ (cl : Int) := by omega
  have HFI := hid hfi
  clear hfi
  cases hha : d.has with
  | true =>
    rw [hha] at c4
    have HHA := hid hha
    clear hha
    have HH := hid h
    by_cases hk0 : 0 < keep
    · have hs : S = d.B := by rw [← HS.out]; unfold Dr.fallen; rw [if_pos HHA.out, if_pos hk0]
      subst hs
      have hE := (rcrash_end h.drew_.row h.drew_.pow h.drew_.fg h.drew_.fp h.drew_.lt h.drew_.b).wide (w := w)
      have HE := hid hE
      have HO := hid (((((Only.refl F w).drew.set h.fg 2 (.slice Ab d.B.length cb)).set h.fg 3 (.int .i64 0)).set h.fg 4 (.bool false)).set h.fg 5 (.slice none 0 0))
      clear h hE
      go_enter Try.func32, Try.ntmps32
      go_wp2_with fail
      go_region_held3 (fun w' => w'.cell? ⟨g, 2, none⟩ = some (.slice Al nl cl) ∧ w'.cell? ⟨g, 3, none⟩ = some (.int .i64 (d.wait : Int))) (first | exact ⟨c2, c3⟩ | assumption) (fail)
      go_wp2_with fail
      go_end0
      exact ⟨rfl, HE.out, HO.out⟩
    · have hs : S = d.L.take fi := by rw [← HS.out]; unfold Dr.fallen; rw [if_pos HHA.out, if_neg hk0, HNL.out, HFI.out]
      subst hs
      have hE := (rcrash_end h.drew_.row h.drew_.pow h.drew_.fg h.drew_.fp h.drew_.lt (h.drew_.l.take_ HNL.out hfn)).wide (w := w)
      have HE := hid hE
      have HO := hid (((((Only.refl F w).drew.set h.fg 2 (.slice Al fi cl)).set h.fg 3 (.int .i64 0)).set h.fg 4 (.bool false)).set h.fg 5 (.slice none 0 0))
      clear h hE
      go_enter Try.func32, Try.ntmps32
      go_wp2_with fail
      go_region_held3 (fun w' => w'.cell? ⟨g, 2, none⟩ = some (.slice Al nl cl) ∧ w'.cell? ⟨g, 3, none⟩ = some (.int .i64 (d.wait : Int))) (first | exact ⟨c2, c3⟩ | assumption) (fail)
      go_wp2_with fail
      go_end0
      exact ⟨rfl, HE.out, HO.out⟩
  | false =>
    rw [hha] at c4
    have HHA := hid hha
    clear hha
    obtain ⟨kk, hkk⟩ : ∃ k : Nat, min keep.toNat d.wait = k := ⟨_, rfl⟩
    have hkw : kk ≤ d.wait := by omega
    obtain ⟨st, hst⟩ : ∃ k : Nat, fi + kk = k := ⟨_, rfl⟩
    have HF := hid (show S = if kk < d.wait ∧ 0 < torn then d.L.take st ++ [tornL (d.L.getD st []) torn] else d.L.take st by
      rw [← HS.out]; unfold Dr.fallen; rw [if_neg (by rw [HHA.out]; simp), HNL.out, hkk, HFI.out, hst])
    have HKK := hid hkk
    have HST := hid hst
    have hwr : IntKind.i64.wrap ((fi : Int) + (kk : Int)) = (st : Int) := by rw [IntKind.wrap_i64]; omega
    have HH := hid h
    have hstn : st ≤ nl := by have := HFI.out; omega
    clear hkk hst h
    go_enter Try.func32, Try.ntmps32
    go_wp2_with fail
    go_region_held3 (fun w' => w'.cell? ⟨g, 2, none⟩ = some (.slice Al nl cl) ∧ w'.cell? ⟨g, 3, none⟩ = some (.int .i64 (d.wait : Int))) (first | exact ⟨c2, c3⟩ | assumption) (fail)
    go_upto_region 1 with fail
    go_cut [7] (fun s7 wx => s7 = .int .i64 (st : Int) ∧ wx = w.drew)
    case first =>
      have hkc : (keep < 0 ∧ kk = 0) ∨ (0 ≤ keep ∧ keep = (kk : Int) ∧ kk ≤ d.wait) ∨ (0 < keep ∧ (d.wait : Int) < keep ∧ kk = d.wait) := by have := HKK.out; omega
      rcases hkc with ⟨k1, k2⟩ | ⟨k1, k2, k3⟩ | ⟨k1, k2, k3⟩
      · subst k2
        go_wp2_with fail
        all_goals (go_meet; exact ⟨by congr 1; have := HST.out; omega, rfl⟩)
      · subst k2
        go_wp2_with fail
        all_goals (go_meet; exact ⟨by congr 1; have := HST.out; omega, rfl⟩)
      · subst k3
        go_wp2_with fail
        all_goals (go_meet; exact ⟨by congr 1; have := HST.out; omega, rfl⟩)
    case rest =>
    obtain ⟨rfl, rfl⟩ := hcut
    have HD := hid HH.out.drew_
    have OD := hid ((Only.refl F w).drew)
    have ESZ := hid (show w.drew.heap.size = w.heap.size from rfl)
    have c2 : w.drew.cell? ⟨g, 2, none⟩ = some (.slice Al nl cl) := HH.out.row.cell 2
    obtain ⟨wd, hwd⟩ : ∃ x, w.drew = x := ⟨_, rfl⟩
    rw [hwd] at HD OD ESZ c2 ⊢
    clear hwd f2 f3 f4 f5 c3 c4 c5 hwr hsub
    obtain ⟨i1, hi', hz0', hz1', hz2'⟩ := info_parts infoBs
    obtain ⟨iB, hiB, hzB0, hzB1, hzB2⟩ := info_parts infoB
    have HFLT := hid HD.out.lt
    have hrl : Sl wd wd.heap.size 1 Al st (lvs.take st) := by
      have := (HD.out.l.own.read HNL.out).sl.take hstn
      rwa [Nat.mul_one] at this
    have hll := HD.out.l.len
    have hlst : (lvs.take st).length = st := by rw [List.length_take, hll, HNL.out]; omega
    have HRL := hid hrl
    have HLST := hid hlst
    have hone : ∀ v ∈ lvs.take st, v.oneCell' = true := by
      intro v hv
      have hv2 := List.mem_of_mem_take hv
      obtain ⟨i, hi2, rfl⟩ := List.getElem_of_mem hv2
      have h1 := HD.out.l.own.at_ i (by omega)
      rw [List.getD_eq_getElem?_getD, List.getElem?_eq_getElem hi2, Option.getD_some] at h1
      obtain ⟨A', c', e', _⟩ := own_slice h1
      rw [e']
      rfl
    have HONE := hid hone
    have hsc : (st : Int) ≤ (cl : Int) := by omega
    have hsn : (st : Int) ≤ (nl : Int) := by omega
    have hgd := HD.out.row.lt
    clear hone hrl hll hlst hfn hfc
    go_upto_region 3 with fail
    obtain ⟨nr, hnr⟩ : ∃ k, nl - st = k := ⟨_, rfl⟩
    have HNR := hid hnr
    rw [hnr]
    by_cases hB : kk < d.wait ∧ 0 < torn
    · have hs : S = d.L.take st ++ [tornL (d.L.getD st []) torn] := by rw [HF.out, if_pos hB]
      subst hs
      have hstn2 : st < nl := by have := HFI.out; have := HST.out; omega
      obtain ⟨b, o, A1, c1, rfl, hb, hce, hl1, hc1, sl1⟩ := (HD.out.l.own.read HNL.out).get hstn2
      have hx64 : (d.L.getD st []).length = 64 := by
        have := HNL.out
        rw [List.getD_eq_getElem?_getD, List.getElem?_eq_getElem (by omega)]
        exact hok.cells _ (List.getElem_mem _)
      obtain ⟨x, hx⟩ : ∃ x, d.L.getD st [] = x := ⟨_, rfl⟩
      rw [hx] at hx64 hce hl1 sl1
      rw [hx64] at hce hl1 sl1
      have HX := hid hx
      obtain ⟨tn, htn⟩ : ∃ k : Nat, min torn.toNat 64 = k := ⟨_, rfl⟩
      have HTR := hid (torn_row hx64 htn)
      have HTL := hid (torn_len hx64 torn)
      have hncs : ¬ cl = st := by omega
      have hnr0 : (0 : Int) < (nr : Int) := by omega
      have ht0 : 0 < torn := hB.2
      have hnr1 : 0 < nr := by omega
      rw [if_neg hncs]
      have hmap : Option.map (fun x : Addr => x.add st) (some ⟨b, o, none⟩) = some ⟨b, o + st, none⟩ := by
        rcases Nat.eq_zero_or_pos st with h0 | h0
        · subst h0; rfl
        · simp [Addr.add]; omega
      rw [hmap]
      have HTN := hid htn
      have HSL1 := hid sl1
      have HCE := hid hce
      have HBD := hid hb
      have HX64 := hid hx64
      clear hmap htn sl1 hx hx64 hce hB hb hl1 hc1 HSL1 HCE HBD
      clear A1 c1
      go_upto_region 5 with (at_builtin; go_must (refine wpl_append rfl (.const (.slice none 0 0)) (.tmp 41) 27 rfl wd.heap.size 28 i1 (.slice none 0 0) 1 24 Try.underlying27 hi' hz0' hz1' hz2' rfl (by omega) _ 0 [] rfl (World.ownsRow_nil _ _ _ _) wd.heap.size _ st cl (lvs.take st) rfl HRL.out HONE.out st (by omega) (lvs.take st) rfl (by omega) (by omega) (Nat.le_refl _) ?_); intro A4 c4 w4 o4 g4 _; have hb4 : Below wd.heap.size wd w4 := (Below.refl _ _).grown g4 (Nat.le_refl _) (fun k hk => by cases hk); obtain ⟨⟨k2, f2⟩, hc4, hl4⟩ := HD.out.cutL HNL.out hstn o4 hb4; have HC4 := hid hc4; have HL4 := hid hl4; have HB4 := hid hb4; clear hc4 hl4 hb4 o4 g4)
      have ES5 := hid (show (w4.setCell ⟨g, 2, none⟩ (.slice A4 st c4)).heap.size = w4.heap.size by simp [World.setCell])
      have O5 := hid ((OD.out.trans (Only.of_new (F := F) HB4.out) (fun _ _ hk => hk)).set HD.out.fg 2 (.slice A4 st c4))
      clear k2 f2
      generalize w4.setCell ⟨g, 2, none⟩ (.slice A4 st c4) = w5 at *
      obtain ⟨b', o', A1, c1, eb, hb, hce, hl1, hc1, sl1⟩ := (HL4.out.own.read HNL.out).get hstn2
      injection eb with eb
      injection eb with eb1 eb2 _
      subst eb1 eb2
      rw [HX.out] at hce hl1 sl1
      rw [HX64.out] at hce hl1 sl1
      have hsz : (Try.prog.info? 5).map (·.size) = some 1 := by rw [hiB]; simp [hzB1]
      go_upto_region 6 with (at_make; refine wpl_make _ rfl (.const (.int .i64 64)) (.const (.int .i64 64)) 28 rfl 5 iB (.int .u8 0) 1 Try.underlying28 hiB hzB0 hzB1 hzB2 rfl .i64 .i64 _ _ 64 64 rfl rfl rfl (by omega) (by omega) (by omega) (by omega) ?_; intro w6 r6 b6 s6)
      have ke := (b6.cell (p := ⟨b, o + st, none⟩) hb).trans hce
      have htn1 : 1 ≤ tn := by have := HTN.out; omega
      have htn64 : tn ≤ 64 := by have := HTN.out; omega
      have htc : (tn : Int) ≤ (c1 : Int) := by omega
      have stn : Sl w6 w5.heap.size 1 A1 tn ((x.take tn).map bv8) := by
        have := (sl1.take htn64).below b6
        rwa [Nat.mul_one, ← List.map_take] at this
      have HSN := hid stn
      have hz6 := b6.size
      clear stn sl1 hce
      have htc2 : (torn ≤ 64 ∧ torn = (tn : Int)) ∨ (64 < torn ∧ tn = 64) := by have := HTN.out; omega
      obtain ⟨tt, htt⟩ : ∃ t, tornL x torn = t := ⟨_, rfl⟩
      rw [htt] at HTR HTL
      have HTT := hid htt
      clear htt
      go_cut [9] (fun s9 wx => s9 = .slice (some ⟨w5.heap.size, 0, none⟩) 64 64 ∧ Row wx w5.heap.size 5 (tt.map bv8) ∧ Below w5.heap.size w5 wx)
      case first =>
        rcases htc2 with ⟨t1, t2⟩ | ⟨t1, t2⟩
        · subst t2
          have t3 : (tn : Int) ≤ 64 := t1
          go_wp2_with ((with_reducible show wpList _ _ _ (⟨some 60, _, _, _, _, _⟩ :: _) _ _); go_must (refine wpl_copy rfl (.tmp 53) (.tmp 59) 28 28 rfl 5 Try.underlying28 hsz _ _ 64 64 tn c1 rfl rfl w5.heap.size 0 _ 5 r6 _ _ HSN.out (fun _ => rfl) (by first | (simp; omega) | simp) (u8s_cell _) ?_); intro w7 r7 g7; rw [HTR.out] at r7; have b7 : Below w5.heap.size w5 w7 := b6.grown g7 (Nat.le_of_lt (by have := r6.lt; omega)) (fun k hk => by injection hk with hk; omega))
          go_meet
          exact ⟨rfl, r7, b7⟩
        · subst t2
          go_wp2_with ((with_reducible show wpList _ _ _ (⟨some 60, _, _, _, _, _⟩ :: _) _ _); go_must (refine wpl_copy rfl (.tmp 53) (.tmp 59) 28 28 rfl 5 Try.underlying28 hsz _ _ 64 64 64 c1 rfl rfl w5.heap.size 0 _ 5 r6 _ _ HSN.out (fun _ => rfl) (by first | (simp; omega) | simp) (u8s_cell _) ?_); intro w7 r7 g7; rw [HTR.out] at r7; have b7 : Below w5.heap.size w5 w7 := b6.grown g7 (Nat.le_of_lt (by have := r6.lt; omega)) (fun k hk => by injection hk with hk; omega))
          go_meet
          exact ⟨rfl, r7, b7⟩
      case rest =>
      obtain ⟨rfl, r7, b7⟩ := hcut
      have hz7 := b7.size
      have H7 := hid (HC4.out.only (Only.of_new (F := fun _ => False) b7) (fun _ _ hf => hf))
      have k2 : wc.cell? ⟨g, 2, none⟩ = some (.slice A4 st c4) := H7.out.row.cell 2
      have hx7 : OB w5.heap.size wc (.slice (some ⟨w5.heap.size, 0, none⟩) 64 64) tt := by
        have ox := r7.own (base := w5.heap.size) (size := 1) (n := 64) (cap := 64) (Nat.le_refl _) (Nat.le_refl _) (by unfold maxLen; omega) (by rw [List.length_map, HTL.out])
        rw [List.take_of_length_le (by rw [List.length_map, HTL.out]; omega)] at ox
        unfold OB
        rw [HTL.out]
        exact ox
      have hltk : (d.L.take st).length = st := by rw [List.length_take, HNL.out]; omega
      have how : wc.ownsRow 0 28 1 (.slice A4 st c4) st (lvs.take st) := by
        have := H7.out.l.own.own
        rwa [show ({ d with L := d.L.take st } : Dr).L.length = st from hltk] at this
      have HX7 := hid hx7
      have HLTK := hid hltk
      have HOW := hid how
      have HB7 := hid b7
      clear r7 hx7 hltk how b7 r6 ke b6
      go_upto_region 12 with (at_builtin; go_must (refine wpl_append rfl (.tmp 65) (.tmp 67) 27 rfl 0 28 i1 (.slice none 0 0) 1 24 Try.underlying27 hi' hz0' hz1' hz2' rfl (by omega) (.slice A4 st c4) st (lvs.take st) rfl (HOW.out.alloc _) _ _ 1 1 [.slice (some ⟨w5.heap.size, 0, none⟩) 64 64] rfl (Sl.fresh wc [.slice (some ⟨w5.heap.size, 0, none⟩) 64 64] 28 (0, 0) 1 rfl) (by simp [Value.oneCell']) (st + 1) rfl (lvs.take st ++ [.slice (some ⟨w5.heap.size, 0, none⟩) 64 64]) rfl (by omega) (by omega) (Nat.zero_le _) ?_); intro A8 c8 w8 o8 g8 wh8; obtain ⟨hDA, hOA, hRA⟩ := HC4.out.appended (lv' := .slice A8 (st + 1) c8) HB7.out HX7.out (.cells #[.slice (some ⟨w5.heap.size, 0, none⟩) 64 64] 28) (by rw [show ({ d with L := d.L.take st } : Dr).L.length = st from HLTK.out]; exact o8) g8 (fun k hk => ⟨by rcases wh8 with h2 | h2; exact .inl (by rw [← h2]; exact hk); rw [h2] at hk; injection hk with hk; exact .inr hk.symm, (own_lt o8 k hk).2⟩); have HDA := hid hDA; have HOA := hid hOA; have q2 : w8.cell? ⟨g, 2, none⟩ = some (.slice A4 st c4) := hRA.cell 2; have p2 := hRA.frozen 2; clear hDA hOA hRA o8 g8 wh8)
      have hE := ((HDA.out.setWait 0).setHas false).noB
      have hO : Only F w ((((w8.setCell ⟨g, 2, none⟩ (.slice A8 (st + 1) c8)).setCell ⟨g, 3, none⟩ (.int .i64 (0 : Nat))).setCell ⟨g, 4, none⟩ (.bool false)).setCell ⟨g, 5, none⟩ (.slice none 0 0)) := ((((O5.out.trans HOA.out (fun k hk hf => by
        rcases hf with hf | hf
        · exact hf
        · have := ESZ.out; omega)).set HD.out.fg 2 _).set HD.out.fg 3 _).set HD.out.fg 4 _).set HD.out.fg 5 _
      have hz8 : ((((w8.setCell ⟨g, 2, none⟩ (.slice A8 (st + 1) c8)).setCell ⟨g, 3, none⟩ (.int .i64 (0 : Nat))).setCell ⟨g, 4, none⟩ (.bool false)).setCell ⟨g, 5, none⟩ (.slice none 0 0)).heap.size = w8.heap.size := by simp [World.setCell]
      have hE2 := hE.more (G := Ext F w ((((w8.setCell ⟨g, 2, none⟩ (.slice A8 (st + 1) c8)).setCell ⟨g, 3, none⟩ (.int .i64 (0 : Nat))).setCell ⟨g, 4, none⟩ (.bool false)).setCell ⟨g, 5, none⟩ (.slice none 0 0))) (fun k hk => by
        have e1 := ESZ.out
        have e2 := ES5.out
        have e3 := HOA.out.size
        have e4 := HB4.out.size
        rcases hk with (hk | hk) | hk
        · exact .inl hk
        · exact .inr ⟨by omega, by rw [hz8]; omega⟩
        · exact .inr ⟨by omega, by rw [hz8]; exact hk.2⟩) (fun k hk => by
        have e3 := HOA.out.size
        have e2 := ES5.out
        have e4 := HB4.out.size
        rcases hk with hk | hk
        · have := HFLT.out k hk
          rw [hz8]
          omega
        · exact hk.2)
      have HE := hid hE2
      have HO := hid hO
      have k3 : (w8.setCell ⟨g, 2, none⟩ (.slice A8 (st + 1) c8)).cell? ⟨g, 3, none⟩ = some (.int .i64 (d.wait : Int)) := HDA.out.row.cell 3
      have k4 : (w8.setCell ⟨g, 2, none⟩ (.slice A8 (st + 1) c8)).cell? ⟨g, 4, none⟩ = some (.bool d.has) := HDA.out.row.cell 4
      have k5 : (w8.setCell ⟨g, 2, none⟩ (.slice A8 (st + 1) c8)).cell? ⟨g, 5, none⟩ = some (.slice Ab d.B.length cb) := HDA.out.row.cell 5
      have f3 := HDA.out.row.frozen 3
      have f4 := HDA.out.row.frozen 4
      have f5 := HDA.out.row.frozen 5
      clear hE hE2 hO hz8 q2 p2 HDA HOA
      generalize w8.setCell ⟨g, 2, none⟩ (.slice A8 (st + 1) c8) = w9 at *
      go_wp2_with fail
      all_goals (go_end0; rw [← List.getD_eq_getElem?_getD, HX.out, HTT.out]; exact ⟨rfl, ⟨_, _, _, _, HE.out⟩, HO.out⟩)
    · have hs : S = d.L.take st := by rw [HF.out, if_neg hB]
      subst hs
      have hcase : (¬ (0 : Int) < (nr : Int)) ∨ ((0 : Int) < (nr : Int) ∧ ¬ 0 < torn) := by have := HFI.out; have := HST.out; omega
      rcases hcase with hn1 | ⟨hn1, ht1⟩
      · have hn2 : ¬ 0 < nr := by omega
        go_upto_region 12 with (at_builtin; go_must (refine wpl_append rfl (.const (.slice none 0 0)) (.tmp 41) 27 rfl wd.heap.size 28 i1 (.slice none 0 0) 1 24 Try.underlying27 hi' hz0' hz1' hz2' rfl (by omega) _ 0 [] rfl (World.ownsRow_nil _ _ _ _) wd.heap.size _ st cl (lvs.take st) rfl HRL.out HONE.out st (by omega) (lvs.take st) rfl (by omega) (by omega) (Nat.le_refl _) ?_); intro A4 c4 w4 o4 g4 _; have hb4 : Below wd.heap.size wd w4 := (Below.refl _ _).grown g4 (Nat.le_refl _) (fun k hk => by cases hk); obtain ⟨⟨k2, f2⟩, hc4, hl4⟩ := HD.out.cutL HNL.out hstn o4 hb4; have HC4 := hid hc4; have HL4 := hid hl4; have HB4 := hid hb4; clear hc4 hl4 hb4 o4 g4)
        have hE := ((HC4.out.setWait 0).setHas false).noB
        have hz4 : w4.heap.size ≤ ((((w4.setCell ⟨g, 2, none⟩ (.slice A4 st c4)).setCell ⟨g, 3, none⟩ (.int .i64 (0 : Nat))).setCell ⟨g, 4, none⟩ (.bool false)).setCell ⟨g, 5, none⟩ (.slice none 0 0)).heap.size := by simp [World.setCell]
        have hO : Only F w ((((w4.setCell ⟨g, 2, none⟩ (.slice A4 st c4)).setCell ⟨g, 3, none⟩ (.int .i64 (0 : Nat))).setCell ⟨g, 4, none⟩ (.bool false)).setCell ⟨g, 5, none⟩ (.slice none 0 0)) := ((((OD.out.trans (Only.of_new (F := F) HB4.out) (fun _ _ hk => hk)).set HD.out.fg 2 _).set HD.out.fg 3 _).set HD.out.fg 4 _).set HD.out.fg 5 _
        have HE := hid (hE.widen (Nat.le_of_eq ESZ.out.symm) hz4 (fun k hk => Nat.lt_of_lt_of_le (HFLT.out k hk) (Nat.le_trans HB4.out.size hz4)))
        have HO := hid hO
        have k3 : (w4.setCell ⟨g, 2, none⟩ (.slice A4 st c4)).cell? ⟨g, 3, none⟩ = some (.int .i64 (d.wait : Int)) := HC4.out.row.cell 3
        have k4 : (w4.setCell ⟨g, 2, none⟩ (.slice A4 st c4)).cell? ⟨g, 4, none⟩ = some (.bool d.has) := HC4.out.row.cell 4
        have k5 : (w4.setCell ⟨g, 2, none⟩ (.slice A4 st c4)).cell? ⟨g, 5, none⟩ = some (.slice Ab d.B.length cb) := HC4.out.row.cell 5
        have f3 := HC4.out.row.frozen 3
        have f4 := HC4.out.row.frozen 4
        have f5 := HC4.out.row.frozen 5
        clear hE hO hz4
        generalize w4.setCell ⟨g, 2, none⟩ (.slice A4 st c4) = w5 at *
        go_wp2_with fail
        all_goals (go_end0; exact ⟨rfl, ⟨_, _, _, _, HE.out⟩, HO.out⟩)
      · have hn2 : 0 < nr := by omega
        go_upto_region 12 with (at_builtin; go_must (refine wpl_append rfl (.const (.slice none 0 0)) (.tmp 41) 27 rfl wd.heap.size 28 i1 (.slice none 0 0) 1 24 Try.underlying27 hi' hz0' hz1' hz2' rfl (by omega) _ 0 [] rfl (World.ownsRow_nil _ _ _ _) wd.heap.size _ st cl (lvs.take st) rfl HRL.out HONE.out st (by omega) (lvs.take st) rfl (by omega) (by omega) (Nat.le_refl _) ?_); intro A4 c4 w4 o4 g4 _; have hb4 : Below wd.heap.size wd w4 := (Below.refl _ _).grown g4 (Nat.le_refl _) (fun k hk => by cases hk); obtain ⟨⟨k2, f2⟩, hc4, hl4⟩ := HD.out.cutL HNL.out hstn o4 hb4; have HC4 := hid hc4; have HL4 := hid hl4; have HB4 := hid hb4; clear hc4 hl4 hb4 o4 g4)
        have hE := ((HC4.out.setWait 0).setHas false).noB
        have hz4 : w4.heap.size ≤ ((((w4.setCell ⟨g, 2, none⟩ (.slice A4 st c4)).setCell ⟨g, 3, none⟩ (.int .i64 (0 : Nat))).setCell ⟨g, 4, none⟩ (.bool false)).setCell ⟨g, 5, none⟩ (.slice none 0 0)).heap.size := by simp [World.setCell]
        have hO : Only F w ((((w4.setCell ⟨g, 2, none⟩ (.slice A4 st c4)).setCell ⟨g, 3, none⟩ (.int .i64 (0 : Nat))).setCell ⟨g, 4, none⟩ (.bool false)).setCell ⟨g, 5, none⟩ (.slice none 0 0)) := ((((OD.out.trans (Only.of_new (F := F) HB4.out) (fun _ _ hk => hk)).set HD.out.fg 2 _).set HD.out.fg 3 _).set HD.out.fg 4 _).set HD.out.fg 5 _
        have HE := hid (hE.widen (Nat.le_of_eq ESZ.out.symm) hz4 (fun k hk => Nat.lt_of_lt_of_le (HFLT.out k hk) (Nat.le_trans HB4.out.size hz4)))
        have HO := hid hO
        have k3 : (w4.setCell ⟨g, 2, none⟩ (.slice A4 st c4)).cell? ⟨g, 3, none⟩ = some (.int .i64 (d.wait : Int)) := HC4.out.row.cell 3
        have k4 : (w4.setCell ⟨g, 2, none⟩ (.slice A4 st c4)).cell? ⟨g, 4, none⟩ = some (.bool d.has) := HC4.out.row.cell 4
        have k5 : (w4.setCell ⟨g, 2, none⟩ (.slice A4 st c4)).cell? ⟨g, 5, none⟩ = some (.slice Ab d.B.length cb) := HC4.out.row.cell 5
        have f3 := HC4.out.row.frozen 3
        have f4 := HC4.out.row.frozen 4
        have f5 := HC4.out.row.frozen 5
        clear hE hO hz4
        generalize w4.setCell ⟨g, 2, none⟩ (.slice A4 st c4) = w5 at *
        go_wp2_with fail
        all_goals (go_end0; exact ⟨rfl, ⟨_, _, _, _, HE.out⟩, HO.out⟩)
end Go.Proofs.Ytcklnkilldeamaa
