/- The document's Rewrite. -/
import Derived.Test.YtcklnkilldeamaaRDrvApp
import Derived.Test.YtcklnkilldeamaaCopy
namespace Go.Proofs.Ytcklnkilldeamaa
open Go.RowKit Wells
theorem RDrv.grow {F : Nat → Prop} {w w2 : World} {g pg : Nat} {lv bv : Value} {lvs bvs : List Value} {d : Dr} (h : RDrv F w g pg lv lvs bv bvs d) (hb : Below w.heap.size w w2) : RDrv (Ext F w w2) w2 g pg lv lvs bv bvs d :=
  (h.only (Only.of_new (F := fun _ => False) hb) (fun _ _ hf => hf)).more (fun k hk => .inl hk) (fun k hk => by
    rcases hk with hk | hk
    · exact Nat.lt_of_lt_of_le (h.lt k hk) hb.size
    · exact hk.2)
theorem RDrv.fresh {F : Nat → Prop} {w w2 : World} {v : Value} {vs : List Value} {ls : List (List Byte)} (ho : OBs w.heap.size w2 v vs ls) : Lst (Ext F w w2) w2 v vs ls := Lst.of_own ho (fun k h1 h2 => .inr ⟨h1, h2⟩)
set_option maxRecDepth 20000 in
set_option maxHeartbeats 4000000 in
theorem rrewrite_any (F G : Nat → Prop) (g pg : Nat) (d : Dr) (m : Nat) (A : Option Addr) (ls : List (List Byte)) (vs : List Value) (n c : Nat) (w : World) (h : RDrvE F w g pg d) (hok : DOk m d) (hm : m ≤ 1000000) (hl : Lst G w (.slice A n c) vs ls) (hG : ∀ k, G k → ¬ F k) (hln : ls.length = n) (hn : n ≤ 1048576) (hc : ∀ x ∈ ls, x.length = 64) :
    Calls Try.prog 43 #[.pointer (some ⟨g, 0, none⟩), .slice A n c] w fun e w' => e = .returned (.int .i64 (d.rewrite ls).2) ∧ RDrvE (Ext F w w') w' g pg (d.rewrite ls).1 ∧ Only F w w' := by
  obtain ⟨lv, lvs, bv, bvs, h⟩ := h
  have HLN := hid hln
  have hb := hl.own.read hln
  have HLL := hid hl
  have HGF := hid hG
  clear hl hG
  obtain ⟨S, hS⟩ : ∃ S, d.rewrite ls = S := ⟨_, rfl⟩
  rw [hS]
  have HS := hid hS
  clear hS
  obtain ⟨Al, cl, rfl, hcl1, hcl2⟩ := h.l.own.form
  obtain ⟨Ab, cb, rfl, _, _⟩ := h.b.own.form
  have hroom := hok.room
  have c0 := h.row.cell 0
  have e0 : (rdRow pg d (.slice Al d.L.length cl) (.slice Ab d.B.length cb))[0]? = some (.int .i64 d.room) := rfl
  rw [e0] at c0
  clear e0
  have c1 := h.row.cell 1
  have e1 : (rdRow pg d (.slice Al d.L.length cl) (.slice Ab d.B.length cb))[1]? = some (.pointer (some ⟨pg, 0, none⟩)) := rfl
  rw [e1] at c1
  clear e1
  have c6 := h.row.cell 6
  have e6 : (rdRow pg d (.slice Al d.L.length cl) (.slice Ab d.B.length cb))[6]? = some (.bool d.lost) := rfl
  rw [e6] at c6
  clear e6
  have p0 : w.cell? ⟨pg, 0, none⟩ = some (.bool d.s.off) := h.pow.cell 0
  have HH := hid h
  have HC := hid hc
  have HOK := hid hok
  have HCX := hid (show ∀ i, i < n → (ls.getD i []).length ≤ 1048576 from fun i hi => by
    rw [List.getD_eq_getElem?_getD, List.getElem?_eq_getElem (by rw [hln]; exact hi)]
    have := hc _ (List.getElem_mem (by rw [hln]; exact hi))
    simp only [Option.getD_some]
    omega)
  clear h hc hok hln
  go_enter Try.func43, Try.ntmps43
  go_wp2_with fail
  go_loopw [9] (fun i wr => ∃ j : Nat, j ≤ n ∧ i = .int .i64 j ∧ wr = w) (fun i _ => n - (intOf i).toNat)
  case atStart => exact ⟨0, by omega, rfl, rfl⟩
  case round =>
    obtain ⟨j, hj, rfl, rfl⟩ := hrel
    by_cases hlt : j < n
    · obtain ⟨b, o, A1, k1, rfl, hbb, hce, hl1, hc1, sl1⟩ := hb.get hlt
      have h64 : (ls.getD j []).length = 64 := by
        rw [List.getD_eq_getElem?_getD, List.getElem?_eq_getElem (by rw [HLN.out]; exact hlt)]
        exact HC.out _ (List.getElem_mem _)
      rw [h64] at hce
      clear h64 hl1 sl1
      go_wp2_with fail
      go_roundw
      case rel => exact ⟨j + 1, by omega, by go_num, trivial⟩
      case measure => simp [intOf]; omega
    · have h := HH.out
      have hsame : RDrvE (Ext F wr wr) wr g pg d := ⟨_, _, _, _, h.ext_⟩
      cases hlo : d.lost with
      | true =>
        rw [hlo] at c6
        have hs : S = (d, 5) := by rw [← HS.out]; unfold Dr.rewrite; rw [hlo]; rfl
        subst hs
        clear hlo
        go_wp2_with fail
        go_ret
        exact ⟨rfl, hsame, Only.refl _ _⟩
      | false =>
        rw [hlo] at c6
        have HLO := hid hlo
        clear hlo
        by_cases hfull : d.room < n
        · have hs : S = (d, 7) := by rw [← HS.out]; unfold Dr.rewrite; rw [HLO.out, if_neg (by simp), HLN.out, if_pos hfull]
          subst hs
          have hf2 : (d.room : Int) < (n : Int) := by omega
          go_wp2_with fail
          go_ret
          exact ⟨rfl, hsame, Only.refl _ _⟩
        · have hf2 : ¬ (d.room : Int) < (n : Int) := by omega
          have hf3 : (n : Int) ≤ (d.room : Int) := by omega
          have hl := HOK.out.left
          have ho1 := HOK.out.offs.1
          have ho2 := HOK.out.offs.2
          have HSAME := hid hsame
          clear hsame h
          go_wp2_with fail
          refine (rstep_any pg d.s wr HH.out.pow (fun _ => hl) ⟨ho1, by omega⟩).mono ?_
          rintro e w1 ⟨rfl, hp1, hg1⟩
          have hz1 : wr.heap.size ≤ w1.heap.size := hg1.size
          have H1 := hid (HH.out.power hp1 hg1)
          have hO1 : Only F wr w1 := Only.of_grown hg1 (fun k e => by injection e with e; rw [← e]; exact HH.out.fp)
          have O1 := hid hO1
          have HF1 := hid (show ∀ k, F k → k < w1.heap.size from fun k hk => Nat.lt_of_lt_of_le (HH.out.lt k hk) hz1)
          have HL1 := hid (HLL.out.only hO1 (fun k hk hf => HGF.out k hk hf))
          clear hp1 hg1 hO1
          cases hoff : d.s.off with
          | true =>
            have hgo : d.s.goes = false := by unfold Pw.goes; rw [hoff]; rfl
            have hst : d.s.step = d.s := by unfold Pw.step; rw [hoff]; rfl
            have hs : S = (d, 14) := by rw [← HS.out]; unfold Dr.rewrite; rw [HLO.out, if_neg (by simp), HLN.out, if_neg hfull, if_pos hoff]
            subst hs
            have h1 := H1.out
            rw [hst] at h1
            have HF := hid (show RDrvE (Ext F wr w1) w1 g pg d from ⟨_, _, _, _, h1.ext_.widen hz1 (Nat.le_refl _) HF1.out⟩)
            rw [hgo]
            clear h1 hst hgo
            go_wp2_with fail
            go_ret
            exact ⟨rfl, HF.out, O1.out⟩
          | false =>
            have HOFF := hid hoff
            clear hoff
            cases hgo : d.s.goes with
            | false =>
              have hs : S = ({ d with B := ls, has := true, s := d.s.step }, 14) := by rw [← HS.out]; unfold Dr.rewrite; rw [HLO.out, if_neg (by simp), HLN.out, if_neg hfull, HOFF.out, if_neg (by simp), hgo, if_neg (by simp)]
              subst hs
              clear hgo
              go_wp2_with fail
              refine (copies_any _ A vs ls n c w1 (HL1.out.own.read HLN.out) (Nat.le_refl _) hn (HCX.out)).mono ?_
              rintro e w2 ⟨A2, c2, vs2, rfl, ho2, hb2⟩
              have hz2 := hb2.size
              have h2 := H1.out.grow hb2
              have hl2 := RDrv.fresh (F := F) ho2
              have k4 : w2.cell? ⟨g, 4, none⟩ = some (.bool d.has) := h2.row.cell 4
              have k5 : w2.cell? ⟨g, 5, none⟩ = some (.slice Ab d.B.length cb) := h2.row.cell 5
              have f4 := h2.row.frozen 4
              have f5 := h2.row.frozen 5
              have hG := (h2.setHas true).setB (hl2.far h2.row (by decide) (by decide) 4 (.bool true)) (fun k h3 h4 => by
                have h5 := (own_lt H1.out.l.own.own k h3).2
                have h6 := (own_lt ho2.own k h4).1
                omega)
              have hz3 : w2.heap.size ≤ ((w2.setCell ⟨g, 4, none⟩ (.bool true)).setCell ⟨g, 5, none⟩ (.slice A2 n c2)).heap.size := by simp [World.setCell]
              have hO3 : Only F wr ((w2.setCell ⟨g, 4, none⟩ (.bool true)).setCell ⟨g, 5, none⟩ (.slice A2 n c2)) := ((O1.out.trans (Only.of_new (F := F) hb2) (fun _ _ hk => hk)).set HH.out.fg 4 _).set HH.out.fg 5 _
              have HG := hid (hG.widen hz1 hz3 (fun k hk => Nat.lt_of_lt_of_le (HF1.out k hk) (Nat.le_trans hz2 hz3)))
              have HO3 := hid hO3
              clear hG hO3 h2 hl2 ho2 hb2
              go_wp2_with fail
              go_ret
              exact ⟨rfl, ⟨_, _, _, _, HG.out⟩, HO3.out⟩
            | true =>
              have hs : S = ({ d with L := ls, wait := 0, s := d.s.step }.went, 0) := by rw [← HS.out]; unfold Dr.rewrite; rw [HLO.out, if_neg (by simp), HLN.out, if_neg hfull, HOFF.out, if_neg (by simp), hgo, if_pos rfl]
              subst hs
              clear hgo
              go_wp2_with fail
              refine (copies_any _ A vs ls n c w1 (HL1.out.own.read HLN.out) (Nat.le_refl _) hn (HCX.out)).mono ?_
              rintro e w2 ⟨A2, c2, vs2, rfl, ho2, hb2⟩
              have hz2 := hb2.size
              have h2 := H1.out.grow hb2
              have hl2 := RDrv.fresh (F := F) ho2
              have k2 : w2.cell? ⟨g, 2, none⟩ = some (.slice Al d.L.length cl) := h2.row.cell 2
              have k3 : w2.cell? ⟨g, 3, none⟩ = some (.int .i64 (d.wait : Int)) := h2.row.cell 3
              have k4 : w2.cell? ⟨g, 4, none⟩ = some (.bool d.has) := h2.row.cell 4
              have k5 : w2.cell? ⟨g, 5, none⟩ = some (.slice Ab d.B.length cb) := h2.row.cell 5
              have f2 := h2.row.frozen 2
              have f3 := h2.row.frozen 3
              have f4 := h2.row.frozen 4
              have f5 := h2.row.frozen 5
              have hG := ((((h2.setL hl2 (fun k h3 h4 => by
                have h5 := (own_lt H1.out.b.own.own k h4).2
                have h6 := (own_lt ho2.own k h3).1
                omega)).setWait 0).setHas false).noB)
              have hz3 : w2.heap.size ≤ ((((w2.setCell ⟨g, 2, none⟩ (.slice A2 n c2)).setCell ⟨g, 3, none⟩ (.int .i64 (0 : Nat))).setCell ⟨g, 4, none⟩ (.bool false)).setCell ⟨g, 5, none⟩ (.slice none 0 0)).heap.size := by simp [World.setCell]
              have hO3 : Only F wr ((((w2.setCell ⟨g, 2, none⟩ (.slice A2 n c2)).setCell ⟨g, 3, none⟩ (.int .i64 (0 : Nat))).setCell ⟨g, 4, none⟩ (.bool false)).setCell ⟨g, 5, none⟩ (.slice none 0 0)) := ((((O1.out.trans (Only.of_new (F := F) hb2) (fun _ _ hk => hk)).set HH.out.fg 2 _).set HH.out.fg 3 _).set HH.out.fg 4 _).set HH.out.fg 5 _
              have HG := hid (hG.widen hz1 hz3 (fun k hk => Nat.lt_of_lt_of_le (HF1.out k hk) (Nat.le_trans hz2 hz3)))
              have HO3 := hid hO3
              clear hG hO3 h2 hl2 ho2 hb2
              go_wp2_with fail
              go_ret
              exact ⟨rfl, ⟨_, _, _, _, HG.out⟩, HO3.out⟩
end Go.Proofs.Ytcklnkilldeamaa
