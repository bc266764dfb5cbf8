/- Append, its walk. -/
import Derived.Test.YtcklnkilldeamaaDrvApp
namespace Go.Proofs.Ytcklnkilldeamaa
open Go.RowKit Wells
theorem DrvE.drew_ {F : Nat → Prop} {w : World} {g pg : Nat} {d : Dr} (h : DrvE F w g pg d) : DrvE F w.drew g pg d := h.only (Only.refl (fun _ => False) w).drew (fun _ _ hf => hf)
theorem Drv.drew_ {F : Nat → Prop} {w : World} {g pg : Nat} {lv bv : Value} {lvs bvs : List Value} {d : Dr} (h : Drv F w g pg lv lvs bv bvs d) : Drv F w.drew g pg lv lvs bv bvs d := h.only (Only.refl (fun _ => False) w).drew (fun _ _ hf => hf)
theorem Drv.ext_set {F : Nat → Prop} {w w3 : World} {a : Addr} {v : Value} {g pg : Nat} {lv bv : Value} {lvs bvs : List Value} {d : Dr} (h : Drv (Ext F w.drew w3) (w3.setCell a v) g pg lv lvs bv bvs d) : Drv (Ext F w (w3.setCell a v)) (w3.setCell a v) g pg lv lvs bv bvs d :=
  h.more (fun k hk => by
    rcases hk with hk | ⟨h1, h2⟩
    · exact .inl hk
    · exact .inr ⟨h1, by simpa [World.setCell] using h2⟩) (fun k hk => by
    rcases hk with hk | ⟨_, h2⟩
    · exact h.lt k (.inl hk)
    · exact h2)
theorem DrvE.widen {F : Nat → Prop} {w w1 wc w5 : World} {g pg : Nat} {d : Dr} (h : DrvE (Ext F w1 wc) w5 g pg d) (hs : w1.heap.size = w.heap.size) (hc : wc.heap.size ≤ w5.heap.size) : DrvE (Ext F w w5) w5 g pg d := by
  obtain ⟨lv, lvs, bv, bvs, h⟩ := h
  refine ⟨lv, lvs, bv, bvs, h.more (fun k hk => ?_) (fun k hk => ?_)⟩
  · rcases hk with hk | ⟨h1, h2⟩
    · exact .inl hk
    · exact .inr ⟨by omega, by omega⟩
  · rcases hk with hk | ⟨_, h2⟩
    · exact h.lt k (.inl hk)
    · exact h2
set_option maxRecDepth 20000 in
set_option maxHeartbeats 4000000 in
theorem dappend_any (F : Nat → Prop) (g pg : Nat) (d : Dr) (m : Nat) (B : Nat) (A : Option Addr) (l : List Byte) (n c : Nat) (w : World) (h : DrvE F w g pg d) (hok : DOk m d) (hm : m ≤ 1000000) (hb : Sl w B 1 A n (l.map bv8)) (hB : B ≤ w.heap.size) (hn : n ≤ 1048576) :
    Calls Try.prog 11 #[.pointer (some ⟨g, 0, none⟩), .slice A n c] w fun e w' => e = .returned (.int .i64 (d.append l).2) ∧ DrvE (Ext F w w') w' g pg (d.append l).1 ∧ Only F w w' := by
  obtain ⟨lv, lvs, bv, bvs, h⟩ := h
  have hln : l.length = n := by have := hb.len; simpa using this
  have HLN := hid hln
  obtain ⟨S, hS⟩ : ∃ S, d.append l = S := ⟨_, rfl⟩
  rw [hS]
  have HS := hid hS
  clear hS
  have hsame : DrvE (Ext F w w) w g pg d := ⟨_, _, _, _, h.more (fun k hk => .inl hk) (fun k hk => by
    rcases hk with hk | hk
    · exact h.lt k hk
    · omega)⟩
  obtain ⟨Al, cl, rfl, hcl1, hcl2⟩ := h.l.own.form
  obtain ⟨nl, hnl⟩ : ∃ k, d.L.length = k := ⟨_, rfl⟩
  rw [hnl] at h hcl1
  have HNL := hid hnl
  have hlen := hok.len
  have hroom := hok.room
  have c6 := h.row.cell 6
  have c0 := h.row.cell 0
  have c1 := h.row.cell 1
  have c2 := h.row.cell 2
  have e6 : (drRow pg d (.slice Al nl cl) bv)[6]? = some (.bool d.lost) := rfl
  have e0 : (drRow pg d (.slice Al nl cl) bv)[0]? = some (.pointer (some ⟨pg, 0, none⟩)) := rfl
  have e1 : (drRow pg d (.slice Al nl cl) bv)[1]? = some (.int .i64 (d.room : Int)) := rfl
  have e2 : (drRow pg d (.slice Al nl cl) bv)[2]? = some (.slice Al nl cl) := rfl
  rw [e6] at c6
  rw [e0] at c0
  rw [e1] at c1
  rw [e2] at c2
  clear e6 e0 e1 e2
  rw [hnl] at hlen
  clear hnl
  by_cases h64 : n = 64
  rotate_left
  · have hs : S = (d, 1) := by rw [← HS.out]; unfold Dr.append; rw [if_pos (by rw [HLN.out]; exact h64)]
    subst hs
    have hb64 : ((n : Int) != 64) = true := by simp; omega
    clear hln
    go_enter Try.func11, Try.ntmps11
    go_wp2_with fail
    go_ret
    exact ⟨rfl, hsame, Only.refl _ _⟩
  subst h64
  cases hlo : d.lost with
  | true =>
    rw [hlo] at c6
    have hs : S = (d, 5) := by rw [← HS.out]; unfold Dr.append; rw [if_neg (by rw [HLN.out]; simp), hlo]; rfl
    subst hs
    clear hln hlo
    go_enter Try.func11, Try.ntmps11
    go_wp2_with fail
    go_ret
    exact ⟨rfl, hsame, Only.refl _ _⟩
  | false =>
    rw [hlo] at c6
    have HLO := hid hlo
    clear hlo hln
    by_cases hfull : d.room ≤ nl
    · have hs : S = (d, 7) := by rw [← HS.out]; unfold Dr.append; rw [if_neg (by rw [HLN.out]; simp), HLO.out, HNL.out, if_neg (by simp), if_pos hfull]
      subst hs
      have hge : (d.room : Int) ≤ (nl : Int) := by omega
      have HH := hid h
      clear h
      go_enter Try.func11, Try.ntmps11
      go_wp2_with fail
      go_region_held3 (fun w' => w'.cell? ⟨g, 2, none⟩ = some (.slice Al nl cl) ∧ w'.cell? ⟨g, 1, none⟩ = some (.int .i64 (d.room : Int))) (first | exact ⟨c2, c1⟩ | assumption) (fail)
      go_wp2_with fail
      go_ret
      exact ⟨rfl, hsame.drew_, (Only.refl _ _).drew⟩
    · have hlt : (nl : Int) < (d.room : Int) := by omega
      have hlt2 : nl < d.room := by omega
      obtain ⟨i1, hi', hz0', hz1', hz2'⟩ := info_parts infoBs
      have hgl := h.row.lt
      go_enter Try.func11, Try.ntmps11
      go_wp2_with fail
      go_region_held3 (fun w' => w'.cell? ⟨g, 2, none⟩ = some (.slice Al nl cl) ∧ w'.cell? ⟨g, 1, none⟩ = some (.int .i64 (d.room : Int))) (first | exact ⟨c2, c1⟩ | assumption) (fail)
      go_wp2_with fail
      refine (pon_any pg d.s w.drew h.pow.drew).mono ?_
      rintro e w1 ⟨rfl, hw1⟩
      rw [← hw1]
      clear hw1 w1
      cases hoff : d.s.off with
      | true =>
        have hs : S = (d, 14) := by rw [← HS.out]; unfold Dr.append; rw [if_neg (by rw [HLN.out]; simp), HLO.out, HNL.out, if_neg (by simp), if_neg hfull, if_pos hoff]
        subst hs
        clear hoff
        go_wp2_with fail
        go_ret
        exact ⟨rfl, hsame.drew_, (Only.refl _ _).drew⟩
      | false =>
        have HOFF := hid hoff
        clear hoff
        have hD := h.drew_
        have sD := hb.drew
        have eo : Only F w w.drew := (Only.refl _ _).drew
        have es : w.drew.heap.size = w.heap.size := rfl
        have d2 : w.drew.cell? ⟨g, 2, none⟩ = some (.slice Al nl cl) := c2
        have d0 : w.drew.cell? ⟨g, 0, none⟩ = some (.pointer (some ⟨pg, 0, none⟩)) := c0
        clear c0 c1 c2 c6
        have ESZ := hid es
        clear es
        generalize w.drew = w1 at *
        have hg1 := hD.row.lt
        have hB1 : B ≤ w1.heap.size := by rw [ESZ.out]; exact hB
        go_upto_region 9 with fail
        go_cut [] (fun wx => ∃ (lv' : Value) (lvs' : List Value), Drv (Ext F w1 wx) wx g pg lv' lvs' bv bvs { d with L := d.L ++ [l] } ∧ Only F w1 wx)
        case first =>
          have hD1 := hD.drew_
          go_region_law (first
            | (refine step_append_lies _ rfl (.tmp 40) (.tmp 43) 27 rfl 0 28 i1 (.slice none 0 0) 1 24 Try.underlying27 hi' hz0' hz1' hz2' rfl (by omega) (.slice Al nl cl) nl lvs rfl (hl2.alloc _) ⟨w2.heap.size, 0, none⟩ 1 1 [.slice A2 64 c2] rfl rfl (World.news_of_block (heap_alloc_new w2 _)) (by simp [Value.oneCell']) (by omega) (by unfold maxLen; omega) (by omega) (Nat.zero_le _) _ rfl ?_; intro g3 c3 w3 o3 gr3 hwh hlt3; obtain ⟨hDA, hOA, hRA⟩ := hD1.appended hb2 hx2 _ (by rw [HNL.out]; exact o3) gr3 (fun k hk => by have hk : some g3 = some k := hk; injection hk with hk; subst hk; exact ⟨hwh, hlt3⟩); have fA := hRA.frozen 2; have cA := hRA.cell 2; have eA : (drRow pg d (.slice Al nl cl) bv)[2]? = some (.slice Al nl cl) := rfl; rw [eA] at cA; clear eA)
            | (go_simp; go_at_call 34; refine (clone_any B A l 64 c _ sD.drew hB1 (by omega)).mono ?_; rintro e w2 ⟨v2, rfl, hx2, hb2⟩; obtain ⟨A2, c2, ev2, hc21, hc22, _⟩ := hx2.read; rw [HLN.out] at ev2; subst ev2; have hl2 := hD1.l.own.own.kept (grown_of_below hb2 none) (by cases (Value.slice Al nl cl).ownBlock <;> simp); rw [HNL.out] at hl2; have d2' := (hb2.cell (p := ⟨g, 2, none⟩) hg1).trans d2; have d2'' := ((((Below.refl w2.heap.size w2).alloc (Nat.le_refl _) (.cells #[.slice A2 64 c2] 28)).cell (p := ⟨g, 2, none⟩) (Nat.lt_of_lt_of_le hg1 hb2.size)).trans d2')))
          all_goals (go_wp2_with fail; go_meet; exact ⟨_, _, hDA.ext_set, ((Only.refl F w1).drew.trans hOA (fun _ _ hk => hk)).set hD.fg 2 _⟩)
        case rest =>
        obtain ⟨lv', lvs', hD', hO'⟩ := hcut
        have c3 := hD'.row.cell 3
        have c0 := hD'.row.cell 0
        have f3 := hD'.row.frozen 3
        have e3 : (drRow pg { d with L := d.L ++ [l] } lv' bv)[3]? = some (.int .i64 (d.wait : Int)) := rfl
        have e0 : (drRow pg { d with L := d.L ++ [l] } lv' bv)[0]? = some (.pointer (some ⟨pg, 0, none⟩)) := rfl
        rw [e3] at c3
        rw [e0] at c0
        clear e3 e0 d0 d2
        have hwt := hok.wait
        rw [HNL.out] at hwt
        have hD2 := hD'.setWait (d.wait + 1)
        have hcast : ((d.wait + 1 : Nat) : Int) = (d.wait : Int) + 1 := by omega
        rw [hcast] at hD2
        clear hcast
        have hO2 : Only F w1 (wc.setCell ⟨g, 3, none⟩ (.int .i64 ((d.wait : Int) + 1))) := hO'.set hD.fg 3 _
        have hz2 : wc.heap.size ≤ (wc.setCell ⟨g, 3, none⟩ (.int .i64 ((d.wait : Int) + 1))).heap.size := by simp [World.setCell]
        have hl := hok.left
        have ho1 := hok.offs.1
        have ho2 := hok.offs.2
        have HSZ := hid ESZ.out
        clear h hsame
        go_wp2_with fail
        generalize wc.setCell ⟨g, 3, none⟩ (.int .i64 ((d.wait : Int) + 1)) = w4 at *
        refine (pstep_any pg d.s w4 hD2.pow hl ⟨ho1, by omega⟩).mono ?_
        rintro e w5 ⟨rfl, hp5, hg5⟩
        have h5 := hD2.power hp5 hg5
        have o5 : Only F w1 w5 := hO2.trans (Only.of_grown (F := F) hg5 (fun k e => by injection e with e; rw [← e]; exact hD.fp)) (fun _ _ hk => hk)
        have hz5 := hg5.size
        have o6 : Only F w w5 := eo.trans o5 (fun _ _ hk => hk)
        cases hgo : d.s.goes with
        | false =>
          have hs : S = ({ d with L := d.L ++ [l], wait := d.wait + 1, s := d.s.step }, 14) := by rw [← HS.out]; unfold Dr.append; rw [if_neg (by rw [HLN.out]; simp), HLO.out, HNL.out, if_neg (by simp), if_neg hfull, HOFF.out, if_neg (by simp), hgo, if_neg (by simp)]
          subst hs
          clear hgo
          go_wp2_with fail
          go_ret
          exact ⟨rfl, DrvE.widen ⟨_, _, _, _, h5⟩ HSZ.out (by omega), o6⟩
        | true =>
          have hs : S = ({ d with L := d.L ++ [l], wait := d.wait + 1, s := d.s.step }.went, 0) := by rw [← HS.out]; unfold Dr.append; rw [if_neg (by rw [HLN.out]; simp), HLO.out, HNL.out, if_neg (by simp), if_neg hfull, HOFF.out, if_neg (by simp), hgo, if_pos rfl]
          subst hs
          clear hgo
          go_wp2_with fail
          refine (dwent_any (Ext F w1 wc) g pg _ _ ⟨_, _, _, _, h5⟩).mono ?_
          rintro e w6 ⟨rfl, h6, o7⟩
          have hz6 := o7.size
          go_wp2_with fail
          go_ret
          exact ⟨rfl, h6.widen HSZ.out (by omega), o6.trans o7 (fun k hk hx => by
            rcases hx with hx | hx
            · exact hx
            · have := HSZ.out; omega)⟩
end Go.Proofs.Ytcklnkilldeamaa
