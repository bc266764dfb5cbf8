/- Rows of numbers: each some columns, their sum by values. -/
import Derived.Test.YtmefbbpcfphciaaDoorVals
import Derived.Test.YtmefbbpcfphciaaDoorPeelA
import Derived.Test.YtmefbbpcfphciaaDoorPeelMade
import Derived.Test.YtmefbbpcfphciaaDoorOrdG
import Derived.Test.YtmefbbpcfphciaaDoorPeel
import Derived.Deep.DeepCutAuto
import Derived.BigGuardPart
namespace Wells
open Go Go.RowKit
theorem colsOk_nil (n : Int) : ColsOk n [] := fun j hj => absurd hj (by simp)
theorem colsOk_app {c : Nat} {cols : List Int} (h : ColsOk (c : Int) cols) : ColsOk ((c + 1 : Nat) : Int) (cols ++ [(c : Int)]) := by
  intro j hj
  simp only [List.length_append, List.length_singleton] at hj
  by_cases hlt : j < cols.length
  · have h1 := h j hlt
    have e1 : (cols ++ [(c : Int)]).getD j 0 = cols.getD j 0 := by
      rw [List.getD_eq_getElem?_getD, List.getD_eq_getElem?_getD, List.getElem?_append_left hlt]
    have e2 : (cols ++ [(c : Int)]).getD (j - 1) 0 = cols.getD (j - 1) 0 := by
      rw [List.getD_eq_getElem?_getD, List.getD_eq_getElem?_getD, List.getElem?_append_left (by omega)]
    rw [e1, e2]
    exact ⟨h1.1, by omega, h1.2.2⟩
  · obtain rfl : j = cols.length := by omega
    have e1 : (cols ++ [(c : Int)]).getD cols.length 0 = (c : Int) := by
      rw [List.getD_eq_getElem?_getD, List.getElem?_append_right (Nat.le_refl _)]; simp
    rw [e1]
    refine ⟨by omega, by omega, fun h0 => ?_⟩
    have h1 := (h (cols.length - 1) (by omega)).2.1
    rw [List.getD_eq_getElem?_getD, List.getElem?_append_left (by omega), ← List.getD_eq_getElem?_getD]
    exact h1
theorem colsOk_mono {a b : Int} {cols : List Int} (h : ColsOk a cols) (hb : a ≤ b) : ColsOk b cols := fun j hj => by
  have := h j hj
  exact ⟨this.1, by omega, this.2.2⟩
def vAt (vals : List (List Byte)) (c : Int) : List Byte := vals.getD c.toNat []
/-- rows that values make, each in order -/
def MadeRows (n D : Nat) (vals : List (List Byte)) (rows : List Eqn) : Prop := ∀ q ∈ rows, ColsOk (n : Int) q.cols ∧ q.data = sumV (vAt vals) q.cols (zeroL D)
end Wells
namespace Go.Proofs.YtmefbbpcfphciaaDoor
open Go.RowKit Wells
/-- a row that is made -/
structure LQ (w0 w : World) (g5 : Nat) (sc sd : Value) (oc : List Int) (od : List Byte) : Prop where
  r5 : Row w g5 27 [sc, sd]
  oc : OI w0.heap.size w sc oc
  od : OB w0.heap.size w sd od
  be : Below w0.heap.size w0 w
  ge5 : w0.heap.size ≤ g5
section
variable {w0 w w' : World} {g5 : Nat} {sc sd : Value} {oc : List Int} {od : List Byte}
theorem LQ.below (h : LQ w0 w g5 sc sd oc od) (hb : Below w.heap.size w w') : LQ w0 w' g5 sc sd oc od :=
  ⟨h.r5.below hb h.r5.lt, h.oc.below hb, h.od.below hb, h.be.trans (hb.mono h.be.size), h.ge5⟩
theorem LQ.app (h : LQ w0 w g5 sc sd oc od) {c : Int} {A : Option Addr} {m : Nat} (ho : w'.ownsRow w0.heap.size 3 1 (.slice A (oc.length + 1) m) (oc.length + 1) (oc.map iv ++ [iv c])) (hg : w.grownBy w' sc.ownBlock) :
    LQ w0 (w'.setCell ⟨g5, 0, none⟩ (.slice A (oc.length + 1) m)) g5 (.slice A (oc.length + 1) m) sd (oc ++ [c]) od ∧ w'.cell? ⟨g5, 0, none⟩ = some sc ∧ w'.frozen? ⟨g5, 0, none⟩ = false := by
  have n5 : some g5 ≠ sc.ownBlock := fun e => by
    rcases own_ne h.oc h.r5 (by decide) with e1 | e1
    · rw [e1] at e; cases e
    · exact e1 e.symm
  have h5 := h.r5.grown hg n5
  have hd : OB w0.heap.size w' sd od := h.od.keep hg (own_other h.od h.oc (by decide))
  have hb := h.be.grown hg h.be.size (fun k hk => (h.oc.lt k hk).1)
  refine ⟨⟨h5.set 0 _, ?_, hd.farC h5 (by decide) 0 _, hb.setCell (p := (⟨g5, 0, none⟩ : Addr)) h.ge5 _, h.ge5⟩, ?_, h5.frozen 0⟩
  · unfold OI
    rw [List.length_append, List.map_append]
    exact World.ownsRow.farC ho h5 (by decide) 0 _
  · have := h5.cell 0
    simpa using this
theorem LQ.put {g n m : Nat} (h : LQ w0 w g5 sc (.slice (some ⟨g, 0, none⟩) n m) oc od) {j : Nat} {b : Byte} (hn : n = od.length) (hs : (w.setCell ⟨g, j, none⟩ (bv8 b)).ownsRow w0.heap.size 5 1 (.slice (some ⟨g, 0, none⟩) n m) n ((od.set j b).map bv8)) (hg : w0.heap.size ≤ g) :
    LQ w0 (w.setCell ⟨g, j, none⟩ (bv8 b)) g5 sc (.slice (some ⟨g, 0, none⟩) n m) oc (od.set j b) := by
  have ho : ∀ {t : TypeId} {q : Nat} {cs : List Value}, 5 ≠ t → Row w q t cs → q ≠ g := fun ht hr => by
    rcases own_ne h.od hr ht with e | e
    · cases e
    · exact fun e2 => e (by rw [e2]; rfl)
  refine ⟨h.r5.far (p := ⟨g, j, none⟩) (ho (by decide) h.r5) _, h.oc.kept (grown_setC w g j _) ?_, ?_, h.be.setCell (p := (⟨g, j, none⟩ : Addr)) hg _, h.ge5⟩
  · rcases own_other h.oc h.od (by decide) with e | e
    · exact .inl e
    · exact .inr e
  · unfold OB
    rw [List.length_set, ← hn]
    exact hs
theorem LQ.drew_ (h : LQ w0 w g5 sc sd oc od) : LQ w0 w.drew g5 sc sd oc od := h.below (below_drew' (Below.refl _ _))
end
def RowsR (w : World) (n D most : Nat) (vals : List (List Byte)) (e : Ending) (w' : World) : Prop :=
  ∃ A' m c' ps rows, e = .returned (.slice A' m c') ∧ rows.length = m ∧ m ≤ most ∧ OEqs w.heap.size w' (.slice A' m c') ps rows ∧ Below w.heap.size w w' ∧ MadeRows n D vals rows
set_option maxRecDepth 20000 in
set_option maxHeartbeats 2000000 in
theorem rows_any (l : List Int) (n most D : Nat) (vals : List (List Byte)) (vv : List Value) (B : Nat) (A Av : Option Addr) (nl cl cv : Nat) (w : World) (h : Sl w B 1 A nl (l.map iv)) (hv : RBs w B Av n vv vals) (hB : B ≤ w.heap.size)
    (hD : ∀ i, i < n → (vals.getD i []).length = D) (hn1 : 1 ≤ n) (hn : n ≤ 64) (hmost : most ≤ 1000) (hDb : D ≤ 1000) (hl : ∀ z ∈ l, -9223372036854775808 ≤ z ∧ z ≤ 9223372036854775807) (hnl : nl ≤ 9223372036854775807) :
    Calls Tryd.prog 9 #[.slice A nl cl, .int .i64 (n : Int), .slice Av n cv, .int .i64 (most : Int)] w (RowsR w n D most vals) := by
  obtain ⟨i0, hi, hz0, hz1, hz2⟩ := info_parts infoB
  obtain ⟨i1, hi', hz0', hz1', hz2'⟩ := info_parts infoInt
  obtain ⟨ie, hie, hz0ie, hz1ie, hz2ie⟩ := info_parts infoEq
  have HL := hid (show l.length = nl by have := h.len; simpa using this)
  have H := hid h
  have HV := hid hv
  have HD := hid hD
  have HLB := hid hl
  clear h hv hD hl
  go_enter Tryd.func9, Tryd.ntmps9
  go_wp2_with fail
  go_loopw [9, 10] (fun v i wr => ∃ (k : Nat) (A1 : Option Addr) (c1 : Nat) (ps : List (Value × Value)) (rows : List Eqn), k ≤ nl ∧ k ≤ most ∧ i = .int .i64 (k : Int) ∧ v = .slice A1 k c1 ∧ rows.length = k ∧ OEqs w.heap.size wr (.slice A1 k c1) ps rows ∧ Below w.heap.size w wr ∧ Hid (MadeRows n D vals rows)) (fun _ i _ => most - (intOf i).toNat)
  case atStart => exact ⟨0, none, 0, [], [], Nat.zero_le _, Nat.zero_le _, rfl, rfl, rfl, OEqs.nil_ _ _, Below.refl _ _, hid (fun q hq => absurd hq (by simp))⟩
  case round =>
    obtain ⟨k, A1, c1, ps, rows, hk, hkm, rfl, rfl, hrl, hoe, hbr, HM⟩ := hrel
    have HOE := hid hoe
    have HBR := hid hbr
    have HRL := hid hrl
    have hzr := hbr.size
    have hn0 : (0 : Int) < (n : Int) := by omega
    obtain ⟨wo, hwo⟩ : ∃ wo, wr = wo := ⟨_, rfl⟩
    rw [hwo] at HOE HBR hzr ⊢
    clear hwo hoe hbr hrl
    by_cases hlt : k < nl
    · by_cases hltm : k < most
      · have hltm' : (k : Int) < (most : Int) := by omega
        have hltl' : (k : Int) < (nl : Int) := by omega
        have hrv := HV.out.below (HBR.out.mono hB)
        obtain ⟨bv, ov, Ax, cx, ev, hbv, kv0, hx1, hx2, hx3⟩ := hrv.get (k := 0) (by omega)
        subst ev
        rw [HD.out 0 (by omega)] at kv0 hx1 hx3
        rw [Nat.add_zero] at kv0
        have hD0 : (D : Int) ≤ 1000 := by omega
        clear hrv hx3 hx1
        have hn0' : 0 < n := by omega
        go_wp2_with ((at_make; refine wpl_make _ rfl (.tmp 32) (.tmp 32) 24 rfl 5 i0 (.int .u8 0) 1 Tryd.underlying24 hi hz0 hz1 hz2 rfl .i64 .i64 _ _ D D rfl rfl rfl (by omega) (by omega) (by omega) (by omega) ?_; intro w1 r1 b1 s1))
        have hlq : LQ wo (w1.alloc (.cells #[.slice none 0 0, .slice (some ⟨wo.heap.size, 0, none⟩) D D] 27)) w1.heap.size (.slice none 0 0) (.slice (some ⟨wo.heap.size, 0, none⟩) D D) [] (zeroL D) := by
          have hob : OB wo.heap.size w1 (.slice (some ⟨wo.heap.size, 0, none⟩) D D) (zeroL D) := by
            have h9 := Row.own (base := wo.heap.size) (size := 1) (n := D) (cap := D) r1 (Nat.le_refl _) (Nat.le_refl _) (by unfold maxLen; omega) (by simp)
            rw [List.take_of_length_le (by simp)] at h9
            unfold OB zeroL
            rw [List.length_replicate, List.map_replicate]
            exact h9
          have hbx : Below w1.heap.size w1 (w1.alloc (.cells #[.slice none 0 0, .slice (some ⟨wo.heap.size, 0, none⟩) D D] 27)) := (Below.refl _ _).alloc (Nat.le_refl _) _
          exact ⟨Row.new w1 27 #[_, _], World.ownsRow_nil _ _ _ _, hob.below hbx, b1.trans (hbx.mono b1.size), b1.size⟩
        rw [s1] at hlq
        obtain ⟨gd, hgd⟩ : ∃ gd, wo.heap.size = gd := ⟨_, rfl⟩
        obtain ⟨g5, hg5⟩ : ∃ g5, gd + 1 = g5 := ⟨_, rfl⟩
        rw [hgd, hg5] at hlq
        simp only [hgd, hg5]
        have HLQ := hid hlq
        have HGD := hid hgd
        have HG5 := hid hg5
        generalize w1.alloc (.cells #[.slice none 0 0, .slice (some ⟨gd, 0, none⟩) D D] 27) = wl at *
        clear hlq r1 b1 s1 hg5 hgd kv0 hx2
        go_loopw [12] (fun i wr => ∃ (cc : Nat) (Ac : Option Addr) (kc mc : Nat) (cols : List Int) (dat : List Byte), cc ≤ n ∧ kc ≤ cc ∧ i = .int .i64 (cc : Int) ∧ Hid (cols.length = kc ∧ ColsOk (cc : Int) cols ∧ dat = sumV (vAt vals) cols (zeroL D)) ∧ LQ wo wr g5 (.slice Ac kc mc) (.slice (some ⟨gd, 0, none⟩) D D) cols dat) (fun i _ => n - (intOf i).toNat)
        case atStart => exact ⟨0, none, 0, 0, [], zeroL D, Nat.zero_le _, Nat.le_refl _, rfl, hid ⟨rfl, colsOk_nil _, rfl⟩, HLQ.out⟩
        case round =>
          obtain ⟨cc, Ac, kc, mc, cols, dat, hcc, hkc, rfl, HC, hlq⟩ := hrel
          have HQ := hid hlq
          have hbo := hlq.be
          have hzo := hbo.size
          by_cases hltc : cc < n
          · obtain ⟨bl, ol, el, hbl, hcl⟩ := ((H.out.below (HBR.out.mono hB)).below (hbo.mono (Nat.le_trans hB hzr))).get hlt (ints_get l k (by rw [HL.out]; exact hlt))
            subst el
            have hzm := HLB.out (l.getD k 0) (by rw [List.getD_eq_getElem?_getD, List.getElem?_eq_getElem (by rw [HL.out]; exact hlt)]; exact List.getElem_mem _)
            obtain ⟨z, hz⟩ : ∃ z, l.getD k 0 = z := ⟨_, rfl⟩
            rw [hz] at hcl hzm
            obtain ⟨hz1, hz2⟩ := hzm
            have q0 := hlq.r5.cell 0
            simp only [List.getElem?_cons_zero] at q0
            clear hz hlq
            go_upto_region 9 with fail
            go_cut [59] (fun s59 wx => ∃ t : Bool, s59 = .bool t ∧ wr = wx)
            case first =>
              go_wp2_with fail
              all_goals (go_meet; exact ⟨_, rfl, rfl⟩)
            case rest =>
            obtain ⟨t, rfl, rfl⟩ := hcut
            clear hcl
            cases t with
            | false =>
              go_wp2_with fail
              go_roundw
              case rel => exact ⟨cc + 1, Ac, kc, mc, cols, dat, by omega, by omega, by go_num, hid ⟨HC.out.1, colsOk_mono HC.out.2.1 (by omega), HC.out.2.2⟩, HQ.out⟩
              case measure => simp [intOf]; omega
            | true =>
              have hbx : Below wr.heap.size wr (wr.alloc (.cells #[.int .i64 (cc : Int)] 3)) := (Below.refl _ _).alloc (Nat.le_refl _) _
              have hq2 := HQ.out.below hbx
              have ho := hq2.oc
              unfold OI at ho
              rw [HC.out.1] at ho
              have HO := hid ho
              have HQ2 := hid hq2
              have hszx : (wr.alloc (.cells #[.int .i64 (cc : Int)] 3)).heap.size = wr.heap.size + 1 := by simp
              have q1 := HQ.out.r5.cell 1
              simp only [List.getElem?_cons_zero, List.getElem?_cons_succ] at q1
              have h5z := HQ.out.r5.lt
              clear hbx hq2 ho
              go_wp2_with (at_builtin; go_must (refine wpl_append rfl (.tmp 61) (.tmp 63) 23 rfl wo.heap.size 3 i1 (.int .i64 0) 1 8 Tryd.underlying23 hi' hz0' hz1' hz2' rfl (by omega) (.slice Ac kc mc) kc _ rfl HO.out _ _ 1 1 [.int .i64 (cc : Int)] rfl (Sl.fresh _ _ _ _ 1 rfl) (by simp [Value.oneCell']) (kc + 1) rfl _ rfl (by omega) (by omega) (by omega) ?_); intro A6 c6 w6 o6 g6 _; have h7 := HQ2.out.app (c := (cc : Int)) (A := A6) (m := c6) (by rw [HC.out.1]; exact o6) g6; rw [HC.out.1] at h7; obtain ⟨hl7, k7, f7⟩ := h7; have HL7 := hid hl7; have d7 := hl7.r5.cell 1; simp only [List.getElem?_cons_zero, List.getElem?_cons_succ] at d7; clear hl7 o6 g6)
              have HVL : Hid ((vAt vals (cc : Int)).length = D) := hid (by unfold vAt; rw [Int.toNat_natCast]; exact HD.out cc hltc)
              have HDL : Hid (dat.length = D) := hid (by
                rw [HC.out.2.2]
                exact sumV_len cols _ (fun c hc => by
                  obtain ⟨j, hj, rfl⟩ := List.getElem_of_mem hc
                  have := HC.out.2.1 j hj
                  rw [List.getD_eq_getElem?_getD, List.getElem?_eq_getElem hj] at this
                  simp only [Option.getD_some] at this
                  unfold vAt
                  exact HD.out _ (by omega)) (by simp [zeroL]))
              have HL8 : Hid (LQ wo (w6.setCell ⟨g5, 0, none⟩ (.slice A6 (kc + 1) c6)) g5 (.slice A6 (kc + 1) c6) (.slice (some ⟨gd, 0, none⟩) D D) (cols ++ [(cc : Int)]) (xorTo dat (vAt vals (cc : Int)) 0)) := hid (by rw [xorTo_zero]; exact HL7.out)
              clear k7 f7 q0 q1
              generalize w6.setCell ⟨g5, 0, none⟩ (.slice A6 (kc + 1) c6) = w7 at *
              go_loopw [69] (fun i w3 => ∃ j : Nat, j ≤ D ∧ i = .int .i64 (j : Int) ∧ LQ wo w3 g5 (.slice A6 (kc + 1) c6) (.slice (some ⟨gd, 0, none⟩) D D) (cols ++ [(cc : Int)]) (xorTo dat (vAt vals (cc : Int)) j)) (fun i _ => D - (intOf i).toNat)
              case atStart => exact ⟨0, Nat.zero_le _, rfl, HL8.out⟩
              case round =>
                obtain ⟨j, hj, rfl, hq3⟩ := hrel
                have hb3 := hq3.be
                by_cases hlj : j < D
                · have hbv3 : Below B w wr := (HBR.out.mono hB).trans (hb3.mono (Nat.le_trans hB hzr))
                  obtain ⟨bv, ov, Ax, cx, ev, hbv, k3, hx1, hx2, hx3⟩ := (HV.out.below hbv3).get hltc
                  injection ev with ev
                  injection ev with ev1 ev2
                  subst ev1 ev2
                  rw [HD.out cc hltc] at k3 hx1 hx3
                  obtain ⟨bx, ox, ex, hbx, k4⟩ := hx3.get hlj (u8s_get _ j (by rw [HD.out cc hltc]; exact hlj))
                  subst ex
                  have hlx : (xorTo dat (vAt vals (cc : Int)) j).length = D := by rw [xorTo_len (by rw [HDL.out, HVL.out]), HDL.out]
                  have hod := hq3.od
                  unfold OB at hod
                  rw [hlx] at hod
                  obtain ⟨gq, e5, hge, hgl3, k2, hfg, hset⟩ := own_put (i := j) hod hlj ((xorTo dat (vAt vals (cc : Int)) j).getD j 0 ^^^ (vAt vals (cc : Int)).getD j 0)
                  injection e5 with e5
                  injection e5 with e5 _ _
                  subst e5
                  have hput := hq3.put (j := j) (b := (xorTo dat (vAt vals (cc : Int)) j).getD j 0 ^^^ (vAt vals (cc : Int)).getD j 0) hlx.symm hset hge
                  rw [xorTo_get (by rw [HDL.out, HVL.out]) (by rw [HDL.out]; exact hlj)] at k2 hput
                  rw [xorTo_set (by rw [HDL.out, HVL.out]) (by rw [HDL.out]; exact hlj)] at hput
                  have k1 := hq3.r5.cell 1
                  simp only [List.getElem?_cons_succ, List.getElem?_cons_zero] at k1
                  have k4' : wr.cell? ⟨bx, ox + j, none⟩ = some (bv8 ((vAt vals (cc : Int)).getD j 0)) := k4
                  obtain ⟨x, hx⟩ : ∃ x, dat.getD j 0 = x := ⟨_, rfl⟩
                  obtain ⟨y, hy⟩ : ∃ y, (vAt vals (cc : Int)).getD j 0 = y := ⟨_, rfl⟩
                  rw [hx] at k2 hput
                  rw [hy] at k4' hput
                  have k4 : wr.cell? ⟨bx, ox + j, none⟩ = some (.int .u8 (y.toNat : Int)) := k4'
                  have HX8 := hid (x8' x y)
                  have HPUT := hid hput.drew_
                  have md := D
                  have hlj' : (j : Int) < (D : Int) := by omega
                  have hj0 : (0 : Int) ≤ (j : Int) := by omega
                  have hcn : (cc : Int) < (n : Int) := by omega
                  have hc0 : (0 : Int) ≤ (cc : Int) := by omega
                  clear hput hset hod hlx hx hy hq3 k4' hx3 d7
                  go_wp2_with fail
                  refine Org.begin [14] (fun w' => w'.cell? ⟨g5, 1, none⟩ = some (.slice (some ⟨gd, 0, none⟩) D D) ∧ w'.cell? ⟨gd, j, none⟩ = some (.int .u8 (x.toNat : Int)) ∧ w'.cell? ⟨bv, ov + cc, none⟩ = some (.slice (some ⟨bx, ox, none⟩) D cx) ∧ w'.cell? ⟨bx, ox + j, none⟩ = some (.int .u8 (y.toNat : Int))) [0, 1, 2, 3, 4, 5, 6, 7, 8, 9, 10, 11, 12, 13, 14] (by kernel_rfl) (⟨k1, k2, k3, k4⟩) (fun hS => ?_)
                  (refine Org.yes (v := ?_) rfl (by kernel_rfl) (by kernel_rfl) (by kernel_rfl) (by kernel_rfl) (by kernel_rfl) (fun _ _ _ h => h) (by kernel_rfl) (SM.of hS) ?_ ?_; rotate_left; (focus (intro w hSw; (try dsimp only at hSw); refine Pure.val ?_; go_simp; (try with_reducible rfl); done)); try simp only [Act.put, List.setIfInBounds_toArray, List.set_cons_zero, List.set_cons_succ])
                  (refine Org.yes (v := ?_) rfl (by kernel_rfl) (by kernel_rfl) (by kernel_rfl) (by kernel_rfl) (by kernel_rfl) (fun _ _ _ h => h) (by kernel_rfl) (SM.of hS) ?_ ?_; rotate_left; (focus (intro w hSw; (try dsimp only at hSw); have q0 := hSw.1; have q1 := hSw.2.1; have q2 := hSw.2.2.1; have q3 := hSw.2.2.2; refine Pure.val ?_; go_simp; (try with_reducible rfl); done)); try simp only [Act.put, List.setIfInBounds_toArray, List.set_cons_zero, List.set_cons_succ])
                  (refine Org.yes (v := ?_) rfl (by kernel_rfl) (by kernel_rfl) (by kernel_rfl) (by kernel_rfl) (by kernel_rfl) (fun _ _ _ h => h) (by kernel_rfl) (SM.of hS) ?_ ?_; rotate_left; (focus (intro w hSw; (try dsimp only at hSw); refine Pure.val ?_; go_simp; (try with_reducible rfl); done)); try simp only [Act.put, List.setIfInBounds_toArray, List.set_cons_zero, List.set_cons_succ])
                  (refine Org.yes (v := ?_) rfl (by kernel_rfl) (by kernel_rfl) (by kernel_rfl) (by kernel_rfl) (by kernel_rfl) (fun _ _ _ h => h) (by kernel_rfl) (SM.of hS) ?_ ?_; rotate_left; (focus (intro w hSw; (try dsimp only at hSw); refine Pure.val ?_; go_simp; (try with_reducible rfl); done)); try simp only [Act.put, List.setIfInBounds_toArray, List.set_cons_zero, List.set_cons_succ])
                  (refine Org.yes (v := ?_) rfl (by kernel_rfl) (by kernel_rfl) (by kernel_rfl) (by kernel_rfl) (by kernel_rfl) (fun _ _ _ h => h) (by kernel_rfl) (SM.of hS) ?_ ?_; rotate_left; (focus (intro w hSw; (try dsimp only at hSw); have q0 := hSw.1; have q1 := hSw.2.1; have q2 := hSw.2.2.1; have q3 := hSw.2.2.2; refine Pure.val ?_; go_simp; (try with_reducible rfl); done)); try simp only [Act.put, List.setIfInBounds_toArray, List.set_cons_zero, List.set_cons_succ])
                  (refine Org.yes (v := ?_) rfl (by kernel_rfl) (by kernel_rfl) (by kernel_rfl) (by kernel_rfl) (by kernel_rfl) (fun _ _ _ h => h) (by kernel_rfl) (SM.of hS) ?_ ?_; rotate_left; (focus (intro w hSw; (try dsimp only at hSw); refine Pure.val ?_; go_simp; (try with_reducible rfl); done)); try simp only [Act.put, List.setIfInBounds_toArray, List.set_cons_zero, List.set_cons_succ])
                  (refine Org.yes (v := ?_) rfl (by kernel_rfl) (by kernel_rfl) (by kernel_rfl) (by kernel_rfl) (by kernel_rfl) (fun _ _ _ h => h) (by kernel_rfl) (SM.of hS) ?_ ?_; rotate_left; (focus (intro w hSw; (try dsimp only at hSw); refine Pure.val ?_; go_simp; (try with_reducible rfl); done)); try simp only [Act.put, List.setIfInBounds_toArray, List.set_cons_zero, List.set_cons_succ])
                  (refine Org.yes (v := ?_) rfl (by kernel_rfl) (by kernel_rfl) (by kernel_rfl) (by kernel_rfl) (by kernel_rfl) (fun _ _ _ h => h) (by kernel_rfl) (SM.of hS) ?_ ?_; rotate_left; (focus (intro w hSw; (try dsimp only at hSw); refine Pure.val ?_; go_simp; (try with_reducible rfl); done)); try simp only [Act.put, List.setIfInBounds_toArray, List.set_cons_zero, List.set_cons_succ])
                  (refine Org.yes (v := ?_) rfl (by kernel_rfl) (by kernel_rfl) (by kernel_rfl) (by kernel_rfl) (by kernel_rfl) (fun _ _ _ h => h) (by kernel_rfl) (SM.of hS) ?_ ?_; rotate_left; (focus (intro w hSw; (try dsimp only at hSw); have q0 := hSw.1; have q1 := hSw.2.1; have q2 := hSw.2.2.1; have q3 := hSw.2.2.2; refine Pure.val ?_; go_simp; (try with_reducible rfl); done)); try simp only [Act.put, List.setIfInBounds_toArray, List.set_cons_zero, List.set_cons_succ])
                  (refine Org.yes (v := ?_) rfl (by kernel_rfl) (by kernel_rfl) (by kernel_rfl) (by kernel_rfl) (by kernel_rfl) (fun _ _ _ h => h) (by kernel_rfl) (SM.of hS) ?_ ?_; rotate_left; (focus (intro w hSw; (try dsimp only at hSw); refine Pure.val ?_; go_simp; (try with_reducible rfl); done)); try simp only [Act.put, List.setIfInBounds_toArray, List.set_cons_zero, List.set_cons_succ])
                  (refine Org.yes (v := ?_) rfl (by kernel_rfl) (by kernel_rfl) (by kernel_rfl) (by kernel_rfl) (by kernel_rfl) (fun _ _ _ h => h) (by kernel_rfl) (SM.of hS) ?_ ?_; rotate_left; (focus (intro w hSw; (try dsimp only at hSw); refine Pure.val ?_; go_simp; (try with_reducible rfl); done)); try simp only [Act.put, List.setIfInBounds_toArray, List.set_cons_zero, List.set_cons_succ])
                  (refine Org.yes (v := ?_) rfl (by kernel_rfl) (by kernel_rfl) (by kernel_rfl) (by kernel_rfl) (by kernel_rfl) (fun _ _ _ h => h) (by kernel_rfl) (SM.of hS) ?_ ?_; rotate_left; (focus (intro w hSw; (try dsimp only at hSw); have q0 := hSw.1; have q1 := hSw.2.1; have q2 := hSw.2.2.1; have q3 := hSw.2.2.2; refine Pure.val ?_; go_simp; (try with_reducible rfl); done)); try simp only [Act.put, List.setIfInBounds_toArray, List.set_cons_zero, List.set_cons_succ])
                  (refine Org.yes (v := ?_) rfl (by kernel_rfl) (by kernel_rfl) (by kernel_rfl) (by kernel_rfl) (by kernel_rfl) (fun _ _ _ h => h) (by kernel_rfl) (SM.of hS) ?_ ?_; rotate_left; (focus (intro w hSw; (try dsimp only at hSw); refine Pure.val ?_; go_simp; (try with_reducible rfl); done)); try simp only [Act.put, List.setIfInBounds_toArray, List.set_cons_zero, List.set_cons_succ])
                  (refine Org.yes (v := ?_) rfl (by kernel_rfl) (by kernel_rfl) (by kernel_rfl) (by kernel_rfl) (by kernel_rfl) (fun _ _ _ h => h) (by kernel_rfl) (SM.of hS) ?_ ?_; rotate_left; (focus (intro w hSw; (try dsimp only at hSw); refine Pure.val ?_; go_simp; (try with_reducible rfl); done)); try simp only [Act.put, List.setIfInBounds_toArray, List.set_cons_zero, List.set_cons_succ])
                  refine Org.mark (p := 14) rfl (by kernel_rfl) (by kernel_rfl) (by kernel_rfl) (by kernel_rfl) (fun K hK => ?_)
                  go_simp
                  refine hK.out _ _ ?_
                  clear hK K hS
                  try simp only [Act.put, List.setIfInBounds_toArray, List.set_cons_zero, List.set_cons_succ]
                  refine Org.done (by kernel_rfl) ?_
                  go_wp2_with fail
                  go_roundw
                  case rel => exact ⟨j + 1, by omega, by go_num, by rw [HX8.out]; exact HPUT.out⟩
                  case measure => simp [intOf]; omega
                · obtain rfl : j = D := by omega
                  have HQ3 := hid hq3
                  clear hq3
                  go_wp2_with fail
                  go_roundw
                  case rel => exact ⟨cc + 1, A6, kc + 1, c6, cols ++ [(cc : Int)], xorL dat (vAt vals (cc : Int)), by omega, by omega, by go_num, hid ⟨by rw [List.length_append, HC.out.1]; rfl, colsOk_app HC.out.2.1, by rw [sumV_append, ← HC.out.2.2]; rfl⟩, by have h9 := HQ3.out; rw [show j = (vAt vals (cc : Int)).length from HVL.out.symm, xorTo_all (by rw [HDL.out, HVL.out])] at h9; rw [HVL.out] at h9; exact h9⟩
                  case measure => simp [intOf]; omega
          · obtain rfl : n = cc := by omega
            have HQF := hid hlq
            have q0 := hlq.r5.cell 0
            have q1 := hlq.r5.cell 1
            simp only [List.getElem?_cons_zero, List.getElem?_cons_succ] at q0 q1
            have hlc := HC.out.1
            have hbx : Below wr.heap.size wr (wr.alloc (.cells #[.slice Ac kc mc, .slice (some ⟨gd, 0, none⟩) D D] 27)) := (Below.refl _ _).alloc (Nat.le_refl _) _
            have HOEX := hid ((HOE.out.below hbo hzr).below hbx (by omega))
            have HQX := hid (hlq.below hbx)
            have how := HOEX.out.own
            rw [HRL.out] at how
            have HOW := hid how
            have hbrx := HBR.out.trans ((hbo.mono hzr).trans (hbx.mono (by omega)))
            have HBRX := hid hbrx
            have hszx : (wr.alloc (.cells #[.slice Ac kc mc, .slice (some ⟨gd, 0, none⟩) D D] 27)).heap.size = wr.heap.size + 1 := by simp
            have HLC := hid hlc
            clear hlq hbx how hbrx hlc
            go_wp2_with (at_builtin; go_must (refine wpl_append rfl (.tmp 87) (.tmp 89) 22 rfl w.heap.size 27 ie (.agg #[.slice none 0 0, .slice none 0 0]) 2 48 Tryd.underlying22 hie hz0ie hz1ie hz2ie rfl (by omega) (.slice A1 k c1) k (eqC ps) rfl HOW.out _ _ 1 1 [.slice Ac kc mc, .slice (some ⟨gd, 0, none⟩) D D] rfl (fresh2 _ _ _ _ _ (by simp)) (by simp [Value.oneCell']) (k + 1) rfl _ rfl (by omega) (by omega) (by omega) ?_); intro A6 c6 w6 o6 g6 _)
            have hoe6 : OEqs w.heap.size w6 (.slice A6 (k + 1) c6) (ps ++ [(.slice Ac kc mc, .slice (some ⟨gd, 0, none⟩) D D)]) (rows ++ [⟨cols, dat⟩]) := by
              refine HOEX.out.app (ps2 := [(.slice Ac kc mc, .slice (some ⟨gd, 0, none⟩) D D)]) (rows2 := [⟨cols, dat⟩]) rfl (fun i hi => ?_) ?_ g6 (by omega)
              · obtain rfl : i = 0 := by simpa using hi
                exact ⟨.inr (own_base HQX.out.oc hzr), .inr (own_base HQX.out.od hzr)⟩
              · rw [HRL.out]; exact o6
            have hb6 := below_own HBRX.out HOW.out g6 (Nat.le_refl _) (by omega)
            have HOE6 := hid hoe6
            have HB6 := hid hb6
            clear hoe6 hb6 o6 g6
            go_roundw
            case rel => exact ⟨k + 1, A6, c6, _, rows ++ [⟨cols, dat⟩], by omega, by omega, by go_num, rfl, by rw [List.length_append, HRL.out]; rfl, HOE6.out, HB6.out, hid (fun q hq => by
              rcases List.mem_append.1 hq with h9 | h9
              · exact HM.out q h9
              · obtain rfl := List.mem_singleton.1 h9
                exact ⟨HC.out.2.1, HC.out.2.2⟩)⟩
            case measure => simp [intOf]; omega
      · have hltm' : ¬ (k : Int) < (most : Int) := by omega
        have hltl' : (k : Int) < (nl : Int) := by omega
        go_wp2_with fail
        go_ret
        exact ⟨A1, k, c1, ps, rows, rfl, HRL.out, hkm, HOE.out, HBR.out, HM.out⟩
    · have hltl' : ¬ (k : Int) < (nl : Int) := by omega
      go_wp2_with fail
      go_ret
      exact ⟨A1, k, c1, ps, rows, rfl, HRL.out, hkm, HOE.out, HBR.out, HM.out⟩
end Go.Proofs.YtmefbbpcfphciaaDoor
