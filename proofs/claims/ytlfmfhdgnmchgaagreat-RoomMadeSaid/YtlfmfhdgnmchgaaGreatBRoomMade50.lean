/- RoomLaw -/
import Derived.Test.YtlfmfhdgnmchgaaGreatBRoomMade32
import Derived.Test.YtlfmfhdgnmchgaaGreatBRoomMade38
import Derived.Test.YtlfmfhdgnmchgaaGreatBRoomMade40
import Derived.Test.YtlfmfhdgnmchgaaGreatBRoomMade49
set_option maxRecDepth 20000
set_option linter.unusedSimpArgs false
set_option linter.unusedVariables false
set_option linter.unusedSectionVars false
namespace Wells
open Go Go.RowKit
section
variable {α : Type} {lt : α → α → Bool}
theorem ins_last (x : α) : ∀ l : List α, (∀ y ∈ l, lt x y = false) → ins lt x l = l ++ [x]
  | [], _ => rfl
  | y :: ys, h => by
    unfold ins
    rw [h y (by simp)]
    simp only [Bool.false_eq_true, ↓reduceIte, List.cons_append]
    rw [ins_last x ys (fun z hz => h z (List.mem_cons_of_mem _ hz))]
theorem ssort_same (l : List α) (h : l.Pairwise (fun a b => lt b a = false)) : ssort lt l = l := by
  induction l using rev_ind with
  | h0 => rfl
  | h1 l x ih =>
    obtain ⟨h1, _, h3⟩ := List.pairwise_append.1 h
    rw [ssort_snoc, ih h1, ins_last x l (fun y hy => h3 y hy x (by simp))]
theorem cptGo_same : ∀ (l : List α) (p : α), (p :: l).Pairwise (fun a b => lt a b = true) → cptGo lt p l = l
  | [], _, _ => rfl
  | y :: r, p, h => by
    obtain ⟨h1, h2⟩ := List.pairwise_cons.1 h
    unfold cptGo
    rw [(eqv_no (h1 y (by simp))).2]
    simp only [Bool.false_eq_true, ↓reduceIte]
    rw [cptGo_same r y h2]
theorem cpt_same (l : List α) (h : l.Pairwise (fun a b => lt a b = true)) : cpt lt l = l := by
  cases l with
  | nil => rfl
  | cons x r => show x :: cptGo lt x r = x :: r; rw [cptGo_same r x h]
end
theorem takeR_page (q : Int) (p : List Byte) (j : Nat) : takeR (pageC q p j) = none := by
  have hl : (pageH q j (pageN p) (pageD p j).length ++ pageD p j).length ≤ 55 := by
    rw [List.length_append, show (pageH q j (pageN p) (pageD p j).length).length = 7 by unfold pageH; simp [highL_len]]
    have := pageD_len p j
    omega
  unfold pageC
  rw [cellL_yes ⟨by omega, by omega, hl⟩]
  unfold takeR
  rw [show BitVec.ofNat 8 (2 : Int).toNat = 2#8 from rfl, take_frame (by decide) hl]
  dsimp only
  rw [if_neg (by rintro ⟨h, _⟩; cases h)]
end Wells
namespace Go.Proofs.YtlfmfhdgnmchgaaGreat
open Go.RowKit Wells
theorem take_all : ∀ l : List Rec, (∀ r ∈ l, takeR (putR r) = some r) → (l.map putR).filterMap takeR = l
  | [], _ => rfl
  | r :: l, h => by
    rw [List.map_cons, List.filterMap_cons, h r (by simp)]
    show r :: _ = _
    rw [take_all l (fun x hx => h x (List.mem_cons_of_mem _ hx))]
theorem recsL_keep (m : Mani) (l : List (List Byte)) : recsL m (keepL m l) = recsL m l := by
  have h1 : (pagesL m.seq (pack m)).filterMap takeR = [] := by
    rw [List.filterMap_eq_nil_iff]
    intro x hx
    unfold pagesL at hx
    obtain ⟨j, _, rfl⟩ := List.mem_map.1 hx
    exact takeR_page _ _ _
  have h2 : ((recsL m l).map putR).filterMap takeR = recsL m l := by
    exact take_all _ (fun r hr => by
      obtain ⟨⟨c, _, hc⟩, _⟩ := mem_recsL hr
      exact take_put (takeR_some hc).1)
  have h3 : (recsL m l).filter (countsM m) = recsL m l := List.filter_eq_self.2 (fun r hr => (mem_recsL hr).2)
  have hp : (recsL m l).Pairwise (fun a b => ltR a b = true) := cpt_rise ltR_ord (ssort_srt ltR_ord _)
  have hc : cntL m (keepL m l) = recsL m l := by
    unfold cntL keepL
    rw [List.filterMap_append, h1, h2, List.nil_append, h3]
  unfold recsL at hp ⊢
  rw [hc]
  unfold recsL
  rw [ssort_same _ (hp.imp (fun h => ltR_ord.asym h)), cpt_same _ hp]
theorem keepL_keep (m : Mani) (l : List (List Byte)) : keepL m (keepL m l) = keepL m l := by
  show pagesL m.seq (pack m) ++ (recsL m (keepL m l)).map putR = _
  rw [recsL_keep]
  rfl
theorem whole_keep {m : Mani} (hm : m.may = true) (l : List (List Byte)) : wholeM m (keepL m l) = true := by
  unfold wholeM
  rw [hm, Bool.true_and, List.all_eq_true]
  intro x hx
  unfold inL
  rw [List.any_eq_true]
  exact ⟨x, List.mem_append.2 (.inl hx), decide_eq_true rfl⟩
theorem own_apart {base n size : Nat} {w w' : World} {e : TypeId} {v : Value} {xs : List Value} {F : Nat → Prop} (h : w.ownsRow base e size v n xs) (hF : ∀ k, F k → k < base) (ho : Only F w w') : w'.ownsRow base e size v n xs := by
  refine own_only h ho (fun k hk hf => ?_)
  have h1 := hF k hf
  rcases h.2 with ⟨rfl, _⟩ | ⟨g, cap, cur, rfl, hg, _⟩
  · cases hk
  · obtain rfl : g = k := Option.some.inj hk
    omega
theorem OBs.apartR {base : Nat} {w w' : World} {v : Value} {vs : List Value} {ls : List (List Byte)} {F : Nat → Prop} (h : OBs base w v vs ls) (hF : ∀ k, F k → k < base) (ho : Only F w w') : OBs base w' v vs ls := ⟨own_apart h.own hF ho, fun i hi => own_apart (h.at_ i hi) hF ho⟩
theorem ORs.apartR {base : Nat} {w w' : World} {v : Value} {xs : List RD} {F : Nat → Prop} (h : ORs base w v xs) (hF : ∀ k, F k → k < base) (ho : Only F w w') : ORs base w' v xs := ⟨own_apart h.own hF ho, fun x hx => own_apart (h.at_ x hx) hF ho⟩
set_option maxRecDepth 20000 in
set_option maxHeartbeats 4000000 in
theorem lawrecs_any (base : Nat) (A A2 : Option Addr) (n n2 c c2 : Nat) (xs ys : List RD) (b : Bool) (w : World) (h : ORs base w (.slice A n c) xs) (h2 : ORs base w (.slice A2 n2 c2) ys) (hn : xs.length = n) (hn2 : ys.length = n2) (hnb : n ≤ 1048576) (hd : ∀ x ∈ xs, x.r.D.length ≤ 1048576) (hd2 : ∀ x ∈ ys, x.r.D.length ≤ 1048576) (hb : decide (xs.map RD.r = ys.map RD.r) = b) :
    Calls Tryz.prog 17 #[.slice A n c, .slice A2 n2 c2] w fun e w' => e = .returned (.bool b) ∧ Below w.heap.size w w' := by
  have H := hid h
  have H2 := hid h2
  have HN := hid hn
  have HN2 := hid hn2
  have HB := hid hb
  have HD := hid hd
  have HD2 := hid hd2
  clear h h2 hn hn2 hb hd hd2
  go_enter Tryz.func17, Tryz.ntmps17
  by_cases hnn : n = n2
  · subst hnn
    go_wp2_with fail
    go_loopw [13] (fun kv wr => ∃ k : Nat, k ≤ n ∧ kv = .int .i64 (k : Int) ∧ Below w.heap.size w wr ∧ Hid ((xs.map RD.r).take k = (ys.map RD.r).take k)) (fun kv _ => n - (intOf kv).toNat)
    case atStart => exact ⟨0, Nat.zero_le _, rfl, Below.refl _ _, hid (by simp)⟩
    case round =>
      obtain ⟨k, hk, rfl, hbr, HK⟩ := hrel
      have HBR := hid hbr
      clear hbr
      by_cases hlt : k < n
      · have hlt' : (k : Int) < (n : Int) := by omega
        have hlt2 : k < n := hlt
        obtain ⟨b1, o1, rfl, hb1, hxm, hcx⟩ := (H.out.below HBR.out).get HN.out hlt
        obtain ⟨b2, o2, rfl, hb2, hym, hcy⟩ := (H2.out.below HBR.out).get HN2.out hlt2
        obtain ⟨x, hx⟩ : ∃ x, xs[k]! = x := ⟨_, rfl⟩
        obtain ⟨y, hy⟩ : ∃ y, ys[k]! = y := ⟨_, rfl⟩
        rw [hx] at hxm hcx
        rw [hy] at hym hcy
        have hxl : k < xs.length := by rw [HN.out]; exact hlt
        have hyl : k < ys.length := by rw [HN2.out]; exact hlt2
        have htx : (xs.map RD.r).take (k + 1) = (xs.map RD.r).take k ++ [x.r] := by
          rw [List.take_succ_eq_append_getElem (by simpa using hxl), List.getElem_map, ← hx, getElem!_pos xs k hxl]
        have hty : (ys.map RD.r).take (k + 1) = (ys.map RD.r).take k ++ [y.r] := by
          rw [List.take_succ_eq_append_getElem (by simpa using hyl), List.getElem_map, ← hy, getElem!_pos ys k hyl]
        have hox := (H.out.below HBR.out).at_ _ hxm
        have hoy := (H2.out.below HBR.out).at_ _ hym
        have hdx := HD.out _ hxm
        have hdy := HD2.out _ hym
        obtain ⟨r, Ar, nr, cr⟩ := x
        obtain ⟨q, Aq, nq, cq⟩ := y
        have hnr : r.D.length = nr := by
          obtain ⟨_, _, he, _⟩ := own_slice hox
          injection he with _ he _
          exact he.symm
        have hnq : q.D.length = nq := by
          obtain ⟨_, _, he, _⟩ := own_slice hoy
          injection he with _ he _
          exact he.symm
        have hnr9 : nr ≤ 1048576 := by rw [← hnr]; exact hdx
        have hnq9 : nq ≤ 1048576 := by rw [← hnq]; exact hdy
        have HSR := hid (show Sl wr wr.heap.size 1 Ar nr (r.D.map bv8) by unfold OB RD.dv at hox; rw [hnr] at hox; exact Sl.own hox)
        have HSQ := hid (show Sl wr wr.heap.size 1 Aq nq (q.D.map bv8) by unfold OB RD.dv at hoy; rw [hnq] at hoy; exact Sl.own hoy)
        obtain ⟨eb, heb⟩ : ∃ b, decide (r = q) = b := ⟨_, rfl⟩
        have HEB := hid heb
        have HTX := hid htx
        have HTY := hid hty
        have c0 := hcx 0 _ rfl
        have c1 := hcx 1 _ rfl
        have c2 := hcx 2 _ rfl
        have c3 := hcx 3 _ rfl
        have c4 := hcx 4 _ rfl
        have c5 := hcx 5 _ rfl
        have c6 := hcx 6 _ rfl
        have c7 := hcx 7 _ rfl
        simp only [Nat.add_zero, RD.dv] at c0 c1 c2 c3 c4 c5 c6 c7
        have A0 := hid c0
        have A1 := hid c1
        have A2 := hid c2
        have A3 := hid c3
        have A4 := hid c4
        have A5 := hid c5
        have A6 := hid c6
        have A7 := hid c7
        clear c0 c1 c2 c3 c4 c5 c6 c7
        have d0 := hcy 0 _ rfl
        have d1 := hcy 1 _ rfl
        have d2 := hcy 2 _ rfl
        have d3 := hcy 3 _ rfl
        have d4 := hcy 4 _ rfl
        have d5 := hcy 5 _ rfl
        have d6 := hcy 6 _ rfl
        have d7 := hcy 7 _ rfl
        simp only [Nat.add_zero, RD.dv] at d0 d1 d2 d3 d4 d5 d6 d7
        have B0 := hid d0
        have B1 := hid d1
        have B2 := hid d2
        have B3 := hid d3
        have B4 := hid d4
        have B5 := hid d5
        have B6 := hid d6
        have B7 := hid d7
        clear d0 d1 d2 d3 d4 d5 d6 d7
        clear hcx hcy hxm hym hx hy hox hoy hdx hdy hnr hnq heb htx hty hxl hyl
        go_upto_region 6 with fail
        refine Org.begin [] (fun w' => Below wr.heap.size wr w') [0, 1, 2, 3, 4, 5, 6, 7, 8, 9] (by kernel_rfl) (below_drewN (Below.refl _ _) 1) (fun hS => ?_)
        (refine Org.yes (v := ?_) rfl (by kernel_rfl) (by kernel_rfl) (by kernel_rfl) (by kernel_rfl) (by kernel_rfl) (fun _ _ _ h => h) (by kernel_rfl) (SM.of hS) ?_ ?_; rotate_left; (focus (intro w hSw; (try dsimp only at hSw); refine Pure.val ?_; go_simp; (try with_reducible rfl); done)); try simp only [Act.put, List.setIfInBounds_toArray, List.set_cons_zero, List.set_cons_succ])
        (refine Org.yes (v := ?_) rfl (by kernel_rfl) (by kernel_rfl) (by kernel_rfl) (by kernel_rfl) (by kernel_rfl) (fun _ _ _ h => h) (by kernel_rfl) (SM.of hS) ?_ ?_; rotate_left; (focus (intro w hSw; (try dsimp only at hSw); refine Pure.val ?_; go_simp; (try with_reducible rfl); done)); try simp only [Act.put, List.setIfInBounds_toArray, List.set_cons_zero, List.set_cons_succ])
        (refine Org.yes (v := ?_) rfl (by kernel_rfl) (by kernel_rfl) (by kernel_rfl) (by kernel_rfl) (by kernel_rfl) (fun _ _ _ h => h) (by kernel_rfl) (SM.of hS) ?_ ?_; rotate_left; (focus (intro w hSw; (try dsimp only at hSw); refine Pure.val ?_; go_simp; (try with_reducible rfl); done)); try simp only [Act.put, List.setIfInBounds_toArray, List.set_cons_zero, List.set_cons_succ])
        (refine Org.yes (v := ?_) rfl (by kernel_rfl) (by kernel_rfl) (by kernel_rfl) (by kernel_rfl) (by kernel_rfl) (fun _ _ _ h => h) (by kernel_rfl) (SM.of hS) ?_ ?_; rotate_left; (focus (intro w hSw; (try dsimp only at hSw); have y0 := (hSw.cell (p := ⟨b1, o1 + k * 8, none⟩) hb1).trans A0.out; have y1 := (hSw.cell (p := ⟨b1, o1 + k * 8 + 1, none⟩) hb1).trans A1.out; have y2 := (hSw.cell (p := ⟨b1, o1 + k * 8 + 2, none⟩) hb1).trans A2.out; have y3 := (hSw.cell (p := ⟨b1, o1 + k * 8 + 3, none⟩) hb1).trans A3.out; have y4 := (hSw.cell (p := ⟨b1, o1 + k * 8 + 4, none⟩) hb1).trans A4.out; have y5 := (hSw.cell (p := ⟨b1, o1 + k * 8 + 5, none⟩) hb1).trans A5.out; have y6 := (hSw.cell (p := ⟨b1, o1 + k * 8 + 6, none⟩) hb1).trans A6.out; have y7 := (hSw.cell (p := ⟨b1, o1 + k * 8 + 7, none⟩) hb1).trans A7.out; refine Pure.val ?_; go_simp; (try with_reducible rfl); done)); try simp only [Act.put, List.setIfInBounds_toArray, List.set_cons_zero, List.set_cons_succ])
        (refine Org.yes (v := ?_) rfl (by kernel_rfl) (by kernel_rfl) (by kernel_rfl) (by kernel_rfl) (by kernel_rfl) (fun _ _ _ h => h) (by kernel_rfl) (SM.of hS) ?_ ?_; rotate_left; (focus (intro w hSw; (try dsimp only at hSw); refine Pure.val ?_; go_simp; (try with_reducible rfl); done)); try simp only [Act.put, List.setIfInBounds_toArray, List.set_cons_zero, List.set_cons_succ])
        (refine Org.yes (v := ?_) rfl (by kernel_rfl) (by kernel_rfl) (by kernel_rfl) (by kernel_rfl) (by kernel_rfl) (fun _ _ _ h => h) (by kernel_rfl) (SM.of hS) ?_ ?_; rotate_left; (focus (intro w hSw; (try dsimp only at hSw); refine Pure.val ?_; go_simp; (try with_reducible rfl); done)); try simp only [Act.put, List.setIfInBounds_toArray, List.set_cons_zero, List.set_cons_succ])
        (refine Org.yes (v := ?_) rfl (by kernel_rfl) (by kernel_rfl) (by kernel_rfl) (by kernel_rfl) (by kernel_rfl) (fun _ _ _ h => h) (by kernel_rfl) (SM.of hS) ?_ ?_; rotate_left; (focus (intro w hSw; (try dsimp only at hSw); refine Pure.val ?_; go_simp; (try with_reducible rfl); done)); try simp only [Act.put, List.setIfInBounds_toArray, List.set_cons_zero, List.set_cons_succ])
        (refine Org.yes (v := ?_) rfl (by kernel_rfl) (by kernel_rfl) (by kernel_rfl) (by kernel_rfl) (by kernel_rfl) (fun _ _ _ h => h) (by kernel_rfl) (SM.of hS) ?_ ?_; rotate_left; (focus (intro w hSw; (try dsimp only at hSw); have z0 := (hSw.cell (p := ⟨b2, o2 + k * 8, none⟩) hb2).trans B0.out; have z1 := (hSw.cell (p := ⟨b2, o2 + k * 8 + 1, none⟩) hb2).trans B1.out; have z2 := (hSw.cell (p := ⟨b2, o2 + k * 8 + 2, none⟩) hb2).trans B2.out; have z3 := (hSw.cell (p := ⟨b2, o2 + k * 8 + 3, none⟩) hb2).trans B3.out; have z4 := (hSw.cell (p := ⟨b2, o2 + k * 8 + 4, none⟩) hb2).trans B4.out; have z5 := (hSw.cell (p := ⟨b2, o2 + k * 8 + 5, none⟩) hb2).trans B5.out; have z6 := (hSw.cell (p := ⟨b2, o2 + k * 8 + 6, none⟩) hb2).trans B6.out; have z7 := (hSw.cell (p := ⟨b2, o2 + k * 8 + 7, none⟩) hb2).trans B7.out; refine Pure.val ?_; go_simp; (try with_reducible rfl); done)); try simp only [Act.put, List.setIfInBounds_toArray, List.set_cons_zero, List.set_cons_succ])
        refine Org.go rfl (by kernel_rfl) (by kernel_rfl) (fun K hK => ?_)
        go_simp
        go_at_call 55
        refine (samerec_any r q Ar Aq nr nq cr cq eb wr.heap.size _ (HSR.out.below hS) (HSQ.out.below hS) hS.size hnr9 hnq9 HEB.out).mono ?_
        rintro e wz ⟨rfl, hbz⟩
        have HBZ := hid (hS.trans (hbz.mono hS.size))
        clear hbz
        go_wp2_with fail
        refine hK.out _ _ HBZ.out (fun hS2 => ?_)
        clear hK K hS
        have hS := hS2
        clear hS2
        try simp only [Act.put, List.setIfInBounds_toArray, List.set_cons_zero, List.set_cons_succ]
        (refine Org.yes (v := ?_) rfl (by kernel_rfl) (by kernel_rfl) (by kernel_rfl) (by kernel_rfl) (by kernel_rfl) (fun _ _ _ h => h) (by kernel_rfl) (SM.of hS) ?_ ?_; rotate_left; (focus (intro w hSw; (try dsimp only at hSw); refine Pure.val ?_; go_simp; (try with_reducible rfl); done)); try simp only [Act.put, List.setIfInBounds_toArray, List.set_cons_zero, List.set_cons_succ])
        refine Org.done (by kernel_rfl) ?_
        skip
        clear hS
        cases eb with
        | true =>
          have HRQ := hid (show r = q from of_decide_eq_true HEB.out)
          go_wp2_with fail
          go_roundw
          case rel => exact ⟨k + 1, by omega, by go_num, HBR.out.trans (HBZ.out.mono HBR.out.size), hid (by rw [HTX.out, HTY.out, HK.out]; show _ ++ [r] = _ ++ [q]; rw [HRQ.out])⟩
          case measure => simp [intOf]; omega
        | false =>
          have hbf : b = false := by
            rw [← HB.out, decide_eq_false]
            intro he
            have h1 : (xs.map RD.r).take (k + 1) = (ys.map RD.r).take (k + 1) := by rw [he]
            rw [HTX.out, HTY.out, HK.out] at h1
            have h3 := List.append_cancel_left h1
            injection h3 with h3 _
            exact of_decide_eq_false HEB.out h3
          subst hbf
          go_wp2_with fail
          go_ret
          exact ⟨rfl, HBR.out.trans (HBZ.out.mono HBR.out.size)⟩
      · have hlt' : ¬ (k : Int) < (n : Int) := by omega
        have hbt : b = true := by
          rw [← HB.out, decide_eq_true_eq]
          have h1 := HK.out
          rw [List.take_of_length_le (by rw [List.length_map, HN.out]; omega), List.take_of_length_le (by rw [List.length_map, HN2.out]; omega)] at h1
          exact h1
        subst hbt
        go_wp2_with fail
        go_ret
        exact ⟨rfl, HBR.out⟩
  · have hnn' : ¬ (n : Int) = (n2 : Int) := by omega
    have hbf : b = false := by
      rw [← HB.out, decide_eq_false]
      intro he
      have := congrArg List.length he
      rw [List.length_map, List.length_map, HN.out, HN2.out] at this
      exact hnn this
    subst hbf
    go_wp2_with fail
    go_ret
    exact ⟨rfl, Below.refl _ _⟩
theorem make_fits {m : Mani} {N : Nat} {ls : List (List Byte)} {z : Int} (h1 : fitsM m (fillD N ls 0) z = true) (h2 : behB (fillD N ls 0) (fillD N ls 0).L.length z = false) : makeD m (fillD N ls 0) z = (fillD N (keepL m ls) 0, 0) ∧ (keepL m ls).length ≤ N ∧ behB (fillD N ls 0) (keepL m ls).length z = true := by
  have h3 : behB (fillD N ls 0) (keepL m ls).length z = true := by
    unfold fitsM at h1
    rw [h2] at h1
    simp at h1
    exact h1.2
  have h4 : (keepL m ls).length ≤ N := by
    unfold behB at h3
    rw [decide_eq_true_eq] at h3
    have : ((fillD N ls 0).room : Int) = (N : Int) := rfl
    omega
  refine ⟨?_, h4, h3⟩
  unfold makeD
  rw [h1, h2]
  show Dr.rewrite (fillD N ls 0) (keepL m ls) = _
  unfold Dr.rewrite
  rw [if_neg (by simp [fillD]), if_neg (by show ¬ N < _; omega), if_neg (by simp [fillD, Pw.new]), if_pos (by rfl)]
  rfl
end Go.Proofs.YtlfmfhdgnmchgaaGreat

