/- Room RoomLaw KeepJoin RecSmall Law23d -/
import Derived.Deep.DeepCutAuto
import Derived.BigGuardPart
import Derived.Test.YtnknjeipfjdjoaaGreatDoorBScanKept10
import Derived.Test.YtnknjeipfjdjoaaGreatDoorBScanKept13
import Derived.Test.YtnknjeipfjdjoaaGreatDoorBScanKept15
import Derived.Test.YtnknjeipfjdjoaaGreatDoorBScanKept16
import Derived.Test.YtnknjeipfjdjoaaGreatDoorBScanKept25
import Derived.Test.YtnknjeipfjdjoaaGreatDoorBScanKept34
import Derived.Test.YtnknjeipfjdjoaaGreatDoorBScanKept40
import Derived.Test.YtnknjeipfjdjoaaGreatDoorBScanKept44
import Derived.Test.YtnknjeipfjdjoaaGreatDoorBScanKept48
import Derived.Test.YtnknjeipfjdjoaaGreatDoorBScanKept50
set_option maxRecDepth 20000
set_option linter.unusedSimpArgs false
set_option linter.unusedVariables false
set_option linter.unusedSectionVars false
namespace Go.Proofs.YtnknjeipfjdjoaaGreatDoor
open Go.RowKit Wells
theorem mem_recsL {m : Mani} {l : List (List Byte)} {r : Rec} (h : r ∈ recsL m l) : (∃ c ∈ l, takeR c = some r) ∧ countsM m r = true := by
 unfold recsL cntL at h
 have h1 := mem_ssort.1 (mem_cpt h)
 obtain ⟨h2, h3⟩ := List.mem_filter.1 h1
 obtain ⟨c, hc, hr⟩ := List.mem_filterMap.1 h2
 exact ⟨⟨c, hc, hr⟩, h3⟩
theorem keepL_64 (m : Mani) (l : List (List Byte)) : ∀ x ∈ keepL m l, x.length = 64 := by
 intro x hx
 unfold keepL at hx
 rcases List.mem_append.1 hx with h | h
 ·exact pagesL_64 _ _ x h
 ·obtain ⟨r, hr, rfl⟩ := List.mem_map.1 h
  obtain ⟨⟨c, _, hc⟩, _⟩ := mem_recsL hr
  exact putR_len (takeR_some hc).1
theorem recsL_len (m : Mani) (l : List (List Byte)) : (recsL m l).length ≤ l.length := by
 unfold recsL
 have h1 := cpt_length (lt := ltR) (ssort ltR (cntL m l))
 rw [ssort_length] at h1
 have h2 := cntL_length m l
 omega
end Go.Proofs.YtnknjeipfjdjoaaGreatDoor
namespace Wells
open Go Go.RowKit
section
variable {α : Type} {lt : α → α → Bool}
theorem ins_last (x : α) : ∀ l : List α, (∀ y ∈ l, lt x y = false) → ins lt x l = l ++ [x]
 | [], _ => rfl
 | y :: ys, h => by
  unfold ins
  rw [h y (by simp)]
  simp only [Bool.false_eq_true, ↓reduceIte, List.cons_append]
  rw [ins_last x ys (fun z hz => h z (List.mem_cons_of_mem _ hz))]
theorem ssort_same (l : List α) (h : l.Pairwise (fun a b => lt b a = false)) : ssort lt l = l := by
 induction l using rev_ind with
 | h0 => rfl
 | h1 l x ih =>
  obtain ⟨h1, _, h3⟩ := List.pairwise_append.1 h
  rw [ssort_snoc, ih h1, ins_last x l (fun y hy => h3 y hy x (by simp))]
theorem cptGo_same : ∀ (l : List α) (p : α), (p :: l).Pairwise (fun a b => lt a b = true) → cptGo lt p l = l
 | [], _, _ => rfl
 | y :: r, p, h => by
  obtain ⟨h1, h2⟩ := List.pairwise_cons.1 h
  unfold cptGo
  rw [(eqv_no (h1 y (by simp))).2]
  simp only [Bool.false_eq_true, ↓reduceIte]
  rw [cptGo_same r y h2]
theorem cpt_same (l : List α) (h : l.Pairwise (fun a b => lt a b = true)) : cpt lt l = l := by
 cases l with
 | nil => rfl
 | cons x r => show x :: cptGo lt x r = x :: r; rw [cptGo_same r x h]
end
theorem takeR_page (q : Int) (p : List Byte) (j : Nat) : takeR (pageC q p j) = none := by
 have hl : (pageH q j (pageN p) (pageD p j).length ++ pageD p j).length ≤ 55 := by
  rw [List.length_append, show (pageH q j (pageN p) (pageD p j).length).length = 7 by unfold pageH; simp [highL_len]]
  have := pageD_len p j
  omega
 unfold pageC
 rw [cellL_yes ⟨by omega, by omega, hl⟩]
 unfold takeR
 rw [show BitVec.ofNat 8 (2 : Int).toNat = 2#8 from rfl, take_frame (by decide) hl]
 dsimp only
 rw [if_neg (by rintro ⟨h, _⟩; cases h)]
end Wells
namespace Go.Proofs.YtnknjeipfjdjoaaGreatDoor
open Go.RowKit Wells
theorem take_all : ∀ l : List Rec, (∀ r ∈ l, takeR (putR r) = some r) → (l.map putR).filterMap takeR = l
 | [], _ => rfl
 | r :: l, h => by
  rw [List.map_cons, List.filterMap_cons, h r (by simp)]
  show r :: _ = _
  rw [take_all l (fun x hx => h x (List.mem_cons_of_mem _ hx))]
theorem recsL_keep (m : Mani) (l : List (List Byte)) : recsL m (keepL m l) = recsL m l := by
 have h1 : (pagesL m.seq (pack m)).filterMap takeR = [] := by
  rw [List.filterMap_eq_nil_iff]
  intro x hx
  unfold pagesL at hx
  obtain ⟨j, _, rfl⟩ := List.mem_map.1 hx
  exact takeR_page _ _ _
 have h2 : ((recsL m l).map putR).filterMap takeR = recsL m l := by
  exact take_all _ (fun r hr => by
   obtain ⟨⟨c, _, hc⟩, _⟩ := mem_recsL hr
   exact take_put (takeR_some hc).1)
 have h3 : (recsL m l).filter (countsM m) = recsL m l := List.filter_eq_self.2 (fun r hr => (mem_recsL hr).2)
 have hp : (recsL m l).Pairwise (fun a b => ltR a b = true) := cpt_rise ltR_ord (ssort_srt ltR_ord _)
 have hc : cntL m (keepL m l) = recsL m l := by
  unfold cntL keepL
  rw [List.filterMap_append, h1, h2, List.nil_append, h3]
 unfold recsL at hp ⊢
 rw [hc]
 unfold recsL
 rw [ssort_same _ (hp.imp (fun h => ltR_ord.asym h)), cpt_same _ hp]
theorem keepL_keep (m : Mani) (l : List (List Byte)) : keepL m (keepL m l) = keepL m l := by
 show pagesL m.seq (pack m) ++ (recsL m (keepL m l)).map putR = _
 rw [recsL_keep]
 rfl
theorem whole_keep {m : Mani} (hm : m.may = true) (l : List (List Byte)) : wholeM m (keepL m l) = true := by
 unfold wholeM
 rw [hm, Bool.true_and, List.all_eq_true]
 intro x hx
 unfold inL
 rw [List.any_eq_true]
 exact ⟨x, List.mem_append.2 (.inl hx), decide_eq_true rfl⟩
set_option maxRecDepth 20000 in
set_option maxHeartbeats 4000000 in
theorem lawrecs_any (base : Nat) (A A2 : Option Addr) (n n2 c c2 : Nat) (xs ys : List RD) (b : Bool) (w : World) (h : ORs base w (.slice A n c) xs) (h2 : ORs base w (.slice A2 n2 c2) ys) (hn : xs.length = n) (hn2 : ys.length = n2) (hnb : n ≤ 1048576) (hd : ∀ x ∈ xs, x.r.D.length ≤ 1048576) (hd2 : ∀ x ∈ ys, x.r.D.length ≤ 1048576) (hb : decide (xs.map RD.r = ys.map RD.r) = b) :
  Calls Tryz.prog 13 #[.slice A n c, .slice A2 n2 c2] w fun e w' => e = .returned (.bool b) ∧ Below w.heap.size w w' := by
 have H := hid h
 have H2 := hid h2
 have HN := hid hn
 have HN2 := hid hn2
 have HB := hid hb
 have HD := hid hd
 have HD2 := hid hd2
 clear h h2 hn hn2 hb hd hd2
 go_enter Tryz.func13, Tryz.ntmps13
 by_cases hnn : n = n2
 ·subst hnn
  go_wp2_with fail
  go_loopw [13] (fun kv wr => ∃ k : Nat, k ≤ n ∧ kv = .int .i64 (k : Int) ∧ Below w.heap.size w wr ∧ Hid ((xs.map RD.r).take k = (ys.map RD.r).take k)) (fun kv _ => n - (intOf kv).toNat)
  case atStart => exact ⟨0, Nat.zero_le _, rfl, Below.refl _ _, hid (by simp)⟩
  case round =>
   obtain ⟨k, hk, rfl, hbr, HK⟩ := hrel
   have HBR := hid hbr
   clear hbr
   by_cases hlt : k < n
   ·have hlt' : (k : Int) < (n : Int) := by omega
    have hlt2 : k < n := hlt
    obtain ⟨b1, o1, rfl, hb1, hxm, hcx⟩ := (H.out.below HBR.out).get HN.out hlt
    obtain ⟨b2, o2, rfl, hb2, hym, hcy⟩ := (H2.out.below HBR.out).get HN2.out hlt2
    obtain ⟨x, hx⟩ : ∃ x, xs[k]! = x := ⟨_, rfl⟩
    obtain ⟨y, hy⟩ : ∃ y, ys[k]! = y := ⟨_, rfl⟩
    rw [hx] at hxm hcx
    rw [hy] at hym hcy
    have hxl : k < xs.length := by rw [HN.out]; exact hlt
    have hyl : k < ys.length := by rw [HN2.out]; exact hlt2
    have htx : (xs.map RD.r).take (k + 1) = (xs.map RD.r).take k ++ [x.r] := by
     rw [List.take_succ_eq_append_getElem (by simpa using hxl), List.getElem_map, ← hx, getElem!_pos xs k hxl]
    have hty : (ys.map RD.r).take (k + 1) = (ys.map RD.r).take k ++ [y.r] := by
     rw [List.take_succ_eq_append_getElem (by simpa using hyl), List.getElem_map, ← hy, getElem!_pos ys k hyl]
    have hox := (H.out.below HBR.out).at_ _ hxm
    have hoy := (H2.out.below HBR.out).at_ _ hym
    have hdx := HD.out _ hxm
    have hdy := HD2.out _ hym
    obtain ⟨r, Ar, nr, cr⟩ := x
    obtain ⟨q, Aq, nq, cq⟩ := y
    have hnr : r.D.length = nr := by
     obtain ⟨_, _, he, _⟩ := own_slice hox
     injection he with _ he _
     exact he.symm
    have hnq : q.D.length = nq := by
     obtain ⟨_, _, he, _⟩ := own_slice hoy
     injection he with _ he _
     exact he.symm
    have hnr9 : nr ≤ 1048576 := by rw [← hnr]; exact hdx
    have hnq9 : nq ≤ 1048576 := by rw [← hnq]; exact hdy
    have HSR := hid (show Sl wr wr.heap.size 1 Ar nr (r.D.map bv8) by unfold OB RD.dv at hox; rw [hnr] at hox; exact Sl.own hox)
    have HSQ := hid (show Sl wr wr.heap.size 1 Aq nq (q.D.map bv8) by unfold OB RD.dv at hoy; rw [hnq] at hoy; exact Sl.own hoy)
    obtain ⟨eb, heb⟩ : ∃ b, decide (r = q) = b := ⟨_, rfl⟩
    have HEB := hid heb
    have HTX := hid htx
    have HTY := hid hty
    have c0 := hcx 0 _ rfl
    have c1 := hcx 1 _ rfl
    have c2 := hcx 2 _ rfl
    have c3 := hcx 3 _ rfl
    have c4 := hcx 4 _ rfl
    have c5 := hcx 5 _ rfl
    have c6 := hcx 6 _ rfl
    have c7 := hcx 7 _ rfl
    simp only [Nat.add_zero, RD.dv] at c0 c1 c2 c3 c4 c5 c6 c7
    have A0 := hid c0
    have A1 := hid c1
    have A2 := hid c2
    have A3 := hid c3
    have A4 := hid c4
    have A5 := hid c5
    have A6 := hid c6
    have A7 := hid c7
    clear c0 c1 c2 c3 c4 c5 c6 c7
    have d0 := hcy 0 _ rfl
    have d1 := hcy 1 _ rfl
    have d2 := hcy 2 _ rfl
    have d3 := hcy 3 _ rfl
    have d4 := hcy 4 _ rfl
    have d5 := hcy 5 _ rfl
    have d6 := hcy 6 _ rfl
    have d7 := hcy 7 _ rfl
    simp only [Nat.add_zero, RD.dv] at d0 d1 d2 d3 d4 d5 d6 d7
    have B0 := hid d0
    have B1 := hid d1
    have B2 := hid d2
    have B3 := hid d3
    have B4 := hid d4
    have B5 := hid d5
    have B6 := hid d6
    have B7 := hid d7
    clear d0 d1 d2 d3 d4 d5 d6 d7
    clear hcx hcy hxm hym hx hy hox hoy hdx hdy hnr hnq heb htx hty hxl hyl
    go_upto_region 6 with fail
    refine Org.begin [] (fun w' => Below wr.heap.size wr w') [0, 1, 2, 3, 4, 5, 6, 7, 8, 9] (by kernel_rfl) (below_drewN (Below.refl _ _) 1) (fun hS => ?_)
    iterate 3 (refine Org.yes (v := ?_) rfl (by kernel_rfl) (by kernel_rfl) (by kernel_rfl) (by kernel_rfl) (by kernel_rfl) (fun _ _ _ h => h) (by kernel_rfl) (SM.of hS) ?_ ?_; rotate_left; (focus (intro w hSw; (try dsimp only at hSw); refine Pure.val ?_; go_simp; (try with_reducible rfl); done)); try simp only [Act.put, List.setIfInBounds_toArray, List.set_cons_zero, List.set_cons_succ])
    (refine Org.yes (v := ?_) rfl (by kernel_rfl) (by kernel_rfl) (by kernel_rfl) (by kernel_rfl) (by kernel_rfl) (fun _ _ _ h => h) (by kernel_rfl) (SM.of hS) ?_ ?_; rotate_left; (focus (intro w hSw; (try dsimp only at hSw); have y0 := (hSw.cell (p := ⟨b1, o1 + k * 8, none⟩) hb1).trans A0.out; have y1 := (hSw.cell (p := ⟨b1, o1 + k * 8 + 1, none⟩) hb1).trans A1.out; have y2 := (hSw.cell (p := ⟨b1, o1 + k * 8 + 2, none⟩) hb1).trans A2.out; have y3 := (hSw.cell (p := ⟨b1, o1 + k * 8 + 3, none⟩) hb1).trans A3.out; have y4 := (hSw.cell (p := ⟨b1, o1 + k * 8 + 4, none⟩) hb1).trans A4.out; have y5 := (hSw.cell (p := ⟨b1, o1 + k * 8 + 5, none⟩) hb1).trans A5.out; have y6 := (hSw.cell (p := ⟨b1, o1 + k * 8 + 6, none⟩) hb1).trans A6.out; have y7 := (hSw.cell (p := ⟨b1, o1 + k * 8 + 7, none⟩) hb1).trans A7.out; refine Pure.val ?_; go_simp; (try with_reducible rfl); done)); try simp only [Act.put, List.setIfInBounds_toArray, List.set_cons_zero, List.set_cons_succ])
    iterate 3 (refine Org.yes (v := ?_) rfl (by kernel_rfl) (by kernel_rfl) (by kernel_rfl) (by kernel_rfl) (by kernel_rfl) (fun _ _ _ h => h) (by kernel_rfl) (SM.of hS) ?_ ?_; rotate_left; (focus (intro w hSw; (try dsimp only at hSw); refine Pure.val ?_; go_simp; (try with_reducible rfl); done)); try simp only [Act.put, List.setIfInBounds_toArray, List.set_cons_zero, List.set_cons_succ])
    (refine Org.yes (v := ?_) rfl (by kernel_rfl) (by kernel_rfl) (by kernel_rfl) (by kernel_rfl) (by kernel_rfl) (fun _ _ _ h => h) (by kernel_rfl) (SM.of hS) ?_ ?_; rotate_left; (focus (intro w hSw; (try dsimp only at hSw); have z0 := (hSw.cell (p := ⟨b2, o2 + k * 8, none⟩) hb2).trans B0.out; have z1 := (hSw.cell (p := ⟨b2, o2 + k * 8 + 1, none⟩) hb2).trans B1.out; have z2 := (hSw.cell (p := ⟨b2, o2 + k * 8 + 2, none⟩) hb2).trans B2.out; have z3 := (hSw.cell (p := ⟨b2, o2 + k * 8 + 3, none⟩) hb2).trans B3.out; have z4 := (hSw.cell (p := ⟨b2, o2 + k * 8 + 4, none⟩) hb2).trans B4.out; have z5 := (hSw.cell (p := ⟨b2, o2 + k * 8 + 5, none⟩) hb2).trans B5.out; have z6 := (hSw.cell (p := ⟨b2, o2 + k * 8 + 6, none⟩) hb2).trans B6.out; have z7 := (hSw.cell (p := ⟨b2, o2 + k * 8 + 7, none⟩) hb2).trans B7.out; refine Pure.val ?_; go_simp; (try with_reducible rfl); done)); try simp only [Act.put, List.setIfInBounds_toArray, List.set_cons_zero, List.set_cons_succ])
    refine Org.go rfl (by kernel_rfl) (by kernel_rfl) (fun K hK => ?_)
    go_simp
    go_at_call 42
    refine (samerec_any r q Ar Aq nr nq cr cq eb wr.heap.size _ (HSR.out.below hS) (HSQ.out.below hS) hS.size hnr9 hnq9 HEB.out).mono ?_
    rintro e wz ⟨rfl, hbz⟩
    have HBZ := hid (hS.trans (hbz.mono hS.size))
    clear hbz
    go_wp2_with fail
    refine hK.out _ _ HBZ.out (fun hS2 => ?_)
    clear hK K hS
    have hS := hS2
    clear hS2
    try simp only [Act.put, List.setIfInBounds_toArray, List.set_cons_zero, List.set_cons_succ]
    (refine Org.yes (v := ?_) rfl (by kernel_rfl) (by kernel_rfl) (by kernel_rfl) (by kernel_rfl) (by kernel_rfl) (fun _ _ _ h => h) (by kernel_rfl) (SM.of hS) ?_ ?_; rotate_left; (focus (intro w hSw; (try dsimp only at hSw); refine Pure.val ?_; go_simp; (try with_reducible rfl); done)); try simp only [Act.put, List.setIfInBounds_toArray, List.set_cons_zero, List.set_cons_succ])
    refine Org.done (by kernel_rfl) ?_
    skip
    clear hS
    cases eb with
    | true =>
     have HRQ := hid (show r = q from of_decide_eq_true HEB.out)
     go_wp2_with fail
     go_roundw
     case rel => exact ⟨k + 1, by omega, by go_num, HBR.out.trans (HBZ.out.mono HBR.out.size), hid (by rw [HTX.out, HTY.out, HK.out]; show _ ++ [r] = _ ++ [q]; rw [HRQ.out])⟩
     case measure => simp [intOf]; omega
    | false =>
     have hbf : b = false := by
      rw [← HB.out, decide_eq_false]
      intro he
      have h1 : (xs.map RD.r).take (k + 1) = (ys.map RD.r).take (k + 1) := by rw [he]
      rw [HTX.out, HTY.out, HK.out] at h1
      have h3 := List.append_cancel_left h1
      injection h3 with h3 _
      exact of_decide_eq_false HEB.out h3
     subst hbf
     go_wp2_with fail
     go_ret
     exact ⟨rfl, HBR.out.trans (HBZ.out.mono HBR.out.size)⟩
   ·have hlt' : ¬ (k : Int) < (n : Int) := by omega
    have hbt : b = true := by
     rw [← HB.out, decide_eq_true_eq]
     have h1 := HK.out
     rw [List.take_of_length_le (by rw [List.length_map, HN.out]; omega), List.take_of_length_le (by rw [List.length_map, HN2.out]; omega)] at h1
     exact h1
    subst hbt
    go_wp2_with fail
    go_ret
    exact ⟨rfl, HBR.out⟩
 ·have hnn' : ¬ (n : Int) = (n2 : Int) := by omega
  have hbf : b = false := by
   rw [← HB.out, decide_eq_false]
   intro he
   have := congrArg List.length he
   rw [List.length_map, List.length_map, HN.out, HN2.out] at this
   exact hnn this
  subst hbf
  go_wp2_with fail
  go_ret
  exact ⟨rfl, Below.refl _ _⟩
end Go.Proofs.YtnknjeipfjdjoaaGreatDoor
namespace Go.Proofs.YtnknjeipfjdjoaaGreatDoor
open Go.RowKit Wells
theorem tk_rec (r : Rec) : tkPage (putR r) = none := by
 by_cases h : r.may = true
 ·unfold tkPage
  rw [putR_frame h, take_frame (by decide) (rec_short h)]
  exact if_neg (fun hc => absurd hc.1 (by decide))
 ·unfold putR
  rw [if_neg h]
  rfl
theorem join_keep {m : Mani} (hm : m.may = true) (l : List (List Byte)) : joinL (keepL m l) = [m] := by
 have h9 : pageN (pack m) ≤ 255 := by have := pages_le m; rw [pagesL_len] at this; omega
 have h1 : joinL (pagesL m.seq (pack m)) = [m] := PagesOf.one (pagesOf_one hm h9 fun _ h => h) fun _ h => h
 have h2 : pagesOf (keepL m l) = pagesOf (pagesL m.seq (pack m)) := by
  unfold pagesOf keepL
  rw [List.filterMap_append]
  have : ((recsL m l).map putR).filterMap tkPage = [] := by
   rw [List.filterMap_eq_nil_iff]
   intro x hx
   obtain ⟨r, _, rfl⟩ := List.mem_map.1 hx
   exact tk_rec r
  rw [this, List.append_nil]
 unfold joinL at h1 ⊢
 rw [h2]
 exact h1
end Go.Proofs.YtnknjeipfjdjoaaGreatDoor
namespace Go.Proofs.YtnknjeipfjdjoaaGreatDoor
open Go.RowKit Wells
theorem rec_small {m : Mani} {l : List (List Byte)} {xs : List RD} (h : xs.map RD.r = recsL m l) : ∀ x ∈ xs, x.r.D.length ≤ 1048576 := by
 intro x hx
 have h1 : x.r ∈ recsL m l := by rw [← h]; exact List.mem_map_of_mem hx
 obtain ⟨⟨c, _, hc⟩, _⟩ := mem_recsL h1
 have h2 := rec_short (takeR_some hc).1
 rw [recB_len] at h2
 omega
end Go.Proofs.YtnknjeipfjdjoaaGreatDoor
namespace Go.Proofs.YtnknjeipfjdjoaaGreatDoor
open Go.RowKit Wells
set_option maxRecDepth 20000 in
set_option maxHeartbeats 4000000 in
theorem walk_ScanKept (A : Option Addr) (n c : Nat) (l : List Int) (A2 : Option Addr) (n2 c2 : Nat) (l2 : List Int) (w : World) (h : IsInts w A n c l) (h2 : IsInts w A2 n2 c2 l2) :
  Calls Tryz.prog 4 #[.slice A n c, .slice A2 n2 c2] w fun e w' => e = .returned (.bool true) ∧ Below w.heap.size w w' := by
 obtain ⟨hs, hle, hcap, hwf⟩ := h
 obtain ⟨hs2, hle2, hcap2, hwf2⟩ := h2
 have HS2 := hid hs2
 clear hs2
 go_enter Tryz.func4, Tryz.ntmps4
 go_wp2_with fail
 refine (mani_any w.heap.size A n c l w hs (Nat.le_refl _) (by omega) hwf).mono ?_
 rintro e w1 ⟨m, Ad, nd, cd, Ao, no, co, ts, rfl, hom, hpm, hb1⟩
 have HPM := hid hpm
 have H64 := hid hpm.m64
 have hno : m.objs.length = no := hom.read.o.len
 have hno5 := hpm.olen
 have HMAY := hid hpm.may
 have hrow := Row.new w1 28 #[.int .i64 m.seq, .int .i64 m.next, .int .i64 m.P.K, .int .i64 m.P.H, .int .i64 m.P.S, .int .i64 m.extra, .slice Ad nd cd, .slice Ao no co]
 have hb2 : Below w1.heap.size w1 (w1.alloc (.cells #[.int .i64 m.seq, .int .i64 m.next, .int .i64 m.P.K, .int .i64 m.P.H, .int .i64 m.P.S, .int .i64 m.extra, .slice Ad nd cd, .slice Ao no co] 28)) := (Below.refl _ _).alloc (Nat.le_refl _) _
 have HX := hid hrow
 have HM := hid ((hom.read.below hb2).mono hb2.size)
 have HB2 := hid (hb1.trans (hb2.mono hb1.size))
 have HS2b := hid (HS2.out.below HB2.out)
 clear hom hpm hb1 hrow hb2 hs
 unfold Mani.val
 go_wp2_with fail
 generalize w1.alloc (.cells #[.int .i64 m.seq, .int .i64 m.next, .int .i64 m.P.K, .int .i64 m.P.H, .int .i64 m.P.S, .int .i64 m.extra, .slice Ad nd cd, .slice Ao no co] 28) = w2 at *
 obtain ⟨gm, hgm⟩ : ∃ g, w1.heap.size = g := ⟨_, rfl⟩
 rw [hgm] at HX ⊢
 clear hgm
 have hr0 := HX.out
 have x0 := hr0.cell 0
 have x1 := hr0.cell 1
 have x2 := hr0.cell 2
 have x3 := hr0.cell 3
 have x4 := hr0.cell 4
 have x5 := hr0.cell 5
 have x6 := hr0.cell 6
 have x7 := hr0.cell 7
 simp only [List.getElem?_cons_succ, List.getElem?_cons_zero] at x0 x1 x2 x3 x4 x5 x6 x7
 clear hr0
 go_wp2_with fail
 refine (playcells_any m w2.heap.size Ad Ao nd cd no co ts A2 n2 c2 50 l2 w2 HM.out (Nat.le_refl _) HPM.out (HS2b.out.mono HB2.out.size) (by omega) hwf2 (by omega)).mono ?_
 rintro e w3 ⟨A3, c3, vs3, ls, n3, rfl, hln, hn30, hl64, ho3, hb3⟩
 have HLN := hid hln
 have HL64 := hid hl64
 have HO3 := hid (ho3.read hln)
 have HB23 := hid hb3
 clear hln hl64 ho3 hb3 x0 x1 x2 x3 x4 x5 x6 x7
 go_wp2_with fail
 refine (filled_any 60 A3 n3 c3 vs3 ls w3 HO3.out ⟨by omega, by omega⟩ (by omega) HL64.out).mono ?_
 rintro e w4 ⟨F, G, g, pg, gr, qg, rfl, hh4⟩
 have HD4 := hid hh4.d_
 have HOK1 := hid hh4.okd
 have HB24 := hid (HB23.out.trans (hh4.be.mono HB23.out.size))
 clear hh4
 have hx4 := HX.out.below HB24.out HX.out.lt
 have hr0 := hx4
 have x0 := hr0.cell 0
 have x1 := hr0.cell 1
 have x2 := hr0.cell 2
 have x3 := hr0.cell 3
 have x4 := hr0.cell 4
 have x5 := hr0.cell 5
 have x6 := hr0.cell 6
 have x7 := hr0.cell 7
 simp only [List.getElem?_cons_succ, List.getElem?_cons_zero] at x0 x1 x2 x3 x4 x5 x6 x7
 clear hr0
 clear hx4
 go_wp2_with fail
 refine (keep_any F g pg _ 0 m w2.heap.size Ad Ao nd cd no co ts w4 HD4.out HOK1.out (HM.out.below HB24.out) HB24.out.size (by omega) H64.out.1 H64.out.2).mono ?_
 rintro e w5 ⟨A5, c5, vs5, rfl, hok5, hb5⟩
 rw [show (fillD 60 ls 0).L = ls from rfl] at hok5 ⊢
 obtain ⟨np, hnp⟩ : ∃ q, (pagesL m.seq (pack m)).length = q := ⟨_, rfl⟩
 obtain ⟨nr, hnr⟩ : ∃ q, (recsL m ls).length = q := ⟨_, rfl⟩
 obtain ⟨nK, hnK⟩ : ∃ q, (keepL m ls).length = q := ⟨_, rfl⟩
 have hsum : np + nr = nK := by rw [← hnp, ← hnr, ← hnK]; unfold keepL; rw [List.length_append, List.length_map]
 have hnp9 : np ≤ 9 := by rw [← hnp]; exact pages_le m
 have hnr50 : nr ≤ 50 := by rw [← hnr]; have := recsL_len m ls; have := HLN.out; omega
 rw [hnK] at hok5 ⊢
 have HNP := hid hnp
 have HNR := hid hnr
 have HNK := hid hnK
 have HRK := hid (hok5.read hnK)
 have HB25 := hid (HB24.out.trans (hb5.mono HB24.out.size))
 have HD5 := hid (HD4.out.new_ hb5)
 clear hnp hnr hnK hok5 hb5 x0 x1 x2 x3 x4 x5 x6 x7
 go_wp2_with fail
 refine (filled_any 100 A5 nK c5 vs5 (keepL m ls) w5 HRK.out ⟨by omega, by omega⟩ (by omega) (keepL_64 m ls)).mono ?_
 rintro e w6 ⟨F2, G2, g2, pg2, gr2, qg2, rfl, hh6⟩
 have HE6 := hid hh6.d_
 have HOK2 := hid hh6.okd
 have HB26 := hid (HB25.out.trans (hh6.be.mono HB25.out.size))
 have HD6 := hid (HD5.out.new_ hh6.be)
 have HRK6 := hid ((HRK.out.below hh6.be).mono hh6.be.size)
 have HM6 := hid (HM.out.below HB26.out)
 have HZ6 := hid HB26.out.size
 have HX6 := hid (HX.out.below HB26.out HX.out.lt)
 clear hh6
 have hr0 := HX6.out
 have x0 := hr0.cell 0
 have x1 := hr0.cell 1
 have x2 := hr0.cell 2
 have x3 := hr0.cell 3
 have x4 := hr0.cell 4
 have x5 := hr0.cell 5
 have x6 := hr0.cell 6
 have x7 := hr0.cell 7
 simp only [List.getElem?_cons_succ, List.getElem?_cons_zero] at x0 x1 x2 x3 x4 x5 x6 x7
 clear hr0
 have ew : IntKind.i64.wrap ((np : Int) + (nr : Int)) = (nK : Int) := by rw [IntKind.wrap_i64]; omega
 go_upto_region 7 with fail
 refine Org.begin [] (fun w' => Below w6.heap.size w6 w') [0, 1, 2, 3, 4, 5, 8, 9, 6, 7, 10, 11, 12, 13, 14] (by kernel_rfl) (below_drewN (Below.refl _ _) 1) (fun hS => ?_)
 iterate 5 (refine Org.yes (v := ?_) rfl (by kernel_rfl) (by kernel_rfl) (by kernel_rfl) (by kernel_rfl) (by kernel_rfl) (fun _ _ _ h => h) (by kernel_rfl) (SM.of hS) ?_ ?_; rotate_left; (focus (intro w hSw; (try dsimp only at hSw); refine Pure.val ?_; go_simp; (try with_reducible rfl); done)); try simp only [Act.put, List.setIfInBounds_toArray, List.set_cons_zero, List.set_cons_succ])
 (refine Org.yes (v := ?_) rfl (by kernel_rfl) (by kernel_rfl) (by kernel_rfl) (by kernel_rfl) (by kernel_rfl) (fun _ _ _ h => h) (by kernel_rfl) (SM.of hS) ?_ ?_; rotate_left; (focus (intro w hSw; (try dsimp only at hSw); have qx0 := cell_keep hSw x0; have qx1 := cell_keep hSw x1; have qx2 := cell_keep hSw x2; have qx3 := cell_keep hSw x3; have qx4 := cell_keep hSw x4; have qx5 := cell_keep hSw x5; have qx6 := cell_keep hSw x6; have qx7 := cell_keep hSw x7; refine Pure.val ?_; go_simp; (try with_reducible rfl); done)); try simp only [Act.put, List.setIfInBounds_toArray, List.set_cons_zero, List.set_cons_succ])
 (refine Org.yes (v := ?_) rfl (by kernel_rfl) (by kernel_rfl) (by kernel_rfl) (by kernel_rfl) (by kernel_rfl) (fun _ _ _ h => h) (by kernel_rfl) (SM.of hS) ?_ ?_; rotate_left; (focus (intro w hSw; (try dsimp only at hSw); refine Pure.val ?_; go_simp; (try with_reducible rfl); done)); try simp only [Act.put, List.setIfInBounds_toArray, List.set_cons_zero, List.set_cons_succ])
 (refine Org.yes (v := ?_) rfl (by kernel_rfl) (by kernel_rfl) (by kernel_rfl) (by kernel_rfl) (by kernel_rfl) (fun _ _ _ h => h) (by kernel_rfl) (SM.of hS) ?_ ?_; rotate_left; (focus (intro w hSw; (try dsimp only at hSw); have qx0 := cell_keep hSw x0; have qx1 := cell_keep hSw x1; have qx2 := cell_keep hSw x2; have qx3 := cell_keep hSw x3; have qx4 := cell_keep hSw x4; have qx5 := cell_keep hSw x5; have qx6 := cell_keep hSw x6; have qx7 := cell_keep hSw x7; refine Pure.val ?_; go_simp; (try with_reducible rfl); done)); try simp only [Act.put, List.setIfInBounds_toArray, List.set_cons_zero, List.set_cons_succ])
 refine Org.go rfl (by kernel_rfl) (by kernel_rfl) (fun K hK => ?_)
 go_simp
 go_at_call 24
 refine (psplit_any m _ Ad Ao nd cd no co ts _ ((HM6.out.below (hS.mono HZ6.out)).mono (Nat.le_trans HZ6.out hS.size)) (Nat.le_refl _) H64.out.1 H64.out.2).mono ?_
 rintro e wp ⟨Ap, cp, vsp, rfl, -, hbk⟩
 rw [HNP.out]
 have hS3 := hS.trans (hbk.mono hS.size)
 clear hbk
 go_wp2_with fail
 refine hK.out _ _ hS3 (fun hS2 => ?_)
 clear hS3
 clear hK K hS
 have hS := hS2
 clear hS2
 try simp only [Act.put, List.setIfInBounds_toArray, List.set_cons_zero, List.set_cons_succ]
 (refine Org.yes (v := ?_) rfl (by kernel_rfl) (by kernel_rfl) (by kernel_rfl) (by kernel_rfl) (by kernel_rfl) (fun _ _ _ h => h) (by kernel_rfl) (SM.of hS) ?_ ?_; rotate_left; (focus (intro w hSw; (try dsimp only at hSw); refine Pure.val ?_; go_simp; (try with_reducible rfl); done)); try simp only [Act.put, List.setIfInBounds_toArray, List.set_cons_zero, List.set_cons_succ])
 refine Org.go rfl (by kernel_rfl) (by kernel_rfl) (fun K hK => ?_)
 go_simp
 go_at_call 14
 refine (records_any F g pg _ 0 m w2.heap.size Ad Ao nd cd no co ts _ (HD6.out.new_ hS) HOK1.out (HM6.out.below (hS.mono HZ6.out)) (Nat.le_trans HZ6.out hS.size) (by omega)).mono ?_
 rintro e wqa ⟨Aqa, nqa, cqa, xsa, rfl, hn5, ho5, hmap, hbk⟩
 rw [show (fillD 60 ls 0).L = ls from rfl] at hn5 hmap
 rw [HNR.out] at hn5
 replace hn5 := hn5.symm
 subst hn5
 have HOa := hid (ho5.base (Nat.zero_le _))
 have HMAPa := hid hmap
 clear ho5 hmap
 have hS3 := hS.trans (hbk.mono hS.size)
 clear hbk
 go_wp2_with fail
 refine hK.out _ _ hS3 (fun hS2 => ?_)
 clear hS3
 clear hK K hS
 have hS := hS2
 clear hS2
 try simp only [Act.put, List.setIfInBounds_toArray, List.set_cons_zero, List.set_cons_succ]
 iterate 2 (refine Org.yes (v := ?_) rfl (by kernel_rfl) (by kernel_rfl) (by kernel_rfl) (by kernel_rfl) (by kernel_rfl) (fun _ _ _ h => h) (by kernel_rfl) (SM.of hS) ?_ ?_; rotate_left; (focus (intro w hSw; (try dsimp only at hSw); refine Pure.val ?_; go_simp; (try with_reducible rfl); done)); try simp only [Act.put, List.setIfInBounds_toArray, List.set_cons_zero, List.set_cons_succ])
 (refine Org.yes (v := ?_) rfl (by kernel_rfl) (by kernel_rfl) (by kernel_rfl) (by kernel_rfl) (by kernel_rfl) (fun _ _ _ h => h) (by kernel_rfl) (SM.of hS) ?_ ?_; rotate_left; (focus (intro w hSw; (try dsimp only at hSw); refine Pure.val (v := .bool false) ?_; go_simp; first | done | omega)); try simp only [Act.put, List.setIfInBounds_toArray, List.set_cons_zero, List.set_cons_succ])
 (refine Org.yes (v := ?_) rfl (by kernel_rfl) (by kernel_rfl) (by kernel_rfl) (by kernel_rfl) (by kernel_rfl) (fun _ _ _ h => h) (by kernel_rfl) (SM.of hS) ?_ ?_; rotate_left; (focus (intro w hSw; (try dsimp only at hSw); refine Pure.val ?_; go_simp; (try with_reducible rfl); done)); try simp only [Act.put, List.setIfInBounds_toArray, List.set_cons_zero, List.set_cons_succ])
 refine Org.done (by kernel_rfl) ?_
 have HSE := hid hS
 clear hS
 clear ew x0 x1 x2 x3 x4 x5 x6 x7
 obtain ⟨w7, hw7⟩ : ∃ x, x = wqa := ⟨_, rfl⟩
 subst hw7
 have HE7 := hid (HE6.out.new_ HSE.out)
 have HD7 := hid (HD6.out.new_ HSE.out)
 have HRK7 := hid ((HRK6.out.below HSE.out).mono HSE.out.size)
 have HB27 := hid (HB26.out.trans (HSE.out.mono HB26.out.size))
 have HM7 := hid (HM.out.below HB27.out)
 have HZ7 := hid HB27.out.size
 have hx7 := HX.out.below HB27.out HX.out.lt
 have HWH := hid (show wholeM m (fillD 100 (keepL m ls) 0).L = true from whole_keep HMAY.out ls)
 have HJK := hid (show joinL (keepL m ls) = [m] from join_keep HMAY.out ls)
 have hr0 := hx7
 have x0 := hr0.cell 0
 have x1 := hr0.cell 1
 have x2 := hr0.cell 2
 have x3 := hr0.cell 3
 have x4 := hr0.cell 4
 have x5 := hr0.cell 5
 have x6 := hr0.cell 6
 have x7 := hr0.cell 7
 simp only [List.getElem?_cons_succ, List.getElem?_cons_zero] at x0 x1 x2 x3 x4 x5 x6 x7
 clear hr0
 clear hx7
 go_upto_region 9 with fail
 refine Org.begin [] (fun w' => Below w7.heap.size w7 w') [0, 1, 2, 3, 4, 5, 7, 8, 6, 9, 10, 11, 12, 13, 14, 16, 15, 17, 18, 19, 20, 21, 22, 23, 24, 25, 26, 27, 28] (by kernel_rfl) (below_drewN (Below.refl _ _) 1) (fun hS => ?_)
 (refine Org.yes (v := ?_) rfl (by kernel_rfl) (by kernel_rfl) (by kernel_rfl) (by kernel_rfl) (by kernel_rfl) (fun _ _ _ h => h) (by kernel_rfl) (SM.of hS) ?_ ?_; rotate_left; (focus (intro w hSw; (try dsimp only at hSw); refine Pure.val ?_; go_simp; (try with_reducible rfl); done)); try simp only [Act.put, List.setIfInBounds_toArray, List.set_cons_zero, List.set_cons_succ])
 (refine Org.yes (v := ?_) rfl (by kernel_rfl) (by kernel_rfl) (by kernel_rfl) (by kernel_rfl) (by kernel_rfl) (fun _ _ _ h => h) (by kernel_rfl) (SM.of hS) ?_ ?_; rotate_left; (focus (intro w hSw; (try dsimp only at hSw); have qx0 := cell_keep hSw x0; have qx1 := cell_keep hSw x1; have qx2 := cell_keep hSw x2; have qx3 := cell_keep hSw x3; have qx4 := cell_keep hSw x4; have qx5 := cell_keep hSw x5; have qx6 := cell_keep hSw x6; have qx7 := cell_keep hSw x7; refine Pure.val ?_; go_simp; (try with_reducible rfl); done)); try simp only [Act.put, List.setIfInBounds_toArray, List.set_cons_zero, List.set_cons_succ])
 refine Org.go rfl (by kernel_rfl) (by kernel_rfl) (fun K hK => ?_)
 go_simp
 go_at_call 16
 refine (whole_any F2 g2 pg2 _ 0 m w2.heap.size Ad Ao nd cd no co ts true _ (HE7.out.new_ hS) HOK2.out (HM7.out.below (hS.mono HZ7.out)) (Nat.le_trans HZ7.out hS.size) H64.out.1 H64.out.2 HWH.out).mono ?_
 rintro e wz ⟨rfl, hbk⟩
 have hS3 := hS.trans (hbk.mono hS.size)
 clear hbk
 go_wp2_with fail
 refine hK.out _ _ hS3 (fun hS2 => ?_)
 clear hS3
 clear hK K hS
 have hS := hS2
 clear hS2
 try simp only [Act.put, List.setIfInBounds_toArray, List.set_cons_zero, List.set_cons_succ]
 iterate 2 (refine Org.yes (v := ?_) rfl (by kernel_rfl) (by kernel_rfl) (by kernel_rfl) (by kernel_rfl) (by kernel_rfl) (fun _ _ _ h => h) (by kernel_rfl) (SM.of hS) ?_ ?_; rotate_left; (focus (intro w hSw; (try dsimp only at hSw); refine Pure.val ?_; go_simp; (try with_reducible rfl); done)); try simp only [Act.put, List.setIfInBounds_toArray, List.set_cons_zero, List.set_cons_succ])
 (refine Org.yes (v := ?_) rfl (by kernel_rfl) (by kernel_rfl) (by kernel_rfl) (by kernel_rfl) (by kernel_rfl) (fun _ _ _ h => h) (by kernel_rfl) (SM.of hS) ?_ ?_; rotate_left; (focus (intro w hSw; (try dsimp only at hSw); have qx0 := cell_keep hSw x0; have qx1 := cell_keep hSw x1; have qx2 := cell_keep hSw x2; have qx3 := cell_keep hSw x3; have qx4 := cell_keep hSw x4; have qx5 := cell_keep hSw x5; have qx6 := cell_keep hSw x6; have qx7 := cell_keep hSw x7; refine Pure.val ?_; go_simp; (try with_reducible rfl); done)); try simp only [Act.put, List.setIfInBounds_toArray, List.set_cons_zero, List.set_cons_succ])
 (refine Org.yes (v := ?_) rfl (by kernel_rfl) (by kernel_rfl) (by kernel_rfl) (by kernel_rfl) (by kernel_rfl) (fun _ _ _ h => h) (by kernel_rfl) (SM.of hS) ?_ ?_; rotate_left; (focus (intro w hSw; (try dsimp only at hSw); refine Pure.val ?_; go_simp; (try with_reducible rfl); done)); try simp only [Act.put, List.setIfInBounds_toArray, List.set_cons_zero, List.set_cons_succ])
 (refine Org.yes (v := ?_) rfl (by kernel_rfl) (by kernel_rfl) (by kernel_rfl) (by kernel_rfl) (by kernel_rfl) (fun _ _ _ h => h) (by kernel_rfl) (SM.of hS) ?_ ?_; rotate_left; (focus (intro w hSw; (try dsimp only at hSw); have qx0 := cell_keep hSw x0; have qx1 := cell_keep hSw x1; have qx2 := cell_keep hSw x2; have qx3 := cell_keep hSw x3; have qx4 := cell_keep hSw x4; have qx5 := cell_keep hSw x5; have qx6 := cell_keep hSw x6; have qx7 := cell_keep hSw x7; refine Pure.val ?_; go_simp; (try with_reducible rfl); done)); try simp only [Act.put, List.setIfInBounds_toArray, List.set_cons_zero, List.set_cons_succ])
 refine Org.go rfl (by kernel_rfl) (by kernel_rfl) (fun K hK => ?_)
 go_simp
 go_at_call 14
 refine (records_any F2 g2 pg2 _ 0 m w2.heap.size Ad Ao nd cd no co ts _ (HE7.out.new_ hS) HOK2.out (HM7.out.below (hS.mono HZ7.out)) (Nat.le_trans HZ7.out hS.size) (by omega)).mono ?_
 rintro e wqb ⟨Aqb, nqb, cqb, xsb, rfl, hn5, ho5, hmap, hbk⟩
 rw [show (fillD 100 (keepL m ls) 0).L = (keepL m ls) from rfl, recsL_keep] at hn5 hmap
 rw [HNR.out] at hn5
 replace hn5 := hn5.symm
 subst hn5
 have HOb := hid (ho5.base (Nat.zero_le _))
 have HMAPb := hid hmap
 clear ho5 hmap
 have hS3 := hS.trans (hbk.mono hS.size)
 clear hbk
 go_wp2_with fail
 refine hK.out _ _ hS3 (fun hS2 => ?_)
 clear hS3
 clear hK K hS
 have hS := hS2
 clear hS2
 try simp only [Act.put, List.setIfInBounds_toArray, List.set_cons_zero, List.set_cons_succ]
 refine Org.go rfl (by kernel_rfl) (by kernel_rfl) (fun K hK => ?_)
 go_simp
 go_at_call 14
 refine (records_any F g pg _ 0 m w2.heap.size Ad Ao nd cd no co ts _ (HD7.out.new_ hS) HOK1.out (HM7.out.below (hS.mono HZ7.out)) (Nat.le_trans HZ7.out hS.size) (by omega)).mono ?_
 rintro e wqc ⟨Aqc, nqc, cqc, xsc, rfl, hn5, ho5, hmap, hbk⟩
 rw [show (fillD 60 ls 0).L = ls from rfl] at hn5 hmap
 rw [HNR.out] at hn5
 replace hn5 := hn5.symm
 subst hn5
 have HOc := hid (ho5.base (Nat.zero_le _))
 have HMAPc := hid hmap
 have HOb2 := hid (HOb.out.below hbk)
 clear ho5 hmap
 have hS3 := hS.trans (hbk.mono hS.size)
 clear hbk
 go_wp2_with fail
 refine hK.out _ _ hS3 (fun hS2 => ?_)
 clear hS3
 clear hK K hS
 have hS := hS2
 clear hS2
 try simp only [Act.put, List.setIfInBounds_toArray, List.set_cons_zero, List.set_cons_succ]
 refine Org.go rfl (by kernel_rfl) (by kernel_rfl) (fun K hK => ?_)
 go_simp
 go_at_call 13
 refine (lawrecs_any 0 Aqb Aqc nr nr cqb cqc xsb xsc true _ HOb2.out HOc.out (by have := congrArg List.length HMAPb.out; rw [List.length_map, HNR.out] at this; exact this) (by have := congrArg List.length HMAPc.out; rw [List.length_map, HNR.out] at this; exact this) (by omega) (rec_small HMAPb.out) (rec_small HMAPc.out) (decide_eq_true (by rw [HMAPb.out, HMAPc.out]))).mono ?_
 rintro e wl ⟨rfl, hbk⟩
 have hS3 := hS.trans (hbk.mono hS.size)
 clear hbk
 go_wp2_with fail
 refine hK.out _ _ hS3 (fun hS2 => ?_)
 clear hS3
 clear hK K hS
 have hS := hS2
 clear hS2
 try simp only [Act.put, List.setIfInBounds_toArray, List.set_cons_zero, List.set_cons_succ]
 iterate 3 (refine Org.yes (v := ?_) rfl (by kernel_rfl) (by kernel_rfl) (by kernel_rfl) (by kernel_rfl) (by kernel_rfl) (fun _ _ _ h => h) (by kernel_rfl) (SM.of hS) ?_ ?_; rotate_left; (focus (intro w hSw; (try dsimp only at hSw); refine Pure.val ?_; go_simp; (try with_reducible rfl); done)); try simp only [Act.put, List.setIfInBounds_toArray, List.set_cons_zero, List.set_cons_succ])
 (refine Org.yes (v := ?_) rfl (by kernel_rfl) (by kernel_rfl) (by kernel_rfl) (by kernel_rfl) (by kernel_rfl) (fun _ _ _ h => h) (by kernel_rfl) (SM.of hS) ?_ ?_; rotate_left; (focus (intro w hSw; (try dsimp only at hSw); have qx0 := cell_keep hSw x0; have qx1 := cell_keep hSw x1; have qx2 := cell_keep hSw x2; have qx3 := cell_keep hSw x3; have qx4 := cell_keep hSw x4; have qx5 := cell_keep hSw x5; have qx6 := cell_keep hSw x6; have qx7 := cell_keep hSw x7; refine Pure.val ?_; go_simp; (try with_reducible rfl); done)); try simp only [Act.put, List.setIfInBounds_toArray, List.set_cons_zero, List.set_cons_succ])
 (refine Org.yes (v := ?_) rfl (by kernel_rfl) (by kernel_rfl) (by kernel_rfl) (by kernel_rfl) (by kernel_rfl) (fun _ _ _ h => h) (by kernel_rfl) (SM.of hS) ?_ ?_; rotate_left; (focus (intro w hSw; (try dsimp only at hSw); refine Pure.val ?_; go_simp; (try with_reducible rfl); done)); try simp only [Act.put, List.setIfInBounds_toArray, List.set_cons_zero, List.set_cons_succ])
 refine Org.go rfl (by kernel_rfl) (by kernel_rfl) (fun K hK => ?_)
 go_simp
 go_at_call 19
 refine (keep_any F2 g2 pg2 _ 0 m w2.heap.size Ad Ao nd cd no co ts _ (HE7.out.new_ hS) HOK2.out (HM7.out.below (hS.mono HZ7.out)) (Nat.le_trans HZ7.out hS.size) (by omega) H64.out.1 H64.out.2).mono ?_
 rintro e wx ⟨Ax, cx, vx, rfl, hox, hbk⟩
 rw [show (fillD 100 (keepL m ls) 0).L = keepL m ls from rfl, keepL_keep, HNK.out] at hox ⊢
 have HRX := hid (hox.read HNK.out)
 clear hox
 have hS3 := hS.trans (hbk.mono hS.size)
 clear hbk
 go_wp2_with fail
 refine hK.out _ _ hS3 (fun hS2 => ?_)
 clear hS3
 clear hK K hS
 have hS := hS2
 clear hS2
 try simp only [Act.put, List.setIfInBounds_toArray, List.set_cons_zero, List.set_cons_succ]
 refine Org.go rfl (by kernel_rfl) (by kernel_rfl) (fun K hK => ?_)
 go_simp
 go_at_call 18
 refine (rows_is true _ Ax A5 vx vs5 (keepL m ls) (keepL m ls) nK nK cx c5 _ HRX.out ((HRK7.out.below hS).mono hS.size) (by omega) (by omega) (decide_eq_true rfl)).mono ?_
 rintro e UU ⟨rfl, dd, rfl⟩
 have hS3 := below_drewN hS dd
 go_wp2_with fail
 refine hK.out _ _ hS3 (fun hS2 => ?_)
 clear hS3
 clear hK K hS
 have hS := hS2
 clear hS2
 try simp only [Act.put, List.setIfInBounds_toArray, List.set_cons_zero, List.set_cons_succ]
 iterate 3 (refine Org.yes (v := ?_) rfl (by kernel_rfl) (by kernel_rfl) (by kernel_rfl) (by kernel_rfl) (by kernel_rfl) (fun _ _ _ h => h) (by kernel_rfl) (SM.of hS) ?_ ?_; rotate_left; (focus (intro w hSw; (try dsimp only at hSw); refine Pure.val ?_; go_simp; (try with_reducible rfl); done)); try simp only [Act.put, List.setIfInBounds_toArray, List.set_cons_zero, List.set_cons_succ])
 refine Org.go rfl (by kernel_rfl) (by kernel_rfl) (fun K hK => ?_)
 go_simp
 go_at_call 22
 refine (manifests_any F2 g2 pg2 _ 0 _ (HE7.out.new_ hS) HOK2.out).mono ?_
 rintro e wy ⟨Aj, nj, cj, xj, rfl, hnj, -, -, -, hbk⟩
 rw [show (fillD 100 (keepL m ls) 0).L = keepL m ls from rfl, HJK.out] at hnj
 obtain rfl : nj = 1 := hnj
 have hS3 := hS.trans (hbk.mono hS.size)
 clear hbk
 go_wp2_with fail
 refine hK.out _ _ hS3 (fun hS2 => ?_)
 clear hS3
 clear hK K hS
 have hS := hS2
 clear hS2
 try simp only [Act.put, List.setIfInBounds_toArray, List.set_cons_zero, List.set_cons_succ]
 (refine Org.yes (v := ?_) rfl (by kernel_rfl) (by kernel_rfl) (by kernel_rfl) (by kernel_rfl) (by kernel_rfl) (fun _ _ _ h => h) (by kernel_rfl) (SM.of hS) ?_ ?_; rotate_left; (focus (intro w hSw; (try dsimp only at hSw); refine Pure.val ?_; go_simp; (try with_reducible rfl); done)); try simp only [Act.put, List.setIfInBounds_toArray, List.set_cons_zero, List.set_cons_succ])
 (refine Org.yes (v := ?_) rfl (by kernel_rfl) (by kernel_rfl) (by kernel_rfl) (by kernel_rfl) (by kernel_rfl) (fun _ _ _ h => h) (by kernel_rfl) (SM.of hS) ?_ ?_; rotate_left; (focus (intro w hSw; (try dsimp only at hSw); refine Pure.val (v := .bool true) ?_; go_simp; first | done | omega)); try simp only [Act.put, List.setIfInBounds_toArray, List.set_cons_zero, List.set_cons_succ])
 iterate 2 (refine Org.yes (v := ?_) rfl (by kernel_rfl) (by kernel_rfl) (by kernel_rfl) (by kernel_rfl) (by kernel_rfl) (fun _ _ _ h => h) (by kernel_rfl) (SM.of hS) ?_ ?_; rotate_left; (focus (intro w hSw; (try dsimp only at hSw); refine Pure.val ?_; go_simp; (try with_reducible rfl); done)); try simp only [Act.put, List.setIfInBounds_toArray, List.set_cons_zero, List.set_cons_succ])
 refine Org.go rfl (by kernel_rfl) (by kernel_rfl) (fun K hK => ?_)
 go_simp
 go_at_call 6
 refine (wakes23 _).mono ?_
 rintro e wu ⟨rfl, hbk⟩
 have hS3 := hS.trans (hbk.mono hS.size)
 clear hbk
 go_wp2_with fail
 refine hK.out _ _ hS3 (fun hS2 => ?_)
 clear hS3
 clear hK K hS
 have hS := hS2
 clear hS2
 try simp only [Act.put, List.setIfInBounds_toArray, List.set_cons_zero, List.set_cons_succ]
 iterate 2 (refine Org.yes (v := ?_) rfl (by kernel_rfl) (by kernel_rfl) (by kernel_rfl) (by kernel_rfl) (by kernel_rfl) (fun _ _ _ h => h) (by kernel_rfl) (SM.of hS) ?_ ?_; rotate_left; (focus (intro w hSw; (try dsimp only at hSw); refine Pure.val ?_; go_simp; (try with_reducible rfl); done)); try simp only [Act.put, List.setIfInBounds_toArray, List.set_cons_zero, List.set_cons_succ])
 refine Org.done (by kernel_rfl) ?_
 have HSE9 := hid hS
 clear hS
 have hbe := HB2.out.trans ((HB27.out.trans (HSE9.out.mono HB27.out.size)).mono HB2.out.size)
 go_wp2_with fail
 go_ret
 exact ⟨rfl, hbe⟩
end Go.Proofs.YtnknjeipfjdjoaaGreatDoor
