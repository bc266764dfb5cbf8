/- ScanKeep ScanWhole Wakes23 -/
import Derived.Test.YtnknjeipfjdjoaaGreatDoorBScanKept07
import Derived.Test.YtnknjeipfjdjoaaGreatDoorBScanKept10
import Derived.Test.YtnknjeipfjdjoaaGreatDoorBScanKept16
import Derived.Test.YtnknjeipfjdjoaaGreatDoorBScanKept22
import Derived.Test.YtnknjeipfjdjoaaGreatDoorBScanKept23
import Derived.Test.YtnknjeipfjdjoaaGreatDoorBScanKept29
import Derived.Test.YtnknjeipfjdjoaaGreatDoorBScanKept33
import Derived.Test.YtnknjeipfjdjoaaGreatDoorBScanKept39
set_option maxRecDepth 20000
set_option linter.unusedSimpArgs false
set_option linter.unusedVariables false
namespace Go.Proofs.YtnknjeipfjdjoaaGreatDoor
open Go.RowKit Wells
theorem OBs.app {base : Nat} {w w' : World} {v v2 v' : Value} {vs vs2 : List Value} {ls ls2 : List (List Byte)} {n : Nat} (h : OBs base w v vs ls) (h2 : OBs base w v2 vs2 ls2)
  (ho : w'.ownsRow base 33 1 v' n (vs ++ vs2)) (hg : w.grownBy w' v.ownBlock) : OBs base w' v' (vs ++ vs2) (ls ++ ls2) := by
 have hlen : vs.length = ls.length := by have := h.own.1; omega
 have hlen2 : vs2.length = ls2.length := by have := h2.own.1; omega
 have hn : n = (ls ++ ls2).length := by have := ho.1; simp only [List.length_append] at this ⊢; omega
 subst hn
 refine ⟨ho, fun i hi => ?_⟩
 rw [List.length_append] at hi
 by_cases hlt : i < ls.length
 ·rw [List.getD_eq_getElem?_getD, List.getD_eq_getElem?_getD, List.getElem?_append_left (by omega), List.getElem?_append_left hlt, ← List.getD_eq_getElem?_getD, ← List.getD_eq_getElem?_getD]
  exact (h.at_ i hlt).keep hg (own_other (h.at_ i hlt) h.own (by decide))
 ·rw [List.getD_eq_getElem?_getD, List.getD_eq_getElem?_getD, List.getElem?_append_right (by omega), List.getElem?_append_right (by omega), hlen, ← List.getD_eq_getElem?_getD, ← List.getD_eq_getElem?_getD]
  exact (h2.at_ _ (by omega)).keep hg (own_other (h2.at_ _ (by omega)) h.own (by decide))
theorem obs_one {base : Nat} {w : World} {v : Value} {vs : List Value} {ls : List (List Byte)} (h : OBs base w v vs ls) : ∀ u ∈ vs, u.oneCell' = true := by
 intro u hu
 obtain ⟨l, hl⟩ := h.elem hu
 obtain ⟨A, c, rfl, _⟩ := own_slice hl
 rfl
/-- the cells that a drive has to have -/
def keepL (m : Mani) (l : List (List Byte)) : List (List Byte) := pagesL m.seq (pack m) ++ (recsL m l).map putR
def KeepR (m : Mani) (l : List (List Byte)) (w : World) (e : Ending) (w' : World) : Prop :=
 ∃ (A : Option Addr) (c : Nat) (vs : List Value), e = .returned (.slice A (keepL m l).length c) ∧ OBs w.heap.size w' (.slice A (keepL m l).length c) vs (keepL m l) ∧ Below w.heap.size w w'
theorem flat_le {es : List Ent} (h : ∀ e ∈ es, (packE e).length ≤ 26) : (es.flatMap packE).length ≤ 26 * es.length := by
 induction es with
 | nil => exact Nat.le_refl _
 | cons e es ih =>
  have h1 := h e (by simp)
  have h2 := ih (fun x hx => h x (List.mem_cons_of_mem _ hx))
  rw [List.flatMap_cons, List.length_append, List.length_cons]
  omega
theorem pack_max (m : Mani) : (pack m).length ≤ 400 := by
 unfold pack
 split
 ·rename_i hm
  have hp := may_p hm
  have h1 := flat_le (es := m.objs) (fun e he => by
   obtain ⟨i, hi, rfl⟩ := List.getElem_of_mem he
   have := ent_at hp hi
   rw [List.getD_eq_getElem?_getD, List.getElem?_eq_getElem hi] at this
   exact packE_len this)
  have h2 := hp.olen
  have h3 := rise_len hp.drives
  unfold packL packH
  simp only [List.length_append, List.length_map, highL_len, List.length_singleton, List.length_cons, List.length_nil]
  omega
 ·exact Nat.zero_le _
theorem pages_le (m : Mani) : (pagesL m.seq (pack m)).length ≤ 9 := by
 have := pack_max m
 rw [pagesL_len]; unfold pageN; omega
set_option maxRecDepth 20000 in
set_option maxHeartbeats 4000000 in
theorem keep_any (F : Nat → Prop) (g pg : Nat) (d : Dr) (mk : Nat) (m : Mani) (B : Nat) (Ad Ao : Option Addr) (nd cd no co : Nat) (ts : List Value) (w : World) (h : DrvE F w g pg d) (hok : DOk mk d) (hm : RM w B m Ad nd cd Ao no co ts) (hB : B ≤ w.heap.size) (hno : no ≤ 9223372036854775807) (h64 : M64 m) (hnm : ∀ e ∈ m.objs, e.name.length ≤ 1048576) :
  Calls Tryz.prog 19 #[.pointer (some ⟨g, 0, none⟩), m.val (.slice Ad nd cd) (.slice Ao no co)] w (KeepR m d.L w) := by
 have hb : Below w.heap.size w (w.alloc (.cells #[.int .i64 m.seq, .int .i64 m.next, .int .i64 m.P.K, .int .i64 m.P.H, .int .i64 m.P.S, .int .i64 m.extra, .slice Ad nd cd, .slice Ao no co] 28)) := (Below.refl _ _).alloc (Nat.le_refl _) _
 have H1 := hid (h.new_ hb)
 have hx := Row.new w 28 #[.int .i64 m.seq, .int .i64 m.next, .int .i64 m.P.K, .int .i64 m.P.H, .int .i64 m.P.S, .int .i64 m.extra, .slice Ad nd cd, .slice Ao no co]
 have HX := hid hx
 have HM := hid (hm.below (hb.mono hB))
 have HBW := hid hb
 have hll := hok.len
 have hrm := hok.room
 have hrl : (recsL m d.L).length ≤ 512 := by
  unfold recsL
  have h1 := cpt_length (lt := ltR) (ssort ltR (cntL m d.L))
  rw [ssort_length] at h1
  have h2 := cntL_length m d.L
  omega
 have hpl := pages_le m
 have HLEN := hid (show (pagesL m.seq (pack m) ++ (recsL m d.L).map putR).length ≤ 9223372036854775807 ∧ (pagesL m.seq (pack m) ++ (recsL m d.L).map putR).length * 24 ≤ 140737488355328 by rw [List.length_append, List.length_map]; omega)
 obtain ⟨ibs, hibs, hzb0, hzb1, hzb2⟩ := info_parts infoBs
 unfold KeepR keepL
 obtain ⟨NK, hNK⟩ : ∃ NK, (pagesL m.seq (pack m) ++ (recsL m d.L).map putR).length = NK := ⟨_, rfl⟩
 have HNK := hid hNK
 have hlen := HLEN.out
 rw [hNK] at hlen ⊢
 clear HLEN hNK
 clear hb h hm hx hll hrm hrl hpl
 unfold Mani.val
 go_enter Tryz.func19, Tryz.ntmps19
 go_upto_region 1 with fail
 generalize w.alloc (.cells #[.int .i64 m.seq, .int .i64 m.next, .int .i64 m.P.K, .int .i64 m.P.H, .int .i64 m.P.S, .int .i64 m.extra, .slice Ad nd cd, .slice Ao no co] 28) = w1 at *
 refine Org.begin [] (fun w' => Below w1.heap.size w1 w') [0, 2, 3, 1, 4, 5, 6] (by kernel_rfl) (below_drewN (Below.refl _ _) 1) (fun hS => ?_)
 (refine Org.yes (v := ?_) rfl (by kernel_rfl) (by kernel_rfl) (by kernel_rfl) (by kernel_rfl) (by kernel_rfl) (fun _ _ _ h => h) (by kernel_rfl) (SM.of hS) ?_ ?_; rotate_left; (focus (intro w hSw; (try dsimp only at hSw); have hr := HX.out.below hSw HX.out.lt; have x0 := hr.cell 0; have x1 := hr.cell 1; have x2 := hr.cell 2; have x3 := hr.cell 3; have x4 := hr.cell 4; have x5 := hr.cell 5; have x6 := hr.cell 6; have x7 := hr.cell 7; simp only [List.getElem?_cons_succ, List.getElem?_cons_zero] at x0 x1 x2 x3 x4 x5 x6 x7; refine Pure.val ?_; go_simp; (try with_reducible rfl); done)); try simp only [Act.put, List.setIfInBounds_toArray, List.set_cons_zero, List.set_cons_succ])
 (refine Org.yes (v := ?_) rfl (by kernel_rfl) (by kernel_rfl) (by kernel_rfl) (by kernel_rfl) (by kernel_rfl) (fun _ _ _ h => h) (by kernel_rfl) (SM.of hS) ?_ ?_; rotate_left; (focus (intro w hSw; (try dsimp only at hSw); refine Pure.val ?_; go_simp; (try with_reducible rfl); done)); try simp only [Act.put, List.setIfInBounds_toArray, List.set_cons_zero, List.set_cons_succ])
 (refine Org.yes (v := ?_) rfl (by kernel_rfl) (by kernel_rfl) (by kernel_rfl) (by kernel_rfl) (by kernel_rfl) (fun _ _ _ h => h) (by kernel_rfl) (SM.of hS) ?_ ?_; rotate_left; (focus (intro w hSw; (try dsimp only at hSw); have hr := HX.out.below hSw HX.out.lt; have x0 := hr.cell 0; have x1 := hr.cell 1; have x2 := hr.cell 2; have x3 := hr.cell 3; have x4 := hr.cell 4; have x5 := hr.cell 5; have x6 := hr.cell 6; have x7 := hr.cell 7; simp only [List.getElem?_cons_succ, List.getElem?_cons_zero] at x0 x1 x2 x3 x4 x5 x6 x7; refine Pure.val ?_; go_simp; (try with_reducible rfl); done)); try simp only [Act.put, List.setIfInBounds_toArray, List.set_cons_zero, List.set_cons_succ])
 refine Org.go rfl (by kernel_rfl) (by kernel_rfl) (fun K hK => ?_)
 go_simp
 go_at_call 24
 refine (psplit_any m B Ad Ao nd cd no co ts _ (HM.out.below (hS.mono (Nat.le_trans hB HBW.out.size))) (Nat.le_trans (Nat.le_trans hB HBW.out.size) hS.size) h64 hnm).mono ?_
 rintro e wp ⟨Ap, cp, vsp, rfl, hop, hbp⟩
 have HOP := hid (hop.base hS.size)
 have HBP := hid hbp
 clear hop hbp
 go_wp2_with fail
 refine hK.out _ _ (hS.trans (HBP.out.mono hS.size)) (fun hS2 => ?_)
 clear hK K hS
 have hS := hS2
 clear hS2
 try simp only [Act.put, List.setIfInBounds_toArray, List.set_cons_zero, List.set_cons_succ]
 refine Org.go rfl (by kernel_rfl) (by kernel_rfl) (fun K hK => ?_)
 go_simp
 go_at_call 59
 refine (cells_any F g pg d mk m B Ad Ao nd cd no co ts _ (H1.out.new_ (hS.mono (Nat.le_refl _))) hok (HM.out.below (hS.mono (Nat.le_trans hB HBW.out.size))) (Nat.le_trans (Nat.le_trans hB HBW.out.size) hS.size) hno).mono ?_
 rintro e wc ⟨Ac, n, cc, vsc, rfl, hn, hoc, hbc⟩
 have HN := hid hn.symm
 clear hn
 have HOC := hid (hoc.base hS.size)
 have HBC := hid hbc
 clear hoc hbc
 go_wp2_with fail
 refine hK.out _ _ (hS.trans (HBC.out.mono hS.size)) (fun hS2 => ?_)
 clear hK K hS
 have hS := hS2
 clear hS2
 try simp only [Act.put, List.setIfInBounds_toArray, List.set_cons_zero, List.set_cons_succ]
 refine Org.go rfl (by kernel_rfl) (by kernel_rfl) (fun K hK => ?_)
 have HP := hid (by first | exact HOP.out.below HBC.out | exact HOP.out : OBs w1.heap.size _ (.slice Ap (pagesL m.seq (pack m)).length cp) vsp (pagesL m.seq (pack m)))
 have HC := hid (by first | exact HOC.out.below HBP.out | exact HOC.out : OBs w1.heap.size _ (.slice Ac n cc) vsc ((recsL m d.L).map putR))
 have howc := HC.out.own
 rw [HN.out] at howc
 refine op_append (.tmp 6) (.tmp 9) 23 rfl w1.heap.size 33 ibs (.slice none 0 0) 1 24 Tryz.underlying23 hibs hzb0 hzb1 hzb2 rfl (by omega) (.slice Ap (pagesL m.seq (pack m)).length cp) (pagesL m.seq (pack m)).length vsp rfl HP.out.own _ Ac n cc vsc rfl (Sl.own howc) (obs_one HC.out) NK (by rw [← HNK.out, List.length_append, HN.out]) _ rfl hlen.1 hlen.2 hS.size ?_
 rintro A7 c7 w7 ho7 hg7 _
 have hps := OBs.app HP.out HC.out ho7 hg7
 have hb7 := below_own hS HP.out.own hg7 (Nat.le_refl _) hS.size
 have HPS := hid hps
 have HB7 := hid hb7
 clear hps hb7 ho7 hg7 howc
 refine hK.out _ _ HB7.out (fun hS2 => ?_)
 clear hK K hS
 have hS := hS2
 clear hS2
 try simp only [Act.put, List.setIfInBounds_toArray, List.set_cons_zero, List.set_cons_succ]
 (refine Org.yes (v := ?_) rfl (by kernel_rfl) (by kernel_rfl) (by kernel_rfl) (by kernel_rfl) (by kernel_rfl) (fun _ _ _ h => h) (by kernel_rfl) (SM.of hS) ?_ ?_; rotate_left; (focus (intro w hSw; (try dsimp only at hSw); refine Pure.val ?_; go_simp; (try with_reducible rfl); done)); try simp only [Act.put, List.setIfInBounds_toArray, List.set_cons_zero, List.set_cons_succ])
 refine Org.done (by kernel_rfl) ?_
 go_wp2_with fail
 go_ret
 exact ⟨A7, c7, _, rfl, HPS.out.base HBW.out.size, HBW.out.trans (HB7.out.mono HBW.out.size)⟩
end Go.Proofs.YtnknjeipfjdjoaaGreatDoor
namespace Wells
open Go Go.RowKit
def inL (l : List (List Byte)) (p : List Byte) : Bool := l.any fun c => decide (c = p)
def wholeM (m : Mani) (l : List (List Byte)) : Bool := m.may && (pagesL m.seq (pack m)).all (inL l)
end Wells
namespace Go.Proofs.YtnknjeipfjdjoaaGreatDoor
open Go.RowKit Wells
theorem eqone_any (c p : List Byte) (A Ap : Option Addr) (n cc np cp gp B : Nat) (b : Bool) (w : World) (hr : Row w gp 33 [.slice Ap np cp]) (hc : Sl w B 1 A n (c.map bv8)) (hp : Sl w B 1 Ap np (p.map bv8)) (hb : decide (c = p) = b) :
  Calls Tryz.prog 55 #[.slice A n cc, .pointer (some ⟨gp, 0, none⟩)] w fun e w' => e = .returned (.bool b) ∧ w = w' := by
 have c0 := hr.cell 0
 simp only [List.getElem?_cons_zero] at c0
 have HC := hid hc
 have HP := hid hp
 have HB := hid hb
 clear hr hc hp hb
 go_enter Tryz.func55, Tryz.ntmps55
 go_wp2_with fail
 refine (equal_is b B A Ap c p n np cc cp w HC.out HP.out HB.out).mono ?_
 rintro e w' ⟨rfl, rfl⟩
 go_wp2_with fail
 go_ret
 exact ⟨rfl, rfl⟩
theorem idxeq_any (p : List Byte) (B : Nat) (A Ap : Option Addr) (n c np cp gp : Nat) (vs : List Value) (ls : List (List Byte)) (b : Bool) (w : World) (h : RBs w B A n vs ls) (hn : n ≤ 9223372036854775807) (hr : Row w gp 33 [.slice Ap np cp]) (hp : Sl w B 1 Ap np (p.map bv8)) (hb : inL ls p = b) :
  Calls Tryz.prog 97 #[.slice A n c, .func (Fn.func 55) #[] #[.pointer (some ⟨gp, 0, none⟩)]] w fun e w' => (∃ z : Int, e = .returned (.int .i64 z) ∧ decide (0 ≤ z) = b) ∧ w = w' := by
 have HL := hid h.len
 have HB := hid hb
 have H := hid h
 have HR := hid hr
 have HP := hid hp
 clear hb h hr hp
 go_enter Tryz.func97, Tryz.ntmps97
 go_wp2_with fail
 go_loopw [8] (fun i wr => ∃ k : Nat, k ≤ n ∧ i = .int .i64 k ∧ w = wr ∧ Hid (∀ j, j < k → decide (ls.getD j default = p) = false)) (fun i _ => n - (intOf i).toNat)
 case atStart => exact ⟨0, Nat.zero_le _, rfl, (by trivial), hid (fun j hj => absurd hj (by omega))⟩
 case round =>
  obtain ⟨k, hk, rfl, rfl, HK⟩ := hrel
  by_cases hlt : k < n
  ·obtain ⟨bb, o, A', c', e', hbb, hcell, hc1, hc2, hsl⟩ := H.out.get hlt
   obtain ⟨x, hx⟩ : ∃ x, ls.getD k [] = x := ⟨_, rfl⟩
   have HXX := hid hx
   rw [hx] at hcell hsl hc1
   subst e'
   have HSL := hid hsl
   obtain ⟨q, hq⟩ : ∃ q, decide (x = p) = q := ⟨_, rfl⟩
   have HQ := hid hq
   clear hx hsl hq
   go_wp2_with fail
   refine (eqone_any x p A' Ap x.length c' np cp gp B q _ HR.out HSL.out HP.out HQ.out).mono ?_
   rintro e w3 ⟨rfl, rfl⟩
   cases q with
   | true =>
    have hyes : b = true := by rw [← HB.out]; exact any_yes (es := ls) (p := fun c => decide (c = p)) (k := k) (by rw [HL.out]; exact hlt) (by show decide (ls.getD k [] = p) = true; rw [HXX.out]; exact HQ.out)
    subst hyes
    go_wp2_with fail
    go_ret
    exact ⟨⟨_, rfl, by simp⟩, rfl⟩
   | false =>
    go_wp2_with fail
    go_roundw
    case rel => exact ⟨k + 1, by omega, by go_num, (by trivial), hid (fun j hj => by
     rcases Nat.lt_or_ge j k with h | h
     ·exact HK.out j h
     ·have e : j = k := by omega
      rw [e, show ls.getD k default = x from HXX.out]; exact HQ.out)⟩
    case measure => simp [intOf]; omega
  ·obtain rfl : k = n := by omega
   have hyes : b = false := by rw [← HB.out]; exact any_no (es := ls) (p := fun c => decide (c = p)) (fun j hj => HK.out j (by rw [HL.out] at hj; exact hj))
   subst hyes
   go_wp2_with fail
   go_ret
   exact ⟨⟨_, rfl, by simp⟩, rfl⟩
theorem haseq_any (p : List Byte) (B : Nat) (A Ap : Option Addr) (n c np cp gp : Nat) (vs : List Value) (ls : List (List Byte)) (b : Bool) (w : World) (h : RBs w B A n vs ls) (hn : n ≤ 9223372036854775807) (hr : Row w gp 33 [.slice Ap np cp]) (hp : Sl w B 1 Ap np (p.map bv8)) (hb : inL ls p = b) :
  Calls Tryz.prog 54 #[.slice A n c, .func (Fn.func 55) #[] #[.pointer (some ⟨gp, 0, none⟩)]] w fun e w' => e = .returned (.bool b) ∧ w = w' := by
 have HR := hid hr
 clear hr
 go_enter Tryz.func54, Tryz.ntmps54
 go_wp2_with fail
 refine (idxeq_any p B A Ap n c np cp gp vs ls b w h hn HR.out hp hb).mono ?_
 rintro e w3 ⟨⟨z, rfl, hr⟩, rfl⟩
 have HZ := hid hr
 clear hr
 go_wp2_with fail
 go_ret
 exact ⟨ret_bool HZ.out, rfl⟩
set_option maxRecDepth 20000 in
set_option maxHeartbeats 4000000 in
theorem whole_any (F : Nat → Prop) (g pg : Nat) (d : Dr) (mk : Nat) (m : Mani) (B : Nat) (Ad Ao : Option Addr) (nd cd no co : Nat) (ts : List Value) (b : Bool) (w : World) (h : DrvE F w g pg d) (hok : DOk mk d) (hm : RM w B m Ad nd cd Ao no co ts) (hB : B ≤ w.heap.size) (h64 : M64 m) (hnm : ∀ e ∈ m.objs, e.name.length ≤ 1048576) (hb : wholeM m d.L = b) :
  Calls Tryz.prog 16 #[.pointer (some ⟨g, 0, none⟩), m.val (.slice Ad nd cd) (.slice Ao no co)] w fun e w' => e = .returned (.bool b) ∧ Below w.heap.size w w' := by
 have hbw : Below w.heap.size w (w.alloc (.cells #[.int .i64 m.seq, .int .i64 m.next, .int .i64 m.P.K, .int .i64 m.P.H, .int .i64 m.P.S, .int .i64 m.extra, .slice Ad nd cd, .slice Ao no co] 28)) := (Below.refl _ _).alloc (Nat.le_refl _) _
 have H1 := hid (h.new_ hbw)
 have hx := Row.new w 28 #[.int .i64 m.seq, .int .i64 m.next, .int .i64 m.P.K, .int .i64 m.P.H, .int .i64 m.P.S, .int .i64 m.extra, .slice Ad nd cd, .slice Ao no co]
 have HX := hid hx
 have HM := hid (hm.below (hbw.mono hB))
 have HBW := hid hbw
 have hll := hok.len
 have hrm := hok.room
 have x0 := hx.cell 0
 have x1 := hx.cell 1
 have x2 := hx.cell 2
 have x3 := hx.cell 3
 have x4 := hx.cell 4
 have x5 := hx.cell 5
 have x6 := hx.cell 6
 have x7 := hx.cell 7
 simp only [List.getElem?_cons_succ, List.getElem?_cons_zero] at x0 x1 x2 x3 x4 x5 x6 x7
 have HB := hid hb
 have hzw : B ≤ (w.alloc (.cells #[.int .i64 m.seq, .int .i64 m.next, .int .i64 m.P.K, .int .i64 m.P.H, .int .i64 m.P.S, .int .i64 m.extra, .slice Ad nd cd, .slice Ao no co] 28)).heap.size := Nat.le_trans hB hbw.size
 have HZW := hid hzw
 clear h hm hbw hx hb hzw
 unfold Mani.val
 go_enter Tryz.func16, Tryz.ntmps16
 go_wp2_with fail
 generalize w.alloc (.cells #[.int .i64 m.seq, .int .i64 m.next, .int .i64 m.P.K, .int .i64 m.P.H, .int .i64 m.P.S, .int .i64 m.extra, .slice Ad nd cd, .slice Ao no co] 28) = w1 at *
 obtain ⟨bm, hbm⟩ : ∃ bm, m.may = bm := ⟨_, rfl⟩
 refine (may_any m B Ad Ao nd cd no co ts bm w1 HM.out HZW.out h64 hnm hbm).mono ?_
 rintro e w2 ⟨rfl, hb2⟩
 have hr2 := HX.out.below hb2 HX.out.lt
 have HBM := hid hbm
 have HM2 := hid (HM.out.below (hb2.mono HZW.out))
 have HZ2 := hid (Nat.le_trans HZW.out hb2.size)
 have HB2 := hid (HBW.out.trans (hb2.mono HBW.out.size))
 have H2 := hid (H1.out.new_ hb2)
 clear hbm hb2 x0 x1 x2 x3 x4 x5 x6 x7
 cases bm with
 | false =>
  have hbf : b = false := by rw [← HB.out]; unfold wholeM; rw [HBM.out]; rfl
  subst hbf
  clear hr2
  go_wp2_with fail
  go_ret
  exact ⟨rfl, HB2.out⟩
 | true =>
  have hbt : (pagesL m.seq (pack m)).all (inL d.L) = b := by rw [← HB.out]; unfold wholeM; rw [HBM.out]; rfl
  have HBT := hid hbt
  have HX2 := hid hr2
  clear hbt hr2
  go_wp2_with fail
  refine (dall_any F g pg d mk w2 H2.out hok).mono ?_
  rintro e w3 ⟨A, c, vs, rfl, ho, -, hb3⟩
  have hr3 := HX2.out.below hb3 HX2.out.lt
  have x0 := hr3.cell 0
  have x1 := hr3.cell 1
  have x2 := hr3.cell 2
  have x3 := hr3.cell 3
  have x4 := hr3.cell 4
  have x5 := hr3.cell 5
  have x6 := hr3.cell 6
  have x7 := hr3.cell 7
  simp only [List.getElem?_cons_succ, List.getElem?_cons_zero] at x0 x1 x2 x3 x4 x5 x6 x7
  have HO := hid ho
  have HB3 := hid (HB2.out.trans (hb3.mono HB2.out.size))
  have HM3 := hid (HM2.out.below (hb3.mono HZ2.out))
  have HZ3 := hid (Nat.le_trans HZ2.out hb3.size)
  clear hr3 ho hb3
  go_wp2_with fail
  refine (psplit_any m B Ad Ao nd cd no co ts w3 HM3.out HZ3.out h64 hnm).mono ?_
  rintro e w4 ⟨Ap, cp, vsp, rfl, hop, hb4⟩
  obtain ⟨N, hN⟩ : ∃ N, (pagesL m.seq (pack m)).length = N := ⟨_, rfl⟩
  have hn9 : N ≤ 9 := by rw [← hN]; exact pages_le m
  rw [hN] at hop ⊢
  have HN := hid hN
  have HOP := hid (hop.read hN)
  have HO4 := hid ((HO.out.below hb4).read rfl)
  have HB4 := hid (HB3.out.trans (hb4.mono HB3.out.size))
  clear hop hb4 hN x0 x1 x2 x3 x4 x5 x6 x7
  go_wp2_with fail
  go_loopw [16] (fun i wr => ∃ k : Nat, k ≤ N ∧ i = .int .i64 k ∧ Below w4.heap.size w4 wr ∧ Hid (∀ j, j < k → inL d.L ((pagesL m.seq (pack m)).getD j []) = true)) (fun i _ => N - (intOf i).toNat)
  case atStart => exact ⟨0, Nat.zero_le _, rfl, Below.refl _ _, hid (fun j hj => absurd hj (by omega))⟩
  case round =>
   obtain ⟨k, hk, rfl, hbr, HK⟩ := hrel
   have HBR := hid hbr
   by_cases hlt : k < N
   ·have hlt' : (k : Int) < (N : Int) := by omega
    obtain ⟨bb, o, A', c', e', hbb, hcell, hc1, hc2, hsl⟩ := (HOP.out.below hbr).get hlt
    obtain ⟨x, hx⟩ : ∃ x, (pagesL m.seq (pack m)).getD k [] = x := ⟨_, rfl⟩
    have HXX := hid hx
    rw [hx] at hcell hsl hc1
    subst e'
    have HSL := hid hsl
    obtain ⟨q, hq⟩ : ∃ q, inL d.L x = q := ⟨_, rfl⟩
    have HQ := hid hq
    have hb5 : Below wr.heap.size wr (wr.alloc (.cells #[.slice A' x.length c'] 33)) := (Below.refl _ _).alloc (Nat.le_refl _) _
    have HR5 := hid (Row.new wr 33 #[.slice A' x.length c'])
    have HB5 := hid hb5
    clear hx hsl hq hbr hb5
    go_wp2_with fail
    generalize wr.alloc (.cells #[.slice A' x.length c'] 33) = w5 at *
    refine (haseq_any x w4.heap.size A A' d.L.length c x.length c' wr.heap.size vs d.L q w5 (HO4.out.below (HBR.out.trans (HB5.out.mono HBR.out.size))) (by omega) HR5.out (HSL.out.below (HB5.out.mono HBR.out.size)) HQ.out).mono ?_
    rintro e w6 ⟨rfl, rfl⟩
    cases q with
    | false =>
     have hbf : b = false := by
      rw [← HBT.out, List.all_eq_false]
      refine ⟨x, ?_, by rw [HQ.out]; decide⟩
      rw [← HXX.out, List.getD_eq_getElem?_getD, List.getElem?_eq_getElem (by rw [HN.out]; exact hlt)]
      exact List.getElem_mem _
     subst hbf
     go_wp2_with fail
     go_ret
     exact ⟨rfl, HB4.out.trans ((HBR.out.trans (HB5.out.mono HBR.out.size)).mono HB4.out.size)⟩
    | true =>
     go_wp2_with fail
     go_roundw
     case rel => exact ⟨k + 1, by omega, by go_num, HBR.out.trans (HB5.out.mono HBR.out.size), hid (fun j hj => by
      rcases Nat.lt_or_ge j k with h | h
      ·exact HK.out j h
      ·have e : j = k := by omega
       rw [e, HXX.out]; exact HQ.out)⟩
     case measure => simp [intOf]; omega
   ·have hlt' : ¬ (k : Int) < (N : Int) := by omega
    obtain rfl : k = N := by omega
    have hbf : b = true := by
     rw [← HBT.out, List.all_eq_true]
     intro x hx
     obtain ⟨j, hj, rfl⟩ := List.getElem_of_mem hx
     have := HK.out j (by rw [HN.out] at hj; exact hj)
     rwa [List.getD_eq_getElem?_getD, List.getElem?_eq_getElem hj] at this
    subst hbf
    go_wp2_with fail
    go_ret
    exact ⟨rfl, HB4.out.trans (HBR.out.mono HB4.out.size)⟩
end Go.Proofs.YtnknjeipfjdjoaaGreatDoor
namespace Go.Proofs.YtnknjeipfjdjoaaGreatDoor
open Go.RowKit Wells
theorem keep0 : (keepL mani0 []).length = 1 := by
 have h := mani0_len
 unfold keepL
 rw [List.length_append, pagesL_len]
 unfold pageN
 rw [h]
 rfl
theorem whole0 : wholeM mani0 [] = false := by
 have h := mani0_len
 have hN : pageN (pack mani0) = 1 := by unfold pageN; rw [h]
 unfold wholeM pagesL
 rw [hN, mani0_may]
 rfl
set_option maxRecDepth 20000 in
set_option maxHeartbeats 4000000 in
theorem wakes23 (w : World) : Calls Tryz.prog 6 #[] w fun e w' => e = .returned (.bool true) ∧ Below w.heap.size w w' := by
 have HKL := hid keep0
 have HWH := hid whole0
 have hr0 := Row.new w 3 #[.int .i64 3]
 have hb1 : Below w.heap.size w (w.alloc (.cells #[.int .i64 3] 3)) := (Below.refl _ _).alloc (Nat.le_refl _) _
 have hr1 := Row.new (w.alloc (.cells #[.int .i64 3] 3)) 28 #[.int .i64 1, .int .i64 0, .int .i64 1, .int .i64 1, .int .i64 1, .int .i64 0, .slice (some ⟨w.heap.size, 0, none⟩) 1 1, .slice none 0 0]
 have hr0' := hr0.alloc (.cells #[.int .i64 1, .int .i64 0, .int .i64 1, .int .i64 1, .int .i64 1, .int .i64 0, .slice (some ⟨w.heap.size, 0, none⟩) 1 1, .slice none 0 0] 28)
 have hb2 := hb1.alloc hb1.size (.cells #[.int .i64 1, .int .i64 0, .int .i64 1, .int .i64 1, .int .i64 1, .int .i64 0, .slice (some ⟨w.heap.size, 0, none⟩) 1 1, .slice none 0 0] 28)
 have hs0 := hr0'.sl (B := w.heap.size + 1) (m := 1) (by omega) (by simp)
 have hrm := mani0_rm (A := none) (c := 1) hs0 (by omega)
 have hg : (w.alloc (.cells #[.int .i64 3] 3)).heap.size = w.heap.size + 1 := by simp
 have hz2 : w.heap.size + 1 ≤ ((w.alloc (.cells #[.int .i64 3] 3)).alloc (.cells #[.int .i64 1, .int .i64 0, .int .i64 1, .int .i64 1, .int .i64 1, .int .i64 0, .slice (some ⟨w.heap.size, 0, none⟩) 1 1, .slice none 0 0] 28)).heap.size := by simp
 rw [hg] at hr1
 clear hr0 hb1 hr0' hs0 hg
 go_enter Tryz.func6, Tryz.ntmps6
 go_wp2_with fail
 generalize (w.alloc (.cells #[.int .i64 3] 3)).alloc (.cells #[.int .i64 1, .int .i64 0, .int .i64 1, .int .i64 1, .int .i64 1, .int .i64 0, .slice (some ⟨w.heap.size, 0, none⟩) 1 1, .slice none 0 0] 28) = w2 at *
 refine (pnew_any w2).mono ?_
 rintro e w3 ⟨pg, rfl, hpg, hp1, hb3⟩
 have hrm3 := hrm.below (hb3.mono hz2)
 have hr3 := hr1.below hb3 hr1.lt
 have hz3 := Nat.le_trans hz2 hb3.size
 have hb03 := hb2.trans (hb3.mono hb2.size)
 clear hrm hr1
 go_wp2_with fail
 refine (dnew_any 3 pg Pw.new w3 (by omega) (by omega) hp1).mono ?_
 rintro e w4 ⟨g, rfl, hg, hd4, hb4⟩
 have HD := hid hd4
 have HM := hid (hrm3.below (hb4.mono hz3))
 have HX := hid (hr3.below hb4 hr3.lt)
 have HZ := hid (Nat.le_trans hz3 hb4.size)
 have HB4 := hid (hb03.trans (hb4.mono hb03.size))
 clear hd4 hrm3 hr3 hb4 hb03 hb3 hb2 hp1 hz2 hz3
 have hr := HX.out
 have x0 := hr.cell 0
 have x1 := hr.cell 1
 have x2 := hr.cell 2
 have x3 := hr.cell 3
 have x4 := hr.cell 4
 have x5 := hr.cell 5
 have x6 := hr.cell 6
 have x7 := hr.cell 7
 simp only [List.getElem?_cons_succ, List.getElem?_cons_zero] at x0 x1 x2 x3 x4 x5 x6 x7
 clear hr
 go_wp2_with fail
 refine (records_any _ g pg _ 0 mani0 (w.heap.size + 1) _ _ _ _ _ _ _ w4 HD.out (DOk.new_ (by omega)) HM.out HZ.out (by omega)).mono ?_
 rintro e wz ⟨A1, n1, c1, xs1, rfl, hn1, ho1, -, hb1⟩
 have hn0 : n1 = 0 := hn1
 subst hn0
 have HB1 := hid hb1
 clear ho1 hb1 hn1
 clear x0 x1 x2 x3 x4 x5 x6 x7
 have hr := HX.out.below HB1.out HX.out.lt
 have x0 := hr.cell 0
 have x1 := hr.cell 1
 have x2 := hr.cell 2
 have x3 := hr.cell 3
 have x4 := hr.cell 4
 have x5 := hr.cell 5
 have x6 := hr.cell 6
 have x7 := hr.cell 7
 simp only [List.getElem?_cons_succ, List.getElem?_cons_zero] at x0 x1 x2 x3 x4 x5 x6 x7
 clear hr
 go_wp2_with fail
 refine (keep_any _ g pg _ 0 mani0 (w.heap.size + 1) _ _ _ _ _ _ _ wz (HD.out.new_ HB1.out) (DOk.new_ (by omega)) (HM.out.below (HB1.out.mono HZ.out)) (Nat.le_trans HZ.out HB1.out.size) (by omega) mani0_64 mani0_nm).mono ?_
 rintro e wy ⟨A2, c2, vs2, rfl, ho2, hb2⟩
 rw [show (keepL mani0 (Dr.new Pw.new 3).L).length = 1 from HKL.out]
 have HB2 := hid (HB1.out.trans (hb2.mono HB1.out.size))
 clear ho2 hb2
 clear x0 x1 x2 x3 x4 x5 x6 x7
 have hr := HX.out.below HB2.out HX.out.lt
 have x0 := hr.cell 0
 have x1 := hr.cell 1
 have x2 := hr.cell 2
 have x3 := hr.cell 3
 have x4 := hr.cell 4
 have x5 := hr.cell 5
 have x6 := hr.cell 6
 have x7 := hr.cell 7
 simp only [List.getElem?_cons_succ, List.getElem?_cons_zero] at x0 x1 x2 x3 x4 x5 x6 x7
 clear hr
 go_wp2_with fail
 refine (whole_any _ g pg _ 0 mani0 (w.heap.size + 1) _ _ _ _ _ _ _ false wy (HD.out.new_ HB2.out) (DOk.new_ (by omega)) (HM.out.below (HB2.out.mono HZ.out)) (Nat.le_trans HZ.out HB2.out.size) mani0_64 mani0_nm HWH.out).mono ?_
 rintro e wx ⟨rfl, hb3⟩
 have HB3 := hid (HB2.out.trans (hb3.mono HB2.out.size))
 clear hb3
 clear x0 x1 x2 x3 x4 x5 x6 x7
 go_wp2_with fail
 go_ret
 exact ⟨rfl, HB4.out.trans (HB3.out.mono HB4.out.size)⟩
end Go.Proofs.YtnknjeipfjdjoaaGreatDoor
