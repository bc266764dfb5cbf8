/- SplitP PlayMath -/
import Derived.Deep.DeepCutAuto
import Derived.BigGuardPart
import Derived.Lib.Bytes
import Derived.Test.YtnknjeipfjdjoaaGreatDoorBScanKept00
import Derived.Test.YtnknjeipfjdjoaaGreatDoorBScanKept02
import Derived.Test.YtnknjeipfjdjoaaGreatDoorBScanKept13
import Derived.Test.YtnknjeipfjdjoaaGreatDoorBScanKept16
import Derived.Test.YtnknjeipfjdjoaaGreatDoorBScanKept17
import Derived.Test.YtnknjeipfjdjoaaGreatDoorBScanKept22
import Derived.Test.YtnknjeipfjdjoaaGreatDoorBScanKept26
import Derived.Test.YtnknjeipfjdjoaaGreatDoorBScanKept28
set_option maxRecDepth 20000
set_option linter.unusedSimpArgs false
set_option linter.unusedVariables false
namespace Go.Proofs.YtnknjeipfjdjoaaGreatDoor
open Go.RowKit Wells
theorem _root_.Wells.may_seqS {m : Mani} (h : m.may = true) : 1 ≤ m.seq ∧ m.seq ≤ 2147483647 := by
 unfold Mani.may preB at h
 simp only [Bool.and_eq_true, decide_eq_true_eq] at h
 exact h.1.1
def SplitR (m : Mani) (w : World) (e : Ending) (w' : World) : Prop :=
 ∃ (A : Option Addr) (c : Nat) (vs : List Value), e = .returned (.slice A (pagesL m.seq (pack m)).length c) ∧ OBs w.heap.size w' (.slice A (pagesL m.seq (pack m)).length c) vs (pagesL m.seq (pack m)) ∧ Below w.heap.size w w'
set_option maxRecDepth 20000 in
set_option maxHeartbeats 1000000 in
theorem psplit_any (m : Mani) (B : Nat) (Ad Ao : Option Addr) (nd cd no co : Nat) (ts : List Value) (w : World) (h : RM w B m Ad nd cd Ao no co ts) (hB : B ≤ w.heap.size) (h64 : M64 m) (hnm : ∀ e ∈ m.objs, e.name.length ≤ 1048576) :
  Calls Tryz.prog 24 #[m.val (.slice Ad nd cd) (.slice Ao no co)] w (SplitR m w) := by
 have hb : Below w.heap.size w (w.alloc (.cells #[.int .i64 m.seq, .int .i64 m.next, .int .i64 m.P.K, .int .i64 m.P.H, .int .i64 m.P.S, .int .i64 m.extra, .slice Ad nd cd, .slice Ao no co] 28)) := (Below.refl _ _).alloc (Nat.le_refl _) _
 have hx := Row.new w 28 #[.int .i64 m.seq, .int .i64 m.next, .int .i64 m.P.K, .int .i64 m.P.H, .int .i64 m.P.S, .int .i64 m.extra, .slice Ad nd cd, .slice Ao no co]
 have HR := hid ((h.below (hb.mono hB)))
 have x0 := hx.cell 0
 have x1 := hx.cell 1
 have x2 := hx.cell 2
 have x3 := hx.cell 3
 have x4 := hx.cell 4
 have x5 := hx.cell 5
 have x6 := hx.cell 6
 have x7 := hx.cell 7
 simp only [List.getElem?_cons_succ, List.getElem?_cons_zero] at x0 x1 x2 x3 x4 x5 x6 x7
 have HX := hid hx
 have HB := hid hb
 have hz := hb.size
 clear hb hx h
 unfold Mani.val
 go_enter Tryz.func24, Tryz.ntmps24
 go_upto_region 1 with fail
 generalize w.alloc (.cells #[.int .i64 m.seq, .int .i64 m.next, .int .i64 m.P.K, .int .i64 m.P.H, .int .i64 m.P.S, .int .i64 m.extra, .slice Ad nd cd, .slice Ao no co] 28) = w1 at *
 go_wp2_with fail
 refine (pack_any m B Ad Ao nd cd no co ts w1 HR.out (Nat.le_trans hB hz) h64 hnm).mono ?_
 rintro e w2 ⟨A1, n, c1, rfl, hn, hn1, ho, hb2⟩
 have hc1 : n ≤ c1 ∧ c1 ≤ 9223372036854775807 := by
  obtain ⟨_, _, ee, hc2, hc3⟩ := own_slice ho
  injection ee with e1 e2 e3
  subst e3
  exact ⟨by omega, by omega⟩
 unfold OB at ho
 rw [hn] at ho
 have HO := hid ho
 have HB2 := hid (HB.out.trans (hb2.mono hz))
 have HX2 := hid (HX.out.below hb2 HX.out.lt)
 clear ho hb2 x0 x1 x2 x3 x4 x5 x6 x7
 obtain ⟨N, hN⟩ : ∃ N, pageN (pack m) = N := ⟨_, rfl⟩
 have hNi : ((n : Int) + 48 - 1) / 48 = (N : Int) := by rw [← hN]; unfold pageN; rw [hn]; omega
 have hNn : N = (n + 47) / 48 := by rw [← hN]; unfold pageN; rw [hn]
 have HN := hid hN
 have hN21 : N ≤ 21 := by omega
 have HNN := hid hNn
 clear hNn
 clear hN
 go_wp2_with fail
 rw [hNi]
 clear hNi
 obtain ⟨gm, hgmE⟩ : ∃ gm, w.heap.size = gm := ⟨_, rfl⟩
 try rw [hgmE]
 have HGM := hid hgmE
 clear hgmE
 go_loopw [5, 16] (fun v i wr => ∃ (k : Nat) (A : Option Addr) (c : Nat) (vs : List Value), k ≤ N ∧ v = .slice A k c ∧ i = .int .i64 (k : Int) ∧ (k ≤ c ∧ c ≤ 9223372036854775807) ∧ OBs w2.heap.size wr (.slice A k c) vs ((pagesL m.seq (pack m)).take k) ∧ Below w2.heap.size w2 wr) (fun _ i _ => N - (intOf i).toNat)
 case atStart => exact ⟨0, none, 0, [], Nat.zero_le _, rfl, rfl, by omega, by simpa using OBs.nil_ _ _, Below.refl _ _⟩
 case round =>
  obtain ⟨k, A, c, vs, hk, rfl, rfl, hkc, hobs, hbr⟩ := hrel
  have HOBS := hid hobs
  have HBR := hid hbr
  clear hobs hbr
  by_cases hlt : k < N
  ·have hlt' : (k : Int) < (N : Int) := by omega
   obtain ⟨en, hen, hen1⟩ : ∃ en : Nat, (if ((k : Int) + 1) * 48 < (n : Int) then ((k : Int) + 1) * 48 else (n : Int)) = (en : Int) ∧ en = min n ((k + 1) * 48) := by
    refine ⟨min n ((k + 1) * 48), ?_, rfl⟩
    split <;> omega
   have HEN := hid hen1
   clear hen1
   go_upto_region 8 with fail
   try rw [hen]
   have hen' := HEN.out
   obtain ⟨st, hst⟩ : ∃ st, 48 * k = st := ⟨_, rfl⟩
   have hk48 : st ≤ en := by have := HNN.out; omega
   have hen2 : en ≤ n := by omega
   obtain ⟨Ac, hAc⟩ : ∃ Ac, (if c1 = st then A1 else Option.map (fun x => x.add st) A1) = Ac := ⟨_, rfl⟩
   obtain ⟨Lc, hLc⟩ : ∃ Lc, en - st = Lc := ⟨_, rfl⟩
   obtain ⟨Cc, hCc⟩ : ∃ Cc, c1 - st = Cc := ⟨_, rfl⟩
   have hsl := (Sl.own HO.out).below HBR.out
   have hcut := hsl.cut (c := c1) hk48 hen2 (by have := hc1.1; omega)
   have hpd : ((pack m).drop st).take Lc = pageD (pack m) k := by
    unfold pageD
    rw [hst]
    have hl := hn
    rcases Nat.le_total n ((k + 1) * 48) with h1 | h1
    ·rw [List.take_of_length_le (by simp; omega), List.take_of_length_le (by simp; omega)]
    ·rw [show Lc = 48 by omega]
   simp only [Nat.mul_one] at hcut
   rw [hAc, hLc, ← List.map_drop, ← List.map_take, hpd] at hcut
   have hpm : m.may = true := by
    cases hm : m.may
    ·have : pack m = [] := by unfold pack; rw [hm]; rfl
     rw [this] at hn
     simp at hn
     have := HNN.out
     omega
    ·rfl
   have hq := may_seqS hpm
   have hLT : ((pagesL m.seq (pack m)).take k).length = k := by rw [List.length_take, pagesL_len, HN.out]; omega
   have hpc : cellL 2 (pageH m.seq k N Lc ++ pageD (pack m) k) = pageC m.seq (pack m) k := by
    unfold pageC
    rw [HN.out]
    have : (pageD (pack m) k).length = Lc := by rw [pageD_len]; omega
    rw [this]
   have htk : (pagesL m.seq (pack m)).take (k + 1) = (pagesL m.seq (pack m)).take k ++ [pageC m.seq (pack m) k] := by
    have hl : k < (pagesL m.seq (pack m)).length := by rw [pagesL_len, HN.out]; exact hlt
    rw [List.take_succ_eq_append_getElem hl]
    simp [pagesL]
   have hrow := HX2.out.below HBR.out HX2.out.lt
   have v0 := hrow.cell 0
   simp only [List.getElem?_cons_zero] at v0
   have hgm := hrow.lt
   rw [HGM.out] at v0 hgm
   have hw1 : IntKind.i64.wrap ((k : Int) * 48) = (st : Int) := by rw [IntKind.wrap_i64]; omega
   have hs1 : (st : Int) ≤ (en : Int) := by omega
   have hs2 : (en : Int) ≤ (n : Int) := by omega
   have hs3 : (en : Int) ≤ (c1 : Int) := by have := hc1.1; omega
   have hL48 : Lc ≤ 48 := by omega
   have HSL := hid hcut
   have HQ := hid (show 0 ≤ m.seq ∧ m.seq < 4294967296 by omega)
   have HLT := hid hLT
   have HPC := hid hpc
   have HTK := hid htk
   obtain ⟨ibs, hibs, hzb0, hzb1, hzb2⟩ := info_parts infoBs
   clear hsl hcut hrow hen' hk48 hst hpd hpm hq hLT hpc htk
   refine Org.begin [10] (fun w' => Below wr.heap.size wr w') [0, 1, 2, 3, 4, 5, 6, 7, 8, 9, 10, 11, 12, 13] (by kernel_rfl) (below_drewN (Below.refl _ _) 1) (fun hS => ?_)
   iterate 2 (refine Org.free (v := ?_) rfl (by kernel_rfl) (by kernel_rfl) (by kernel_rfl) (by kernel_rfl) (by kernel_rfl) (fun _ _ _ h => h) (by kernel_rfl) (SM.of hS) ?_ ?_; rotate_left; (focus (intro w; refine Pure.val ?_; go_simp; (try with_reducible rfl); done)); try simp only [Act.put, List.setIfInBounds_toArray, List.set_cons_zero, List.set_cons_succ])
   (refine Org.yes (v := ?_) rfl (by kernel_rfl) (by kernel_rfl) (by kernel_rfl) (by kernel_rfl) (by kernel_rfl) (fun _ _ _ h => h) (by kernel_rfl) (SM.of hS) ?_ ?_; rotate_left; (focus (intro w hSw; (try dsimp only at hSw); have q0 := (hSw.cell (p := ⟨gm, 0, none⟩) hgm).trans v0; refine Pure.val ?_; go_simp; (try with_reducible rfl); done)); try simp only [Act.put, List.setIfInBounds_toArray, List.set_cons_zero, List.set_cons_succ])
   iterate 2 (refine Org.yes (v := ?_) rfl (by kernel_rfl) (by kernel_rfl) (by kernel_rfl) (by kernel_rfl) (by kernel_rfl) (fun _ _ _ h => h) (by kernel_rfl) (SM.of hS) ?_ ?_; rotate_left; (focus (intro w hSw; (try dsimp only at hSw); refine Pure.val ?_; go_simp; (try with_reducible rfl); done)); try simp only [Act.put, List.setIfInBounds_toArray, List.set_cons_zero, List.set_cons_succ])
   iterate 4 (refine Org.free (v := ?_) rfl (by kernel_rfl) (by kernel_rfl) (by kernel_rfl) (by kernel_rfl) (by kernel_rfl) (fun _ _ _ h => h) (by kernel_rfl) (SM.of hS) ?_ ?_; rotate_left; (focus (intro w; refine Pure.val ?_; go_simp; (try with_reducible rfl); done)); try simp only [Act.put, List.setIfInBounds_toArray, List.set_cons_zero, List.set_cons_succ])
   (refine Org.yes (v := ?_) rfl (by kernel_rfl) (by kernel_rfl) (by kernel_rfl) (by kernel_rfl) (by kernel_rfl) (fun _ _ _ h => h) (by kernel_rfl) (SM.of hS) ?_ ?_; rotate_left; (focus (intro w hSw; (try dsimp only at hSw); refine Pure.val ?_; go_simp; (try with_reducible rfl); done)); try simp only [Act.put, List.setIfInBounds_toArray, List.set_cons_zero, List.set_cons_succ])
   refine Org.mark (p := 10) rfl (by kernel_rfl) (by kernel_rfl) (by kernel_rfl) (by kernel_rfl) (fun K hK => ?_)
   go_simp
   go_at_call 66
   refine (pput_any m.seq (k : Int) (N : Int) w2.heap.size Ac (pageD (pack m) k) Lc Cc _ HQ.out (by omega) (by omega) (HSL.out.below (hS.mono HBR.out.size)) HBR.out.size (by omega)).mono ?_
   rintro e wz ⟨vz, rfl, hoz, hbz⟩
   obtain ⟨Az, cz, rfl, hz3, hz4, _⟩ := own_slice hoz
   have HOZ := hid hoz
   have HBZ := hid (hS.trans (hbz.mono hS.size))
   clear hoz hbz
   go_wp2_with fail
   refine hK.out _ _ ?_
   clear hK K hS
   try simp only [Act.put, List.setIfInBounds_toArray, List.set_cons_zero, List.set_cons_succ]
   refine Org.mark (p := 10) rfl (by kernel_rfl) (by kernel_rfl) (by kernel_rfl) (by kernel_rfl) (fun K hK => ?_)
   refine op_build1 23 33 (.tmp 35) (by rfl) _ (by rfl) rfl ibs (.slice none 0 0) Tryz.underlying23 hibs hzb0 hzb1 rfl ?_
   rintro w6 g6 hg6 hr6 hb6 hsz6
   subst hg6
   have HR6 := hid hr6
   have HB6 := hid hb6
   have HS6 := hid (HBZ.out.trans (hb6.mono HBZ.out.size))
   clear hr6 hb6 hsz6
   refine hK.out _ _ ?_
   clear hK K
   try simp only [Act.put, List.setIfInBounds_toArray, List.set_cons_zero, List.set_cons_succ]
   refine Org.mark (p := 10) rfl (by kernel_rfl) (by kernel_rfl) (by kernel_rfl) (by kernel_rfl) (fun K hK => ?_)
   refine op_append (.tmp 25) (.tmp 36) 23 rfl w2.heap.size 33 ibs (.slice none 0 0) 1 24 Tryz.underlying23 hibs hzb0 hzb1 hzb2 rfl (by omega) (.slice A k c) k vs rfl (by have := (HOBS.out.below HS6.out).own; rwa [HLT.out] at this) (wz.heap.size + 1) (some ⟨wz.heap.size, 0, none⟩) 1 1 [_] rfl (HR6.out.sl (by omega) (Nat.le_refl _)) (by intro u hu; simp only [List.mem_singleton] at hu; subst hu; rfl) (k + 1) rfl _ rfl (by omega) (by omega) (Nat.le_trans HBR.out.size HS6.out.size) ?_
   rintro A7 c7 w7 ho7 hg7 _
   have hps := OBs.push (HOBS.out.below HS6.out) (own_base (HOZ.out.below HB6.out) HBR.out.size) (by rw [HLT.out]; exact ho7) hg7
   have hb7 := below_own (HBR.out.trans (HS6.out.mono HBR.out.size)) (by have := (HOBS.out.below HS6.out).own; exact this) hg7 (Nat.le_refl _) (Nat.le_trans HBR.out.size HS6.out.size)
   have hc7 := own_cap ho7
   have HPS := hid hps
   have HB7 := hid hb7
   clear hps hb7 ho7 hg7
   refine hK.out _ _ ?_
   clear hK K
   try simp only [Act.put, List.setIfInBounds_toArray, List.set_cons_zero, List.set_cons_succ]
   (refine Org.free (v := ?_) rfl (by kernel_rfl) (by kernel_rfl) (by kernel_rfl) (by kernel_rfl) (by kernel_rfl) (fun _ _ _ h => h) (by kernel_rfl) (SM.past (p := 10) (by kernel_rfl) (by kernel_rfl)) ?_ ?_; rotate_left; (focus (intro w; refine Pure.val ?_; go_simp; (try with_reducible rfl); done)); try simp only [Act.put, List.setIfInBounds_toArray, List.set_cons_zero, List.set_cons_succ])
   refine Org.done (by kernel_rfl) ?_
   skip
   clear hAc hLc hCc hw1
   go_wp2_with fail
   go_roundw
   case rel =>
    have hps := HPS.out
    rw [HPC.out, ← HTK.out] at hps
    exact ⟨k + 1, A7, c7, _, by omega, rfl, by go_num, hc7, hps, HB7.out⟩
   case measure => simp [intOf] <;> omega
  ·have hlt' : ¬ (k : Int) < (N : Int) := by omega
   obtain rfl : k = N := by omega
   go_wp2_with fail
   go_ret
   have hl : (pagesL m.seq (pack m)).length = k := by rw [pagesL_len, HN.out]
   have ho := HOBS.out
   rw [List.take_of_length_le (by omega)] at ho
   refine ⟨A, c, vs, by rw [hl]; rfl, ?_, HB2.out.trans (HBR.out.mono HB2.out.size)⟩
   rw [hl]
   exact ho.base HB2.out.size
end Go.Proofs.YtnknjeipfjdjoaaGreatDoor
namespace Wells
open Go Go.RowKit
structure PEnt (P : Par) (i : Nat) (e : Ent) : Prop where
 name : ∃ x : Nat, x < 26 ∧ e.name = [BitVec.ofNat 8 (97 + 2 * i), BitVec.ofNat 8 (97 + x)]
 obj : 3 * (i : Int) ≤ e.obj ∧ e.obj ≤ 3 * (i : Int) + 2
 len : 0 ≤ e.len ∧ e.len ≤ P.K * P.S * 4
 tries : ∀ z ∈ e.tries, 0 ≤ z ∧ z ≤ 15
 count : (e.tries.length : Int) = countP P e.len
structure PlayM (m : Mani) : Prop where
 seq : 1 ≤ m.seq ∧ m.seq ≤ 1000
 next : 20 ≤ m.next ∧ m.next ≤ 119
 P : 1 ≤ m.P.K ∧ m.P.K ≤ 6 ∧ 1 ≤ m.P.H ∧ m.P.H ≤ 3 ∧ 1 ≤ m.P.S ∧ m.P.S ≤ 9
 extra : 0 ≤ m.extra ∧ m.extra ≤ 16
 dlen : m.drives.length ≤ 8
 drives : StrictUp m.drives
 drv : ∀ z ∈ m.drives, 0 ≤ z ∧ z ≤ 56
 olen : m.objs.length ≤ 5
 objs : ∀ i, i < m.objs.length → PEnt m.P i (m.objs.getD i default)
theorem less_first {a b : UInt8} {x y : List UInt8} (h : a < b) : Op.bytesLess (a :: x) (b :: y) = true := by
 simp [Op.bytesLess, h]
theorem strB_toList (l : List Byte) : (strB l).toList = l.map UInt8.ofBitVec := by
 rw [ByteArray.toList_eq]
 unfold strB
 simp
theorem PEnt.less {P : Par} {i : Nat} {e f : Ent} (he : PEnt P i e) (hf : PEnt P (i + 1) f) (hi : i ≤ 10) : lessS e.name f.name = true := by
 obtain ⟨x, _, hx⟩ := he.name
 obtain ⟨y, _, hy⟩ := hf.name
 unfold lessS
 rw [hx, hy, strB_toList, strB_toList]
 simp only [List.map_cons]
 apply less_first
 rw [UInt8.lt_iff_toNat_lt]
 show (BitVec.ofNat 8 (97 + 2 * i)).toNat < (BitVec.ofNat 8 (97 + 2 * (i + 1))).toNat
 rw [BitVec.toNat_ofNat, BitVec.toNat_ofNat]
 omega
theorem PEnt.nameOk {P : Par} {i : Nat} {e : Ent} (he : PEnt P i e) (hi : i ≤ 10) : nameOk e.name = true := by
 obtain ⟨x, hx0, hx⟩ := he.name
 rw [hx]
 unfold Wells.nameOk
 rw [Bool.and_eq_true]
 refine ⟨?_, by simp⟩
 simp only [List.all_cons, List.all_nil, Bool.and_true, Bool.and_eq_true]
 refine ⟨?_, ?_⟩ <;> (unfold nameC; rw [BitVec.toNat_ofNat]; refine decide_eq_true ?_; omega)
theorem PlayM.parOk {m : Mani} (h : PlayM m) : m.P.Ok := by
 obtain ⟨h1, h2, h3, h4, h5, h6⟩ := h.P
 unfold Par.Ok
 omega
theorem PlayM.may {m : Mani} (h : PlayM m) : m.may = true := by
 have hP := Par.ok_may h.parOk
 have h1 := h.seq; have h2 := h.next; have h3 := h.extra; have h4 := h.olen
 refine p_may ⟨by omega, by omega, hP, h3, h.drives.rise (fun z hz => by have := h.drv z hz; omega), by omega, fun i hi => ?_⟩
 have hs := Par.size_le h.parOk
 unfold Par.size at hs
 have he := h.objs i hi
 obtain ⟨q, hq⟩ : ∃ q, m.P.K * m.P.S = q := ⟨_, rfl⟩
 have hE : entB m (m.objs.getD i default) = true := by
  unfold entB
  rw [he.nameOk (by omega), Bool.true_and]
  have ho := he.obj; have hl := he.len
  rw [hq] at hl hs
  rw [hq, decide_eq_true (by omega), decide_eq_true (by omega), Bool.true_and, Bool.true_and, Bool.and_eq_true]
  refine ⟨?_, decide_eq_true he.count⟩
  unfold triesOk
  rw [List.all_eq_true]
  intro z hz
  exact decide_eq_true (he.tries z hz)
 unfold objStep entAt
 rw [hE, Bool.true_and, Bool.and_eq_true]
 refine ⟨?_, ?_⟩
 ·by_cases h0 : i = 0
  ·simp [h0]
  ·obtain ⟨k, rfl⟩ : ∃ k, i = k + 1 := ⟨i - 1, by omega⟩
   rw [Nat.add_sub_cancel, (h.objs k (by omega)).less he (by omega), Bool.or_true]
 ·rw [List.all_eq_true]
  intro y hy
  obtain ⟨j, hj, rfl⟩ := List.getElem_of_mem hy
  have hji : j < i := by have := hj; rw [List.length_take] at this; omega
  have hpj := (h.objs j (by omega)).obj
  rw [List.getD_eq_getElem?_getD, List.getElem?_eq_getElem (by omega)] at hpj
  simp only [Option.getD_some] at hpj
  rw [List.getElem_take]
  have hoi := he.obj
  simp only [Bool.not_eq_true', decide_eq_false_iff_not]
  intro e
  rw [e] at hpj
  omega
theorem PlayM.m64 {m : Mani} (h : PlayM m) : M64 m ∧ ∀ e ∈ m.objs, e.name.length ≤ 1048576 := by
 have h1 := h.seq; have h2 := h.next; have h3 := h.extra
 obtain ⟨k1, k2, k3, k4, k5, k6⟩ := h.P
 have hs := Par.size_le h.parOk
 unfold Par.size at hs
 obtain ⟨q, hq⟩ : ∃ q, m.P.K * m.P.S = q := ⟨_, rfl⟩
 rw [hq] at hs
 have hob : ∀ e ∈ m.objs, ∃ i, i < m.objs.length ∧ PEnt m.P i e := fun e he => by
  obtain ⟨i, hi, rfl⟩ := List.getElem_of_mem he
  have := h.objs i hi
  rw [List.getD_eq_getElem?_getD, List.getElem?_eq_getElem hi] at this
  exact ⟨i, hi, this⟩
 refine ⟨⟨by unfold i64; omega, by unfold i64; omega, by unfold i64; omega, by unfold i64; omega, by unfold i64; omega, by unfold i64; omega, fun z hz => ?_, fun e he => ?_⟩, fun e he => ?_⟩
 ·have := h.drv z hz; unfold i64; omega
 ·obtain ⟨i, hi, hp⟩ := hob e he
  have ho := hp.obj; have hl := hp.len; have h4 := h.olen
  rw [hq] at hl
  refine ⟨by unfold i64; omega, by unfold i64; omega, fun z hz => ?_⟩
  have := hp.tries z hz; unfold i64; omega
 ·obtain ⟨i, hi, hp⟩ := hob e he
  obtain ⟨x, _, hx⟩ := hp.name
  rw [hx]
  simp
end Wells
