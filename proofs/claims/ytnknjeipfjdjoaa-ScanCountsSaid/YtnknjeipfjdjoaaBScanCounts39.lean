/- SplitP DrvOps DrvSync -/
import Derived.Deep.DeepCutAuto
import Derived.BigGuardPart
import Derived.Deep.RegionLaw
import Derived.Deep.AppendLies
import Derived.Test.YtnknjeipfjdjoaaBScanCounts08
import Derived.Test.YtnknjeipfjdjoaaBScanCounts10
import Derived.Test.YtnknjeipfjdjoaaBScanCounts17
import Derived.Test.YtnknjeipfjdjoaaBScanCounts36
import Derived.Test.YtnknjeipfjdjoaaBScanCounts38
set_option maxRecDepth 20000
namespace Go.Proofs.Ytnknjeipfjdjoaa
open Go.RowKit Wells
theorem _root_.Wells.may_seqS {m : Mani} (h : m.may = true) : 1 ≤ m.seq ∧ m.seq ≤ 2147483647 := by
  unfold Mani.may preB at h
  simp only [Bool.and_eq_true, decide_eq_true_eq] at h
  exact h.1.1
def SplitR (m : Mani) (w : World) (e : Ending) (w' : World) : Prop :=
  ∃ (A : Option Addr) (c : Nat) (vs : List Value), e = .returned (.slice A (pagesL m.seq (pack m)).length c) ∧ OBs w.heap.size w' (.slice A (pagesL m.seq (pack m)).length c) vs (pagesL m.seq (pack m)) ∧ Below w.heap.size w w'
set_option maxRecDepth 20000 in
set_option maxHeartbeats 1000000 in
theorem psplit_any (m : Mani) (B : Nat) (Ad Ao : Option Addr) (nd cd no co : Nat) (ts : List Value) (w : World) (h : RM w B m Ad nd cd Ao no co ts) (hB : B ≤ w.heap.size) (h64 : M64 m) (hnm : ∀ e ∈ m.objs, e.name.length ≤ 1048576) :
    Calls Try.prog 56 #[m.val (.slice Ad nd cd) (.slice Ao no co)] w (SplitR m w) := by
  have hb : Below w.heap.size w (w.alloc (.cells #[.int .i64 m.seq, .int .i64 m.next, .int .i64 m.P.K, .int .i64 m.P.H, .int .i64 m.P.S, .int .i64 m.extra, .slice Ad nd cd, .slice Ao no co] 27)) := (Below.refl _ _).alloc (Nat.le_refl _) _
  have hx := Row.new w 27 #[.int .i64 m.seq, .int .i64 m.next, .int .i64 m.P.K, .int .i64 m.P.H, .int .i64 m.P.S, .int .i64 m.extra, .slice Ad nd cd, .slice Ao no co]
  have HR := hid ((h.below (hb.mono hB)))
  have x0 := hx.cell 0
  have x1 := hx.cell 1
  have x2 := hx.cell 2
  have x3 := hx.cell 3
  have x4 := hx.cell 4
  have x5 := hx.cell 5
  have x6 := hx.cell 6
  have x7 := hx.cell 7
  simp only [List.getElem?_cons_succ, List.getElem?_cons_zero] at x0 x1 x2 x3 x4 x5 x6 x7
  have HX := hid hx
  have HB := hid hb
  have hz := hb.size
  clear hb hx h
  unfold Mani.val
  go_enter Try.func56, Try.ntmps56
  go_upto_region 1 with fail
  generalize w.alloc (.cells #[.int .i64 m.seq, .int .i64 m.next, .int .i64 m.P.K, .int .i64 m.P.H, .int .i64 m.P.S, .int .i64 m.extra, .slice Ad nd cd, .slice Ao no co] 27) = w1 at *
  go_wp2_with fail
  refine (pack_any m B Ad Ao nd cd no co ts w1 HR.out (Nat.le_trans hB hz) h64 hnm).mono ?_
  rintro e w2 ⟨A1, n, c1, rfl, hn, hn1, ho, hb2⟩
  have hc1 : n ≤ c1 ∧ c1 ≤ 9223372036854775807 := by
    obtain ⟨_, _, ee, hc2, hc3⟩ := own_slice ho
    injection ee with e1 e2 e3
    subst e3
    exact ⟨by omega, by omega⟩
  unfold OB at ho
  rw [hn] at ho
  have HO := hid ho
  have HB2 := hid (HB.out.trans (hb2.mono hz))
  have HX2 := hid (HX.out.below hb2 HX.out.lt)
  clear ho hb2 x0 x1 x2 x3 x4 x5 x6 x7
  obtain ⟨N, hN⟩ : ∃ N, pageN (pack m) = N := ⟨_, rfl⟩
  have hNi : ((n : Int) + 48 - 1) / 48 = (N : Int) := by rw [← hN]; unfold pageN; rw [hn]; omega
  have hNn : N = (n + 47) / 48 := by rw [← hN]; unfold pageN; rw [hn]
  have HN := hid hN
  have hN21 : N ≤ 21 := by omega
  have HNN := hid hNn
  clear hNn
  clear hN
  go_wp2_with fail
  rw [hNi]
  clear hNi
  obtain ⟨gm, hgmE⟩ : ∃ gm, w.heap.size = gm := ⟨_, rfl⟩
  try rw [hgmE]
  have HGM := hid hgmE
  clear hgmE
  go_loopw [5, 16] (fun v i wr => ∃ (k : Nat) (A : Option Addr) (c : Nat) (vs : List Value), k ≤ N ∧ v = .slice A k c ∧ i = .int .i64 (k : Int) ∧ (k ≤ c ∧ c ≤ 9223372036854775807) ∧ OBs w2.heap.size wr (.slice A k c) vs ((pagesL m.seq (pack m)).take k) ∧ Below w2.heap.size w2 wr) (fun _ i _ => N - (intOf i).toNat)
  case atStart => exact ⟨0, none, 0, [], Nat.zero_le _, rfl, rfl, by omega, by simpa using OBs.nil_ _ _, Below.refl _ _⟩
  case round =>
    obtain ⟨k, A, c, vs, hk, rfl, rfl, hkc, hobs, hbr⟩ := hrel
    have HOBS := hid hobs
    have HBR := hid hbr
    clear hobs hbr
    by_cases hlt : k < N
    · have hlt' : (k : Int) < (N : Int) := by omega
      obtain ⟨en, hen, hen1⟩ : ∃ en : Nat, (if ((k : Int) + 1) * 48 < (n : Int) then ((k : Int) + 1) * 48 else (n : Int)) = (en : Int) ∧ en = min n ((k + 1) * 48) := by
        refine ⟨min n ((k + 1) * 48), ?_, rfl⟩
        split <;> omega
      have HEN := hid hen1
      clear hen1
      go_upto_region 8 with fail
      try rw [hen]
      have hen' := HEN.out
      obtain ⟨st, hst⟩ : ∃ st, 48 * k = st := ⟨_, rfl⟩
      have hk48 : st ≤ en := by have := HNN.out; omega
      have hen2 : en ≤ n := by omega
      obtain ⟨Ac, hAc⟩ : ∃ Ac, (if c1 = st then A1 else Option.map (fun x => x.add st) A1) = Ac := ⟨_, rfl⟩
      obtain ⟨Lc, hLc⟩ : ∃ Lc, en - st = Lc := ⟨_, rfl⟩
      obtain ⟨Cc, hCc⟩ : ∃ Cc, c1 - st = Cc := ⟨_, rfl⟩
      have hsl := (Sl.own HO.out).below HBR.out
      have hcut := hsl.cut (c := c1) hk48 hen2 (by have := hc1.1; omega)
      have hpd : ((pack m).drop st).take Lc = pageD (pack m) k := by
        unfold pageD
        rw [hst]
        have hl := hn
        rcases Nat.le_total n ((k + 1) * 48) with h1 | h1
        · rw [List.take_of_length_le (by simp; omega), List.take_of_length_le (by simp; omega)]
        · rw [show Lc = 48 by omega]
      simp only [Nat.mul_one] at hcut
      rw [hAc, hLc, ← List.map_drop, ← List.map_take, hpd] at hcut
      have hpm : m.may = true := by
        cases hm : m.may
        · have : pack m = [] := by unfold pack; rw [hm]; rfl
          rw [this] at hn
          simp at hn
          have := HNN.out
          omega
        · rfl
      have hq := may_seqS hpm
      have hLT : ((pagesL m.seq (pack m)).take k).length = k := by rw [List.length_take, pagesL_len, HN.out]; omega
      have hpc : cellL 2 (pageH m.seq k N Lc ++ pageD (pack m) k) = pageC m.seq (pack m) k := by
        unfold pageC
        rw [HN.out]
        have : (pageD (pack m) k).length = Lc := by rw [pageD_len]; omega
        rw [this]
      have htk : (pagesL m.seq (pack m)).take (k + 1) = (pagesL m.seq (pack m)).take k ++ [pageC m.seq (pack m) k] := by
        have hl : k < (pagesL m.seq (pack m)).length := by rw [pagesL_len, HN.out]; exact hlt
        rw [List.take_succ_eq_append_getElem hl]
        simp [pagesL]
      have hrow := HX2.out.below HBR.out HX2.out.lt
      have v0 := hrow.cell 0
      simp only [List.getElem?_cons_zero] at v0
      have hgm := hrow.lt
      rw [HGM.out] at v0 hgm
      have hw1 : IntKind.i64.wrap ((k : Int) * 48) = (st : Int) := by rw [IntKind.wrap_i64]; omega
      have hs1 : (st : Int) ≤ (en : Int) := by omega
      have hs2 : (en : Int) ≤ (n : Int) := by omega
      have hs3 : (en : Int) ≤ (c1 : Int) := by have := hc1.1; omega
      have hL48 : Lc ≤ 48 := by omega
      have HSL := hid hcut
      have HQ := hid (show 0 ≤ m.seq ∧ m.seq < 4294967296 by omega)
      have HLT := hid hLT
      have HPC := hid hpc
      have HTK := hid htk
      obtain ⟨ibs, hibs, hzb0, hzb1, hzb2⟩ := info_parts infoBs
      clear hsl hcut hrow hen' hk48 hst hpd hpm hq hLT hpc htk
      refine Org.begin [10] (fun w' => Below wr.heap.size wr w') [0, 1, 2, 3, 4, 5, 6, 7, 8, 9, 10, 11, 12, 13] (by kernel_rfl) (below_drewN (Below.refl _ _) 1) (fun hS => ?_)
      (refine Org.free (v := ?_) rfl (by kernel_rfl) (by kernel_rfl) (by kernel_rfl) (by kernel_rfl) (by kernel_rfl) (fun _ _ _ h => h) (by kernel_rfl) (SM.of hS) ?_ ?_; rotate_left; (focus (intro w; refine Pure.val ?_; go_simp; (try with_reducible rfl); done)); try simp only [Act.put, List.setIfInBounds_toArray, List.set_cons_zero, List.set_cons_succ])
      (refine Org.free (v := ?_) rfl (by kernel_rfl) (by kernel_rfl) (by kernel_rfl) (by kernel_rfl) (by kernel_rfl) (fun _ _ _ h => h) (by kernel_rfl) (SM.of hS) ?_ ?_; rotate_left; (focus (intro w; refine Pure.val ?_; go_simp; (try with_reducible rfl); done)); try simp only [Act.put, List.setIfInBounds_toArray, List.set_cons_zero, List.set_cons_succ])
      (refine Org.yes (v := ?_) rfl (by kernel_rfl) (by kernel_rfl) (by kernel_rfl) (by kernel_rfl) (by kernel_rfl) (fun _ _ _ h => h) (by kernel_rfl) (SM.of hS) ?_ ?_; rotate_left; (focus (intro w hSw; (try dsimp only at hSw); have q0 := (hSw.cell (p := ⟨gm, 0, none⟩) hgm).trans v0; refine Pure.val ?_; go_simp; (try with_reducible rfl); done)); try simp only [Act.put, List.setIfInBounds_toArray, List.set_cons_zero, List.set_cons_succ])
      (refine Org.yes (v := ?_) rfl (by kernel_rfl) (by kernel_rfl) (by kernel_rfl) (by kernel_rfl) (by kernel_rfl) (fun _ _ _ h => h) (by kernel_rfl) (SM.of hS) ?_ ?_; rotate_left; (focus (intro w hSw; (try dsimp only at hSw); refine Pure.val ?_; go_simp; (try with_reducible rfl); done)); try simp only [Act.put, List.setIfInBounds_toArray, List.set_cons_zero, List.set_cons_succ])
      (refine Org.yes (v := ?_) rfl (by kernel_rfl) (by kernel_rfl) (by kernel_rfl) (by kernel_rfl) (by kernel_rfl) (fun _ _ _ h => h) (by kernel_rfl) (SM.of hS) ?_ ?_; rotate_left; (focus (intro w hSw; (try dsimp only at hSw); refine Pure.val ?_; go_simp; (try with_reducible rfl); done)); try simp only [Act.put, List.setIfInBounds_toArray, List.set_cons_zero, List.set_cons_succ])
      (refine Org.free (v := ?_) rfl (by kernel_rfl) (by kernel_rfl) (by kernel_rfl) (by kernel_rfl) (by kernel_rfl) (fun _ _ _ h => h) (by kernel_rfl) (SM.of hS) ?_ ?_; rotate_left; (focus (intro w; refine Pure.val ?_; go_simp; (try with_reducible rfl); done)); try simp only [Act.put, List.setIfInBounds_toArray, List.set_cons_zero, List.set_cons_succ])
      (refine Org.free (v := ?_) rfl (by kernel_rfl) (by kernel_rfl) (by kernel_rfl) (by kernel_rfl) (by kernel_rfl) (fun _ _ _ h => h) (by kernel_rfl) (SM.of hS) ?_ ?_; rotate_left; (focus (intro w; refine Pure.val ?_; go_simp; (try with_reducible rfl); done)); try simp only [Act.put, List.setIfInBounds_toArray, List.set_cons_zero, List.set_cons_succ])
      (refine Org.free (v := ?_) rfl (by kernel_rfl) (by kernel_rfl) (by kernel_rfl) (by kernel_rfl) (by kernel_rfl) (fun _ _ _ h => h) (by kernel_rfl) (SM.of hS) ?_ ?_; rotate_left; (focus (intro w; refine Pure.val ?_; go_simp; (try with_reducible rfl); done)); try simp only [Act.put, List.setIfInBounds_toArray, List.set_cons_zero, List.set_cons_succ])
      (refine Org.free (v := ?_) rfl (by kernel_rfl) (by kernel_rfl) (by kernel_rfl) (by kernel_rfl) (by kernel_rfl) (fun _ _ _ h => h) (by kernel_rfl) (SM.of hS) ?_ ?_; rotate_left; (focus (intro w; refine Pure.val ?_; go_simp; (try with_reducible rfl); done)); try simp only [Act.put, List.setIfInBounds_toArray, List.set_cons_zero, List.set_cons_succ])
      (refine Org.yes (v := ?_) rfl (by kernel_rfl) (by kernel_rfl) (by kernel_rfl) (by kernel_rfl) (by kernel_rfl) (fun _ _ _ h => h) (by kernel_rfl) (SM.of hS) ?_ ?_; rotate_left; (focus (intro w hSw; (try dsimp only at hSw); refine Pure.val ?_; go_simp; (try with_reducible rfl); done)); try simp only [Act.put, List.setIfInBounds_toArray, List.set_cons_zero, List.set_cons_succ])
      refine Org.mark (p := 10) rfl (by kernel_rfl) (by kernel_rfl) (by kernel_rfl) (by kernel_rfl) (fun K hK => ?_)
      go_simp
      go_at_call 77
      refine (pput_any m.seq (k : Int) (N : Int) w2.heap.size Ac (pageD (pack m) k) Lc Cc _ HQ.out (by omega) (by omega) (HSL.out.below (hS.mono HBR.out.size)) HBR.out.size (by omega)).mono ?_
      rintro e wz ⟨vz, rfl, hoz, hbz⟩
      obtain ⟨Az, cz, rfl, hz3, hz4, _⟩ := own_slice hoz
      have HOZ := hid hoz
      have HBZ := hid (hS.trans (hbz.mono hS.size))
      clear hoz hbz
      go_wp2_with fail
      refine hK.out _ _ ?_
      clear hK K hS
      try simp only [Act.put, List.setIfInBounds_toArray, List.set_cons_zero, List.set_cons_succ]
      refine Org.mark (p := 10) rfl (by kernel_rfl) (by kernel_rfl) (by kernel_rfl) (by kernel_rfl) (fun K hK => ?_)
      refine op_build1 43 29 (.tmp 35) (by rfl) _ (by rfl) rfl ibs (.slice none 0 0) Try.underlying43 hibs hzb0 hzb1 rfl ?_
      rintro w6 g6 hg6 hr6 hb6 hsz6
      subst hg6
      have HR6 := hid hr6
      have HB6 := hid hb6
      have HS6 := hid (HBZ.out.trans (hb6.mono HBZ.out.size))
      clear hr6 hb6 hsz6
      refine hK.out _ _ ?_
      clear hK K
      try simp only [Act.put, List.setIfInBounds_toArray, List.set_cons_zero, List.set_cons_succ]
      refine Org.mark (p := 10) rfl (by kernel_rfl) (by kernel_rfl) (by kernel_rfl) (by kernel_rfl) (fun K hK => ?_)
      refine op_append (.tmp 25) (.tmp 36) 43 rfl w2.heap.size 29 ibs (.slice none 0 0) 1 24 Try.underlying43 hibs hzb0 hzb1 hzb2 rfl (by omega) (.slice A k c) k vs rfl (by have := (HOBS.out.below HS6.out).own; rwa [HLT.out] at this) (wz.heap.size + 1) (some ⟨wz.heap.size, 0, none⟩) 1 1 [_] rfl (HR6.out.sl (by omega) (Nat.le_refl _)) (by intro u hu; simp only [List.mem_singleton] at hu; subst hu; rfl) (k + 1) rfl _ rfl (by omega) (by omega) (Nat.le_trans HBR.out.size HS6.out.size) ?_
      rintro A7 c7 w7 ho7 hg7 _
      have hps := OBs.push (HOBS.out.below HS6.out) (own_base (HOZ.out.below HB6.out) HBR.out.size) (by rw [HLT.out]; exact ho7) hg7
      have hb7 := below_own (HBR.out.trans (HS6.out.mono HBR.out.size)) (by have := (HOBS.out.below HS6.out).own; exact this) hg7 (Nat.le_refl _) (Nat.le_trans HBR.out.size HS6.out.size)
      have hc7 := own_cap ho7
      have HPS := hid hps
      have HB7 := hid hb7
      clear hps hb7 ho7 hg7
      refine hK.out _ _ ?_
      clear hK K
      try simp only [Act.put, List.setIfInBounds_toArray, List.set_cons_zero, List.set_cons_succ]
      (refine Org.free (v := ?_) rfl (by kernel_rfl) (by kernel_rfl) (by kernel_rfl) (by kernel_rfl) (by kernel_rfl) (fun _ _ _ h => h) (by kernel_rfl) (SM.past (p := 10) (by kernel_rfl) (by kernel_rfl)) ?_ ?_; rotate_left; (focus (intro w; refine Pure.val ?_; go_simp; (try with_reducible rfl); done)); try simp only [Act.put, List.setIfInBounds_toArray, List.set_cons_zero, List.set_cons_succ])
      refine Org.done (by kernel_rfl) ?_
      skip
      clear hAc hLc hCc hw1
      go_wp2_with fail
      go_roundw
      case rel =>
        have hps := HPS.out
        rw [HPC.out, ← HTK.out] at hps
        exact ⟨k + 1, A7, c7, _, by omega, rfl, by go_num, hc7, hps, HB7.out⟩
      case measure => simp [intOf] <;> omega
    · have hlt' : ¬ (k : Int) < (N : Int) := by omega
      obtain rfl : k = N := by omega
      go_wp2_with fail
      go_ret
      have hl : (pagesL m.seq (pack m)).length = k := by rw [pagesL_len, HN.out]
      have ho := HOBS.out
      rw [List.take_of_length_le (by omega)] at ho
      refine ⟨A, c, vs, by rw [hl]; rfl, ?_, HB2.out.trans (HBR.out.mono HB2.out.size)⟩
      rw [hl]
      exact ho.base HB2.out.size
end Go.Proofs.Ytnknjeipfjdjoaa

namespace Go.Proofs.Ytnknjeipfjdjoaa
open Go.RowKit Wells
theorem row_ne {w : World} {g g' : Nat} {t t' : TypeId} {cs cs' : List Value} (h : Row w g t cs) (h' : Row w g' t' cs') (hne : t ≠ t') : g ≠ g' := fun e => by
  subst e
  unfold Row at h h'
  rw [h] at h'
  injection h' with h'
  injection h' with _ h' _
  exact hne h'
section
variable {F : Nat → Prop} {w : World} {g pg : Nat} {lv bv : Value} {lvs bvs : List Value} {d : Dr}
theorem Drv.ne (h : Drv F w g pg lv lvs bv bvs d) : g ≠ pg := row_ne h.row h.pow (by decide)
theorem Drv.setL (h : Drv F w g pg lv lvs bv bvs d) {lv' : Value} {lvs' : List Value} {L' : List (List Byte)} (hl : Lst F w lv' lvs' L') (hs : ∀ k, lv'.ownBlock = some k → bv.ownBlock ≠ some k) (hd : Dist (lvs' ++ bvs)) :
    Drv F (w.setCell ⟨g, 2, none⟩ lv') g pg lv' lvs' bv bvs { d with L := L' } :=
  ⟨h.row.set 2 lv', h.pow.far (Ne.symm h.ne) _, h.fg, h.fp, fun k hk => by simpa [World.setCell] using h.lt k hk, hl.far h.row (by decide) (by decide) _ _, h.b.far h.row (by decide) (by decide) _ _, hs, hd⟩
theorem Drv.setWait (h : Drv F w g pg lv lvs bv bvs d) (n : Nat) : Drv F (w.setCell ⟨g, 3, none⟩ (.int .i64 n)) g pg lv lvs bv bvs { d with wait := n } :=
  ⟨h.row.set 3 _, h.pow.far (Ne.symm h.ne) _, h.fg, h.fp, fun k hk => by simpa [World.setCell] using h.lt k hk, h.l.far h.row (by decide) (by decide) _ _, h.b.far h.row (by decide) (by decide) _ _, h.sep, h.dist⟩
theorem Drv.setB (h : Drv F w g pg lv lvs bv bvs d) {bv' : Value} {bvs' : List Value} {B' : List (List Byte)} (hl : Lst F w bv' bvs' B') (hs : ∀ k, lv.ownBlock = some k → bv'.ownBlock ≠ some k) (hd : Dist (lvs ++ bvs')) :
    Drv F (w.setCell ⟨g, 4, none⟩ bv') g pg lv lvs bv' bvs' { d with B := B' } :=
  ⟨h.row.set 4 bv', h.pow.far (Ne.symm h.ne) _, h.fg, h.fp, fun k hk => by simpa [World.setCell] using h.lt k hk, h.l.far h.row (by decide) (by decide) _ _, hl.far h.row (by decide) (by decide) _ _, hs, hd⟩
theorem Drv.setHas (h : Drv F w g pg lv lvs bv bvs d) (b : Bool) : Drv F (w.setCell ⟨g, 5, none⟩ (.bool b)) g pg lv lvs bv bvs { d with has := b } :=
  ⟨h.row.set 5 _, h.pow.far (Ne.symm h.ne) _, h.fg, h.fp, fun k hk => by simpa [World.setCell] using h.lt k hk, h.l.far h.row (by decide) (by decide) _ _, h.b.far h.row (by decide) (by decide) _ _, h.sep, h.dist⟩
theorem Drv.setLost (h : Drv F w g pg lv lvs bv bvs d) (b : Bool) : Drv F (w.setCell ⟨g, 6, none⟩ (.bool b)) g pg lv lvs bv bvs { d with lost := b } :=
  ⟨h.row.set 6 _, h.pow.far (Ne.symm h.ne) _, h.fg, h.fp, fun k hk => by simpa [World.setCell] using h.lt k hk, h.l.far h.row (by decide) (by decide) _ _, h.b.far h.row (by decide) (by decide) _ _, h.sep, h.dist⟩
theorem dist_left {a b : List Value} (h : Dist (a ++ b)) : Dist a := (List.pairwise_append.1 h).1
theorem Drv.noB (h : Drv F w g pg lv lvs bv bvs d) : Drv F (w.setCell ⟨g, 4, none⟩ (.slice none 0 0)) g pg lv lvs (.slice none 0 0) [] { d with B := [] } :=
  h.setB (Lst.nil_ F w) (fun k _ e => by cases e) (by rw [List.append_nil]; exact dist_left h.dist)
theorem Drv.went (h : Drv F w g pg lv lvs bv bvs d) : Drv F ((w.setCell ⟨g, 4, none⟩ (.slice none 0 0)).setCell ⟨g, 5, none⟩ (.bool false)) g pg lv lvs (.slice none 0 0) [] d.went := h.noB.setHas false
theorem Drv.power (h : Drv F w g pg lv lvs bv bvs d) {w' : World} {s' : Pw} (hr : Row w' pg 94 (pw s')) (hg : w.grownBy w' (some pg)) : Drv F w' g pg lv lvs bv bvs { d with s := s' } := by
  have ho : Only (fun k => k = pg) w w' := Only.of_grown hg (fun k e => by injection e with e; exact e.symm)
  have fl : ∀ {v : Value} {vs : List Value} {ls : List (List Byte)}, Lst F w v vs ls → Lst F w' v vs ls := fun hl =>
    ⟨hl.own.only ho (fun k hk e => own_row_ne hl.own.own h.pow (by decide) k hk e) (fun y hy k hk e => by
      have hll := hl.len
      obtain ⟨j, hj, rfl⟩ := List.getElem_of_mem hy
      have := hl.own.at_ j (by omega)
      rw [List.getD_eq_getElem?_getD, List.getElem?_eq_getElem hj] at this
      exact own_row_ne this h.pow (by decide) k hk e), hl.iv, hl.is⟩
  exact ⟨h.row.only ho h.ne, hr, h.fg, h.fp, fun k hk => Nat.lt_of_lt_of_le (h.lt k hk) hg.size, fl h.l, fl h.b, h.sep, h.dist⟩
end
theorem dnew_any (n pg : Nat) (s : Pw) (w : World) (hn : 1 ≤ n) (hn2 : n ≤ 512) (hp : Row w pg 94 (pw s)) :
    Calls Try.prog 21 #[.int .i64 n, .pointer (some ⟨pg, 0, none⟩)] w fun e w' => ∃ g, e = .returned (.pointer (some ⟨g, 0, none⟩)) ∧ w.heap.size ≤ g ∧ DrvE (fun k => k = g ∨ k = pg) w' g pg (Dr.new s n) ∧ Below w.heap.size w w' := by
  have hr := Row.new w 83 #[.pointer (some ⟨pg, 0, none⟩), .int .i64 n, .slice none 0 0, .int .i64 0, .slice none 0 0, .bool false, .bool false]
  have hpl := hp.lt
  go_enter Try.func21, Try.ntmps21
  go_wp2_with fail
  go_ret
  refine ⟨w.heap.size, rfl, Nat.le_refl _, ⟨.slice none 0 0, [], .slice none 0 0, [], hr, hp.alloc _, .inl rfl, .inr rfl, fun k hk => ?_, Lst.nil_ _ _, Lst.nil_ _ _, fun k e => (by cases e), List.Pairwise.nil⟩, (Below.refl _ _).alloc (Nat.le_refl _) _⟩
  rcases hk with rfl | rfl <;> simp <;> omega
theorem dwent_any (F : Nat → Prop) (g pg : Nat) (d : Dr) (w : World) (h : DrvE F w g pg d) : Calls Try.prog 67 #[.pointer (some ⟨g, 0, none⟩)] w fun e w' => e = .returned (.int .i64 0) ∧ DrvE F w' g pg d.went ∧ Only F w w' := by
  obtain ⟨lv, lvs, bv, bvs, h⟩ := h
  have c4 := h.row.cell 4
  have c5 := h.row.cell 5
  have f4 := h.row.frozen 4
  have f5 := h.row.frozen 5
  have e4 : (drRow pg d lv bv)[4]? = some bv := rfl
  have e5 : (drRow pg d lv bv)[5]? = some (.bool d.has) := rfl
  rw [e4] at c4
  rw [e5] at c5
  clear e4 e5
  have hw := h.went
  have ho : Only F w ((w.setCell ⟨g, 4, none⟩ (.slice none 0 0)).setCell ⟨g, 5, none⟩ (.bool false)) := ((Only.refl F w).set h.fg 4 _).set h.fg 5 _
  go_enter Try.func67, Try.ntmps67
  go_wp2_with fail
  go_ret
  exact ⟨rfl, ⟨_, _, _, _, hw⟩, ho⟩
end Go.Proofs.Ytnknjeipfjdjoaa

namespace Go.Proofs.Ytnknjeipfjdjoaa
open Go.RowKit Wells
theorem errno_ret {a b : Int} (h : a = b) : Ending.returned (.int .i64 a) = .returned (.int .i64 b) := by rw [h]
theorem dsync_any (F : Nat → Prop) (g pg : Nat) (d : Dr) (m : Nat) (w : World) (h : DrvE F w g pg d) (hok : DOk m d) (hm : m ≤ 1000000) :
    Calls Try.prog 39 #[.pointer (some ⟨g, 0, none⟩)] w fun e w' => e = .returned (.int .i64 d.sync.2) ∧ DrvE F w' g pg d.sync.1 ∧ Only F w w' := by
  obtain ⟨lv, lvs, bv, bvs, h⟩ := h
  have c6 := h.row.cell 6
  have c0 := h.row.cell 0
  have e6 : (drRow pg d lv bv)[6]? = some (.bool d.lost) := rfl
  have e0 : (drRow pg d lv bv)[0]? = some (.pointer (some ⟨pg, 0, none⟩)) := rfl
  rw [e6] at c6
  rw [e0] at c0
  clear e6 e0
  obtain ⟨S, hS⟩ : ∃ S, d.sync = S := ⟨_, rfl⟩
  rw [hS]
  have HS := hid hS
  clear hS
  have hl := hok.left
  have ho1 := hok.offs.1
  have ho2 := hok.offs.2
  cases hlo : d.lost with
  | true =>
    rw [hlo] at c6
    have hs : S = (d, 5) := by rw [← HS.out]; unfold Dr.sync; rw [hlo]; rfl
    subst hs
    go_enter Try.func39, Try.ntmps39
    go_wp2_with fail
    go_ret
    exact ⟨rfl, ⟨_, _, _, _, h⟩, Only.refl _ _⟩
  | false =>
    rw [hlo] at c6
    have HLO := hid hlo
    clear hlo
    go_enter Try.func39, Try.ntmps39
    go_wp2_with fail
    refine (pstep_any pg d.s w h.pow hl ⟨ho1, by omega⟩).mono ?_
    rintro e w1 ⟨rfl, hp1, hg1⟩
    have h1 := h.power hp1 hg1
    have o1 : Only F w w1 := Only.of_grown hg1 (fun k e => by injection e with e; rw [← e]; exact h.fp)
    have c3 := h1.row.cell 3
    have f3 := h1.row.frozen 3
    have e3 : (drRow pg { d with s := d.s.step } lv bv)[3]? = some (.int .i64 (d.wait : Int)) := rfl
    rw [e3] at c3
    clear e3
    cases hgo : d.s.goes with
    | false =>
      have hs : S = ({ d with s := d.s.step }, 14) := by rw [← HS.out]; unfold Dr.sync; rw [HLO.out, hgo]; rfl
      subst hs
      clear hgo
      go_wp2_with fail
      go_ret
      exact ⟨rfl, ⟨_, _, _, _, h1⟩, o1⟩
    | true =>
      have hs : S = ({ d with wait := 0, s := d.s.step }.went, 0) := by rw [← HS.out]; unfold Dr.sync; rw [HLO.out, hgo]; rfl
      subst hs
      clear hgo
      go_wp2_with fail
      refine (dwent_any F g pg _ _ ⟨_, _, _, _, h1.setWait 0⟩).mono ?_
      rintro e w2 ⟨rfl, h2, o2⟩
      go_wp2_with fail
      go_ret
      exact ⟨rfl, h2, (o1.set h.fg 3 _).trans o2 (fun _ _ hk => hk)⟩
end Go.Proofs.Ytnknjeipfjdjoaa

