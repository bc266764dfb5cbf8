/- SplitP Parse Wakes19 ST -/
import Derived.Deep.DeepCutAuto
import Derived.BigGuardPart
import Derived.Test.YtlfmfhdgnmchgaaBRoomLess00
import Derived.Test.YtlfmfhdgnmchgaaBRoomLess06
import Derived.Test.YtlfmfhdgnmchgaaBRoomLess08
import Derived.Test.YtlfmfhdgnmchgaaBRoomLess15
import Derived.Test.YtlfmfhdgnmchgaaBRoomLess18
import Derived.Test.YtlfmfhdgnmchgaaBRoomLess19
import Derived.Test.YtlfmfhdgnmchgaaBRoomLess29
import Derived.Test.YtlfmfhdgnmchgaaBRoomLess31
import Derived.Test.YtlfmfhdgnmchgaaBRoomLess33
set_option maxRecDepth 20000
set_option linter.unusedSimpArgs false
set_option linter.unusedVariables false
set_option linter.unusedSectionVars false
namespace Go.Proofs.Ytlfmfhdgnmchgaa
open Go.RowKit Wells
theorem _root_.Wells.may_seqS {m : Mani} (h : m.may = true) : 1 ≤ m.seq ∧ m.seq ≤ 2147483647 := by
  unfold Mani.may preB at h
  simp only [Bool.and_eq_true, decide_eq_true_eq] at h
  exact h.1.1
def SplitR (m : Mani) (w : World) (e : Ending) (w' : World) : Prop :=
  ∃ (A : Option Addr) (c : Nat) (vs : List Value), e = .returned (.slice A (pagesL m.seq (pack m)).length c) ∧ OBs w.heap.size w' (.slice A (pagesL m.seq (pack m)).length c) vs (pagesL m.seq (pack m)) ∧ Below w.heap.size w w'
set_option maxRecDepth 20000 in
set_option maxHeartbeats 1000000 in
theorem psplit_any (m : Mani) (B : Nat) (Ad Ao : Option Addr) (nd cd no co : Nat) (ts : List Value) (w : World) (h : RM w B m Ad nd cd Ao no co ts) (hB : B ≤ w.heap.size) (h64 : M64 m) (hnm : ∀ e ∈ m.objs, e.name.length ≤ 1048576) :
    Calls Try.prog 45 #[m.val (.slice Ad nd cd) (.slice Ao no co)] w (SplitR m w) := by
  have hb : Below w.heap.size w (w.alloc (.cells #[.int .i64 m.seq, .int .i64 m.next, .int .i64 m.P.K, .int .i64 m.P.H, .int .i64 m.P.S, .int .i64 m.extra, .slice Ad nd cd, .slice Ao no co] 27)) := (Below.refl _ _).alloc (Nat.le_refl _) _
  have hx := Row.new w 27 #[.int .i64 m.seq, .int .i64 m.next, .int .i64 m.P.K, .int .i64 m.P.H, .int .i64 m.P.S, .int .i64 m.extra, .slice Ad nd cd, .slice Ao no co]
  have HR := hid ((h.below (hb.mono hB)))
  have x0 := hx.cell 0
  have x1 := hx.cell 1
  have x2 := hx.cell 2
  have x3 := hx.cell 3
  have x4 := hx.cell 4
  have x5 := hx.cell 5
  have x6 := hx.cell 6
  have x7 := hx.cell 7
  simp only [List.getElem?_cons_succ, List.getElem?_cons_zero] at x0 x1 x2 x3 x4 x5 x6 x7
  have HX := hid hx
  have HB := hid hb
  have hz := hb.size
  clear hb hx h
  unfold Mani.val
  go_enter Try.func45, Try.ntmps45
  go_upto_region 1 with fail
  generalize w.alloc (.cells #[.int .i64 m.seq, .int .i64 m.next, .int .i64 m.P.K, .int .i64 m.P.H, .int .i64 m.P.S, .int .i64 m.extra, .slice Ad nd cd, .slice Ao no co] 27) = w1 at *
  go_wp2_with fail
  refine (pack_any m B Ad Ao nd cd no co ts w1 HR.out (Nat.le_trans hB hz) h64 hnm).mono ?_
  rintro e w2 ⟨A1, n, c1, rfl, hn, hn1, ho, hb2⟩
  have hc1 : n ≤ c1 ∧ c1 ≤ 9223372036854775807 := by
    obtain ⟨_, _, ee, hc2, hc3⟩ := own_slice ho
    injection ee with e1 e2 e3
    subst e3
    exact ⟨by omega, by omega⟩
  unfold OB at ho
  rw [hn] at ho
  have HO := hid ho
  have HB2 := hid (HB.out.trans (hb2.mono hz))
  have HX2 := hid (HX.out.below hb2 HX.out.lt)
  clear ho hb2 x0 x1 x2 x3 x4 x5 x6 x7
  obtain ⟨N, hN⟩ : ∃ N, pageN (pack m) = N := ⟨_, rfl⟩
  have hNi : ((n : Int) + 48 - 1) / 48 = (N : Int) := by rw [← hN]; unfold pageN; rw [hn]; omega
  have hNn : N = (n + 47) / 48 := by rw [← hN]; unfold pageN; rw [hn]
  have HN := hid hN
  have hN21 : N ≤ 21 := by omega
  have HNN := hid hNn
  clear hNn
  clear hN
  go_wp2_with fail
  rw [hNi]
  clear hNi
  obtain ⟨gm, hgmE⟩ : ∃ gm, w.heap.size = gm := ⟨_, rfl⟩
  try rw [hgmE]
  have HGM := hid hgmE
  clear hgmE
  go_loopw [5, 16] (fun v i wr => ∃ (k : Nat) (A : Option Addr) (c : Nat) (vs : List Value), k ≤ N ∧ v = .slice A k c ∧ i = .int .i64 (k : Int) ∧ (k ≤ c ∧ c ≤ 9223372036854775807) ∧ OBs w2.heap.size wr (.slice A k c) vs ((pagesL m.seq (pack m)).take k) ∧ Below w2.heap.size w2 wr) (fun _ i _ => N - (intOf i).toNat)
  case atStart => exact ⟨0, none, 0, [], Nat.zero_le _, rfl, rfl, by omega, by simpa using OBs.nil_ _ _, Below.refl _ _⟩
  case round =>
    obtain ⟨k, A, c, vs, hk, rfl, rfl, hkc, hobs, hbr⟩ := hrel
    have HOBS := hid hobs
    have HBR := hid hbr
    clear hobs hbr
    by_cases hlt : k < N
    · have hlt' : (k : Int) < (N : Int) := by omega
      obtain ⟨en, hen, hen1⟩ : ∃ en : Nat, (if ((k : Int) + 1) * 48 < (n : Int) then ((k : Int) + 1) * 48 else (n : Int)) = (en : Int) ∧ en = min n ((k + 1) * 48) := by
        refine ⟨min n ((k + 1) * 48), ?_, rfl⟩
        split <;> omega
      have HEN := hid hen1
      clear hen1
      go_upto_region 8 with fail
      try rw [hen]
      have hen' := HEN.out
      obtain ⟨st, hst⟩ : ∃ st, 48 * k = st := ⟨_, rfl⟩
      have hk48 : st ≤ en := by have := HNN.out; omega
      have hen2 : en ≤ n := by omega
      obtain ⟨Ac, hAc⟩ : ∃ Ac, (if c1 = st then A1 else Option.map (fun x => x.add st) A1) = Ac := ⟨_, rfl⟩
      obtain ⟨Lc, hLc⟩ : ∃ Lc, en - st = Lc := ⟨_, rfl⟩
      obtain ⟨Cc, hCc⟩ : ∃ Cc, c1 - st = Cc := ⟨_, rfl⟩
      have hsl := (Sl.own HO.out).below HBR.out
      have hcut := hsl.cut (c := c1) hk48 hen2 (by have := hc1.1; omega)
      have hpd : ((pack m).drop st).take Lc = pageD (pack m) k := by
        unfold pageD
        rw [hst]
        have hl := hn
        rcases Nat.le_total n ((k + 1) * 48) with h1 | h1
        · rw [List.take_of_length_le (by simp; omega), List.take_of_length_le (by simp; omega)]
        · rw [show Lc = 48 by omega]
      simp only [Nat.mul_one] at hcut
      rw [hAc, hLc, ← List.map_drop, ← List.map_take, hpd] at hcut
      have hpm : m.may = true := by
        cases hm : m.may
        · have : pack m = [] := by unfold pack; rw [hm]; rfl
          rw [this] at hn
          simp at hn
          have := HNN.out
          omega
        · rfl
      have hq := may_seqS hpm
      have hLT : ((pagesL m.seq (pack m)).take k).length = k := by rw [List.length_take, pagesL_len, HN.out]; omega
      have hpc : cellL 2 (pageH m.seq k N Lc ++ pageD (pack m) k) = pageC m.seq (pack m) k := by
        unfold pageC
        rw [HN.out]
        have : (pageD (pack m) k).length = Lc := by rw [pageD_len]; omega
        rw [this]
      have htk : (pagesL m.seq (pack m)).take (k + 1) = (pagesL m.seq (pack m)).take k ++ [pageC m.seq (pack m) k] := by
        have hl : k < (pagesL m.seq (pack m)).length := by rw [pagesL_len, HN.out]; exact hlt
        rw [List.take_succ_eq_append_getElem hl]
        simp [pagesL]
      have hrow := HX2.out.below HBR.out HX2.out.lt
      have v0 := hrow.cell 0
      simp only [List.getElem?_cons_zero] at v0
      have hgm := hrow.lt
      rw [HGM.out] at v0 hgm
      have hw1 : IntKind.i64.wrap ((k : Int) * 48) = (st : Int) := by rw [IntKind.wrap_i64]; omega
      have hs1 : (st : Int) ≤ (en : Int) := by omega
      have hs2 : (en : Int) ≤ (n : Int) := by omega
      have hs3 : (en : Int) ≤ (c1 : Int) := by have := hc1.1; omega
      have hL48 : Lc ≤ 48 := by omega
      have HSL := hid hcut
      have HQ := hid (show 0 ≤ m.seq ∧ m.seq < 4294967296 by omega)
      have HLT := hid hLT
      have HPC := hid hpc
      have HTK := hid htk
      obtain ⟨ibs, hibs, hzb0, hzb1, hzb2⟩ := info_parts infoBs
      clear hsl hcut hrow hen' hk48 hst hpd hpm hq hLT hpc htk
      refine Org.begin [10] (fun w' => Below wr.heap.size wr w') [0, 1, 2, 3, 4, 5, 6, 7, 8, 9, 10, 11, 12, 13] (by kernel_rfl) (below_drewN (Below.refl _ _) 1) (fun hS => ?_)
      (refine Org.free (v := ?_) rfl (by kernel_rfl) (by kernel_rfl) (by kernel_rfl) (by kernel_rfl) (by kernel_rfl) (fun _ _ _ h => h) (by kernel_rfl) (SM.of hS) ?_ ?_; rotate_left; (focus (intro w; refine Pure.val ?_; go_simp; (try with_reducible rfl); done)); try simp only [Act.put, List.setIfInBounds_toArray, List.set_cons_zero, List.set_cons_succ])
      (refine Org.free (v := ?_) rfl (by kernel_rfl) (by kernel_rfl) (by kernel_rfl) (by kernel_rfl) (by kernel_rfl) (fun _ _ _ h => h) (by kernel_rfl) (SM.of hS) ?_ ?_; rotate_left; (focus (intro w; refine Pure.val ?_; go_simp; (try with_reducible rfl); done)); try simp only [Act.put, List.setIfInBounds_toArray, List.set_cons_zero, List.set_cons_succ])
      (refine Org.yes (v := ?_) rfl (by kernel_rfl) (by kernel_rfl) (by kernel_rfl) (by kernel_rfl) (by kernel_rfl) (fun _ _ _ h => h) (by kernel_rfl) (SM.of hS) ?_ ?_; rotate_left; (focus (intro w hSw; (try dsimp only at hSw); have q0 := (hSw.cell (p := ⟨gm, 0, none⟩) hgm).trans v0; refine Pure.val ?_; go_simp; (try with_reducible rfl); done)); try simp only [Act.put, List.setIfInBounds_toArray, List.set_cons_zero, List.set_cons_succ])
      (refine Org.yes (v := ?_) rfl (by kernel_rfl) (by kernel_rfl) (by kernel_rfl) (by kernel_rfl) (by kernel_rfl) (fun _ _ _ h => h) (by kernel_rfl) (SM.of hS) ?_ ?_; rotate_left; (focus (intro w hSw; (try dsimp only at hSw); refine Pure.val ?_; go_simp; (try with_reducible rfl); done)); try simp only [Act.put, List.setIfInBounds_toArray, List.set_cons_zero, List.set_cons_succ])
      (refine Org.yes (v := ?_) rfl (by kernel_rfl) (by kernel_rfl) (by kernel_rfl) (by kernel_rfl) (by kernel_rfl) (fun _ _ _ h => h) (by kernel_rfl) (SM.of hS) ?_ ?_; rotate_left; (focus (intro w hSw; (try dsimp only at hSw); refine Pure.val ?_; go_simp; (try with_reducible rfl); done)); try simp only [Act.put, List.setIfInBounds_toArray, List.set_cons_zero, List.set_cons_succ])
      (refine Org.free (v := ?_) rfl (by kernel_rfl) (by kernel_rfl) (by kernel_rfl) (by kernel_rfl) (by kernel_rfl) (fun _ _ _ h => h) (by kernel_rfl) (SM.of hS) ?_ ?_; rotate_left; (focus (intro w; refine Pure.val ?_; go_simp; (try with_reducible rfl); done)); try simp only [Act.put, List.setIfInBounds_toArray, List.set_cons_zero, List.set_cons_succ])
      (refine Org.free (v := ?_) rfl (by kernel_rfl) (by kernel_rfl) (by kernel_rfl) (by kernel_rfl) (by kernel_rfl) (fun _ _ _ h => h) (by kernel_rfl) (SM.of hS) ?_ ?_; rotate_left; (focus (intro w; refine Pure.val ?_; go_simp; (try with_reducible rfl); done)); try simp only [Act.put, List.setIfInBounds_toArray, List.set_cons_zero, List.set_cons_succ])
      (refine Org.free (v := ?_) rfl (by kernel_rfl) (by kernel_rfl) (by kernel_rfl) (by kernel_rfl) (by kernel_rfl) (fun _ _ _ h => h) (by kernel_rfl) (SM.of hS) ?_ ?_; rotate_left; (focus (intro w; refine Pure.val ?_; go_simp; (try with_reducible rfl); done)); try simp only [Act.put, List.setIfInBounds_toArray, List.set_cons_zero, List.set_cons_succ])
      (refine Org.free (v := ?_) rfl (by kernel_rfl) (by kernel_rfl) (by kernel_rfl) (by kernel_rfl) (by kernel_rfl) (fun _ _ _ h => h) (by kernel_rfl) (SM.of hS) ?_ ?_; rotate_left; (focus (intro w; refine Pure.val ?_; go_simp; (try with_reducible rfl); done)); try simp only [Act.put, List.setIfInBounds_toArray, List.set_cons_zero, List.set_cons_succ])
      (refine Org.yes (v := ?_) rfl (by kernel_rfl) (by kernel_rfl) (by kernel_rfl) (by kernel_rfl) (by kernel_rfl) (fun _ _ _ h => h) (by kernel_rfl) (SM.of hS) ?_ ?_; rotate_left; (focus (intro w hSw; (try dsimp only at hSw); refine Pure.val ?_; go_simp; (try with_reducible rfl); done)); try simp only [Act.put, List.setIfInBounds_toArray, List.set_cons_zero, List.set_cons_succ])
      refine Org.mark (p := 10) rfl (by kernel_rfl) (by kernel_rfl) (by kernel_rfl) (by kernel_rfl) (fun K hK => ?_)
      go_simp
      go_at_call 51
      refine (pput_any m.seq (k : Int) (N : Int) w2.heap.size Ac (pageD (pack m) k) Lc Cc _ HQ.out (by omega) (by omega) (HSL.out.below (hS.mono HBR.out.size)) HBR.out.size (by omega)).mono ?_
      rintro e wz ⟨vz, rfl, hoz, hbz⟩
      obtain ⟨Az, cz, rfl, hz3, hz4, _⟩ := own_slice hoz
      have HOZ := hid hoz
      have HBZ := hid (hS.trans (hbz.mono hS.size))
      clear hoz hbz
      go_wp2_with fail
      refine hK.out _ _ ?_
      clear hK K hS
      try simp only [Act.put, List.setIfInBounds_toArray, List.set_cons_zero, List.set_cons_succ]
      refine Org.mark (p := 10) rfl (by kernel_rfl) (by kernel_rfl) (by kernel_rfl) (by kernel_rfl) (fun K hK => ?_)
      refine op_build1 29 45 (.tmp 35) (by rfl) _ (by rfl) rfl ibs (.slice none 0 0) Try.underlying29 hibs hzb0 hzb1 rfl ?_
      rintro w6 g6 hg6 hr6 hb6 hsz6
      subst hg6
      have HR6 := hid hr6
      have HB6 := hid hb6
      have HS6 := hid (HBZ.out.trans (hb6.mono HBZ.out.size))
      clear hr6 hb6 hsz6
      refine hK.out _ _ ?_
      clear hK K
      try simp only [Act.put, List.setIfInBounds_toArray, List.set_cons_zero, List.set_cons_succ]
      refine Org.mark (p := 10) rfl (by kernel_rfl) (by kernel_rfl) (by kernel_rfl) (by kernel_rfl) (fun K hK => ?_)
      refine op_append (.tmp 25) (.tmp 36) 29 rfl w2.heap.size 45 ibs (.slice none 0 0) 1 24 Try.underlying29 hibs hzb0 hzb1 hzb2 rfl (by omega) (.slice A k c) k vs rfl (by have := (HOBS.out.below HS6.out).own; rwa [HLT.out] at this) (wz.heap.size + 1) (some ⟨wz.heap.size, 0, none⟩) 1 1 [_] rfl (HR6.out.sl (by omega) (Nat.le_refl _)) (by intro u hu; simp only [List.mem_singleton] at hu; subst hu; rfl) (k + 1) rfl _ rfl (by omega) (by omega) (Nat.le_trans HBR.out.size HS6.out.size) ?_
      rintro A7 c7 w7 ho7 hg7 _
      have hps := OBs.push (HOBS.out.below HS6.out) (own_base (HOZ.out.below HB6.out) HBR.out.size) (by rw [HLT.out]; exact ho7) hg7
      have hb7 := below_own (HBR.out.trans (HS6.out.mono HBR.out.size)) (by have := (HOBS.out.below HS6.out).own; exact this) hg7 (Nat.le_refl _) (Nat.le_trans HBR.out.size HS6.out.size)
      have hc7 := own_cap ho7
      have HPS := hid hps
      have HB7 := hid hb7
      clear hps hb7 ho7 hg7
      refine hK.out _ _ ?_
      clear hK K
      try simp only [Act.put, List.setIfInBounds_toArray, List.set_cons_zero, List.set_cons_succ]
      (refine Org.free (v := ?_) rfl (by kernel_rfl) (by kernel_rfl) (by kernel_rfl) (by kernel_rfl) (by kernel_rfl) (fun _ _ _ h => h) (by kernel_rfl) (SM.past (p := 10) (by kernel_rfl) (by kernel_rfl)) ?_ ?_; rotate_left; (focus (intro w; refine Pure.val ?_; go_simp; (try with_reducible rfl); done)); try simp only [Act.put, List.setIfInBounds_toArray, List.set_cons_zero, List.set_cons_succ])
      refine Org.done (by kernel_rfl) ?_
      skip
      clear hAc hLc hCc hw1
      go_wp2_with fail
      go_roundw
      case rel =>
        have hps := HPS.out
        rw [HPC.out, ← HTK.out] at hps
        exact ⟨k + 1, A7, c7, _, by omega, rfl, by go_num, hc7, hps, HB7.out⟩
      case measure => simp [intOf] <;> omega
    · have hlt' : ¬ (k : Int) < (N : Int) := by omega
      obtain rfl : k = N := by omega
      go_wp2_with fail
      go_ret
      have hl : (pagesL m.seq (pack m)).length = k := by rw [pagesL_len, HN.out]
      have ho := HOBS.out
      rw [List.take_of_length_le (by omega)] at ho
      refine ⟨A, c, vs, by rw [hl]; rfl, ?_, HB2.out.trans (HBR.out.mono HB2.out.size)⟩
      rw [hl]
      exact ho.base HB2.out.size
end Go.Proofs.Ytlfmfhdgnmchgaa

namespace Wells
open Go Go.RowKit
theorem row8m {w : World} {g : Nat} {t : TypeId} {z0 z1 z2 z3 z4 z5 z6 z7 : Value} (h : Row w g t [z0, z1, z2, z3, z4, z5, z6, z7]) (a0 a1 a2 a3 a4 a5 a6 a7 : Value) : Row ((((((((w.setCell ⟨g, 0, none⟩ a0).setCell ⟨g, 1, none⟩ a1).setCell ⟨g, 2, none⟩ a2).setCell ⟨g, 3, none⟩ a3).setCell ⟨g, 4, none⟩ a4).setCell ⟨g, 5, none⟩ a5).setCell ⟨g, 6, none⟩ a6).setCell ⟨g, 7, none⟩ a7) g t [a0, a1, a2, a3, a4, a5, a6, a7] :=
  (((((((h.set 0 a0).set 1 a1).set 2 a2).set 3 a3).set 4 a4).set 5 a5).set 6 a6).set 7 a7
theorem grown8s (w : World) (g : Nat) (a0 a1 a2 a3 a4 a5 a6 a7 : Value) : w.grownBy ((((((((w.setCell ⟨g, 0, none⟩ a0).setCell ⟨g, 1, none⟩ a1).setCell ⟨g, 2, none⟩ a2).setCell ⟨g, 3, none⟩ a3).setCell ⟨g, 4, none⟩ a4).setCell ⟨g, 5, none⟩ a5).setCell ⟨g, 6, none⟩ a6).setCell ⟨g, 7, none⟩ a7) (some g) :=
  grown_set (grown_set (grown_set (grown_set (grown_set (grown_set (grown_set (grown_set (grown_new (Below.refl _ _) (some g)) (.inl rfl) 0 a0) (.inl rfl) 1 a1) (.inl rfl) 2 a2) (.inl rfl) 3 a3) (.inl rfl) 4 a4) (.inl rfl) 5 a5) (.inl rfl) 6 a6) (.inl rfl) 7 a7
end Wells
namespace Go.Proofs.Ytlfmfhdgnmchgaa
open Go.RowKit Wells
theorem OM.other {base : Nat} {w w' : World} {m : Mani} {Ad Ao : Option Addr} {nd cd no co : Nat} {ts : List Value} {g : Nat} {t : TypeId} {cs : List Value} (h : OM base w m Ad nd cd Ao no co ts) (hg : w.grownBy w' (some g)) (hr : Row w g t cs) (h1 : 47 ≠ t) (h2 : 3 ≠ t) : OM base w' m Ad nd cd Ao no co ts :=
  ⟨h.d.kept hg (own_ne h.d hr h2), h.dl, h.o.other hg hr h1 h2, h.ol⟩
end Go.Proofs.Ytlfmfhdgnmchgaa

namespace Wells
open Go Go.RowKit
def mani0 : Mani := ⟨1, 0, ⟨1, 1, 1⟩, 0, [3], []⟩
theorem mani0_64 : M64 mani0 := ⟨by unfold i64; decide, by unfold i64; decide, by unfold i64; decide, by unfold i64; decide, by unfold i64; decide, by unfold i64; decide, fun z h => by unfold i64; simp [mani0] at h; omega, fun e h => by cases h⟩
theorem mani0_nm : ∀ e ∈ mani0.objs, e.name.length ≤ 1048576 := fun e h => by cases h
theorem REs.nil_ (w : World) (B : Nat) (A : Option Addr) : REs w B A 0 [] [] := ⟨Sl.nil_, rfl, rfl, fun i hi => absurd hi (by omega)⟩
theorem mani0_rm {w : World} {B g c : Nat} {A : Option Addr} (h : Sl w B 1 (some ⟨g, 0, none⟩) 1 [.int .i64 3]) (hc : 1 ≤ c ∧ c ≤ 9223372036854775807) : RM w B mani0 (some ⟨g, 0, none⟩) 1 c A 0 0 [] :=
  ⟨h, rfl, hc, REs.nil_ _ _ _, by omega⟩
end Wells
namespace Go.Proofs.Ytlfmfhdgnmchgaa
open Go.RowKit Wells
end Go.Proofs.Ytlfmfhdgnmchgaa

namespace Go.Proofs.Ytlfmfhdgnmchgaa
open Go.RowKit Wells
/-- what stands while a manifest is made: the result's cell, the manifest's, its two lists -/
structure ST (w wx : World) (g0 gm : Nat) (sq nx : Int) (P : Par) (ex : Int) (Ad : Option Addr) (nd cd : Nat) (ds : List Int) (Ao : Option Addr) (no co : Nat) (ts : List Value) (es : List Ent) : Prop where
  q : Row wx g0 27 [.int .i64 0, .int .i64 0, .int .i64 0, .int .i64 0, .int .i64 0, .int .i64 0, .slice none 0 0, .slice none 0 0]
  x : Row wx gm 27 [.int .i64 sq, .int .i64 nx, .int .i64 P.K, .int .i64 P.H, .int .i64 P.S, .int .i64 ex, .slice Ad nd cd, .slice Ao no co]
  d : wx.ownsRow w.heap.size 3 1 (.slice Ad nd cd) nd (ds.map iv)
  o : OEs w.heap.size wx (.slice Ao no co) ts es
  ol : es.length = no
  be : Below w.heap.size w wx
section
variable {w wx wy : World} {g0 gm : Nat} {sq nx : Int} {P : Par} {ex : Int} {Ad : Option Addr} {nd cd : Nat} {ds : List Int} {Ao : Option Addr} {no co : Nat} {ts : List Value} {es : List Ent}
theorem ST.below (h : ST w wx g0 gm sq nx P ex Ad nd cd ds Ao no co ts es) (hb : Below wx.heap.size wx wy) : ST w wy g0 gm sq nx P ex Ad nd cd ds Ao no co ts es :=
  ⟨h.q.below hb h.q.lt, h.x.below hb h.x.lt, h.d.kept (grown_of_below hb none) (by cases (Value.slice Ad nd cd).ownBlock <;> simp), h.o.below hb, h.ol, h.be.trans (hb.mono h.be.size)⟩
theorem ST.alloc (h : ST w wx g0 gm sq nx P ex Ad nd cd ds Ao no co ts es) (o : Obj) : ST w (wx.alloc o) g0 gm sq nx P ex Ad nd cd ds Ao no co ts es := h.below ((Below.refl _ _).alloc (Nat.le_refl _) o)
theorem ST.drewN (h : ST w wx g0 gm sq nx P ex Ad nd cd ds Ao no co ts es) (n : Nat) : ST w (wx.drewN n) g0 gm sq nx P ex Ad nd cd ds Ao no co ts es := h.below (below_drewN (Below.refl _ _) n)
theorem ST.drew_ (h : ST w wx g0 gm sq nx P ex Ad nd cd ds Ao no co ts es) : ST w wx.drew g0 gm sq nx P ex Ad nd cd ds Ao no co ts es := h.drewN 1
end
theorem own_newR {w0 w : World} (hb : Below w0.heap.size w0 w) (N : Nat) (hN : w.heap.size = N) (cs : List Value) (t : TypeId) (size n : Nat) (hl : cs.length = n * size) (hn : n ≤ maxLen) : (w.alloc (.cells cs.toArray t)).ownsRow w0.heap.size t size (.slice (some ⟨N, 0, none⟩) n n) n cs := by
  subst hN
  exact ⟨hl, .inr ⟨w.heap.size, n, cs.toArray, rfl, hb.size, heap_alloc_new w _, Nat.le_refl _, hn, by simpa using hl, by rw [← hl]; simp⟩⟩
theorem tdiv_bd26 {x : Int} (h : -9223372036854775808 ≤ x ∧ x ≤ 9223372036854775807) : -9223372036854775808 ≤ x.tdiv 26 ∧ x.tdiv 26 ≤ 9223372036854775807 := by
  have e := Int.tdiv_eq_ediv (a := x) (b := 26)
  have e1 : Int.sign 26 = 1 := rfl
  rw [e1] at e
  rw [e]
  split <;> omega
theorem tdiv_bd78 {x : Int} (h : -9223372036854775808 ≤ x ∧ x ≤ 9223372036854775807) : -9223372036854775808 ≤ x.tdiv 78 ∧ x.tdiv 78 ≤ 9223372036854775807 := by
  have e := Int.tdiv_eq_ediv (a := x) (b := 78)
  have e1 : Int.sign 78 = 1 := rfl
  rw [e1] at e
  rw [e]
  split <;> omega
theorem shr_bd {x : Int} (h : -9223372036854775808 ≤ x ∧ x ≤ 9223372036854775807) (k : Nat) : -9223372036854775808 ≤ x / 2 ^ k ∧ x / 2 ^ k ≤ 9223372036854775807 := by
  have hd : (0 : Int) < 2 ^ k := Int.pow_pos (by omega)
  obtain ⟨d, hdd⟩ : ∃ d : Int, 2 ^ k = d := ⟨_, rfl⟩
  rw [hdd] at hd ⊢
  by_cases hx : 0 ≤ x
  · have h1 := Int.ediv_nonneg hx (show (0 : Int) ≤ d by omega)
    have h2 := Int.ediv_le_self d hx
    omega
  · have h1 : x ≤ x / d := (Int.le_ediv_iff_mul_le hd).2 (by
      have := Int.mul_le_mul_of_nonpos_left (show (x : Int) ≤ 0 by omega) (show (1 : Int) ≤ d by omega)
      rw [Int.mul_one] at this
      exact this)
    have h2 := Int.ediv_neg_of_neg_of_pos (show x < 0 by omega) hd
    omega
theorem _root_.Wells.Row.ownx {w w1 : World} {base g size n : Nat} {t e : TypeId} {cs xs : List Value} {v : Value} (h : Row w g t cs) (hv : w.ownsRow base e size v n xs) (hg : w.grownBy w1 v.ownBlock) (hne : e ≠ t) : Row w1 g t cs := by
  refine h.grown hg ?_
  rcases own_ne hv h hne with e1 | e1
  · rw [e1]; intro e2; cases e2
  · exact fun e2 => e1 e2.symm
theorem row_set_grown (w : World) (g j : Nat) (u : Value) : w.grownBy (w.setCell ⟨g, j, none⟩ u) (some g) := grown_set (World.grownBy.refl w _) (.inl rfl) j u
theorem ST.setD {w wx wy : World} {g0 gm : Nat} {sq nx : Int} {P : Par} {ex : Int} {Ad Ad' : Option Addr} {nd cd nd' cd' : Nat} {ds ds' : List Int} {Ao : Option Addr} {no co : Nat} {ts : List Value} {es : List Ent}
    (h : ST w wx g0 gm sq nx P ex Ad nd cd ds Ao no co ts es) (he : OEs w.heap.size wy (.slice Ao no co) ts es) (hg : wx.grownBy wy (Value.slice Ad nd cd).ownBlock) (ho : wy.ownsRow w.heap.size 3 1 (.slice Ad' nd' cd') nd' (ds'.map iv)) (hne : gm ≠ g0) (hgm : w.heap.size ≤ gm) :
    ST w (wy.setCell ⟨gm, 6, none⟩ (.slice Ad' nd' cd')) g0 gm sq nx P ex Ad' nd' cd' ds' Ao no co ts es := by
  have hx := h.x.ownx h.d hg (by decide)
  have hq := h.q.ownx h.d hg (by decide)
  exact ⟨hq.far (p := ⟨gm, 6, none⟩) hne.symm _, hx.set 6 _, ho.far_ hx (by decide) 6 _, he.other (row_set_grown _ _ _ _) hx (by decide) (by decide), h.ol, (below_own h.be h.d hg (Nat.le_refl _) h.be.size).setCell (p := (⟨gm, 6, none⟩ : Addr)) hgm _⟩
theorem Sl.fresh4m (w : World) (cs : List Value) (t : TypeId) (hm : cs.length = 4) : Sl (w.alloc (.cells cs.toArray t (0, 0))) (w.heap.size + 1) 4 (some ⟨w.heap.size, 0, none⟩) 1 cs :=
  ⟨by omega, fun _ => ⟨_, 0, rfl, by omega, fun j u hu => by
    rw [Nat.zero_add, cell_of_row _ _ j cs.toArray t (0, 0) (heap_alloc_new w _)]
    simpa using hu⟩⟩
theorem ST.pushO {w wx wy : World} {B2 g0 gm : Nat} {sq nx : Int} {P : Par} {ex : Int} {Ad : Option Addr} {nd cd : Nat} {ds : List Int} {Ao A8 : Option Addr} {no co c8 : Nat} {ts : List Value} {es : List Ent} {cs : Array Value} {t : TypeId}
    {nm : List Byte} {ob ln : Int} {trs : List Int} {At : Option Addr} {j ct : Nat}
    (h : ST w wx g0 gm sq nx P ex Ad nd cd ds Ao no co ts es) (hot : wx.ownsRow B2 3 1 (.slice At j ct) j (trs.map iv)) (hB : w.heap.size ≤ B2)
    (o8 : wy.ownsRow w.heap.size 47 4 (.slice A8 (no + 1) c8) (no + 1) (entsC es ts ++ [.string (strB nm), .int .i64 ob, .int .i64 ln, .slice At j ct])) (g8 : (wx.alloc (.cells cs t)).grownBy wy (Value.slice Ao no co).ownBlock) :
    Row wy gm 27 [.int .i64 sq, .int .i64 nx, .int .i64 P.K, .int .i64 P.H, .int .i64 P.S, .int .i64 ex, .slice Ad nd cd, .slice Ao no co] ∧
    (gm ≠ g0 → w.heap.size ≤ gm → ST w (wy.setCell ⟨gm, 7, none⟩ (.slice A8 (no + 1) c8)) g0 gm sq nx P ex Ad nd cd ds A8 (no + 1) c8 (ts ++ [.slice At j ct]) (es ++ [⟨nm, ob, ln, trs⟩])) := by
  have ha := h.alloc (.cells cs t)
  have how := ha.o.own
  rw [h.ol] at how
  have hx := ha.x.ownx how g8 (by decide)
  refine ⟨hx, fun hne hgm => ?_⟩
  have hq := ha.q.ownx how g8 (by decide)
  have hd := ha.d.kept g8 (own_other ha.d how (by decide))
  have hta := (hot.alloc (.cells cs t))
  have htl : trs.length = j := by have := hot.1; simpa using this
  subst htl
  have hp := ha.o.push (x := ⟨nm, ob, ln, trs⟩) (tv := .slice At trs.length ct) rfl (own_base hta hB) (by rw [h.ol]; exact o8) g8
  exact ⟨hq.far (p := ⟨gm, 7, none⟩) hne.symm _, hx.set 7 _, hd.far_ hx (by decide) 7 _, hp.other (row_set_grown _ _ _ _) hx (by decide) (by decide), by rw [List.length_append, h.ol]; rfl, (below_own ha.be how g8 (Nat.le_refl _) ha.be.size).setCell (p := (⟨gm, 7, none⟩ : Addr)) hgm _⟩
theorem ST.setN {w wx : World} {g0 gm : Nat} {sq nx nx' : Int} {P : Par} {ex : Int} {Ad : Option Addr} {nd cd : Nat} {ds : List Int} {Ao : Option Addr} {no co : Nat} {ts : List Value} {es : List Ent}
    (h : ST w wx g0 gm sq nx P ex Ad nd cd ds Ao no co ts es) (hne : gm ≠ g0) (hgm : w.heap.size ≤ gm) :
    ST w (wx.setCell ⟨gm, 1, none⟩ (.int .i64 nx')) g0 gm sq nx' P ex Ad nd cd ds Ao no co ts es :=
  ⟨h.q.far (p := ⟨gm, 1, none⟩) hne.symm _, h.x.set 1 _, h.d.far_ h.x (by decide) 1 _, h.o.other (row_set_grown _ _ _ _) h.x (by decide) (by decide), h.ol, h.be.setCell (p := (⟨gm, 1, none⟩ : Addr)) hgm _⟩
theorem ST.setR {w wx : World} {g0 gm : Nat} {sq nx : Int} {P : Par} {ex : Int} {Ad Ad' : Option Addr} {nd cd nd' cd' : Nat} {ds ds' : List Int} {Ao : Option Addr} {no co : Nat} {ts : List Value} {es : List Ent}
    (h : ST w wx g0 gm sq nx P ex Ad nd cd ds Ao no co ts es) (ho : wx.ownsRow w.heap.size 3 1 (.slice Ad' nd' cd') nd' (ds'.map iv)) (hne : gm ≠ g0) (hgm : w.heap.size ≤ gm) :
    ST w (wx.setCell ⟨gm, 6, none⟩ (.slice Ad' nd' cd')) g0 gm sq nx P ex Ad' nd' cd' ds' Ao no co ts es :=
  ⟨h.q.far (p := ⟨gm, 6, none⟩) hne.symm _, h.x.set 6 _, ho.far_ h.x (by decide) 6 _, h.o.other (row_set_grown _ _ _ _) h.x (by decide) (by decide), h.ol, h.be.setCell (p := (⟨gm, 6, none⟩ : Addr)) hgm _⟩
end Go.Proofs.Ytlfmfhdgnmchgaa

