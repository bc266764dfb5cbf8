/- CptR Swl3 -/
import Derived.Test.YtnknjeipfjdjoaaGreatDoorProg
import Derived.BigGuardPart
import Derived.Deep.DeepCutAuto
import Derived.Test.YtnknjeipfjdjoaaGreatDoorBScanKept07
import Derived.Test.YtnknjeipfjdjoaaGreatDoorBScanKept16
import Derived.Test.YtnknjeipfjdjoaaGreatDoorBScanKept37
set_option maxRecDepth 20000
set_option linter.unusedSimpArgs false
set_option linter.unusedVariables false
set_option linter.unusedSectionVars false
namespace Go.Proofs.YtnknjeipfjdjoaaGreatDoor
open Go.RowKit Wells Go.Sort Go.Lib
variable {α : Type} [Inhabited α] {enc : α → List Value} {w0 W : World} {blk off N cap : Nat} {l : List α} {g : Nat} {lt : α → α → Bool}
set_option maxHeartbeats 4000000 in
theorem scptR_any (R : RowL Tryz.prog 73 enc w0 blk off N) (hN : N ≤ 1048576) (h1 : ∀ x, ∀ v ∈ enc x, v.oneCell' = true) (eg : ∀ args w, (callFunc g args).run Tryz.prog w = .ok (.enter g args) w) (hE : EqL Tryz.prog g enc lt w0 blk off N) (z : α) (zv : Value) (hzv : ∀ w, (zeroValue 73).run Tryz.prog w = .ok zv w) (hzc : zv.cells = (enc z).toArray)
  (hN1 : 1 ≤ N) (hcap : N ≤ cap) (hcap2 : cap ≤ 9223372036854775807) (h : SWL enc w0 blk off N l W) :
  Calls Tryz.prog 48 #[.slice (some ⟨blk, off, none⟩) N cap, .func (.func g) #[] #[]] W (CptR enc w0 blk off N cap lt l) := by
 have HH := hid h
 have HE := hid hE
 have HLN := hid h.1
 have HZV := hid hzv
 have HZC := hid hzc
 have hu : ∃ d, Tryz.prog.underlying 73 = some d ∧ d.isRow = true := R.agg
 obtain ⟨dd, hd1, hd2⟩ := hu
 have HD1 := hid hd1
 have HD2 := hid hd2
 clear h hE hzv hzc hd1 hd2
 by_cases h2 : N < 2
 ·have h2' : (N : Int) < 2 := by omega
  go_enter Tryz.func48, Tryz.ntmps48
  go_wp2_with fail
  go_ret
  have hl := HLN.out
  match l, hl with
  | [], hl => simp at hl; omega
  | [x], _ =>
   refine ⟨[x], N, rfl, HH.out, ?_, ?_, Nat.le_refl _⟩
   ·have : N = 1 := by omega
    simp [cpt, cptGo, this]
   ·have : N = 1 := by omega
    simp [cpt, cptGo, this]
  | x :: y :: r, hl => simp at hl; omega
 have h2' : ¬ (N : Int) < 2 := by omega
 go_enter Tryz.func48, Tryz.ntmps48
 go_wp2_with fail
 go_loopw [5] (fun v wr => ∃ k : Nat, v = .int .i64 (k : Int) ∧ 1 ≤ k ∧ k ≤ N ∧ SWL enc w0 blk off N l wr ∧ Hid (cpt lt l = l.take k ++ cptGo lt (l[k - 1]!) (l.drop k))) (fun v _ => N - (intOf v).toNat)
 case atStart =>
  refine ⟨1, rfl, Nat.le_refl _, by omega, HH.out, ?_⟩
  have hl := HLN.out
  match l, hl with
  | [], hl => simp at hl; omega
  | x :: r, _ => exact rfl
 case round =>
  obtain ⟨k, rfl, hk1, hkN, hs, HF⟩ := hrel
  have HS := hid hs
  clear hs
  by_cases hlt : k < N
  ·have hlt' : (k : Int) < (N : Int) := by omega
   obtain ⟨kp, hkp⟩ : ∃ kp, k - 1 = kp := ⟨_, rfl⟩
   obtain ⟨x, hx⟩ : ∃ x, l[k]! = x := ⟨_, rfl⟩
   obtain ⟨y, hy⟩ : ∃ y, l[kp]! = y := ⟨_, rfl⟩
   have p1 : l[k]? = some x := by rw [← hx]; exact getD_some (by have := HLN.out; omega)
   have p2 : l[kp]? = some y := by rw [← hy]; exact getD_some (by have := HLN.out; omega)
   have hdr : l.drop k = x :: l.drop (k + 1) := by
    rw [← hx, getElem!_pos l k (by have := HLN.out; omega)]; exact List.drop_eq_getElem_cons (by have := HLN.out; omega)
   have htk : l.take (k + 1) = l.take k ++ [x] := by
    rw [← hx, getElem!_pos l k (by have := HLN.out; omega)]; exact List.take_succ_eq_append_getElem (by have := HLN.out; omega)
   have hf := HF.out
   rw [hkp, hy, hdr] at hf
   have P1 := hid p1
   have P2 := hid p2
   have HX := hid hx
   have HTK := hid htk
   have HF2 := hid hf
   have HDR := hid hdr
   have c1 : (kp : Int) < (N : Int) := by omega
   have c2 : IntKind.i64.wrap ((k : Int) - 1) = (kp : Int) := by rw [IntKind.wrap_i64]; omega
   have HKP := hid hkp
   clear p1 p2 hx hy hf hdr htk hkp
   go_wp2_with fail
   refine Org.begin [] (SWL enc w0 blk off N (l)) [0, 1, 2, 3, 4, 5, 6, 7, 8, 9, 10] (by kernel_rfl) (HS.out.drew) (fun hS => ?_)
   iterate 4 (refine Org.yes (v := ?_) rfl (by kernel_rfl) (by kernel_rfl) (by kernel_rfl) (by kernel_rfl) (by kernel_rfl) (fun _ _ _ h => h) (by kernel_rfl) (SM.of hS) ?_ ?_; rotate_left; (focus (intro w hSw; (try dsimp only at hSw); refine Pure.val ?_; go_simp; (try with_reducible rfl); done)); try simp only [Act.put, List.setIfInBounds_toArray, List.set_cons_zero, List.set_cons_succ])
   (refine Org.yes (v := ?_) rfl (by kernel_rfl) (by kernel_rfl) (by kernel_rfl) (by kernel_rfl) (by kernel_rfl) (fun _ _ _ h => h) (by kernel_rfl) (SM.of hS) ?_ ?_; rotate_left; (focus (intro w hSw; (try dsimp only at hSw); refine Pure.val ?_; refine (exec_load 73 (.tmp 21) rfl (by go_simp; first | done | rfl) (SWL.ld' hSw R P1.out (by omega))).trans ?_; with_reducible rfl)); try simp only [Act.put, List.setIfInBounds_toArray, List.set_cons_zero, List.set_cons_succ])
   iterate 4 (refine Org.yes (v := ?_) rfl (by kernel_rfl) (by kernel_rfl) (by kernel_rfl) (by kernel_rfl) (by kernel_rfl) (fun _ _ _ h => h) (by kernel_rfl) (SM.of hS) ?_ ?_; rotate_left; (focus (intro w hSw; (try dsimp only at hSw); refine Pure.val ?_; go_simp; (try with_reducible rfl); done)); try simp only [Act.put, List.setIfInBounds_toArray, List.set_cons_zero, List.set_cons_succ])
   (refine Org.yes (v := ?_) rfl (by kernel_rfl) (by kernel_rfl) (by kernel_rfl) (by kernel_rfl) (by kernel_rfl) (fun _ _ _ h => h) (by kernel_rfl) (SM.of hS) ?_ ?_; rotate_left; (focus (intro w hSw; (try dsimp only at hSw); refine Pure.val ?_; refine (exec_load 73 (.tmp 26) rfl (by go_simp; first | done | rfl) (SWL.ld' hSw R P2.out (by omega))).trans ?_; with_reducible rfl)); try simp only [Act.put, List.setIfInBounds_toArray, List.set_cons_zero, List.set_cons_succ])
   refine Org.go rfl (by kernel_rfl) (by kernel_rfl) (fun K hK => ?_)
   go_simp
   first
    | (go_at_fn g)
    | skip
   refine (HE.out _ _ hS x y).mono ?_
   rintro e wz ⟨rfl, hS3⟩
   go_wp2_with fail
   refine hK.out _ _ hS3 (fun hS2 => ?_)
   clear hS3
   clear hK K hS
   have hS := hS2
   clear hS2
   try simp only [Act.put, List.setIfInBounds_toArray, List.set_cons_zero, List.set_cons_succ]
   refine Org.done (by kernel_rfl) ?_
   skip
   have HS3 := hid hS
   clear HS hS c2 HF
   have hkp := HKP.out
   have hck : ¬ cap = k := by omega
   have hck' : ¬ k = cap := by omega
   have hkc : (k : Int) ≤ (N : Int) := by omega
   generalize wz = wl at *
   go_wp2_with fail
   ·rename_i he K0 K1
    have HEQ := hid he
    clear he
    obtain ⟨M, hM⟩ : ∃ M, N - k = M := ⟨_, rfl⟩
    obtain ⟨C, hC⟩ : ∃ C, cap - k = C := ⟨_, rfl⟩
    rw [hM, hC]
    have hMb : M ≤ 1048576 := by omega
    have HM := hid hM
    have HC := hid hC
    clear hM hC
    go_loopw [5, 7] (fun v5 v7 wr => ∃ (kk k2 : Nat) (l' : List α), v5 = .int .i64 (kk : Int) ∧ v7 = .int .i64 (k2 : Int) ∧ 1 ≤ k2 ∧ k2 ≤ M ∧ k ≤ kk ∧ kk + 1 ≤ k + k2 ∧ SWL enc w0 blk off N l' wr ∧ Hid (l'.drop (k + k2 - 1) = l.drop (k + k2 - 1) ∧ cpt lt l = l'.take kk ++ cptGo lt (l[k + k2 - 1]!) (l.drop (k + k2)))) (fun _ v _ => M - (intOf v).toNat)
    case atStart =>
     refine ⟨k, 1, l, rfl, rfl, Nat.le_refl _, by have := HM.out; omega, Nat.le_refl _, by omega, HS3.out, rfl, ?_⟩
     rw [HF2.out, show k + 1 - 1 = k by omega, HX.out]
     simp only [cptGo, HEQ.out, if_true]
    case round =>
     obtain ⟨kk, k2, l', rfl, rfl, hk21, hk2N, hkkk, hkk2, hs, HG⟩ := hrel
     have HS := hid hs
     clear hs HS3
     by_cases hlt2 : k2 < M
     ·have hlt2' : (k2 : Int) < (M : Int) := by omega
      have hM := HM.out
      have hln := HLN.out
      have hl' := HS.out.1
      obtain ⟨q, hq⟩ : ∃ q, k2 - 1 = q := ⟨_, rfl⟩
      obtain ⟨j, hj⟩ : ∃ j, k + k2 = j := ⟨_, rfl⟩
      obtain ⟨x2, hx2⟩ : ∃ x2, l[j]! = x2 := ⟨_, rfl⟩
      obtain ⟨y2, hy2⟩ : ∃ y2, l[k + q]! = y2 := ⟨_, rfl⟩
      obtain ⟨g1, g2⟩ := HG.out
      have eqd : ∀ i, l'[j - 1 + i]? = l[j - 1 + i]? := fun i => by
       have := congrArg (fun z => z[i]?) g1
       simp only [List.getElem?_drop] at this
       rw [hj] at this
       exact this
      have p1 : l'[j]? = some x2 := by
       rw [show j = j - 1 + 1 by omega, eqd, show j - 1 + 1 = j by omega, ← hx2]; exact getD_some (by omega)
      have p2 : l'[k + q]? = some y2 := by
       rw [show k + q = j - 1 + 0 by omega, eqd, show j - 1 + 0 = k + q by omega, ← hy2]; exact getD_some (by omega)
      obtain ⟨u, hu⟩ : ∃ u, l'[kk]? = some u := ⟨_, getD_some (by omega)⟩
      have hdr2 : l.drop j = x2 :: l.drop (j + 1) := by
       rw [← hx2, getElem!_pos l j (by omega)]; exact List.drop_eq_getElem_cons (by omega)
      have hg2 : cpt lt l = l'.take kk ++ cptGo lt y2 (x2 :: l.drop (j + 1)) := by
       rw [g2, hj, hdr2, show j - 1 = k + q by omega, hy2]
      have P1 := hid p1
      have P2 := hid p2
      have HX2 := hid hx2
      have HG2 := hid hg2
      have HU := hid hu
      have HJ := hid hj
      have HQ := hid hq
      have HL' := hid hl'
      have c1 : (q : Int) < (M : Int) := by omega
      have c2 : IntKind.i64.wrap ((k2 : Int) - 1) = (q : Int) := by rw [IntKind.wrap_i64]; omega
      have c3 : off + k * 8 + k2 * 8 = off + j * 8 := by omega
      have C3 := hid c3
      have kkN : (kk : Int) < (N : Int) := by omega
      clear p1 p2 hx2 hy2 hu hdr2 hg2 eqd g1 g2 hj hq hM hln hl' c3
      go_wp2_with fail
      refine Org.begin [] (SWL enc w0 blk off N (l')) [0, 1, 2, 3, 4, 5, 6, 7, 8, 9, 10, 11] (by kernel_rfl) (HS.out.drew) (fun hS => ?_)
      iterate 4 (refine Org.yes (v := ?_) rfl (by kernel_rfl) (by kernel_rfl) (by kernel_rfl) (by kernel_rfl) (by kernel_rfl) (fun _ _ _ h => h) (by kernel_rfl) (SM.of hS) ?_ ?_; rotate_left; (focus (intro w hSw; (try dsimp only at hSw); refine Pure.val ?_; go_simp; (try with_reducible rfl); done)); try simp only [Act.put, List.setIfInBounds_toArray, List.set_cons_zero, List.set_cons_succ])
      (refine Org.yes (v := ?_) rfl (by kernel_rfl) (by kernel_rfl) (by kernel_rfl) (by kernel_rfl) (by kernel_rfl) (fun _ _ _ h => h) (by kernel_rfl) (SM.of hS) ?_ ?_; rotate_left; (focus (intro w hSw; (try dsimp only at hSw); refine Pure.val ?_; refine (exec_load 73 (.tmp 41) rfl (by go_simp; first | done | rfl) (SWL.ld' hSw R P1.out (by first | omega | exact C3.out))).trans ?_; with_reducible rfl)); try simp only [Act.put, List.setIfInBounds_toArray, List.set_cons_zero, List.set_cons_succ])
      iterate 4 (refine Org.yes (v := ?_) rfl (by kernel_rfl) (by kernel_rfl) (by kernel_rfl) (by kernel_rfl) (by kernel_rfl) (fun _ _ _ h => h) (by kernel_rfl) (SM.of hS) ?_ ?_; rotate_left; (focus (intro w hSw; (try dsimp only at hSw); refine Pure.val ?_; go_simp; (try with_reducible rfl); done)); try simp only [Act.put, List.setIfInBounds_toArray, List.set_cons_zero, List.set_cons_succ])
      (refine Org.yes (v := ?_) rfl (by kernel_rfl) (by kernel_rfl) (by kernel_rfl) (by kernel_rfl) (by kernel_rfl) (fun _ _ _ h => h) (by kernel_rfl) (SM.of hS) ?_ ?_; rotate_left; (focus (intro w hSw; (try dsimp only at hSw); refine Pure.val ?_; refine (exec_load 73 (.tmp 46) rfl (by go_simp; first | done | rfl) (SWL.ld' hSw R P2.out (by first | omega | exact C3.out))).trans ?_; with_reducible rfl)); try simp only [Act.put, List.setIfInBounds_toArray, List.set_cons_zero, List.set_cons_succ])
      refine Org.go rfl (by kernel_rfl) (by kernel_rfl) (fun K hK => ?_)
      go_simp
      first
       | (go_at_fn g)
       | skip
      refine (HE.out _ _ hS x2 y2).mono ?_
      rintro e wz ⟨rfl, hS3⟩
      go_wp2_with fail
      refine hK.out _ _ hS3 (fun hS2 => ?_)
      clear hS3
      clear hK K hS
      have hS := hS2
      clear hS2
      try simp only [Act.put, List.setIfInBounds_toArray, List.set_cons_zero, List.set_cons_succ]
      (refine Org.yes (v := ?_) rfl (by kernel_rfl) (by kernel_rfl) (by kernel_rfl) (by kernel_rfl) (by kernel_rfl) (fun _ _ _ h => h) (by kernel_rfl) (SM.of hS) ?_ ?_; rotate_left; (focus (intro w hSw; (try dsimp only at hSw); refine Pure.val ?_; go_simp; (try with_reducible rfl); done)); try simp only [Act.put, List.setIfInBounds_toArray, List.set_cons_zero, List.set_cons_succ])
      refine Org.done (by kernel_rfl) ?_
      skip
      have HS4 := hid hS
      clear HS hS c2
      have hj := HJ.out
      have hq := HQ.out
      have hM := HM.out
      have hr := (HS4.out.range R P1.out).1
      rw [← C3.out] at hr
      have ht := (HS4.out.range R HU.out).2
      have hput := HS4.out.put R (i := kk) (by omega) x2
      have hxn : (enc x2).length = 8 := R.hk x2
      have hxn1 : (enc x2).toArray.all (·.oneCell') = true := by simpa using h1 x2
      obtain ⟨ex, hexx⟩ : ∃ c, c = enc x2 := ⟨_, rfl⟩
      rw [← hexx] at hr hput hxn hxn1
      have HR := hid hr
      have HT := hid ht
      have HP := hid hput
      clear hr ht hput hexx hj hq hM
      go_wp2_with (first
       | ((with_reducible show wpList _ _ _ (⟨some 55, _, _, _, _, _⟩ :: _) _ _); go_must (refine wpList_load_mid rfl 73 (.tmp 54) rfl blk (off + k * 8 + k2 * 8) rfl ex dd HR.out HD1.out HD2.out (by rw [hxn]; exact R.size) ?_))
       | ((with_reducible show wpList _ _ _ (⟨none, _, _, _, _, _⟩ :: _) _ _); go_must (refine wpList_store_mid rfl 73 (.tmp 56) (.tmp 55) rfl blk (off + kk * 8) ex.toArray rfl rfl (by rw [show ex.toArray.size = 8 by simp [hxn]]; exact HT.out) (by rw [show ex.toArray.size = 8 by simp [hxn]]; exact R.size) hxn1 ?_)))
      ·skip
       rename_i he2
       have he3 : eqv lt x2 y2 = false := by simpa using he2
       have hj := HJ.out
       have hq := HQ.out
       have hM := HM.out
       have hl' := HL'.out
       go_roundw
       case rel =>
        refine ⟨kk + 1, k2 + 1, l'.set kk x2, by go_num, by go_num, by omega, by omega, by omega, by omega, by have := HP.out; simpa using this, ?_⟩
        refine ⟨?_, ?_⟩
        ·rw [List.drop_set, if_pos (by omega)]
         have := congrArg (fun z => z.drop 1) HG.out.1
         simp only [List.drop_drop] at this
         rwa [show k + k2 - 1 + 1 = k + (k2 + 1) - 1 by omega] at this
        ·rw [HG2.out, show k + (k2 + 1) - 1 = j by omega, HX2.out, show k + (k2 + 1) = j + 1 by omega]
         simp only [cptGo, he3, Bool.false_eq_true, ↓reduceIte]
         rw [List.take_set, List.take_succ_eq_append_getElem (by omega), List.set_append_right _ _ (by rw [List.length_take]; omega), show kk - (l'.take kk).length = 0 by rw [List.length_take]; omega]
         simp
       case measure => simp [intOf] <;> omega
      ·skip
       rename_i he2
       have he3 : eqv lt x2 y2 = true := by simpa using he2
       have hj := HJ.out
       have hq := HQ.out
       have hM := HM.out
       go_roundw
       case rel =>
        refine ⟨kk, k2 + 1, l', by go_num, by go_num, by omega, by omega, by omega, by omega, HS4.out, ?_⟩
        refine ⟨?_, ?_⟩
        ·have := congrArg (fun z => z.drop 1) HG.out.1
         simp only [List.drop_drop] at this
         rwa [show k + k2 - 1 + 1 = k + (k2 + 1) - 1 by omega] at this
        ·rw [HG2.out, show k + (k2 + 1) - 1 = j by omega, HX2.out, show k + (k2 + 1) = j + 1 by omega]
         simp only [cptGo, he3, if_true]
       case measure => simp [intOf] <;> omega
     ·have hlt2' : ¬ (k2 : Int) < (M : Int) := by omega
      have hM := HM.out
      have hln := HLN.out
      have kkN : kk < N := by omega
      have hz1 := HS.out.zero R (i := kk) (by omega) z
      have hck2 : ¬ cap = kk := by omega
      have hck3 : (kk : Int) ≤ (N : Int) := by omega
      have hck4 : (kk : Int) ≤ (cap : Int) := by omega
      have hcl : ∀ ty, (Builtin.clear_ #[43] ty #[.slice (some ⟨blk, off + kk * 8, none⟩) (N - kk) (cap - kk)]).run Tryz.prog wr = .ok (.tuple #[]) (wr.setCells blk (off + kk * 8) ((List.replicate (N - kk) z).flatMap enc)) := fun ty => by
       have := run_clear8 (P := Tryz.prog) wr 43 73 ty zv (enc z) Tryz.underlying43 HZV.out HZC.out (R.hk z) (h1 z) blk (off + kk * 8) (N - kk) (cap - kk) (by omega) (by
        intro j hj
        have hl' := HS.out.1
        have := (HS.out.range R (getD_some (l := l') (i := kk + j / 8) (by omega))).2 (j % 8) (by omega)
        rwa [show off + (kk + j / 8) * 8 + j % 8 = off + kk * 8 + j by omega] at this)
       rw [this, zeros_map]
      have HZ1 := hid hz1
      clear hz1 hM hln
      go_wp2_with fail
      go_ret
      have hg := HG.out.2
      have hM := HM.out
      have hln := HLN.out
      rw [List.drop_eq_nil_of_le (by omega)] at hg
      simp only [cptGo, List.append_nil] at hg
      have hl' := HS.out.1
      exact ⟨_, kk, rfl, HZ1.out, by rw [hg, List.length_take]; omega, by rw [hg, List.take_append_of_le_length (by rw [List.length_take]; omega), List.take_of_length_le (by rw [List.length_take]; omega)], by omega⟩
   ·rename_i he'
    go_roundw
    case rel =>
     refine ⟨k + 1, by go_num, by omega, by omega, HS3.out, ?_⟩
     show cpt lt l = _
     rw [HF2.out, show k + 1 - 1 = k by omega, HX.out, HTK.out]
     simp only [cptGo, he', Bool.false_eq_true, ↓reduceIte, List.append_assoc, List.cons_append, List.nil_append]
    case measure => simp [intOf] <;> omega
  ·have hlt' : ¬ (k : Int) < (N : Int) := by omega
   obtain rfl : k = N := by omega
   go_wp2_with fail
   go_ret
   have hf := HF.out
   rw [List.drop_eq_nil_of_le (by have := HLN.out; omega), List.take_of_length_le (by have := HLN.out; omega)] at hf
   simp only [cptGo, List.append_nil] at hf
   exact ⟨l, k, rfl, HS.out, by rw [hf, HLN.out], by rw [hf, List.take_of_length_le (by have := HLN.out; omega)], Nat.le_refl _⟩
end Go.Proofs.YtnknjeipfjdjoaaGreatDoor
namespace Wells
open Go Go.RowKit Go.Sort Go.Proofs Go.Lib
variable {P : Program} {α : Type} [Inhabited α] {enc : α → List Value} {w0 W : World} {blk off N : Nat} {l : List α}
theorem flatK_list (hk : ∀ x, (enc x).length = 8) (l : List α) : (flatK enc 8 l.toArray).toList = l.flatMap enc := by
 have hlen : ∀ l : List α, (l.flatMap enc).length = l.length * 8 := fun l => by
  induction l with
  | nil => rfl
  | cons x l ih => rw [List.flatMap_cons, List.length_append, hk, ih, List.length_cons, Nat.add_mul]; omega
 have hget : ∀ (l : List α) (t : Nat), t < l.length * 8 → (l.flatMap enc)[t]? = some ((enc l[t / 8]!)[t % 8]!) := by
  intro l
  induction l with
  | nil => intro t ht; simp at ht
  | cons x l ih =>
   intro t ht
   rw [List.flatMap_cons]
   by_cases h : t < 8
   ·rw [List.getElem?_append_left (by rw [hk]; exact h), show t / 8 = 0 by omega, show t % 8 = t by omega]
    simp only [List.getElem!_cons_zero]
    rw [getElem!_pos (enc x) t (by rw [hk]; exact h), List.getElem?_eq_getElem]
   ·rw [List.getElem?_append_right (by rw [hk]; omega), hk, ih (t - 8) (by simp at ht; omega), show t / 8 = (t - 8) / 8 + 1 by omega, show t % 8 = (t - 8) % 8 by omega]
    rw [List.getElem!_cons_succ]
 apply List.ext_getElem?
 intro t
 by_cases ht : t < l.length * 8
 ·rw [hget l t ht, Array.getElem?_toList]
  simp [flatK, ht]
 ·rw [List.getElem?_eq_none (by simp; omega), List.getElem?_eq_none (by rw [hlen]; omega)]
theorem flatMap_len (hk : ∀ x, (enc x).length = 8) (l : List α) : (l.flatMap enc).length = l.length * 8 := by
 rw [← flatK_list hk]; simp
/-- the row's world, opened: the block's cells -/
theorem SWL.heap (h : SWL enc w0 blk 0 N l W) (hk : ∀ x, (enc x).length = 8) {cur : Array Value} {T : TypeId} {fr : Nat × Nat} (hb : w0.heap[blk]? = some (.cells cur T fr)) (hs : N * 8 ≤ cur.size) :
  (∃ cur' : Array Value, W.heap[blk]? = some (.cells cur' T fr) ∧ cur'.size = cur.size ∧ cur'.toList.take (N * 8) = l.flatMap enc) ∧ w0.grownBy W (some blk) := by
 obtain ⟨hl, dk, h1, n, os, rfl⟩ := h
 have hg : blk < w0.heap.size := (Array.getElem?_eq_some_iff.1 hb).1
 have hdk : dk = l.toArray := by rw [← h1]
 unfold sortWorldK putRowK
 constructor
 ·refine ⟨putCells id 0 (flatK enc 8 dk) cur, ?_, by simp [putCells], ?_⟩
  ·rw [heap_grow_old _ _ (by simpa [putRow, mapBlock] using hg)]
   simp [putRow, mapBlock, Sort.ahead, Array.getElem?_modify, hb, onCells]
  ·rw [← flatK_list hk, ← hdk]
   have hsz : (flatK enc 8 dk).size = N * 8 := by rw [size_flatK, ← Array.length_toList, h1, hl]
   apply List.ext_getElem?
   intro j
   by_cases hj : j < N * 8
   ·rw [List.getElem?_take_of_lt hj, Array.getElem?_toList]
    have hj2 : j < cur.size := by omega
    simp [putCells, hj2, hsz, hj]
   ·rw [List.getElem?_take_eq_none (by omega), List.getElem?_eq_none (by rw [Array.length_toList, hsz]; omega)]
 ·refine ⟨rfl, rfl, rfl, by simp [putRow, mapBlock], fun k hk' hne => ?_⟩
  rw [heap_grow_old _ _ (by simpa [putRow, mapBlock] using hk')]
  have : blk ≠ k := fun e => hne (by rw [e])
  simp [putRow, mapBlock, Sort.ahead, Array.getElem?_modify, this]
/-- a row of one's own, as what is to be sorted -/
theorem SWL.start (hk : ∀ x, (enc x).length = 8) (h1 : ∀ x, ∀ v ∈ enc x, v.oneCell' = true) {T : TypeId} {base c n : Nat} {ad : Addr} (h : w0.ownsRow base T 8 (.slice (some ad) n c) n (l.flatMap enc)) (hn : l.length = n) (ha : ∃ d, P.underlying T = some d ∧ d.isRow = true) (hsz : (P.info? T).map (·.size) = some 8) :
  ∃ g cur, ad = ⟨g, 0, none⟩ ∧ base ≤ g ∧ w0.heap[g]? = some (.cells cur T (0, 0)) ∧ n ≤ c ∧ c ≤ maxLen ∧ cur.size = c * 8 ∧ SWL enc w0 g 0 n l w0 ∧ RowL P T enc w0 g 0 n := by
 rcases h.2 with ⟨hv, _⟩ | ⟨g, cap, cur, hv, hb, hg, hnc, hcm, hcs, ht⟩
 ·cases hv
 injection hv with e1 e2 e3
 injection e1 with e1
 subst e1 e3
 have hH : HoldsK enc 8 w0 g 0 l.toArray := by
  intro j hj
  have hj' : j < n * 8 := by rw [size_flatK] at hj; simpa [hn] using hj
  refine ⟨?_, by simp [World.frozen?, hg]⟩
  rw [Nat.zero_add, cell_of_row w0 g j cur T (0, 0) hg]
  have h2 : cur.toList[j]? = (l.flatMap enc)[j]? := by rw [← ht, List.getElem?_take_of_lt hj']
  rw [← Array.getElem?_toList, h2, ← flatK_list hk, Array.getElem?_toList]
  rw [Array.getElem?_eq_getElem hj, getElem!_pos _ j hj]
  rfl
 exact ⟨g, cur, rfl, hb, hg, hnc, hcm, hcs, ⟨hn, l.toArray, rfl, SWK.start hH⟩, ⟨⟨l.toArray, by simpa using hn, ⟨hk, h1, hH, (Array.getElem?_eq_some_iff.1 hg).1⟩⟩, ha, hsz⟩⟩
/-- behind it: the same slice owns what is there now -/
theorem SWL.back (h : SWL enc w0 blk 0 N l W) (hk : ∀ x, (enc x).length = 8) {cur : Array Value} {T : TypeId} {base c n : Nat} (hb : w0.heap[blk]? = some (.cells cur T (0, 0))) (hbase : base ≤ blk) (hs : cur.size = c * 8) (hn : n ≤ N) (hc : N ≤ c) (hcm : c ≤ maxLen) :
  W.ownsRow base T 8 (.slice (some ⟨blk, 0, none⟩) n c) n ((l.take n).flatMap enc) ∧ w0.grownBy W (some blk) := by
 obtain ⟨⟨cur', h1, h2, h3⟩, h4⟩ := h.heap hk hb (by rw [hs]; exact Nat.mul_le_mul_right _ hc)
 have hl := h.1
 refine ⟨⟨by rw [flatMap_len hk, List.length_take]; congr 1; omega, .inr ⟨blk, c, cur', rfl, hbase, h1, by omega, hcm, by rw [h2, hs], ?_⟩⟩, h4⟩
 have : cur'.toList.take (n * 8) = (cur'.toList.take (N * 8)).take (n * 8) := by rw [List.take_take]; congr 1; have := Nat.mul_le_mul_right 8 hn; omega
 rw [this, h3]
 have e : l.flatMap enc = (l.take n).flatMap enc ++ (l.drop n).flatMap enc := by rw [← List.flatMap_append, List.take_append_drop]
 rw [e, List.take_append_of_le_length (by rw [flatMap_len hk, List.length_take]; have := Nat.mul_le_mul_right 8 (show n ≤ min n l.length by omega); omega), List.take_of_length_le (by rw [flatMap_len hk, List.length_take]; have := Nat.mul_le_mul_right 8 (show min n l.length ≤ n by omega); omega)]
end Wells
