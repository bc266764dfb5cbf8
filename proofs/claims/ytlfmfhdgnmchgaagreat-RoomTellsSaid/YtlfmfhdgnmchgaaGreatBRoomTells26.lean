/- StbRc CptR -/
import Derived.Test.YtlfmfhdgnmchgaaGreatProg
import Derived.BigGuardPart
import Derived.Deep.DeepCutAuto
import Derived.Test.YtlfmfhdgnmchgaaGreatBRoomTells00
import Derived.Test.YtlfmfhdgnmchgaaGreatBRoomTells05
import Derived.Test.YtlfmfhdgnmchgaaGreatBRoomTells14
import Derived.Test.YtlfmfhdgnmchgaaGreatBRoomTells25
set_option maxRecDepth 20000
set_option linter.unusedSimpArgs false
set_option linter.unusedVariables false
set_option linter.unusedSectionVars false
namespace Go.Proofs.YtlfmfhdgnmchgaaGreat
open Go.RowKit Wells Go.Sort Go.Lib
variable {α : Type} [Inhabited α] {enc : α → List Value} {w0 W : World} {blk off N cap : Nat} {l : List α} {g : Nat} {cf : α → α → Int}

set_option maxHeartbeats 4000000 in
theorem sstbR_any (ho : SOrd fun x y => decide (cf x y < 0)) (R : RowL Tryz.prog 75 enc w0 blk off N) (hN : N ≤ 1048576) (h1 : ∀ x, ∀ v ∈ enc x, v.oneCell' = true) (eg : ∀ args w, (callFunc g args).run Tryz.prog w = .ok (.enter g args) w) (hC : CmpLays Tryz.prog g #[] enc 8 cf blk off N w0) (h : SWL enc w0 blk off N l W) :
    Calls Tryz.prog 87 #[.slice (some ⟨blk, off, none⟩) N cap, .int .i64 N, .func (.func g) #[] #[]] W fun e w' => e = .returned (.tuple #[]) ∧ SWL enc w0 blk off N (ssort (fun x y => decide (cf x y < 0)) l) w' := by
  have hln := h.1
  have HH := hid h
  have HC := hid hC
  have HO := hid ho
  have HLN := hid hln
  clear h hC ho hln
  go_enter Tryz.func87, Tryz.ntmps87
  go_wp2_with fail
  go_loopw [7, 8] (fun va vb wr => ∃ (a b : Nat) (X : List α), va = .int .i64 (a : Int) ∧ vb = .int .i64 (b : Int) ∧ a + 20 = b ∧ a ≤ N ∧ SWL enc w0 blk off N (X ++ l.drop a) wr ∧ Hid (X.length = a ∧ X ++ csort (fun x y => decide (cf x y < 0)) 20 (l.drop a) = csort (fun x y => decide (cf x y < 0)) 20 l)) (fun a _ _ => N - (intOf a).toNat)
  case atStart => exact ⟨0, 20, [], rfl, rfl, by omega, by omega, HH.out, ⟨rfl, rfl⟩⟩
  case round =>
    obtain ⟨a, b, X, rfl, rfl, hab, haN, hs, HF⟩ := hrel
    have HS := hid hs
    clear hs
    by_cases hb : b ≤ N
    · as_aux_lemma =>
      have hb' : (b : Int) ≤ (N : Int) := by omega
      have e0 : (b : Int) + 20 = ((b + 20 : Nat) : Int) := by omega
      obtain ⟨f1, f2⟩ := HF.out
      have hk := sinsR_any (cap := cap) HO.out R hN h1 eg HC.out (A := X) (L := (l.drop a).take 20) (S := l.drop b) (a := a) (b := b) (W := wr) (by have := HS.out; rwa [← hab, ← List.drop_drop, List.take_append_drop]) f1 (by have := HLN.out; simp; omega)
      have HK := hid hk
      have HAB := hid hab
      clear hk f1 f2 hab e0
      go_wp2_with fail
      refine HK.out.mono ?_
      rintro e w2 ⟨rfl, hs2⟩
      have HS2 := hid hs2
      clear hs2
      go_wp2_with fail
      have hab := HAB.out
      have hln := HLN.out
      go_roundw
      case rel =>
        refine ⟨b, b + 20, X ++ ssort (fun x y => decide (cf x y < 0)) ((l.drop a).take 20), rfl, by go_num, rfl, hb, by have := HS2.out; simpa using this, ?_⟩
        obtain ⟨f1, f2⟩ := HF.out
        refine ⟨by simp [ssort_length]; omega, ?_⟩
        rw [← f2, csort_step (w := 20) (l := l.drop a) (by omega) (by simp; omega), List.drop_drop, hab, List.append_assoc]
      case measure => simp [intOf] <;> omega
    · have hb' : ¬ (b : Int) ≤ (N : Int) := by omega
      have hln := HLN.out
      obtain ⟨f1, f2⟩ := HF.out
      have hk := sinsR_any (cap := cap) HO.out R hN h1 eg HC.out (A := X) (L := l.drop a) (S := []) (a := a) (b := N) (W := wr) (by simpa using HS.out) f1 (by simp; omega)
      rw [← csort_small (w := 20) (l := l.drop a) (by simp; omega), ← List.append_assoc, f2, List.append_nil] at hk
      have HK := hid hk
      clear hk f1 f2 hab hln
      go_wp2_with fail
      refine HK.out.mono ?_
      rintro e w2 ⟨rfl, hs2⟩
      clear HS HF HK
      have HS := hid hs2
      clear hs2
      go_wp2_with fail
      go_loopw [6] (fun vw wr => ∃ w : Nat, vw = .int .i64 (w : Int) ∧ 0 < w ∧ w ≤ 2 * N + 20 ∧ SWL enc w0 blk off N (csort (fun x y => decide (cf x y < 0)) w l) wr) (fun w _ => N - (intOf w).toNat)
      case atStart => exact ⟨20, rfl, by omega, by omega, HS.out⟩
      case round =>
        obtain ⟨w, rfl, hw0, hwN, hs⟩ := hrel
        clear HS
        have HS := hid hs
        clear hs
        by_cases hlt : w < N
        · have hlt' : (w : Int) < (N : Int) := by omega
          obtain ⟨w2, hw2⟩ : ∃ w2, 2 * w = w2 := ⟨_, rfl⟩
          have e1 : 2 * (w : Int) = (w2 : Int) := by omega
          have e2 : (w : Int) * 2 = (w2 : Int) := by omega
          have HW2 := hid hw2
          obtain ⟨wl, hwl⟩ : ∃ wl, wl = wr := ⟨_, rfl⟩
          rw [← hwl] at HS ⊢
          clear hwl hw2
          go_wp2_with fail
          go_loopw [7, 8] (fun va vb wr => ∃ (a b : Nat) (X : List α), va = .int .i64 (a : Int) ∧ vb = .int .i64 (b : Int) ∧ a + w2 = b ∧ a ≤ N ∧ SWL enc w0 blk off N (X ++ csort (fun x y => decide (cf x y < 0)) w (l.drop a)) wr ∧ Hid (X.length = a ∧ X ++ csort (fun x y => decide (cf x y < 0)) w2 (l.drop a) = csort (fun x y => decide (cf x y < 0)) w2 l)) (fun a _ _ => N - (intOf a).toNat)
          case atStart => exact ⟨0, w2, [], rfl, rfl, by omega, by omega, HS.out, ⟨rfl, rfl⟩⟩
          case round =>
            obtain ⟨a, b, X, rfl, rfl, hab, haN, hs, HF⟩ := hrel
            clear HS
            have HS := hid hs
            clear hs
            by_cases hb : b ≤ N
            · as_aux_lemma =>
              have hb' : (b : Int) ≤ (N : Int) := by omega
              have hw2 := HW2.out
              have hln := HLN.out
              obtain ⟨m, hm⟩ : ∃ m, a + w = m := ⟨_, rfl⟩
              have e3 : (a : Int) + (w : Int) = (m : Int) := by omega
              obtain ⟨f1, f2⟩ := HF.out
              obtain ⟨g1, g2⟩ := csort_two HO.out (w := w) (l := l.drop a) hw0 (by simp; omega)
              have hs := HS.out
              rw [g1] at hs
              rw [hw2] at g2 hs
              have hk := ssymR_any (cap := cap) HO.out R hN h1 eg HC.out N X (ssort (fun x y => decide (cf x y < 0)) ((l.drop a).take w)) (ssort (fun x y => decide (cf x y < 0)) (((l.drop a).drop w).take w)) (csort (fun x y => decide (cf x y < 0)) w ((l.drop a).drop w2)) a m b wr (by omega) hs f1 (by simp [ssort_length]; omega) (by simp [ssort_length]; omega) (by omega) (by omega) (ssort_srt HO.out _) (ssort_srt HO.out _)
              have HK := hid hk
              have HG := hid g2
              have HAB := hid hab
              clear hk f1 f2 hab g1 g2 hs hw2 hln hm
              go_wp2_with fail
              refine HK.out.mono ?_
              rintro e wz ⟨rfl, hs2⟩
              have HS2 := hid hs2
              clear hs2
              go_wp2_with fail
              have hab := HAB.out
              have hln := HLN.out
              have hw2 := HW2.out
              go_roundw
              case rel =>
                obtain ⟨f1, f2⟩ := HF.out
                refine ⟨b, b + w2, X ++ mrg (fun x y => decide (cf x y < 0)) (ssort (fun x y => decide (cf x y < 0)) ((l.drop a).take w)) (ssort (fun x y => decide (cf x y < 0)) (((l.drop a).drop w).take w)), rfl, by go_num, rfl, hb, ?_, ?_⟩
                · have := HS2.out
                  rw [show (l.drop a).drop w2 = l.drop b by rw [List.drop_drop, hab]] at this
                  rw [List.append_assoc]; exact this
                · refine ⟨by simp [ssort_length, mrg_length]; omega, ?_⟩
                  rw [← f2, HG.out, show (l.drop a).drop w2 = l.drop b by rw [List.drop_drop, hab], List.append_assoc]
              case measure => simp [intOf] <;> omega
            · have hb' : ¬ (b : Int) ≤ (N : Int) := by omega
              have hw2 := HW2.out
              have hln := HLN.out
              obtain ⟨m, hm⟩ : ∃ m, a + w = m := ⟨_, rfl⟩
              have e3 : (a : Int) + (w : Int) = (m : Int) := by omega
              obtain ⟨f1, f2⟩ := HF.out
              by_cases hmN : m < N
              · as_aux_lemma =>
                have hmN' : (m : Int) < (N : Int) := by omega
                obtain ⟨g1, g2⟩ := csort_last HO.out (w := w) (l := l.drop a) hw0 (by simp; omega) (by simp; omega)
                have hs := HS.out
                rw [g1] at hs
                rw [hw2] at g2
                have hk := ssymR_any (cap := cap) HO.out R hN h1 eg HC.out N X (ssort (fun x y => decide (cf x y < 0)) ((l.drop a).take w)) (ssort (fun x y => decide (cf x y < 0)) ((l.drop a).drop w)) [] a m N wr (by omega) (by simpa using hs) f1 (by simp [ssort_length]; omega) (by simp [ssort_length]; omega) (by omega) (by omega) (ssort_srt HO.out _) (ssort_srt HO.out _)
                rw [List.append_nil, ← g2, f2] at hk
                have HK := hid hk
                clear hk f1 f2 hab g1 g2 hs hw2 hln hm
                go_wp2_with fail
                refine HK.out.mono ?_
                rintro e wz ⟨rfl, hs2⟩
                have HS2 := hid hs2
                clear hs2
                go_wp2_with fail
                have hw2 := HW2.out
                go_roundw
                case rel => exact ⟨w2, rfl, by omega, by omega, HS2.out⟩
                case measure => simp [intOf] <;> omega
              · as_aux_lemma =>
                have hmN' : ¬ (m : Int) < (N : Int) := by omega
                have hs := HS.out
                rw [csort_all hw0 (by simp; omega), ← csort_small (w := w2) (l := l.drop a) (by simp; omega), f2] at hs
                have HS2 := hid hs
                clear f1 f2 hab hs hln hm hw2
                go_wp2_with fail
                have hw2 := HW2.out
                go_roundw
                case rel => exact ⟨w2, rfl, by omega, by omega, HS2.out⟩
                case measure => simp [intOf] <;> omega
        · have hlt' : ¬ (w : Int) < (N : Int) := by omega
          go_wp2_with fail
          go_end0
          refine ⟨rfl, ?_⟩
          have := HS.out
          rwa [csort_all hw0 (by have := HLN.out; omega)] at this
theorem sstableR_any (ho : SOrd fun x y => decide (cf x y < 0)) (R : RowL Tryz.prog 75 enc w0 blk off N) (hN : N ≤ 1048576) (h1 : ∀ x, ∀ v ∈ enc x, v.oneCell' = true) (eg : ∀ args w, (callFunc g args).run Tryz.prog w = .ok (.enter g args) w) (hC : CmpLays Tryz.prog g #[] enc 8 cf blk off N w0) (h : SWL enc w0 blk off N l W) :
    Calls Tryz.prog 46 #[.slice (some ⟨blk, off, none⟩) N cap, .func (.func g) #[] #[]] W fun e w' => e = .returned (.tuple #[]) ∧ SWL enc w0 blk off N (ssort (fun x y => decide (cf x y < 0)) l) w' := by
  have hk := sstbR_any (cap := cap) ho R hN h1 eg hC h
  have HK := hid hk
  clear hk h hC ho
  go_enter Tryz.func46, Tryz.ntmps46
  go_wp2_with fail
  refine HK.out.mono ?_
  rintro e w2 ⟨rfl, hs2⟩
  have HS2 := hid hs2
  clear hs2
  go_wp2_with fail
  go_end0
  exact ⟨rfl, HS2.out⟩

end Go.Proofs.YtlfmfhdgnmchgaaGreat

namespace Go.Proofs.YtlfmfhdgnmchgaaGreat
open Go.RowKit Wells Go.Sort Go.Lib
variable {α : Type} [Inhabited α] {enc : α → List Value} {w0 W : World} {blk off N cap : Nat} {l : List α} {g : Nat} {lt : α → α → Bool}
set_option maxHeartbeats 4000000 in
theorem scptR_any (R : RowL Tryz.prog 75 enc w0 blk off N) (hN : N ≤ 1048576) (h1 : ∀ x, ∀ v ∈ enc x, v.oneCell' = true) (eg : ∀ args w, (callFunc g args).run Tryz.prog w = .ok (.enter g args) w) (hE : EqL Tryz.prog g enc lt w0 blk off N) (z : α) (zv : Value) (hzv : ∀ w, (zeroValue 75).run Tryz.prog w = .ok zv w) (hzc : zv.cells = (enc z).toArray)
    (hN1 : 1 ≤ N) (hcap : N ≤ cap) (hcap2 : cap ≤ 9223372036854775807) (h : SWL enc w0 blk off N l W) :
    Calls Tryz.prog 48 #[.slice (some ⟨blk, off, none⟩) N cap, .func (.func g) #[] #[]] W (CptR enc w0 blk off N cap lt l) := by
  have HH := hid h
  have HE := hid hE
  have HLN := hid h.1
  have HZV := hid hzv
  have HZC := hid hzc
  have hu : ∃ d, Tryz.prog.underlying 75 = some d ∧ d.isRow = true := R.agg
  obtain ⟨dd, hd1, hd2⟩ := hu
  have HD1 := hid hd1
  have HD2 := hid hd2
  clear h hE hzv hzc hd1 hd2
  by_cases h2 : N < 2
  · have h2' : (N : Int) < 2 := by omega
    go_enter Tryz.func48, Tryz.ntmps48
    go_wp2_with fail
    go_ret
    have hl := HLN.out
    match l, hl with
    | [], hl => simp at hl; omega
    | [x], _ =>
      refine ⟨[x], N, rfl, HH.out, ?_, ?_, Nat.le_refl _⟩
      · have : N = 1 := by omega
        simp [cpt, cptGo, this]
      · have : N = 1 := by omega
        simp [cpt, cptGo, this]
    | x :: y :: r, hl => simp at hl; omega
  have h2' : ¬ (N : Int) < 2 := by omega
  go_enter Tryz.func48, Tryz.ntmps48
  go_wp2_with fail
  go_loopw [5] (fun v wr => ∃ k : Nat, v = .int .i64 (k : Int) ∧ 1 ≤ k ∧ k ≤ N ∧ SWL enc w0 blk off N l wr ∧ Hid (cpt lt l = l.take k ++ cptGo lt (l[k - 1]!) (l.drop k))) (fun v _ => N - (intOf v).toNat)
  case atStart =>
    refine ⟨1, rfl, Nat.le_refl _, by omega, HH.out, ?_⟩
    have hl := HLN.out
    match l, hl with
    | [], hl => simp at hl; omega
    | x :: r, _ => exact rfl
  case round =>
    obtain ⟨k, rfl, hk1, hkN, hs, HF⟩ := hrel
    have HS := hid hs
    clear hs
    by_cases hlt : k < N
    · have hlt' : (k : Int) < (N : Int) := by omega
      obtain ⟨kp, hkp⟩ : ∃ kp, k - 1 = kp := ⟨_, rfl⟩
      obtain ⟨x, hx⟩ : ∃ x, l[k]! = x := ⟨_, rfl⟩
      obtain ⟨y, hy⟩ : ∃ y, l[kp]! = y := ⟨_, rfl⟩
      have p1 : l[k]? = some x := by rw [← hx]; exact getD_some (by have := HLN.out; omega)
      have p2 : l[kp]? = some y := by rw [← hy]; exact getD_some (by have := HLN.out; omega)
      have hdr : l.drop k = x :: l.drop (k + 1) := by
        rw [← hx, getElem!_pos l k (by have := HLN.out; omega)]; exact List.drop_eq_getElem_cons (by have := HLN.out; omega)
      have htk : l.take (k + 1) = l.take k ++ [x] := by
        rw [← hx, getElem!_pos l k (by have := HLN.out; omega)]; exact List.take_succ_eq_append_getElem (by have := HLN.out; omega)
      have hf := HF.out
      rw [hkp, hy, hdr] at hf
      have P1 := hid p1
      have P2 := hid p2
      have HX := hid hx
      have HTK := hid htk
      have HF2 := hid hf
      have HDR := hid hdr
      have c1 : (kp : Int) < (N : Int) := by omega
      have c2 : IntKind.i64.wrap ((k : Int) - 1) = (kp : Int) := by rw [IntKind.wrap_i64]; omega
      have HKP := hid hkp
      clear p1 p2 hx hy hf hdr htk hkp
      go_wp2_with fail
      refine Org.begin [] (SWL enc w0 blk off N (l)) [0, 1, 2, 3, 4, 5, 6, 7, 8, 9, 10] (by kernel_rfl) (HS.out.drew) (fun hS => ?_)
      (refine Org.yes (v := ?_) rfl (by kernel_rfl) (by kernel_rfl) (by kernel_rfl) (by kernel_rfl) (by kernel_rfl) (fun _ _ _ h => h) (by kernel_rfl) (SM.of hS) ?_ ?_; rotate_left; (focus (intro w hSw; (try dsimp only at hSw); refine Pure.val ?_; go_simp; (try with_reducible rfl); done)); try simp only [Act.put, List.setIfInBounds_toArray, List.set_cons_zero, List.set_cons_succ])
      (refine Org.yes (v := ?_) rfl (by kernel_rfl) (by kernel_rfl) (by kernel_rfl) (by kernel_rfl) (by kernel_rfl) (fun _ _ _ h => h) (by kernel_rfl) (SM.of hS) ?_ ?_; rotate_left; (focus (intro w hSw; (try dsimp only at hSw); refine Pure.val ?_; go_simp; (try with_reducible rfl); done)); try simp only [Act.put, List.setIfInBounds_toArray, List.set_cons_zero, List.set_cons_succ])
      (refine Org.yes (v := ?_) rfl (by kernel_rfl) (by kernel_rfl) (by kernel_rfl) (by kernel_rfl) (by kernel_rfl) (fun _ _ _ h => h) (by kernel_rfl) (SM.of hS) ?_ ?_; rotate_left; (focus (intro w hSw; (try dsimp only at hSw); refine Pure.val ?_; go_simp; (try with_reducible rfl); done)); try simp only [Act.put, List.setIfInBounds_toArray, List.set_cons_zero, List.set_cons_succ])
      (refine Org.yes (v := ?_) rfl (by kernel_rfl) (by kernel_rfl) (by kernel_rfl) (by kernel_rfl) (by kernel_rfl) (fun _ _ _ h => h) (by kernel_rfl) (SM.of hS) ?_ ?_; rotate_left; (focus (intro w hSw; (try dsimp only at hSw); refine Pure.val ?_; go_simp; (try with_reducible rfl); done)); try simp only [Act.put, List.setIfInBounds_toArray, List.set_cons_zero, List.set_cons_succ])
      (refine Org.yes (v := ?_) rfl (by kernel_rfl) (by kernel_rfl) (by kernel_rfl) (by kernel_rfl) (by kernel_rfl) (fun _ _ _ h => h) (by kernel_rfl) (SM.of hS) ?_ ?_; rotate_left; (focus (intro w hSw; (try dsimp only at hSw); refine Pure.val ?_; refine (exec_load 75 (.tmp 21) rfl (by go_simp; first | done | rfl) (SWL.ld' hSw R P1.out (by omega))).trans ?_; with_reducible rfl)); try simp only [Act.put, List.setIfInBounds_toArray, List.set_cons_zero, List.set_cons_succ])
      (refine Org.yes (v := ?_) rfl (by kernel_rfl) (by kernel_rfl) (by kernel_rfl) (by kernel_rfl) (by kernel_rfl) (fun _ _ _ h => h) (by kernel_rfl) (SM.of hS) ?_ ?_; rotate_left; (focus (intro w hSw; (try dsimp only at hSw); refine Pure.val ?_; go_simp; (try with_reducible rfl); done)); try simp only [Act.put, List.setIfInBounds_toArray, List.set_cons_zero, List.set_cons_succ])
      (refine Org.yes (v := ?_) rfl (by kernel_rfl) (by kernel_rfl) (by kernel_rfl) (by kernel_rfl) (by kernel_rfl) (fun _ _ _ h => h) (by kernel_rfl) (SM.of hS) ?_ ?_; rotate_left; (focus (intro w hSw; (try dsimp only at hSw); refine Pure.val ?_; go_simp; (try with_reducible rfl); done)); try simp only [Act.put, List.setIfInBounds_toArray, List.set_cons_zero, List.set_cons_succ])
      (refine Org.yes (v := ?_) rfl (by kernel_rfl) (by kernel_rfl) (by kernel_rfl) (by kernel_rfl) (by kernel_rfl) (fun _ _ _ h => h) (by kernel_rfl) (SM.of hS) ?_ ?_; rotate_left; (focus (intro w hSw; (try dsimp only at hSw); refine Pure.val ?_; go_simp; (try with_reducible rfl); done)); try simp only [Act.put, List.setIfInBounds_toArray, List.set_cons_zero, List.set_cons_succ])
      (refine Org.yes (v := ?_) rfl (by kernel_rfl) (by kernel_rfl) (by kernel_rfl) (by kernel_rfl) (by kernel_rfl) (fun _ _ _ h => h) (by kernel_rfl) (SM.of hS) ?_ ?_; rotate_left; (focus (intro w hSw; (try dsimp only at hSw); refine Pure.val ?_; go_simp; (try with_reducible rfl); done)); try simp only [Act.put, List.setIfInBounds_toArray, List.set_cons_zero, List.set_cons_succ])
      (refine Org.yes (v := ?_) rfl (by kernel_rfl) (by kernel_rfl) (by kernel_rfl) (by kernel_rfl) (by kernel_rfl) (fun _ _ _ h => h) (by kernel_rfl) (SM.of hS) ?_ ?_; rotate_left; (focus (intro w hSw; (try dsimp only at hSw); refine Pure.val ?_; refine (exec_load 75 (.tmp 26) rfl (by go_simp; first | done | rfl) (SWL.ld' hSw R P2.out (by omega))).trans ?_; with_reducible rfl)); try simp only [Act.put, List.setIfInBounds_toArray, List.set_cons_zero, List.set_cons_succ])
      refine Org.go rfl (by kernel_rfl) (by kernel_rfl) (fun K hK => ?_)
      go_simp
      first
        | (go_at_fn g)
        | skip
      refine (HE.out _ _ hS x y).mono ?_
      rintro e wz ⟨rfl, hS3⟩
      go_wp2_with fail
      refine hK.out _ _ hS3 (fun hS2 => ?_)
      clear hS3
      clear hK K hS
      have hS := hS2
      clear hS2
      try simp only [Act.put, List.setIfInBounds_toArray, List.set_cons_zero, List.set_cons_succ]
      refine Org.done (by kernel_rfl) ?_
      skip
      have HS3 := hid hS
      clear HS hS c2 HF
      have hkp := HKP.out
      have hck : ¬ cap = k := by omega
      have hck' : ¬ k = cap := by omega
      have hkc : (k : Int) ≤ (N : Int) := by omega
      generalize wz = wl at *
      go_wp2_with fail
      · rename_i he K0 K1
        have HEQ := hid he
        clear he
        obtain ⟨M, hM⟩ : ∃ M, N - k = M := ⟨_, rfl⟩
        obtain ⟨C, hC⟩ : ∃ C, cap - k = C := ⟨_, rfl⟩
        rw [hM, hC]
        have hMb : M ≤ 1048576 := by omega
        have HM := hid hM
        have HC := hid hC
        clear hM hC
        go_loopw [5, 7] (fun v5 v7 wr => ∃ (kk k2 : Nat) (l' : List α), v5 = .int .i64 (kk : Int) ∧ v7 = .int .i64 (k2 : Int) ∧ 1 ≤ k2 ∧ k2 ≤ M ∧ k ≤ kk ∧ kk + 1 ≤ k + k2 ∧ SWL enc w0 blk off N l' wr ∧ Hid (l'.drop (k + k2 - 1) = l.drop (k + k2 - 1) ∧ cpt lt l = l'.take kk ++ cptGo lt (l[k + k2 - 1]!) (l.drop (k + k2)))) (fun _ v _ => M - (intOf v).toNat)
        case atStart =>
          refine ⟨k, 1, l, rfl, rfl, Nat.le_refl _, by have := HM.out; omega, Nat.le_refl _, by omega, HS3.out, rfl, ?_⟩
          rw [HF2.out, show k + 1 - 1 = k by omega, HX.out]
          simp only [cptGo, HEQ.out, if_true]
        case round =>
          obtain ⟨kk, k2, l', rfl, rfl, hk21, hk2N, hkkk, hkk2, hs, HG⟩ := hrel
          have HS := hid hs
          clear hs HS3
          by_cases hlt2 : k2 < M
          · have hlt2' : (k2 : Int) < (M : Int) := by omega
            have hM := HM.out
            have hln := HLN.out
            have hl' := HS.out.1
            obtain ⟨q, hq⟩ : ∃ q, k2 - 1 = q := ⟨_, rfl⟩
            obtain ⟨j, hj⟩ : ∃ j, k + k2 = j := ⟨_, rfl⟩
            obtain ⟨x2, hx2⟩ : ∃ x2, l[j]! = x2 := ⟨_, rfl⟩
            obtain ⟨y2, hy2⟩ : ∃ y2, l[k + q]! = y2 := ⟨_, rfl⟩
            obtain ⟨g1, g2⟩ := HG.out
            have eqd : ∀ i, l'[j - 1 + i]? = l[j - 1 + i]? := fun i => by
              have := congrArg (fun z => z[i]?) g1
              simp only [List.getElem?_drop] at this
              rw [hj] at this
              exact this
            have p1 : l'[j]? = some x2 := by
              rw [show j = j - 1 + 1 by omega, eqd, show j - 1 + 1 = j by omega, ← hx2]; exact getD_some (by omega)
            have p2 : l'[k + q]? = some y2 := by
              rw [show k + q = j - 1 + 0 by omega, eqd, show j - 1 + 0 = k + q by omega, ← hy2]; exact getD_some (by omega)
            obtain ⟨u, hu⟩ : ∃ u, l'[kk]? = some u := ⟨_, getD_some (by omega)⟩
            have hdr2 : l.drop j = x2 :: l.drop (j + 1) := by
              rw [← hx2, getElem!_pos l j (by omega)]; exact List.drop_eq_getElem_cons (by omega)
            have hg2 : cpt lt l = l'.take kk ++ cptGo lt y2 (x2 :: l.drop (j + 1)) := by
              rw [g2, hj, hdr2, show j - 1 = k + q by omega, hy2]
            have P1 := hid p1
            have P2 := hid p2
            have HX2 := hid hx2
            have HG2 := hid hg2
            have HU := hid hu
            have HJ := hid hj
            have HQ := hid hq
            have HL' := hid hl'
            have c1 : (q : Int) < (M : Int) := by omega
            have c2 : IntKind.i64.wrap ((k2 : Int) - 1) = (q : Int) := by rw [IntKind.wrap_i64]; omega
            have c3 : off + k * 8 + k2 * 8 = off + j * 8 := by omega
            have C3 := hid c3
            have kkN : (kk : Int) < (N : Int) := by omega
            clear p1 p2 hx2 hy2 hu hdr2 hg2 eqd g1 g2 hj hq hM hln hl' c3
            go_wp2_with fail
            refine Org.begin [] (SWL enc w0 blk off N (l')) [0, 1, 2, 3, 4, 5, 6, 7, 8, 9, 10, 11] (by kernel_rfl) (HS.out.drew) (fun hS => ?_)
            (refine Org.yes (v := ?_) rfl (by kernel_rfl) (by kernel_rfl) (by kernel_rfl) (by kernel_rfl) (by kernel_rfl) (fun _ _ _ h => h) (by kernel_rfl) (SM.of hS) ?_ ?_; rotate_left; (focus (intro w hSw; (try dsimp only at hSw); refine Pure.val ?_; go_simp; (try with_reducible rfl); done)); try simp only [Act.put, List.setIfInBounds_toArray, List.set_cons_zero, List.set_cons_succ])
            (refine Org.yes (v := ?_) rfl (by kernel_rfl) (by kernel_rfl) (by kernel_rfl) (by kernel_rfl) (by kernel_rfl) (fun _ _ _ h => h) (by kernel_rfl) (SM.of hS) ?_ ?_; rotate_left; (focus (intro w hSw; (try dsimp only at hSw); refine Pure.val ?_; go_simp; (try with_reducible rfl); done)); try simp only [Act.put, List.setIfInBounds_toArray, List.set_cons_zero, List.set_cons_succ])
            (refine Org.yes (v := ?_) rfl (by kernel_rfl) (by kernel_rfl) (by kernel_rfl) (by kernel_rfl) (by kernel_rfl) (fun _ _ _ h => h) (by kernel_rfl) (SM.of hS) ?_ ?_; rotate_left; (focus (intro w hSw; (try dsimp only at hSw); refine Pure.val ?_; go_simp; (try with_reducible rfl); done)); try simp only [Act.put, List.setIfInBounds_toArray, List.set_cons_zero, List.set_cons_succ])
            (refine Org.yes (v := ?_) rfl (by kernel_rfl) (by kernel_rfl) (by kernel_rfl) (by kernel_rfl) (by kernel_rfl) (fun _ _ _ h => h) (by kernel_rfl) (SM.of hS) ?_ ?_; rotate_left; (focus (intro w hSw; (try dsimp only at hSw); refine Pure.val ?_; go_simp; (try with_reducible rfl); done)); try simp only [Act.put, List.setIfInBounds_toArray, List.set_cons_zero, List.set_cons_succ])
            (refine Org.yes (v := ?_) rfl (by kernel_rfl) (by kernel_rfl) (by kernel_rfl) (by kernel_rfl) (by kernel_rfl) (fun _ _ _ h => h) (by kernel_rfl) (SM.of hS) ?_ ?_; rotate_left; (focus (intro w hSw; (try dsimp only at hSw); refine Pure.val ?_; refine (exec_load 75 (.tmp 41) rfl (by go_simp; first | done | rfl) (SWL.ld' hSw R P1.out (by first | omega | exact C3.out))).trans ?_; with_reducible rfl)); try simp only [Act.put, List.setIfInBounds_toArray, List.set_cons_zero, List.set_cons_succ])
            (refine Org.yes (v := ?_) rfl (by kernel_rfl) (by kernel_rfl) (by kernel_rfl) (by kernel_rfl) (by kernel_rfl) (fun _ _ _ h => h) (by kernel_rfl) (SM.of hS) ?_ ?_; rotate_left; (focus (intro w hSw; (try dsimp only at hSw); refine Pure.val ?_; go_simp; (try with_reducible rfl); done)); try simp only [Act.put, List.setIfInBounds_toArray, List.set_cons_zero, List.set_cons_succ])
            (refine Org.yes (v := ?_) rfl (by kernel_rfl) (by kernel_rfl) (by kernel_rfl) (by kernel_rfl) (by kernel_rfl) (fun _ _ _ h => h) (by kernel_rfl) (SM.of hS) ?_ ?_; rotate_left; (focus (intro w hSw; (try dsimp only at hSw); refine Pure.val ?_; go_simp; (try with_reducible rfl); done)); try simp only [Act.put, List.setIfInBounds_toArray, List.set_cons_zero, List.set_cons_succ])
            (refine Org.yes (v := ?_) rfl (by kernel_rfl) (by kernel_rfl) (by kernel_rfl) (by kernel_rfl) (by kernel_rfl) (fun _ _ _ h => h) (by kernel_rfl) (SM.of hS) ?_ ?_; rotate_left; (focus (intro w hSw; (try dsimp only at hSw); refine Pure.val ?_; go_simp; (try with_reducible rfl); done)); try simp only [Act.put, List.setIfInBounds_toArray, List.set_cons_zero, List.set_cons_succ])
            (refine Org.yes (v := ?_) rfl (by kernel_rfl) (by kernel_rfl) (by kernel_rfl) (by kernel_rfl) (by kernel_rfl) (fun _ _ _ h => h) (by kernel_rfl) (SM.of hS) ?_ ?_; rotate_left; (focus (intro w hSw; (try dsimp only at hSw); refine Pure.val ?_; go_simp; (try with_reducible rfl); done)); try simp only [Act.put, List.setIfInBounds_toArray, List.set_cons_zero, List.set_cons_succ])
            (refine Org.yes (v := ?_) rfl (by kernel_rfl) (by kernel_rfl) (by kernel_rfl) (by kernel_rfl) (by kernel_rfl) (fun _ _ _ h => h) (by kernel_rfl) (SM.of hS) ?_ ?_; rotate_left; (focus (intro w hSw; (try dsimp only at hSw); refine Pure.val ?_; refine (exec_load 75 (.tmp 46) rfl (by go_simp; first | done | rfl) (SWL.ld' hSw R P2.out (by first | omega | exact C3.out))).trans ?_; with_reducible rfl)); try simp only [Act.put, List.setIfInBounds_toArray, List.set_cons_zero, List.set_cons_succ])
            refine Org.go rfl (by kernel_rfl) (by kernel_rfl) (fun K hK => ?_)
            go_simp
            first
              | (go_at_fn g)
              | skip
            refine (HE.out _ _ hS x2 y2).mono ?_
            rintro e wz ⟨rfl, hS3⟩
            go_wp2_with fail
            refine hK.out _ _ hS3 (fun hS2 => ?_)
            clear hS3
            clear hK K hS
            have hS := hS2
            clear hS2
            try simp only [Act.put, List.setIfInBounds_toArray, List.set_cons_zero, List.set_cons_succ]
            (refine Org.yes (v := ?_) rfl (by kernel_rfl) (by kernel_rfl) (by kernel_rfl) (by kernel_rfl) (by kernel_rfl) (fun _ _ _ h => h) (by kernel_rfl) (SM.of hS) ?_ ?_; rotate_left; (focus (intro w hSw; (try dsimp only at hSw); refine Pure.val ?_; go_simp; (try with_reducible rfl); done)); try simp only [Act.put, List.setIfInBounds_toArray, List.set_cons_zero, List.set_cons_succ])
            refine Org.done (by kernel_rfl) ?_
            skip
            have HS4 := hid hS
            clear HS hS c2
            have hj := HJ.out
            have hq := HQ.out
            have hM := HM.out
            have hr := (HS4.out.range R P1.out).1
            rw [← C3.out] at hr
            have ht := (HS4.out.range R HU.out).2
            have hput := HS4.out.put R (i := kk) (by omega) x2
            have hxn : (enc x2).length = 8 := R.hk x2
            have hxn1 : (enc x2).toArray.all (·.oneCell') = true := by simpa using h1 x2
            obtain ⟨ex, hexx⟩ : ∃ c, c = enc x2 := ⟨_, rfl⟩
            rw [← hexx] at hr hput hxn hxn1
            have HR := hid hr
            have HT := hid ht
            have HP := hid hput
            clear hr ht hput hexx hj hq hM
            go_wp2_with (first
              | ((with_reducible show wpList _ _ _ (⟨some 55, _, _, _, _, _⟩ :: _) _ _); go_must (refine wpList_load_mid rfl 75 (.tmp 54) rfl blk (off + k * 8 + k2 * 8) rfl ex dd HR.out HD1.out HD2.out (by rw [hxn]; exact R.size) ?_))
              | ((with_reducible show wpList _ _ _ (⟨none, _, _, _, _, _⟩ :: _) _ _); go_must (refine wpList_store_mid rfl 75 (.tmp 56) (.tmp 55) rfl blk (off + kk * 8) ex.toArray rfl rfl (by rw [show ex.toArray.size = 8 by simp [hxn]]; exact HT.out) (by rw [show ex.toArray.size = 8 by simp [hxn]]; exact R.size) hxn1 ?_)))
            · skip
              rename_i he2
              have he3 : eqv lt x2 y2 = false := by simpa using he2
              have hj := HJ.out
              have hq := HQ.out
              have hM := HM.out
              have hl' := HL'.out
              go_roundw
              case rel =>
                refine ⟨kk + 1, k2 + 1, l'.set kk x2, by go_num, by go_num, by omega, by omega, by omega, by omega, by have := HP.out; simpa using this, ?_⟩
                refine ⟨?_, ?_⟩
                · rw [List.drop_set, if_pos (by omega)]
                  have := congrArg (fun z => z.drop 1) HG.out.1
                  simp only [List.drop_drop] at this
                  rwa [show k + k2 - 1 + 1 = k + (k2 + 1) - 1 by omega] at this
                · rw [HG2.out, show k + (k2 + 1) - 1 = j by omega, HX2.out, show k + (k2 + 1) = j + 1 by omega]
                  simp only [cptGo, he3, Bool.false_eq_true, ↓reduceIte]
                  rw [List.take_set, List.take_succ_eq_append_getElem (by omega), List.set_append_right _ _ (by rw [List.length_take]; omega), show kk - (l'.take kk).length = 0 by rw [List.length_take]; omega]
                  simp
              case measure => simp [intOf] <;> omega
            · skip
              rename_i he2
              have he3 : eqv lt x2 y2 = true := by simpa using he2
              have hj := HJ.out
              have hq := HQ.out
              have hM := HM.out
              go_roundw
              case rel =>
                refine ⟨kk, k2 + 1, l', by go_num, by go_num, by omega, by omega, by omega, by omega, HS4.out, ?_⟩
                refine ⟨?_, ?_⟩
                · have := congrArg (fun z => z.drop 1) HG.out.1
                  simp only [List.drop_drop] at this
                  rwa [show k + k2 - 1 + 1 = k + (k2 + 1) - 1 by omega] at this
                · rw [HG2.out, show k + (k2 + 1) - 1 = j by omega, HX2.out, show k + (k2 + 1) = j + 1 by omega]
                  simp only [cptGo, he3, if_true]
              case measure => simp [intOf] <;> omega
          · have hlt2' : ¬ (k2 : Int) < (M : Int) := by omega
            have hM := HM.out
            have hln := HLN.out
            have kkN : kk < N := by omega
            have hz1 := HS.out.zero R (i := kk) (by omega) z
            have hck2 : ¬ cap = kk := by omega
            have hck3 : (kk : Int) ≤ (N : Int) := by omega
            have hck4 : (kk : Int) ≤ (cap : Int) := by omega
            have hcl : ∀ ty, (Builtin.clear_ #[36] ty #[.slice (some ⟨blk, off + kk * 8, none⟩) (N - kk) (cap - kk)]).run Tryz.prog wr = .ok (.tuple #[]) (wr.setCells blk (off + kk * 8) ((List.replicate (N - kk) z).flatMap enc)) := fun ty => by
              have := run_clear8 (P := Tryz.prog) wr 36 75 ty zv (enc z) Tryz.underlying36 HZV.out HZC.out (R.hk z) (h1 z) blk (off + kk * 8) (N - kk) (cap - kk) (by omega) (by
                intro j hj
                have hl' := HS.out.1
                have := (HS.out.range R (getD_some (l := l') (i := kk + j / 8) (by omega))).2 (j % 8) (by omega)
                rwa [show off + (kk + j / 8) * 8 + j % 8 = off + kk * 8 + j by omega] at this)
              rw [this, zeros_map]
            have HZ1 := hid hz1
            clear hz1 hM hln
            go_wp2_with fail
            go_ret
            have hg := HG.out.2
            have hM := HM.out
            have hln := HLN.out
            rw [List.drop_eq_nil_of_le (by omega)] at hg
            simp only [cptGo, List.append_nil] at hg
            have hl' := HS.out.1
            exact ⟨_, kk, rfl, HZ1.out, by rw [hg, List.length_take]; omega, by rw [hg, List.take_append_of_le_length (by rw [List.length_take]; omega), List.take_of_length_le (by rw [List.length_take]; omega)], by omega⟩
      · rename_i he'
        go_roundw
        case rel =>
          refine ⟨k + 1, by go_num, by omega, by omega, HS3.out, ?_⟩
          show cpt lt l = _
          rw [HF2.out, show k + 1 - 1 = k by omega, HX.out, HTK.out]
          simp only [cptGo, he', Bool.false_eq_true, ↓reduceIte, List.append_assoc, List.cons_append, List.nil_append]
        case measure => simp [intOf] <;> omega
    · have hlt' : ¬ (k : Int) < (N : Int) := by omega
      obtain rfl : k = N := by omega
      go_wp2_with fail
      go_ret
      have hf := HF.out
      rw [List.drop_eq_nil_of_le (by have := HLN.out; omega), List.take_of_length_le (by have := HLN.out; omega)] at hf
      simp only [cptGo, List.append_nil] at hf
      exact ⟨l, k, rfl, HS.out, by rw [hf, HLN.out], by rw [hf, List.take_of_length_le (by have := HLN.out; omega)], Nat.le_refl _⟩
end Go.Proofs.YtlfmfhdgnmchgaaGreat

