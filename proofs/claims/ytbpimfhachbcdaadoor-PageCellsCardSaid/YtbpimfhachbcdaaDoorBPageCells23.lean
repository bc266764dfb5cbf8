/- StbMc -/
import Derived.Test.YtbpimfhachbcdaaDoorProg
import Derived.BigGuardPart
import Derived.Deep.DeepCutAuto
import Derived.Test.YtbpimfhachbcdaaDoorBPageCells06
import Derived.Test.YtbpimfhachbcdaaDoorBPageCells07
import Derived.Test.YtbpimfhachbcdaaDoorBPageCells16
import Derived.Test.YtbpimfhachbcdaaDoorBPageCells20
set_option maxRecDepth 20000
set_option linter.unusedSimpArgs false
set_option linter.unusedVariables false
set_option linter.unusedSectionVars false
namespace Go.Proofs.YtbpimfhachbcdaaDoor
open Go.RowKit Wells Go.Sort Go.Lib
variable {α : Type} [Inhabited α] {enc : α → List Value} {w0 W : World} {blk off N cap : Nat} {l : List α} {g : Nat} {cf : α → α → Int}

set_option maxHeartbeats 4000000 in
theorem sstbM_any (ho : SOrd fun x y => decide (cf x y < 0)) (R : RowL Tryd.prog 27 enc w0 blk off N) (hN : N ≤ 1048576) (h1 : ∀ x, ∀ v ∈ enc x, v.oneCell' = true) (eg : ∀ args w, (callFunc g args).run Tryd.prog w = .ok (.enter g args) w) (hC : CmpLays Tryd.prog g #[] enc 8 cf blk off N w0) (h : SWL enc w0 blk off N l W) :
    Calls Tryd.prog 64 #[.slice (some ⟨blk, off, none⟩) N cap, .int .i64 N, .func (.func g) #[] #[]] W fun e w' => e = .returned (.tuple #[]) ∧ SWL enc w0 blk off N (ssort (fun x y => decide (cf x y < 0)) l) w' := by
  have hln := h.1
  have HH := hid h
  have HC := hid hC
  have HO := hid ho
  have HLN := hid hln
  clear h hC ho hln
  go_enter Tryd.func64, Tryd.ntmps64
  go_wp2_with fail
  go_loopw [7, 8] (fun va vb wr => ∃ (a b : Nat) (X : List α), va = .int .i64 (a : Int) ∧ vb = .int .i64 (b : Int) ∧ a + 20 = b ∧ a ≤ N ∧ SWL enc w0 blk off N (X ++ l.drop a) wr ∧ Hid (X.length = a ∧ X ++ csort (fun x y => decide (cf x y < 0)) 20 (l.drop a) = csort (fun x y => decide (cf x y < 0)) 20 l)) (fun a _ _ => N - (intOf a).toNat)
  case atStart => exact ⟨0, 20, [], rfl, rfl, by omega, by omega, HH.out, ⟨rfl, rfl⟩⟩
  case round =>
    obtain ⟨a, b, X, rfl, rfl, hab, haN, hs, HF⟩ := hrel
    have HS := hid hs
    clear hs
    by_cases hb : b ≤ N
    · as_aux_lemma =>
      have hb' : (b : Int) ≤ (N : Int) := by omega
      have e0 : (b : Int) + 20 = ((b + 20 : Nat) : Int) := by omega
      obtain ⟨f1, f2⟩ := HF.out
      have hk := sinsM_any (cap := cap) HO.out R hN h1 eg HC.out (A := X) (L := (l.drop a).take 20) (S := l.drop b) (a := a) (b := b) (W := wr) (by have := HS.out; rwa [← hab, ← List.drop_drop, List.take_append_drop]) f1 (by have := HLN.out; simp; omega)
      have HK := hid hk
      have HAB := hid hab
      clear hk f1 f2 hab e0
      go_wp2_with fail
      refine HK.out.mono ?_
      rintro e w2 ⟨rfl, hs2⟩
      have HS2 := hid hs2
      clear hs2
      go_wp2_with fail
      have hab := HAB.out
      have hln := HLN.out
      go_roundw
      case rel =>
        refine ⟨b, b + 20, X ++ ssort (fun x y => decide (cf x y < 0)) ((l.drop a).take 20), rfl, by go_num, rfl, hb, by have := HS2.out; simpa using this, ?_⟩
        obtain ⟨f1, f2⟩ := HF.out
        refine ⟨by simp [ssort_length]; omega, ?_⟩
        rw [← f2, csort_step (w := 20) (l := l.drop a) (by omega) (by simp; omega), List.drop_drop, hab, List.append_assoc]
      case measure => simp [intOf] <;> omega
    · have hb' : ¬ (b : Int) ≤ (N : Int) := by omega
      have hln := HLN.out
      obtain ⟨f1, f2⟩ := HF.out
      have hk := sinsM_any (cap := cap) HO.out R hN h1 eg HC.out (A := X) (L := l.drop a) (S := []) (a := a) (b := N) (W := wr) (by simpa using HS.out) f1 (by simp; omega)
      rw [← csort_small (w := 20) (l := l.drop a) (by simp; omega), ← List.append_assoc, f2, List.append_nil] at hk
      have HK := hid hk
      clear hk f1 f2 hab hln
      go_wp2_with fail
      refine HK.out.mono ?_
      rintro e w2 ⟨rfl, hs2⟩
      clear HS HF HK
      have HS := hid hs2
      clear hs2
      go_wp2_with fail
      go_loopw [6] (fun vw wr => ∃ w : Nat, vw = .int .i64 (w : Int) ∧ 0 < w ∧ w ≤ 2 * N + 20 ∧ SWL enc w0 blk off N (csort (fun x y => decide (cf x y < 0)) w l) wr) (fun w _ => N - (intOf w).toNat)
      case atStart => exact ⟨20, rfl, by omega, by omega, HS.out⟩
      case round =>
        obtain ⟨w, rfl, hw0, hwN, hs⟩ := hrel
        clear HS
        have HS := hid hs
        clear hs
        by_cases hlt : w < N
        · have hlt' : (w : Int) < (N : Int) := by omega
          obtain ⟨w2, hw2⟩ : ∃ w2, 2 * w = w2 := ⟨_, rfl⟩
          have e1 : 2 * (w : Int) = (w2 : Int) := by omega
          have e2 : (w : Int) * 2 = (w2 : Int) := by omega
          have HW2 := hid hw2
          obtain ⟨wl, hwl⟩ : ∃ wl, wl = wr := ⟨_, rfl⟩
          rw [← hwl] at HS ⊢
          clear hwl hw2
          go_wp2_with fail
          go_loopw [7, 8] (fun va vb wr => ∃ (a b : Nat) (X : List α), va = .int .i64 (a : Int) ∧ vb = .int .i64 (b : Int) ∧ a + w2 = b ∧ a ≤ N ∧ SWL enc w0 blk off N (X ++ csort (fun x y => decide (cf x y < 0)) w (l.drop a)) wr ∧ Hid (X.length = a ∧ X ++ csort (fun x y => decide (cf x y < 0)) w2 (l.drop a) = csort (fun x y => decide (cf x y < 0)) w2 l)) (fun a _ _ => N - (intOf a).toNat)
          case atStart => exact ⟨0, w2, [], rfl, rfl, by omega, by omega, HS.out, ⟨rfl, rfl⟩⟩
          case round =>
            obtain ⟨a, b, X, rfl, rfl, hab, haN, hs, HF⟩ := hrel
            clear HS
            have HS := hid hs
            clear hs
            by_cases hb : b ≤ N
            · as_aux_lemma =>
              have hb' : (b : Int) ≤ (N : Int) := by omega
              have hw2 := HW2.out
              have hln := HLN.out
              obtain ⟨m, hm⟩ : ∃ m, a + w = m := ⟨_, rfl⟩
              have e3 : (a : Int) + (w : Int) = (m : Int) := by omega
              obtain ⟨f1, f2⟩ := HF.out
              obtain ⟨g1, g2⟩ := csort_two HO.out (w := w) (l := l.drop a) hw0 (by simp; omega)
              have hs := HS.out
              rw [g1] at hs
              rw [hw2] at g2 hs
              have hk := ssymM_any (cap := cap) HO.out R hN h1 eg HC.out N X (ssort (fun x y => decide (cf x y < 0)) ((l.drop a).take w)) (ssort (fun x y => decide (cf x y < 0)) (((l.drop a).drop w).take w)) (csort (fun x y => decide (cf x y < 0)) w ((l.drop a).drop w2)) a m b wr (by omega) hs f1 (by simp [ssort_length]; omega) (by simp [ssort_length]; omega) (by omega) (by omega) (ssort_srt HO.out _) (ssort_srt HO.out _)
              have HK := hid hk
              have HG := hid g2
              have HAB := hid hab
              clear hk f1 f2 hab g1 g2 hs hw2 hln hm
              go_wp2_with fail
              refine HK.out.mono ?_
              rintro e wz ⟨rfl, hs2⟩
              have HS2 := hid hs2
              clear hs2
              go_wp2_with fail
              have hab := HAB.out
              have hln := HLN.out
              have hw2 := HW2.out
              go_roundw
              case rel =>
                obtain ⟨f1, f2⟩ := HF.out
                refine ⟨b, b + w2, X ++ mrg (fun x y => decide (cf x y < 0)) (ssort (fun x y => decide (cf x y < 0)) ((l.drop a).take w)) (ssort (fun x y => decide (cf x y < 0)) (((l.drop a).drop w).take w)), rfl, by go_num, rfl, hb, ?_, ?_⟩
                · have := HS2.out
                  rw [show (l.drop a).drop w2 = l.drop b by rw [List.drop_drop, hab]] at this
                  rw [List.append_assoc]; exact this
                · refine ⟨by simp [ssort_length, mrg_length]; omega, ?_⟩
                  rw [← f2, HG.out, show (l.drop a).drop w2 = l.drop b by rw [List.drop_drop, hab], List.append_assoc]
              case measure => simp [intOf] <;> omega
            · have hb' : ¬ (b : Int) ≤ (N : Int) := by omega
              have hw2 := HW2.out
              have hln := HLN.out
              obtain ⟨m, hm⟩ : ∃ m, a + w = m := ⟨_, rfl⟩
              have e3 : (a : Int) + (w : Int) = (m : Int) := by omega
              obtain ⟨f1, f2⟩ := HF.out
              by_cases hmN : m < N
              · as_aux_lemma =>
                have hmN' : (m : Int) < (N : Int) := by omega
                obtain ⟨g1, g2⟩ := csort_last HO.out (w := w) (l := l.drop a) hw0 (by simp; omega) (by simp; omega)
                have hs := HS.out
                rw [g1] at hs
                rw [hw2] at g2
                have hk := ssymM_any (cap := cap) HO.out R hN h1 eg HC.out N X (ssort (fun x y => decide (cf x y < 0)) ((l.drop a).take w)) (ssort (fun x y => decide (cf x y < 0)) ((l.drop a).drop w)) [] a m N wr (by omega) (by simpa using hs) f1 (by simp [ssort_length]; omega) (by simp [ssort_length]; omega) (by omega) (by omega) (ssort_srt HO.out _) (ssort_srt HO.out _)
                rw [List.append_nil, ← g2, f2] at hk
                have HK := hid hk
                clear hk f1 f2 hab g1 g2 hs hw2 hln hm
                go_wp2_with fail
                refine HK.out.mono ?_
                rintro e wz ⟨rfl, hs2⟩
                have HS2 := hid hs2
                clear hs2
                go_wp2_with fail
                have hw2 := HW2.out
                go_roundw
                case rel => exact ⟨w2, rfl, by omega, by omega, HS2.out⟩
                case measure => simp [intOf] <;> omega
              · as_aux_lemma =>
                have hmN' : ¬ (m : Int) < (N : Int) := by omega
                have hs := HS.out
                rw [csort_all hw0 (by simp; omega), ← csort_small (w := w2) (l := l.drop a) (by simp; omega), f2] at hs
                have HS2 := hid hs
                clear f1 f2 hab hs hln hm hw2
                go_wp2_with fail
                have hw2 := HW2.out
                go_roundw
                case rel => exact ⟨w2, rfl, by omega, by omega, HS2.out⟩
                case measure => simp [intOf] <;> omega
        · have hlt' : ¬ (w : Int) < (N : Int) := by omega
          go_wp2_with fail
          go_end0
          refine ⟨rfl, ?_⟩
          have := HS.out
          rwa [csort_all hw0 (by have := HLN.out; omega)] at this
theorem sstableM_any (ho : SOrd fun x y => decide (cf x y < 0)) (R : RowL Tryd.prog 27 enc w0 blk off N) (hN : N ≤ 1048576) (h1 : ∀ x, ∀ v ∈ enc x, v.oneCell' = true) (eg : ∀ args w, (callFunc g args).run Tryd.prog w = .ok (.enter g args) w) (hC : CmpLays Tryd.prog g #[] enc 8 cf blk off N w0) (h : SWL enc w0 blk off N l W) :
    Calls Tryd.prog 41 #[.slice (some ⟨blk, off, none⟩) N cap, .func (.func g) #[] #[]] W fun e w' => e = .returned (.tuple #[]) ∧ SWL enc w0 blk off N (ssort (fun x y => decide (cf x y < 0)) l) w' := by
  have hk := sstbM_any (cap := cap) ho R hN h1 eg hC h
  have HK := hid hk
  clear hk h hC ho
  go_enter Tryd.func41, Tryd.ntmps41
  go_wp2_with fail
  refine HK.out.mono ?_
  rintro e w2 ⟨rfl, hs2⟩
  have HS2 := hid hs2
  clear hs2
  go_wp2_with fail
  go_end0
  exact ⟨rfl, HS2.out⟩

end Go.Proofs.YtbpimfhachbcdaaDoor

