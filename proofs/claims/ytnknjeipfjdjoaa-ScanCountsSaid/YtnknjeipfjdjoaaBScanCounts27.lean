/- StbRc RecLaw -/
import Derived.Test.YtnknjeipfjdjoaaProg
import Derived.BigGuardPart
import Derived.Deep.DeepCutAuto
import Derived.Test.YtnknjeipfjdjoaaBScanCounts02
import Derived.Test.YtnknjeipfjdjoaaBScanCounts03
import Derived.Test.YtnknjeipfjdjoaaBScanCounts10
import Derived.Test.YtnknjeipfjdjoaaBScanCounts22
import Derived.Test.YtnknjeipfjdjoaaBScanCounts23
import Derived.Test.YtnknjeipfjdjoaaBScanCounts26
set_option maxRecDepth 20000
namespace Go.Proofs.Ytnknjeipfjdjoaa
open Go.RowKit Wells Go.Sort Go.Lib
variable {α : Type} [Inhabited α] {enc : α → List Value} {w0 W : World} {blk off N cap : Nat} {l : List α} {g : Nat} {cf : α → α → Int}

set_option maxHeartbeats 4000000 in
theorem sstbR_any (ho : SOrd fun x y => decide (cf x y < 0)) (R : RowL Try.prog 31 enc w0 blk off N) (hN : N ≤ 1048576) (h1 : ∀ x, ∀ v ∈ enc x, v.oneCell' = true) (eg : ∀ args w, (callFunc g args).run Try.prog w = .ok (.enter g args) w) (hC : CmpLays Try.prog g #[] enc 8 cf blk off N w0) (h : SWL enc w0 blk off N l W) :
    Calls Try.prog 72 #[.slice (some ⟨blk, off, none⟩) N cap, .int .i64 N, .func (.func g) #[] #[]] W fun e w' => e = .returned (.tuple #[]) ∧ SWL enc w0 blk off N (ssort (fun x y => decide (cf x y < 0)) l) w' := by
  have hln := h.1
  have HH := hid h
  have HC := hid hC
  have HO := hid ho
  have HLN := hid hln
  clear h hC ho hln
  go_enter Try.func72, Try.ntmps72
  go_wp2_with fail
  go_loopw [7, 8] (fun va vb wr => ∃ (a b : Nat) (X : List α), va = .int .i64 (a : Int) ∧ vb = .int .i64 (b : Int) ∧ a + 20 = b ∧ a ≤ N ∧ SWL enc w0 blk off N (X ++ l.drop a) wr ∧ Hid (X.length = a ∧ X ++ csort (fun x y => decide (cf x y < 0)) 20 (l.drop a) = csort (fun x y => decide (cf x y < 0)) 20 l)) (fun a _ _ => N - (intOf a).toNat)
  case atStart => exact ⟨0, 20, [], rfl, rfl, by omega, by omega, HH.out, ⟨rfl, rfl⟩⟩
  case round =>
    obtain ⟨a, b, X, rfl, rfl, hab, haN, hs, HF⟩ := hrel
    have HS := hid hs
    clear hs
    by_cases hb : b ≤ N
    · as_aux_lemma =>
      have hb' : (b : Int) ≤ (N : Int) := by omega
      have e0 : (b : Int) + 20 = ((b + 20 : Nat) : Int) := by omega
      obtain ⟨f1, f2⟩ := HF.out
      have hk := sinsR_any (cap := cap) HO.out R hN h1 eg HC.out (A := X) (L := (l.drop a).take 20) (S := l.drop b) (a := a) (b := b) (W := wr) (by have := HS.out; rwa [← hab, ← List.drop_drop, List.take_append_drop]) f1 (by have := HLN.out; simp; omega)
      have HK := hid hk
      have HAB := hid hab
      clear hk f1 f2 hab e0
      go_wp2_with fail
      refine HK.out.mono ?_
      rintro e w2 ⟨rfl, hs2⟩
      have HS2 := hid hs2
      clear hs2
      go_wp2_with fail
      have hab := HAB.out
      have hln := HLN.out
      go_roundw
      case rel =>
        refine ⟨b, b + 20, X ++ ssort (fun x y => decide (cf x y < 0)) ((l.drop a).take 20), rfl, by go_num, rfl, hb, by have := HS2.out; simpa using this, ?_⟩
        obtain ⟨f1, f2⟩ := HF.out
        refine ⟨by simp [ssort_length]; omega, ?_⟩
        rw [← f2, csort_step (w := 20) (l := l.drop a) (by omega) (by simp; omega), List.drop_drop, hab, List.append_assoc]
      case measure => simp [intOf] <;> omega
    · have hb' : ¬ (b : Int) ≤ (N : Int) := by omega
      have hln := HLN.out
      obtain ⟨f1, f2⟩ := HF.out
      have hk := sinsR_any (cap := cap) HO.out R hN h1 eg HC.out (A := X) (L := l.drop a) (S := []) (a := a) (b := N) (W := wr) (by simpa using HS.out) f1 (by simp; omega)
      rw [← csort_small (w := 20) (l := l.drop a) (by simp; omega), ← List.append_assoc, f2, List.append_nil] at hk
      have HK := hid hk
      clear hk f1 f2 hab hln
      go_wp2_with fail
      refine HK.out.mono ?_
      rintro e w2 ⟨rfl, hs2⟩
      clear HS HF HK
      have HS := hid hs2
      clear hs2
      go_wp2_with fail
      go_loopw [6] (fun vw wr => ∃ w : Nat, vw = .int .i64 (w : Int) ∧ 0 < w ∧ w ≤ 2 * N + 20 ∧ SWL enc w0 blk off N (csort (fun x y => decide (cf x y < 0)) w l) wr) (fun w _ => N - (intOf w).toNat)
      case atStart => exact ⟨20, rfl, by omega, by omega, HS.out⟩
      case round =>
        obtain ⟨w, rfl, hw0, hwN, hs⟩ := hrel
        clear HS
        have HS := hid hs
        clear hs
        by_cases hlt : w < N
        · have hlt' : (w : Int) < (N : Int) := by omega
          obtain ⟨w2, hw2⟩ : ∃ w2, 2 * w = w2 := ⟨_, rfl⟩
          have e1 : 2 * (w : Int) = (w2 : Int) := by omega
          have e2 : (w : Int) * 2 = (w2 : Int) := by omega
          have HW2 := hid hw2
          obtain ⟨wl, hwl⟩ : ∃ wl, wl = wr := ⟨_, rfl⟩
          rw [← hwl] at HS ⊢
          clear hwl hw2
          go_wp2_with fail
          go_loopw [7, 8] (fun va vb wr => ∃ (a b : Nat) (X : List α), va = .int .i64 (a : Int) ∧ vb = .int .i64 (b : Int) ∧ a + w2 = b ∧ a ≤ N ∧ SWL enc w0 blk off N (X ++ csort (fun x y => decide (cf x y < 0)) w (l.drop a)) wr ∧ Hid (X.length = a ∧ X ++ csort (fun x y => decide (cf x y < 0)) w2 (l.drop a) = csort (fun x y => decide (cf x y < 0)) w2 l)) (fun a _ _ => N - (intOf a).toNat)
          case atStart => exact ⟨0, w2, [], rfl, rfl, by omega, by omega, HS.out, ⟨rfl, rfl⟩⟩
          case round =>
            obtain ⟨a, b, X, rfl, rfl, hab, haN, hs, HF⟩ := hrel
            clear HS
            have HS := hid hs
            clear hs
            by_cases hb : b ≤ N
            · as_aux_lemma =>
              have hb' : (b : Int) ≤ (N : Int) := by omega
              have hw2 := HW2.out
              have hln := HLN.out
              obtain ⟨m, hm⟩ : ∃ m, a + w = m := ⟨_, rfl⟩
              have e3 : (a : Int) + (w : Int) = (m : Int) := by omega
              obtain ⟨f1, f2⟩ := HF.out
              obtain ⟨g1, g2⟩ := csort_two HO.out (w := w) (l := l.drop a) hw0 (by simp; omega)
              have hs := HS.out
              rw [g1] at hs
              rw [hw2] at g2 hs
              have hk := ssymR_any (cap := cap) HO.out R hN h1 eg HC.out N X (ssort (fun x y => decide (cf x y < 0)) ((l.drop a).take w)) (ssort (fun x y => decide (cf x y < 0)) (((l.drop a).drop w).take w)) (csort (fun x y => decide (cf x y < 0)) w ((l.drop a).drop w2)) a m b wr (by omega) hs f1 (by simp [ssort_length]; omega) (by simp [ssort_length]; omega) (by omega) (by omega) (ssort_srt HO.out _) (ssort_srt HO.out _)
              have HK := hid hk
              have HG := hid g2
              have HAB := hid hab
              clear hk f1 f2 hab g1 g2 hs hw2 hln hm
              go_wp2_with fail
              refine HK.out.mono ?_
              rintro e wz ⟨rfl, hs2⟩
              have HS2 := hid hs2
              clear hs2
              go_wp2_with fail
              have hab := HAB.out
              have hln := HLN.out
              have hw2 := HW2.out
              go_roundw
              case rel =>
                obtain ⟨f1, f2⟩ := HF.out
                refine ⟨b, b + w2, X ++ mrg (fun x y => decide (cf x y < 0)) (ssort (fun x y => decide (cf x y < 0)) ((l.drop a).take w)) (ssort (fun x y => decide (cf x y < 0)) (((l.drop a).drop w).take w)), rfl, by go_num, rfl, hb, ?_, ?_⟩
                · have := HS2.out
                  rw [show (l.drop a).drop w2 = l.drop b by rw [List.drop_drop, hab]] at this
                  rw [List.append_assoc]; exact this
                · refine ⟨by simp [ssort_length, mrg_length]; omega, ?_⟩
                  rw [← f2, HG.out, show (l.drop a).drop w2 = l.drop b by rw [List.drop_drop, hab], List.append_assoc]
              case measure => simp [intOf] <;> omega
            · have hb' : ¬ (b : Int) ≤ (N : Int) := by omega
              have hw2 := HW2.out
              have hln := HLN.out
              obtain ⟨m, hm⟩ : ∃ m, a + w = m := ⟨_, rfl⟩
              have e3 : (a : Int) + (w : Int) = (m : Int) := by omega
              obtain ⟨f1, f2⟩ := HF.out
              by_cases hmN : m < N
              · as_aux_lemma =>
                have hmN' : (m : Int) < (N : Int) := by omega
                obtain ⟨g1, g2⟩ := csort_last HO.out (w := w) (l := l.drop a) hw0 (by simp; omega) (by simp; omega)
                have hs := HS.out
                rw [g1] at hs
                rw [hw2] at g2
                have hk := ssymR_any (cap := cap) HO.out R hN h1 eg HC.out N X (ssort (fun x y => decide (cf x y < 0)) ((l.drop a).take w)) (ssort (fun x y => decide (cf x y < 0)) ((l.drop a).drop w)) [] a m N wr (by omega) (by simpa using hs) f1 (by simp [ssort_length]; omega) (by simp [ssort_length]; omega) (by omega) (by omega) (ssort_srt HO.out _) (ssort_srt HO.out _)
                rw [List.append_nil, ← g2, f2] at hk
                have HK := hid hk
                clear hk f1 f2 hab g1 g2 hs hw2 hln hm
                go_wp2_with fail
                refine HK.out.mono ?_
                rintro e wz ⟨rfl, hs2⟩
                have HS2 := hid hs2
                clear hs2
                go_wp2_with fail
                have hw2 := HW2.out
                go_roundw
                case rel => exact ⟨w2, rfl, by omega, by omega, HS2.out⟩
                case measure => simp [intOf] <;> omega
              · as_aux_lemma =>
                have hmN' : ¬ (m : Int) < (N : Int) := by omega
                have hs := HS.out
                rw [csort_all hw0 (by simp; omega), ← csort_small (w := w2) (l := l.drop a) (by simp; omega), f2] at hs
                have HS2 := hid hs
                clear f1 f2 hab hs hln hm hw2
                go_wp2_with fail
                have hw2 := HW2.out
                go_roundw
                case rel => exact ⟨w2, rfl, by omega, by omega, HS2.out⟩
                case measure => simp [intOf] <;> omega
        · have hlt' : ¬ (w : Int) < (N : Int) := by omega
          go_wp2_with fail
          go_end0
          refine ⟨rfl, ?_⟩
          have := HS.out
          rwa [csort_all hw0 (by have := HLN.out; omega)] at this
theorem sstableR_any (ho : SOrd fun x y => decide (cf x y < 0)) (R : RowL Try.prog 31 enc w0 blk off N) (hN : N ≤ 1048576) (h1 : ∀ x, ∀ v ∈ enc x, v.oneCell' = true) (eg : ∀ args w, (callFunc g args).run Try.prog w = .ok (.enter g args) w) (hC : CmpLays Try.prog g #[] enc 8 cf blk off N w0) (h : SWL enc w0 blk off N l W) :
    Calls Try.prog 45 #[.slice (some ⟨blk, off, none⟩) N cap, .func (.func g) #[] #[]] W fun e w' => e = .returned (.tuple #[]) ∧ SWL enc w0 blk off N (ssort (fun x y => decide (cf x y < 0)) l) w' := by
  have hk := sstbR_any (cap := cap) ho R hN h1 eg hC h
  have HK := hid hk
  clear hk h hC ho
  go_enter Try.func45, Try.ntmps45
  go_wp2_with fail
  refine HK.out.mono ?_
  rintro e w2 ⟨rfl, hs2⟩
  have HS2 := hid hs2
  clear hs2
  go_wp2_with fail
  go_end0
  exact ⟨rfl, HS2.out⟩

end Go.Proofs.Ytnknjeipfjdjoaa

namespace Wells
open Go Go.RowKit
section
variable {α β : Type} {lt : α → α → Bool} {lt2 : β → β → Bool}
theorem ins_map (f : α → β) (h : ∀ x y, lt x y = lt2 (f x) (f y)) (x : α) : ∀ l, (ins lt x l).map f = ins lt2 (f x) (l.map f)
  | [] => rfl
  | y :: ys => by
    unfold ins
    rw [h]
    simp only [List.map_cons]
    split <;> simp [ins_map f h x ys]
theorem mrg_map (f : α → β) (h : ∀ x y, lt x y = lt2 (f x) (f y)) : ∀ (R L : List α), (mrg lt L R).map f = mrg lt2 (L.map f) (R.map f)
  | [], _ => rfl
  | x :: R, L => by rw [mrg_cons, mrg_map f h R, ins_map f h]; rfl
theorem ssort_map (f : α → β) (h : ∀ x y, lt x y = lt2 (f x) (f y)) (l : List α) : (ssort lt l).map f = ssort lt2 (l.map f) := mrg_map f h l []
/-- neither is ahead -/
def eqv (lt : α → α → Bool) (x y : α) : Bool := !lt x y && !lt y x
def cptGo (lt : α → α → Bool) : α → List α → List α
  | _, [] => []
  | p, y :: r => if eqv lt y p then cptGo lt y r else y :: cptGo lt y r
/-- of such as tie, the first alone -/
def cpt (lt : α → α → Bool) : List α → List α
  | [] => []
  | x :: r => x :: cptGo lt x r
theorem cptGo_map (f : α → β) (h : ∀ x y, lt x y = lt2 (f x) (f y)) : ∀ (l : List α) (p : α), (cptGo lt p l).map f = cptGo lt2 (f p) (l.map f)
  | [], _ => rfl
  | y :: r, p => by
    have e : eqv lt y p = eqv lt2 (f y) (f p) := by unfold eqv; rw [h, h]
    simp only [cptGo, List.map_cons, e]
    split <;> simp [cptGo_map f h r]
theorem cpt_map (f : α → β) (h : ∀ x y, lt x y = lt2 (f x) (f y)) (l : List α) : (cpt lt l).map f = cpt lt2 (l.map f) := by
  cases l with
  | nil => rfl
  | cons x r => simp [cpt, cptGo_map f h]
/-- the document's way: put in, if none ties -/
def cins (lt : α → α → Bool) (x : α) : List α → List α
  | [] => [x]
  | y :: ys => if lt x y then x :: y :: ys else if lt y x then y :: cins lt x ys else y :: ys
theorem eqv_no {x y : α} (h : lt x y = true) : eqv lt x y = false ∧ eqv lt y x = false := by unfold eqv; simp [h]
theorem srt_cons {x : α} {l : List α} (h : Srt lt (x :: l)) : (∀ y ∈ l, lt y x = false) ∧ Srt lt l := List.pairwise_cons.1 h
theorem cptGo_tie (ho : SOrd lt) {x : α} : ∀ (l : List α) (p : α), Srt lt (p :: l) → lt p x = false → lt x p = false → cptGo lt p (ins lt x l) = cptGo lt p l
  | [], p, _, h1, h2 => by simp [ins, cptGo, eqv, h1, h2]
  | y :: ys, p, hs, h1, h2 => by
    have hp := (srt_cons hs).1 y (by simp)
    by_cases hxy : lt x y = true
    · have hpy : lt p y = true := ho.tr' h2 hxy
      simp only [ins, hxy, if_true, cptGo]
      rw [if_pos (by simp [eqv, h1, h2]), (eqv_no hxy).2, (eqv_no hpy).2]
    · have hxy : lt x y = false := by simpa using hxy
      have hyp : lt p y = false := ho.le hxy h1
      have hyx : lt y x = false := ho.le h1 hp
      simp only [ins, hxy, Bool.false_eq_true, ↓reduceIte, cptGo]
      rw [cptGo_tie ho ys y (srt_cons hs).2 hyx hxy]
theorem cptGo_ins (ho : SOrd lt) {x : α} : ∀ (l : List α) (p : α), Srt lt (p :: l) → lt p x = true → cptGo lt p (ins lt x l) = cins lt x (cptGo lt p l)
  | [], p, _, h1 => by simp [ins, cptGo, cins, (eqv_no h1).2]
  | y :: ys, p, hs, h1 => by
    have hp := (srt_cons hs).1 y (by simp)
    by_cases hxy : lt x y = true
    · have hpy : lt p y = true := ho.tr h1 (ho.asym hxy)
      simp only [ins, hxy, if_true, cptGo, (eqv_no hxy).2, (eqv_no hpy).2, (eqv_no h1).2, Bool.false_eq_true, ↓reduceIte, cins]
    · have hxy : lt x y = false := by simpa using hxy
      simp only [ins, hxy, Bool.false_eq_true, ↓reduceIte, cptGo]
      by_cases hpy : lt p y = true
      · rw [(eqv_no hpy).2]
        simp only [Bool.false_eq_true, ↓reduceIte, cins, hxy]
        by_cases hyx : lt y x = true
        · rw [if_pos hyx, cptGo_ins ho ys y (srt_cons hs).2 hyx]
        · have hyx : lt y x = false := by simpa using hyx
          rw [if_neg (by simp [hyx]), cptGo_tie ho ys y (srt_cons hs).2 hyx hxy]
      · have hpy : lt p y = false := by simpa using hpy
        have e : eqv lt y p = true := by simp [eqv, hp, hpy]
        rw [if_pos e, if_pos e, cptGo_ins ho ys y (srt_cons hs).2 (ho.tr' hpy h1)]
theorem cpt_ins (ho : SOrd lt) (x : α) {l : List α} (hs : Srt lt l) : cpt lt (ins lt x l) = cins lt x (cpt lt l) := by
  cases l with
  | nil => rfl
  | cons p l =>
    by_cases hxp : lt x p = true
    · simp [ins, hxp, cpt, cptGo, (eqv_no hxp).2, cins]
    · have hxp : lt x p = false := by simpa using hxp
      by_cases hpx : lt p x = true
      · simp only [ins, hxp, Bool.false_eq_true, ↓reduceIte, cpt, cins, hpx, if_true]
        rw [cptGo_ins ho l p hs hpx]
      · have hpx : lt p x = false := by simpa using hpx
        simp only [ins, hxp, Bool.false_eq_true, ↓reduceIte, cpt, cins, hpx]
        rw [cptGo_tie ho l p hs hpx hxp]
theorem cpt_ssort (ho : SOrd lt) (l : List α) : l.foldl (fun out x => cins lt x out) [] = cpt lt (ssort lt l) := by
  induction l using rev_ind with
  | h0 => rfl
  | h1 l x ih => rw [List.foldl_append, ih, ssort_snoc, cpt_ins ho x (ssort_srt ho l)]; rfl
theorem mem_cptGo {z : α} : ∀ {l : List α} {p : α}, z ∈ cptGo lt p l → z ∈ l
  | [], _, h => h
  | y :: r, p, h => by
    unfold cptGo at h
    split at h
    · exact List.mem_cons_of_mem _ (mem_cptGo h)
    · rcases List.mem_cons.1 h with rfl | h
      · simp
      · exact List.mem_cons_of_mem _ (mem_cptGo h)
theorem mem_cpt {z : α} {l : List α} (h : z ∈ cpt lt l) : z ∈ l := by
  cases l with
  | nil => exact h
  | cons x r =>
    rcases List.mem_cons.1 h with rfl | h
    · simp
    · exact List.mem_cons_of_mem _ (mem_cptGo h)
theorem cptGo_rise (ho : SOrd lt) : ∀ {l : List α} {p : α}, Srt lt (p :: l) → (∀ z ∈ cptGo lt p l, lt p z = true) ∧ (cptGo lt p l).Pairwise (fun a b => lt a b = true)
  | [], _, _ => ⟨fun z h => (by cases h), List.Pairwise.nil⟩
  | y :: r, p, hs => by
    have hp := (srt_cons hs).1 y (by simp)
    obtain ⟨h1, h2⟩ := cptGo_rise ho (srt_cons hs).2
    unfold cptGo
    split
    · rename_i he
      unfold eqv at he
      simp only [Bool.and_eq_true, Bool.not_eq_true'] at he
      exact ⟨fun z hz => ho.tr' he.1 (h1 z hz), h2⟩
    · rename_i he
      have hpy : lt p y = true := by
        cases h : lt p y
        · exact absurd (by unfold eqv; simp [hp, h]) he
        · rfl
      refine ⟨fun z hz => ?_, List.pairwise_cons.2 ⟨h1, h2⟩⟩
      rcases List.mem_cons.1 hz with rfl | hz
      · exact hpy
      · exact ho.tr hpy (ho.asym (h1 z hz))
/-- what is thinned out rises -/
theorem cpt_rise (ho : SOrd lt) {l : List α} (hs : Srt lt l) : (cpt lt l).Pairwise (fun a b => lt a b = true) := by
  cases l with
  | nil => exact List.Pairwise.nil
  | cons x r =>
    obtain ⟨h1, h2⟩ := cptGo_rise ho hs
    exact List.pairwise_cons.2 ⟨h1, h2⟩
theorem cptGo_length : ∀ (l : List α) (p : α), (cptGo lt p l).length ≤ l.length
  | [], _ => Nat.le_refl _
  | y :: r, p => by
    have := cptGo_length r y
    unfold cptGo
    split <;> simp <;> omega
theorem cpt_length (l : List α) : (cpt lt l).length ≤ l.length := by
  cases l with
  | nil => exact Nat.le_refl _
  | cons x r => have := cptGo_length (lt := lt) r x; simp [cpt]; omega
end
def ltR (a b : Rec) : Bool := decide (a.O < b.O ∨ (a.O = b.O ∧ (a.B < b.B ∨ (a.B = b.B ∧ a.I < b.I))))
theorem ltR_ord : SOrd ltR := by
  unfold ltR
  constructor
  · intro x y h
    simp only [decide_eq_true_eq, decide_eq_false_iff_not] at *; omega
  · intro x y z h h'; simp only [decide_eq_true_eq, decide_eq_false_iff_not] at *; omega
  · intro x y z h h'; simp only [decide_eq_true_eq, decide_eq_false_iff_not] at *; omega
  · intro x y z h h'; simp only [decide_eq_true_eq, decide_eq_false_iff_not] at *; omega
end Wells

