/- StbMa -/
import Derived.Test.YtbpimfhachbcdaaDoorProg
import Derived.BigGuardPart
import Derived.Deep.DeepCutAuto
import Derived.Test.YtbpimfhachbcdaaDoorBPageSplits06
import Derived.Test.YtbpimfhachbcdaaDoorBPageSplits07
import Derived.Test.YtbpimfhachbcdaaDoorBPageSplits14
import Derived.Test.YtbpimfhachbcdaaDoorBPageSplits16
set_option maxRecDepth 20000
set_option linter.unusedSimpArgs false
set_option linter.unusedVariables false
set_option linter.unusedSectionVars false
namespace Go.Proofs.YtbpimfhachbcdaaDoor
open Go.RowKit Wells Go.Sort Go.Lib
variable {α : Type} [Inhabited α] {enc : α → List Value} {w0 W : World} {blk off N cap : Nat} {l : List α} {g : Nat} {cf : α → α → Int}

set_option maxHeartbeats 2000000 in
theorem ssymAM (ho : SOrd fun x y => decide (cf x y < 0)) (R : RowL Tryd.prog 27 enc w0 blk off N) (hN : N ≤ 1048576) (h1 : ∀ x, ∀ v ∈ enc x, v.oneCell' = true) (eg : ∀ args w, (callFunc g args).run Tryd.prog w = .ok (.enter g args) w) (hC : CmpLays Tryd.prog g #[] enc 8 cf blk off N w0) {A Z S : List α} {x : α} {a m b : Nat} (h : SWL enc w0 blk off N (A ++ (x :: (Z ++ S))) W) (ha : A.length = a) (hm : a + 1 = m) (hb : m + Z.length = b) (hmb : m < b) (hZ : Srt (fun x y => decide (cf x y < 0)) Z) :
    Calls Tryd.prog 90 #[.slice (some ⟨blk, off, none⟩) N cap, .int .i64 a, .int .i64 m, .int .i64 b, .func (.func g) #[] #[]] W fun e w' => e = .returned (.tuple #[]) ∧ SWL enc w0 blk off N (A ++ (mrg (fun x y => decide (cf x y < 0)) [x] Z ++ S)) w' := by
  have hbN : b ≤ N := by have := h.1; simp only [List.length_append, List.length_cons] at this; omega
  have HA := hid ha
  have HM := hid hm
  have HB := hid hb
  have HH := hid h
  have HC := hid hC
  have HZ := hid hZ
  have HO := hid ho
  have t1 : (m : Int) - (a : Int) = 1 := by omega
  have ham : a < m := by omega
  have px := SWL.pre R h (A := A) (S := Z ++ S) (x := x) (i := a) rfl ha
  have PX := hid px
  have pz : ∀ i, m ≤ i → i < b → (A ++ (x :: (Z ++ S)))[i]? = some (Z[i - m]!) := fun i h1 h2 => by
    rw [List.getElem?_append_right (by omega), show i - A.length = (i - m) + 1 by omega, List.getElem?_cons_succ, List.getElem?_append_left (by omega), getElem!_pos Z (i - m) (by omega), List.getElem?_eq_getElem]
  have PZ := hid pz
  clear h ha hm hb hC px pz hZ ho
  go_enter Tryd.func90, Tryd.ntmps90
  go_wp2_with fail
  go_loopw [10, 11] (fun vi vj wr => ∃ (i j : Nat), vi = .int .i64 (i : Int) ∧ vj = .int .i64 (j : Int) ∧ m ≤ i ∧ i ≤ j ∧ j ≤ b ∧ SWL enc w0 blk off N (A ++ (x :: (Z ++ S))) wr ∧ Hid ((i = m ∨ cf (Z[i - 1 - m]!) x < 0) ∧ (j = b ∨ 0 ≤ cf (Z[j - m]!) x))) (fun i j _ => (intOf j).toNat - (intOf i).toNat)
  case atStart => exact ⟨m, b, rfl, rfl, Nat.le_refl _, by omega, Nat.le_refl _, HH.out, ⟨.inl rfl, .inl rfl⟩⟩
  case round =>
    obtain ⟨i, j, rfl, rfl, hmi, hij, hjb, hs, HF⟩ := hrel
    have HS := hid hs
    clear hs
    by_cases hlt : i < j
    · have hlt' : (i : Int) < (j : Int) := by omega
      obtain ⟨h, hh⟩ : ∃ h, (i + j) / 2 = h := ⟨_, rfl⟩
      have hh' : ((i : Int) + (j : Int)) / 2 = (h : Int) := by omega
      have c1 : (h : Int) < (N : Int) := by omega
      have c2 : (a : Int) < (N : Int) := by omega
      have p1 := PZ.out h (by omega) (by omega)
      obtain ⟨z, hz⟩ : ∃ z, Z[h - m]! = z := ⟨_, rfl⟩
      rw [hz] at p1
      have P1 := hid p1
      have HZ1 := hid hz
      have HHH := hid hh
      clear p1 hz hh
      go_wp2_with fail
      refine Org.begin [] (SWL enc w0 blk off N (A ++ (x :: (Z ++ S)))) [0, 1, 2, 3, 4, 5, 6, 7, 8, 9, 10] (by kernel_rfl) (HS.out.drew) (fun hS => ?_)
      (refine Org.yes (v := ?_) rfl (by kernel_rfl) (by kernel_rfl) (by kernel_rfl) (by kernel_rfl) (by kernel_rfl) (fun _ _ _ h => h) (by kernel_rfl) (SM.of hS) ?_ ?_; rotate_left; (focus (intro w hSw; (try dsimp only at hSw); refine Pure.val ?_; go_simp; (try with_reducible rfl); done)); try simp only [Act.put, List.setIfInBounds_toArray, List.set_cons_zero, List.set_cons_succ])
      (refine Org.yes (v := ?_) rfl (by kernel_rfl) (by kernel_rfl) (by kernel_rfl) (by kernel_rfl) (by kernel_rfl) (fun _ _ _ h => h) (by kernel_rfl) (SM.of hS) ?_ ?_; rotate_left; (focus (intro w hSw; (try dsimp only at hSw); refine Pure.val ?_; go_simp; (try with_reducible rfl); done)); try simp only [Act.put, List.setIfInBounds_toArray, List.set_cons_zero, List.set_cons_succ])
      (refine Org.yes (v := ?_) rfl (by kernel_rfl) (by kernel_rfl) (by kernel_rfl) (by kernel_rfl) (by kernel_rfl) (fun _ _ _ h => h) (by kernel_rfl) (SM.of hS) ?_ ?_; rotate_left; (focus (intro w hSw; (try dsimp only at hSw); refine Pure.val ?_; go_simp; (try with_reducible rfl); done)); try simp only [Act.put, List.setIfInBounds_toArray, List.set_cons_zero, List.set_cons_succ])
      (refine Org.yes (v := ?_) rfl (by kernel_rfl) (by kernel_rfl) (by kernel_rfl) (by kernel_rfl) (by kernel_rfl) (fun _ _ _ h => h) (by kernel_rfl) (SM.of hS) ?_ ?_; rotate_left; (focus (intro w hSw; (try dsimp only at hSw); refine Pure.val ?_; go_simp; (try with_reducible rfl); done)); try simp only [Act.put, List.setIfInBounds_toArray, List.set_cons_zero, List.set_cons_succ])
      (refine Org.yes (v := ?_) rfl (by kernel_rfl) (by kernel_rfl) (by kernel_rfl) (by kernel_rfl) (by kernel_rfl) (fun _ _ _ h => h) (by kernel_rfl) (SM.of hS) ?_ ?_; rotate_left; (focus (intro w hSw; (try dsimp only at hSw); refine Pure.val ?_; refine (exec_load 27 (.tmp 43) rfl (by go_simp; first | done | rfl) (SWL.ld hSw R P1.out)).trans ?_; with_reducible rfl)); try simp only [Act.put, List.setIfInBounds_toArray, List.set_cons_zero, List.set_cons_succ])
      (refine Org.yes (v := ?_) rfl (by kernel_rfl) (by kernel_rfl) (by kernel_rfl) (by kernel_rfl) (by kernel_rfl) (fun _ _ _ h => h) (by kernel_rfl) (SM.of hS) ?_ ?_; rotate_left; (focus (intro w hSw; (try dsimp only at hSw); refine Pure.val ?_; go_simp; (try with_reducible rfl); done)); try simp only [Act.put, List.setIfInBounds_toArray, List.set_cons_zero, List.set_cons_succ])
      (refine Org.yes (v := ?_) rfl (by kernel_rfl) (by kernel_rfl) (by kernel_rfl) (by kernel_rfl) (by kernel_rfl) (fun _ _ _ h => h) (by kernel_rfl) (SM.of hS) ?_ ?_; rotate_left; (focus (intro w hSw; (try dsimp only at hSw); refine Pure.val ?_; go_simp; (try with_reducible rfl); done)); try simp only [Act.put, List.setIfInBounds_toArray, List.set_cons_zero, List.set_cons_succ])
      (refine Org.yes (v := ?_) rfl (by kernel_rfl) (by kernel_rfl) (by kernel_rfl) (by kernel_rfl) (by kernel_rfl) (fun _ _ _ h => h) (by kernel_rfl) (SM.of hS) ?_ ?_; rotate_left; (focus (intro w hSw; (try dsimp only at hSw); refine Pure.val ?_; go_simp; (try with_reducible rfl); done)); try simp only [Act.put, List.setIfInBounds_toArray, List.set_cons_zero, List.set_cons_succ])
      (refine Org.yes (v := ?_) rfl (by kernel_rfl) (by kernel_rfl) (by kernel_rfl) (by kernel_rfl) (by kernel_rfl) (fun _ _ _ h => h) (by kernel_rfl) (SM.of hS) ?_ ?_; rotate_left; (focus (intro w hSw; (try dsimp only at hSw); refine Pure.val ?_; refine (exec_load 27 (.tmp 47) rfl (by go_simp; first | done | rfl) (SWL.ld hSw R PX.out)).trans ?_; with_reducible rfl)); try simp only [Act.put, List.setIfInBounds_toArray, List.set_cons_zero, List.set_cons_succ])
      refine Org.go rfl (by kernel_rfl) (by kernel_rfl) (fun K hK => ?_)
      go_simp
      first
        | (go_at_fn g)
        | skip
      refine ((SWL.cmp0 hS HC.out z x)).mono ?_
      rintro e wz ⟨rfl, hS3⟩
      go_wp2_with fail
      refine hK.out _ _ hS3 (fun hS2 => ?_)
      clear hS3
      clear hK K hS
      have hS := hS2
      clear hS2
      try simp only [Act.put, List.setIfInBounds_toArray, List.set_cons_zero, List.set_cons_succ]
      (refine Org.yes (v := ?_) rfl (by kernel_rfl) (by kernel_rfl) (by kernel_rfl) (by kernel_rfl) (by kernel_rfl) (fun _ _ _ h => h) (by kernel_rfl) (SM.of hS) ?_ ?_; rotate_left; (focus (intro w hSw; (try dsimp only at hSw); refine Pure.val ?_; go_simp; (try with_reducible rfl); done)); try simp only [Act.put, List.setIfInBounds_toArray, List.set_cons_zero, List.set_cons_succ])
      refine Org.done (by kernel_rfl) ?_
      skip
      have HS3 := hid hS
      clear HS hS
      have hh := HHH.out
      by_cases hlv : cf z x < 0
      · go_wp2_with fail
        go_roundw
        case rel =>
          refine ⟨h + 1, j, by go_num, rfl, by omega, by omega, by omega, HS3.out, ⟨.inr ?_, HF.out.2⟩⟩
          rw [show h + 1 - 1 - m = h - m by omega, HZ1.out]; exact hlv
        case measure => simp [intOf] <;> omega
      · go_wp2_with fail
        go_roundw
        case rel => exact ⟨i, h, rfl, rfl, hmi, by omega, by omega, HS3.out, ⟨HF.out.1, .inr (by rw [HZ1.out]; omega)⟩⟩
        case measure => simp [intOf] <;> omega
    · have hlt' : ¬ (i : Int) < (j : Int) := by omega
      obtain rfl : i = j := by omega
      have hone : mrg (fun x y => decide (cf x y < 0)) [x] Z = Z.take (i - m) ++ x :: Z.drop (i - m) := by
        refine one_mrg HO.out HZ.out (by have := HB.out; omega) ?_ ?_
        · rcases HF.out.2 with h | h
          · exact .inl (by have := HB.out; omega)
          · exact .inr (by simpa using h)
        · rcases HF.out.1 with h | h
          · exact .inl (by omega)
          · exact .inr (by rw [show i - m - 1 = i - 1 - m by omega]; simpa using h)
      have HONE := hid hone
      clear hone
      obtain ⟨i1, hi1⟩ : ∃ i1, i - 1 = i1 := ⟨_, rfl⟩
      have hi1' : (i : Int) - 1 = (i1 : Int) := by omega
      have HI1 := hid hi1
      clear hi1
      obtain ⟨wl, hwl⟩ : ∃ wl, wl = wr := ⟨_, rfl⟩
      rw [← hwl] at HS ⊢
      clear hwl
      go_wp2_with fail
      go_loopw [13] (fun vk wr => ∃ (k : Nat), vk = .int .i64 (k : Int) ∧ a ≤ k ∧ k ≤ i1 ∧ SWL enc w0 blk off N (A ++ (Z.take (k - a) ++ (x :: (Z.drop (k - a) ++ S)))) wr) (fun k _ => i1 - (intOf k).toNat)
      case atStart => exact ⟨a, rfl, Nat.le_refl _, by have := HI1.out; omega, by simpa using HS.out⟩
      case round =>
        obtain ⟨k, rfl, hak, hki, hs⟩ := hrel
        clear HS
        have HS := hid hs
        clear hs
        have hi1 := HI1.out
        by_cases hlt : k < i1
        · have hlt'' : (k : Int) < (i1 : Int) := by omega
          obtain ⟨ia, hia⟩ : ∃ ia, ia = k := ⟨_, rfl⟩
          subst hia
          obtain ⟨ib, hib⟩ : ∃ ib, ia + 1 = ib := ⟨_, rfl⟩
          obtain ⟨z, hz1, hz2⟩ : ∃ z, Z.drop (ia - a) = z :: Z.drop (ia - a + 1) ∧ Z.take (ia - a + 1) = Z.take (ia - a) ++ [z] := by
            have : ia - a < Z.length := by have := HB.out; omega
            exact ⟨Z[ia - a], List.drop_eq_getElem_cons this, List.take_succ_eq_append_getElem this⟩
          have hs := HS.out
          rw [hz1] at hs
          clear HS
          have HS := hid hs
          have HZ2 := hid hz2
          clear hs hz1 hz2
          have hl : A ++ (Z.take (ia - a) ++ (x :: (z :: Z.drop (ia - a + 1) ++ S))) = (A ++ Z.take (ia - a)) ++ x :: ([] ++ z :: (Z.drop (ia - a + 1) ++ S)) := by simp
          have hA' : (A ++ Z.take (ia - a)).length = ia := by have := HA.out; have := HB.out; simp; omega
          have hM' : ia + 1 + ([] : List α).length = ib := by simpa using hib
          have HLL := hid hl
          have HA' := hid hA'
          have HM' := hid hM'
          have ci : (ib : Int) < (N : Int) := by omega
          have ci1 : (ia : Int) < (N : Int) := by omega
          have c6 : IntKind.i64.wrap ((ia : Int) + 1) = (ib : Int) := by rw [IntKind.wrap_i64]; omega
          clear hl hA' hM' hib
          go_wp2_with fail
          have hl := HLL.out
          have hA' := HA'.out
          have hM' := HM'.out
          have hx := SWL.pre R HS.out hl hA'
          have hy := SWL.pre R HS.out (A := (A ++ Z.take (ia - a)) ++ x :: ([] : List α)) (S := (Z.drop (ia - a + 1) ++ S)) (x := z) (i := ib) (by rw [hl]; simp) (by simp at hA' hM' ⊢; omega)
          have hst := HS.out.sts R hx hy
          have hexc := HS.out.exch R hl hA' hM'
          have hl1 := HS.out.drew.ld R hx
          have hl2' := HS.out.drew.ld R hy
          have HE := hid hexc.1
          have hxn : (enc x).length = 8 := R.hk x
          have hyn : (enc z).length = 8 := R.hk z
          have hxn1 : (enc x).toArray.all (·.oneCell') = true := by simpa using h1 x
          have hyn1 : (enc z).toArray.all (·.oneCell') = true := by simpa using h1 z
          clear hx hy hl hA' hM' hexc
          obtain ⟨ex, hexx⟩ : ∃ c, c = enc x := ⟨_, rfl⟩
          obtain ⟨ey, heyy⟩ : ∃ c, c = enc z := ⟨_, rfl⟩
          rw [← hexx] at hl1 hxn hxn1 HE
          rw [← heyy] at hl2' hyn hyn1 HE hst
          clear hexx heyy
          obtain ⟨wq, hwq⟩ : ∃ wq, wq = wr := ⟨_, rfl⟩
          rw [← hwq] at hl1 hl2' hst HE ⊢
          clear HS hwq
          refine Org.begin [15, 17] (fun w' => w' = wq.drew) [0, 1, 2, 3, 4, 5, 6, 7, 8, 9, 10, 11, 12, 13, 14, 15, 16, 17] (by kernel_rfl) (rfl) (fun hS => ?_)
          (refine Org.yes (v := ?_) rfl (by kernel_rfl) (by kernel_rfl) (by kernel_rfl) (by kernel_rfl) (by kernel_rfl) (fun _ _ _ h => h) (by kernel_rfl) (SM.of hS) ?_ ?_; rotate_left; (focus (intro w hSw; (try dsimp only at hSw); refine Pure.val ?_; go_simp; (try with_reducible rfl); done)); try simp only [Act.put, List.setIfInBounds_toArray, List.set_cons_zero, List.set_cons_succ])
          (refine Org.yes (v := ?_) rfl (by kernel_rfl) (by kernel_rfl) (by kernel_rfl) (by kernel_rfl) (by kernel_rfl) (fun _ _ _ h => h) (by kernel_rfl) (SM.of hS) ?_ ?_; rotate_left; (focus (intro w hSw; (try dsimp only at hSw); refine Pure.val ?_; go_simp; (try with_reducible rfl); done)); try simp only [Act.put, List.setIfInBounds_toArray, List.set_cons_zero, List.set_cons_succ])
          (refine Org.free (v := ?_) rfl (by kernel_rfl) (by kernel_rfl) (by kernel_rfl) (by kernel_rfl) (by kernel_rfl) (fun _ _ _ h => h) (by kernel_rfl) (SM.of hS) ?_ ?_; rotate_left; (focus (intro w; refine Pure.val ?_; go_simp; (try with_reducible rfl); done)); try simp only [Act.put, List.setIfInBounds_toArray, List.set_cons_zero, List.set_cons_succ])
          (refine Org.free (v := ?_) rfl (by kernel_rfl) (by kernel_rfl) (by kernel_rfl) (by kernel_rfl) (by kernel_rfl) (fun _ _ _ h => h) (by kernel_rfl) (SM.of hS) ?_ ?_; rotate_left; (focus (intro w; refine Pure.val ?_; go_simp; (try with_reducible rfl); done)); try simp only [Act.put, List.setIfInBounds_toArray, List.set_cons_zero, List.set_cons_succ])
          (refine Org.free (v := ?_) rfl (by kernel_rfl) (by kernel_rfl) (by kernel_rfl) (by kernel_rfl) (by kernel_rfl) (fun _ _ _ h => h) (by kernel_rfl) (SM.of hS) ?_ ?_; rotate_left; (focus (intro w; refine Pure.val ?_; go_simp; (try with_reducible rfl); done)); try simp only [Act.put, List.setIfInBounds_toArray, List.set_cons_zero, List.set_cons_succ])
          (refine Org.yes (v := ?_) rfl (by kernel_rfl) (by kernel_rfl) (by kernel_rfl) (by kernel_rfl) (by kernel_rfl) (fun _ _ _ h => h) (by kernel_rfl) (SM.of hS) ?_ ?_; rotate_left; (focus (intro w hSw; (try dsimp only at hSw); refine Pure.val ?_; go_simp; (try with_reducible rfl); done)); try simp only [Act.put, List.setIfInBounds_toArray, List.set_cons_zero, List.set_cons_succ])
          (refine Org.yes (v := ?_) rfl (by kernel_rfl) (by kernel_rfl) (by kernel_rfl) (by kernel_rfl) (by kernel_rfl) (fun _ _ _ h => h) (by kernel_rfl) (SM.of hS) ?_ ?_; rotate_left; (focus (intro w hSw; (try dsimp only at hSw); refine Pure.val ?_; go_simp; (try with_reducible rfl); done)); try simp only [Act.put, List.setIfInBounds_toArray, List.set_cons_zero, List.set_cons_succ])
          (refine Org.yes (v := ?_) rfl (by kernel_rfl) (by kernel_rfl) (by kernel_rfl) (by kernel_rfl) (by kernel_rfl) (fun _ _ _ h => h) (by kernel_rfl) (SM.of hS) ?_ ?_; rotate_left; (focus (intro w hSw; (try dsimp only at hSw); refine Pure.val ?_; go_simp; (try with_reducible rfl); done)); try simp only [Act.put, List.setIfInBounds_toArray, List.set_cons_zero, List.set_cons_succ])
          (refine Org.yes (v := ?_) rfl (by kernel_rfl) (by kernel_rfl) (by kernel_rfl) (by kernel_rfl) (by kernel_rfl) (fun _ _ _ h => h) (by kernel_rfl) (SM.of hS) ?_ ?_; rotate_left; (focus (intro w hSw; (try dsimp only at hSw); refine Pure.val ?_; go_simp; (try with_reducible rfl); done)); try simp only [Act.put, List.setIfInBounds_toArray, List.set_cons_zero, List.set_cons_succ])
          (refine Org.yes (v := ?_) rfl (by kernel_rfl) (by kernel_rfl) (by kernel_rfl) (by kernel_rfl) (by kernel_rfl) (fun _ _ _ h => h) (by kernel_rfl) (SM.of hS) ?_ ?_; rotate_left; (focus (intro w hSw; (try dsimp only at hSw); rw [hSw]; refine Pure.val ?_; refine (exec_load 27 (.tmp 69) rfl (by go_simp; first | done | rfl) hl2').trans ?_; with_reducible rfl)); try simp only [Act.put, List.setIfInBounds_toArray, List.set_cons_zero, List.set_cons_succ])
          (refine Org.free (v := ?_) rfl (by kernel_rfl) (by kernel_rfl) (by kernel_rfl) (by kernel_rfl) (by kernel_rfl) (fun _ _ _ h => h) (by kernel_rfl) (SM.of hS) ?_ ?_; rotate_left; (focus (intro w; refine Pure.val ?_; go_simp; (try with_reducible rfl); done)); try simp only [Act.put, List.setIfInBounds_toArray, List.set_cons_zero, List.set_cons_succ])
          (refine Org.free (v := ?_) rfl (by kernel_rfl) (by kernel_rfl) (by kernel_rfl) (by kernel_rfl) (by kernel_rfl) (fun _ _ _ h => h) (by kernel_rfl) (SM.of hS) ?_ ?_; rotate_left; (focus (intro w; refine Pure.val ?_; go_simp; (try with_reducible rfl); done)); try simp only [Act.put, List.setIfInBounds_toArray, List.set_cons_zero, List.set_cons_succ])
          (refine Org.free (v := ?_) rfl (by kernel_rfl) (by kernel_rfl) (by kernel_rfl) (by kernel_rfl) (by kernel_rfl) (fun _ _ _ h => h) (by kernel_rfl) (SM.of hS) ?_ ?_; rotate_left; (focus (intro w; refine Pure.val ?_; go_simp; (try with_reducible rfl); done)); try simp only [Act.put, List.setIfInBounds_toArray, List.set_cons_zero, List.set_cons_succ])
          (refine Org.yes (v := ?_) rfl (by kernel_rfl) (by kernel_rfl) (by kernel_rfl) (by kernel_rfl) (by kernel_rfl) (fun _ _ _ h => h) (by kernel_rfl) (SM.of hS) ?_ ?_; rotate_left; (focus (intro w hSw; (try dsimp only at hSw); rw [hSw]; refine Pure.val ?_; refine (exec_load 27 (.tmp 73) rfl (by go_simp; first | done | rfl) hl1).trans ?_; with_reducible rfl)); try simp only [Act.put, List.setIfInBounds_toArray, List.set_cons_zero, List.set_cons_succ])
          (refine Org.yes (v := ?_) rfl (by kernel_rfl) (by kernel_rfl) (by kernel_rfl) (by kernel_rfl) (by kernel_rfl) (fun _ _ _ h => h) (by kernel_rfl) (SM.of hS) ?_ ?_; rotate_left; (focus (intro w hSw; (try dsimp only at hSw); refine Pure.val ?_; go_simp; (try with_reducible rfl); done)); try simp only [Act.put, List.setIfInBounds_toArray, List.set_cons_zero, List.set_cons_succ])
          refine Org.mark (p := 15) rfl (by kernel_rfl) (by kernel_rfl) (by kernel_rfl) (by kernel_rfl) (fun K hK => ?_)
          refine wp_store_mid 27 (.tmp 75) (.tmp 70) rfl blk (off + ia * 8) (ey).toArray (by go_simp; first | done | rfl) (by go_simp; first | done | rfl) (by rw [show (ey).toArray.size = 8 by simp [hyn]]; exact hst.1) (by rw [show (ey).toArray.size = 8 by simp [hyn]]; exact R.size) hyn1 ?_
          refine hK.out _ _ ?_
          clear hK K hS
          try simp only [Act.put, List.setIfInBounds_toArray, List.set_cons_zero, List.set_cons_succ]
          (refine Org.free (v := ?_) rfl (by kernel_rfl) (by kernel_rfl) (by kernel_rfl) (by kernel_rfl) (by kernel_rfl) (fun _ _ _ h => h) (by kernel_rfl) (SM.past (p := 15) (by kernel_rfl) (by kernel_rfl)) ?_ ?_; rotate_left; (focus (intro w; refine Pure.val ?_; go_simp; (try with_reducible rfl); done)); try simp only [Act.put, List.setIfInBounds_toArray, List.set_cons_zero, List.set_cons_succ])
          refine Org.mark (p := 15) rfl (by kernel_rfl) (by kernel_rfl) (by kernel_rfl) (by kernel_rfl) (fun K hK => ?_)
          refine wp_store_mid 27 (.tmp 76) (.tmp 74) rfl blk (off + ib * 8) (ex).toArray (by go_simp; first | done | rfl) (by go_simp; first | done | rfl) (by rw [show (ex).toArray.size = 8 by simp [hxn]]; exact hst.2) (by rw [show (ex).toArray.size = 8 by simp [hxn]]; exact R.size) hxn1 ?_
          refine hK.out _ _ ?_
          clear hK K
          try simp only [Act.put, List.setIfInBounds_toArray, List.set_cons_zero, List.set_cons_succ]
          refine Org.done (by kernel_rfl) ?_
          skip
          clear c6
          go_wp2_with fail
          go_roundw
          case rel => exact ⟨ia + 1, by go_num, by omega, by omega, by rw [show ia + 1 - a = ia - a + 1 by omega, HZ2.out]; have := HE.out; simpa using this⟩
          case measure => simp [intOf] <;> omega
        · have hlt'' : ¬ (k : Int) < (i1 : Int) := by omega
          obtain rfl : k = i1 := by omega
          go_wp2_with fail
          refine bodyPost_ret (results_none rfl _ _ _) rfl ?_
          refine ⟨rfl, ?_⟩
          have := HS.out
          rw [HONE.out, show i - m = k - a by have := HM.out; omega]
          simpa using this

set_option maxHeartbeats 2000000 in
theorem ssymBM (ho : SOrd fun x y => decide (cf x y < 0)) (R : RowL Tryd.prog 27 enc w0 blk off N) (hN : N ≤ 1048576) (h1 : ∀ x, ∀ v ∈ enc x, v.oneCell' = true) (eg : ∀ args w, (callFunc g args).run Tryd.prog w = .ok (.enter g args) w) (hC : CmpLays Tryd.prog g #[] enc 8 cf blk off N w0) {A L S : List α} {x : α} {a m b : Nat} (h : SWL enc w0 blk off N (A ++ (L ++ (x :: S))) W) (ha : A.length = a) (hm : a + L.length = m) (hb : m + 1 = b) (ham : a + 1 < m) (hL : Srt (fun x y => decide (cf x y < 0)) L) :
    Calls Tryd.prog 90 #[.slice (some ⟨blk, off, none⟩) N cap, .int .i64 a, .int .i64 m, .int .i64 b, .func (.func g) #[] #[]] W fun e w' => e = .returned (.tuple #[]) ∧ SWL enc w0 blk off N (A ++ (mrg (fun x y => decide (cf x y < 0)) L [x] ++ S)) w' := by
  have hbN : b ≤ N := by have := h.1; simp only [List.length_append, List.length_cons] at this; omega
  have HA := hid ha
  have HM := hid hm
  have HB := hid hb
  have HH := hid h
  have HC := hid hC
  have HZ := hid hL
  have HO := hid ho
  obtain ⟨ma, hma⟩ : ∃ ma, m - a = ma := ⟨_, rfl⟩
  have t0 : (m : Int) - (a : Int) = (ma : Int) := by omega
  have t0' : ¬ (ma : Int) = 1 := by omega
  have t0'' : ((ma : Int) == 1) = false := by simpa using t0'
  have t1 : (b : Int) - (m : Int) = 1 := by omega
  have px := SWL.pre R h (A := A ++ L) (S := S) (x := x) (i := m) (by simp) (by simp; omega)
  have PX := hid px
  have pz : ∀ i, a ≤ i → i < m → (A ++ (L ++ (x :: S)))[i]? = some (L[i - a]!) := fun i h1 h2 => by
    rw [List.getElem?_append_right (by omega), show i - A.length = i - a by omega, List.getElem?_append_left (by omega), getElem!_pos L (i - a) (by omega), List.getElem?_eq_getElem]
  have PZ := hid pz
  clear h ha hm hb hC px pz hL ho hma
  go_enter Tryd.func90, Tryd.ntmps90
  go_wp2_with fail
  go_loopw [14, 15] (fun vi vj wr => ∃ (i j : Nat), vi = .int .i64 (i : Int) ∧ vj = .int .i64 (j : Int) ∧ a ≤ i ∧ i ≤ j ∧ j ≤ m ∧ SWL enc w0 blk off N (A ++ (L ++ (x :: S))) wr ∧ Hid ((i = a ∨ 0 ≤ cf x (L[i - 1 - a]!)) ∧ (j = m ∨ cf x (L[j - a]!) < 0))) (fun i j _ => (intOf j).toNat - (intOf i).toNat)
  case atStart => exact ⟨a, m, rfl, rfl, Nat.le_refl _, by omega, Nat.le_refl _, HH.out, ⟨.inl rfl, .inl rfl⟩⟩
  case round =>
    obtain ⟨i, j, rfl, rfl, hmi, hij, hjb, hs, HF⟩ := hrel
    have HS := hid hs
    clear hs
    by_cases hlt : i < j
    · have hlt' : (i : Int) < (j : Int) := by omega
      obtain ⟨h, hh⟩ : ∃ h, (i + j) / 2 = h := ⟨_, rfl⟩
      have hh' : ((i : Int) + (j : Int)) / 2 = (h : Int) := by omega
      have c1 : (h : Int) < (N : Int) := by omega
      have c2 : (m : Int) < (N : Int) := by have := HB.out; omega
      have p1 := PZ.out h (by omega) (by omega)
      obtain ⟨z, hz⟩ : ∃ z, L[h - a]! = z := ⟨_, rfl⟩
      rw [hz] at p1
      have P1 := hid p1
      have HZ1 := hid hz
      have HHH := hid hh
      clear p1 hz hh
      go_wp2_with fail
      refine Org.begin [] (SWL enc w0 blk off N (A ++ (L ++ (x :: S)))) [0, 1, 2, 3, 4, 5, 6, 7, 8, 9, 10, 11] (by kernel_rfl) (HS.out.drew) (fun hS => ?_)
      (refine Org.yes (v := ?_) rfl (by kernel_rfl) (by kernel_rfl) (by kernel_rfl) (by kernel_rfl) (by kernel_rfl) (fun _ _ _ h => h) (by kernel_rfl) (SM.of hS) ?_ ?_; rotate_left; (focus (intro w hSw; (try dsimp only at hSw); refine Pure.val ?_; go_simp; (try with_reducible rfl); done)); try simp only [Act.put, List.setIfInBounds_toArray, List.set_cons_zero, List.set_cons_succ])
      (refine Org.yes (v := ?_) rfl (by kernel_rfl) (by kernel_rfl) (by kernel_rfl) (by kernel_rfl) (by kernel_rfl) (fun _ _ _ h => h) (by kernel_rfl) (SM.of hS) ?_ ?_; rotate_left; (focus (intro w hSw; (try dsimp only at hSw); refine Pure.val ?_; go_simp; (try with_reducible rfl); done)); try simp only [Act.put, List.setIfInBounds_toArray, List.set_cons_zero, List.set_cons_succ])
      (refine Org.yes (v := ?_) rfl (by kernel_rfl) (by kernel_rfl) (by kernel_rfl) (by kernel_rfl) (by kernel_rfl) (fun _ _ _ h => h) (by kernel_rfl) (SM.of hS) ?_ ?_; rotate_left; (focus (intro w hSw; (try dsimp only at hSw); refine Pure.val ?_; go_simp; (try with_reducible rfl); done)); try simp only [Act.put, List.setIfInBounds_toArray, List.set_cons_zero, List.set_cons_succ])
      (refine Org.yes (v := ?_) rfl (by kernel_rfl) (by kernel_rfl) (by kernel_rfl) (by kernel_rfl) (by kernel_rfl) (fun _ _ _ h => h) (by kernel_rfl) (SM.of hS) ?_ ?_; rotate_left; (focus (intro w hSw; (try dsimp only at hSw); refine Pure.val ?_; go_simp; (try with_reducible rfl); done)); try simp only [Act.put, List.setIfInBounds_toArray, List.set_cons_zero, List.set_cons_succ])
      (refine Org.yes (v := ?_) rfl (by kernel_rfl) (by kernel_rfl) (by kernel_rfl) (by kernel_rfl) (by kernel_rfl) (fun _ _ _ h => h) (by kernel_rfl) (SM.of hS) ?_ ?_; rotate_left; (focus (intro w hSw; (try dsimp only at hSw); refine Pure.val ?_; refine (exec_load 27 (.tmp 95) rfl (by go_simp; first | done | rfl) (SWL.ld hSw R PX.out)).trans ?_; with_reducible rfl)); try simp only [Act.put, List.setIfInBounds_toArray, List.set_cons_zero, List.set_cons_succ])
      (refine Org.yes (v := ?_) rfl (by kernel_rfl) (by kernel_rfl) (by kernel_rfl) (by kernel_rfl) (by kernel_rfl) (fun _ _ _ h => h) (by kernel_rfl) (SM.of hS) ?_ ?_; rotate_left; (focus (intro w hSw; (try dsimp only at hSw); refine Pure.val ?_; go_simp; (try with_reducible rfl); done)); try simp only [Act.put, List.setIfInBounds_toArray, List.set_cons_zero, List.set_cons_succ])
      (refine Org.yes (v := ?_) rfl (by kernel_rfl) (by kernel_rfl) (by kernel_rfl) (by kernel_rfl) (by kernel_rfl) (fun _ _ _ h => h) (by kernel_rfl) (SM.of hS) ?_ ?_; rotate_left; (focus (intro w hSw; (try dsimp only at hSw); refine Pure.val ?_; go_simp; (try with_reducible rfl); done)); try simp only [Act.put, List.setIfInBounds_toArray, List.set_cons_zero, List.set_cons_succ])
      (refine Org.yes (v := ?_) rfl (by kernel_rfl) (by kernel_rfl) (by kernel_rfl) (by kernel_rfl) (by kernel_rfl) (fun _ _ _ h => h) (by kernel_rfl) (SM.of hS) ?_ ?_; rotate_left; (focus (intro w hSw; (try dsimp only at hSw); refine Pure.val ?_; go_simp; (try with_reducible rfl); done)); try simp only [Act.put, List.setIfInBounds_toArray, List.set_cons_zero, List.set_cons_succ])
      (refine Org.yes (v := ?_) rfl (by kernel_rfl) (by kernel_rfl) (by kernel_rfl) (by kernel_rfl) (by kernel_rfl) (fun _ _ _ h => h) (by kernel_rfl) (SM.of hS) ?_ ?_; rotate_left; (focus (intro w hSw; (try dsimp only at hSw); refine Pure.val ?_; refine (exec_load 27 (.tmp 99) rfl (by go_simp; first | done | rfl) (SWL.ld hSw R P1.out)).trans ?_; with_reducible rfl)); try simp only [Act.put, List.setIfInBounds_toArray, List.set_cons_zero, List.set_cons_succ])
      refine Org.go rfl (by kernel_rfl) (by kernel_rfl) (fun K hK => ?_)
      go_simp
      first
        | (go_at_fn g)
        | skip
      refine ((SWL.cmp0 hS HC.out x z)).mono ?_
      rintro e wz ⟨rfl, hS3⟩
      go_wp2_with fail
      refine hK.out _ _ hS3 (fun hS2 => ?_)
      clear hS3
      clear hK K hS
      have hS := hS2
      clear hS2
      try simp only [Act.put, List.setIfInBounds_toArray, List.set_cons_zero, List.set_cons_succ]
      (refine Org.yes (v := ?_) rfl (by kernel_rfl) (by kernel_rfl) (by kernel_rfl) (by kernel_rfl) (by kernel_rfl) (fun _ _ _ h => h) (by kernel_rfl) (SM.of hS) ?_ ?_; rotate_left; (focus (intro w hSw; (try dsimp only at hSw); refine Pure.val ?_; go_simp; (try with_reducible rfl); done)); try simp only [Act.put, List.setIfInBounds_toArray, List.set_cons_zero, List.set_cons_succ])
      (refine Org.yes (v := ?_) rfl (by kernel_rfl) (by kernel_rfl) (by kernel_rfl) (by kernel_rfl) (by kernel_rfl) (fun _ _ _ h => h) (by kernel_rfl) (SM.of hS) ?_ ?_; rotate_left; (focus (intro w hSw; (try dsimp only at hSw); refine Pure.val ?_; go_simp; (try with_reducible rfl); done)); try simp only [Act.put, List.setIfInBounds_toArray, List.set_cons_zero, List.set_cons_succ])
      refine Org.done (by kernel_rfl) ?_
      skip
      have HS3 := hid hS
      clear HS hS
      have hh := HHH.out
      by_cases hlv : cf x z < 0
      · go_wp2_with fail
        · rename_i hx
          simp [hlv] at hx
        go_roundw
        case rel => exact ⟨i, h, rfl, rfl, hmi, by omega, by omega, HS3.out, ⟨HF.out.1, .inr (by rw [HZ1.out]; exact hlv)⟩⟩
        case measure => simp [intOf] <;> omega
      · go_wp2_with fail
        rotate_left
        · rename_i hx
          exfalso
          revert hx
          simp only [Bool.not_eq_false', decide_eq_true_eq]
          omega
        go_roundw
        case rel =>
          refine ⟨h + 1, j, by go_num, rfl, by omega, by omega, by omega, HS3.out, ⟨.inr ?_, HF.out.2⟩⟩
          rw [show h + 1 - 1 - a = h - a by omega, HZ1.out]; omega
        case measure => simp [intOf] <;> omega
    · have hlt' : ¬ (i : Int) < (j : Int) := by omega
      obtain rfl : i = j := by omega
      have hone : mrg (fun x y => decide (cf x y < 0)) L [x] = L.take (i - a) ++ x :: L.drop (i - a) := by
        refine mrg_one HO.out HZ.out (by have := HM.out; omega) ?_ ?_
        · rcases HF.out.1 with h | h
          · exact .inl (by omega)
          · exact .inr (by rw [show i - a - 1 = i - 1 - a by omega]; simpa using h)
        · rcases HF.out.2 with h | h
          · exact .inl (by have := HM.out; omega)
          · exact .inr (by simpa using h)
      have HONE := hid hone
      clear hone
      obtain ⟨wl, hwl⟩ : ∃ wl, wl = wr := ⟨_, rfl⟩
      rw [← hwl] at HS ⊢
      clear hwl
      go_wp2_with fail
      go_loopw [17] (fun vk wr => ∃ (k : Nat), vk = .int .i64 (k : Int) ∧ i ≤ k ∧ k ≤ m ∧ SWL enc w0 blk off N (A ++ (L.take (k - a) ++ (x :: (L.drop (k - a) ++ S)))) wr) (fun k _ => (intOf k).toNat)
      case atStart => exact ⟨m, rfl, by omega, Nat.le_refl _, by rw [List.take_of_length_le (by have := HM.out; omega), List.drop_eq_nil_of_le (by have := HM.out; omega)]; simpa using HS.out⟩
      case round =>
        obtain ⟨k, rfl, hak, hki, hs⟩ := hrel
        clear HS
        have HS := hid hs
        clear hs
        by_cases hlt : i < k
        · obtain ⟨ia, rfl⟩ : ∃ ia, k = ia + 1 := ⟨k - 1, by omega⟩
          obtain ⟨ib, hib⟩ : ∃ ib, ia + 1 = ib := ⟨_, rfl⟩
          obtain ⟨z, hz1, hz2⟩ : ∃ z, L.drop (ia - a) = z :: L.drop (ia + 1 - a) ∧ L.take (ia + 1 - a) = L.take (ia - a) ++ [z] := by
            have : ia - a < L.length := by have := HM.out; omega
            rw [show ia + 1 - a = ia - a + 1 by omega]
            exact ⟨L[ia - a], List.drop_eq_getElem_cons this, List.take_succ_eq_append_getElem this⟩
          have hs := HS.out
          rw [hz2] at hs
          clear HS
          have HS := hid hs
          have HZ1 := hid hz1
          clear hs hz1 hz2
          have hl : A ++ (L.take (ia - a) ++ [z] ++ (x :: (L.drop (ia + 1 - a) ++ S))) = (A ++ L.take (ia - a)) ++ z :: ([] ++ x :: (L.drop (ia + 1 - a) ++ S)) := by simp
          have hA' : (A ++ L.take (ia - a)).length = ia := by have := HA.out; have := HM.out; simp; omega
          have hM' : ia + 1 + ([] : List α).length = ib := by simpa using hib
          have HLL := hid hl
          have HA' := hid hA'
          have HM' := hid hM'
          have ci : (ib : Int) < (N : Int) := by have := HB.out; omega
          have ci1 : (ia : Int) < (N : Int) := by have := HB.out; omega
          have c4 : (ia : Int) + 1 = (ib : Int) := by omega
          have c5 : (i : Int) < (ib : Int) := by omega
          have c6 : IntKind.i64.wrap ((ib : Int) - 1) = (ia : Int) := by rw [IntKind.wrap_i64]; omega
          clear hl hA' hM' hib
          go_wp2_with fail
          have hl := HLL.out
          have hA' := HA'.out
          have hM' := HM'.out
          have hx := SWL.pre R HS.out hl hA'
          have hy := SWL.pre R HS.out (A := (A ++ L.take (ia - a)) ++ z :: ([] : List α)) (S := (L.drop (ia + 1 - a) ++ S)) (x := x) (i := ib) (by rw [hl]; simp) (by simp at hA' hM' ⊢; omega)
          have hst := HS.out.sts R hy hx
          have hexc := HS.out.exch R hl hA' hM'
          have hl1 := HS.out.drew.ld R hx
          have hl2' := HS.out.drew.ld R hy
          have HE := hid hexc.2
          have hxn : (enc z).length = 8 := R.hk z
          have hyn : (enc x).length = 8 := R.hk x
          have hxn1 : (enc z).toArray.all (·.oneCell') = true := by simpa using h1 z
          have hyn1 : (enc x).toArray.all (·.oneCell') = true := by simpa using h1 x
          clear hx hy hl hA' hM' hexc
          obtain ⟨ex, hexx⟩ : ∃ c, c = enc z := ⟨_, rfl⟩
          obtain ⟨ey, heyy⟩ : ∃ c, c = enc x := ⟨_, rfl⟩
          rw [← hexx] at hl1 hxn hxn1 HE hst
          rw [← heyy] at hl2' hyn hyn1 HE
          clear hexx heyy
          obtain ⟨wq, hwq⟩ : ∃ wq, wq = wr := ⟨_, rfl⟩
          rw [← hwq] at hl1 hl2' hst HE ⊢
          clear HS hwq
          refine Org.begin [15, 17] (fun w' => w' = wq.drew) [0, 1, 2, 3, 4, 5, 6, 7, 8, 9, 10, 11, 12, 13, 14, 15, 16, 17] (by kernel_rfl) (rfl) (fun hS => ?_)
          (refine Org.yes (v := ?_) rfl (by kernel_rfl) (by kernel_rfl) (by kernel_rfl) (by kernel_rfl) (by kernel_rfl) (fun _ _ _ h => h) (by kernel_rfl) (SM.of hS) ?_ ?_; rotate_left; (focus (intro w hSw; (try dsimp only at hSw); refine Pure.val ?_; go_simp; (try with_reducible rfl); done)); try simp only [Act.put, List.setIfInBounds_toArray, List.set_cons_zero, List.set_cons_succ])
          (refine Org.yes (v := ?_) rfl (by kernel_rfl) (by kernel_rfl) (by kernel_rfl) (by kernel_rfl) (by kernel_rfl) (fun _ _ _ h => h) (by kernel_rfl) (SM.of hS) ?_ ?_; rotate_left; (focus (intro w hSw; (try dsimp only at hSw); refine Pure.val ?_; go_simp; (try with_reducible rfl); done)); try simp only [Act.put, List.setIfInBounds_toArray, List.set_cons_zero, List.set_cons_succ])
          (refine Org.free (v := ?_) rfl (by kernel_rfl) (by kernel_rfl) (by kernel_rfl) (by kernel_rfl) (by kernel_rfl) (fun _ _ _ h => h) (by kernel_rfl) (SM.of hS) ?_ ?_; rotate_left; (focus (intro w; refine Pure.val ?_; go_simp; (try with_reducible rfl); done)); try simp only [Act.put, List.setIfInBounds_toArray, List.set_cons_zero, List.set_cons_succ])
          (refine Org.free (v := ?_) rfl (by kernel_rfl) (by kernel_rfl) (by kernel_rfl) (by kernel_rfl) (by kernel_rfl) (fun _ _ _ h => h) (by kernel_rfl) (SM.of hS) ?_ ?_; rotate_left; (focus (intro w; refine Pure.val ?_; go_simp; (try with_reducible rfl); done)); try simp only [Act.put, List.setIfInBounds_toArray, List.set_cons_zero, List.set_cons_succ])
          (refine Org.free (v := ?_) rfl (by kernel_rfl) (by kernel_rfl) (by kernel_rfl) (by kernel_rfl) (by kernel_rfl) (fun _ _ _ h => h) (by kernel_rfl) (SM.of hS) ?_ ?_; rotate_left; (focus (intro w; refine Pure.val ?_; go_simp; (try with_reducible rfl); done)); try simp only [Act.put, List.setIfInBounds_toArray, List.set_cons_zero, List.set_cons_succ])
          (refine Org.yes (v := ?_) rfl (by kernel_rfl) (by kernel_rfl) (by kernel_rfl) (by kernel_rfl) (by kernel_rfl) (fun _ _ _ h => h) (by kernel_rfl) (SM.of hS) ?_ ?_; rotate_left; (focus (intro w hSw; (try dsimp only at hSw); refine Pure.val ?_; go_simp; (try with_reducible rfl); done)); try simp only [Act.put, List.setIfInBounds_toArray, List.set_cons_zero, List.set_cons_succ])
          (refine Org.yes (v := ?_) rfl (by kernel_rfl) (by kernel_rfl) (by kernel_rfl) (by kernel_rfl) (by kernel_rfl) (fun _ _ _ h => h) (by kernel_rfl) (SM.of hS) ?_ ?_; rotate_left; (focus (intro w hSw; (try dsimp only at hSw); refine Pure.val ?_; go_simp; (try with_reducible rfl); done)); try simp only [Act.put, List.setIfInBounds_toArray, List.set_cons_zero, List.set_cons_succ])
          (refine Org.yes (v := ?_) rfl (by kernel_rfl) (by kernel_rfl) (by kernel_rfl) (by kernel_rfl) (by kernel_rfl) (fun _ _ _ h => h) (by kernel_rfl) (SM.of hS) ?_ ?_; rotate_left; (focus (intro w hSw; (try dsimp only at hSw); refine Pure.val ?_; go_simp; (try with_reducible rfl); done)); try simp only [Act.put, List.setIfInBounds_toArray, List.set_cons_zero, List.set_cons_succ])
          (refine Org.yes (v := ?_) rfl (by kernel_rfl) (by kernel_rfl) (by kernel_rfl) (by kernel_rfl) (by kernel_rfl) (fun _ _ _ h => h) (by kernel_rfl) (SM.of hS) ?_ ?_; rotate_left; (focus (intro w hSw; (try dsimp only at hSw); refine Pure.val ?_; go_simp; (try with_reducible rfl); done)); try simp only [Act.put, List.setIfInBounds_toArray, List.set_cons_zero, List.set_cons_succ])
          (refine Org.yes (v := ?_) rfl (by kernel_rfl) (by kernel_rfl) (by kernel_rfl) (by kernel_rfl) (by kernel_rfl) (fun _ _ _ h => h) (by kernel_rfl) (SM.of hS) ?_ ?_; rotate_left; (focus (intro w hSw; (try dsimp only at hSw); rw [hSw]; refine Pure.val ?_; refine (exec_load 27 (.tmp 121) rfl (by go_simp; first | done | rfl) hl1).trans ?_; with_reducible rfl)); try simp only [Act.put, List.setIfInBounds_toArray, List.set_cons_zero, List.set_cons_succ])
          (refine Org.free (v := ?_) rfl (by kernel_rfl) (by kernel_rfl) (by kernel_rfl) (by kernel_rfl) (by kernel_rfl) (fun _ _ _ h => h) (by kernel_rfl) (SM.of hS) ?_ ?_; rotate_left; (focus (intro w; refine Pure.val ?_; go_simp; (try with_reducible rfl); done)); try simp only [Act.put, List.setIfInBounds_toArray, List.set_cons_zero, List.set_cons_succ])
          (refine Org.free (v := ?_) rfl (by kernel_rfl) (by kernel_rfl) (by kernel_rfl) (by kernel_rfl) (by kernel_rfl) (fun _ _ _ h => h) (by kernel_rfl) (SM.of hS) ?_ ?_; rotate_left; (focus (intro w; refine Pure.val ?_; go_simp; (try with_reducible rfl); done)); try simp only [Act.put, List.setIfInBounds_toArray, List.set_cons_zero, List.set_cons_succ])
          (refine Org.free (v := ?_) rfl (by kernel_rfl) (by kernel_rfl) (by kernel_rfl) (by kernel_rfl) (by kernel_rfl) (fun _ _ _ h => h) (by kernel_rfl) (SM.of hS) ?_ ?_; rotate_left; (focus (intro w; refine Pure.val ?_; go_simp; (try with_reducible rfl); done)); try simp only [Act.put, List.setIfInBounds_toArray, List.set_cons_zero, List.set_cons_succ])
          (refine Org.yes (v := ?_) rfl (by kernel_rfl) (by kernel_rfl) (by kernel_rfl) (by kernel_rfl) (by kernel_rfl) (fun _ _ _ h => h) (by kernel_rfl) (SM.of hS) ?_ ?_; rotate_left; (focus (intro w hSw; (try dsimp only at hSw); rw [hSw]; refine Pure.val ?_; refine (exec_load 27 (.tmp 125) rfl (by go_simp; first | done | rfl) hl2').trans ?_; with_reducible rfl)); try simp only [Act.put, List.setIfInBounds_toArray, List.set_cons_zero, List.set_cons_succ])
          (refine Org.yes (v := ?_) rfl (by kernel_rfl) (by kernel_rfl) (by kernel_rfl) (by kernel_rfl) (by kernel_rfl) (fun _ _ _ h => h) (by kernel_rfl) (SM.of hS) ?_ ?_; rotate_left; (focus (intro w hSw; (try dsimp only at hSw); refine Pure.val ?_; go_simp; (try with_reducible rfl); done)); try simp only [Act.put, List.setIfInBounds_toArray, List.set_cons_zero, List.set_cons_succ])
          refine Org.mark (p := 15) rfl (by kernel_rfl) (by kernel_rfl) (by kernel_rfl) (by kernel_rfl) (fun K hK => ?_)
          refine wp_store_mid 27 (.tmp 127) (.tmp 122) rfl blk (off + ib * 8) (ex).toArray (by go_simp; first | done | rfl) (by go_simp; first | done | rfl) (by rw [show (ex).toArray.size = 8 by simp [hxn]]; exact hst.1) (by rw [show (ex).toArray.size = 8 by simp [hxn]]; exact R.size) hxn1 ?_
          refine hK.out _ _ ?_
          clear hK K hS
          try simp only [Act.put, List.setIfInBounds_toArray, List.set_cons_zero, List.set_cons_succ]
          (refine Org.free (v := ?_) rfl (by kernel_rfl) (by kernel_rfl) (by kernel_rfl) (by kernel_rfl) (by kernel_rfl) (fun _ _ _ h => h) (by kernel_rfl) (SM.past (p := 15) (by kernel_rfl) (by kernel_rfl)) ?_ ?_; rotate_left; (focus (intro w; refine Pure.val ?_; go_simp; (try with_reducible rfl); done)); try simp only [Act.put, List.setIfInBounds_toArray, List.set_cons_zero, List.set_cons_succ])
          refine Org.mark (p := 15) rfl (by kernel_rfl) (by kernel_rfl) (by kernel_rfl) (by kernel_rfl) (fun K hK => ?_)
          refine wp_store_mid 27 (.tmp 128) (.tmp 126) rfl blk (off + ia * 8) (ey).toArray (by go_simp; first | done | rfl) (by go_simp; first | done | rfl) (by rw [show (ey).toArray.size = 8 by simp [hyn]]; exact hst.2) (by rw [show (ey).toArray.size = 8 by simp [hyn]]; exact R.size) hyn1 ?_
          refine hK.out _ _ ?_
          clear hK K
          try simp only [Act.put, List.setIfInBounds_toArray, List.set_cons_zero, List.set_cons_succ]
          refine Org.done (by kernel_rfl) ?_
          skip
          clear c6
          go_wp2_with fail
          go_roundw
          case rel => exact ⟨ia, by go_num, by omega, by omega, by rw [HZ1.out]; have := HE.out; simpa using this⟩
          case measure => simp [intOf] <;> omega
        · have hlt'' : ¬ (i : Int) < (k : Int) := by omega
          obtain rfl : k = i := by omega
          go_wp2_with fail
          refine bodyPost_ret (results_none rfl _ _ _) rfl ?_
          refine ⟨rfl, ?_⟩
          have := HS.out
          rw [HONE.out]
          simpa using this

end Go.Proofs.YtbpimfhachbcdaaDoor

