/- Order -/
import Derived.Sort.Grow
import Derived.BigGuardPart
import Derived.Deep.DeepCutAuto
import Derived.Test.YtnknjeipfjdjoaaGreatDoorBScanKept00
import Derived.Test.YtnknjeipfjdjoaaGreatDoorBScanKept07
import Derived.Test.YtnknjeipfjdjoaaGreatDoorBScanKept16
import Derived.Test.YtnknjeipfjdjoaaGreatDoorBScanKept35
set_option maxRecDepth 20000
set_option linter.unusedSimpArgs false
set_option linter.unusedVariables false
namespace Wells
open Go Go.RowKit
def cmpI (a b : Int) : Int := if a < b then -1 else if b < a then 1 else 0
def orI (a b c : Int) : Int := if a ≠ 0 then a else if b ≠ 0 then b else c
def ordI (r q : Rec) : Int := orI (cmpI r.O q.O) (cmpI r.B q.B) (cmpI r.I q.I)
theorem ordI_lt (r q : Rec) : decide (ordI r q < 0) = ltR r q := by
 unfold ordI ltR orI cmpI
 congr 1
 apply propext
 constructor
 ·intro h
  repeat' split at h
  all_goals omega
 ·intro h
  repeat' split
  all_goals omega
theorem ordI_eq (r q : Rec) : (ordI r q == 0) = eqv ltR r q := by
 rw [Bool.eq_iff_iff]
 unfold eqv ltR ordI orI cmpI
 simp only [beq_iff_eq, Bool.and_eq_true, Bool.not_eq_true', decide_eq_false_iff_not]
 constructor
 ·intro h
  repeat' split at h
  all_goals omega
 ·intro h
  repeat' split
  all_goals omega
end Wells
namespace Go.Proofs.YtnknjeipfjdjoaaGreatDoor
open Go.RowKit Wells Go.Sort
theorem ccmp_any (a b c : Int) (hc : cmpI a b = c) (w : World) : Calls Tryz.prog 90 #[.int .i64 a, .int .i64 b] w fun e w' => e = .returned (.int .i64 c) ∧ w = w' := by
 have HC := hid hc
 clear hc
 unfold cmpI at HC
 rcases Int.lt_trichotomy a b with h | h | h
 ·have h2 : ¬ b < a := by omega
  go_enter Tryz.func90, Tryz.ntmps90
  go_wp2
  go_ret
  exact ⟨ret_int (by rw [← HC.out, if_pos h]), rfl⟩
 ·subst h
  go_enter Tryz.func90, Tryz.ntmps90
  go_wp2
  go_ret
  exact ⟨ret_int (by rw [← HC.out]; simp), rfl⟩
 ·have h2 : ¬ a < b := by omega
  go_enter Tryz.func90, Tryz.ntmps90
  go_wp2
  go_ret
  exact ⟨ret_int (by rw [← HC.out, if_neg (by omega), if_pos h]), rfl⟩
theorem cor_any (g : Nat) (a b c d : Int) (w : World) (h0 : w.cell? ⟨g, 0, none⟩ = some (.int .i64 a)) (h1 : w.cell? ⟨g, 1, none⟩ = some (.int .i64 b)) (h2 : w.cell? ⟨g, 2, none⟩ = some (.int .i64 c)) (hd : orI a b c = d) : Calls Tryz.prog 89 #[.slice (some ⟨g, 0, none⟩) 3 3] w fun e w' => e = .returned (.int .i64 d) ∧ w = w' := by
 have HD := hid hd
 clear hd
 unfold orI at HD
 go_enter Tryz.func89, Tryz.ntmps89
 go_wp2
 go_loop [8] (fun v => ∃ k : Nat, k ≤ 3 ∧ v = .int .i64 (k : Int) ∧ Hid ((0 < k → a = 0) ∧ (1 < k → b = 0) ∧ (2 < k → c = 0))) (fun v => 3 - (intOf v).toNat)
 case atStart => exact ⟨0, by omega, rfl, ⟨fun h => by omega, fun h => by omega, fun h => by omega⟩⟩
 case round =>
  obtain ⟨k, hk, rfl, HF⟩ := hrel
  obtain rfl | rfl | rfl | rfl : k = 0 ∨ k = 1 ∨ k = 2 ∨ k = 3 := by omega
  ·by_cases ha : a = 0
   ·subst ha
    go_wp2
    go_round
    case rel => exact ⟨1, by omega, by first | rfl | trivial, ⟨fun _ => (by first | rfl | trivial), fun h => by omega, fun h => by omega⟩⟩
    case measure => simp [intOf]
   ·go_wp2
    go_ret
    exact ⟨ret_int (by rw [← HD.out, if_pos ha]), rfl⟩
  ·have ha := HF.out.1 (by omega)
   by_cases hb : b = 0
   ·subst hb
    go_wp2
    go_round
    case rel => exact ⟨2, by omega, by first | rfl | trivial, ⟨fun _ => ha, fun _ => (by first | rfl | trivial), fun h => by omega⟩⟩
    case measure => simp [intOf]
   ·go_wp2
    go_ret
    exact ⟨ret_int (by rw [← HD.out, if_neg (by simp [ha]), if_pos hb]), rfl⟩
  ·have ha := HF.out.1 (by omega)
   have hb := HF.out.2.1 (by omega)
   by_cases hc : c = 0
   ·subst hc
    go_wp2
    go_round
    case rel => exact ⟨3, by omega, by first | rfl | trivial, ⟨fun _ => ha, fun _ => hb, fun _ => (by first | rfl | trivial)⟩⟩
    case measure => simp [intOf]
   ·go_wp2
    go_ret
    exact ⟨ret_int (by rw [← HD.out, if_neg (by simp [ha]), if_neg (by simp [hb])]), rfl⟩
  ·have ha := HF.out.1 (by omega)
   have hb := HF.out.2.1 (by omega)
   have hc := HF.out.2.2 (by omega)
   go_wp2
   go_ret
   exact ⟨ret_int (by rw [← HD.out, if_neg (by simp [ha]), if_neg (by simp [hb]), hc]), rfl⟩
theorem infoII : (Tryz.prog.info? 3).map (fun i => (i.zero, i.size, i.bytes)) = some (some (.int .i64 0), 1, 8) := by kernel_rfl
set_option maxHeartbeats 1000000 in
theorem order_any (r q : Rec) (d e : Value) (w : World) : Calls Tryz.prog 47 #[r.val d, q.val e] w fun en w' => en = .returned (.int .i64 (ordI r q)) ∧ ∃ n os, w' = grow (w.drewN n) os := by
 obtain ⟨ii, hii, hz0, hz1, hz2⟩ := info_parts infoII
 obtain ⟨A1, hA1⟩ : ∃ o : Obj, o = .cells #[.int .i64 r.O, .int .i64 r.B, .int .i64 r.I, .int .i64 r.P.K, .int .i64 r.P.H, .int .i64 r.P.S, .int .u32 (r.S.toNat : Int), d] 73 := ⟨_, rfl⟩
 obtain ⟨A2, hA2⟩ : ∃ o : Obj, o = .cells #[.int .i64 q.O, .int .i64 q.B, .int .i64 q.I, .int .i64 q.P.K, .int .i64 q.P.H, .int .i64 q.P.S, .int .u32 (q.S.toNat : Int), e] 73 := ⟨_, rfl⟩
 obtain ⟨w2, hw2⟩ : ∃ w2, w2 = (w.alloc A1).alloc A2 := ⟨_, rfl⟩
 have r1 : Row w2 w.heap.size 73 [.int .i64 r.O, .int .i64 r.B, .int .i64 r.I, .int .i64 r.P.K, .int .i64 r.P.H, .int .i64 r.P.S, .int .u32 (r.S.toNat : Int), d] := by rw [hw2, hA1]; exact (Row.new w _ _).alloc _
 have r2 : Row w2 (w.heap.size + 1) 73 [.int .i64 q.O, .int .i64 q.B, .int .i64 q.I, .int .i64 q.P.K, .int .i64 q.P.H, .int .i64 q.P.S, .int .u32 (q.S.toNat : Int), e] := by
  have := Row.new (w.alloc A1) 73 #[.int .i64 q.O, .int .i64 q.B, .int .i64 q.I, .int .i64 q.P.K, .int .i64 q.P.H, .int .i64 q.P.S, .int .u32 (q.S.toNat : Int), e]
  rw [show (w.alloc A1).heap.size = w.heap.size + 1 by simp] at this
  rw [hw2, hA2]; exact this
 have hsz : w2.heap.size = w.heap.size + 2 := by rw [hw2]; simp
 have R1 := hid r1
 have R2 := hid r2
 have HSZ := hid hsz
 have HW2 := hid hw2
 have HE1 := hid hA1
 have HE2 := hid hA2
 obtain ⟨gs, hgs⟩ : ∃ gs, w.heap.size = gs := ⟨_, rfl⟩
 rw [hgs] at R1 R2 HSZ
 have HGS := hid hgs
 clear r1 r2 hsz hw2 hA1 hA2
 unfold Rec.val
 go_enter Tryz.func47, Tryz.ntmps47
 go_upto_region 1 with fail
 rw [← HE1.out, ← HE2.out, ← HW2.out]
 try rw [hgs]
 clear hgs
 have bnd1 : gs < gs + 2 := by omega
 have bnd2 : gs + 1 < gs + 2 := by omega
 have c10 := R1.out.cell 0
 have c11 := R1.out.cell 1
 have c12 := R1.out.cell 2
 have c20 := R2.out.cell 0
 have c21 := R2.out.cell 1
 have c22 := R2.out.cell 2
 simp only [List.getElem?_cons_succ, List.getElem?_cons_zero] at c10 c11 c12 c20 c21 c22
 have keep : ∀ w', Below (gs + 2) w2 w' → ∀ b i, b < gs + 2 → w'.cell? ⟨b, i, none⟩ = w2.cell? ⟨b, i, none⟩ := fun w' h b i hb => h.cell (p := ⟨b, i, none⟩) hb
 have x0 : Hid (∀ w', Below (gs + 2) w2 w' → w'.cell? ⟨gs, 0, none⟩ = some (.int .i64 r.O)) := hid (fun w' h => (keep w' h _ _ bnd1).trans c10)
 have x1 : Hid (∀ w', Below (gs + 2) w2 w' → w'.cell? ⟨gs, 1, none⟩ = some (.int .i64 r.B)) := hid (fun w' h => (keep w' h _ _ bnd1).trans c11)
 have x2 : Hid (∀ w', Below (gs + 2) w2 w' → w'.cell? ⟨gs, 2, none⟩ = some (.int .i64 r.I)) := hid (fun w' h => (keep w' h _ _ bnd1).trans c12)
 have y0 : Hid (∀ w', Below (gs + 2) w2 w' → w'.cell? ⟨gs + 1, 0, none⟩ = some (.int .i64 q.O)) := hid (fun w' h => (keep w' h _ _ bnd2).trans c20)
 have y1 : Hid (∀ w', Below (gs + 2) w2 w' → w'.cell? ⟨gs + 1, 1, none⟩ = some (.int .i64 q.B)) := hid (fun w' h => (keep w' h _ _ bnd2).trans c21)
 have y2 : Hid (∀ w', Below (gs + 2) w2 w' → w'.cell? ⟨gs + 1, 2, none⟩ = some (.int .i64 q.I)) := hid (fun w' h => (keep w' h _ _ bnd2).trans c22)
 clear keep c10 c11 c12 c20 c21 c22
 refine Org.begin [] (fun w' => Below (gs + 2) w2 w') [0, 1, 2, 3, 4, 5, 6, 7, 8, 9, 10, 11, 12, 13, 14, 15, 16, 17] (by kernel_rfl) (below_drewN (Below.refl _ _) 1) (fun hS => ?_)
 (refine Org.yes (v := ?_) rfl (by kernel_rfl) (by kernel_rfl) (by kernel_rfl) (by kernel_rfl) (by kernel_rfl) (fun _ _ _ h => h) (by kernel_rfl) (SM.of hS) ?_ ?_; rotate_left; (focus (intro w hSw; (try dsimp only at hSw); refine Pure.val ?_; go_simp; (try with_reducible rfl); done)); try simp only [Act.put, List.setIfInBounds_toArray, List.set_cons_zero, List.set_cons_succ])
 (refine Org.yes (v := ?_) rfl (by kernel_rfl) (by kernel_rfl) (by kernel_rfl) (by kernel_rfl) (by kernel_rfl) (fun _ _ _ h => h) (by kernel_rfl) (SM.of hS) ?_ ?_; rotate_left; (focus (intro w hSw; (try dsimp only at hSw); have zc := x0.out _ hSw; refine Pure.val ?_; go_simp; (try with_reducible rfl); done)); try simp only [Act.put, List.setIfInBounds_toArray, List.set_cons_zero, List.set_cons_succ])
 (refine Org.yes (v := ?_) rfl (by kernel_rfl) (by kernel_rfl) (by kernel_rfl) (by kernel_rfl) (by kernel_rfl) (fun _ _ _ h => h) (by kernel_rfl) (SM.of hS) ?_ ?_; rotate_left; (focus (intro w hSw; (try dsimp only at hSw); refine Pure.val ?_; go_simp; (try with_reducible rfl); done)); try simp only [Act.put, List.setIfInBounds_toArray, List.set_cons_zero, List.set_cons_succ])
 (refine Org.yes (v := ?_) rfl (by kernel_rfl) (by kernel_rfl) (by kernel_rfl) (by kernel_rfl) (by kernel_rfl) (fun _ _ _ h => h) (by kernel_rfl) (SM.of hS) ?_ ?_; rotate_left; (focus (intro w hSw; (try dsimp only at hSw); have zc := y0.out _ hSw; refine Pure.val ?_; go_simp; (try with_reducible rfl); done)); try simp only [Act.put, List.setIfInBounds_toArray, List.set_cons_zero, List.set_cons_succ])
 (refine Org.yes (v := ?_) rfl (by kernel_rfl) (by kernel_rfl) (by kernel_rfl) (by kernel_rfl) (by kernel_rfl) (fun _ _ _ h => h) (by kernel_rfl) (SM.of hS) ?_ ?_; rotate_left; (focus (intro w hSw; (try dsimp only at hSw); refine Pure.call 90 #[.int .i64 r.O, .int .i64 q.O] (by go_simp; first | done | rfl) ?_; refine (ccmp_any r.O q.O _ rfl w).mono ?_; rintro e w' ⟨rfl, rfl⟩; refine ⟨?_, rfl⟩; with_reducible rfl)); try simp only [Act.put, List.setIfInBounds_toArray, List.set_cons_zero, List.set_cons_succ])
 (refine Org.yes (v := ?_) rfl (by kernel_rfl) (by kernel_rfl) (by kernel_rfl) (by kernel_rfl) (by kernel_rfl) (fun _ _ _ h => h) (by kernel_rfl) (SM.of hS) ?_ ?_; rotate_left; (focus (intro w hSw; (try dsimp only at hSw); refine Pure.val ?_; go_simp; (try with_reducible rfl); done)); try simp only [Act.put, List.setIfInBounds_toArray, List.set_cons_zero, List.set_cons_succ])
 (refine Org.yes (v := ?_) rfl (by kernel_rfl) (by kernel_rfl) (by kernel_rfl) (by kernel_rfl) (by kernel_rfl) (fun _ _ _ h => h) (by kernel_rfl) (SM.of hS) ?_ ?_; rotate_left; (focus (intro w hSw; (try dsimp only at hSw); have zc := x1.out _ hSw; refine Pure.val ?_; go_simp; (try with_reducible rfl); done)); try simp only [Act.put, List.setIfInBounds_toArray, List.set_cons_zero, List.set_cons_succ])
 (refine Org.yes (v := ?_) rfl (by kernel_rfl) (by kernel_rfl) (by kernel_rfl) (by kernel_rfl) (by kernel_rfl) (fun _ _ _ h => h) (by kernel_rfl) (SM.of hS) ?_ ?_; rotate_left; (focus (intro w hSw; (try dsimp only at hSw); refine Pure.val ?_; go_simp; (try with_reducible rfl); done)); try simp only [Act.put, List.setIfInBounds_toArray, List.set_cons_zero, List.set_cons_succ])
 (refine Org.yes (v := ?_) rfl (by kernel_rfl) (by kernel_rfl) (by kernel_rfl) (by kernel_rfl) (by kernel_rfl) (fun _ _ _ h => h) (by kernel_rfl) (SM.of hS) ?_ ?_; rotate_left; (focus (intro w hSw; (try dsimp only at hSw); have zc := y1.out _ hSw; refine Pure.val ?_; go_simp; (try with_reducible rfl); done)); try simp only [Act.put, List.setIfInBounds_toArray, List.set_cons_zero, List.set_cons_succ])
 (refine Org.yes (v := ?_) rfl (by kernel_rfl) (by kernel_rfl) (by kernel_rfl) (by kernel_rfl) (by kernel_rfl) (fun _ _ _ h => h) (by kernel_rfl) (SM.of hS) ?_ ?_; rotate_left; (focus (intro w hSw; (try dsimp only at hSw); refine Pure.call 90 #[.int .i64 r.B, .int .i64 q.B] (by go_simp; first | done | rfl) ?_; refine (ccmp_any r.B q.B _ rfl w).mono ?_; rintro e w' ⟨rfl, rfl⟩; refine ⟨?_, rfl⟩; with_reducible rfl)); try simp only [Act.put, List.setIfInBounds_toArray, List.set_cons_zero, List.set_cons_succ])
 (refine Org.yes (v := ?_) rfl (by kernel_rfl) (by kernel_rfl) (by kernel_rfl) (by kernel_rfl) (by kernel_rfl) (fun _ _ _ h => h) (by kernel_rfl) (SM.of hS) ?_ ?_; rotate_left; (focus (intro w hSw; (try dsimp only at hSw); refine Pure.val ?_; go_simp; (try with_reducible rfl); done)); try simp only [Act.put, List.setIfInBounds_toArray, List.set_cons_zero, List.set_cons_succ])
 (refine Org.yes (v := ?_) rfl (by kernel_rfl) (by kernel_rfl) (by kernel_rfl) (by kernel_rfl) (by kernel_rfl) (fun _ _ _ h => h) (by kernel_rfl) (SM.of hS) ?_ ?_; rotate_left; (focus (intro w hSw; (try dsimp only at hSw); have zc := x2.out _ hSw; refine Pure.val ?_; go_simp; (try with_reducible rfl); done)); try simp only [Act.put, List.setIfInBounds_toArray, List.set_cons_zero, List.set_cons_succ])
 (refine Org.yes (v := ?_) rfl (by kernel_rfl) (by kernel_rfl) (by kernel_rfl) (by kernel_rfl) (by kernel_rfl) (fun _ _ _ h => h) (by kernel_rfl) (SM.of hS) ?_ ?_; rotate_left; (focus (intro w hSw; (try dsimp only at hSw); refine Pure.val ?_; go_simp; (try with_reducible rfl); done)); try simp only [Act.put, List.setIfInBounds_toArray, List.set_cons_zero, List.set_cons_succ])
 (refine Org.yes (v := ?_) rfl (by kernel_rfl) (by kernel_rfl) (by kernel_rfl) (by kernel_rfl) (by kernel_rfl) (fun _ _ _ h => h) (by kernel_rfl) (SM.of hS) ?_ ?_; rotate_left; (focus (intro w hSw; (try dsimp only at hSw); have zc := y2.out _ hSw; refine Pure.val ?_; go_simp; (try with_reducible rfl); done)); try simp only [Act.put, List.setIfInBounds_toArray, List.set_cons_zero, List.set_cons_succ])
 (refine Org.yes (v := ?_) rfl (by kernel_rfl) (by kernel_rfl) (by kernel_rfl) (by kernel_rfl) (by kernel_rfl) (fun _ _ _ h => h) (by kernel_rfl) (SM.of hS) ?_ ?_; rotate_left; (focus (intro w hSw; (try dsimp only at hSw); refine Pure.call 90 #[.int .i64 r.I, .int .i64 q.I] (by go_simp; first | done | rfl) ?_; refine (ccmp_any r.I q.I _ rfl w).mono ?_; rintro e w' ⟨rfl, rfl⟩; refine ⟨?_, rfl⟩; with_reducible rfl)); try simp only [Act.put, List.setIfInBounds_toArray, List.set_cons_zero, List.set_cons_succ])
 refine Org.go rfl (by kernel_rfl) (by kernel_rfl) (fun K hK => ?_)
 skip
 refine op_build3 22 3 (.tmp 9) (.tmp 14) (.tmp 19) (by rfl) (.int .i64 (cmpI r.O q.O)) (.int .i64 (cmpI r.B q.B)) (.int .i64 (cmpI r.I q.I)) (by rfl) (by rfl) (by rfl) rfl rfl rfl ii (.int .i64 0) Tryz.underlying22 hii hz0 hz1 rfl ?_
 refine hK.out _ _ (hS.alloc (by rw [show w2.drew.heap.size = w2.heap.size from rfl, HSZ.out]; omega) _) (fun hS2 => ?_)
 clear hK K hS
 have hS := hS2
 clear hS2
 try simp only [Act.put, List.setIfInBounds_toArray, List.set_cons_zero, List.set_cons_succ]
 refine Org.go rfl (by kernel_rfl) (by kernel_rfl) (fun K hK => ?_)
 go_simp
 go_at_call 89
 have hro : Row (w2.drew.alloc (.cells #[.int .i64 (cmpI r.O q.O), .int .i64 (cmpI r.B q.B), .int .i64 (cmpI r.I q.I)] 3)) (gs + 2) 3 [.int .i64 (cmpI r.O q.O), .int .i64 (cmpI r.B q.B), .int .i64 (cmpI r.I q.I)] := by
  have := Row.new w2.drew 3 #[.int .i64 (cmpI r.O q.O), .int .i64 (cmpI r.B q.B), .int .i64 (cmpI r.I q.I)]
  rwa [show w2.drew.heap.size = w2.heap.size from rfl, HSZ.out] at this
 have o0 := hro.cell 0
 have o1 := hro.cell 1
 have o2 := hro.cell 2
 simp only [List.getElem?_cons_succ, List.getElem?_cons_zero] at o0 o1 o2
 rw [HSZ.out]
 refine (cor_any (gs + 2) _ _ _ _ _ o0 o1 o2 rfl).mono ?_
 rintro en wz ⟨rfl, rfl⟩
 clear hro o0 o1 o2
 go_wp2_with fail
 refine hK.out _ _ hS (fun hS2 => ?_)
 clear hK K hS
 have hS := hS2
 clear hS2
 try simp only [Act.put, List.setIfInBounds_toArray, List.set_cons_zero, List.set_cons_succ]
 (refine Org.yes (v := ?_) rfl (by kernel_rfl) (by kernel_rfl) (by kernel_rfl) (by kernel_rfl) (by kernel_rfl) (fun _ _ _ h => h) (by kernel_rfl) (SM.of hS) ?_ ?_; rotate_left; (focus (intro w hSw; (try dsimp only at hSw); refine Pure.val ?_; go_simp; (try with_reducible rfl); done)); try simp only [Act.put, List.setIfInBounds_toArray, List.set_cons_zero, List.set_cons_succ])
 refine Org.done (by kernel_rfl) ?_
 skip
 go_wp2_with fail
 go_ret
 refine ⟨rfl, 1, #[A1, A2, .cells #[.int .i64 (cmpI r.O q.O), .int .i64 (cmpI r.B q.B), .int .i64 (cmpI r.I q.I)] 3], ?_⟩
 rw [HW2.out]
 simp only [alloc_eq_grow, grow_grow, drew_grow]
 rfl
end Go.Proofs.YtnknjeipfjdjoaaGreatDoor
