/- Records alike; made of numbers. -/
import Derived.Test.YthafodblffgmmaaRecMath
import Derived.Test.YthafodblffgmmaaPut
import Derived.BigGuardPart
namespace Go.Proofs.Ythafodblffgmmaa
open Go.RowKit Wells
set_option maxRecDepth 20000 in
set_option maxHeartbeats 8000000 in
theorem samerec_any (r q : Rec) (A A' : Option Addr) (n n' c c' : Nat) (b : Bool) (B : Nat) (w : World) (h : Sl w B 1 A n (r.D.map bv8)) (h' : Sl w B 1 A' n' (q.D.map bv8)) (hB : B ≤ w.heap.size) (hn : n ≤ 1048576) (hn' : n' ≤ 1048576) (hb : decide (r = q) = b) :
    Calls Try.prog 22 #[r.val (.slice A n c), q.val (.slice A' n' c')] w fun e w' => e = .returned (.bool b) ∧ Below w.heap.size w w' := by
  obtain ⟨O, B1, I, ⟨K, H, S⟩, s, D⟩ := r
  obtain ⟨O', B1', I', ⟨K', H', S'⟩, s', D'⟩ := q
  unfold Rec.val
  have HB := hid hb
  have hbi := s.isLt
  have hbi' := s'.isLt
  clear hb
  dsimp only at *
  go_enter Try.func22, Try.ntmps22
  go_wp2_with fail
  all_goals try (go_ret; exact ⟨ret_bool (by
    rw [← HB.out]
    refine (decide_eq_false fun e => ?_).symm
    simp only [Rec.mk.injEq, Par.mk.injEq] at e
    obtain ⟨e1, e2, e3, ⟨e4, e5, e6⟩, e7, e8⟩ := e
    have e9 := congrArg BitVec.toNat e7
    omega), ((Below.refl _ _).alloc (Nat.le_refl _) _).alloc (by simp) _⟩)
  have hO : O = O' := by assumption
  have hBB : B1 = B1' := by assumption
  have hI : I = I' := by assumption
  have hK : K = K' := by assumption
  have hH : H = H' := by assumption
  have hS : S = S' := by assumption
  have hs : s = s' := BitVec.eq_of_toNat_eq (by omega)
  subst hO hBB hI hK hH hS hs
  have hb2 : Below w.heap.size w ((w.alloc (.cells #[.int .i64 O, .int .i64 B1, .int .i64 I, .int .i64 K, .int .i64 H, .int .i64 S, .int .u32 (s.toNat : Int), .slice A n c] 27)).alloc (.cells #[.int .i64 O, .int .i64 B1, .int .i64 I, .int .i64 K, .int .i64 H, .int .i64 S, .int .u32 (s.toNat : Int), .slice A' n' c'] 27)) := ((Below.refl _ _).alloc (Nat.le_refl _) _).alloc (by simp) _
  generalize ((w.alloc (.cells #[.int .i64 O, .int .i64 B1, .int .i64 I, .int .i64 K, .int .i64 H, .int .i64 S, .int .u32 (s.toNat : Int), .slice A n c] 27)).alloc (.cells #[.int .i64 O, .int .i64 B1, .int .i64 I, .int .i64 K, .int .i64 H, .int .i64 S, .int .u32 (s.toNat : Int), .slice A' n' c'] 27)) = w2 at *
  have hDD : decide (D = D') = b := by rw [← HB.out]; simp
  refine (same_is b B _ _ D D' _ _ _ _ _ (h.below (hb2.mono hB)) (h'.below (hb2.mono hB)) (by omega) (by omega) hDD).mono ?_
  rintro e w3 ⟨rfl, d, rfl⟩
  have hb3 := below_drewN hb2 d
  clear hDD hb2
  go_wp2_with fail
  go_ret
  exact ⟨rfl, hb3⟩
end Go.Proofs.Ythafodblffgmmaa
