/- Data -/
import Derived.Test.YtnknjeipfjdjoaaGreatDoorBScanKept07
import Derived.Test.YtnknjeipfjdjoaaGreatDoorBScanKept45
set_option maxRecDepth 20000
set_option linter.unusedSimpArgs false
set_option linter.unusedVariables false
namespace Go.Proofs.YtnknjeipfjdjoaaGreatDoor
open Go.RowKit Wells
theorem own_byte {w : World} {base n : Nat} {t : TypeId} {v : Value} {l : List Byte} {E : Int} (h : w.ownsRow base t 1 v n (l.map bv8 ++ [.int .u8 E])) (h0 : 0 ≤ E) (h1 : E ≤ 255) : ∃ b : Byte, w.ownsRow base t 1 v n ((l ++ [b]).map bv8) :=
 ⟨BitVec.ofNat 8 E.toNat, by rw [List.map_append, List.map_cons, List.map_nil, byte_of_int h0 h1]; exact h⟩
theorem data_any (n : Nat) (x : Int) (w : World) (hn : n ≤ 1048576) (hx : -9223372036854775808 ≤ x ∧ x ≤ 9223372036854775807) :
  Calls Tryz.prog 36 #[.int .i64 n, .int .i64 x] w fun e w' => ∃ A c l, e = .returned (.slice A n c) ∧ l.length = n ∧ OB w.heap.size w' (.slice A n c) l ∧ Below w.heap.size w w' := by
 obtain ⟨i0, hi, hz0, hz1, hz2⟩ := info_parts infoB
 generalize hg : w.heap.size = g at *
 have hgw : g ≤ w.heap.size := by omega
 have HG := hid hg
 clear hg
 go_enter Tryz.func36, Tryz.ntmps36
 go_wp2_with fail
 go_loopw [5, 6] (fun v i wr => ∃ (j : Nat) (A : Option Addr) (c : Nat) (l : List Byte), j ≤ n ∧ i = .int .i64 j ∧ v = .slice A j c ∧ wr.ownsRow g 5 1 (.slice A j c) j (l.map bv8) ∧ Below g w wr) (fun _ i _ => n - (intOf i).toNat)
 case atStart => exact ⟨0, none, 0, [], by omega, rfl, rfl, World.ownsRow_nil _ _ _ _, Below.refl _ _⟩
 case round =>
  obtain ⟨j, A, c, l, hj, rfl, rfl, ho, hbw⟩ := hrel
  have hsw : g ≤ wr.heap.size := by have := hbw.size; omega
  by_cases hlt : j < n
  ·go_wp2_with (at_builtin; go_must (refine wpl_append rfl (.tmp 12) (.tmp 23) 33 rfl g 5 i0 (.int .u8 0) 1 1 Tryz.underlying33 hi hz0 hz1 hz2 rfl (by omega) (.slice A j c) j _ rfl (ho.alloc _) _ _ 1 1 _ rfl (Sl.fresh _ _ _ _ 1 rfl) (by simp [Value.oneCell']) (j + 1) (by omega) _ rfl (by omega) (by omega) (by simp; omega) ?_); intro A2 c2 w2 o2 g2 _)
   have b2 : Below g w w2 := below_own (hbw.alloc hsw _) (ho.alloc _) g2 (Nat.le_refl _) (by simp; omega)
   obtain ⟨b, o3⟩ := own_byte o2 (by omega) (by omega)
   go_roundw
   case rel => exact ⟨j + 1, A2, c2, l ++ [b], by omega, by go_num, rfl, o3, b2⟩
   case measure => simp [intOf]; omega
  ·have hjn : n = j := by omega
   subst hjn
   go_wp2_with fail
   go_ret
   have hl : l.length = n := by have := ho.1; simpa using this
   exact ⟨A, c, l, rfl, hl, by unfold OB; rw [hl]; exact ho, hbw⟩
end Go.Proofs.YtnknjeipfjdjoaaGreatDoor
