/- Alike -/
import Derived.Test.YtnknjeipfjdjoaaGreatDoorBScanKept04
import Derived.Test.YtnknjeipfjdjoaaGreatDoorBScanKept07
set_option maxRecDepth 20000
set_option linter.unusedSimpArgs false
set_option linter.unusedVariables false
namespace Go.Proofs.YtnknjeipfjdjoaaGreatDoor
open Go.RowKit Wells
theorem take_eq_stepL (l l' : List (List Byte)) (k : Nat) (h : k < l.length) (h' : k < l'.length) (ht : l.take k = l'.take k) (hx : l.getD k [] = l'.getD k []) : l.take (k + 1) = l'.take (k + 1) := by
 rw [List.take_succ_eq_append_getElem h, List.take_succ_eq_append_getElem h', ht]
 simp [h, h'] at hx
 rw [hx]
theorem rows_is (r : Bool) (B : Nat) (A A' : Option Addr) (vs vs' : List Value) (ls ls' : List (List Byte)) (n n' c c' : Nat) (w : World) (h : RBs w B A n vs ls) (h' : RBs w B A' n' vs' ls') (hn : n ≤ 9223372036854775807) (hn' : n' ≤ 9223372036854775807) (hr : decide (ls = ls') = r) :
  Calls Tryz.prog 18 #[.slice A n c, .slice A' n' c'] w fun e w' => e = .returned (.bool r) ∧ ∃ d, w' = w.drewN d := by
 have HR := hid hr
 have HL := hid h.len
 have HL' := hid h'.len
 clear hr
 by_cases hlen : n = n'
 ·subst hlen
  have hb : ((n : Int) != (n : Int)) = false := by simp
  go_enter Tryz.func18, Tryz.ntmps18
  go_wp2
  go_loopw [13] (fun i wr => ∃ k : Nat, k ≤ n ∧ i = .int .i64 k ∧ Hid (ls.take k = ls'.take k) ∧ Hid (∃ d, wr = w.drewN d)) (fun i _ => n - (intOf i).toNat)
  case atStart => exact ⟨0, Nat.zero_le _, rfl, rfl, 0, rfl⟩
  case round =>
   obtain ⟨k, hk, rfl, ht, hd⟩ := hrel
   have hbw : Below B w wr := by
    obtain ⟨d, e⟩ := hd.out
    rw [e]; exact below_drewN (Below.refl B w) d
   by_cases hlt : k < n
   ·have hlt' : (k : Int) < (n : Int) := by omega
    have hk0 : (0 : Int) ≤ (k : Int) := by omega
    obtain ⟨b, o, A1, c1, rfl, hb, hc, hl1, hc1, s1⟩ := (h.below hbw).get hlt
    obtain ⟨b', o', A2, c2, rfl, hb', hc', hl2, hc2, s2⟩ := (h'.below hbw).get hlt
    have HT := hid (take_eq_stepL ls ls' k (by rw [HL.out]; exact hlt) (by rw [HL'.out]; exact hlt) ht.out)
    generalize hx : ls.getD k [] = x at *
    generalize hy : ls'.getD k [] = y at *
    have HX := hid hx
    have HY := hid hy
    clear hx hy
    generalize x.length = lx at *
    generalize y.length = ly at *
    by_cases hxy : x = y
    ·subst hxy
     go_wp2
     go_quiet ((go_at_call 58; exact Calls.quiet_of (same_is true B _ _ _ _ _ _ _ _ _ (s1.drewN _) (s2.drewN _) (by omega) (by omega) (decide_eq_true rfl))))
     go_wp2
     go_roundw
     case rel => exact ⟨k + 1, by omega, by go_num, HT.out (by first | trivial | rfl), by obtain ⟨d, e⟩ := hd.out; exact ⟨d + nq, by rw [e, World.drewN_drewN]⟩⟩
     case measure => simp [intOf]; omega
    ·have hne : decide (ls = ls') = false := by
      simp; rintro rfl
      exact hxy (HX.out.symm.trans HY.out)
     have HN := hid (hne.symm.trans HR.out)
     clear hne
     go_wp2
     go_quiet ((go_at_call 58; exact Calls.quiet_of (same_is false B _ _ _ _ _ _ _ _ _ (s1.drewN _) (s2.drewN _) (by omega) (by omega) (decide_eq_false hxy))))
     go_wp2
     go_ret
     exact ⟨ret_bool HN.out, by obtain ⟨d, e⟩ := hd.out; exact ⟨d + nq, by rw [e, World.drewN_drewN]⟩⟩
   ·have he : decide (ls = ls') = true := by
     have h1 := ht.out
     rw [List.take_of_length_le (by rw [HL.out]; omega), List.take_of_length_le (by rw [HL'.out]; omega)] at h1
     simpa using h1
    have HE := hid (he.symm.trans HR.out)
    clear he
    go_wp2
    go_ret
    exact ⟨ret_bool HE.out, hd.out⟩
 ·have hb : ((n : Int) != (n' : Int)) = true := by simp; omega
  have hne : decide (ls = ls') = false := by
   simp; rintro rfl; exact hlen (HL.out.symm.trans HL'.out)
  have HN := hid hne
  clear hne
  go_enter Tryz.func18, Tryz.ntmps18
  go_wp2
  go_ret
  exact ⟨ret_bool (HN.out.symm.trans HR.out), 0, rfl⟩
end Go.Proofs.YtnknjeipfjdjoaaGreatDoor
