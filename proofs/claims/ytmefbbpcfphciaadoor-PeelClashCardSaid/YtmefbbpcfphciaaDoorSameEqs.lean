/- Are rows alike? Are flags alike? Do numbers rise? -/
import Derived.Test.YtmefbbpcfphciaaDoorKeep
import Derived.Test.YtmefbbpcfphciaaDoorKeepI
import Derived.Test.YtmefbbpcfphciaaDoorAlike
import Derived.Test.YtmefbbpcfphciaaDoorEqs
import Derived.Test.YtmefbbpcfphciaaDoorPeelA
namespace Go.Proofs.YtmefbbpcfphciaaDoor
open Go.RowKit Wells
theorem bools_get (l : List Bool) (k : Nat) (h : k < l.length) : (l.map Value.bool)[k]? = some (.bool (l.getD k false)) := by
  rw [List.getElem?_map, List.getElem?_eq_getElem h]; simp [h]
theorem take_eq_stepB (l l' : List Bool) (k : Nat) (h : k < l.length) (h' : k < l'.length) (ht : l.take k = l'.take k) (hx : l.getD k false = l'.getD k false) :  l.take (k + 1) = l'.take (k + 1) := by
  rw [List.take_succ_eq_append_getElem h, List.take_succ_eq_append_getElem h', ht]
  simp [h, h'] at hx
  rw [hx]
theorem take_eq_stepE (l l' : List Eqn) (k : Nat) (h : k < l.length) (h' : k < l'.length) (ht : l.take k = l'.take k) (hx : l.getD k default = l'.getD k default) :  l.take (k + 1) = l'.take (k + 1) := by
  rw [List.take_succ_eq_append_getElem h, List.take_succ_eq_append_getElem h', ht]
  simp [h, h'] at hx
  rw [hx]
theorem sameB_is (r : Bool) (B : Nat) (A A' : Option Addr) (l l' : List Bool) (n n' c c' : Nat) (w : World) (h : Sl w B 1 A n (l.map Value.bool)) (h' : Sl w B 1 A' n' (l'.map Value.bool)) (hnl : n ≤ 9223372036854775807) (hn'l : n' ≤ 9223372036854775807) (hr : decide (l = l') = r) :
    Calls Tryd.prog 19 #[.slice A n c, .slice A' n' c'] w fun e w' => e = .returned (.bool r) ∧ ∃ d, w' = w.drewN d := by
  have HR := hid hr
  clear hr
  have HL := hid (show l.length = n by have := h.len; simpa using this)
  have HL' := hid (show l'.length = n' by have := h'.len; simpa using this)
  by_cases hlen : n = n'
  · subst hlen
    have hb : ((n : Int) != (n : Int)) = false := by simp
    go_enter Tryd.func19, Tryd.ntmps19
    go_wp2
    go_loopw [13] (fun i wr => ∃ k d : Nat, k ≤ n ∧ i = .int .i64 k ∧ Hid (l.take k = l'.take k) ∧ wr = w.drewN d) (fun i _ => n - (intOf i).toNat)
    case atStart => exact ⟨0, 0, Nat.zero_le _, rfl, rfl, rfl⟩
    case round =>
      obtain ⟨k, d, hk, rfl, ht, rfl⟩ := hrel
      by_cases hlt : k < n
      · have hlt' : (k : Int) < (n : Int) := by omega
        have hk0 : (0 : Int) ≤ (k : Int) := by omega
        obtain ⟨b, o, e1, hb1, hc⟩ := h.get hlt (bools_get l k (by rw [HL.out]; exact hlt))
        obtain ⟨b', o', e2, hb2, hc'⟩ := h'.get hlt (bools_get l' k (by rw [HL'.out]; exact hlt))
        subst e1 e2
        have HT := hid (take_eq_stepB l l' k (by rw [HL.out]; exact hlt) (by rw [HL'.out]; exact hlt) ht.out)
        generalize hx : l.getD k false = x at *
        generalize hy : l'.getD k false = y at *
        have HX := hid hx
        have HY := hid hy
        clear hx hy
        by_cases hxy : x = y
        · subst hxy
          have hne : (x != x) = false := by simp
          go_wp2
          go_quiet (fail)
          go_wp2
          go_roundw
          case rel => exact ⟨k + 1, _, by omega, by go_num, HT.out (by first | trivial | rfl), by first | rfl | exact World.drewN_drewN _ _ _⟩
          case measure => simp [intOf]; omega
        · have hne : (x == y) = false := by simp [hxy]
          have hf : decide (l = l') = false := by
            simp; rintro rfl
            exact hxy (HX.out.symm.trans HY.out)
          have HN := hid (hf.symm.trans HR.out)
          clear hf
          go_wp2
          go_quiet (fail)
          go_wp2
          go_ret
          exact ⟨ret_bool HN.out, _, by first | rfl | exact World.drewN_drewN _ _ _⟩
      · have he : decide (l = l') = true := by
          have h1 := ht.out
          rw [List.take_of_length_le (by rw [HL.out]; omega), List.take_of_length_le (by rw [HL'.out]; omega)] at h1
          simpa using h1
        have HE := hid (he.symm.trans HR.out)
        clear he
        go_wp2
        go_ret
        exact ⟨ret_bool HE.out, _, rfl⟩
  · have hb : ((n : Int) != (n' : Int)) = true := by simp; omega
    have hne : decide (l = l') = false := by
      simp; rintro rfl; exact hlen (HL.out.symm.trans HL'.out)
    have HN := hid (hne.symm.trans HR.out)
    clear hne
    go_enter Tryd.func19, Tryd.ntmps19
    go_wp2
    go_ret
    exact ⟨ret_bool HN.out, 0, rfl⟩
/-- numbers that rise -/
theorem rises_yes (B : Nat) (A : Option Addr) (l : List Int) (n c : Nat) (w : World) (h : Sl w B 1 A n (l.map iv)) (hn : n ≤ 1048576) (hl : ∀ j, 0 < j → j < n → l.getD (j - 1) 0 < l.getD j 0) :
    Calls Tryd.prog 18 #[.slice A n c] w fun e w' => e = .returned (.bool true) ∧ ∃ d, w' = w.drewN d := by
  have HL := hid (show l.length = n by have := h.len; simpa using this)
  have H := hid h
  have HLT := hid hl
  clear h hl
  go_enter Tryd.func18, Tryd.ntmps18
  go_wp2_with fail
  go_loopw [3] (fun i wr => ∃ k d : Nat, i = .int .i64 ((k : Int) + 1) ∧ k ≤ n ∧ wr = w.drewN d) (fun i _ => n - (intOf i).toNat)
  case atStart => exact ⟨0, 0, rfl, Nat.zero_le _, rfl⟩
  case round =>
    obtain ⟨k, d, rfl, hk, rfl⟩ := hrel
    by_cases hlt : k + 1 < n
    · obtain ⟨b, o, e1, hb1, hc⟩ := H.out.get hlt (ints_get l (k + 1) (by rw [HL.out]; exact hlt))
      obtain ⟨b', o', e2, hb2, hc'⟩ := H.out.get (k := k) (by omega) (ints_get l k (by rw [HL.out]; omega))
      subst e1
      injection e2 with e2
      injection e2 with e3 e4
      subst e3 e4
      have hxy := HLT.out (k + 1) (by omega) hlt
      rw [Nat.add_sub_cancel] at hxy
      obtain ⟨x, hx⟩ : ∃ x, l.getD (k + 1) 0 = x := ⟨_, rfl⟩
      obtain ⟨y, hy⟩ : ∃ y, l.getD k 0 = y := ⟨_, rfl⟩
      rw [hx] at hc hxy
      rw [hy] at hc' hxy
      have hle : decide (x ≤ y) = false := by simpa using hxy
      have h1 : (0 : Int) ≤ (k : Int) + 1 := by omega
      have h2 : (k : Int) + 1 < (n : Int) := by omega
      have h3 : ((k : Int) + 1).toNat = k + 1 := by omega
      have h4 : (k : Int) + 1 - 1 = (k : Int) := by omega
      have h5 : (k : Int) < (n : Int) := by omega
      have h6 : (0 : Int) ≤ (k : Int) := by omega
      have h7 : IntKind.i64.wrap ((k : Int) + 1 - 1) = (k : Int) := by rw [IntKind.wrap_i64]; omega
      clear hx hy
      go_wp2_with fail
      go_quiet (fail)
      go_wp2_with fail
      go_roundw
      case rel => exact ⟨k + 1, _, by congr 1, by omega, by first | rfl | exact World.drewN_drewN _ _ _⟩
      case measure => simp [intOf]; omega
    · have h2 : ¬ (k : Int) + 1 < (n : Int) := by omega
      go_wp2_with fail
      go_ret
      exact ⟨rfl, _, rfl⟩
set_option maxHeartbeats 1000000 in
theorem sameE_is (r : Bool) (B : Nat) (A A' : Option Addr) (ps ps' : List (Value × Value)) (l l' : List Eqn) (n n' c c' : Nat) (w : World) (h : REqs w B A n ps l) (h' : REqs w B A' n' ps' l') (hn : n ≤ 9223372036854775807) (hn' : n' ≤ 9223372036854775807) (hr : decide (l = l') = r) :
    Calls Tryd.prog 16 #[.slice A n c, .slice A' n' c'] w fun e w' => e = .returned (.bool r) ∧ ∃ d, w' = w.drewN d := by
  have HR := hid hr
  have HL := hid h.len
  have HL' := hid h'.len
  clear hr
  by_cases hlen : n = n'
  · subst hlen
    have hb : ((n : Int) != (n : Int)) = false := by simp
    go_enter Tryd.func16, Tryd.ntmps16
    go_wp2
    go_loopw [13] (fun i wr => ∃ k : Nat, k ≤ n ∧ i = .int .i64 k ∧ Hid (l.take k = l'.take k) ∧ Hid (∃ d, wr = w.drewN d)) (fun i _ => n - (intOf i).toNat)
    case atStart => exact ⟨0, Nat.zero_le _, rfl, rfl, 0, rfl⟩
    case round =>
      obtain ⟨k, hk, rfl, ht, hd⟩ := hrel
      have hbw : Below B w wr := by
        obtain ⟨d, e⟩ := hd.out
        rw [e]; exact below_drewN (Below.refl B w) d
      by_cases hlt : k < n
      · have hlt' : (k : Int) < (n : Int) := by omega
        have hk0 : (0 : Int) ≤ (k : Int) := by omega
        obtain ⟨b, o, A1, c1, A2, c2, e1, hb1, x0, x1, h1, h2, h3, h4, h5, h6⟩ := (h.below hbw).get hlt
        obtain ⟨b', o', A1', c1', A2', c2', e2, hb2, y0, y1, h1', h2', h3', h4', h5', h6'⟩ := (h'.below hbw).get hlt
        subst e1 e2
        have HT := hid (take_eq_stepE l l' k (by rw [HL.out]; exact hlt) (by rw [HL'.out]; exact hlt) ht.out)
        generalize hx : l.getD k default = x at *
        generalize hy : l'.getD k default = y at *
        have HX := hid hx
        have HY := hid hy
        clear hx hy
        obtain ⟨q1, q2⟩ := x
        obtain ⟨p1, p2⟩ := y
        simp only at x0 x1 h1 h3 h4 h6 y0 y1 h1' h3' h4' h6'
        generalize q1.length = lq1 at *
        generalize q2.length = lq2 at *
        generalize p1.length = lp1 at *
        generalize p2.length = lp2 at *
        by_cases hc : q1 = p1
        · subst hc
          have C1 := hid (fun (w' : World) (s : Sl w' B 1 A1 lq1 (q1.map iv)) (s' : Sl w' B 1 A1' lp1 (q1.map iv)) => sameI_is true B A1 A1' q1 q1 lq1 lp1 c1 c1' w' s s' (by omega) (by omega) (decide_eq_true rfl))
          have H3 := hid h3
          have H6 := hid h6
          have H3' := hid h3'
          have H6' := hid h6'
          clear h3 h6 h3' h6'
          by_cases hdq : q2 = p2
          · subst hdq
            have C2 := hid (fun (w' : World) (s : Sl w' B 1 A2 lq2 (q2.map bv8)) (s' : Sl w' B 1 A2' lp2 (q2.map bv8)) => same_is true B A2 A2' q2 q2 lq2 lp2 c2 c2' w' s s' (by omega) (by omega) (decide_eq_true rfl))
            go_wp2_with fail
            go_quiet (first
              | (go_at_call 29; exact Calls.quiet_of (C1.out _ (H3.out.drewN _) (H3'.out.drewN _)))
              | (go_at_call 17; exact Calls.quiet_of (C2.out _ (H6.out.drewN _) (H6'.out.drewN _))))
            go_wp2_with fail
            go_roundw
            case rel => exact ⟨k + 1, by omega, by go_num, HT.out (by first | trivial | rfl), by obtain ⟨d, e⟩ := hd.out; exact ⟨d + nq, by rw [e, World.drewN_drewN]⟩⟩
            case measure => simp [intOf]; omega
          · have C2 := hid (fun (w' : World) (s : Sl w' B 1 A2 lq2 (q2.map bv8)) (s' : Sl w' B 1 A2' lp2 (p2.map bv8)) => same_is false B A2 A2' q2 p2 lq2 lp2 c2 c2' w' s s' (by omega) (by omega) (decide_eq_false hdq))
            have hne : decide (l = l') = false := by
              simp; rintro rfl
              have := HX.out.symm.trans HY.out
              injection this with _ h9
              exact hdq h9
            have HN := hid (hne.symm.trans HR.out)
            clear hne
            go_wp2_with fail
            go_quiet (first
              | (go_at_call 29; exact Calls.quiet_of (C1.out _ (H3.out.drewN _) (H3'.out.drewN _)))
              | (go_at_call 17; exact Calls.quiet_of (C2.out _ (H6.out.drewN _) (H6'.out.drewN _))))
            go_wp2_with fail
            go_ret
            exact ⟨ret_bool HN.out, by obtain ⟨d, e⟩ := hd.out; exact ⟨d + nq, by rw [e, World.drewN_drewN]⟩⟩
        · have C1 := hid (fun (w' : World) (s : Sl w' B 1 A1 lq1 (q1.map iv)) (s' : Sl w' B 1 A1' lp1 (p1.map iv)) => sameI_is false B A1 A1' q1 p1 lq1 lp1 c1 c1' w' s s' (by omega) (by omega) (decide_eq_false hc))
          have hne : decide (l = l') = false := by
            simp; rintro rfl
            have := HX.out.symm.trans HY.out
            injection this with h9 _
            exact hc h9
          have HN := hid (hne.symm.trans HR.out)
          have H3 := hid h3
          have H3' := hid h3'
          clear hne h3 h6 h3' h6'
          go_wp2_with fail
          go_quiet ((go_at_call 29; exact Calls.quiet_of (C1.out _ (H3.out.drewN _) (H3'.out.drewN _))))
          go_wp2_with fail
          go_ret
          exact ⟨ret_bool HN.out, by obtain ⟨d, e⟩ := hd.out; exact ⟨d + nq, by rw [e, World.drewN_drewN]⟩⟩
      · have he : decide (l = l') = true := by
          have h1 := ht.out
          rw [List.take_of_length_le (by rw [HL.out]; omega), List.take_of_length_le (by rw [HL'.out]; omega)] at h1
          simpa using h1
        have HE := hid (he.symm.trans HR.out)
        clear he
        go_wp2
        go_ret
        exact ⟨ret_bool HE.out, hd.out⟩
  · have hb : ((n : Int) != (n' : Int)) = true := by simp; omega
    have hne : decide (l = l') = false := by
      simp; rintro rfl; exact hlen (HL.out.symm.trans HL'.out)
    have HN := hid (hne.symm.trans HR.out)
    clear hne
    go_enter Tryd.func16, Tryd.ntmps16
    go_wp2
    go_ret
    exact ⟨ret_bool HN.out, 0, rfl⟩
end Go.Proofs.YtmefbbpcfphciaaDoor
