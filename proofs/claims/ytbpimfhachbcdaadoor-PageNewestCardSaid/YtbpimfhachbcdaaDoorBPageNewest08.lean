/- Trim -/
import Derived.BigGuardPart
import Derived.Test.YtbpimfhachbcdaaDoorBPageNewest06
set_option maxRecDepth 20000
set_option linter.unusedSimpArgs false
set_option linter.unusedVariables false
namespace Go.Proofs.YtbpimfhachbcdaaDoor
open Go.RowKit Wells
/-- what is left of the bytes from the right -/
def TrimR (w : World) (A : Option Addr) (n c : Nat) (l : List Byte) (e : Ending) (w' : World) : Prop :=
  ∃ k, k ≤ n ∧ e = .returned (.slice A k c) ∧ w = w' ∧ (0 < k → l.getD (k - 1) 0 ≠ 0#8) ∧ ∀ i, k ≤ i → i < n → l.getD i 0 = 0#8
theorem trimR_any (B : Nat) (A : Option Addr) (l : List Byte) (n c : Nat) (w : World) (h : Sl w B 1 A n (l.map bv8)) (hn : n ≤ c) (hc : c ≤ 9223372036854775807) :
    Calls Tryd.prog 81 #[.slice A n c, .int .u8 0] w (TrimR w A n c l) := by
  have HL := hid (show l.length = n by have := h.len; simpa using this)
  have H := hid h
  clear h
  go_enter Tryd.func81, Tryd.ntmps81
  go_wp2_with fail
  go_loopw [0] (fun v wr => ∃ k : Nat, k ≤ n ∧ v = .slice A k c ∧ wr = w ∧ Hid (∀ i, k ≤ i → i < n → l.getD i 0 = 0#8)) (fun v _ => (match v with | .slice _ k _ => k | _ => 0))
  case atStart => exact ⟨n, Nat.le_refl _, rfl, rfl, hid (fun i h1 h2 => absurd h1 (by omega))⟩
  case round =>
    obtain ⟨k, hk, rfl, rfl, HK⟩ := hrel
    by_cases hk0 : k = 0
    · subst hk0
      go_wp2_with fail
      go_ret
      exact ⟨0, Nat.zero_le _, rfl, rfl, fun h => absurd h (by omega), fun i h1 h2 => HK.out i h1 h2⟩
    · obtain ⟨k', rfl⟩ : ∃ k', k = k' + 1 := ⟨k - 1, by omega⟩
      obtain ⟨bb, o, rfl, hbb, hce⟩ := H.out.get (k := k') (by omega) (u8s_get l k' (by rw [HL.out]; omega))
      obtain ⟨x, hx⟩ : ∃ x, l.getD k' 0 = x := ⟨_, rfl⟩
      rw [hx] at hce
      have HX := hid hx
      unfold bv8 at hce
      have hj1 : ((k' + 1 : Nat) : Int) - 1 = (k' : Int) := by omega
      clear hx
      by_cases hx0 : x = 0#8
      · have hb : ((x.toNat : Int) == 0) = true := by rw [hx0]; rfl
        go_wp2_with fail
        go_roundw
        case rel => exact ⟨k', by omega, by go_num, by first | rfl | trivial, hid (fun i h1 h2 => by
          rcases Nat.lt_or_ge k' i with h9 | h9
          · exact HK.out i h9 h2
          · obtain rfl : i = k' := by omega
            rw [HX.out]; exact hx0)⟩
        case measure => simp
      · have hb : ((x.toNat : Int) == 0) = false := by
          have : x.toNat ≠ 0 := fun h9 => hx0 (BitVec.eq_of_toNat_eq (by simpa using h9))
          simp; omega
        go_wp2_with fail
        go_ret
        exact ⟨k' + 1, by omega, rfl, rfl, fun _ => by rw [Nat.add_sub_cancel, HX.out]; exact hx0, HK.out⟩
theorem trimR_is (k : Nat) (B : Nat) (A : Option Addr) (l : List Byte) (n c : Nat) (w : World) (h : Sl w B 1 A n (l.map bv8)) (hn : n ≤ c) (hc : c ≤ 9223372036854775807) (hk : k ≤ n) (h1 : 0 < k → l.getD (k - 1) 0 ≠ 0#8) (h2 : ∀ i, k ≤ i → i < n → l.getD i 0 = 0#8) :
    Calls Tryd.prog 81 #[.slice A n c, .int .u8 0] w fun e w' => e = .returned (.slice A k c) ∧ w' = w := by
  refine (trimR_any B A l n c w h hn hc).mono ?_
  rintro e w1 ⟨k', hk', rfl, rfl, h3, h4⟩
  obtain rfl : k = k' := by
    rcases Nat.lt_trichotomy k k' with h9 | h9 | h9
    · exact absurd (h2 (k' - 1) (by omega) (by omega)) (h3 (by omega))
    · exact h9
    · exact absurd (h4 (k - 1) (by omega) (by omega)) (h1 (by omega))
  exact ⟨rfl, rfl⟩
/-- what is left of the bytes from the left, the first j of n being nought -/
def trimLv (A : Option Addr) (n c j : Nat) : Value := if j = n then .slice none 0 0 else .slice (A.map (·.add j)) (n - j) (c - j)
theorem trimL_is (q : Nat) (v : Value) (B : Nat) (A : Option Addr) (l : List Byte) (n c : Nat) (w : World) (h : Sl w B 1 A n (l.map bv8)) (hn : n ≤ c) (hc : c ≤ 9223372036854775807)
    (hq : q ≤ n) (h1 : ∀ i, i < q → l.getD i 0 = 0#8) (h2 : q < n → l.getD q 0 ≠ 0#8) (hv : trimLv A n c q = v) :
    Calls Tryd.prog 80 #[.slice A n c, .int .u8 0] w fun e w' => e = .returned v ∧ w' = w := by
  have HL := hid (show l.length = n by have := h.len; simpa using this)
  have H := hid h
  have H1 := hid h1
  have H2 := hid h2
  have HV := hid hv
  clear h h1 h2 hv
  go_enter Tryd.func80, Tryd.ntmps80
  go_wp2_with fail
  go_loopw [0] (fun v wr => ∃ (j : Nat) (A1 : Option Addr), j ≤ q ∧ v = .slice A1 (n - j) (c - j) ∧ wr = w ∧ Hid (j < n → A1 = A.map (·.add j))) (fun v _ => (match v with | .slice _ k _ => k | _ => 0))
  case atStart => exact ⟨0, A, Nat.zero_le _, rfl, rfl, hid (fun h0 => by
    obtain ⟨b, o, e, _⟩ := H.out.at_ h0
    subst e
    rfl)⟩
  case round =>
    obtain ⟨j, A1, hj, rfl, rfl, HA⟩ := hrel
    by_cases hk0 : j = n
    · subst hk0
      obtain rfl : q = j := by omega
      rw [Nat.sub_self]
      go_wp2_with fail
      go_ret
      exact ⟨by rw [← HV.out]; unfold trimLv; rw [if_pos rfl]; rfl, rfl⟩
    · have hg0 := u8s_get l j (by rw [HL.out]; omega)
      obtain ⟨bb, o, rfl, hbb, hce⟩ := H.out.get (k := j) (by omega) hg0
      obtain rfl : A1 = some ⟨bb, o + j, none⟩ := by rw [HA.out (by omega)]; simp [addr_add]
      obtain ⟨x, hx⟩ : ∃ x, l.getD j 0 = x := ⟨_, rfl⟩
      rw [hx] at hce
      have HX := hid hx
      unfold bv8 at hce
      obtain ⟨n1, hn1⟩ : ∃ n1, n - j = n1 := ⟨_, rfl⟩
      obtain ⟨c1, hc1⟩ : ∃ c1, c - j = c1 := ⟨_, rfl⟩
      have HN1 := hid hn1
      have HC1 := hid hc1
      rw [hn1, hc1]
      have hp1 : 0 < n1 := by omega
      have hp2 : n1 ≤ c1 := by omega
      have hp3 : c1 ≤ 9223372036854775807 := by omega
      clear hx hg0 hn1 hc1
      by_cases hx0 : x = 0#8
      · have hb : ((x.toNat : Int) == 0) = true := by rw [hx0]; rfl
        have hjq : j < q := by
          rcases Nat.lt_or_ge j q with h9 | h9
          · exact h9
          · obtain rfl : j = q := by omega
            exact absurd (HX.out.trans hx0) (H2.out (by omega))
        go_wp2_with fail
        go_roundw
        case rel =>
          have e1 := HN1.out
          have e2 := HC1.out
          refine ⟨j + 1, _, by omega, by rw [show n - (j + 1) = n1 - 1 by omega, show c - (j + 1) = c1 - 1 by omega], by first | rfl | trivial, hid (fun h0 => ?_)⟩
          rw [if_neg (by omega)]
          simp [addr_add, Nat.add_assoc]
        case measure => simp; omega
      · have hb : ((x.toNat : Int) == 0) = false := by
          have : x.toNat ≠ 0 := fun h9 => hx0 (BitVec.eq_of_toNat_eq (by simpa using h9))
          simp; omega
        obtain rfl : j = q := by
          rcases Nat.lt_or_ge j q with h9 | h9
          · exact absurd (HX.out.symm.trans (H1.out j h9)) hx0
          · omega
        go_wp2_with fail
        go_ret
        exact ⟨by rw [← HV.out]; unfold trimLv; rw [if_neg hk0, HN1.out, HC1.out]; simp [addr_add], rfl⟩
theorem last_nonzero (l : List Byte) : ∀ n, ∃ k, k ≤ n ∧ (0 < k → l.getD (k - 1) 0 ≠ 0#8) ∧ ∀ i, k ≤ i → i < n → l.getD i 0 = 0#8
  | 0 => ⟨0, Nat.le_refl _, fun h => absurd h (by omega), fun i _ h => absurd h (by omega)⟩
  | n + 1 => by
    by_cases h0 : l.getD n 0 = 0#8
    · obtain ⟨k, h1, h2, h3⟩ := last_nonzero l n
      refine ⟨k, by omega, h2, fun i hi hi2 => ?_⟩
      rcases Nat.lt_or_ge i n with h9 | h9
      · exact h3 i hi h9
      · obtain rfl : i = n := by omega
        exact h0
    · exact ⟨n + 1, Nat.le_refl _, fun _ => h0, fun i h1 h2 => absurd h1 (by omega)⟩
theorem first_nonzero (l : List Byte) : ∀ n, ∃ q, q ≤ n ∧ (∀ i, i < q → l.getD i 0 = 0#8) ∧ (q < n → l.getD q 0 ≠ 0#8)
  | 0 => ⟨0, Nat.le_refl _, fun i h => absurd h (by omega), fun h => absurd h (by omega)⟩
  | n + 1 => by
    obtain ⟨q, h1, h2, h3⟩ := first_nonzero l n
    by_cases hq : q < n
    · exact ⟨q, by omega, h2, fun _ => h3 hq⟩
    · obtain rfl : q = n := by omega
      by_cases h0 : l.getD q 0 = 0#8
      · refine ⟨q + 1, Nat.le_refl _, fun i hi => ?_, fun h => absurd h (by omega)⟩
        rcases Nat.lt_or_ge i q with h9 | h9
        · exact h2 i h9
        · obtain rfl : i = q := by omega
          exact h0
      · exact ⟨q, by omega, h2, fun _ => h0⟩
set_option maxRecDepth 20000 in
theorem trim_any (B : Nat) (A : Option Addr) (l : List Byte) (n c : Nat) (w : World) (h : Sl w B 1 A n (l.map bv8)) (hn : n ≤ c) (hc : c ≤ 9223372036854775807) :
    Calls Tryd.prog 58 #[.slice A n c, .string { data := #[0] }] w fun e w' => ∃ A' n' c', e = .returned (.slice A' n' c') ∧ (∃ d, w' = w.drewN d) ∧ n' ≤ 9223372036854775807 ∧ (n' = 0 ↔ ∀ i, i < l.length → l.getD i 0 = 0#8) := by
  have HL := hid (show l.length = n by have := h.len; simpa using this)
  by_cases h0 : n = 0
  · subst h0
    clear h
    go_enter Tryd.func58, Tryd.ntmps58
    go_wp2_with fail
    go_ret
    exact ⟨_, _, _, rfl, ⟨0, rfl⟩, by omega, by simp; intro i hi; exact absurd hi (by rw [HL.out]; omega)⟩
  · obtain ⟨k, hk, hk1, hk2⟩ := last_nonzero l n
    obtain ⟨q, hq, hq1, hq2⟩ := first_nonzero l k
    have ht := h.take hk
    rw [Nat.mul_one, ← List.map_take] at ht
    have HT := hid ht
    have H := hid h
    have hgt : ∀ i, i < k → (l.take k).getD i 0 = l.getD i 0 := fun i hi => by
      rw [List.getD_eq_getElem?_getD, List.getD_eq_getElem?_getD, List.getElem?_take_of_lt hi]
    obtain ⟨v, hv⟩ : ∃ v, trimLv A k c q = v := ⟨_, rfl⟩
    have HV := hid hv
    have C1 := hid (fun w' => fun (h9 : Sl w' B 1 A n (l.map bv8)) => trimR_is k B A l n c w' h9 hn hc hk hk1 hk2)
    have C2 := hid (fun w' => fun (h9 : Sl w' B 1 A k ((l.take k).map bv8)) => trimL_is q v B A (l.take k) k c w' h9 (by omega) hc hq (fun i hi => (hgt i (by omega)).trans (hq1 i hi)) (fun h9 => by rw [hgt q h9]; exact hq2 h9) hv)
    have HZ : Hid ((k - q = 0) ↔ ∀ i, i < l.length → l.getD i 0 = 0#8) := hid ⟨fun h9 i hi => by
      rw [HL.out] at hi
      rcases Nat.lt_or_ge i k with h8 | h8
      · exact hq1 i (by omega)
      · exact hk2 i h8 hi, fun h9 => by
      rcases Nat.lt_or_ge q k with h8 | h8
      · exact absurd (h9 q (by rw [HL.out]; omega)) (hq2 h8)
      · omega⟩
    clear h ht hk1 hk2 hq1 hq2 hgt hv
    go_enter Tryd.func58, Tryd.ntmps58
    go_wp2_with fail
    go_quiet (first
      | (go_at_call 81; exact Calls.quiet_of_same (C1.out _ (H.out.drewN _)))
      | (go_at_call 80; exact Calls.quiet_of_same (C2.out _ (HT.out.drewN _))))
    go_wp2_with fail
    go_ret
    have hv := HV.out
    unfold trimLv at hv
    by_cases h9 : q = k
    · rw [if_pos h9] at hv
      subst hv
      exact ⟨none, 0, 0, rfl, ⟨_, rfl⟩, by omega, by rw [← HZ.out]; omega⟩
    · rw [if_neg h9] at hv
      subst hv
      exact ⟨_, k - q, _, rfl, ⟨_, rfl⟩, by omega, HZ.out⟩
end Go.Proofs.YtbpimfhachbcdaaDoor

