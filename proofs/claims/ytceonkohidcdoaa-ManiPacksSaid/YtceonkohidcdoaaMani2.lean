/- Name; rise; the tries of an entry. -/
import Derived.Test.YtceonkohidcdoaaMani1
import Derived.Deep.QuietTactic
import Derived.BigQuiet
namespace Go.Proofs.Ytceonkohidcdoaa
open Go.RowKit Wells
theorem name_any (l : List Byte) (b : Bool) (w : World) (hl : l.length ≤ 1048576) (hb : nameOk l = b) : Calls Try.prog 30 #[.string (strB l)] w fun e w' => e = .returned (.bool b) ∧ Below w.heap.size w w' := by
  have HB := hid hb
  have hsz := strB_size l
  have HG := hid (strB_get l)
  obtain ⟨s, hs⟩ : ∃ s, strB l = s := ⟨_, rfl⟩
  rw [hs] at hsz HG ⊢
  obtain ⟨n, hn⟩ : ∃ n, s.size = n := ⟨_, rfl⟩
  have HN := hid hn
  have HL := hid (show l.length = n by omega)
  have hn1 : n ≤ 1048576 := by omega
  have hsm : s.size ≤ 1048576 := by omega
  have hconv := run_bytes_of_string (P := Try.prog) w 9 36 5 s Try.underlying9 Try.underlying36 Try.underlying5
  obtain ⟨cap, hcap⟩ : ∃ c, grownCap w s.size 0 5 = c := ⟨_, rfl⟩
  rw [hcap] at hconv
  obtain ⟨w2, hw2⟩ : ∃ w2, w2 = w.drew.alloc (.cells (bytesRow s cap) 5 ((bytesRow s cap).size, (bytesRow s cap).size + 1)) := ⟨_, rfl⟩
  rw [← hw2] at hconv
  have hbl : Below w.heap.size w w2 := by rw [hw2]; exact ((Below.refl _ _).drew).alloc (Nat.le_refl _) _
  have hcell : ∀ k, k < s.size → w2.cell? ⟨w.heap.size, k, none⟩ = some (.int .u8 ((l.getD k 0).toNat : Int)) := fun k hk => by
    rw [hw2]
    rw [← HG.out k hk]
    have := World.cell?_alloc_mark w.drew (bytesRow s cap) 5 ((bytesRow s cap).size, (bytesRow s cap).size + 1) k
    refine this.trans ?_
    exact bytesRow_at s cap k hk
  have HCELL := hid hcell
  clear hb hs hsz hn hl hcap hw2 hcell
  go_enter Try.func30, Try.ntmps30
  go_wp2_with fail
  go_loop [8] (fun i => ∃ k : Nat, k ≤ s.size ∧ i = .int .i64 k ∧ Hid (∀ j, j < k → nameC (l.getD j 0) = true)) (fun i => s.size - (intOf i).toNat)
  case atStart => exact ⟨0, Nat.zero_le _, rfl, hid (fun j hj => absurd hj (by omega))⟩
  case round =>
    obtain ⟨k, hk, rfl, HK⟩ := hrel
    by_cases hlt : k < s.size
    · have hce := HCELL.out k hlt
      have hc255 := (l.getD k 0).isLt
      obtain ⟨x, hx⟩ : ∃ x : Nat, (l.getD k 0).toNat = x := ⟨_, rfl⟩
      have HX := hid hx
      rw [hx] at hce hc255
      clear hx
      by_cases hc : (97 ≤ x ∧ x ≤ 122) ∨ (48 ≤ x ∧ x ≤ 57) ∨ x = 45
      · have hcb : nameC (l.getD k 0) = true := by unfold nameC; rw [HX.out]; exact decide_eq_true hc
        have HCB := hid hcb
        clear hcb
        rcases hc with ⟨c1, c2⟩ | ⟨c1, c2⟩ | c1
        · have x1 : ¬ (x : Int) < 97 := by omega
          have x2 : ¬ 122 < (x : Int) := by omega
          go_wp2_with fail
          all_goals
            go_round
            case rel => exact ⟨k + 1, by omega, by go_num, hid (fun j hj => by
              rcases Nat.lt_or_ge j k with h | h
              · exact HK.out j h
              · obtain rfl : j = k := by omega
                exact HCB.out)⟩
            case measure => simp [intOf]; omega
        · have x1 : ¬ (x : Int) < 48 := by omega
          have x2 : ¬ 57 < (x : Int) := by omega
          have x3 : (x : Int) < 97 := by omega
          go_wp2_with fail
          all_goals
            go_round
            case rel => exact ⟨k + 1, by omega, by go_num, hid (fun j hj => by
              rcases Nat.lt_or_ge j k with h | h
              · exact HK.out j h
              · obtain rfl : j = k := by omega
                exact HCB.out)⟩
            case measure => simp [intOf]; omega
        · subst c1
          go_wp2_with fail
          all_goals
            go_round
            case rel => exact ⟨k + 1, by omega, by go_num, hid (fun j hj => by
              rcases Nat.lt_or_ge j k with h | h
              · exact HK.out j h
              · obtain rfl : j = k := by omega
                exact HCB.out)⟩
            case measure => simp [intOf]; omega
      · have hno : nameOk l = false := name_no (k := k) (by rw [HL.out]; have := HN.out; omega) (by unfold nameC; rw [HX.out]; exact decide_eq_false hc)
        have hb2 : b = false := by rw [← HB.out, hno]
        subst hb2
        have x1 : ((x : Int) != 45) = true := by simp; omega
        clear hno
        go_wp2_with fail
        all_goals first | (exfalso; omega) | (go_ret; exact ⟨rfl, hbl⟩)
    · have hkn : k = n := by have := HN.out; omega
      have hyes := name_yes (l := l) (fun j hj => HK.out j (by rw [HL.out] at hj; omega))
      have HY := hid hyes
      have hsn := HN.out
      clear hyes
      go_wp2_with fail
      all_goals (go_ret; exact ⟨ret_bool (by rw [← HB.out, HY.out, HL.out]; first | (refine decide_eq_decide.2 ?_; omega) | (refine (decide_eq_false ?_).symm; omega)), hbl⟩)
theorem ivs_get (l : List Int) (k : Nat) (h : k < l.length) : (l.map iv)[k]? = some (.int .i64 (l.getD k 0)) := by
  rw [List.getElem?_map, List.getElem?_eq_getElem h]; simp [h, iv]
theorem rise_any (B : Nat) (A : Option Addr) (l : List Int) (n c : Nat) (most : Int) (b : Bool) (w : World) (h : Sl w B 1 A n (l.map iv)) (hn : n ≤ 9223372036854775807) (hb : riseB l most = b) :
    Calls Try.prog 40 #[.slice A n c, .int .i64 most] w fun e w' => e = .returned (.bool b) ∧ ∃ d, w' = w.drewN d := by
  have HL := hid (show l.length = n by have := h.len; simpa using this)
  have HB := hid hb
  clear hb
  go_enter Try.func40, Try.ntmps40
  go_wp2_with fail
  go_loopw [9] (fun i wr => ∃ k d : Nat, k ≤ n ∧ i = .int .i64 k ∧ wr = w.drewN d ∧ Hid (∀ j, j < k → riseStep l most j = true)) (fun i _ => n - (intOf i).toNat)
  case atStart => exact ⟨0, 0, Nat.zero_le _, rfl, rfl, hid (fun j hj => absurd hj (by omega))⟩
  case round =>
    obtain ⟨k, d, hk, rfl, rfl, HK⟩ := hrel
    by_cases hlt : k < n
    · obtain ⟨bb, o, rfl, hbb, hce⟩ := h.get hlt (ivs_get l k (by rw [HL.out]; exact hlt))
      have hcp : 0 < k → w.cell? ⟨bb, o + (k - 1), none⟩ = some (.int .i64 (l.getD (k - 1) 0)) := fun h0 => by
        obtain ⟨b2, o2, e, _, h2⟩ := h.get (k := k - 1) (by omega) (ivs_get l (k - 1) (by rw [HL.out]; omega))
        injection e with e; injection e with e1 e2; subst e1 e2
        exact h2
      obtain ⟨x, hx⟩ : ∃ x, l.getD k 0 = x := ⟨_, rfl⟩
      obtain ⟨y, hy⟩ : ∃ y, l.getD (k - 1) 0 = y := ⟨_, rfl⟩
      have HX := hid hx
      have HY := hid hy
      rw [hx] at hce
      simp only [hy] at hcp
      clear hx hy
      have hst : riseStep l most k = (decide (0 ≤ x ∧ x ≤ most) && (decide (k = 0) || decide (y < x))) := by unfold riseStep; rw [HX.out, HY.out]
      have HST := hid hst
      clear hst
      cases hw1 : decide (0 ≤ x ∧ x ≤ most) with
      | false =>
        have hno : b = false := by rw [← HB.out]; exact all_range_false (k := k) (by rw [HL.out]; exact hlt) (by rw [HST.out, hw1, Bool.false_and])
        subst hno
        have HW1 := hid hw1
        clear hw1 hcp
        go_wp2_with fail
        refine (mwithin_any x 0 most false _ HW1.out).mono ?_
        rintro e w3 ⟨rfl, hw3⟩
        rw [← hw3]
        clear hw3 w3
        go_wp2_with fail
        go_ret
        exact ⟨rfl, _, rfl⟩
      | true =>
        have HW1 := hid hw1
        by_cases hk0 : k = 0
        · subst hk0
          have hs : riseStep l most 0 = true := by rw [HST.out, hw1]; rfl
          have HS := hid hs
          have hce0 : w.cell? ⟨bb, o, none⟩ = some (.int .i64 x) := hce
          clear hw1 hcp hs
          go_wp2_with fail
          refine (mwithin_any x 0 most true _ HW1.out).mono ?_
          rintro e w3 ⟨rfl, hw3⟩
          rw [← hw3]
          clear hw3 w3
          go_wp2_with fail
          go_roundw
          case rel => exact ⟨1, d, by omega, by first | rfl | go_num, rfl, hid (fun j hj => (show j = 0 by omega) ▸ HS.out)⟩
          case measure => simp [intOf]; omega
        · have hcp' := hcp (by omega)
          have hk1 : (0 : Int) < (k : Int) := by omega
          have hk1n : 0 < k := by omega
          have hkc : ((k : Int) - 1) = ((k - 1 : Nat) : Int) := by omega
          have hk2 : (0 : Int) ≤ (k : Int) - 1 := by omega
          have hk3 : (k : Int) - 1 < (n : Int) := by omega
          clear hcp hkc
          by_cases hyx : y < x
          · have hs : riseStep l most k = true := by rw [HST.out, hw1]; simp [hyx]
            have HS := hid hs
            clear hw1 hs
            go_wp2_with fail
            refine (mwithin_any x 0 most true _ HW1.out).mono ?_
            rintro e w3 ⟨rfl, hw3⟩
            rw [← hw3]
            clear hw3 w3
            go_wp2_with fail
            go_roundw
            case rel => exact ⟨k + 1, d, by omega, by go_num, rfl, hid (fun j hj => by
              rcases Nat.lt_or_ge j k with h | h
              · exact HK.out j h
              · obtain rfl : j = k := by omega
                exact HS.out)⟩
            case measure => simp [intOf]; omega
          · have hno : b = false := by rw [← HB.out]; exact all_range_false (k := k) (by rw [HL.out]; exact hlt) (by rw [HST.out, hw1]; simp [hyx, hk0])
            subst hno
            clear hw1
            go_wp2_with fail
            refine (mwithin_any x 0 most true _ HW1.out).mono ?_
            rintro e w3 ⟨rfl, hw3⟩
            rw [← hw3]
            clear hw3 w3
            go_wp2_with fail
            go_ret
            exact ⟨rfl, _, rfl⟩
    · obtain rfl : k = n := by omega
      have hyes : b = true := by rw [← HB.out]; exact all_range_true (fun j hj => HK.out j (by rw [HL.out] at hj; exact hj))
      subst hyes
      go_wp2_with fail
      go_ret
      exact ⟨rfl, _, rfl⟩
theorem try_any (x : Int) (b : Bool) (w : World) (hb : decide (0 ≤ x ∧ x ≤ 15) = b) : Calls Try.prog 56 #[.int .i64 x] w fun e w' => e = .returned (.bool (!b)) ∧ w = w' := by
  go_enter Try.func56, Try.ntmps56
  go_wp2_with fail
  refine (mwithin_any x 0 15 b _ hb).mono ?_
  rintro e w3 ⟨rfl, hw3⟩
  rw [← hw3]
  clear hw3 w3
  go_wp2_with fail
  go_ret
  exact ⟨rfl, rfl⟩
end Go.Proofs.Ytceonkohidcdoaa
