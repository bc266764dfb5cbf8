/- Names; seeds; numbers from a least one to a greatest one. -/
import Derived.Test.YtceonkohidcdoaaManiMath
import Derived.Test.YtceonkohidcdoaaLists
import Derived.BigGuardPart
import Derived.Laws.IdiomStrings
namespace Wells
open Go Go.RowKit
theorem nameOk_len {l : List Byte} (h : nameOk l = true) : 1 ≤ l.length ∧ l.length ≤ 12 := by
  unfold nameOk at h
  simp only [Bool.and_eq_true, decide_eq_true_eq] at h
  exact h.2
/-- a block's seed -/
def seedL (o b t : Int) : BitVec 32 := BitVec.ofInt 32 (128 * o + 16 * b + t)
theorem seed_val (o b t : Int) : ((seedL o b t).toNat : Int) = (128 * o + 16 * b + t) % 4294967296 := by
  unfold seedL
  rw [BitVec.toNat_ofInt]
  omega
end Wells
namespace Go.Proofs.Ytceonkohidcdoaa
open Go.RowKit Wells
theorem mwithin_any (n least most : Int) (b : Bool) (w : World) (hb : decide (least ≤ n ∧ n ≤ most) = b) : Calls Try.prog 38 #[.int .i64 n, .int .i64 least, .int .i64 most] w fun e w' => e = .returned (.bool b) ∧ w = w' := by
  have HB := hid hb
  clear hb
  go_enter Try.func38, Try.ntmps38
  go_wp2_with fail
  all_goals (go_ret; exact ⟨ret_bool (by rw [← HB.out]; first | (refine decide_eq_decide.2 ?_; omega) | (refine (decide_eq_false ?_).symm; omega)), rfl⟩)
theorem mseed_any (o b t : Int) (w : World) : Calls Try.prog 32 #[.int .i64 o, .int .i64 b, .int .i64 t] w fun e w' => e = .returned (.int .u32 ((seedL o b t).toNat : Int)) ∧ w = w' := by
  have hs := hid (seed_val o b t)
  go_enter Try.func32, Try.ntmps32
  go_wp2_with fail
  go_ret
  refine ⟨ret_int ?_, rfl⟩
  rw [hs.out]
  omega
theorem refseed_any (o b t : Int) (w : World) : Calls Try.prog 33 #[.int .i64 o, .int .i64 b, .int .i64 t] w fun e w' => e = .returned (.int .u32 ((seedL o b t).toNat : Int)) ∧ w = w' := by
  have hs := hid (seed_val o b t)
  go_enter Try.func33, Try.ntmps33
  go_wp2_with fail
  go_ret
  refine ⟨ret_int ?_, rfl⟩
  rw [hs.out]
  omega
theorem name_no {l : List Byte} {k : Nat} (hk : k < l.length) (h : nameC (l.getD k 0) = false) : nameOk l = false := by
  unfold nameOk
  have : l.all nameC = false := by
    rw [List.all_eq_false]
    exact ⟨l.getD k 0, by rw [List.getD_eq_getElem?_getD, List.getElem?_eq_getElem hk]; exact List.getElem_mem _, by rw [h]; simp⟩
  rw [this, Bool.false_and]
theorem name_yes {l : List Byte} (h : ∀ k, k < l.length → nameC (l.getD k 0) = true) : nameOk l = decide (1 ≤ l.length ∧ l.length ≤ 12) := by
  unfold nameOk
  have : l.all nameC = true := by
    rw [List.all_eq_true]
    intro c hc
    obtain ⟨k, hk, rfl⟩ := List.getElem_of_mem hc
    have := h k hk
    rwa [List.getD_eq_getElem?_getD, List.getElem?_eq_getElem hk] at this
  rw [this, Bool.true_and]
theorem refname_any (l : List Byte) (b : Bool) (w : World) (hl : l.length ≤ 1048576) (hb : nameOk l = b) : Calls Try.prog 31 #[.string (strB l)] w fun e w' => e = .returned (.bool b) ∧ w = w' := by
  have HB := hid hb
  have hsz := strB_size l
  have HG := hid (strB_get l)
  obtain ⟨s, hs⟩ : ∃ s, strB l = s := ⟨_, rfl⟩
  rw [hs] at hsz HG ⊢
  obtain ⟨n, hn⟩ : ∃ n, s.size = n := ⟨_, rfl⟩
  have HN := hid hn
  have HL := hid (show l.length = n by omega)
  have hn1 : n ≤ 1048576 := by omega
  have hsm : s.size ≤ 1048576 := by omega
  clear hb hs hsz hn hl
  go_enter Try.func31, Try.ntmps31
  go_wp2_with fail
  go_loop [3] (fun i => ∃ k : Nat, k ≤ s.size ∧ i = .int .i64 k ∧ Hid (∀ j, j < k → nameC (l.getD j 0) = true)) (fun i => s.size - (intOf i).toNat)
  case atStart => exact ⟨0, Nat.zero_le _, rfl, hid (fun j hj => absurd hj (by omega))⟩
  case round =>
    obtain ⟨k, hk, rfl, HK⟩ := hrel
    by_cases hlt : k < s.size
    · have hg := HG.out k hlt
      have hc255 := (l.getD k 0).isLt
      obtain ⟨x, hx⟩ : ∃ x : Nat, (l.getD k 0).toNat = x := ⟨_, rfl⟩
      have HX := hid hx
      rw [hx] at hg hc255
      have HG' := hid hg
      have e2 : ((s[k]'hlt).toNat : Int) = (x : Int) := hg
      clear hx hg
      by_cases hc : (97 ≤ x ∧ x ≤ 122) ∨ (48 ≤ x ∧ x ≤ 57) ∨ x = 45
      · have hcb : nameC (l.getD k 0) = true := by unfold nameC; rw [HX.out]; exact decide_eq_true hc
        have HCB := hid hcb
        clear hcb
        rcases hc with ⟨c1, c2⟩ | ⟨c1, c2⟩ | c1
        · have x1 : (97 : Int) ≤ (x : Int) := by omega
          have x2 : (x : Int) ≤ 122 := by omega
          go_wp2_with fail
          all_goals
            go_round
            case rel => exact ⟨k + 1, by omega, by go_num, hid (fun j hj => by
              rcases Nat.lt_or_ge j k with h | h
              · exact HK.out j h
              · obtain rfl : j = k := by omega
                exact HCB.out)⟩
            case measure => simp [intOf]; omega
        · have x1 : (48 : Int) ≤ (x : Int) := by omega
          have x2 : (x : Int) ≤ 57 := by omega
          have x3 : ¬ (97 : Int) ≤ (x : Int) := by omega
          go_wp2_with fail
          all_goals
            go_round
            case rel => exact ⟨k + 1, by omega, by go_num, hid (fun j hj => by
              rcases Nat.lt_or_ge j k with h | h
              · exact HK.out j h
              · obtain rfl : j = k := by omega
                exact HCB.out)⟩
            case measure => simp [intOf]; omega
        · subst c1
          go_wp2_with fail
          all_goals
            go_round
            case rel => exact ⟨k + 1, by omega, by go_num, hid (fun j hj => by
              rcases Nat.lt_or_ge j k with h | h
              · exact HK.out j h
              · obtain rfl : j = k := by omega
                exact HCB.out)⟩
            case measure => simp [intOf]; omega
      · have hno : nameOk l = false := name_no (k := k) (by rw [HL.out]; have := HN.out; omega) (by unfold nameC; rw [HX.out]; exact decide_eq_false hc)
        have hb2 : b = false := by rw [← HB.out, hno]
        subst hb2
        have x0 : x ≠ 45 := by omega
        have x1 : ((x : Int) == 45) = false := by simp; omega
        clear hno
        go_wp2_with fail
        all_goals first | (exfalso; omega) | (go_ret; exact ⟨rfl, rfl⟩)
    · have hkn : k = n := by have := HN.out; omega
      have hyes := name_yes (l := l) (fun j hj => HK.out j (by rw [HL.out] at hj; omega))
      have HY := hid hyes
      have hsn := HN.out
      clear hyes
      go_wp2_with fail
      all_goals (go_ret; exact ⟨ret_bool (by rw [← HB.out, HY.out, HL.out]; first | (refine decide_eq_decide.2 ?_; omega) | (refine (decide_eq_false ?_).symm; omega)), rfl⟩)
end Go.Proofs.Ytceonkohidcdoaa
