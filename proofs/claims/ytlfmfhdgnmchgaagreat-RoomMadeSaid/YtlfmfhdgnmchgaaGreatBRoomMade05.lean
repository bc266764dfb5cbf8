/- Mani1 Mani2 Rec -/
import Derived.BigGuardPart
import Derived.Laws.IdiomStrings
import Derived.Deep.QuietTactic
import Derived.BigQuiet
import Derived.Test.YtlfmfhdgnmchgaaGreatBRoomMade01
import Derived.Test.YtlfmfhdgnmchgaaGreatBRoomMade02
set_option maxRecDepth 20000
set_option linter.unusedSimpArgs false
set_option linter.unusedVariables false
namespace Wells
open Go Go.RowKit
/-- a block's seed -/
def seedL (o b t : Int) : BitVec 32 := BitVec.ofInt 32 (128 * o + 16 * b + t)
theorem seed_val (o b t : Int) : ((seedL o b t).toNat : Int) = (128 * o + 16 * b + t) % 4294967296 := by
  unfold seedL
  rw [BitVec.toNat_ofInt]
  omega
end Wells
namespace Go.Proofs.YtlfmfhdgnmchgaaGreat
open Go.RowKit Wells
theorem mwithin_any (n least most : Int) (b : Bool) (w : World) (hb : decide (least ≤ n ∧ n ≤ most) = b) : Calls Tryz.prog 90 #[.int .i64 n, .int .i64 least, .int .i64 most] w fun e w' => e = .returned (.bool b) ∧ w = w' := by
  have HB := hid hb
  clear hb
  go_enter Tryz.func90, Tryz.ntmps90
  go_wp2_with fail
  all_goals (go_ret; exact ⟨ret_bool (by rw [← HB.out]; first | (refine decide_eq_decide.2 ?_; omega) | (refine (decide_eq_false ?_).symm; omega)), rfl⟩)
theorem mseed_any (o b t : Int) (w : World) : Calls Tryz.prog 86 #[.int .i64 o, .int .i64 b, .int .i64 t] w fun e w' => e = .returned (.int .u32 ((seedL o b t).toNat : Int)) ∧ w = w' := by
  have hs := hid (seed_val o b t)
  go_enter Tryz.func86, Tryz.ntmps86
  go_wp2_with fail
  go_ret
  refine ⟨ret_int ?_, rfl⟩
  rw [hs.out]
  omega
theorem refseed_any (o b t : Int) (w : World) : Calls Tryz.prog 77 #[.int .i64 o, .int .i64 b, .int .i64 t] w fun e w' => e = .returned (.int .u32 ((seedL o b t).toNat : Int)) ∧ w = w' := by
  have hs := hid (seed_val o b t)
  go_enter Tryz.func77, Tryz.ntmps77
  go_wp2_with fail
  go_ret
  refine ⟨ret_int ?_, rfl⟩
  rw [hs.out]
  omega
theorem name_no {l : List Byte} {k : Nat} (hk : k < l.length) (h : nameC (l.getD k 0) = false) : nameOk l = false := by
  unfold nameOk
  have : l.all nameC = false := by
    rw [List.all_eq_false]
    exact ⟨l.getD k 0, by rw [List.getD_eq_getElem?_getD, List.getElem?_eq_getElem hk]; exact List.getElem_mem _, by rw [h]; simp⟩
  rw [this, Bool.false_and]
theorem name_yes {l : List Byte} (h : ∀ k, k < l.length → nameC (l.getD k 0) = true) : nameOk l = decide (1 ≤ l.length ∧ l.length ≤ 12) := by
  unfold nameOk
  have : l.all nameC = true := by
    rw [List.all_eq_true]
    intro c hc
    obtain ⟨k, hk, rfl⟩ := List.getElem_of_mem hc
    have := h k hk
    rwa [List.getD_eq_getElem?_getD, List.getElem?_eq_getElem hk] at this
  rw [this, Bool.true_and]
theorem refname_any (l : List Byte) (b : Bool) (w : World) (hl : l.length ≤ 1048576) (hb : nameOk l = b) : Calls Tryz.prog 114 #[.string (strB l)] w fun e w' => e = .returned (.bool b) ∧ w = w' := by
  have HB := hid hb
  have hsz := strB_size l
  have HG := hid (strB_get l)
  obtain ⟨s, hs⟩ : ∃ s, strB l = s := ⟨_, rfl⟩
  rw [hs] at hsz HG ⊢
  obtain ⟨n, hn⟩ : ∃ n, s.size = n := ⟨_, rfl⟩
  have HN := hid hn
  have HL := hid (show l.length = n by omega)
  have hn1 : n ≤ 1048576 := by omega
  have hsm : s.size ≤ 1048576 := by omega
  clear hb hs hsz hn hl
  go_enter Tryz.func114, Tryz.ntmps114
  go_wp2_with fail
  go_loop [3] (fun i => ∃ k : Nat, k ≤ s.size ∧ i = .int .i64 k ∧ Hid (∀ j, j < k → nameC (l.getD j 0) = true)) (fun i => s.size - (intOf i).toNat)
  case atStart => exact ⟨0, Nat.zero_le _, rfl, hid (fun j hj => absurd hj (by omega))⟩
  case round =>
    obtain ⟨k, hk, rfl, HK⟩ := hrel
    by_cases hlt : k < s.size
    · have hg := HG.out k hlt
      have hc255 := (l.getD k 0).isLt
      obtain ⟨x, hx⟩ : ∃ x : Nat, (l.getD k 0).toNat = x := ⟨_, rfl⟩
      have HX := hid hx
      rw [hx] at hg hc255
      have HG' := hid hg
      have e2 : ((s[k]'hlt).toNat : Int) = (x : Int) := hg
      clear hx hg
      by_cases hc : (97 ≤ x ∧ x ≤ 122) ∨ (48 ≤ x ∧ x ≤ 57) ∨ x = 45
      · have hcb : nameC (l.getD k 0) = true := by unfold nameC; rw [HX.out]; exact decide_eq_true hc
        have HCB := hid hcb
        clear hcb
        rcases hc with ⟨c1, c2⟩ | ⟨c1, c2⟩ | c1
        · have x1 : (97 : Int) ≤ (x : Int) := by omega
          have x2 : (x : Int) ≤ 122 := by omega
          go_wp2_with fail
          all_goals
            go_round
            case rel => exact ⟨k + 1, by omega, by go_num, hid (fun j hj => by
              rcases Nat.lt_or_ge j k with h | h
              · exact HK.out j h
              · obtain rfl : j = k := by omega
                exact HCB.out)⟩
            case measure => simp [intOf]; omega
        · have x1 : (48 : Int) ≤ (x : Int) := by omega
          have x2 : (x : Int) ≤ 57 := by omega
          have x3 : ¬ (97 : Int) ≤ (x : Int) := by omega
          go_wp2_with fail
          all_goals
            go_round
            case rel => exact ⟨k + 1, by omega, by go_num, hid (fun j hj => by
              rcases Nat.lt_or_ge j k with h | h
              · exact HK.out j h
              · obtain rfl : j = k := by omega
                exact HCB.out)⟩
            case measure => simp [intOf]; omega
        · subst c1
          go_wp2_with fail
          all_goals
            go_round
            case rel => exact ⟨k + 1, by omega, by go_num, hid (fun j hj => by
              rcases Nat.lt_or_ge j k with h | h
              · exact HK.out j h
              · obtain rfl : j = k := by omega
                exact HCB.out)⟩
            case measure => simp [intOf]; omega
      · have hno : nameOk l = false := name_no (k := k) (by rw [HL.out]; have := HN.out; omega) (by unfold nameC; rw [HX.out]; exact decide_eq_false hc)
        have hb2 : b = false := by rw [← HB.out, hno]
        subst hb2
        have x0 : x ≠ 45 := by omega
        have x1 : ((x : Int) == 45) = false := by simp; omega
        clear hno
        go_wp2_with fail
        all_goals first | (exfalso; omega) | (go_ret; exact ⟨rfl, rfl⟩)
    · have hkn : k = n := by have := HN.out; omega
      have hyes := name_yes (l := l) (fun j hj => HK.out j (by rw [HL.out] at hj; omega))
      have HY := hid hyes
      have hsn := HN.out
      clear hyes
      go_wp2_with fail
      all_goals (go_ret; exact ⟨ret_bool (by rw [← HB.out, HY.out, HL.out]; first | (refine decide_eq_decide.2 ?_; omega) | (refine (decide_eq_false ?_).symm; omega)), rfl⟩)
end Go.Proofs.YtlfmfhdgnmchgaaGreat

namespace Go.Proofs.YtlfmfhdgnmchgaaGreat
open Go.RowKit Wells
theorem name_any (l : List Byte) (b : Bool) (w : World) (hl : l.length ≤ 1048576) (hb : nameOk l = b) : Calls Tryz.prog 107 #[.string (strB l)] w fun e w' => e = .returned (.bool b) ∧ Below w.heap.size w w' := by
  have HB := hid hb
  have hsz := strB_size l
  have HG := hid (strB_get l)
  obtain ⟨s, hs⟩ : ∃ s, strB l = s := ⟨_, rfl⟩
  rw [hs] at hsz HG ⊢
  obtain ⟨n, hn⟩ : ∃ n, s.size = n := ⟨_, rfl⟩
  have HN := hid hn
  have HL := hid (show l.length = n by omega)
  have hn1 : n ≤ 1048576 := by omega
  have hsm : s.size ≤ 1048576 := by omega
  have hconv := run_bytes_of_string (P := Tryz.prog) w 9 58 5 s Tryz.underlying9 Tryz.underlying58 Tryz.underlying5
  obtain ⟨cap, hcap⟩ : ∃ c, grownCap w s.size 0 5 = c := ⟨_, rfl⟩
  rw [hcap] at hconv
  obtain ⟨w2, hw2⟩ : ∃ w2, w2 = w.drew.alloc (.cells (bytesRow s cap) 5 ((bytesRow s cap).size, (bytesRow s cap).size + 1)) := ⟨_, rfl⟩
  rw [← hw2] at hconv
  have hbl : Below w.heap.size w w2 := by rw [hw2]; exact ((Below.refl _ _).drew).alloc (Nat.le_refl _) _
  have hcell : ∀ k, k < s.size → w2.cell? ⟨w.heap.size, k, none⟩ = some (.int .u8 ((l.getD k 0).toNat : Int)) := fun k hk => by
    rw [hw2]
    rw [← HG.out k hk]
    have := World.cell?_alloc_mark w.drew (bytesRow s cap) 5 ((bytesRow s cap).size, (bytesRow s cap).size + 1) k
    refine this.trans ?_
    exact bytesRow_at s cap k hk
  have HCELL := hid hcell
  clear hb hs hsz hn hl hcap hw2 hcell
  go_enter Tryz.func107, Tryz.ntmps107
  go_wp2_with fail
  go_loop [8] (fun i => ∃ k : Nat, k ≤ s.size ∧ i = .int .i64 k ∧ Hid (∀ j, j < k → nameC (l.getD j 0) = true)) (fun i => s.size - (intOf i).toNat)
  case atStart => exact ⟨0, Nat.zero_le _, rfl, hid (fun j hj => absurd hj (by omega))⟩
  case round =>
    obtain ⟨k, hk, rfl, HK⟩ := hrel
    by_cases hlt : k < s.size
    · have hce := HCELL.out k hlt
      have hc255 := (l.getD k 0).isLt
      obtain ⟨x, hx⟩ : ∃ x : Nat, (l.getD k 0).toNat = x := ⟨_, rfl⟩
      have HX := hid hx
      rw [hx] at hce hc255
      clear hx
      by_cases hc : (97 ≤ x ∧ x ≤ 122) ∨ (48 ≤ x ∧ x ≤ 57) ∨ x = 45
      · have hcb : nameC (l.getD k 0) = true := by unfold nameC; rw [HX.out]; exact decide_eq_true hc
        have HCB := hid hcb
        clear hcb
        rcases hc with ⟨c1, c2⟩ | ⟨c1, c2⟩ | c1
        · have x1 : ¬ (x : Int) < 97 := by omega
          have x2 : ¬ 122 < (x : Int) := by omega
          go_wp2_with fail
          all_goals
            go_round
            case rel => exact ⟨k + 1, by omega, by go_num, hid (fun j hj => by
              rcases Nat.lt_or_ge j k with h | h
              · exact HK.out j h
              · obtain rfl : j = k := by omega
                exact HCB.out)⟩
            case measure => simp [intOf]; omega
        · have x1 : ¬ (x : Int) < 48 := by omega
          have x2 : ¬ 57 < (x : Int) := by omega
          have x3 : (x : Int) < 97 := by omega
          go_wp2_with fail
          all_goals
            go_round
            case rel => exact ⟨k + 1, by omega, by go_num, hid (fun j hj => by
              rcases Nat.lt_or_ge j k with h | h
              · exact HK.out j h
              · obtain rfl : j = k := by omega
                exact HCB.out)⟩
            case measure => simp [intOf]; omega
        · subst c1
          go_wp2_with fail
          all_goals
            go_round
            case rel => exact ⟨k + 1, by omega, by go_num, hid (fun j hj => by
              rcases Nat.lt_or_ge j k with h | h
              · exact HK.out j h
              · obtain rfl : j = k := by omega
                exact HCB.out)⟩
            case measure => simp [intOf]; omega
      · have hno : nameOk l = false := name_no (k := k) (by rw [HL.out]; have := HN.out; omega) (by unfold nameC; rw [HX.out]; exact decide_eq_false hc)
        have hb2 : b = false := by rw [← HB.out, hno]
        subst hb2
        have x1 : ((x : Int) != 45) = true := by simp; omega
        clear hno
        go_wp2_with fail
        all_goals first | (exfalso; omega) | (go_ret; exact ⟨rfl, hbl⟩)
    · have hkn : k = n := by have := HN.out; omega
      have hyes := name_yes (l := l) (fun j hj => HK.out j (by rw [HL.out] at hj; omega))
      have HY := hid hyes
      have hsn := HN.out
      clear hyes
      go_wp2_with fail
      all_goals (go_ret; exact ⟨ret_bool (by rw [← HB.out, HY.out, HL.out]; first | (refine decide_eq_decide.2 ?_; omega) | (refine (decide_eq_false ?_).symm; omega)), hbl⟩)
theorem ivs_get (l : List Int) (k : Nat) (h : k < l.length) : (l.map iv)[k]? = some (.int .i64 (l.getD k 0)) := by
  rw [List.getElem?_map, List.getElem?_eq_getElem h]; simp [h, iv]
theorem rise_any (B : Nat) (A : Option Addr) (l : List Int) (n c : Nat) (most : Int) (b : Bool) (w : World) (h : Sl w B 1 A n (l.map iv)) (hn : n ≤ 9223372036854775807) (hb : riseB l most = b) :
    Calls Tryz.prog 91 #[.slice A n c, .int .i64 most] w fun e w' => e = .returned (.bool b) ∧ ∃ d, w' = w.drewN d := by
  have HL := hid (show l.length = n by have := h.len; simpa using this)
  have HB := hid hb
  clear hb
  go_enter Tryz.func91, Tryz.ntmps91
  go_wp2_with fail
  go_loopw [9] (fun i wr => ∃ k d : Nat, k ≤ n ∧ i = .int .i64 k ∧ wr = w.drewN d ∧ Hid (∀ j, j < k → riseStep l most j = true)) (fun i _ => n - (intOf i).toNat)
  case atStart => exact ⟨0, 0, Nat.zero_le _, rfl, rfl, hid (fun j hj => absurd hj (by omega))⟩
  case round =>
    obtain ⟨k, d, hk, rfl, rfl, HK⟩ := hrel
    by_cases hlt : k < n
    · obtain ⟨bb, o, rfl, hbb, hce⟩ := h.get hlt (ivs_get l k (by rw [HL.out]; exact hlt))
      have hcp : 0 < k → w.cell? ⟨bb, o + (k - 1), none⟩ = some (.int .i64 (l.getD (k - 1) 0)) := fun h0 => by
        obtain ⟨b2, o2, e, _, h2⟩ := h.get (k := k - 1) (by omega) (ivs_get l (k - 1) (by rw [HL.out]; omega))
        injection e with e; injection e with e1 e2; subst e1 e2
        exact h2
      obtain ⟨x, hx⟩ : ∃ x, l.getD k 0 = x := ⟨_, rfl⟩
      obtain ⟨y, hy⟩ : ∃ y, l.getD (k - 1) 0 = y := ⟨_, rfl⟩
      have HX := hid hx
      have HY := hid hy
      rw [hx] at hce
      simp only [hy] at hcp
      clear hx hy
      have hst : riseStep l most k = (decide (0 ≤ x ∧ x ≤ most) && (decide (k = 0) || decide (y < x))) := by unfold riseStep; rw [HX.out, HY.out]
      have HST := hid hst
      clear hst
      cases hw1 : decide (0 ≤ x ∧ x ≤ most) with
      | false =>
        have hno : b = false := by rw [← HB.out]; exact all_range_false (k := k) (by rw [HL.out]; exact hlt) (by rw [HST.out, hw1, Bool.false_and])
        subst hno
        have HW1 := hid hw1
        clear hw1 hcp
        go_wp2_with fail
        refine (mwithin_any x 0 most false _ HW1.out).mono ?_
        rintro e w3 ⟨rfl, hw3⟩
        rw [← hw3]
        clear hw3 w3
        go_wp2_with fail
        go_ret
        exact ⟨rfl, _, rfl⟩
      | true =>
        have HW1 := hid hw1
        by_cases hk0 : k = 0
        · subst hk0
          have hs : riseStep l most 0 = true := by rw [HST.out, hw1]; rfl
          have HS := hid hs
          have hce0 : w.cell? ⟨bb, o, none⟩ = some (.int .i64 x) := hce
          clear hw1 hcp hs
          go_wp2_with fail
          refine (mwithin_any x 0 most true _ HW1.out).mono ?_
          rintro e w3 ⟨rfl, hw3⟩
          rw [← hw3]
          clear hw3 w3
          go_wp2_with fail
          go_roundw
          case rel => exact ⟨1, d, by omega, by first | rfl | go_num, rfl, hid (fun j hj => (show j = 0 by omega) ▸ HS.out)⟩
          case measure => simp [intOf]; omega
        · have hcp' := hcp (by omega)
          have hk1 : (0 : Int) < (k : Int) := by omega
          have hk1n : 0 < k := by omega
          have hkc : ((k : Int) - 1) = ((k - 1 : Nat) : Int) := by omega
          have hk2 : (0 : Int) ≤ (k : Int) - 1 := by omega
          have hk3 : (k : Int) - 1 < (n : Int) := by omega
          clear hcp hkc
          by_cases hyx : y < x
          · have hs : riseStep l most k = true := by rw [HST.out, hw1]; simp [hyx]
            have HS := hid hs
            clear hw1 hs
            go_wp2_with fail
            refine (mwithin_any x 0 most true _ HW1.out).mono ?_
            rintro e w3 ⟨rfl, hw3⟩
            rw [← hw3]
            clear hw3 w3
            go_wp2_with fail
            go_roundw
            case rel => exact ⟨k + 1, d, by omega, by go_num, rfl, hid (fun j hj => by
              rcases Nat.lt_or_ge j k with h | h
              · exact HK.out j h
              · obtain rfl : j = k := by omega
                exact HS.out)⟩
            case measure => simp [intOf]; omega
          · have hno : b = false := by rw [← HB.out]; exact all_range_false (k := k) (by rw [HL.out]; exact hlt) (by rw [HST.out, hw1]; simp [hyx, hk0])
            subst hno
            clear hw1
            go_wp2_with fail
            refine (mwithin_any x 0 most true _ HW1.out).mono ?_
            rintro e w3 ⟨rfl, hw3⟩
            rw [← hw3]
            clear hw3 w3
            go_wp2_with fail
            go_ret
            exact ⟨rfl, _, rfl⟩
    · obtain rfl : k = n := by omega
      have hyes : b = true := by rw [← HB.out]; exact all_range_true (fun j hj => HK.out j (by rw [HL.out] at hj; exact hj))
      subst hyes
      go_wp2_with fail
      go_ret
      exact ⟨rfl, _, rfl⟩
theorem try_any (x : Int) (b : Bool) (w : World) (hb : decide (0 ≤ x ∧ x ≤ 15) = b) : Calls Tryz.prog 109 #[.int .i64 x] w fun e w' => e = .returned (.bool (!b)) ∧ w = w' := by
  go_enter Tryz.func109, Tryz.ntmps109
  go_wp2_with fail
  refine (mwithin_any x 0 15 b _ hb).mono ?_
  rintro e w3 ⟨rfl, hw3⟩
  rw [← hw3]
  clear hw3 w3
  go_wp2_with fail
  go_ret
  exact ⟨rfl, rfl⟩
end Go.Proofs.YtlfmfhdgnmchgaaGreat

namespace Go.Proofs.YtlfmfhdgnmchgaaGreat
open Go.RowKit Wells
theorem mayid_any (x : Int) (r : Bool) (w : World) (hr : decide (0 ≤ x ∧ x ≤ 65535) = r) : Calls Tryz.prog 100 #[.int .i64 x] w fun e w' => e = .returned (.bool r) ∧ w' = w := by
  have HR := hid hr
  clear hr
  go_enter Tryz.func100, Tryz.ntmps100
  go_wp2_with fail
  all_goals (go_ret; exact ⟨ret_bool (by rw [← HR.out]; first | (refine decide_eq_decide.2 ?_; omega) | (refine (decide_eq_false ?_).symm; omega)), rfl⟩)
theorem int_beq (a b : Int) : (a == b) = decide (a = b) := by
  by_cases h : a = b
  · subst h; simp
  · simp [h]
theorem recmay_any (r : Rec) (A : Option Addr) (n c : Nat) (b : Bool) (w : World) (hn : r.D.length = n) (hb : r.may = b) : Calls Tryz.prog 83 #[r.val (.slice A n c)] w fun e w' => e = .returned (.bool b) ∧ Below w.heap.size w w' := by
  obtain ⟨O, B, I, ⟨K, H, S⟩, s, D⟩ := r
  unfold Rec.val
  have HB := hid hb
  unfold Rec.may at HB
  dsimp only at *
  have HN := hid hn
  have hbi := s.isLt
  clear hn hb
  go_enter Tryz.func83, Tryz.ntmps83
  go_wp2_with fail
  all_goals try (go_ret; exact ⟨ret_bool (by rw [← HB.out]; refine (decide_eq_false ?_).symm; omega), (Below.refl _ _).alloc (Nat.le_refl _) _⟩)
  obtain ⟨pm, hpm⟩ : ∃ b, Par.may ⟨K, H, S⟩ = b := ⟨_, rfl⟩
  have HPM := hid hpm
  have hr0 := Row.new w 75 #[.int .i64 O, .int .i64 B, .int .i64 I, .int .i64 K, .int .i64 H, .int .i64 S, .int .u32 (s.toNat : Int), .slice A n c]
  have hb0 : Below w.heap.size w (w.alloc (.cells #[.int .i64 O, .int .i64 B, .int .i64 I, .int .i64 K, .int .i64 H, .int .i64 S, .int .u32 (s.toNat : Int), .slice A n c] 75)) := (Below.refl _ _).alloc (Nat.le_refl _) _
  have hlt := hr0.lt
  generalize w.alloc (.cells #[.int .i64 O, .int .i64 B, .int .i64 I, .int .i64 K, .int .i64 H, .int .i64 S, .int .u32 (s.toNat : Int), .slice A n c] 75) = w1 at *
  refine (premay_any ⟨K, H, S⟩ pm w1 hpm).mono ?_
  rintro e w2 ⟨rfl, hb2⟩
  have hr2 := hr0.below hb2 hlt
  have hc5 := hr2.cell 5
  have hc7 := hr2.cell 7
  have bt := hb0.trans (hb2.mono (by omega))
  simp only [List.getElem?_cons_succ, List.getElem?_cons_zero] at hc5 hc7
  clear hpm hr0 hr2 hb2 hb0
  cases pm
  · go_wp2_with fail
    go_ret
    exact ⟨ret_bool (by rw [← HB.out]; refine (decide_eq_false fun h => ?_).symm; have := HPM.out; simp [this] at h), bt⟩
  · go_wp2_with fail
    go_ret
    exact ⟨ret_bool (by rw [← HB.out, HPM.out, HN.out, int_beq]; refine decide_eq_decide.2 ⟨fun h => ⟨by omega, by omega, by omega, by omega, by omega, by omega, rfl, h⟩, fun h => h.2.2.2.2.2.2.2⟩), bt⟩
theorem refrecmay_any (r : Rec) (A : Option Addr) (n c : Nat) (b : Bool) (w : World) (hn : r.D.length = n) (hb : r.may = b) : Calls Tryz.prog 76 #[r.val (.slice A n c)] w fun e w' => e = .returned (.bool b) ∧ Below w.heap.size w w' := by
  obtain ⟨O, B, I, ⟨K, H, S⟩, s, D⟩ := r
  unfold Rec.val
  have HB := hid hb
  unfold Rec.may at HB
  dsimp only at *
  have HN := hid hn
  have hbi := s.isLt
  clear hn hb
  go_enter Tryz.func76, Tryz.ntmps76
  go_wp2_with fail
  all_goals try (go_ret; exact ⟨ret_bool (by rw [← HB.out]; refine (decide_eq_false ?_).symm; omega), (Below.refl _ _).alloc (Nat.le_refl _) _⟩)
  refine (mayid_any I _ _ rfl).mono ?_
  rintro e w1 ⟨rfl, rfl⟩
  by_cases hI : 0 ≤ I ∧ I ≤ 65535
  rotate_left
  · rw [decide_eq_false hI]
    go_wp2_with fail
    go_ret
    exact ⟨ret_bool (by rw [← HB.out]; refine (decide_eq_false ?_).symm; omega), (Below.refl _ _).alloc (Nat.le_refl _) _⟩
  rw [decide_eq_true hI]
  go_wp2_with fail
  obtain ⟨pm, hpm⟩ : ∃ b, Par.may ⟨K, H, S⟩ = b := ⟨_, rfl⟩
  have HPM := hid hpm
  have hr0 := Row.new w 75 #[.int .i64 O, .int .i64 B, .int .i64 I, .int .i64 K, .int .i64 H, .int .i64 S, .int .u32 (s.toNat : Int), .slice A n c]
  have hb0 : Below w.heap.size w (w.alloc (.cells #[.int .i64 O, .int .i64 B, .int .i64 I, .int .i64 K, .int .i64 H, .int .i64 S, .int .u32 (s.toNat : Int), .slice A n c] 75)) := (Below.refl _ _).alloc (Nat.le_refl _) _
  have hlt := hr0.lt
  generalize w.alloc (.cells #[.int .i64 O, .int .i64 B, .int .i64 I, .int .i64 K, .int .i64 H, .int .i64 S, .int .u32 (s.toNat : Int), .slice A n c] 75) = w1 at *
  refine (refmay_any ⟨K, H, S⟩ pm w1 hpm).mono ?_
  rintro e w2 ⟨rfl, hb2⟩
  have hr2 := hr0.below hb2 hlt
  have hc5 := hr2.cell 5
  have hc7 := hr2.cell 7
  have bt := hb0.trans (hb2.mono (by omega))
  simp only [List.getElem?_cons_succ, List.getElem?_cons_zero] at hc5 hc7
  clear hpm hr0 hr2 hb2 hb0
  cases pm
  · go_wp2_with fail
    go_ret
    exact ⟨ret_bool (by rw [← HB.out]; refine (decide_eq_false fun h => ?_).symm; have := HPM.out; simp [this] at h), bt⟩
  · go_wp2_with fail
    go_ret
    exact ⟨ret_bool (by rw [← HB.out, HPM.out, HN.out, int_beq]; refine decide_eq_decide.2 ⟨fun h => ⟨by omega, by omega, by omega, by omega, by omega, by omega, rfl, h⟩, fun h => h.2.2.2.2.2.2.2⟩), bt⟩
end Go.Proofs.YtlfmfhdgnmchgaaGreat

