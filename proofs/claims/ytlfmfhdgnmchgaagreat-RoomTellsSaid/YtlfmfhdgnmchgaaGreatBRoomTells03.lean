/- Mani1 Mani2 Rec Appd -/
import Derived.BigGuardPart
import Derived.Laws.IdiomStrings
import Derived.Deep.QuietTactic
import Derived.BigQuiet
import Derived.Test.YtlfmfhdgnmchgaaGreatBRoomTells00
import Derived.Test.YtlfmfhdgnmchgaaGreatBRoomTells02
set_option maxRecDepth 20000
set_option linter.unusedSimpArgs false
set_option linter.unusedVariables false
namespace Wells
open Go Go.RowKit
/-- a block's seed -/
def seedL (o b t : Int) : BitVec 32 := BitVec.ofInt 32 (128 * o + 16 * b + t)
theorem seed_val (o b t : Int) : ((seedL o b t).toNat : Int) = (128 * o + 16 * b + t) % 4294967296 := by
  unfold seedL
  rw [BitVec.toNat_ofInt]
  omega
end Wells
namespace Go.Proofs.YtlfmfhdgnmchgaaGreat
open Go.RowKit Wells
theorem mwithin_any (n least most : Int) (b : Bool) (w : World) (hb : decide (least ≤ n ∧ n ≤ most) = b) : Calls Tryz.prog 90 #[.int .i64 n, .int .i64 least, .int .i64 most] w fun e w' => e = .returned (.bool b) ∧ w = w' := by
  have HB := hid hb
  clear hb
  go_enter Tryz.func90, Tryz.ntmps90
  go_wp2_with fail
  all_goals (go_ret; exact ⟨ret_bool (by rw [← HB.out]; first | (refine decide_eq_decide.2 ?_; omega) | (refine (decide_eq_false ?_).symm; omega)), rfl⟩)
theorem mseed_any (o b t : Int) (w : World) : Calls Tryz.prog 86 #[.int .i64 o, .int .i64 b, .int .i64 t] w fun e w' => e = .returned (.int .u32 ((seedL o b t).toNat : Int)) ∧ w = w' := by
  have hs := hid (seed_val o b t)
  go_enter Tryz.func86, Tryz.ntmps86
  go_wp2_with fail
  go_ret
  refine ⟨ret_int ?_, rfl⟩
  rw [hs.out]
  omega
theorem refseed_any (o b t : Int) (w : World) : Calls Tryz.prog 77 #[.int .i64 o, .int .i64 b, .int .i64 t] w fun e w' => e = .returned (.int .u32 ((seedL o b t).toNat : Int)) ∧ w = w' := by
  have hs := hid (seed_val o b t)
  go_enter Tryz.func77, Tryz.ntmps77
  go_wp2_with fail
  go_ret
  refine ⟨ret_int ?_, rfl⟩
  rw [hs.out]
  omega
theorem name_no {l : List Byte} {k : Nat} (hk : k < l.length) (h : nameC (l.getD k 0) = false) : nameOk l = false := by
  unfold nameOk
  have : l.all nameC = false := by
    rw [List.all_eq_false]
    exact ⟨l.getD k 0, by rw [List.getD_eq_getElem?_getD, List.getElem?_eq_getElem hk]; exact List.getElem_mem _, by rw [h]; simp⟩
  rw [this, Bool.false_and]
theorem name_yes {l : List Byte} (h : ∀ k, k < l.length → nameC (l.getD k 0) = true) : nameOk l = decide (1 ≤ l.length ∧ l.length ≤ 12) := by
  unfold nameOk
  have : l.all nameC = true := by
    rw [List.all_eq_true]
    intro c hc
    obtain ⟨k, hk, rfl⟩ := List.getElem_of_mem hc
    have := h k hk
    rwa [List.getD_eq_getElem?_getD, List.getElem?_eq_getElem hk] at this
  rw [this, Bool.true_and]
theorem refname_any (l : List Byte) (b : Bool) (w : World) (hl : l.length ≤ 1048576) (hb : nameOk l = b) : Calls Tryz.prog 114 #[.string (strB l)] w fun e w' => e = .returned (.bool b) ∧ w = w' := by
  have HB := hid hb
  have hsz := strB_size l
  have HG := hid (strB_get l)
  obtain ⟨s, hs⟩ : ∃ s, strB l = s := ⟨_, rfl⟩
  rw [hs] at hsz HG ⊢
  obtain ⟨n, hn⟩ : ∃ n, s.size = n := ⟨_, rfl⟩
  have HN := hid hn
  have HL := hid (show l.length = n by omega)
  have hn1 : n ≤ 1048576 := by omega
  have hsm : s.size ≤ 1048576 := by omega
  clear hb hs hsz hn hl
  go_enter Tryz.func114, Tryz.ntmps114
  go_wp2_with fail
  go_loop [3] (fun i => ∃ k : Nat, k ≤ s.size ∧ i = .int .i64 k ∧ Hid (∀ j, j < k → nameC (l.getD j 0) = true)) (fun i => s.size - (intOf i).toNat)
  case atStart => exact ⟨0, Nat.zero_le _, rfl, hid (fun j hj => absurd hj (by omega))⟩
  case round =>
    obtain ⟨k, hk, rfl, HK⟩ := hrel
    by_cases hlt : k < s.size
    · have hg := HG.out k hlt
      have hc255 := (l.getD k 0).isLt
      obtain ⟨x, hx⟩ : ∃ x : Nat, (l.getD k 0).toNat = x := ⟨_, rfl⟩
      have HX := hid hx
      rw [hx] at hg hc255
      have HG' := hid hg
      have e2 : ((s[k]'hlt).toNat : Int) = (x : Int) := hg
      clear hx hg
      by_cases hc : (97 ≤ x ∧ x ≤ 122) ∨ (48 ≤ x ∧ x ≤ 57) ∨ x = 45
      · have hcb : nameC (l.getD k 0) = true := by unfold nameC; rw [HX.out]; exact decide_eq_true hc
        have HCB := hid hcb
        clear hcb
        rcases hc with ⟨c1, c2⟩ | ⟨c1, c2⟩ | c1
        · have x1 : (97 : Int) ≤ (x : Int) := by omega
          have x2 : (x : Int) ≤ 122 := by omega
          go_wp2_with fail
          all_goals
            go_round
            case rel => exact ⟨k + 1, by omega, by go_num, hid (fun j hj => by
              rcases Nat.lt_or_ge j k with h | h
              · exact HK.out j h
              · obtain rfl : j = k := by omega
                exact HCB.out)⟩
            case measure => simp [intOf]; omega
        · have x1 : (48 : Int) ≤ (x : Int) := by omega
          have x2 : (x : Int) ≤ 57 := by omega
          have x3 : ¬ (97 : Int) ≤ (x : Int) := by omega
          go_wp2_with fail
          all_goals
            go_round
            case rel => exact ⟨k + 1, by omega, by go_num, hid (fun j hj => by
              rcases Nat.lt_or_ge j k with h | h
              · exact HK.out j h
              · obtain rfl : j = k := by omega
                exact HCB.out)⟩
            case measure => simp [intOf]; omega
        · subst c1
          go_wp2_with fail
          all_goals
            go_round
            case rel => exact ⟨k + 1, by omega, by go_num, hid (fun j hj => by
              rcases Nat.lt_or_ge j k with h | h
              · exact HK.out j h
              · obtain rfl : j = k := by omega
                exact HCB.out)⟩
            case measure => simp [intOf]; omega
      · have hno : nameOk l = false := name_no (k := k) (by rw [HL.out]; have := HN.out; omega) (by unfold nameC; rw [HX.out]; exact decide_eq_false hc)
        have hb2 : b = false := by rw [← HB.out, hno]
        subst hb2
        have x0 : x ≠ 45 := by omega
        have x1 : ((x : Int) == 45) = false := by simp; omega
        clear hno
        go_wp2_with fail
        all_goals first | (exfalso; omega) | (go_ret; exact ⟨rfl, rfl⟩)
    · have hkn : k = n := by have := HN.out; omega
      have hyes := name_yes (l := l) (fun j hj => HK.out j (by rw [HL.out] at hj; omega))
      have HY := hid hyes
      have hsn := HN.out
      clear hyes
      go_wp2_with fail
      all_goals (go_ret; exact ⟨ret_bool (by rw [← HB.out, HY.out, HL.out]; first | (refine decide_eq_decide.2 ?_; omega) | (refine (decide_eq_false ?_).symm; omega)), rfl⟩)
end Go.Proofs.YtlfmfhdgnmchgaaGreat

namespace Go.Proofs.YtlfmfhdgnmchgaaGreat
open Go.RowKit Wells
theorem name_any (l : List Byte) (b : Bool) (w : World) (hl : l.length ≤ 1048576) (hb : nameOk l = b) : Calls Tryz.prog 107 #[.string (strB l)] w fun e w' => e = .returned (.bool b) ∧ Below w.heap.size w w' := by
  have HB := hid hb
  have hsz := strB_size l
  have HG := hid (strB_get l)
  obtain ⟨s, hs⟩ : ∃ s, strB l = s := ⟨_, rfl⟩
  rw [hs] at hsz HG ⊢
  obtain ⟨n, hn⟩ : ∃ n, s.size = n := ⟨_, rfl⟩
  have HN := hid hn
  have HL := hid (show l.length = n by omega)
  have hn1 : n ≤ 1048576 := by omega
  have hsm : s.size ≤ 1048576 := by omega
  have hconv := run_bytes_of_string (P := Tryz.prog) w 9 58 5 s Tryz.underlying9 Tryz.underlying58 Tryz.underlying5
  obtain ⟨cap, hcap⟩ : ∃ c, grownCap w s.size 0 5 = c := ⟨_, rfl⟩
  rw [hcap] at hconv
  obtain ⟨w2, hw2⟩ : ∃ w2, w2 = w.drew.alloc (.cells (bytesRow s cap) 5 ((bytesRow s cap).size, (bytesRow s cap).size + 1)) := ⟨_, rfl⟩
  rw [← hw2] at hconv
  have hbl : Below w.heap.size w w2 := by rw [hw2]; exact ((Below.refl _ _).drew).alloc (Nat.le_refl _) _
  have hcell : ∀ k, k < s.size → w2.cell? ⟨w.heap.size, k, none⟩ = some (.int .u8 ((l.getD k 0).toNat : Int)) := fun k hk => by
    rw [hw2]
    rw [← HG.out k hk]
    have := World.cell?_alloc_mark w.drew (bytesRow s cap) 5 ((bytesRow s cap).size, (bytesRow s cap).size + 1) k
    refine this.trans ?_
    exact bytesRow_at s cap k hk
  have HCELL := hid hcell
  clear hb hs hsz hn hl hcap hw2 hcell
  go_enter Tryz.func107, Tryz.ntmps107
  go_wp2_with fail
  go_loop [8] (fun i => ∃ k : Nat, k ≤ s.size ∧ i = .int .i64 k ∧ Hid (∀ j, j < k → nameC (l.getD j 0) = true)) (fun i => s.size - (intOf i).toNat)
  case atStart => exact ⟨0, Nat.zero_le _, rfl, hid (fun j hj => absurd hj (by omega))⟩
  case round =>
    obtain ⟨k, hk, rfl, HK⟩ := hrel
    by_cases hlt : k < s.size
    · have hce := HCELL.out k hlt
      have hc255 := (l.getD k 0).isLt
      obtain ⟨x, hx⟩ : ∃ x : Nat, (l.getD k 0).toNat = x := ⟨_, rfl⟩
      have HX := hid hx
      rw [hx] at hce hc255
      clear hx
      by_cases hc : (97 ≤ x ∧ x ≤ 122) ∨ (48 ≤ x ∧ x ≤ 57) ∨ x = 45
      · have hcb : nameC (l.getD k 0) = true := by unfold nameC; rw [HX.out]; exact decide_eq_true hc
        have HCB := hid hcb
        clear hcb
        rcases hc with ⟨c1, c2⟩ | ⟨c1, c2⟩ | c1
        · have x1 : ¬ (x : Int) < 97 := by omega
          have x2 : ¬ 122 < (x : Int) := by omega
          go_wp2_with fail
          all_goals
            go_round
            case rel => exact ⟨k + 1, by omega, by go_num, hid (fun j hj => by
              rcases Nat.lt_or_ge j k with h | h
              · exact HK.out j h
              · obtain rfl : j = k := by omega
                exact HCB.out)⟩
            case measure => simp [intOf]; omega
        · have x1 : ¬ (x : Int) < 48 := by omega
          have x2 : ¬ 57 < (x : Int) := by omega
          have x3 : (x : Int) < 97 := by omega
          go_wp2_with fail
          all_goals
            go_round
            case rel => exact ⟨k + 1, by omega, by go_num, hid (fun j hj => by
              rcases Nat.lt_or_ge j k with h | h
              · exact HK.out j h
              · obtain rfl : j = k := by omega
                exact HCB.out)⟩
            case measure => simp [intOf]; omega
        · subst c1
          go_wp2_with fail
          all_goals
            go_round
            case rel => exact ⟨k + 1, by omega, by go_num, hid (fun j hj => by
              rcases Nat.lt_or_ge j k with h | h
              · exact HK.out j h
              · obtain rfl : j = k := by omega
                exact HCB.out)⟩
            case measure => simp [intOf]; omega
      · have hno : nameOk l = false := name_no (k := k) (by rw [HL.out]; have := HN.out; omega) (by unfold nameC; rw [HX.out]; exact decide_eq_false hc)
        have hb2 : b = false := by rw [← HB.out, hno]
        subst hb2
        have x1 : ((x : Int) != 45) = true := by simp; omega
        clear hno
        go_wp2_with fail
        all_goals first | (exfalso; omega) | (go_ret; exact ⟨rfl, hbl⟩)
    · have hkn : k = n := by have := HN.out; omega
      have hyes := name_yes (l := l) (fun j hj => HK.out j (by rw [HL.out] at hj; omega))
      have HY := hid hyes
      have hsn := HN.out
      clear hyes
      go_wp2_with fail
      all_goals (go_ret; exact ⟨ret_bool (by rw [← HB.out, HY.out, HL.out]; first | (refine decide_eq_decide.2 ?_; omega) | (refine (decide_eq_false ?_).symm; omega)), hbl⟩)
theorem ivs_get (l : List Int) (k : Nat) (h : k < l.length) : (l.map iv)[k]? = some (.int .i64 (l.getD k 0)) := by
  rw [List.getElem?_map, List.getElem?_eq_getElem h]; simp [h, iv]
theorem rise_any (B : Nat) (A : Option Addr) (l : List Int) (n c : Nat) (most : Int) (b : Bool) (w : World) (h : Sl w B 1 A n (l.map iv)) (hn : n ≤ 9223372036854775807) (hb : riseB l most = b) :
    Calls Tryz.prog 91 #[.slice A n c, .int .i64 most] w fun e w' => e = .returned (.bool b) ∧ ∃ d, w' = w.drewN d := by
  have HL := hid (show l.length = n by have := h.len; simpa using this)
  have HB := hid hb
  clear hb
  go_enter Tryz.func91, Tryz.ntmps91
  go_wp2_with fail
  go_loopw [9] (fun i wr => ∃ k d : Nat, k ≤ n ∧ i = .int .i64 k ∧ wr = w.drewN d ∧ Hid (∀ j, j < k → riseStep l most j = true)) (fun i _ => n - (intOf i).toNat)
  case atStart => exact ⟨0, 0, Nat.zero_le _, rfl, rfl, hid (fun j hj => absurd hj (by omega))⟩
  case round =>
    obtain ⟨k, d, hk, rfl, rfl, HK⟩ := hrel
    by_cases hlt : k < n
    · obtain ⟨bb, o, rfl, hbb, hce⟩ := h.get hlt (ivs_get l k (by rw [HL.out]; exact hlt))
      have hcp : 0 < k → w.cell? ⟨bb, o + (k - 1), none⟩ = some (.int .i64 (l.getD (k - 1) 0)) := fun h0 => by
        obtain ⟨b2, o2, e, _, h2⟩ := h.get (k := k - 1) (by omega) (ivs_get l (k - 1) (by rw [HL.out]; omega))
        injection e with e; injection e with e1 e2; subst e1 e2
        exact h2
      obtain ⟨x, hx⟩ : ∃ x, l.getD k 0 = x := ⟨_, rfl⟩
      obtain ⟨y, hy⟩ : ∃ y, l.getD (k - 1) 0 = y := ⟨_, rfl⟩
      have HX := hid hx
      have HY := hid hy
      rw [hx] at hce
      simp only [hy] at hcp
      clear hx hy
      have hst : riseStep l most k = (decide (0 ≤ x ∧ x ≤ most) && (decide (k = 0) || decide (y < x))) := by unfold riseStep; rw [HX.out, HY.out]
      have HST := hid hst
      clear hst
      cases hw1 : decide (0 ≤ x ∧ x ≤ most) with
      | false =>
        have hno : b = false := by rw [← HB.out]; exact all_range_false (k := k) (by rw [HL.out]; exact hlt) (by rw [HST.out, hw1, Bool.false_and])
        subst hno
        have HW1 := hid hw1
        clear hw1 hcp
        go_wp2_with fail
        refine (mwithin_any x 0 most false _ HW1.out).mono ?_
        rintro e w3 ⟨rfl, hw3⟩
        rw [← hw3]
        clear hw3 w3
        go_wp2_with fail
        go_ret
        exact ⟨rfl, _, rfl⟩
      | true =>
        have HW1 := hid hw1
        by_cases hk0 : k = 0
        · subst hk0
          have hs : riseStep l most 0 = true := by rw [HST.out, hw1]; rfl
          have HS := hid hs
          have hce0 : w.cell? ⟨bb, o, none⟩ = some (.int .i64 x) := hce
          clear hw1 hcp hs
          go_wp2_with fail
          refine (mwithin_any x 0 most true _ HW1.out).mono ?_
          rintro e w3 ⟨rfl, hw3⟩
          rw [← hw3]
          clear hw3 w3
          go_wp2_with fail
          go_roundw
          case rel => exact ⟨1, d, by omega, by first | rfl | go_num, rfl, hid (fun j hj => (show j = 0 by omega) ▸ HS.out)⟩
          case measure => simp [intOf]; omega
        · have hcp' := hcp (by omega)
          have hk1 : (0 : Int) < (k : Int) := by omega
          have hk1n : 0 < k := by omega
          have hkc : ((k : Int) - 1) = ((k - 1 : Nat) : Int) := by omega
          have hk2 : (0 : Int) ≤ (k : Int) - 1 := by omega
          have hk3 : (k : Int) - 1 < (n : Int) := by omega
          clear hcp hkc
          by_cases hyx : y < x
          · have hs : riseStep l most k = true := by rw [HST.out, hw1]; simp [hyx]
            have HS := hid hs
            clear hw1 hs
            go_wp2_with fail
            refine (mwithin_any x 0 most true _ HW1.out).mono ?_
            rintro e w3 ⟨rfl, hw3⟩
            rw [← hw3]
            clear hw3 w3
            go_wp2_with fail
            go_roundw
            case rel => exact ⟨k + 1, d, by omega, by go_num, rfl, hid (fun j hj => by
              rcases Nat.lt_or_ge j k with h | h
              · exact HK.out j h
              · obtain rfl : j = k := by omega
                exact HS.out)⟩
            case measure => simp [intOf]; omega
          · have hno : b = false := by rw [← HB.out]; exact all_range_false (k := k) (by rw [HL.out]; exact hlt) (by rw [HST.out, hw1]; simp [hyx, hk0])
            subst hno
            clear hw1
            go_wp2_with fail
            refine (mwithin_any x 0 most true _ HW1.out).mono ?_
            rintro e w3 ⟨rfl, hw3⟩
            rw [← hw3]
            clear hw3 w3
            go_wp2_with fail
            go_ret
            exact ⟨rfl, _, rfl⟩
    · obtain rfl : k = n := by omega
      have hyes : b = true := by rw [← HB.out]; exact all_range_true (fun j hj => HK.out j (by rw [HL.out] at hj; exact hj))
      subst hyes
      go_wp2_with fail
      go_ret
      exact ⟨rfl, _, rfl⟩
theorem try_any (x : Int) (b : Bool) (w : World) (hb : decide (0 ≤ x ∧ x ≤ 15) = b) : Calls Tryz.prog 109 #[.int .i64 x] w fun e w' => e = .returned (.bool (!b)) ∧ w = w' := by
  go_enter Tryz.func109, Tryz.ntmps109
  go_wp2_with fail
  refine (mwithin_any x 0 15 b _ hb).mono ?_
  rintro e w3 ⟨rfl, hw3⟩
  rw [← hw3]
  clear hw3 w3
  go_wp2_with fail
  go_ret
  exact ⟨rfl, rfl⟩
end Go.Proofs.YtlfmfhdgnmchgaaGreat

namespace Go.Proofs.YtlfmfhdgnmchgaaGreat
open Go.RowKit Wells
theorem mayid_any (x : Int) (r : Bool) (w : World) (hr : decide (0 ≤ x ∧ x ≤ 65535) = r) : Calls Tryz.prog 100 #[.int .i64 x] w fun e w' => e = .returned (.bool r) ∧ w' = w := by
  have HR := hid hr
  clear hr
  go_enter Tryz.func100, Tryz.ntmps100
  go_wp2_with fail
  all_goals (go_ret; exact ⟨ret_bool (by rw [← HR.out]; first | (refine decide_eq_decide.2 ?_; omega) | (refine (decide_eq_false ?_).symm; omega)), rfl⟩)
theorem int_beq (a b : Int) : (a == b) = decide (a = b) := by
  by_cases h : a = b
  · subst h; simp
  · simp [h]
theorem recmay_any (r : Rec) (A : Option Addr) (n c : Nat) (b : Bool) (w : World) (hn : r.D.length = n) (hb : r.may = b) : Calls Tryz.prog 83 #[r.val (.slice A n c)] w fun e w' => e = .returned (.bool b) ∧ Below w.heap.size w w' := by
  obtain ⟨O, B, I, ⟨K, H, S⟩, s, D⟩ := r
  unfold Rec.val
  have HB := hid hb
  unfold Rec.may at HB
  dsimp only at *
  have HN := hid hn
  have hbi := s.isLt
  clear hn hb
  go_enter Tryz.func83, Tryz.ntmps83
  go_wp2_with fail
  all_goals try (go_ret; exact ⟨ret_bool (by rw [← HB.out]; refine (decide_eq_false ?_).symm; omega), (Below.refl _ _).alloc (Nat.le_refl _) _⟩)
  obtain ⟨pm, hpm⟩ : ∃ b, Par.may ⟨K, H, S⟩ = b := ⟨_, rfl⟩
  have HPM := hid hpm
  have hr0 := Row.new w 75 #[.int .i64 O, .int .i64 B, .int .i64 I, .int .i64 K, .int .i64 H, .int .i64 S, .int .u32 (s.toNat : Int), .slice A n c]
  have hb0 : Below w.heap.size w (w.alloc (.cells #[.int .i64 O, .int .i64 B, .int .i64 I, .int .i64 K, .int .i64 H, .int .i64 S, .int .u32 (s.toNat : Int), .slice A n c] 75)) := (Below.refl _ _).alloc (Nat.le_refl _) _
  have hlt := hr0.lt
  generalize w.alloc (.cells #[.int .i64 O, .int .i64 B, .int .i64 I, .int .i64 K, .int .i64 H, .int .i64 S, .int .u32 (s.toNat : Int), .slice A n c] 75) = w1 at *
  refine (premay_any ⟨K, H, S⟩ pm w1 hpm).mono ?_
  rintro e w2 ⟨rfl, hb2⟩
  have hr2 := hr0.below hb2 hlt
  have hc5 := hr2.cell 5
  have hc7 := hr2.cell 7
  have bt := hb0.trans (hb2.mono (by omega))
  simp only [List.getElem?_cons_succ, List.getElem?_cons_zero] at hc5 hc7
  clear hpm hr0 hr2 hb2 hb0
  cases pm
  · go_wp2_with fail
    go_ret
    exact ⟨ret_bool (by rw [← HB.out]; refine (decide_eq_false fun h => ?_).symm; have := HPM.out; simp [this] at h), bt⟩
  · go_wp2_with fail
    go_ret
    exact ⟨ret_bool (by rw [← HB.out, HPM.out, HN.out, int_beq]; refine decide_eq_decide.2 ⟨fun h => ⟨by omega, by omega, by omega, by omega, by omega, by omega, rfl, h⟩, fun h => h.2.2.2.2.2.2.2⟩), bt⟩
theorem refrecmay_any (r : Rec) (A : Option Addr) (n c : Nat) (b : Bool) (w : World) (hn : r.D.length = n) (hb : r.may = b) : Calls Tryz.prog 76 #[r.val (.slice A n c)] w fun e w' => e = .returned (.bool b) ∧ Below w.heap.size w w' := by
  obtain ⟨O, B, I, ⟨K, H, S⟩, s, D⟩ := r
  unfold Rec.val
  have HB := hid hb
  unfold Rec.may at HB
  dsimp only at *
  have HN := hid hn
  have hbi := s.isLt
  clear hn hb
  go_enter Tryz.func76, Tryz.ntmps76
  go_wp2_with fail
  all_goals try (go_ret; exact ⟨ret_bool (by rw [← HB.out]; refine (decide_eq_false ?_).symm; omega), (Below.refl _ _).alloc (Nat.le_refl _) _⟩)
  refine (mayid_any I _ _ rfl).mono ?_
  rintro e w1 ⟨rfl, rfl⟩
  by_cases hI : 0 ≤ I ∧ I ≤ 65535
  rotate_left
  · rw [decide_eq_false hI]
    go_wp2_with fail
    go_ret
    exact ⟨ret_bool (by rw [← HB.out]; refine (decide_eq_false ?_).symm; omega), (Below.refl _ _).alloc (Nat.le_refl _) _⟩
  rw [decide_eq_true hI]
  go_wp2_with fail
  obtain ⟨pm, hpm⟩ : ∃ b, Par.may ⟨K, H, S⟩ = b := ⟨_, rfl⟩
  have HPM := hid hpm
  have hr0 := Row.new w 75 #[.int .i64 O, .int .i64 B, .int .i64 I, .int .i64 K, .int .i64 H, .int .i64 S, .int .u32 (s.toNat : Int), .slice A n c]
  have hb0 : Below w.heap.size w (w.alloc (.cells #[.int .i64 O, .int .i64 B, .int .i64 I, .int .i64 K, .int .i64 H, .int .i64 S, .int .u32 (s.toNat : Int), .slice A n c] 75)) := (Below.refl _ _).alloc (Nat.le_refl _) _
  have hlt := hr0.lt
  generalize w.alloc (.cells #[.int .i64 O, .int .i64 B, .int .i64 I, .int .i64 K, .int .i64 H, .int .i64 S, .int .u32 (s.toNat : Int), .slice A n c] 75) = w1 at *
  refine (refmay_any ⟨K, H, S⟩ pm w1 hpm).mono ?_
  rintro e w2 ⟨rfl, hb2⟩
  have hr2 := hr0.below hb2 hlt
  have hc5 := hr2.cell 5
  have hc7 := hr2.cell 7
  have bt := hb0.trans (hb2.mono (by omega))
  simp only [List.getElem?_cons_succ, List.getElem?_cons_zero] at hc5 hc7
  clear hpm hr0 hr2 hb2 hb0
  cases pm
  · go_wp2_with fail
    go_ret
    exact ⟨ret_bool (by rw [← HB.out]; refine (decide_eq_false fun h => ?_).symm; have := HPM.out; simp [this] at h), bt⟩
  · go_wp2_with fail
    go_ret
    exact ⟨ret_bool (by rw [← HB.out, HPM.out, HN.out, int_beq]; refine decide_eq_decide.2 ⟨fun h => ⟨by omega, by omega, by omega, by omega, by omega, by omega, rfl, h⟩, fun h => h.2.2.2.2.2.2.2⟩), bt⟩
end Go.Proofs.YtlfmfhdgnmchgaaGreat

namespace Wells
open Go Go.RowKit
/-- w' is w with new blocks and writes to v's row; v' has the cells xs, in v's row or a new one -/
structure Appd (t : TypeId) (base : Nat) (w w' : World) (v v' : Value) (n : Nat) (xs : List Value) : Prop where
  own : w'.ownsRow base t 1 v' n xs
  grow : w.grownBy w' v.ownBlock
  wh : v'.ownBlock = v.ownBlock ∨ ∃ g, v'.ownBlock = some g ∧ w.heap.size ≤ g
theorem grown_trans {w w1 w2 : World} {r r1 : Option Nat} (h : w.grownBy w1 r) (h1 : w1.grownBy w2 r1) (hr : r1 = r ∨ ∃ g, r1 = some g ∧ w.heap.size ≤ g) : w.grownBy w2 r :=
  ⟨h1.os.trans h.os, h1.tape.trans h.tape, h1.output.trans h.output, Nat.le_trans h.size h1.size, fun k hk hne => by
    refine (h1.block k (Nat.lt_of_lt_of_le hk h.size) ?_).trans (h.block k hk hne)
    rcases hr with rfl | ⟨g, rfl, hg⟩
    · exact hne
    · intro e; injection e with e; omega⟩
theorem grown_alloc {w w1 : World} {r : Option Nat} (h : w.grownBy w1 r) (o : Obj) : w.grownBy (w1.alloc o) r :=
  ⟨h.os, h.tape, h.output, by have := h.size; simp; omega, fun k hk hne => (Below.heap_alloc w1 o k (Nat.lt_of_lt_of_le hk h.size)).trans (h.block k hk hne)⟩
theorem grown_below {w w1 w2 : World} {r : Option Nat} (h : w.grownBy w1 r) (hb : Below w1.heap.size w1 w2) : w.grownBy w2 r :=
  ⟨hb.os.trans h.os, hb.tape.trans h.tape, hb.output.trans h.output, Nat.le_trans h.size hb.size, fun k hk hne => (hb.block k (Nat.lt_of_lt_of_le hk h.size)).trans (h.block k hk hne)⟩
theorem Appd.refl {t : TypeId} {base n : Nat} {w : World} {v : Value} {xs : List Value} (h : w.ownsRow base t 1 v n xs) : Appd t base w w v v n xs := ⟨h, ⟨rfl, rfl, rfl, Nat.le_refl _, fun _ _ _ => rfl⟩, .inl rfl⟩
theorem Appd.trans {t : TypeId} {base n n1 : Nat} {w w1 w2 : World} {v v1 v2 : Value} {xs xs1 : List Value} (h : Appd t base w w1 v v1 n xs) (h1 : Appd t base w1 w2 v1 v2 n1 xs1) : Appd t base w w2 v v2 n1 xs1 := by
  refine ⟨h1.own, grown_trans h.grow h1.grow h.wh, ?_⟩
  rcases h1.wh with e | ⟨g, e, hg⟩
  · rw [e]; exact h.wh
  · exact .inr ⟨g, e, Nat.le_trans h.grow.size hg⟩
/-- one append, behind what a block was made for -/
theorem Appd.step {t : TypeId} {base n n1 : Nat} {w w1 w2 : World} {v v1 v2 : Value} {xs xs1 : List Value} (h : Appd t base w w1 v v1 n xs) (o : Obj) (ho : w2.ownsRow base t 1 v2 n1 xs1) (hg : (w1.alloc o).grownBy w2 v1.ownBlock)
    (hw : v2.ownBlock = v1.ownBlock ∨ v2.ownBlock = some (w1.alloc o).heap.size) : Appd t base w w2 v v2 n1 xs1 := by
  have hs := h.grow.size
  refine ⟨ho, grown_trans (grown_alloc h.grow o) hg h.wh, ?_⟩
  rcases hw with e | e
  · rw [e]; exact h.wh
  · exact .inr ⟨_, e, by simp; omega⟩
theorem Appd.step0 {t : TypeId} {base n n1 : Nat} {w w1 w2 : World} {v v1 v2 : Value} {xs xs1 : List Value} (h : Appd t base w w1 v v1 n xs) (ho : w2.ownsRow base t 1 v2 n1 xs1) (hg : w1.grownBy w2 v1.ownBlock)
    (hw : v2.ownBlock = v1.ownBlock ∨ v2.ownBlock = some w1.heap.size) : Appd t base w w2 v v2 n1 xs1 := by
  have hs := h.grow.size
  refine ⟨ho, grown_trans h.grow hg h.wh, ?_⟩
  rcases hw with e | e
  · rw [e]; exact h.wh
  · exact .inr ⟨_, e, by omega⟩
/-- blocks made meanwhile -/
theorem Appd.more {t : TypeId} {base n : Nat} {w w1 w2 : World} {v v1 : Value} {xs : List Value} (h : Appd t base w w1 v v1 n xs) (hb : Below w1.heap.size w1 w2) : Appd t base w w2 v v1 n xs :=
  ⟨h.own.kept (show w1.grownBy w2 none from ⟨hb.os, hb.tape, hb.output, hb.size, fun k hk _ => hb.block k hk⟩) (by cases v1.ownBlock <;> simp), grown_below h.grow hb, h.wh⟩
theorem Appd.below {t : TypeId} {base n : Nat} {w w1 : World} {v v1 : Value} {xs : List Value} (h : Appd t base w w1 v v1 n xs) (hv : ∀ k, v.ownBlock = some k → base ≤ k) (hb : base ≤ w.heap.size) : Below base w w1 :=
  (Below.refl base w).grown h.grow hb hv
/-- a block of another type stays -/
theorem Row.appd {t t' : TypeId} {base n g : Nat} {w w1 : World} {v v1 : Value} {xs cs ys : List Value} {m : Nat} (h : Row w g t' cs) (hv : w.ownsRow base t 1 v m ys) (ha : Appd t base w w1 v v1 n xs) (hne : t ≠ t') : Row w1 g t' cs := by
  refine h.grown ha.grow ?_
  rcases hv.2 with ⟨rfl, _⟩ | ⟨g', cap, cur, rfl, _, hh, _⟩
  · intro e; cases e
  · intro e
    injection e with e
    subst e
    unfold Row at h
    rw [h] at hh
    injection hh with hh
    injection hh with _ e2 _
    exact hne e2.symm
theorem Row.appd1 {t t' : TypeId} {base g n : Nat} {w w1 : World} {v : Value} {cs ys : List Value} (h : Row w g t' cs) (hv : w.ownsRow base t 1 v n ys) (hg : w.grownBy w1 v.ownBlock) (hne : t ≠ t') : Row w1 g t' cs := by
  refine h.grown hg ?_
  rcases hv.2 with ⟨rfl, _⟩ | ⟨g', cap, cur, rfl, _, hh, _⟩
  · intro e; cases e
  · intro e
    injection e with e
    subst e
    unfold Row at h
    rw [h] at hh
    injection hh with hh
    injection hh with _ e2 _
    exact hne e2.symm
theorem _root_.Go.World.ownsRow.drew_ {base size n : Nat} {w : World} {e : TypeId} {v : Value} {xs : List Value} (h : w.ownsRow base e size v n xs) : w.drew.ownsRow base e size v n xs := h
theorem Appd.drew_ {t : TypeId} {base n : Nat} {w w1 : World} {v v1 : Value} {xs : List Value} (h : Appd t base w w1 v v1 n xs) : Appd t base w w1.drew v v1 n xs := ⟨h.own, ⟨h.grow.os, h.grow.tape, h.grow.output, h.grow.size, h.grow.block⟩, h.wh⟩
end Wells
namespace Go.Proofs.YtlfmfhdgnmchgaaGreat
open Go.RowKit Wells
theorem own_byteM {w : World} {base n : Nat} {t : TypeId} {v : Value} {l : List Byte} {E : Int} (h : w.ownsRow base t 1 v n (l.map bv8 ++ [.int .u8 E])) {b : Byte} (hb : (b.toNat : Int) = E) : w.ownsRow base t 1 v n ((l ++ [b]).map bv8) := by
  rw [List.map_append, List.map_cons, List.map_nil, bv8, hb]; exact h
theorem mnumber_any (base : Nat) (A : Option Addr) (n c : Nat) (l : List Byte) (x : Int) (k : Nat) (w : World) (ho : w.ownsRow base 5 1 (.slice A n c) n (l.map bv8)) (hn : n ≤ 1048576) (hb : base ≤ w.heap.size) (hx : -9223372036854775808 ≤ x ∧ x ≤ 9223372036854775807) (hk : k ≤ 7) :
    Calls Tryz.prog 111 #[.slice A n c, .int .i64 x, .int .i64 k] w fun e w' => ∃ A' c', e = .returned (.slice A' (n + k) c') ∧ Appd 5 base w w' (.slice A n c) (.slice A' (n + k) c') (n + k) ((l ++ highL k x).map bv8) := by
  obtain ⟨i0, hi, hz0, hz1, hz2⟩ := info_parts infoB
  go_enter Tryz.func111, Tryz.ntmps111
  go_wp2_with fail
  go_loopw [0, 7] (fun v i wr => ∃ (j : Nat) (A1 : Option Addr) (m c1 : Nat) (l' : List Byte), j ≤ k ∧ m + j = n + k ∧ i = .int .i64 ((j : Int) - 1) ∧ v = .slice A1 m c1 ∧ l' ++ highL j x = l ++ highL k x ∧ Appd 5 base w wr (.slice A n c) (.slice A1 m c1) m (l'.map bv8)) (fun _ i _ => (intOf i + 1).toNat)
  case atStart => exact ⟨k, A, n, c, l, by omega, rfl, rfl, rfl, rfl, .refl ho⟩
  case round =>
    obtain ⟨j, A1, m, c1, l', hj, hm, rfl, rfl, hl, ha⟩ := hrel
    have hsw : base ≤ wr.heap.size := by have := ha.grow.size; omega
    by_cases hlt : 0 < j
    · obtain ⟨i, rfl⟩ : ∃ i, j = i + 1 := ⟨j - 1, by omega⟩
      have hHL := hid hl
      clear hl
      have hji : ((i + 1 : Nat) : Int) - 1 = (i : Int) := by omega
      rw [hji]
      have hbt := hid (hiB_toNat x i)
      have hw8 : IntKind.i64.wrap (8 * (i : Int)) = 8 * (i : Int) := by rw [IntKind.wrap_i64]; omega
      have HA := hid ha
      have ho1 := ha.own
      clear ha
      go_wp2_with (at_builtin; go_must (refine wpl_append rfl (.tmp 14) (.tmp 20) 58 rfl base 5 i0 (.int .u8 0) 1 1 Tryz.underlying58 hi hz0 hz1 hz2 rfl (by omega) (.slice A1 m c1) m _ rfl (ho1.alloc _) _ _ 1 1 _ rfl (Sl.fresh _ _ _ _ 1 rfl) (by simp [Value.oneCell']) (m + 1) (by omega) _ rfl (by omega) (by omega) (by simp; omega) ?_); intro A2 c2 w2 o2 g2 wh2)
      have ha2 := HA.out.step _ (own_byteM o2 hbt.out) g2 wh2
      go_roundw
      case rel => exact ⟨i, A2, m + 1, c2, l' ++ [hiB x i], by omega, by omega, rfl, rfl, by rw [← hHL.out, List.append_assoc]; rfl, ha2⟩
      case measure => simp [intOf]
    · have hj0 : j = 0 := by omega
      subst hj0
      obtain rfl : m = n + k := by omega
      have hneg : ¬ (0 : Int) ≤ -1 := by omega
      have hl2 : l' = l ++ highL k x := by simpa [highL] using hl
      have HL := hid hl2
      clear hl hl2
      go_wp2_with fail
      go_ret
      exact ⟨A1, c1, rfl, by rw [← List.map_append, ← HL.out]; exact ha⟩
theorem mhigh_any (base : Nat) (A : Option Addr) (n c : Nat) (l : List Byte) (x : Int) (k : Nat) (w : World) (ho : w.ownsRow base 5 1 (.slice A n c) n (l.map bv8)) (hn : n ≤ 1048576) (hb : base ≤ w.heap.size) (hx : -9223372036854775808 ≤ x ∧ x ≤ 9223372036854775807) (hk : k ≤ 7) :
    Calls Tryz.prog 75 #[.slice A n c, .int .i64 x, .int .i64 k] w fun e w' => ∃ A' c', e = .returned (.slice A' (n + k) c') ∧ Appd 5 base w w' (.slice A n c) (.slice A' (n + k) c') (n + k) ((l ++ highL k x).map bv8) := by
  obtain ⟨i0, hi, hz0, hz1, hz2⟩ := info_parts infoB
  go_enter Tryz.func75, Tryz.ntmps75
  go_wp2_with fail
  go_loopw [0, 7] (fun v i wr => ∃ (j : Nat) (A1 : Option Addr) (m c1 : Nat) (l' : List Byte), j ≤ k ∧ m + j = n + k ∧ i = .int .i64 ((j : Int) - 1) ∧ v = .slice A1 m c1 ∧ l' ++ highL j x = l ++ highL k x ∧ Appd 5 base w wr (.slice A n c) (.slice A1 m c1) m (l'.map bv8)) (fun _ i _ => (intOf i + 1).toNat)
  case atStart => exact ⟨k, A, n, c, l, by omega, rfl, rfl, rfl, rfl, .refl ho⟩
  case round =>
    obtain ⟨j, A1, m, c1, l', hj, hm, rfl, rfl, hl, ha⟩ := hrel
    have hsw : base ≤ wr.heap.size := by have := ha.grow.size; omega
    by_cases hlt : 0 < j
    · obtain ⟨i, rfl⟩ : ∃ i, j = i + 1 := ⟨j - 1, by omega⟩
      have hHL := hid hl
      clear hl
      have hji : ((i + 1 : Nat) : Int) - 1 = (i : Int) := by omega
      rw [hji]
      have hbt := hid (hiB_toNat x i)
      have hw8 : IntKind.i64.wrap (8 * (i : Int)) = 8 * (i : Int) := by rw [IntKind.wrap_i64]; omega
      have HA := hid ha
      have ho1 := ha.own
      clear ha
      go_wp2_with (at_builtin; go_must (refine wpl_append rfl (.tmp 14) (.tmp 20) 58 rfl base 5 i0 (.int .u8 0) 1 1 Tryz.underlying58 hi hz0 hz1 hz2 rfl (by omega) (.slice A1 m c1) m _ rfl (ho1.alloc _) _ _ 1 1 _ rfl (Sl.fresh _ _ _ _ 1 rfl) (by simp [Value.oneCell']) (m + 1) (by omega) _ rfl (by omega) (by omega) (by simp; omega) ?_); intro A2 c2 w2 o2 g2 wh2)
      have ha2 := HA.out.step _ (own_byteM o2 hbt.out) g2 wh2
      go_roundw
      case rel => exact ⟨i, A2, m + 1, c2, l' ++ [hiB x i], by omega, by omega, rfl, rfl, by rw [← hHL.out, List.append_assoc]; rfl, ha2⟩
      case measure => simp [intOf]
    · have hj0 : j = 0 := by omega
      subst hj0
      obtain rfl : m = n + k := by omega
      have hneg : ¬ (0 : Int) ≤ -1 := by omega
      have hl2 : l' = l ++ highL k x := by simpa [highL] using hl
      have HL := hid hl2
      clear hl hl2
      go_wp2_with fail
      go_ret
      exact ⟨A1, c1, rfl, by rw [← List.map_append, ← HL.out]; exact ha⟩
end Go.Proofs.YtlfmfhdgnmchgaaGreat

