/- The walks of chapter 16's laws. -/
import Derived.Test.YthplfhjdlbhmlaaRefTake
import Derived.Test.YthplfhjdlbhmlaaFrame
import Derived.Test.YthplfhjdlbhmlaaWithin
namespace Go.Proofs.Ythplfhjdlbhmlaa
open Go.RowKit Wells
theorem wakes16 (w : World) : Calls Try.prog 8 #[] w fun e w' => e = .returned (.bool true) ∧ Below w.heap.size w w' := by
  have ht := take_frame (k := 1#8) (b := []) (by decide) (by simp)
  have hcl : cellL 1 [] = frame 1#8 [] := cellL_yes ⟨by omega, by omega, by simp⟩
  have hlen := frame_len (k := 1#8) (b := []) (by simp)
  have hpl := pad_len (b := []) (by simp)
  have HT := hid ht
  have HC := hid hcl
  have HLN := hid hlen
  have HPL := hid hpl
  clear ht hcl hlen hpl
  go_enter Try.func8, Try.ntmps8
  go_wp2_with fail
  refine (put_any 1 0 none [] 0 0 _ (by omega) Sl.nil_ (Nat.zero_le _) (by omega)).mono ?_
  rintro e w1 ⟨v, rfl, hv, hb1⟩
  rw [HC.out] at hv
  obtain ⟨A, c, rfl, hc1, hc2, sv⟩ := hv.read
  rw [HLN.out] at hc1 sv ⊢
  go_wp2_with fail
  refine (take_any _ A _ 64 c _ sv (Nat.le_refl _) (by omega) (by omega) hc2).mono ?_
  rintro e w2 ⟨v2, rfl, hv2, hb2⟩
  rw [HT.out] at hv2 ⊢
  obtain ⟨A2, c2, e2, hc3, hc4, sv2⟩ := hv2.read
  subst e2
  have hpl' : (((some (1#8, pad [])) : Option (Byte × List Byte)).getD (0#8, [])).2.length = 55 := HPL.out
  rw [hpl'] at hc3 sv2 ⊢
  have htk : tkV (some (1#8, pad [])) = .int .i64 1 := rfl
  rw [htk]
  go_wp2_with fail
  go_ret
  exact ⟨rfl, hb1.trans (hb2.mono hb1.size)⟩
theorem walk_CellPuts (kind : Int) (A : Option Addr) (n c : Nat) (l : List Byte) (w : World) (hk : -9223372036854775808 ≤ kind ∧ kind ≤ 9223372036854775807) (h : IsBytes w A n c l) :
    Calls Try.prog 3 #[.int .i64 kind, .slice A n c] w fun e w' => e = .returned (.bool true) ∧ Below w.heap.size w w' := by
  obtain ⟨hs, hle, hcap⟩ := h
  by_cases h100 : 100 < n
  · go_enter Try.func3, Try.ntmps3
    go_wp2_with fail
    refine (wakes16 _).mono ?_
    rintro e w9 ⟨rfl, hb9⟩
    go_wp2
    go_ret
    exact ⟨rfl, hb9⟩
  · have hl : l.length = n := by have := hs.len; simpa using this
    obtain ⟨x, hx⟩ : ∃ x, kind % 255 = x := ⟨_, rfl⟩
    have hx0 : 0 ≤ x ∧ x ≤ 254 := by omega
    obtain ⟨hx0, hx1⟩ := hx0
    have HX := hid hx
    have HL := hid hl
    clear hx hl
    go_enter Try.func3, Try.ntmps3
    go_wp2_with fail
    refine (spare_any _ A l n c 71#8 _ hs (Nat.le_refl _) (by omega)).mono ?_
    rintro e w1 ⟨g, rfl, hg, hrow, hb1⟩
    go_wp2_with fail
    refine (within_any kind 255 _ hk.1 hk.2 (by omega) (by omega)).mono ?_
    rintro e w2 ⟨rfl, rfl⟩
    rw [HX.out]
    go_wp2_with fail
    have hrw := Row.new w1 3 #[.int .i64 kind, .int .i64 (1 + x)]
    have hb2 : Below w1.heap.size w1 (w1.alloc (.cells #[.int .i64 kind, .int .i64 (1 + x)] 3)) := (Below.refl _ _).alloc (Nat.le_refl _) _
    have hcell : ∀ k : Nat, k < 2 → ∃ v : Int, (-9223372036854775808 ≤ v ∧ v ≤ 9223372036854775807) ∧ (w1.alloc (.cells #[.int .i64 kind, .int .i64 (1 + x)] 3)).cell? ⟨w1.heap.size, k, none⟩ = some (.int .i64 v) := by
      intro k hk2
      obtain rfl | rfl : k = 0 ∨ k = 1 := by omega
      · exact ⟨kind, hk, by rw [hrw.cell]; rfl⟩
      · exact ⟨1 + x, by omega, by rw [hrw.cell]; rfl⟩
    have hgl := hrw.lt
    have row2 := hrow.below hb2 hrow.lt
    have b2 := hb1.trans (hb2.mono hb1.size)
    clear hrw hrow hb1 hb2
    generalize w1.alloc (.cells #[.int .i64 kind, .int .i64 (1 + x)] 3) = w2 at *
    generalize w1.heap.size = g2 at *
    obtain ⟨G, hG⟩ : ∃ G, G = w2.heap.size := ⟨_, rfl⟩
    have hgG : g < G := by rw [hG]; exact row2.lt
    rw [← hG] at hgl
    have hwG : w.heap.size ≤ G := by rw [hG]; exact b2.size
    have hG2 : G ≤ w2.heap.size := by omega
    have HC := hid hcell
    clear hG hcell
    go_loopw [20] (fun i wr => ∃ k : Nat, k ≤ 2 ∧ i = .int .i64 k ∧ Below G w2 wr) (fun i _ => 2 - (intOf i).toNat)
    case atStart => exact ⟨0, by omega, rfl, Below.refl _ _⟩
    case round =>
      obtain ⟨k, hk2, rfl, hbw⟩ := hrel
      have hwr := hbw.size
      have bw := b2.trans (hbw.mono hwG)
      have hbws := bw.size
      have hsr := hs.below bw
      have row := row2.below hbw hgG
      by_cases hlt : k < 2
      · obtain ⟨v, hv, hcv⟩ := HC.out k hlt
        rw [← hbw.cell (p := ⟨g2, k, none⟩) hgl] at hcv
        have hsq : Sl wr wr.heap.size 1 (some ⟨g, 0, none⟩) n (l.map bv8) := by
          have := row.sl (B := wr.heap.size) (m := n) row.lt (by simp [HL.out])
          rwa [List.take_append_of_le_length (by simp [HL.out]), List.take_of_length_le (by simp [HL.out])] at this
        go_wp2_with fail
        refine (put_any v _ (some ⟨g, 0, none⟩) l n (n + 2) _ hv hsq (Nat.le_refl _) (by omega)).mono ?_
        rintro e w3 ⟨v3, rfl, hv3, hb3⟩
        obtain ⟨A3, c3, rfl, hc31, hc32, s3⟩ := hv3.read
        go_wp2_with fail
        refine (refput_any v _ A l n c _ hv (hsr.below (hb3.mono hbws)) (by have := hb3.size; omega) (by omega)).mono ?_
        rintro e w4 ⟨v4, rfl, hv4, hb4⟩
        obtain ⟨A4, c4, rfl, hc41, hc42, s4⟩ := hv4.read
        have s34 := (s3.below hb4).mono hb4.size
        have hb34 := hb3.trans (hb4.mono hb3.size)
        have hbt : Below G w2 w4 := hbw.trans (hb34.mono (by omega))
        have bt := bw.trans (hb34.mono hbws)
        have hcl64 : (cellL v l).length ≤ 64 := by rw [cellL_len]; split <;> omega
        generalize cellL v l = cl at *
        go_wp2_with fail
        refine (same_is true _ _ _ cl cl _ _ _ _ _ s34 s4 (by omega) (by omega) (decide_eq_true rfl)).mono ?_
        rintro e w5 ⟨rfl, d, rfl⟩
        go_wp2_with fail
        refine (kept_any w.heap.size A g l n c 71#8 _ ((hs.below bt).drewN d) ((row2.below hbt hgG).drewN d) (by omega)).mono ?_
        rintro e w6 ⟨rfl, d2, rfl⟩
        go_wp2_with fail
        go_roundw
        case rel => exact ⟨k + 1, by omega, by go_num, below_drewN hbt (d + d2)⟩
        case measure => simp [intOf]; omega
      · go_wp2_with fail
        refine (wakes16 _).mono ?_
        rintro e w9 ⟨rfl, hb9⟩
        go_wp2
        go_ret
        exact ⟨rfl, bw.trans (hb9.mono hbws)⟩
end Go.Proofs.Ythplfhjdlbhmlaa
