/- The example of chapter 22; what keeps of a drive. -/
import Derived.Test.YtcklnkilldeamaaDrvCrash
import Derived.Test.YtcklnkilldeamaaDrvRew
namespace Wells
open Go Go.RowKit
theorem Pw.step_ok {s : Pw} {m : Nat} (hl : 0 ≤ s.left ∧ s.left ≤ 9223372036854775807) (ho : 0 ≤ s.offs ∧ s.offs ≤ m) : (0 ≤ s.step.left ∧ s.step.left ≤ 9223372036854775807) ∧ (0 ≤ s.step.offs ∧ s.step.offs ≤ (m + 1 : Nat)) := by
  unfold Pw.step
  split
  · exact ⟨hl, by omega, by omega⟩
  · split
    · split
      · exact ⟨hl, by dsimp only; omega, by dsimp only; omega⟩
      · exact ⟨⟨by dsimp only; omega, by dsimp only; omega⟩, by dsimp only; omega, by dsimp only; omega⟩
    · exact ⟨hl, by omega, by omega⟩
theorem DOk.up {m : Nat} {d : Dr} (h : DOk m d) : DOk (m + 1) d := ⟨h.room, h.len, h.lenB, h.wait, h.cells, h.cellsB, h.left, by have := h.offs; omega⟩
theorem DOk.went {m : Nat} {d : Dr} (h : DOk m d) : DOk m d.went := ⟨h.room, h.len, Nat.zero_le _, h.wait, h.cells, (fun x hx => by cases hx), h.left, h.offs⟩
theorem DOk.append {m : Nat} {d : Dr} {l : List Byte} (h : DOk m d) : DOk (m + 1) (d.append l).1 := by
  unfold Dr.append
  split
  · exact h.up
  · split
    · exact h.up
    · split
      · exact h.up
      · split
        · exact h.up
        · rename_i h64 _ hfull _
          have hs := Pw.step_ok h.left h.offs
          have h1 : DOk (m + 1) { d with L := d.L ++ [l], wait := d.wait + 1, s := d.s.step } :=
            ⟨h.room, by simp; omega, h.lenB, by have := h.wait; simp; omega, fun x hx => by
              rcases List.mem_append.1 hx with hx | hx
              · exact h.cells x hx
              · rw [List.mem_singleton] at hx; subst hx; exact Classical.not_not.1 h64, h.cellsB, hs.1, hs.2⟩
          split
          · exact h1.went
          · exact h1
theorem DOk.new_ {n : Nat} (h : 1 ≤ n ∧ n ≤ 512) : DOk 0 (Dr.new Pw.new n) := ⟨h, Nat.zero_le _, Nat.zero_le _, Nat.le_refl _, (fun x hx => by cases hx), (fun x hx => by cases hx), ⟨Int.le_refl _, by show (0 : Int) ≤ 9223372036854775807; omega⟩, ⟨Int.le_refl _, Int.le_refl _⟩⟩
theorem DOk.sync {m : Nat} {d : Dr} (h : DOk m d) : DOk (m + 1) d.sync.1 := by
  unfold Dr.sync
  split
  · exact h.up
  · have hs := Pw.step_ok h.left h.offs
    split
    · exact DOk.went ⟨h.room, h.len, h.lenB, Nat.zero_le _, h.cells, h.cellsB, hs.1, hs.2⟩
    · exact ⟨h.room, h.len, h.lenB, h.wait, h.cells, h.cellsB, hs.1, hs.2⟩
end Wells
namespace Go.Proofs.Ytcklnkilldeamaa
open Go.RowKit Wells
set_option maxRecDepth 20000 in
set_option maxHeartbeats 4000000 in
theorem wakes22 (w : World) : Calls Try.prog 18 #[] w fun e w' => e = .returned (.bool true) ∧ Below w.heap.size w w' := by
  obtain ⟨i0, hi, hz0, hz1, hz2⟩ := info_parts infoB
  obtain ⟨z, hz⟩ : ∃ z : List Byte, z = List.replicate 64 0#8 := ⟨_, rfl⟩
  have hzl : z.length = 64 := by rw [hz]; rfl
  have hzm : List.replicate 64 (Value.int .u8 0) = z.map bv8 := by rw [hz, List.map_replicate]; rfl
  obtain ⟨D1, hD1⟩ : ∃ D, D = ((Dr.new Pw.new 2).append z).1 := ⟨_, rfl⟩
  have hD1b : (Dr.new Pw.new 2).append z = (D1, 0) := by
    rw [hD1]
    unfold Dr.append
    rw [if_neg (by rw [hzl]; simp)]
    rfl
  have hok1 : DOk 1 D1 := by rw [hD1]; exact (DOk.new_ (by omega)).append
  have hL1 : D1.L.length = 1 := by rw [hD1]; unfold Dr.append; rw [if_neg (by rw [hzl]; simp)]; rfl
  have hcr : (D1.crash 0 0).L = [] := by rw [hD1]; unfold Dr.append; rw [if_neg (by rw [hzl]; simp)]; rfl
  have hroom : (D1.crash 0 0).room = 2 := by rw [hD1]; unfold Dr.append; rw [if_neg (by rw [hzl]; simp)]; rfl
  have H1 := hid hD1b
  have HL := hid hL1
  have HC := hid hcr
  have HR := hid hroom
  have HZ := hid hzl
  have HZM := hid hzm
  clear hD1 hD1b hL1 hcr hroom hz hzl hzm
  have hsz0 := Nat.le_refl w.heap.size
  go_enter Try.func18, Try.ntmps18
  go_wp2_with fail
  refine (pnew_any w).mono ?_
  rintro e w1 ⟨pg, rfl, hpg, hp1, hb1⟩
  go_wp2_with fail
  refine (dnew_any 2 pg Pw.new w1 (by omega) (by omega) hp1).mono ?_
  rintro e w2 ⟨g, rfl, hg, hd2, hb2⟩
  have hz1' := hb1.size
  have hz2' := hb2.size
  have hb02 := hb1.trans (hb2.mono hz1')
  go_wp2_with (at_make; refine wpl_make _ rfl (.const (.int .i64 64)) (.const (.int .i64 64)) 28 rfl 5 i0 (.int .u8 0) 1 Try.underlying28 hi hz0 hz1 hz2 rfl .i64 .i64 _ _ 64 64 rfl rfl rfl (by omega) (by omega) (by omega) (by omega) ?_; intro w3 r3 b3 s3)
  rw [HZM.out] at r3
  have hs3 : Sl w3 (w2.heap.size + 1) 1 (some ⟨w2.heap.size, 0, none⟩) 64 (z.map bv8) := by
    have := r3.sl (B := w2.heap.size + 1) (m := 64) (by omega) (by rw [List.length_map, HZ.out]; exact Nat.le_refl _)
    rwa [List.take_of_length_le (by rw [List.length_map, HZ.out]; exact Nat.le_refl _)] at this
  have hd3 := hd2.new_ b3
  refine (dappend_any _ g pg (Dr.new Pw.new 2) 0 (w2.heap.size + 1) (some ⟨w2.heap.size, 0, none⟩) z 64 64 w3 hd3 (DOk.new_ (by omega)) (by omega) hs3 (by omega) (by omega)).mono ?_
  rintro e w4 ⟨rfl, hd4, ho4⟩
  rw [H1.out] at hd4 ⊢
  dsimp only at hd4 ⊢
  have hb04 : Below w.heap.size w w4 := (hb02.trans (b3.mono (by omega))).trans (ho4.below (fun k hk => by rcases hk with rfl | rfl <;> omega) (by omega))
  go_wp2_with fail
  refine (dlen_any _ g pg D1 w4 hd4).mono ?_
  rintro e w5 ⟨rfl, hw5⟩
  rw [← hw5, HL.out]
  clear hw5 w5
  go_wp2_with fail
  refine (dcrash_any _ g pg D1 1 0 0 w4 hd4 hok1 (by omega) (by omega)).mono ?_
  rintro e w6 ⟨rfl, hd6, ho6⟩
  have hz4 := hb04.size
  have hb06 : Below w.heap.size w w6 := hb04.trans (ho6.below (fun k hk => by
    rcases hk with hk | hk
    · rcases hk with rfl | rfl <;> omega
    · have := b3.size; omega) (by omega))
  go_wp2_with fail
  refine (dlen_any _ g pg _ w6 hd6).mono ?_
  rintro e w7 ⟨rfl, hw7⟩
  rw [← hw7, HC.out]
  clear hw7 w7
  go_wp2_with fail
  refine (droom_any _ g pg _ w6 hd6).mono ?_
  rintro e w8 ⟨rfl, hw8⟩
  rw [← hw8, HR.out]
  clear hw8 w8
  go_wp2_with fail
  go_ret
  exact ⟨rfl, hb06⟩
end Go.Proofs.Ytcklnkilldeamaa
