/- The document's power, and that the two go alike. -/
import Derived.Test.YtcklnkilldeamaaPower
namespace Wells
open Go Go.RowKit
def Pw.rarm (s : Pw) (n : Int) : Pw := if s.off then s else { s with armed := decide (0 ≤ n), left := n }
/-- the program's and the document's, alike -/
structure PwRel (s r : Pw) : Prop where
  off : r.off = s.off
  armed : r.armed = s.armed
  offs : r.offs = s.offs
  left : s.armed = true → r.left = s.left
  lo : 0 ≤ s.left
  hi : s.left ≤ 9223372036854775807
  pos : 0 ≤ s.offs
theorem PwRel.new : PwRel Pw.new Pw.new := ⟨rfl, rfl, rfl, fun _ => rfl, by decide, by decide, by decide⟩
theorem PwRel.arm {s r : Pw} (h : PwRel s r) (n : Int) (hn : n ≤ 9223372036854775807) : PwRel (s.arm n) (r.rarm n) := by
  obtain ⟨h1, h2, h3, h4, h5, h6, h7⟩ := h
  unfold Pw.arm Pw.rarm
  rw [h1]
  split
  · exact ⟨h1, h2, h3, h4, h5, h6, h7⟩
  · rename_i ho
    have ho' : s.off = false := by simpa using ho
    refine ⟨?_, rfl, h3, fun hh => ?_, ?_, ?_, h7⟩
    · simp [ho']
    · simp at hh ⊢; omega
    · simp; omega
    · simp; omega
theorem PwRel.again {s r : Pw} (h : PwRel s r) : PwRel s.again r.again := ⟨rfl, rfl, h.offs, fun _ => rfl, Int.le_refl _, by simp [Pw.again], h.pos⟩
theorem PwRel.step {s r : Pw} (h : PwRel s r) : PwRel s.step r.step ∧ r.goes = s.goes ∧ s.step.offs ≤ s.offs + 1 := by
  obtain ⟨off, armed, left, offs⟩ := s
  obtain ⟨off', armed', left', offs'⟩ := r
  obtain ⟨h1, h2, h3, h4, h5, h6, h7⟩ := h
  dsimp only at h1 h2 h3 h4 h5 h6 h7
  subst h1 h2 h3
  cases off'
  · cases armed'
    · exact ⟨⟨rfl, rfl, rfl, h4, h5, h6, h7⟩, rfl, by simp [Pw.step]; omega⟩
    · have := h4 rfl
      subst this
      by_cases hz : left' = 0
      · subst hz
        exact ⟨⟨rfl, rfl, rfl, fun _ => rfl, by simp [Pw.step], by simp [Pw.step], by simp [Pw.step]; omega⟩, rfl, by simp [Pw.step]⟩
      · refine ⟨⟨?_, ?_, ?_, ?_, ?_, ?_, ?_⟩, rfl, ?_⟩ <;> simp [Pw.step, hz] <;> omega
  · exact ⟨⟨rfl, rfl, rfl, h4, h5, h6, h7⟩, rfl, by simp [Pw.step]; omega⟩
end Wells
namespace Go.Proofs.Ytcklnkilldeamaa
open Go.RowKit Wells
theorem rarm_any (g : Nat) (s : Pw) (n : Int) (w : World) (h : Row w g 51 (pw s)) : Calls Try.prog 44 #[.pointer (some ⟨g, 0, none⟩), .int .i64 n] w fun e w' => e = .returned (.tuple #[]) ∧ Row w' g 51 (pw (s.rarm n)) ∧ w.grownBy w' (some g) := by
  obtain ⟨off, armed, left, offs⟩ := s
  have h0 : w.cell? ⟨g, 0, none⟩ = some (.bool off) := h.cell 0
  have h1 : w.cell? ⟨g, 1, none⟩ = some (.bool armed) := h.cell 1
  have h2 : w.cell? ⟨g, 2, none⟩ = some (.int .i64 left) := h.cell 2
  have f1 := h.frozen 1
  have f2 := h.frozen 2
  have H := hid h
  clear h
  cases off
  · by_cases hn : 0 ≤ n
    · go_enter Try.func44, Try.ntmps44
      go_wp2
      go_end0
      refine ⟨rfl, ((H.out.set 1 _).set 2 _).to ?_, only_set (only_set (World.grownBy.refl w _) _ _) _ _⟩
      simp [pw, Pw.rarm, hn]
    · have hn' : decide (0 ≤ n) = false := by simp; omega
      go_enter Try.func44, Try.ntmps44
      go_wp2
      go_end0
      refine ⟨rfl, ((H.out.set 1 _).set 2 _).to ?_, only_set (only_set (World.grownBy.refl w _) _ _) _ _⟩
      simp [pw, Pw.rarm, hn]
  · go_enter Try.func44, Try.ntmps44
    go_wp2
    go_end0
    exact ⟨rfl, H.out, World.grownBy.refl w _⟩
theorem ragain_any (g : Nat) (s : Pw) (w : World) (h : Row w g 51 (pw s)) : Calls Try.prog 46 #[.pointer (some ⟨g, 0, none⟩)] w fun e w' => e = .returned (.tuple #[]) ∧ Row w' g 51 (pw s.again) ∧ w.grownBy w' (some g) := by
  obtain ⟨off, armed, left, offs⟩ := s
  have h0 : w.cell? ⟨g, 0, none⟩ = some (.bool off) := h.cell 0
  have h1 : w.cell? ⟨g, 1, none⟩ = some (.bool armed) := h.cell 1
  have h2 : w.cell? ⟨g, 2, none⟩ = some (.int .i64 left) := h.cell 2
  have f0 := h.frozen 0
  have f1 := h.frozen 1
  have f2 := h.frozen 2
  have H := hid h
  clear h
  go_enter Try.func46, Try.ntmps46
  go_wp2
  go_end0
  refine ⟨rfl, (((H.out.set 0 _).set 1 _).set 2 _).to ?_, only_set (only_set (only_set (World.grownBy.refl w _) _ _) _ _) _ _⟩
  simp [pw, Pw.again]
theorem rstep_any (g : Nat) (s : Pw) (w : World) (h : Row w g 51 (pw s)) (hl : s.armed = true → 0 ≤ s.left ∧ s.left ≤ 9223372036854775807) (ho : 0 ≤ s.offs ∧ s.offs < 4611686018427387904) :
    Calls Try.prog 49 #[.pointer (some ⟨g, 0, none⟩)] w fun e w' => e = .returned (.bool s.goes) ∧ Row w' g 51 (pw s.step) ∧ w.grownBy w' (some g) := by
  obtain ⟨off, armed, left, offs⟩ := s
  obtain ⟨o1, o2⟩ := ho
  dsimp only at hl o1 o2
  have h0 : w.cell? ⟨g, 0, none⟩ = some (.bool off) := h.cell 0
  have h1 : w.cell? ⟨g, 1, none⟩ = some (.bool armed) := h.cell 1
  have h2 : w.cell? ⟨g, 2, none⟩ = some (.int .i64 left) := h.cell 2
  have h3 : w.cell? ⟨g, 3, none⟩ = some (.int .i64 offs) := h.cell 3
  have f0 := h.frozen 0
  have f1 := h.frozen 1
  have f2 := h.frozen 2
  have f3 := h.frozen 3
  have H := hid h
  clear h
  cases off
  · cases armed
    · clear hl
      go_enter Try.func49, Try.ntmps49
      go_wp2
      go_ret
      exact ⟨rfl, H.out, World.grownBy.refl w _⟩
    · obtain ⟨l1, l2⟩ := hl rfl
      clear hl
      by_cases hz : left = 0
      · subst hz
        go_enter Try.func49, Try.ntmps49
        go_wp2
        go_ret
        refine ⟨rfl, ((H.out.set 0 _).set 3 _).to ?_, only_set (only_set (World.grownBy.refl w _) _ _) _ _⟩
        simp [pw, Pw.step]
      · have hb : (left == 0) = false := by simp [hz]
        go_enter Try.func49, Try.ntmps49
        go_wp2
        go_ret
        refine ⟨ret_bool (by simp [Pw.goes, hz]), (H.out.set 2 _).to ?_, only_set (World.grownBy.refl w _) _ _⟩
        simp [pw, Pw.step, hz]
  · clear hl
    go_enter Try.func49, Try.ntmps49
    go_wp2
    go_ret
    exact ⟨rfl, H.out, World.grownBy.refl w _⟩
end Go.Proofs.Ytcklnkilldeamaa
