/- The power: what each call of package power does to the four cells of a Power. -/
import Derived.Test.YtcklnkilldeamaaProg
import Derived.Test.YtcklnkilldeamaaWords
namespace Wells
open Go Go.RowKit
/-- a Power: off, armed, how many steps go, how often it went off -/
structure Pw where
  off : Bool
  armed : Bool
  left : Int
  offs : Int
def pw (s : Pw) : List Value := [.bool s.off, .bool s.armed, .int .i64 s.left, .int .i64 s.offs]
def Pw.new : Pw := ⟨false, false, 0, 0⟩
def Pw.arm (s : Pw) (n : Int) : Pw := if s.off then s else { s with armed := decide (0 ≤ n), left := max n 0 }
def Pw.step (s : Pw) : Pw := if s.off then s else if s.armed then (if s.left = 0 then { s with off := true, offs := s.offs + 1 } else { s with left := s.left - 1 }) else s
def Pw.goes (s : Pw) : Bool := !s.off && (!s.armed || !decide (s.left = 0))
def Pw.again (s : Pw) : Pw := { s with off := false, armed := false, left := 0 }
theorem only_set {w wr : World} {g : Nat} (h : w.grownBy wr (some g)) (j : Nat) (u : Value) : w.grownBy (wr.setCell ⟨g, j, none⟩ u) (some g) :=
  ⟨h.os, h.tape, h.output, by simpa [World.setCell] using h.size, fun i hi hne => (Below.heap_setCell wr ⟨g, j, none⟩ u i (fun e => hne (by rw [e]))).trans (h.block i hi hne)⟩
theorem only_drew {w wr : World} {row : Option Nat} (h : w.grownBy wr row) : w.grownBy wr.drew row := ⟨h.os, h.tape, h.output, h.size, h.block⟩
theorem only_drewN {w wr : World} {row : Option Nat} (h : w.grownBy wr row) (d : Nat) : w.grownBy (wr.drewN d) row := ⟨h.os, h.tape, h.output, h.size, h.block⟩
end Wells
namespace Go.Proofs.Ytcklnkilldeamaa
open Go.RowKit Wells

theorem pnew_any (w : World) : Calls Try.prog 8 #[] w fun e w' => ∃ g, e = .returned (.pointer (some ⟨g, 0, none⟩)) ∧ w.heap.size ≤ g ∧ Row w' g 58 (pw Pw.new) ∧ Below w.heap.size w w' := by
  go_enter Try.func8, Try.ntmps8
  go_wp2
  go_ret
  refine ⟨_, rfl, Nat.le_refl _, Row.new w _ _, (Below.refl _ _).alloc (Nat.le_refl _) _⟩

theorem pon_any (g : Nat) (s : Pw) (w : World) (h : Row w g 58 (pw s)) : Calls Try.prog 33 #[.pointer (some ⟨g, 0, none⟩)] w fun e w' => e = .returned (.bool (!s.off)) ∧ w = w' := by
  have h0 : w.cell? ⟨g, 0, none⟩ = some (.bool s.off) := h.cell 0
  go_enter Try.func33, Try.ntmps33
  go_wp2
  go_ret
  exact ⟨rfl, rfl⟩
theorem parm_any (g : Nat) (s : Pw) (n : Int) (w : World) (h : Row w g 58 (pw s)) : Calls Try.prog 19 #[.pointer (some ⟨g, 0, none⟩), .int .i64 n] w fun e w' => e = .returned (.tuple #[]) ∧ Row w' g 58 (pw (s.arm n)) ∧ w.grownBy w' (some g) := by
  obtain ⟨off, armed, left, offs⟩ := s
  have h1 : w.cell? ⟨g, 1, none⟩ = some (.bool armed) := h.cell 1
  have h2 : w.cell? ⟨g, 2, none⟩ = some (.int .i64 left) := h.cell 2
  have f1 := h.frozen 1
  have f2 := h.frozen 2
  have H := hid h
  clear h
  cases off
  · by_cases hn : 0 ≤ n
    · go_enter Try.func19, Try.ntmps19
      go_wp2_with fail
      refine (pon_any g _ _ H.out).mono ?_
      rintro e w1 ⟨rfl, rfl⟩
      go_wp2
      go_end0
      refine ⟨rfl, ((H.out.set 1 _).set 2 _).to ?_, only_set (only_set (World.grownBy.refl w _) _ _) _ _⟩
      simp [pw, Pw.arm, hn]; omega
    · have hn' : decide (0 ≤ n) = false := by simp; omega
      go_enter Try.func19, Try.ntmps19
      go_wp2_with fail
      refine (pon_any g _ _ H.out).mono ?_
      rintro e w1 ⟨rfl, rfl⟩
      go_wp2
      go_end0
      refine ⟨rfl, ((H.out.set 1 _).set 2 _).to ?_, only_set (only_set (World.grownBy.refl w _) _ _) _ _⟩
      simp [pw, Pw.arm, hn]; omega
  · go_enter Try.func19, Try.ntmps19
    go_wp2_with fail
    refine (pon_any g _ _ H.out).mono ?_
    rintro e w1 ⟨rfl, rfl⟩
    go_wp2
    refine bodyPost_ret (results_none rfl _ _ _) rfl ?_
    exact ⟨rfl, H.out, World.grownBy.refl w _⟩
theorem pagain_any (g : Nat) (s : Pw) (w : World) (h : Row w g 58 (pw s)) : Calls Try.prog 45 #[.pointer (some ⟨g, 0, none⟩)] w fun e w' => e = .returned (.tuple #[]) ∧ Row w' g 58 (pw s.again) ∧ w.grownBy w' (some g) := by
  obtain ⟨off, armed, left, offs⟩ := s
  have h0 : w.cell? ⟨g, 0, none⟩ = some (.bool off) := h.cell 0
  have h1 : w.cell? ⟨g, 1, none⟩ = some (.bool armed) := h.cell 1
  have h2 : w.cell? ⟨g, 2, none⟩ = some (.int .i64 left) := h.cell 2
  have f0 := h.frozen 0
  have f1 := h.frozen 1
  have f2 := h.frozen 2
  have H := hid h
  clear h
  go_enter Try.func45, Try.ntmps45
  go_wp2
  go_end0
  refine ⟨rfl, (((H.out.set 0 _).set 1 _).set 2 _).to ?_, only_set (only_set (only_set (World.grownBy.refl w _) _ _) _ _) _ _⟩
  simp [pw, Pw.again]
theorem pstep_any (g : Nat) (s : Pw) (w : World) (h : Row w g 58 (pw s)) (hl : 0 ≤ s.left ∧ s.left ≤ 9223372036854775807) (ho : 0 ≤ s.offs ∧ s.offs < 4611686018427387904) :
    Calls Try.prog 35 #[.pointer (some ⟨g, 0, none⟩)] w fun e w' => e = .returned (.bool s.goes) ∧ Row w' g 58 (pw s.step) ∧ w.grownBy w' (some g) := by
  obtain ⟨off, armed, left, offs⟩ := s
  obtain ⟨l1, l2⟩ := hl
  obtain ⟨o1, o2⟩ := ho
  dsimp only at l1 l2 o1 o2
  have h0 : w.cell? ⟨g, 0, none⟩ = some (.bool off) := h.cell 0
  have h1 : w.cell? ⟨g, 1, none⟩ = some (.bool armed) := h.cell 1
  have h2 : w.cell? ⟨g, 2, none⟩ = some (.int .i64 left) := h.cell 2
  have h3 : w.cell? ⟨g, 3, none⟩ = some (.int .i64 offs) := h.cell 3
  have f0 := h.frozen 0
  have f1 := h.frozen 1
  have f2 := h.frozen 2
  have f3 := h.frozen 3
  have H := hid h
  clear h
  cases off
  · cases armed
    · go_enter Try.func35, Try.ntmps35
      go_wp2_with fail
      refine (pon_any g _ _ H.out).mono ?_
      rintro e w1 ⟨rfl, rfl⟩
      go_wp2
      go_ret
      exact ⟨rfl, H.out, World.grownBy.refl w _⟩
    · by_cases hz : left = 0
      · subst hz
        go_enter Try.func35, Try.ntmps35
        go_wp2_with fail
        refine (pon_any g _ _ H.out).mono ?_
        rintro e w1 ⟨rfl, rfl⟩
        go_wp2
        go_ret
        refine ⟨rfl, ((H.out.set 0 _).set 3 _).to ?_, only_set (only_set (World.grownBy.refl w _) _ _) _ _⟩
        simp [pw, Pw.step]
      · have hb : (left == 0) = false := by simp [hz]
        go_enter Try.func35, Try.ntmps35
        go_wp2_with fail
        refine (pon_any g _ _ H.out).mono ?_
        rintro e w1 ⟨rfl, rfl⟩
        go_wp2
        go_ret
        refine ⟨ret_bool (by simp [Pw.goes, hz]), (H.out.set 2 _).to ?_, only_set (World.grownBy.refl w _) _ _⟩
        simp [pw, Pw.step, hz]
  · go_enter Try.func35, Try.ntmps35
    go_wp2_with fail
    refine (pon_any g _ _ H.out).mono ?_
    rintro e w1 ⟨rfl, rfl⟩
    go_wp2
    go_ret
    exact ⟨rfl, H.out, World.grownBy.refl w _⟩
end Go.Proofs.Ytcklnkilldeamaa
