/- The walks of chapter 21's laws. -/
import Derived.Test.YtockoicaijohbaaRefPower
import Derived.Test.YtockoicaijohbaaWithin
import Derived.Deep.QuietTactic
import Derived.BigQuiet
import Derived.Test.YtockoicaijohbaaFrame
namespace Go.Proofs.Ytockoicaijohbaa
open Go.RowKit Wells
/-- a power of the call's own, in the world w -/
structure PS (w0 w : World) (g : Nat) (s : Pw) : Prop where
  row : Row w g 35 (pw s)
  own : w0.heap.size ≤ g
  bel : Below w0.heap.size w0 w
theorem PS.next {w0 w w' : World} {g : Nat} {s s' : Pw} (h : PS w0 w g s) (hr : Row w' g 35 (pw s')) (hg : w.grownBy w' (some g)) : PS w0 w' g s' :=
  ⟨hr, h.own, below_only h.bel hg h.own h.bel.size⟩
theorem pon_nil (w : World) : Calls Try.prog 13 #[.pointer none] w fun e w' => e = .returned (.bool false) ∧ w = w' := by
  go_enter Try.func13, Try.ntmps13
  go_wp2
  go_ret
  exact ⟨rfl, rfl⟩
theorem poffs_nil (w : World) : Calls Try.prog 14 #[.pointer none] w fun e w' => e = .returned (.int .i64 0) ∧ w = w' := by
  go_enter Try.func14, Try.ntmps14
  go_wp2
  go_ret
  exact ⟨rfl, rfl⟩
theorem pstep_nil (w : World) : Calls Try.prog 11 #[.pointer none] w fun e w' => e = .returned (.bool false) ∧ w = w' := by
  go_enter Try.func11, Try.ntmps11
  go_wp2_with fail
  refine (pon_nil _).mono ?_
  rintro e w1 ⟨rfl, rfl⟩
  go_wp2
  go_ret
  exact ⟨rfl, rfl⟩
theorem parm_nil (n : Int) (w : World) : Calls Try.prog 7 #[.pointer none, .int .i64 n] w fun e w' => e = .returned (.tuple #[]) ∧ w = w' := by
  go_enter Try.func7, Try.ntmps7
  go_wp2_with fail
  refine (pon_nil _).mono ?_
  rintro e w1 ⟨rfl, rfl⟩
  go_wp2
  refine bodyPost_ret (results_none rfl _ _ _) rfl ?_
  exact ⟨rfl, rfl⟩
theorem pagain_nil (w : World) : Calls Try.prog 9 #[.pointer none] w fun e w' => e = .returned (.tuple #[]) ∧ w = w' := by
  go_enter Try.func9, Try.ntmps9
  go_wp2
  go_end0
  exact ⟨rfl, rfl⟩
theorem wakes21 (w : World) : Calls Try.prog 15 #[] w fun e w' => e = .returned (.bool true) ∧ Below w.heap.size w w' := by
  go_enter Try.func15, Try.ntmps15
  go_wp2_with fail
  refine (pnew_any _).mono ?_
  rintro e w1 ⟨g, rfl, hg, hr, hb⟩
  have p0 : PS w w1 g Pw.new := ⟨hr, hg, hb⟩
  clear hr hg hb
  go_wp2_with fail
  refine (parm_any g _ 1 _ p0.row).mono ?_
  rintro e w2 ⟨rfl, hr, hg⟩
  have p1 := p0.next hr hg
  clear hr hg p0
  have e1 : Pw.new.arm 1 = ⟨false, true, 1, 0⟩ := rfl
  rw [e1] at p1
  clear e1
  go_wp2_with fail
  refine (pstep_any g _ _ p1.row (by decide) (by decide)).mono ?_
  rintro e w3 ⟨rfl, hr, hg⟩
  have p2 : PS w w3 g ⟨false, true, 0, 0⟩ := p1.next hr hg
  clear hr hg p1
  have e1 : Pw.goes ⟨false, true, 1, 0⟩ = true := rfl
  rw [e1]
  clear e1
  go_wp2_with fail
  refine (pstep_any g _ _ p2.row (by decide) (by decide)).mono ?_
  rintro e w4 ⟨rfl, hr, hg⟩
  have p3 : PS w w4 g ⟨true, true, 0, 1⟩ := p2.next hr hg
  clear hr hg p2
  have e1 : Pw.goes ⟨false, true, 0, 0⟩ = false := rfl
  rw [e1]
  clear e1
  go_wp2_with fail
  refine (pon_any g _ _ p3.row).mono ?_
  rintro e w5 ⟨rfl, rfl⟩
  go_wp2_with fail
  refine (poffs_any g _ _ p3.row).mono ?_
  rintro e w5 ⟨rfl, rfl⟩
  go_wp2
  go_ret
  exact ⟨rfl, p3.bel⟩
theorem walk_PowerEnds (n m : Int) (w : World) (hn : -9223372036854775808 ≤ n ∧ n ≤ 9223372036854775807) (hm : -9223372036854775808 ≤ m ∧ m ≤ 9223372036854775807) :
    Calls Try.prog 5 #[.int .i64 n, .int .i64 m] w fun e w' => e = .returned (.bool true) ∧ Below w.heap.size w w' := by
  obtain ⟨n9, hn9⟩ : ∃ z, z = n % 9 := ⟨_, rfl⟩
  obtain ⟨m9, hm9⟩ : ∃ z, z = m % 9 := ⟨_, rfl⟩
  have h1 : 0 ≤ n9 := by omega
  have h2 : n9 ≤ 8 := by omega
  have h3 : 0 ≤ m9 := by omega
  have h4 : m9 ≤ 8 := by omega
  have HN := hid hn9
  have HM := hid hm9
  clear hn9 hm9
  go_enter Try.func5, Try.ntmps5
  go_wp2_with fail
  refine (pnew_any _).mono ?_
  rintro e w1 ⟨g, rfl, hg, hr, hb⟩
  have p0 : PS w w1 g Pw.new := ⟨hr, hg, hb⟩
  clear hr hg hb
  go_wp2_with fail
  refine (within_any n 9 _ hn.1 hn.2 (by omega) (by omega)).mono ?_
  rintro e w2 ⟨rfl, rfl⟩
  rw [← HN.out]
  go_wp2_with fail
  refine (parm_any g _ n9 _ p0.row).mono ?_
  rintro e w2 ⟨rfl, hr, hg⟩
  have p1 := p0.next hr hg
  clear hr hg p0
  go_wp2_with fail
  refine (within_any m 9 _ hm.1 hm.2 (by omega) (by omega)).mono ?_
  rintro e w3 ⟨rfl, rfl⟩
  rw [← HM.out]
  go_wp2_with fail
  refine (parm_any g _ (-1 - m9) _ p1.row).mono ?_
  rintro e w3 ⟨rfl, hr, hg⟩
  have p2 : PS w w3 g ⟨false, false, 0, 0⟩ := by
    have e1 : (Pw.new.arm n9).arm (-1 - m9) = ⟨false, false, 0, 0⟩ := by
      simp [Pw.arm, Pw.new]; omega
    have := p1.next hr hg
    rwa [e1] at this
  clear hr hg p1
  go_wp2_with fail
  go_loopw [6] (fun i wr => ∃ k : Nat, k ≤ 30 ∧ i = .int .i64 k ∧ PS w wr g ⟨false, false, 0, 0⟩) (fun i _ => 30 - (intOf i).toNat)
  case atStart => exact ⟨0, by omega, rfl, p2⟩
  case round =>
    obtain ⟨k, hk, rfl, p⟩ := hrel
    by_cases hlt : k < 30
    · go_wp2_with fail
      refine (pstep_any g _ _ p.row (by decide) (by decide)).mono ?_
      rintro e w4 ⟨rfl, hr, hg⟩
      have p' : PS w w4 g ⟨false, false, 0, 0⟩ := p.next hr hg
      clear hr hg
      have e1 : Pw.goes ⟨false, false, 0, 0⟩ = true := rfl
      rw [e1]
      clear e1
      go_wp2
      go_roundw
      case rel => exact ⟨k + 1, by omega, by go_num, p'⟩
      case measure => simp [intOf]; omega
    · go_wp2_with fail
      refine (parm_nil n _).mono ?_
      rintro e w4 ⟨rfl, rfl⟩
      go_wp2_with fail
      refine (pagain_nil _).mono ?_
      rintro e w4 ⟨rfl, rfl⟩
      go_wp2_with fail
      refine (pon_nil _).mono ?_
      rintro e w4 ⟨rfl, rfl⟩
      go_wp2_with fail
      refine (pstep_nil _).mono ?_
      rintro e w4 ⟨rfl, rfl⟩
      go_wp2_with fail
      refine (poffs_nil _).mono ?_
      rintro e w4 ⟨rfl, rfl⟩
      go_wp2_with fail
      refine (wakes21 _).mono ?_
      rintro e w4 ⟨rfl, hb⟩
      go_wp2
      go_ret
      exact ⟨rfl, p.bel.trans (hb.mono p.bel.size)⟩
theorem walk_PowerCounts (n b : Int) (w : World) (hn : -9223372036854775808 ≤ n ∧ n ≤ 9223372036854775807) (hb : -9223372036854775808 ≤ b ∧ b ≤ 9223372036854775807) :
    Calls Try.prog 4 #[.int .i64 n, .int .i64 b] w fun e w' => e = .returned (.bool true) ∧ Below w.heap.size w w' := by
  obtain ⟨N, hN⟩ : ∃ N : Nat, (N : Int) = n % 200 := ⟨(n % 200).toNat, by omega⟩
  obtain ⟨M, hM⟩ : ∃ M : Nat, (M : Int) = b % 20 := ⟨(b % 20).toNat, by omega⟩
  have h2 : N < 200 := by omega
  have h4 : M < 20 := by omega
  have HN := hid hN
  have HM := hid hM
  clear hN hM
  go_enter Try.func4, Try.ntmps4
  go_wp2_with fail
  refine (pnew_any _).mono ?_
  rintro e w1 ⟨g, rfl, hg, hr, hbb⟩
  have p0 : PS w w1 g ⟨false, false, 0, 0⟩ := ⟨hr, hg, hbb⟩
  clear hr hg hbb
  go_wp2_with fail
  refine (within_any n 200 _ hn.1 hn.2 (by omega) (by omega)).mono ?_
  rintro e w2 ⟨rfl, rfl⟩
  rw [← HN.out]
  go_wp2_with fail
  go_loopw [6] (fun i wr => ∃ k : Nat, k ≤ M ∧ i = .int .i64 k ∧ PS w wr g ⟨false, false, 0, 0⟩) (fun i _ => M - (intOf i).toNat)
  case atStart => exact ⟨0, by omega, rfl, p0⟩
  case round =>
    obtain ⟨k, hk, rfl, p⟩ := hrel
    go_wp2_with fail
    refine (within_any b 20 _ hb.1 hb.2 (by omega) (by omega)).mono ?_
    rintro e w2 ⟨rfl, rfl⟩
    rw [← HM.out]
    by_cases hlt : k < M
    · go_wp2_with fail
      refine (pstep_any g _ _ p.row (by decide) (by decide)).mono ?_
      rintro e w4 ⟨rfl, hr, hg⟩
      have p' : PS w w4 g ⟨false, false, 0, 0⟩ := p.next hr hg
      clear hr hg
      have e1 : Pw.goes ⟨false, false, 0, 0⟩ = true := rfl
      rw [e1]
      clear e1
      go_wp2
      go_roundw
      case rel => exact ⟨k + 1, by omega, by go_num, p'⟩
      case measure => simp [intOf]; omega
    · go_wp2_with fail
      refine (parm_any g _ N _ p.row).mono ?_
      rintro e w4 ⟨rfl, hr, hg⟩
      have p1 : PS w w4 g ⟨false, true, N, 0⟩ := by
        have e1 : Pw.arm ⟨false, false, 0, 0⟩ N = ⟨false, true, N, 0⟩ := by simp [Pw.arm]
        have := p.next hr hg
        rwa [e1] at this
      clear hr hg p
      go_wp2_with fail
      go_loopw [7] (fun i wr => ∃ k : Nat, k ≤ N ∧ i = .int .i64 k ∧ PS w wr g ⟨false, true, (N - k : Nat), 0⟩) (fun i _ => N - (intOf i).toNat)
      case atStart => exact ⟨0, by omega, rfl, p1⟩
      case round =>
        obtain ⟨k2, hk2, rfl, p2⟩ := hrel
        by_cases hlt2 : k2 < N
        · go_wp2_with fail
          refine (pstep_any g _ _ p2.row (by dsimp only; omega) ⟨Int.le_refl 0, by show (0 : Int) < 4611686018427387904; omega⟩).mono ?_
          rintro e w5 ⟨rfl, hr, hg⟩
          have hz : ¬ (((N - k2 : Nat) : Int) = 0) := by omega
          have p3 : PS w w5 g ⟨false, true, (N - (k2 + 1) : Nat), 0⟩ := by
            have e1 : Pw.step ⟨false, true, (N - k2 : Nat), 0⟩ = ⟨false, true, (N - (k2 + 1) : Nat), 0⟩ := by
              simp only [Pw.step, Bool.false_eq_true, if_false, if_true, hz]
              congr 1; omega
            have := p2.next hr hg
            rwa [e1] at this
          have e1 : Pw.goes ⟨false, true, (N - k2 : Nat), 0⟩ = true := by simp [Pw.goes]; omega
          rw [e1]
          clear hr hg p2 e1 hz
          go_wp2_with fail
          refine (pon_any g _ _ p3.row).mono ?_
          rintro e w6 ⟨rfl, rfl⟩
          go_wp2_with fail
          refine (poffs_any g _ _ p3.row).mono ?_
          rintro e w6 ⟨rfl, rfl⟩
          go_wp2
          go_roundw
          case rel => exact ⟨k2 + 1, by omega, by go_num, p3⟩
          case measure => simp [intOf]; omega
        · have hkN : N - k2 = 0 := by omega
          rw [hkN] at p2
          clear hkN p1
          go_wp2_with fail
          go_loopw [8] (fun i wr => ∃ (k : Nat) (s : Pw), k ≤ 5 ∧ i = .int .i64 k ∧ PS w wr g s ∧ Hid (s.goes = false ∧ s.step = ⟨true, true, 0, 1⟩ ∧ s.left = 0 ∧ 0 ≤ s.offs ∧ s.offs ≤ 1 ∧ (k = 5 → s = ⟨true, true, 0, 1⟩))) (fun i _ => 5 - (intOf i).toNat)
          case atStart => exact ⟨0, _, by omega, rfl, p2, ⟨rfl, rfl, rfl, by decide, by decide, by omega⟩⟩
          case round =>
            obtain ⟨k3, s, hk3, rfl, p3, hs⟩ := hrel
            by_cases hlt3 : k3 < 5
            · go_wp2_with fail
              refine (pstep_any g _ _ p3.row (by rw [hs.out.2.2.1]; decide) ⟨hs.out.2.2.2.1, by have := hs.out.2.2.2.2.1; omega⟩).mono ?_
              rintro e w5 ⟨rfl, hr, hg⟩
              have p4 : PS w w5 g ⟨true, true, 0, 1⟩ := by
                have := p3.next hr hg
                rwa [hs.out.2.1] at this
              rw [hs.out.1]
              clear hr hg p3
              go_wp2_with fail
              refine (pon_any g _ _ p4.row).mono ?_
              rintro e w6 ⟨rfl, rfl⟩
              go_wp2_with fail
              refine (poffs_any g _ _ p4.row).mono ?_
              rintro e w6 ⟨rfl, rfl⟩
              go_wp2_with fail
              refine (parm_any g _ 7 _ p4.row).mono ?_
              rintro e w6 ⟨rfl, hr, hg⟩
              have p5 : PS w w6 g ⟨true, true, 0, 1⟩ := p4.next hr hg
              clear hr hg p4
              go_wp2
              go_roundw
              case rel => exact ⟨k3 + 1, _, by omega, by go_num, p5, ⟨rfl, rfl, rfl, by decide, by decide, fun _ => rfl⟩⟩
              case measure => simp [intOf]; omega
            · have h5 := hs.out.2.2.2.2.2 (by omega)
              subst h5
              go_wp2_with fail
              refine (pagain_any g _ _ p3.row).mono ?_
              rintro e w5 ⟨rfl, hr, hg⟩
              have p4 : PS w w5 g ⟨false, false, 0, 1⟩ := p3.next hr hg
              clear hr hg p3
              go_wp2_with fail
              go_loopw [9] (fun i wr => ∃ k : Nat, k ≤ 20 ∧ i = .int .i64 k ∧ PS w wr g ⟨false, false, 0, 1⟩) (fun i _ => 20 - (intOf i).toNat)
              case atStart => exact ⟨0, by omega, rfl, p4⟩
              case round =>
                obtain ⟨k4, hk4, rfl, p5⟩ := hrel
                by_cases hlt4 : k4 < 20
                · go_wp2_with fail
                  refine (pstep_any g _ _ p5.row (by decide) (by decide)).mono ?_
                  rintro e w6 ⟨rfl, hr, hg⟩
                  have p6 : PS w w6 g ⟨false, false, 0, 1⟩ := p5.next hr hg
                  clear hr hg
                  have e1 : Pw.goes ⟨false, false, 0, 1⟩ = true := rfl
                  rw [e1]
                  clear e1
                  go_wp2
                  go_roundw
                  case rel => exact ⟨k4 + 1, by omega, by go_num, p6⟩
                  case measure => simp [intOf]; omega
                · go_wp2_with fail
                  refine (pon_any g _ _ p5.row).mono ?_
                  rintro e w6 ⟨rfl, rfl⟩
                  go_wp2_with fail
                  refine (poffs_any g _ _ p5.row).mono ?_
                  rintro e w6 ⟨rfl, rfl⟩
                  go_wp2_with fail
                  refine (wakes21 _).mono ?_
                  rintro e w6 ⟨rfl, hb6⟩
                  go_wp2
                  go_ret
                  exact ⟨rfl, p5.bel.trans (hb6.mono p5.bel.size)⟩

theorem int_get (l : List Int) (k : Nat) (h : k < l.length) : (l.map (Value.int .i64))[k]? = some (.int .i64 (l.getD k 0)) := by
  rw [List.getElem?_map, List.getElem?_eq_getElem h]; simp [h]
theorem getD_wf {l : List Int} (h : ∀ z ∈ l, -9223372036854775808 ≤ z ∧ z ≤ 9223372036854775807) (k : Nat) (hk : k < l.length) : -9223372036854775808 ≤ l.getD k 0 ∧ l.getD k 0 ≤ 9223372036854775807 := by
  rw [List.getD_eq_getElem?_getD, List.getElem?_eq_getElem hk]
  exact h _ (List.getElem_mem _)
/-- the program's power and the document's, in the world w -/
structure PR (w0 w : World) (g1 g2 : Nat) (s r : Pw) : Prop where
  row : Row w g1 35 (pw s)
  ref : Row w g2 27 (pw r)
  rel : PwRel s r
  ne : g1 ≠ g2
  own1 : w0.heap.size ≤ g1
  own2 : w0.heap.size ≤ g2
  bel : Below w0.heap.size w0 w
theorem PR.next1 {w0 w w' : World} {g1 g2 : Nat} {s r : Pw} (h : PR w0 w g1 g2 s r) (hg : w.grownBy w' (some g1)) : Row w' g2 27 (pw r) ∧ Below w0.heap.size w0 w' :=
  ⟨h.ref.grown hg (fun e => h.ne (by injection e with e; exact e.symm)), below_only h.bel hg h.own1 h.bel.size⟩
theorem PR.next2 {w0 w w' w'' : World} {g1 g2 : Nat} {s r s' r' : Pw} (h : PR w0 w g1 g2 s r) (h1 : Row w' g1 35 (pw s')) (hb : Below w0.heap.size w0 w') (h2 : Row w'' g2 27 (pw r')) (hg : w'.grownBy w'' (some g2)) (hr : PwRel s' r') : PR w0 w'' g1 g2 s' r' :=
  ⟨h1.grown hg (fun e => h.ne (by injection e)), h2, hr, h.ne, h.own1, h.own2, below_only hb hg h.own2 hb.size⟩
theorem PR.drewN {w0 w : World} {g1 g2 : Nat} {s r : Pw} (h : PR w0 w g1 g2 s r) (d : Nat) : PR w0 (w.drewN d) g1 g2 s r :=
  ⟨h.row.drewN d, h.ref.drewN d, h.rel, h.ne, h.own1, h.own2, ⟨h.bel.os, h.bel.tape, h.bel.output, h.bel.size, h.bel.block⟩⟩
set_option maxHeartbeats 800000 in
theorem walk_PowerPlays (A : Option Addr) (n c : Nat) (l : List Int) (A' : Option Addr) (n' c' : Nat) (l' : List Int) (w : World) (h : IsInts w A n c l) (h' : IsInts w A' n' c' l') :
    Calls Try.prog 3 #[.slice A n c, .slice A' n' c'] w fun e w' => e = .returned (.bool true) ∧ Below w.heap.size w w' := by
  obtain ⟨hs, hle, hcap, hwf⟩ := h
  obtain ⟨hs', hle', hcap', hwf'⟩ := h'
  have HL := hid (show l.length = n by have := hs.len; simpa using this)
  have HL' := hid (show l'.length = n' by have := hs'.len; simpa using this)
  have HW := hid hwf
  have HW' := hid hwf'
  clear hwf hwf'
  go_enter Try.func3, Try.ntmps3
  go_wp2_with fail
  refine (pnew_any _).mono ?_
  rintro e w1 ⟨g, rfl, hg, hr, hb⟩
  have pr : PR w (w1.alloc (.cells #[.bool false, .bool false, .int .i64 0, .int .i64 0] 27)) g w1.heap.size Pw.new Pw.new :=
    ⟨hr.alloc _, Row.new w1 _ _, PwRel.new, Nat.ne_of_lt hr.lt, hg, hb.size, hb.alloc hb.size _⟩
  generalize hg2 : w1.heap.size = g2 at *
  have HG := hid hg2
  clear hg2
  go_wp2_with fail
  rw [HG.out]
  go_loopw [7] (fun i wr => ∃ (k : Nat) (s r : Pw), k ≤ n ∧ k ≤ 60 ∧ i = .int .i64 k ∧ PR w wr g g2 s r ∧ Hid (s.offs ≤ k)) (fun i _ => n - (intOf i).toNat)
  case atStart => exact ⟨0, _, _, by omega, by omega, rfl, pr, Int.le_refl 0⟩
  case round =>
    clear pr
    obtain ⟨k, s, r, hk, hk60, rfl, p, hof⟩ := hrel
    by_cases hlt : k < n ∧ k < 60
    · obtain ⟨h1, h2⟩ := hlt
      obtain ⟨b, o, rfl, hb, hc⟩ := (hs.below p.bel).get h1 (int_get l k (by rw [HL.out]; exact h1))
      have hq := getD_wf HW.out k (by rw [HL.out]; exact h1)
      generalize l.getD k 0 = z at *
      have hof' : s.offs < 4611686018427387904 := by have := hof.out; omega
      have hst := p.rel.step
      obtain ⟨hs1, hs2, hs3⟩ := hst
      have HS1 := hid hs1
      have HS2 := hid hs2
      have ha2 : ∀ m, (s.arm m).offs = s.offs := fun m => by unfold Pw.arm; split <;> rfl
      have HA2 := hid ha2
      have hra := p.rel.armed
      have hro := p.rel.offs
      have hrl : r.armed = true → 0 ≤ r.left ∧ r.left ≤ 9223372036854775807 := fun hh => by rw [p.rel.left (hra ▸ hh)]; exact ⟨p.rel.lo, p.rel.hi⟩
      have hrp : 0 ≤ r.offs ∧ r.offs < 4611686018427387904 := by rw [hro]; exact ⟨p.rel.pos, hof'⟩
      have HRL := hid hrl
      have HRP := hid hrp
      clear hs1 hs2 ha2 hra hro hrl hrp
      by_cases hkn : k < n'
      · obtain ⟨b', o', rfl, hb', hc'⟩ := (hs'.below p.bel).get hkn (int_get l' k (by rw [HL'.out]; exact hkn))
        have hq' := getD_wf HW'.out k (by rw [HL'.out]; exact hkn)
        generalize l'.getD k 0 = kv at *
        have hm5 := Int.tmod_lt_of_pos kv (show (0 : Int) < 5 by omega)
        go_wp2_with fail
        · refine (parm_any g _ _ _ p.row).mono ?_
          rintro e w2 ⟨rfl, hr1, hg1⟩
          obtain ⟨q1, q2⟩ := p.next1 hg1
          go_wp2_with fail
          refine (rarm_any g2 _ _ _ q1).mono ?_
          rintro e w3 ⟨rfl, hr2, hg2⟩
          have p' := p.next2 hr1 q2 hr2 hg2 (p.rel.arm _ (by omega))
          have hof2 := hid (show (s.arm kv).offs ≤ ((k + 1 : Nat) : Int) by rw [HA2.out]; have := hof.out; omega)
          clear hr1 hg1 q1 q2 hr2 hg2
          have c0 := p'.ref.cell 0
          have c3 := p'.ref.cell 3
          have r0 := p'.rel.off
          have r3 := p'.rel.offs
          simp only [pw, List.getElem?_cons_zero, List.getElem?_cons_succ, r0, r3] at c0 c3
          clear r0 r3
          have R1 := p'.row
          have P' := hid p'
          clear p'
          generalize s.arm kv = s' at *
          have ho1 : ((!s'.off) == s'.off) = false := by cases s'.off <;> rfl
          have ho2 : (s'.offs != s'.offs) = false := by simp
          go_wp2_with fail
          go_quiet (first | (go_at_call 13; exact Calls.quiet_of_same ((pon_any g _ _ (R1.drewN _)).mono fun _ _ hh => ⟨hh.1, hh.2.symm⟩)) | (go_at_call 14; exact Calls.quiet_of_same ((poffs_any g _ _ (R1.drewN _)).mono fun _ _ hh => ⟨hh.1, hh.2.symm⟩)))
          go_wp2
          go_roundw
          case rel => exact ⟨k + 1, _, _, by omega, by omega, by go_num, P'.out.drewN _, hof2⟩
          case measure => simp [intOf]; omega
        · refine (parm_any g _ _ _ p.row).mono ?_
          rintro e w2 ⟨rfl, hr1, hg1⟩
          obtain ⟨q1, q2⟩ := p.next1 hg1
          go_wp2_with fail
          refine (rarm_any g2 _ _ _ q1).mono ?_
          rintro e w3 ⟨rfl, hr2, hg2⟩
          have p' := p.next2 hr1 q2 hr2 hg2 (p.rel.arm _ (by omega))
          have hof2 := hid (show (s.arm (kv.tmod 5)).offs ≤ ((k + 1 : Nat) : Int) by rw [HA2.out]; have := hof.out; omega)
          clear hr1 hg1 q1 q2 hr2 hg2
          have c0 := p'.ref.cell 0
          have c3 := p'.ref.cell 3
          have r0 := p'.rel.off
          have r3 := p'.rel.offs
          simp only [pw, List.getElem?_cons_zero, List.getElem?_cons_succ, r0, r3] at c0 c3
          clear r0 r3
          have R1 := p'.row
          have P' := hid p'
          clear p'
          generalize s.arm (kv.tmod 5) = s' at *
          have ho1 : ((!s'.off) == s'.off) = false := by cases s'.off <;> rfl
          have ho2 : (s'.offs != s'.offs) = false := by simp
          go_wp2_with fail
          go_quiet (first | (go_at_call 13; exact Calls.quiet_of_same ((pon_any g _ _ (R1.drewN _)).mono fun _ _ hh => ⟨hh.1, hh.2.symm⟩)) | (go_at_call 14; exact Calls.quiet_of_same ((poffs_any g _ _ (R1.drewN _)).mono fun _ _ hh => ⟨hh.1, hh.2.symm⟩)))
          go_wp2
          go_roundw
          case rel => exact ⟨k + 1, _, _, by omega, by omega, by go_num, P'.out.drewN _, hof2⟩
          case measure => simp [intOf]; omega
        · refine (pagain_any g _ _ p.row).mono ?_
          rintro e w2 ⟨rfl, hr1, hg1⟩
          obtain ⟨q1, q2⟩ := p.next1 hg1
          go_wp2_with fail
          refine (ragain_any g2 _ _ q1).mono ?_
          rintro e w3 ⟨rfl, hr2, hg2⟩
          have p' := p.next2 hr1 q2 hr2 hg2 p.rel.again
          have hof2 := hid (show s.again.offs ≤ ((k + 1 : Nat) : Int) by have := hof.out; show s.offs ≤ _; omega)
          clear hr1 hg1 q1 q2 hr2 hg2
          have c0 := p'.ref.cell 0
          have c3 := p'.ref.cell 3
          have r0 := p'.rel.off
          have r3 := p'.rel.offs
          simp only [pw, List.getElem?_cons_zero, List.getElem?_cons_succ, r0, r3] at c0 c3
          clear r0 r3
          have R1 := p'.row
          have P' := hid p'
          clear p'
          generalize s.again = s' at *
          have ho1 : ((!s'.off) == s'.off) = false := by cases s'.off <;> rfl
          have ho2 : (s'.offs != s'.offs) = false := by simp
          go_wp2_with fail
          go_quiet (first | (go_at_call 13; exact Calls.quiet_of_same ((pon_any g _ _ (R1.drewN _)).mono fun _ _ hh => ⟨hh.1, hh.2.symm⟩)) | (go_at_call 14; exact Calls.quiet_of_same ((poffs_any g _ _ (R1.drewN _)).mono fun _ _ hh => ⟨hh.1, hh.2.symm⟩)))
          go_wp2
          go_roundw
          case rel => exact ⟨k + 1, _, _, by omega, by omega, by go_num, P'.out.drewN _, hof2⟩
          case measure => simp [intOf]; omega
        · refine (pstep_any g _ _ p.row ⟨p.rel.lo, p.rel.hi⟩ ⟨p.rel.pos, hof'⟩).mono ?_
          rintro e w2 ⟨rfl, hr1, hg1⟩
          obtain ⟨q1, q2⟩ := p.next1 hg1
          go_wp2_with fail
          refine (rstep_any g2 _ _ q1 HRL.out HRP.out).mono ?_
          rintro e w3 ⟨rfl, hr2, hg2⟩
          have p' := p.next2 hr1 q2 hr2 hg2 HS1.out
          rw [HS2.out]
          have hof2 := hid (show s.step.offs ≤ ((k + 1 : Nat) : Int) by have := hof.out; omega)
          clear hr1 hg1 q1 q2 hr2 hg2
          have c0 := p'.ref.cell 0
          have c3 := p'.ref.cell 3
          have r0 := p'.rel.off
          have r3 := p'.rel.offs
          simp only [pw, List.getElem?_cons_zero, List.getElem?_cons_succ, r0, r3] at c0 c3
          clear r0 r3
          have R1 := p'.row
          have P' := hid p'
          clear p'
          generalize s.step = s' at *
          have ho1 : ((!s'.off) == s'.off) = false := by cases s'.off <;> rfl
          have ho2 : (s'.offs != s'.offs) = false := by simp
          go_wp2_with fail
          go_quiet (first | (go_at_call 13; exact Calls.quiet_of_same ((pon_any g _ _ (R1.drewN _)).mono fun _ _ hh => ⟨hh.1, hh.2.symm⟩)) | (go_at_call 14; exact Calls.quiet_of_same ((poffs_any g _ _ (R1.drewN _)).mono fun _ _ hh => ⟨hh.1, hh.2.symm⟩)))
          go_wp2
          go_roundw
          case rel => exact ⟨k + 1, _, _, by omega, by omega, by go_num, P'.out.drewN _, hof2⟩
          case measure => simp [intOf]; omega
      · go_wp2_with fail
        · refine (parm_any g _ _ _ p.row).mono ?_
          rintro e w2 ⟨rfl, hr1, hg1⟩
          obtain ⟨q1, q2⟩ := p.next1 hg1
          go_wp2_with fail
          refine (rarm_any g2 _ _ _ q1).mono ?_
          rintro e w3 ⟨rfl, hr2, hg2⟩
          have p' := p.next2 hr1 q2 hr2 hg2 (p.rel.arm _ (by omega))
          have hof2 := hid (show (s.arm 0).offs ≤ ((k + 1 : Nat) : Int) by rw [HA2.out]; have := hof.out; omega)
          clear hr1 hg1 q1 q2 hr2 hg2
          have c0 := p'.ref.cell 0
          have c3 := p'.ref.cell 3
          have r0 := p'.rel.off
          have r3 := p'.rel.offs
          simp only [pw, List.getElem?_cons_zero, List.getElem?_cons_succ, r0, r3] at c0 c3
          clear r0 r3
          have R1 := p'.row
          have P' := hid p'
          clear p'
          generalize s.arm 0 = s' at *
          have ho1 : ((!s'.off) == s'.off) = false := by cases s'.off <;> rfl
          have ho2 : (s'.offs != s'.offs) = false := by simp
          go_wp2_with fail
          go_quiet (first | (go_at_call 13; exact Calls.quiet_of_same ((pon_any g _ _ (R1.drewN _)).mono fun _ _ hh => ⟨hh.1, hh.2.symm⟩)) | (go_at_call 14; exact Calls.quiet_of_same ((poffs_any g _ _ (R1.drewN _)).mono fun _ _ hh => ⟨hh.1, hh.2.symm⟩)))
          go_wp2
          go_roundw
          case rel => exact ⟨k + 1, _, _, by omega, by omega, by go_num, P'.out.drewN _, hof2⟩
          case measure => simp [intOf]; omega
        · refine (parm_any g _ _ _ p.row).mono ?_
          rintro e w2 ⟨rfl, hr1, hg1⟩
          obtain ⟨q1, q2⟩ := p.next1 hg1
          go_wp2_with fail
          refine (rarm_any g2 _ _ _ q1).mono ?_
          rintro e w3 ⟨rfl, hr2, hg2⟩
          have p' := p.next2 hr1 q2 hr2 hg2 (p.rel.arm _ (by omega))
          have hof2 := hid (show (s.arm 0).offs ≤ ((k + 1 : Nat) : Int) by rw [HA2.out]; have := hof.out; omega)
          clear hr1 hg1 q1 q2 hr2 hg2
          have c0 := p'.ref.cell 0
          have c3 := p'.ref.cell 3
          have r0 := p'.rel.off
          have r3 := p'.rel.offs
          simp only [pw, List.getElem?_cons_zero, List.getElem?_cons_succ, r0, r3] at c0 c3
          clear r0 r3
          have R1 := p'.row
          have P' := hid p'
          clear p'
          generalize s.arm 0 = s' at *
          have ho1 : ((!s'.off) == s'.off) = false := by cases s'.off <;> rfl
          have ho2 : (s'.offs != s'.offs) = false := by simp
          go_wp2_with fail
          go_quiet (first | (go_at_call 13; exact Calls.quiet_of_same ((pon_any g _ _ (R1.drewN _)).mono fun _ _ hh => ⟨hh.1, hh.2.symm⟩)) | (go_at_call 14; exact Calls.quiet_of_same ((poffs_any g _ _ (R1.drewN _)).mono fun _ _ hh => ⟨hh.1, hh.2.symm⟩)))
          go_wp2
          go_roundw
          case rel => exact ⟨k + 1, _, _, by omega, by omega, by go_num, P'.out.drewN _, hof2⟩
          case measure => simp [intOf]; omega
        · refine (pagain_any g _ _ p.row).mono ?_
          rintro e w2 ⟨rfl, hr1, hg1⟩
          obtain ⟨q1, q2⟩ := p.next1 hg1
          go_wp2_with fail
          refine (ragain_any g2 _ _ q1).mono ?_
          rintro e w3 ⟨rfl, hr2, hg2⟩
          have p' := p.next2 hr1 q2 hr2 hg2 p.rel.again
          have hof2 := hid (show s.again.offs ≤ ((k + 1 : Nat) : Int) by have := hof.out; show s.offs ≤ _; omega)
          clear hr1 hg1 q1 q2 hr2 hg2
          have c0 := p'.ref.cell 0
          have c3 := p'.ref.cell 3
          have r0 := p'.rel.off
          have r3 := p'.rel.offs
          simp only [pw, List.getElem?_cons_zero, List.getElem?_cons_succ, r0, r3] at c0 c3
          clear r0 r3
          have R1 := p'.row
          have P' := hid p'
          clear p'
          generalize s.again = s' at *
          have ho1 : ((!s'.off) == s'.off) = false := by cases s'.off <;> rfl
          have ho2 : (s'.offs != s'.offs) = false := by simp
          go_wp2_with fail
          go_quiet (first | (go_at_call 13; exact Calls.quiet_of_same ((pon_any g _ _ (R1.drewN _)).mono fun _ _ hh => ⟨hh.1, hh.2.symm⟩)) | (go_at_call 14; exact Calls.quiet_of_same ((poffs_any g _ _ (R1.drewN _)).mono fun _ _ hh => ⟨hh.1, hh.2.symm⟩)))
          go_wp2
          go_roundw
          case rel => exact ⟨k + 1, _, _, by omega, by omega, by go_num, P'.out.drewN _, hof2⟩
          case measure => simp [intOf]; omega
        · refine (pstep_any g _ _ p.row ⟨p.rel.lo, p.rel.hi⟩ ⟨p.rel.pos, hof'⟩).mono ?_
          rintro e w2 ⟨rfl, hr1, hg1⟩
          obtain ⟨q1, q2⟩ := p.next1 hg1
          go_wp2_with fail
          refine (rstep_any g2 _ _ q1 HRL.out HRP.out).mono ?_
          rintro e w3 ⟨rfl, hr2, hg2⟩
          have p' := p.next2 hr1 q2 hr2 hg2 HS1.out
          rw [HS2.out]
          have hof2 := hid (show s.step.offs ≤ ((k + 1 : Nat) : Int) by have := hof.out; omega)
          clear hr1 hg1 q1 q2 hr2 hg2
          have c0 := p'.ref.cell 0
          have c3 := p'.ref.cell 3
          have r0 := p'.rel.off
          have r3 := p'.rel.offs
          simp only [pw, List.getElem?_cons_zero, List.getElem?_cons_succ, r0, r3] at c0 c3
          clear r0 r3
          have R1 := p'.row
          have P' := hid p'
          clear p'
          generalize s.step = s' at *
          have ho1 : ((!s'.off) == s'.off) = false := by cases s'.off <;> rfl
          have ho2 : (s'.offs != s'.offs) = false := by simp
          go_wp2_with fail
          go_quiet (first | (go_at_call 13; exact Calls.quiet_of_same ((pon_any g _ _ (R1.drewN _)).mono fun _ _ hh => ⟨hh.1, hh.2.symm⟩)) | (go_at_call 14; exact Calls.quiet_of_same ((poffs_any g _ _ (R1.drewN _)).mono fun _ _ hh => ⟨hh.1, hh.2.symm⟩)))
          go_wp2
          go_roundw
          case rel => exact ⟨k + 1, _, _, by omega, by omega, by go_num, P'.out.drewN _, hof2⟩
          case measure => simp [intOf]; omega
    · have hb := p.bel
      by_cases hkn : k < n
      · have h60 : ¬ k < 60 := fun h => hlt ⟨hkn, h⟩
        clear hlt
        go_wp2_with fail
        refine (wakes21 _).mono ?_
        rintro e w6 ⟨rfl, hb6⟩
        go_wp2
        go_ret
        exact ⟨rfl, hb.trans (hb6.mono hb.size)⟩
      · clear hlt
        go_wp2_with fail
        refine (wakes21 _).mono ?_
        rintro e w6 ⟨rfl, hb6⟩
        go_wp2
        go_ret
        exact ⟨rfl, hb.trans (hb6.mono hb.size)⟩
end Go.Proofs.Ytockoicaijohbaa
