/- Lose, Read, Clone, and what a nil drive answers. -/
import Derived.Test.YtcklnkilldeamaaDrvCrash
import Derived.Test.YtcklnkilldeamaaDrvRew
import Derived.Test.YtcklnkilldeamaaOrdG
namespace Wells
def Dr.read (d : Dr) (i : Int) : List Byte := if 0 ≤ i ∧ i < d.L.length then d.L.getD i.toNat [] else []
end Wells
namespace Go.Proofs.Ytcklnkilldeamaa
open Go.RowKit Wells
theorem dlose_any (F : Nat → Prop) (g pg : Nat) (d : Dr) (w : World) (h : DrvE F w g pg d) : Calls Try.prog 24 #[.pointer (some ⟨g, 0, none⟩)] w fun e w' => e = .returned (.tuple #[]) ∧ DrvE F w' g pg d.lose ∧ Only F w w' := by
  obtain ⟨lv, lvs, bv, bvs, h⟩ := h
  have c2 := h.row.cell 2
  have e2 : (drRow pg d (lv) (bv))[2]? = some (lv) := rfl
  rw [e2] at c2
  clear e2
  have f2 := h.row.frozen 2
  have c3 := h.row.cell 3
  have e3 : (drRow pg d (lv) (bv))[3]? = some (.int .i64 d.wait) := rfl
  rw [e3] at c3
  clear e3
  have f3 := h.row.frozen 3
  have c4 := h.row.cell 4
  have e4 : (drRow pg d (lv) (bv))[4]? = some (bv) := rfl
  rw [e4] at c4
  clear e4
  have f4 := h.row.frozen 4
  have c5 := h.row.cell 5
  have e5 : (drRow pg d (lv) (bv))[5]? = some (.bool d.has) := rfl
  rw [e5] at c5
  clear e5
  have f5 := h.row.frozen 5
  have c6 := h.row.cell 6
  have e6 : (drRow pg d (lv) (bv))[6]? = some (.bool d.lost) := rfl
  rw [e6] at c6
  clear e6
  have f6 := h.row.frozen 6
  have h1 := h.setLost true
  have h2 := h1.setL (Lst.nil_ F _) (fun k e => by cases e) (show Dist ([] ++ bvs) from dist_right h.dist)
  have hw := ((h2.setWait 0).noB).setHas false
  have ho : Only F w (((((w.setCell ⟨g, 6, none⟩ (.bool true)).setCell ⟨g, 2, none⟩ (.slice none 0 0)).setCell ⟨g, 3, none⟩ (.int .i64 (0 : Nat))).setCell ⟨g, 4, none⟩ (.slice none 0 0)).setCell ⟨g, 5, none⟩ (.bool false)) := (((((Only.refl F w).set h.fg 6 _).set h.fg 2 _).set h.fg 3 _).set h.fg 4 _).set h.fg 5 _
  clear h1 h2
  have HW := hid hw
  have HO := hid ho
  clear hw ho
  go_enter Try.func24, Try.ntmps24
  go_wp2_with fail
  go_end0
  exact ⟨rfl, ⟨_, _, _, _, HW.out⟩, HO.out⟩
theorem nil_Room (w : World) : Calls Try.prog 25 #[.pointer none] w fun e w' => e = .returned (.int .i64 0) ∧ w = w' := by
  go_enter Try.func25, Try.ntmps25
  go_wp2_with fail
  go_ret
  exact ⟨rfl, rfl⟩
theorem nil_Len (w : World) : Calls Try.prog 14 #[.pointer none] w fun e w' => e = .returned (.int .i64 0) ∧ w = w' := by
  go_enter Try.func14, Try.ntmps14
  go_wp2_with fail
  go_ret
  exact ⟨rfl, rfl⟩
theorem nil_Pending (w : World) : Calls Try.prog 13 #[.pointer none] w fun e w' => e = .returned (.int .i64 0) ∧ w = w' := by
  go_enter Try.func13, Try.ntmps13
  go_wp2_with fail
  go_ret
  exact ⟨rfl, rfl⟩
theorem nil_All (w : World) : Calls Try.prog 17 #[.pointer none] w fun e w' => e = .returned (.slice none 0 0) ∧ w = w' := by
  go_enter Try.func17, Try.ntmps17
  go_wp2_with fail
  go_ret
  exact ⟨rfl, rfl⟩
theorem nil_Sync (w : World) : Calls Try.prog 12 #[.pointer none] w fun e w' => e = .returned (.int .i64 5) ∧ w = w' := by
  go_enter Try.func12, Try.ntmps12
  go_wp2_with fail
  go_ret
  exact ⟨rfl, rfl⟩
theorem nil_Lost (w : World) : Calls Try.prog 26 #[.pointer none] w fun e w' => e = .returned (.bool false) ∧ w = w' := by
  go_enter Try.func26, Try.ntmps26
  go_wp2_with fail
  go_ret
  exact ⟨rfl, rfl⟩
theorem nil_Read (i : Int) (w : World) : Calls Try.prog 23 #[.pointer none, .int .i64 i] w fun e w' => e = .returned (.slice none 0 0) ∧ w = w' := by
  go_enter Try.func23, Try.ntmps23
  go_wp2_with fail
  go_ret
  exact ⟨rfl, rfl⟩
theorem nil_Append (A : Option Addr) (n c : Nat) (w : World) (hn : n = 64) : Calls Try.prog 11 #[.pointer none, .slice A n c] w fun e w' => e = .returned (.int .i64 5) ∧ w = w' := by
  subst hn
  go_enter Try.func11, Try.ntmps11
  go_wp2_with fail
  go_ret
  exact ⟨rfl, rfl⟩
theorem nil_Rewrite (w : World) : Calls Try.prog 20 #[.pointer none, .slice none 0 0] w fun e w' => e = .returned (.int .i64 5) ∧ w = w' := by
  go_enter Try.func20, Try.ntmps20
  go_wp2_with fail
  go_loopw [9] (fun i wr => i = .int .i64 0 ∧ wr = w) (fun _ _ => 0)
  case atStart => exact ⟨rfl, rfl⟩
  case round =>
    obtain ⟨rfl, rfl⟩ := hrel
    go_wp2_with fail
    go_ret
    exact ⟨rfl, rfl⟩
theorem nil_Spoil (i at_ m : Int) (w : World) : Calls Try.prog 22 #[.pointer none, .int .i64 i, .int .i64 at_, .int .u32 m] w fun e w' => e = .returned (.bool false) ∧ w = w' := by
  go_enter Try.func22, Try.ntmps22
  go_wp2_with fail
  go_ret
  exact ⟨rfl, rfl⟩
theorem nil_Clone (p : Value) (w : World) : Calls Try.prog 21 #[.pointer none, p] w fun e w' => e = .returned (.pointer none) ∧ w = w' := by
  go_enter Try.func21, Try.ntmps21
  go_wp2_with fail
  go_ret
  exact ⟨rfl, rfl⟩
theorem clone_nil (g : Nat) (w : World) : Calls Try.prog 21 #[.pointer (some ⟨g, 0, none⟩), .pointer none] w fun e w' => e = .returned (.pointer none) ∧ w = w' := by
  go_enter Try.func21, Try.ntmps21
  go_wp2_with fail
  go_ret
  exact ⟨rfl, rfl⟩
theorem nil_Lose (w : World) : Calls Try.prog 24 #[.pointer none] w fun e w' => e = .returned (.tuple #[]) ∧ w = w' := by
  go_enter Try.func24, Try.ntmps24
  go_wp2_with fail
  go_end0
  exact ⟨rfl, rfl⟩
theorem nil_Crash (a b : Int) (w : World) : Calls Try.prog 15 #[.pointer none, .int .i64 a, .int .i64 b] w fun e w' => e = .returned (.tuple #[]) ∧ ∃ n, w' = w.drewN n := by
  go_enter Try.func15, Try.ntmps15
  go_wp2_with fail
  refine bodyPost_ret (results_none rfl _ _ _) rfl ?_
  exact ⟨rfl, 0, rfl⟩
theorem dread_any (F : Nat → Prop) (g pg : Nat) (d : Dr) (m : Nat) (i : Int) (w : World) (h : DrvE F w g pg d) (hok : DOk m d) (hi : -9223372036854775808 ≤ i ∧ i ≤ 9223372036854775807) :
    Calls Try.prog 23 #[.pointer (some ⟨g, 0, none⟩), .int .i64 i] w fun e w' => ∃ v, e = .returned v ∧ OB w.heap.size w' v (d.read i) ∧ Below w.heap.size w w' := by
  obtain ⟨lv, lvs, bv, bvs, h⟩ := h
  obtain ⟨A, c, rfl, _, _⟩ := h.l.own.form
  have c2 := h.row.cell 2
  have e2 : (drRow pg d ((.slice A d.L.length c)) (bv))[2]? = some ((.slice A d.L.length c)) := rfl
  rw [e2] at c2
  clear e2
  have hrd := h.l.own.read rfl
  have hln := hok.len
  have hrm := hok.room
  have HC := hid hok.cells
  by_cases h1 : i < 0
  · have hr : d.read i = [] := if_neg (by omega)
    rw [hr]
    go_enter Try.func23, Try.ntmps23
    go_wp2_with fail
    go_ret
    exact ⟨_, rfl, World.ownsRow_nil _ _ _ _, Below.refl _ _⟩
  by_cases h2 : i < (d.L.length : Int)
  · obtain ⟨k, rfl⟩ : ∃ k : Nat, i = (k : Int) := ⟨i.toNat, by omega⟩
    have hk : k < d.L.length := by omega
    obtain ⟨b, o, A1, c1, rfl, hb, hc, hl1, hc1, sl1⟩ := hrd.get hk
    have hr : d.read (k : Int) = d.L.getD k [] := if_pos ⟨by omega, by omega⟩
    have hx : (d.L.getD k []).length ≤ 1048576 := by
      rw [List.getD_eq_getElem?_getD, List.getElem?_eq_getElem hk]
      have := HC.out _ (List.getElem_mem hk)
      simp only [Option.getD_some]
      omega
    rw [hr]
    generalize d.L.getD k [] = x at *
    obtain ⟨lx, hlx⟩ : ∃ n, x.length = n := ⟨_, rfl⟩
    rw [hlx] at hc hl1 sl1 hx
    clear hlx h1
    have h1 : ¬ ((k : Int) < 0) := by omega
    have h3 : ¬ ((d.L.length : Int) ≤ (k : Int)) := by omega
    go_enter Try.func23, Try.ntmps23
    go_wp2_with fail
    refine (clone_any _ A1 x lx c1 w sl1 (Nat.le_refl _) hx).mono ?_
    rintro e w2 ⟨v, rfl, ho, hb2⟩
    go_wp2_with fail
    go_ret
    exact ⟨v, rfl, ho, hb2⟩
  · have hr : d.read i = [] := if_neg (by omega)
    rw [hr]
    have h3 : (d.L.length : Int) ≤ i := by omega
    go_enter Try.func23, Try.ntmps23
    go_wp2_with fail
    go_ret
    exact ⟨_, rfl, World.ownsRow_nil _ _ _ _, Below.refl _ _⟩
end Go.Proofs.Ytcklnkilldeamaa
