/- Sync and Append. -/
import Derived.Test.YtcklnkilldeamaaDrvOps
namespace Go.Proofs.Ytcklnkilldeamaa
open Go.RowKit Wells
theorem errno_ret {a b : Int} (h : a = b) : Ending.returned (.int .i64 a) = .returned (.int .i64 b) := by rw [h]
theorem dsync_any (F : Nat → Prop) (g pg : Nat) (d : Dr) (m : Nat) (w : World) (h : DrvE F w g pg d) (hok : DOk m d) (hm : m ≤ 1000000) :
    Calls Try.prog 12 #[.pointer (some ⟨g, 0, none⟩)] w fun e w' => e = .returned (.int .i64 d.sync.2) ∧ DrvE F w' g pg d.sync.1 ∧ Only F w w' := by
  obtain ⟨lv, lvs, bv, bvs, h⟩ := h
  have c6 := h.row.cell 6
  have c0 := h.row.cell 0
  have e6 : (drRow pg d lv bv)[6]? = some (.bool d.lost) := rfl
  have e0 : (drRow pg d lv bv)[0]? = some (.pointer (some ⟨pg, 0, none⟩)) := rfl
  rw [e6] at c6
  rw [e0] at c0
  clear e6 e0
  obtain ⟨S, hS⟩ : ∃ S, d.sync = S := ⟨_, rfl⟩
  rw [hS]
  have HS := hid hS
  clear hS
  have hl := hok.left
  have ho1 := hok.offs.1
  have ho2 := hok.offs.2
  cases hlo : d.lost with
  | true =>
    rw [hlo] at c6
    have hs : S = (d, 5) := by rw [← HS.out]; unfold Dr.sync; rw [hlo]; rfl
    subst hs
    go_enter Try.func12, Try.ntmps12
    go_wp2_with fail
    go_ret
    exact ⟨rfl, ⟨_, _, _, _, h⟩, Only.refl _ _⟩
  | false =>
    rw [hlo] at c6
    have HLO := hid hlo
    clear hlo
    go_enter Try.func12, Try.ntmps12
    go_wp2_with fail
    refine (pstep_any pg d.s w h.pow hl ⟨ho1, by omega⟩).mono ?_
    rintro e w1 ⟨rfl, hp1, hg1⟩
    have h1 := h.power hp1 hg1
    have o1 : Only F w w1 := Only.of_grown hg1 (fun k e => by injection e with e; rw [← e]; exact h.fp)
    have c3 := h1.row.cell 3
    have f3 := h1.row.frozen 3
    have e3 : (drRow pg { d with s := d.s.step } lv bv)[3]? = some (.int .i64 (d.wait : Int)) := rfl
    rw [e3] at c3
    clear e3
    cases hgo : d.s.goes with
    | false =>
      have hs : S = ({ d with s := d.s.step }, 14) := by rw [← HS.out]; unfold Dr.sync; rw [HLO.out, hgo]; rfl
      subst hs
      clear hgo
      go_wp2_with fail
      go_ret
      exact ⟨rfl, ⟨_, _, _, _, h1⟩, o1⟩
    | true =>
      have hs : S = ({ d with wait := 0, s := d.s.step }.went, 0) := by rw [← HS.out]; unfold Dr.sync; rw [HLO.out, hgo]; rfl
      subst hs
      clear hgo
      go_wp2_with fail
      refine (dwent_any F g pg _ _ ⟨_, _, _, _, h1.setWait 0⟩).mono ?_
      rintro e w2 ⟨rfl, h2, o2⟩
      go_wp2_with fail
      go_ret
      exact ⟨rfl, h2, (o1.set h.fg 3 _).trans o2 (fun _ _ hk => hk)⟩
end Go.Proofs.Ytcklnkilldeamaa
