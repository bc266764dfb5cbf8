/- right: are rows of their form? -/
import Derived.Test.YtmefbbpcfphciaaDoorEqs
import Derived.BigGuardPart
namespace Wells
open Go Go.RowKit
/-- columns that rise, from 0 to n - 1 -/
def ColsOk (n : Int) (cols : List Int) : Prop := ∀ j, j < cols.length → 0 ≤ cols.getD j 0 ∧ cols.getD j 0 < n ∧ (0 < j → cols.getD (j - 1) 0 < cols.getD j 0)
def RightP (n : Int) (rows : List Eqn) : Prop := 0 ≤ n ∧ n ≤ 64 ∧ ∀ i, i < rows.length → ColsOk n (rows.getD i default).cols ∧ (rows.getD i default).data.length = (rows.getD 0 default).data.length
end Wells
namespace Go.Proofs.YtmefbbpcfphciaaDoor
open Go.RowKit Wells
set_option maxHeartbeats 1600000 in
theorem right_any (r : Bool) (m : Int) (B : Nat) (A : Option Addr) (n c : Nat) (ps : List (Value × Value)) (rows : List Eqn) (w : World) (h : REqs w B A n ps rows) (hB : B ≤ w.heap.size) (hn : n ≤ 9223372036854775807)
    (hm : -9223372036854775808 ≤ m ∧ m ≤ 9223372036854775807) (hz : ∀ q ∈ rows, ∀ x ∈ q.cols, -9223372036854775808 ≤ x ∧ x ≤ 9223372036854775807) (hr : r = true ↔ RightP m rows) :
    Calls Tryd.prog 21 #[.int .i64 m, .slice A n c] w fun e w' => e = .returned (.bool r) ∧ Below w.heap.size w w' := by
  have HR := hid hr
  have H := hid h
  have HL := hid h.len
  have HZ := hid hz
  obtain ⟨hm1, hm2⟩ := hm
  clear hr h hz
  by_cases hneg : m < 0
  · have hno : r = false := by cases r with | false => rfl | true => exact absurd (HR.out.1 rfl).1 (by omega)
    subst hno
    go_enter Tryd.func21, Tryd.ntmps21
    go_wp2_with fail
    go_ret
    exact ⟨rfl, Below.refl _ _⟩
  by_cases hbig : 64 < m
  · have hno : r = false := by cases r with | false => rfl | true => exact absurd (HR.out.1 rfl).2.1 (by omega)
    subst hno
    go_enter Tryd.func21, Tryd.ntmps21
    go_wp2_with fail
    go_ret
    exact ⟨rfl, Below.refl _ _⟩
  have hm0 : 0 ≤ m := by omega
  have hm64 : m ≤ 64 := by omega
  go_enter Tryd.func21, Tryd.ntmps21
  go_wp2_with fail
  go_loopw [17] (fun i wr => ∃ k : Nat, k ≤ n ∧ i = .int .i64 k ∧ Below w.heap.size w wr ∧ Hid (∀ i, i < k → ColsOk m (rows.getD i default).cols ∧ (rows.getD i default).data.length = (rows.getD 0 default).data.length)) (fun i _ => n - (intOf i).toNat)
  case atStart => exact ⟨0, Nat.zero_le _, rfl, Below.refl _ _, hid (fun j hj => absurd hj (by omega))⟩
  case round =>
    obtain ⟨k, hk, rfl, hbr, HK⟩ := hrel
    have hzr := hbr.size
    by_cases hlt : k < n
    · have hre := H.out.below (hbr.mono hB)
      obtain ⟨bb, o, A1, c1, A2, c2, rfl, hbb, e0, e1, h1, h2, h3, h4, h5, h6⟩ := hre.get hlt
      obtain ⟨bb', o', A1', c1', A2', c2', hbo, hbb', e0', e1', _, _, _, h4', h5', _⟩ := hre.get (show 0 < n by omega)
      injection hbo with hbo
      injection hbo with hbo1 hbo2
      subst hbo1 hbo2
      have hqm : rows.getD k default ∈ rows := by rw [List.getD_eq_getElem?_getD, List.getElem?_eq_getElem (by rw [HL.out]; exact hlt)]; exact List.getElem_mem _
      obtain ⟨q, hq⟩ : ∃ q, rows.getD k default = q := ⟨_, rfl⟩
      rw [hq] at e0 e1 h1 h3 h4 h6 hqm
      obtain ⟨q0, hq0⟩ : ∃ q0, rows.getD 0 default = q0 := ⟨_, rfl⟩
      rw [hq0] at e0' e1' h4'
      have HQ := hid hq
      have HQ0 := hid hq0
      have HQZ := hid (HZ.out q hqm)
      obtain ⟨nc, hnc⟩ : ∃ nc, q.cols.length = nc := ⟨_, rfl⟩
      obtain ⟨nd, hnd⟩ : ∃ nd, q.data.length = nd := ⟨_, rfl⟩
      obtain ⟨nd0, hnd0⟩ : ∃ nd0, q0.data.length = nd0 := ⟨_, rfl⟩
      rw [hnc] at e0 h1 h3
      rw [hnd] at e1 h4
      rw [hnd0] at e1' h4'
      have HNC := hid hnc
      have HND := hid hnd
      have HND0 := hid hnd0
      have hx := Row.new wr 27 #[.slice A1 nc c1, .slice A2 nd c2]
      have hbx : Below wr.heap.size wr (wr.alloc (.cells #[.slice A1 nc c1, .slice A2 nd c2] 27)) := (Below.refl _ _).alloc (Nat.le_refl _) _
      have x0 := hx.cell 0
      have x1 := hx.cell 1
      simp only [List.getElem?_cons_succ, List.getElem?_cons_zero] at x0 x1
      have H3 := hid (h3.below (hbx.mono (Nat.le_trans hB hzr)))
      have hy1 := (hbx.cell (p := ⟨bb, o + 1, none⟩) (by show bb < wr.heap.size; omega)).trans (by simpa using e1')
      have HBX := hid (hbr.trans (hbx.mono hzr))
      clear hq hq0 hnc hnd hnd0 hre e0' e1' hx h3 h6 hqm hbx
      go_wp2_with fail
      generalize wr.alloc (.cells #[.slice A1 nc c1, .slice A2 nd c2] 27) = wx at *
      have hze := HZ
      go_loopw [24] (fun i w3 => ∃ j : Nat, j ≤ nc ∧ i = .int .i64 j ∧ w3 = wx ∧ Hid (∀ i, i < j → 0 ≤ q.cols.getD i 0 ∧ q.cols.getD i 0 < m ∧ (0 < i → q.cols.getD (i - 1) 0 < q.cols.getD i 0))) (fun i _ => nc - (intOf i).toNat)
      case atStart => exact ⟨0, Nat.zero_le _, rfl, rfl, hid (fun j hj => absurd hj (by omega))⟩
      case round =>
        obtain ⟨j, hj, rfl, rfl, HJ⟩ := hrel
        by_cases hltj : j < nc
        · obtain ⟨b3, o3, rfl, hb3, hce⟩ := H3.out.get hltj (ints_get q.cols j (by rw [HNC.out]; exact hltj))
          have hcp : 0 < j → wr.cell? ⟨b3, o3 + (j - 1), none⟩ = some (.int .i64 (q.cols.getD (j - 1) 0)) := fun h0 => by
            obtain ⟨b2, o2, e, _, h2⟩ := H3.out.get (k := j - 1) (by omega) (ints_get q.cols (j - 1) (by rw [HNC.out]; omega))
            injection e with e; injection e with e1 e2; subst e1 e2
            exact h2
          have hxm : q.cols.getD j 0 ∈ q.cols := by rw [List.getD_eq_getElem?_getD, List.getElem?_eq_getElem (by rw [HNC.out]; exact hltj)]; exact List.getElem_mem _
          obtain ⟨x, hx⟩ : ∃ x, q.cols.getD j 0 = x := ⟨_, rfl⟩
          obtain ⟨y, hy⟩ : ∃ y, q.cols.getD (j - 1) 0 = y := ⟨_, rfl⟩
          have HX := hid hx
          have HY := hid hy
          rw [hx] at hce hxm
          simp only [hy] at hcp
          have hxb := HQZ.out x hxm
          obtain ⟨hx1, hx2⟩ := hxb
          have hno : ¬ (0 ≤ x ∧ x < m ∧ (0 < j → y < x)) → r = false := fun hn => by
            cases r with
            | false => rfl
            | true =>
              have h9 := ((HR.out.1 rfl).2.2 k (by rw [HL.out]; exact hlt)).1 j (by rw [HQ.out, HNC.out]; exact hltj)
              rw [HQ.out, HX.out, HY.out] at h9
              exact absurd h9 hn
          have HNO := hid hno
          clear hx hy hno hxm
          by_cases hx0 : x < 0
          · have hno := HNO.out (by omega)
            subst hno
            clear hcp
            go_wp2_with fail
            go_ret
            exact ⟨rfl, HBX.out⟩
          by_cases hxm : m ≤ x
          · have hno := HNO.out (by omega)
            subst hno
            clear hcp
            go_wp2_with fail
            go_ret
            exact ⟨rfl, HBX.out⟩
          by_cases hj0 : j = 0
          · subst hj0
            have hce0 : wr.cell? ⟨b3, o3, none⟩ = some (.int .i64 x) := hce
            have HJ1 : Hid (∀ i, i < 1 → 0 ≤ q.cols.getD i 0 ∧ q.cols.getD i 0 < m ∧ (0 < i → q.cols.getD (i - 1) 0 < q.cols.getD i 0)) := hid (fun i hi => by
              obtain rfl : i = 0 := by omega
              rw [HX.out]
              exact ⟨by omega, by omega, fun h => absurd h (by omega)⟩)
            clear hcp
            go_wp2_with fail
            go_roundw
            case rel => exact ⟨1, by omega, by go_num, by first | rfl | trivial, HJ1⟩
            case measure => simp [intOf]; omega
          · have hcp' := hcp (by omega)
            obtain ⟨j', rfl⟩ : ∃ j', j = j' + 1 := ⟨j - 1, by omega⟩
            rw [Nat.add_sub_cancel] at hcp'
            have hj1 : ((j' + 1 : Nat) : Int) - 1 = (j' : Int) := by omega
            clear hcp
            by_cases hyx : x ≤ y
            · have hno := HNO.out (by omega)
              subst hno
              go_wp2_with fail
              go_ret
              exact ⟨rfl, HBX.out⟩
            · go_wp2_with fail
              go_roundw
              case rel => exact ⟨j' + 2, by omega, by go_num, by first | rfl | trivial, hid (fun i hi => by
                rcases Nat.lt_or_ge i (j' + 1) with h9 | h9
                · exact HJ.out i h9
                · obtain rfl : i = j' + 1 := by omega
                  rw [HX.out, HY.out]; exact ⟨by omega, by omega, fun _ => by omega⟩)⟩
              case measure => simp [intOf]; omega
        · obtain rfl : j = nc := by omega
          by_cases hdd : nd = nd0
          · have hbt : ((nd : Int) != (nd0 : Int)) = false := by simp [hdd]
            subst hdd
            go_wp2_with fail
            go_quiet (fail)
            go_wp2_with fail
            go_roundw
            case rel => exact ⟨k + 1, by omega, by go_num, below_drewN HBX.out _, hid (fun i hi => by
                rcases Nat.lt_or_ge i k with h9 | h9
                · exact HK.out i h9
                · obtain rfl : i = k := by omega
                  rw [HQ.out, HQ0.out]; exact ⟨fun j9 hj9 => HJ.out j9 (by rw [HNC.out] at hj9; exact hj9), by rw [HND.out, HND0.out]⟩)⟩
            case measure => simp [intOf]; omega
          · have hbt : ((nd : Int) != (nd0 : Int)) = true := by simp; omega
            have hno : r = false := by
              cases r with
              | false => rfl
              | true =>
                have h9 := ((HR.out.1 rfl).2.2 k (by rw [HL.out]; exact hlt)).2
                rw [HQ.out, HQ0.out, HND.out, HND0.out] at h9
                exact absurd h9 hdd
            subst hno
            go_wp2_with fail
            go_quiet (fail)
            go_wp2_with fail
            go_ret
            exact ⟨rfl, below_drewN HBX.out _⟩
    · obtain rfl : k = n := by omega
      go_wp2_with fail
      go_ret
      refine ⟨ret_bool (HR.out.2 ⟨hm0, hm64, fun i hi => HK.out i (by rw [← HL.out]; exact hi)⟩).symm, hbr⟩
end Go.Proofs.YtmefbbpcfphciaaDoor
