/- next: a row that has just one that is not known. -/
import Derived.Test.YtmefbbpcfphciaaDoorPeelL
namespace Go.Proofs.YtmefbbpcfphciaaDoor
open Go.RowKit Wells
/-- what next answers -/
def NextR (w : World) (S : PSt) (rows : List Eqn) (e : Ending) (w' : World) : Prop :=
  ∃ z : Int, e = .returned (.int .i64 z) ∧ Below w.heap.size w w' ∧ ((z = -1 ∧ Final rows S) ∨ ∃ i : Nat, i < rows.length ∧ z = (i : Int) ∧ (S.opn (rows.getD i default).cols).length = 1)
set_option maxRecDepth 20000 in
set_option maxHeartbeats 3000000 in
theorem next_any (S : PSt) (base N gp gk gv : Nat) (vs : List Value) (B : Nat) (A : Option Addr) (n c : Nat) (ps : List (Value × Value)) (rows : List Eqn) (w : World) (hp : Row w gp 53 [.slice A n c, .slice (some ⟨gk, 0, none⟩) N N, .slice (some ⟨gv, 0, none⟩) N N])
    (hkv : KV base N w gk gv vs S) (h : REqs w B A n ps rows) (hB : B ≤ w.heap.size) (hc : ∀ q ∈ rows, ∀ c ∈ q.cols, 0 ≤ c ∧ c < (N : Int)) (hN : N ≤ 64) (hn : n ≤ 1048576) (hnc : ∀ q ∈ rows, q.cols.length ≤ 1048576) :
    Calls Tryd.prog 30 #[.pointer (some ⟨gp, 0, none⟩)] w (NextR w S rows) := by
  have HP := hid hp
  have HKV := hid hkv
  have H := hid h
  have HC := hid hc
  have HNC0 := hid hnc
  have HL := hid h.len
  have p0 := hp.cell 0
  simp only [List.getElem?_cons_zero] at p0
  clear hp hkv h hc hnc
  go_enter Tryd.func30, Tryd.ntmps30
  go_wp2_with fail
  go_loopw [13] (fun i wr => ∃ k : Nat, k ≤ n ∧ i = .int .i64 (k : Int) ∧ Below w.heap.size w wr ∧ Hid (∀ j, j < k → (S.opn (rows.getD j default).cols).length ≠ 1)) (fun i _ => n - (intOf i).toNat)
  case atStart => exact ⟨0, Nat.zero_le _, rfl, Below.refl _ _, hid (fun j hj => absurd hj (by omega))⟩
  case round =>
    obtain ⟨k, hk, rfl, hbr, HK⟩ := hrel
    have hzr := hbr.size
    by_cases hlt : k < n
    · have hre := H.out.below (hbr.mono hB)
      obtain ⟨bb, o, A1, c1, A2, c2, rfl, hbb, e0, e1, h1, h2, h3, h4, h5, h6⟩ := hre.get hlt
      have hqm : rows.getD k default ∈ rows := by rw [List.getD_eq_getElem?_getD, List.getElem?_eq_getElem (by rw [HL.out]; exact hlt)]; exact List.getElem_mem _
      have hcq := HC.out _ hqm
      have hnq := HNC0.out _ hqm
      obtain ⟨q, hq⟩ : ∃ q, rows.getD k default = q := ⟨_, rfl⟩
      rw [hq] at e0 e1 h1 h3 h4 h6 hcq hnq
      have HQ := hid hq
      have HCQ := hid hcq
      obtain ⟨nc, hnc⟩ : ∃ nc, q.cols.length = nc := ⟨_, rfl⟩
      obtain ⟨nd, hnd⟩ : ∃ nd, q.data.length = nd := ⟨_, rfl⟩
      rw [hnc] at e0 h1 h3 hnq
      rw [hnd] at e1 h4
      have HNC := hid hnc
      have hx := Row.new wr 27 #[.slice A1 nc c1, .slice A2 nd c2]
      have hbx : Below wr.heap.size wr (wr.alloc (.cells #[.slice A1 nc c1, .slice A2 nd c2] 27)) := (Below.refl _ _).alloc (Nat.le_refl _) _
      have x0 := hx.cell 0
      simp only [List.getElem?_cons_succ, List.getElem?_cons_zero] at x0
      have H3 := hid (h3.below (hbx.mono (Nat.le_trans hB hzr)))
      have hbw := hbr.trans (hbx.mono hzr)
      have HBX := hid hbw
      have hpx := HP.out.below hbw HP.out.lt
      have p1 := hpx.cell 1
      simp only [List.getElem?_cons_succ, List.getElem?_cons_zero] at p1
      have HKX := hid (HKV.out.below hbw)
      clear hq hnc hnd hre hx h3 h6 hqm hcq hbx hbw hpx
      go_wp2_with fail
      generalize wr.alloc (.cells #[.slice A1 nc c1, .slice A2 nd c2] 27) = wx at *
      go_loopw [5, 21] (fun s i w3 => ∃ j m : Nat, j ≤ nc ∧ m ≤ j ∧ i = .int .i64 (j : Int) ∧ s = .int .i64 (m : Int) ∧ w3 = wx ∧ Hid ((S.opn (q.cols.take j)).length = m)) (fun _ i _ => nc - (intOf i).toNat)
      case atStart => exact ⟨0, 0, Nat.zero_le _, Nat.le_refl _, rfl, rfl, rfl, hid (by simp [PSt.opn])⟩
      case round =>
        obtain ⟨j, m, hj, hm, rfl, rfl, rfl, HM⟩ := hrel
        by_cases hltj : j < nc
        · obtain ⟨b3, o3, rfl, hb3, hce⟩ := H3.out.get hltj (ints_get q.cols j (by rw [HNC.out]; exact hltj))
          have hxm : q.cols.getD j 0 ∈ q.cols := by rw [List.getD_eq_getElem?_getD, List.getElem?_eq_getElem (by rw [HNC.out]; exact hltj)]; exact List.getElem_mem _
          obtain ⟨hx0, hx1⟩ := HCQ.out _ hxm
          have hyes := opn_take_yes (S := S) (cols := q.cols) (k := j) (by rw [HNC.out]; exact hltj)
          have hno := opn_take_no (S := S) (cols := q.cols) (k := j) (by rw [HNC.out]; exact hltj)
          obtain ⟨x, hx⟩ : ∃ x, q.cols.getD j 0 = x := ⟨_, rfl⟩
          rw [hx] at hce hx0 hx1 hyes hno
          obtain ⟨x', rfl⟩ := Int.eq_ofNat_of_zero_le hx0
          have HYES := hid hyes
          have HNO := hid hno
          have ck := HKX.out.cellk hx0 hx1
          rw [Int.toNat_natCast] at ck
          have hx1' : x' < N := by omega
          clear hyes hno hx hxm
          cases hkn : S.kn (x' : Int) with
          | false =>
            rw [hkn] at ck
            have hkk := HYES.out hkn
            have HKK := hid hkk
            clear hkk hkn
            go_wp2_with fail
            go_roundw
            case rel => exact ⟨j + 1, m + 1, by omega, by omega, by go_num, by go_num, by first | rfl | trivial, hid (by rw [HKK.out, List.length_append, HM.out]; rfl)⟩
            case measure => simp [intOf]; omega
          | true =>
            rw [hkn] at ck
            have hkk := HNO.out hkn
            have HKK := hid hkk
            clear hkk hkn
            go_wp2_with fail
            go_roundw
            case rel => exact ⟨j + 1, m, by omega, by omega, by go_num, rfl, by first | rfl | trivial, hid (by rw [HKK.out, HM.out])⟩
            case measure => simp [intOf]; omega
        · obtain rfl : j = nc := by omega
          have hall : (S.opn q.cols).length = m := by
            have := HM.out
            rwa [show q.cols.take j = q.cols by rw [← HNC.out, List.take_length]] at this
          have HALL := hid hall
          clear hall
          by_cases hm1 : m = 1
          · subst hm1
            go_wp2_with fail
            go_ret
            exact ⟨(k : Int), rfl, HBX.out, .inr ⟨k, by rw [HL.out]; exact hlt, rfl, by rw [HQ.out]; exact HALL.out⟩⟩
          · have hb1 : ((m : Int) == 1) = false := by simp; omega
            go_wp2_with fail
            go_roundw
            case rel => exact ⟨k + 1, by omega, by go_num, HBX.out, hid (fun i hi => by
              rcases Nat.lt_or_ge i k with h9 | h9
              · exact HK.out i h9
              · obtain rfl : i = k := by omega
                rw [HQ.out, HALL.out]; exact hm1)⟩
            case measure => simp [intOf]; omega
    · obtain rfl : k = n := by omega
      go_wp2_with fail
      go_ret
      exact ⟨-1, rfl, hbr, .inl ⟨rfl, fun q hq => by
        obtain ⟨i, hi, rfl⟩ := List.getElem_of_mem hq
        have := HK.out i (by rw [← HL.out]; exact hi)
        rwa [List.getD_eq_getElem?_getD, List.getElem?_eq_getElem hi] at this⟩⟩
end Go.Proofs.YtmefbbpcfphciaaDoor
