/- DrivePlays. -/
import Derived.Test.YtcklnkilldeamaaDeed
namespace Go.Proofs.Ytcklnkilldeamaa
open Go.RowKit Wells
theorem dnew_no (n pg : Int) (p : Value) (w : World) (h : n < 1 ∨ 512 < n) : Calls Try.prog 9 #[.int .i64 n, p] w fun e w' => e = .returned (.pointer none) ∧ w = w' := by
  rcases h with h | h
  · go_enter Try.func9, Try.ntmps9
    go_wp2_with fail
    go_ret
    exact ⟨rfl, rfl⟩
  · have h1 : ¬ n < 1 := by omega
    go_enter Try.func9, Try.ntmps9
    go_wp2_with fail
    go_ret
    exact ⟨rfl, rfl⟩
theorem dnew_int (cells : Int) (pg : Nat) (s : Pw) (w : World) (h : 1 ≤ cells ∧ cells ≤ 512) (hp : Row w pg 58 (pw s)) : Calls Try.prog 9 #[.int .i64 cells, .pointer (some ⟨pg, 0, none⟩)] w fun e w' => ∃ g, e = .returned (.pointer (some ⟨g, 0, none⟩)) ∧ Below w.heap.size w w' := by
  obtain ⟨cn, rfl⟩ : ∃ k : Nat, cells = (k : Int) := ⟨cells.toNat, by omega⟩
  refine (dnew_any cn pg s w (by omega) (by omega) hp).mono ?_
  rintro e w' ⟨g, rfl, _, _, hb⟩
  exact ⟨g, rfl, hb⟩
theorem dnew_nil (w : World) : Calls Try.prog 9 #[.int .i64 5, .pointer none] w fun e w' => e = .returned (.pointer none) ∧ w = w' := by
  go_enter Try.func9, Try.ntmps9
  go_wp2_with fail
  go_ret
  exact ⟨rfl, rfl⟩
set_option maxRecDepth 20000 in
set_option maxHeartbeats 1000000 in
theorem walk_DrivePlays (cells : Int) (A : Option Addr) (n c : Nat) (l : List Int) (Ab : Option Addr) (nb cb : Nat) (lb : List Byte) (ii at_ mask : Int) (w : World) (hc : -9223372036854775808 ≤ cells ∧ cells ≤ 9223372036854775807) (h : IsInts w A n c l) (hbb : IsBytes w Ab nb cb lb) (hi : -9223372036854775808 ≤ ii ∧ ii ≤ 9223372036854775807) (hat : -9223372036854775808 ≤ at_ ∧ at_ ≤ 9223372036854775807) (hmask : 0 ≤ mask ∧ mask ≤ 18446744073709551615) :
    Calls Try.prog 6 #[.int .i64 cells, .slice A n c, .slice Ab nb cb, .int .i64 ii, .int .i64 at_, .int .u64 mask] w fun e w' => e = .returned (.bool true) ∧ Below w.heap.size w w' := by
  obtain ⟨hs, hle, hcap, hwf⟩ := h
  obtain ⟨hsb, hleb, hcapb⟩ := hbb
  by_cases h80 : (80 : Int) < (nb : Int)
  · go_enter Try.func6, Try.ntmps6
    go_wp2_with fail
    refine (wakes22 w).mono ?_
    rintro e w9 ⟨rfl, hb9⟩
    go_wp2_with fail
    go_ret
    exact ⟨rfl, hb9⟩
  obtain ⟨n0, hn0⟩ : ∃ k : Nat, cells % 9 = (k : Int) := ⟨(cells % 9).toNat, by omega⟩
  obtain ⟨nd, hnd⟩ : ∃ k, n0 + 1 = k := ⟨_, rfl⟩
  have hndb : 1 ≤ nd ∧ nd ≤ 9 := by omega
  have HN0 := hid hn0
  go_enter Try.func6, Try.ntmps6
  go_wp2_with fail
  refine (pnew_any w).mono ?_
  rintro e w1 ⟨pg, rfl, hpg, hp1, hb1⟩
  have hz1 := hb1.size
  have hq2 := Row.new w1 51 #[.bool false, .bool false, .int .i64 0, .int .i64 0]
  have hb2 : Below w1.heap.size w1 (w1.alloc (.cells #[.bool false, .bool false, .int .i64 0, .int .i64 0] 51)) := (Below.refl _ _).alloc (Nat.le_refl _) _
  have HP2 := hid (hp1.below hb2 hp1.lt)
  have hpgl := hp1.lt
  have HQ2 := hid hq2
  have HB2 := hid (hb1.trans (hb2.mono hz1))
  have HPQ := hid (show pg < w1.heap.size from hpgl)
  clear hp1 hb1 hb2 hq2 hn0
  go_upto_region 4 with fail
  generalize w1.alloc (.cells #[.bool false, .bool false, .int .i64 0, .int .i64 0] 51) = w2 at *
  obtain ⟨qg, hqg⟩ : ∃ x, w1.heap.size = x := ⟨_, rfl⟩
  rw [hqg] at HQ2 HPQ ⊢
  have hqgw : w.heap.size ≤ qg := by omega
  have hpq := HPQ.out
  clear hqg hz1 hpgl
  by_cases hcr : 1 ≤ cells ∧ cells ≤ 512
  · have hcr1 := hcr.1
    have hcr2 := hcr.2
    go_wp2_with fail
    refine (dnew_int cells pg Pw.new w2 hcr HP2.out).mono ?_
    rintro e w3 ⟨g0, rfl, hb3⟩
    have HP3 := hid (HP2.out.below hb3 HP2.out.lt)
    have HQ3 := hid (HQ2.out.below hb3 HQ2.out.lt)
    have HB3 := hid (HB2.out.trans (hb3.mono HB2.out.size))
    clear hb3 HP2 HQ2 HB2
    go_wp2_with fail
    refine (dnew_nil w3).mono ?_
    rintro e w4 ⟨rfl, rfl⟩
    have e45 : IntKind.i64.wrap (1 + (n0 : Int)) = (nd : Int) := by rw [IntKind.wrap_i64]; omega
    go_wp2_with fail
    refine (within_any cells 9 _ hc.1 hc.2 (by omega) (by omega)).mono ?_
    rintro e w4 ⟨rfl, rfl⟩
    rw [HN0.out]
    go_wp2_with fail
    refine (dnew_any nd pg Pw.new w3 (by omega) (by omega) HP3.out).mono ?_
    rintro e w4 ⟨g, rfl, hg, hd4, hb4⟩
    have hz4 := hb4.size
    have hq4 := HQ3.out.below hb4 HQ3.out.lt
    go_wp2_with fail
    refine (rnew_any nd qg Pw.new w4 (by omega) (by omega) hq4).mono ?_
    rintro e w5 ⟨gr, rfl, hgr, hr5, hb5⟩
    have hz5 := hb5.size
    have hq5l := HQ3.out.lt
    have hp5l := HP3.out.lt
    have hzw3 := HB3.out.size
    have HH := hid (show HS w w5 (fun k => k = g ∨ k = pg) (fun k => k = gr ∨ k = qg) g pg gr qg (Dr.new Pw.new nd) (Dr.new Pw.new nd) 0 from
      ⟨hd4.new_ hb5, hr5, fun k hf hg2 => by have := hd4.ltp k hf; rcases hf with rfl | rfl <;> rcases hg2 with h1 | h1 <;> omega, fun k hf => by rcases hf with rfl | rfl <;> omega, fun k hf => by rcases hf with rfl | rfl <;> omega, (HB3.out.trans (hb4.mono hzw3)).trans (hb5.mono (by omega)), DOk.new_ (by omega), DOk.new_ (by omega)⟩)
    clear hd4 hb4 hq4 hr5 hb5
    go_wp2_with fail
    go_loopw [19] (fun iv wr => ∃ (j kx : Nat) (F G : Nat → Prop) (d : Dr), j ≤ 40 ∧ kx = 3 * j ∧ iv = .int .i64 (kx : Int) ∧ HS w wr F G g pg gr qg d d j) (fun iv _ => 130 - (intOf iv).toNat)
    case atStart => exact ⟨0, 0, _, _, _, by omega, rfl, rfl, HH.out⟩
    case round =>
      clear HH HP3 HQ3
      obtain ⟨j, kx, F, G, d, hj, hkx, rfl, hw⟩ := hrel
      have HW := hid hw
      have HW0 := hid hkx
      obtain ⟨k1x, hk1x⟩ : ∃ x, kx + 1 = x := ⟨_, rfl⟩
      obtain ⟨k2x, hk2x⟩ : ∃ x, kx + 2 = x := ⟨_, rfl⟩
      obtain ⟨k3x, hk3x⟩ : ∃ x, kx + 3 = x := ⟨_, rfl⟩
      have e59 : IntKind.i64.wrap ((kx : Int) + 2) = (k2x : Int) := by rw [IntKind.wrap_i64]; omega
      have e79 : IntKind.i64.wrap ((kx : Int) + 1) = (k1x : Int) := by rw [IntKind.wrap_i64]; omega
      have e68 : IntKind.i64.wrap ((kx : Int) + 3) = (k3x : Int) := by rw [IntKind.wrap_i64]; omega
      have HK3 := hid (show k3x = 3 * (j + 1) by omega)
      by_cases hc1 : (k2x : Int) < (n : Int)
      · by_cases hc2 : (kx : Int) < 120
        · have hj39 : j ≤ 39 := by omega
          have hb0 : (kx : Int) < (n : Int) := by omega
          have hb1 : (k1x : Int) < (n : Int) := by omega
          obtain ⟨b, o, rfl, hbl, hat2⟩ := hs.at_ (by omega)
          have hln : l.length = n := by have := hs.len; simpa using this
          have key : ∀ q, q < n → ∃ z : Int, w.cell? ⟨b, o + q, none⟩ = some (.int .i64 z) ∧ -9223372036854775808 ≤ z ∧ z ≤ 9223372036854775807 := fun q hq => by
            refine ⟨l[q]'(by omega), hat2 q _ (by rw [List.getElem?_map, List.getElem?_eq_getElem (by omega)]; rfl), hwf _ (List.getElem_mem _)⟩
          obtain ⟨z0, k0, hz0⟩ := key kx (by omega)
          obtain ⟨z1, k1, hz1⟩ := key k1x (by omega)
          obtain ⟨z2, k2, hz2⟩ := key k2x (by omega)
          have HWD := hid (HW.out.new_ (below_drew' (Below.refl _ _)))
          clear key hk1x hk2x hk3x hkx hw hat2
          go_wp2_with fail
          refine Org.begin [] (fun w' => Below w.heap.size w w') [0, 1, 2, 3, 4, 5, 6, 7, 8, 9, 10, 11, 12, 13, 14, 15, 16, 17, 18, 19, 20, 21, 22, 23, 24, 25] (by kernel_rfl) (below_drew' HW.out.be) (fun hS => ?_)
          (refine Org.yes (v := ?_) rfl (by kernel_rfl) (by kernel_rfl) (by kernel_rfl) (by kernel_rfl) (by kernel_rfl) (fun _ _ _ h => h) (by kernel_rfl) (SM.of hS) ?_ ?_; rotate_left; (focus (intro w hSw; (try dsimp only at hSw); refine Pure.val ?_; go_simp; (try with_reducible rfl); done)); try simp only [Act.put, List.setIfInBounds_toArray, List.set_cons_zero, List.set_cons_succ])
          (refine Org.yes (v := ?_) rfl (by kernel_rfl) (by kernel_rfl) (by kernel_rfl) (by kernel_rfl) (by kernel_rfl) (fun _ _ _ h => h) (by kernel_rfl) (SM.of hS) ?_ ?_; rotate_left; (focus (intro w hSw; (try dsimp only at hSw); refine Pure.val ?_; go_simp; (try with_reducible rfl); done)); try simp only [Act.put, List.setIfInBounds_toArray, List.set_cons_zero, List.set_cons_succ])
          (refine Org.yes (v := ?_) rfl (by kernel_rfl) (by kernel_rfl) (by kernel_rfl) (by kernel_rfl) (by kernel_rfl) (fun _ _ _ h => h) (by kernel_rfl) (SM.of hS) ?_ ?_; rotate_left; (focus (intro w hSw; (try dsimp only at hSw); refine Pure.val ?_; go_simp; (try with_reducible rfl); done)); try simp only [Act.put, List.setIfInBounds_toArray, List.set_cons_zero, List.set_cons_succ])
          (refine Org.yes (v := ?_) rfl (by kernel_rfl) (by kernel_rfl) (by kernel_rfl) (by kernel_rfl) (by kernel_rfl) (fun _ _ _ h => h) (by kernel_rfl) (SM.of hS) ?_ ?_; rotate_left; (focus (intro w hSw; (try dsimp only at hSw); refine Pure.val ?_; go_simp; (try with_reducible rfl); done)); try simp only [Act.put, List.setIfInBounds_toArray, List.set_cons_zero, List.set_cons_succ])
          (refine Org.yes (v := ?_) rfl (by kernel_rfl) (by kernel_rfl) (by kernel_rfl) (by kernel_rfl) (by kernel_rfl) (fun _ _ _ h => h) (by kernel_rfl) (SM.of hS) ?_ ?_; rotate_left; (focus (intro w hSw; (try dsimp only at hSw); refine Pure.val ?_; go_simp; (try with_reducible rfl); done)); try simp only [Act.put, List.setIfInBounds_toArray, List.set_cons_zero, List.set_cons_succ])
          (refine Org.yes (v := ?_) rfl (by kernel_rfl) (by kernel_rfl) (by kernel_rfl) (by kernel_rfl) (by kernel_rfl) (fun _ _ _ h => h) (by kernel_rfl) (SM.of hS) ?_ ?_; rotate_left; (focus (intro w hSw; (try dsimp only at hSw); refine Pure.val ?_; go_simp; (try with_reducible rfl); done)); try simp only [Act.put, List.setIfInBounds_toArray, List.set_cons_zero, List.set_cons_succ])
          (refine Org.yes (v := ?_) rfl (by kernel_rfl) (by kernel_rfl) (by kernel_rfl) (by kernel_rfl) (by kernel_rfl) (fun _ _ _ h => h) (by kernel_rfl) (SM.of hS) ?_ ?_; rotate_left; (focus (intro w hSw; (try dsimp only at hSw); refine Pure.val ?_; go_simp; (try with_reducible rfl); done)); try simp only [Act.put, List.setIfInBounds_toArray, List.set_cons_zero, List.set_cons_succ])
          (refine Org.yes (v := ?_) rfl (by kernel_rfl) (by kernel_rfl) (by kernel_rfl) (by kernel_rfl) (by kernel_rfl) (fun _ _ _ h => h) (by kernel_rfl) (SM.of hS) ?_ ?_; rotate_left; (focus (intro w hSw; (try dsimp only at hSw); have q0 := cell_keep hSw k0; refine Pure.val ?_; go_simp; (try with_reducible rfl); done)); try simp only [Act.put, List.setIfInBounds_toArray, List.set_cons_zero, List.set_cons_succ])
          (refine Org.yes (v := ?_) rfl (by kernel_rfl) (by kernel_rfl) (by kernel_rfl) (by kernel_rfl) (by kernel_rfl) (fun _ _ _ h => h) (by kernel_rfl) (SM.of hS) ?_ ?_; rotate_left; (focus (intro w hSw; (try dsimp only at hSw); refine Pure.val ?_; go_simp; (try with_reducible rfl); done)); try simp only [Act.put, List.setIfInBounds_toArray, List.set_cons_zero, List.set_cons_succ])
          (refine Org.yes (v := ?_) rfl (by kernel_rfl) (by kernel_rfl) (by kernel_rfl) (by kernel_rfl) (by kernel_rfl) (fun _ _ _ h => h) (by kernel_rfl) (SM.of hS) ?_ ?_; rotate_left; (focus (intro w hSw; (try dsimp only at hSw); refine Pure.val ?_; go_simp; (try with_reducible rfl); done)); try simp only [Act.put, List.setIfInBounds_toArray, List.set_cons_zero, List.set_cons_succ])
          (refine Org.yes (v := ?_) rfl (by kernel_rfl) (by kernel_rfl) (by kernel_rfl) (by kernel_rfl) (by kernel_rfl) (fun _ _ _ h => h) (by kernel_rfl) (SM.of hS) ?_ ?_; rotate_left; (focus (intro w hSw; (try dsimp only at hSw); refine Pure.val ?_; go_simp; (try with_reducible rfl); done)); try simp only [Act.put, List.setIfInBounds_toArray, List.set_cons_zero, List.set_cons_succ])
          (refine Org.yes (v := ?_) rfl (by kernel_rfl) (by kernel_rfl) (by kernel_rfl) (by kernel_rfl) (by kernel_rfl) (fun _ _ _ h => h) (by kernel_rfl) (SM.of hS) ?_ ?_; rotate_left; (focus (intro w hSw; (try dsimp only at hSw); refine Pure.val ?_; go_simp; (try with_reducible rfl); done)); try simp only [Act.put, List.setIfInBounds_toArray, List.set_cons_zero, List.set_cons_succ])
          (refine Org.yes (v := ?_) rfl (by kernel_rfl) (by kernel_rfl) (by kernel_rfl) (by kernel_rfl) (by kernel_rfl) (fun _ _ _ h => h) (by kernel_rfl) (SM.of hS) ?_ ?_; rotate_left; (focus (intro w hSw; (try dsimp only at hSw); have q1 := cell_keep hSw k1; refine Pure.val ?_; go_simp; (try with_reducible rfl); done)); try simp only [Act.put, List.setIfInBounds_toArray, List.set_cons_zero, List.set_cons_succ])
          (refine Org.yes (v := ?_) rfl (by kernel_rfl) (by kernel_rfl) (by kernel_rfl) (by kernel_rfl) (by kernel_rfl) (fun _ _ _ h => h) (by kernel_rfl) (SM.of hS) ?_ ?_; rotate_left; (focus (intro w hSw; (try dsimp only at hSw); refine Pure.val ?_; go_simp; (try with_reducible rfl); done)); try simp only [Act.put, List.setIfInBounds_toArray, List.set_cons_zero, List.set_cons_succ])
          (refine Org.yes (v := ?_) rfl (by kernel_rfl) (by kernel_rfl) (by kernel_rfl) (by kernel_rfl) (by kernel_rfl) (fun _ _ _ h => h) (by kernel_rfl) (SM.of hS) ?_ ?_; rotate_left; (focus (intro w hSw; (try dsimp only at hSw); refine Pure.val ?_; go_simp; (try with_reducible rfl); done)); try simp only [Act.put, List.setIfInBounds_toArray, List.set_cons_zero, List.set_cons_succ])
          (refine Org.yes (v := ?_) rfl (by kernel_rfl) (by kernel_rfl) (by kernel_rfl) (by kernel_rfl) (by kernel_rfl) (fun _ _ _ h => h) (by kernel_rfl) (SM.of hS) ?_ ?_; rotate_left; (focus (intro w hSw; (try dsimp only at hSw); refine Pure.val ?_; go_simp; (try with_reducible rfl); done)); try simp only [Act.put, List.setIfInBounds_toArray, List.set_cons_zero, List.set_cons_succ])
          (refine Org.yes (v := ?_) rfl (by kernel_rfl) (by kernel_rfl) (by kernel_rfl) (by kernel_rfl) (by kernel_rfl) (fun _ _ _ h => h) (by kernel_rfl) (SM.of hS) ?_ ?_; rotate_left; (focus (intro w hSw; (try dsimp only at hSw); refine Pure.val ?_; go_simp; (try with_reducible rfl); done)); try simp only [Act.put, List.setIfInBounds_toArray, List.set_cons_zero, List.set_cons_succ])
          (refine Org.yes (v := ?_) rfl (by kernel_rfl) (by kernel_rfl) (by kernel_rfl) (by kernel_rfl) (by kernel_rfl) (fun _ _ _ h => h) (by kernel_rfl) (SM.of hS) ?_ ?_; rotate_left; (focus (intro w hSw; (try dsimp only at hSw); have q2 := cell_keep hSw k2; refine Pure.val ?_; go_simp; (try with_reducible rfl); done)); try simp only [Act.put, List.setIfInBounds_toArray, List.set_cons_zero, List.set_cons_succ])
          refine Org.go rfl (by kernel_rfl) (by kernel_rfl) (fun K hK => ?_)
          go_simp
          go_at_call 28
          refine (deed_any w F G g pg gr qg d j z0 z1 z2 _ HWD.out (by omega) hz0 hz1 hz2).mono ?_
          rintro e w5 ⟨rfl, F', G', d', h5⟩
          have H5 := hid h5
          clear h5
          go_wp2_with fail
          refine hK.out _ _ H5.out.be (fun hS2 => ?_)
          clear hK K hS
          have hS := hS2
          clear hS2
          try simp only [Act.put, List.setIfInBounds_toArray, List.set_cons_zero, List.set_cons_succ]
          (refine Org.yes (v := ?_) rfl (by kernel_rfl) (by kernel_rfl) (by kernel_rfl) (by kernel_rfl) (by kernel_rfl) (fun _ _ _ h => h) (by kernel_rfl) (SM.of hS) ?_ ?_; rotate_left; (focus (intro w hSw; (try dsimp only at hSw); refine Pure.val ?_; go_simp; (try with_reducible rfl); done)); try simp only [Act.put, List.setIfInBounds_toArray, List.set_cons_zero, List.set_cons_succ])
          (refine Org.yes (v := ?_) rfl (by kernel_rfl) (by kernel_rfl) (by kernel_rfl) (by kernel_rfl) (by kernel_rfl) (fun _ _ _ h => h) (by kernel_rfl) (SM.of hS) ?_ ?_; rotate_left; (focus (intro w hSw; (try dsimp only at hSw); refine Pure.val ?_; go_simp; (try with_reducible rfl); done)); try simp only [Act.put, List.setIfInBounds_toArray, List.set_cons_zero, List.set_cons_succ])
          (refine Org.yes (v := ?_) rfl (by kernel_rfl) (by kernel_rfl) (by kernel_rfl) (by kernel_rfl) (by kernel_rfl) (fun _ _ _ h => h) (by kernel_rfl) (SM.of hS) ?_ ?_; rotate_left; (focus (intro w hSw; (try dsimp only at hSw); refine Pure.val ?_; go_simp; (try with_reducible rfl); done)); try simp only [Act.put, List.setIfInBounds_toArray, List.set_cons_zero, List.set_cons_succ])
          (refine Org.yes (v := ?_) rfl (by kernel_rfl) (by kernel_rfl) (by kernel_rfl) (by kernel_rfl) (by kernel_rfl) (fun _ _ _ h => h) (by kernel_rfl) (SM.of hS) ?_ ?_; rotate_left; (focus (intro w hSw; (try dsimp only at hSw); refine Pure.val ?_; go_simp; (try with_reducible rfl); done)); try simp only [Act.put, List.setIfInBounds_toArray, List.set_cons_zero, List.set_cons_succ])
          refine Org.go rfl (by kernel_rfl) (by kernel_rfl) (fun K hK => ?_)
          go_simp
          go_at_call 29
          refine (same22_any w F' G' g pg gr qg d' (j + 1) _ H5.out).mono ?_
          rintro e w6 ⟨rfl, hb6⟩
          have H6 := hid (H5.out.new_ hb6)
          clear hb6
          go_wp2_with fail
          refine hK.out _ _ H6.out.be (fun hS2 => ?_)
          clear hK K hS
          have hS := hS2
          clear hS2
          try simp only [Act.put, List.setIfInBounds_toArray, List.set_cons_zero, List.set_cons_succ]
          (refine Org.yes (v := ?_) rfl (by kernel_rfl) (by kernel_rfl) (by kernel_rfl) (by kernel_rfl) (by kernel_rfl) (fun _ _ _ h => h) (by kernel_rfl) (SM.of hS) ?_ ?_; rotate_left; (focus (intro w hSw; (try dsimp only at hSw); refine Pure.val ?_; go_simp; (try with_reducible rfl); done)); try simp only [Act.put, List.setIfInBounds_toArray, List.set_cons_zero, List.set_cons_succ])
          (refine Org.yes (v := ?_) rfl (by kernel_rfl) (by kernel_rfl) (by kernel_rfl) (by kernel_rfl) (by kernel_rfl) (fun _ _ _ h => h) (by kernel_rfl) (SM.of hS) ?_ ?_; rotate_left; (focus (intro w hSw; (try dsimp only at hSw); refine Pure.val ?_; go_simp; (try with_reducible rfl); done)); try simp only [Act.put, List.setIfInBounds_toArray, List.set_cons_zero, List.set_cons_succ])
          refine Org.done (by kernel_rfl) ?_
          go_wp2_with fail
          go_roundw
          case rel => exact ⟨j + 1, k3x, F', G', d', by omega, HK3.out, rfl, H6.out⟩
          case measure => have h8 := HK3.out; have h9 := HW0.out; simp [intOf]; omega
        · clear hk1x hk2x hk3x hkx hw
          clear HW0
          go_wp2_with fail
          refine (dappend_any F g pg d j w.heap.size Ab lb nb cb wr HW.out.d_ HW.out.okd (by omega) (hsb.below HW.out.be) HW.out.be.size (by omega)).mono ?_
          rintro e w5 ⟨rfl, hd5, hO5⟩
          have H5 := hid (HW.out.prog hO5 hd5 HW.out.okd.append (Nat.le_succ j))
          clear hd5 hO5
          go_wp2_with fail
          have HSL := hid (show ∀ w', Only G w5 w' → Sl w' w'.heap.size 1 Ab nb (lb.map bv8) from fun w' hg => by
            have h1 := H5.out.be.trans (hg.below H5.out.hG H5.out.be.size)
            exact (hsb.below h1).mono h1.size)
          refine (rappend_any G gr qg d (j + 1) Ab lb nb cb w5 H5.out.r_ H5.out.okr (by omega) HSL.out (by omega)).mono ?_
          rintro e w6 ⟨rfl, hr6, hO6⟩
          have H6 := hid (H5.out.doc hO6 hr6 HW.out.okr.append (Nat.le_refl _))
          clear hr6 hO6
          obtain ⟨er, her⟩ : ∃ x, (d.append lb).2 = x := ⟨_, rfl⟩
          obtain ⟨d6, hd6⟩ : ∃ x, (d.append lb).1 = x := ⟨_, rfl⟩
          rw [hd6] at H6
          rw [her]
          have hne : (er != er) = false := by simp
          clear her hd6
          obtain ⟨F6, hF6⟩ : ∃ F6, Ext F wr w5 = F6 := ⟨_, rfl⟩
          obtain ⟨G6, hG6⟩ : ∃ G6, Ext G w5 w6 = G6 := ⟨_, rfl⟩
          rw [hF6, hG6] at H6
          clear hF6 hG6
          have hmb := u32_bd mask
          obtain ⟨mk, hmk⟩ : ∃ x, mask % 4294967296 = x := ⟨_, rfl⟩
          rw [hmk] at hmb
          go_wp2_with fail
          refine (dspoil_any F6 g pg d6 (j + 1) ii at_ mk w6 H6.out.d_ H6.out.okd hi hat hmb).mono ?_
          rintro e w7 ⟨rfl, hd7, hO7⟩
          have H7 := hid (H6.out.prog hO7 hd7.up H6.out.okd.spoil (Nat.le_refl _))
          clear hd7 hO7
          go_wp2_with fail
          refine (rspoil_any G6 gr qg d6 (j + 1) ii at_ mk w7 H7.out.r_ H7.out.okr hi hat hmb).mono ?_
          rintro e w8 ⟨rfl, hr8, hO8⟩
          have H8 := hid (H7.out.doc hO8 hr8 H6.out.okr.spoil (Nat.le_refl _))
          clear hr8 hO8
          obtain ⟨br, hbr⟩ : ∃ x, (d6.spoil ii at_ mk).2 = x := ⟨_, rfl⟩
          obtain ⟨d8, hd8⟩ : ∃ x, (d6.spoil ii at_ mk).1 = x := ⟨_, rfl⟩
          rw [hd8] at H8
          rw [hbr]
          have hnb : (br != br) = false := by simp
          clear hbr hd8
          obtain ⟨F8, hF8⟩ : ∃ F8, Ext F6 w6 w7 = F8 := ⟨_, rfl⟩
          obtain ⟨G8, hG8⟩ : ∃ G8, Ext G6 w7 w8 = G8 := ⟨_, rfl⟩
          rw [hF8, hG8] at H8
          clear hF8 hG8
          go_wp2_with fail
          refine (dcrash_any F8 g pg d8 (j + 1) ii at_ w8 H8.out.d_ H8.out.okd hi hat).mono ?_
          rintro e w9 ⟨rfl, hd9, hO9⟩
          have H9 := hid (H8.out.prog hO9 hd9 H8.out.okd.crash (Nat.le_refl _))
          clear hd9 hO9
          go_wp2_with fail
          refine (rcrash_any G8 gr qg d8 (j + 1) ii at_ w9 H9.out.r_ H9.out.okr hi hat).mono ?_
          rintro e w10 ⟨rfl, hr10, hO10⟩
          have H10 := hid (H9.out.doc hO10 hr10 H8.out.okr.crash (Nat.le_refl _))
          clear hr10 hO10
          go_wp2_with fail
          refine (same22_any w _ _ g pg gr qg _ (j + 1) w10 H10.out).mono ?_
          rintro e w11 ⟨rfl, hb11⟩
          have H11 := hid (H10.out.new_ hb11)
          clear hb11
          go_wp2_with fail
          refine (wakes22 w11).mono ?_
          rintro e w12 ⟨rfl, hb12⟩
          have hbe := H11.out.be.trans (hb12.mono H11.out.be.size)
          clear hb12
          go_wp2_with fail
          go_ret
          exact ⟨rfl, hbe⟩
      · clear hk1x hk2x hk3x hkx hw
        clear HW0
        go_wp2_with fail
        refine (dappend_any F g pg d j w.heap.size Ab lb nb cb wr HW.out.d_ HW.out.okd (by omega) (hsb.below HW.out.be) HW.out.be.size (by omega)).mono ?_
        rintro e w5 ⟨rfl, hd5, hO5⟩
        have H5 := hid (HW.out.prog hO5 hd5 HW.out.okd.append (Nat.le_succ j))
        clear hd5 hO5
        go_wp2_with fail
        have HSL := hid (show ∀ w', Only G w5 w' → Sl w' w'.heap.size 1 Ab nb (lb.map bv8) from fun w' hg => by
          have h1 := H5.out.be.trans (hg.below H5.out.hG H5.out.be.size)
          exact (hsb.below h1).mono h1.size)
        refine (rappend_any G gr qg d (j + 1) Ab lb nb cb w5 H5.out.r_ H5.out.okr (by omega) HSL.out (by omega)).mono ?_
        rintro e w6 ⟨rfl, hr6, hO6⟩
        have H6 := hid (H5.out.doc hO6 hr6 HW.out.okr.append (Nat.le_refl _))
        clear hr6 hO6
        obtain ⟨er, her⟩ : ∃ x, (d.append lb).2 = x := ⟨_, rfl⟩
        obtain ⟨d6, hd6⟩ : ∃ x, (d.append lb).1 = x := ⟨_, rfl⟩
        rw [hd6] at H6
        rw [her]
        have hne : (er != er) = false := by simp
        clear her hd6
        obtain ⟨F6, hF6⟩ : ∃ F6, Ext F wr w5 = F6 := ⟨_, rfl⟩
        obtain ⟨G6, hG6⟩ : ∃ G6, Ext G w5 w6 = G6 := ⟨_, rfl⟩
        rw [hF6, hG6] at H6
        clear hF6 hG6
        have hmb := u32_bd mask
        obtain ⟨mk, hmk⟩ : ∃ x, mask % 4294967296 = x := ⟨_, rfl⟩
        rw [hmk] at hmb
        go_wp2_with fail
        refine (dspoil_any F6 g pg d6 (j + 1) ii at_ mk w6 H6.out.d_ H6.out.okd hi hat hmb).mono ?_
        rintro e w7 ⟨rfl, hd7, hO7⟩
        have H7 := hid (H6.out.prog hO7 hd7.up H6.out.okd.spoil (Nat.le_refl _))
        clear hd7 hO7
        go_wp2_with fail
        refine (rspoil_any G6 gr qg d6 (j + 1) ii at_ mk w7 H7.out.r_ H7.out.okr hi hat hmb).mono ?_
        rintro e w8 ⟨rfl, hr8, hO8⟩
        have H8 := hid (H7.out.doc hO8 hr8 H6.out.okr.spoil (Nat.le_refl _))
        clear hr8 hO8
        obtain ⟨br, hbr⟩ : ∃ x, (d6.spoil ii at_ mk).2 = x := ⟨_, rfl⟩
        obtain ⟨d8, hd8⟩ : ∃ x, (d6.spoil ii at_ mk).1 = x := ⟨_, rfl⟩
        rw [hd8] at H8
        rw [hbr]
        have hnb : (br != br) = false := by simp
        clear hbr hd8
        obtain ⟨F8, hF8⟩ : ∃ F8, Ext F6 w6 w7 = F8 := ⟨_, rfl⟩
        obtain ⟨G8, hG8⟩ : ∃ G8, Ext G6 w7 w8 = G8 := ⟨_, rfl⟩
        rw [hF8, hG8] at H8
        clear hF8 hG8
        go_wp2_with fail
        refine (dcrash_any F8 g pg d8 (j + 1) ii at_ w8 H8.out.d_ H8.out.okd hi hat).mono ?_
        rintro e w9 ⟨rfl, hd9, hO9⟩
        have H9 := hid (H8.out.prog hO9 hd9 H8.out.okd.crash (Nat.le_refl _))
        clear hd9 hO9
        go_wp2_with fail
        refine (rcrash_any G8 gr qg d8 (j + 1) ii at_ w9 H9.out.r_ H9.out.okr hi hat).mono ?_
        rintro e w10 ⟨rfl, hr10, hO10⟩
        have H10 := hid (H9.out.doc hO10 hr10 H8.out.okr.crash (Nat.le_refl _))
        clear hr10 hO10
        go_wp2_with fail
        refine (same22_any w _ _ g pg gr qg _ (j + 1) w10 H10.out).mono ?_
        rintro e w11 ⟨rfl, hb11⟩
        have H11 := hid (H10.out.new_ hb11)
        clear hb11
        go_wp2_with fail
        refine (wakes22 w11).mono ?_
        rintro e w12 ⟨rfl, hb12⟩
        have hbe := H11.out.be.trans (hb12.mono H11.out.be.size)
        clear hb12
        go_wp2_with fail
        go_ret
        exact ⟨rfl, hbe⟩
  · have hno : cells < 1 ∨ 512 < cells := by omega
    go_wp2_with fail
    refine (dnew_no cells 0 _ w2 hno).mono ?_
    rintro e w3 ⟨rfl, rfl⟩
    have HP3 := HP2
    have HQ3 := HQ2
    have HB3 := HB2
    clear HP2 HQ2 HB2
    have hno1 : cells < 1 ∨ (1 ≤ cells ∧ 512 < cells) := by omega
    rcases hno1 with hno1 | hno1
    · have hd2 := hno1
      go_wp2_with fail
      refine (dnew_nil w2).mono ?_
      rintro e w4 ⟨rfl, rfl⟩
      have e45 : IntKind.i64.wrap (1 + (n0 : Int)) = (nd : Int) := by rw [IntKind.wrap_i64]; omega
      go_wp2_with fail
      refine (within_any cells 9 _ hc.1 hc.2 (by omega) (by omega)).mono ?_
      rintro e w4 ⟨rfl, rfl⟩
      rw [HN0.out]
      go_wp2_with fail
      refine (dnew_any nd pg Pw.new w2 (by omega) (by omega) HP3.out).mono ?_
      rintro e w4 ⟨g, rfl, hg, hd4, hb4⟩
      have hz4 := hb4.size
      have hq4 := HQ3.out.below hb4 HQ3.out.lt
      go_wp2_with fail
      refine (rnew_any nd qg Pw.new w4 (by omega) (by omega) hq4).mono ?_
      rintro e w5 ⟨gr, rfl, hgr, hr5, hb5⟩
      have hz5 := hb5.size
      have hq5l := HQ3.out.lt
      have hp5l := HP3.out.lt
      have hzw3 := HB3.out.size
      have HH := hid (show HS w w5 (fun k => k = g ∨ k = pg) (fun k => k = gr ∨ k = qg) g pg gr qg (Dr.new Pw.new nd) (Dr.new Pw.new nd) 0 from
        ⟨hd4.new_ hb5, hr5, fun k hf hg2 => by have := hd4.ltp k hf; rcases hf with rfl | rfl <;> rcases hg2 with h1 | h1 <;> omega, fun k hf => by rcases hf with rfl | rfl <;> omega, fun k hf => by rcases hf with rfl | rfl <;> omega, (HB3.out.trans (hb4.mono hzw3)).trans (hb5.mono (by omega)), DOk.new_ (by omega), DOk.new_ (by omega)⟩)
      clear hd4 hb4 hq4 hr5 hb5
      go_wp2_with fail
      go_loopw [19] (fun iv wr => ∃ (j kx : Nat) (F G : Nat → Prop) (d : Dr), j ≤ 40 ∧ kx = 3 * j ∧ iv = .int .i64 (kx : Int) ∧ HS w wr F G g pg gr qg d d j) (fun iv _ => 130 - (intOf iv).toNat)
      case atStart => exact ⟨0, 0, _, _, _, by omega, rfl, rfl, HH.out⟩
      case round =>
        clear HH HP3 HQ3
        obtain ⟨j, kx, F, G, d, hj, hkx, rfl, hw⟩ := hrel
        have HW := hid hw
        have HW0 := hid hkx
        obtain ⟨k1x, hk1x⟩ : ∃ x, kx + 1 = x := ⟨_, rfl⟩
        obtain ⟨k2x, hk2x⟩ : ∃ x, kx + 2 = x := ⟨_, rfl⟩
        obtain ⟨k3x, hk3x⟩ : ∃ x, kx + 3 = x := ⟨_, rfl⟩
        have e59 : IntKind.i64.wrap ((kx : Int) + 2) = (k2x : Int) := by rw [IntKind.wrap_i64]; omega
        have e79 : IntKind.i64.wrap ((kx : Int) + 1) = (k1x : Int) := by rw [IntKind.wrap_i64]; omega
        have e68 : IntKind.i64.wrap ((kx : Int) + 3) = (k3x : Int) := by rw [IntKind.wrap_i64]; omega
        have HK3 := hid (show k3x = 3 * (j + 1) by omega)
        by_cases hc1 : (k2x : Int) < (n : Int)
        · by_cases hc2 : (kx : Int) < 120
          · have hj39 : j ≤ 39 := by omega
            have hb0 : (kx : Int) < (n : Int) := by omega
            have hb1 : (k1x : Int) < (n : Int) := by omega
            obtain ⟨b, o, rfl, hbl, hat2⟩ := hs.at_ (by omega)
            have hln : l.length = n := by have := hs.len; simpa using this
            have key : ∀ q, q < n → ∃ z : Int, w.cell? ⟨b, o + q, none⟩ = some (.int .i64 z) ∧ -9223372036854775808 ≤ z ∧ z ≤ 9223372036854775807 := fun q hq => by
              refine ⟨l[q]'(by omega), hat2 q _ (by rw [List.getElem?_map, List.getElem?_eq_getElem (by omega)]; rfl), hwf _ (List.getElem_mem _)⟩
            obtain ⟨z0, k0, hz0⟩ := key kx (by omega)
            obtain ⟨z1, k1, hz1⟩ := key k1x (by omega)
            obtain ⟨z2, k2, hz2⟩ := key k2x (by omega)
            have HWD := hid (HW.out.new_ (below_drew' (Below.refl _ _)))
            clear key hk1x hk2x hk3x hkx hw hat2
            go_wp2_with fail
            refine Org.begin [] (fun w' => Below w.heap.size w w') [0, 1, 2, 3, 4, 5, 6, 7, 8, 9, 10, 11, 12, 13, 14, 15, 16, 17, 18, 19, 20, 21, 22, 23, 24, 25] (by kernel_rfl) (below_drew' HW.out.be) (fun hS => ?_)
            (refine Org.yes (v := ?_) rfl (by kernel_rfl) (by kernel_rfl) (by kernel_rfl) (by kernel_rfl) (by kernel_rfl) (fun _ _ _ h => h) (by kernel_rfl) (SM.of hS) ?_ ?_; rotate_left; (focus (intro w hSw; (try dsimp only at hSw); refine Pure.val ?_; go_simp; (try with_reducible rfl); done)); try simp only [Act.put, List.setIfInBounds_toArray, List.set_cons_zero, List.set_cons_succ])
            (refine Org.yes (v := ?_) rfl (by kernel_rfl) (by kernel_rfl) (by kernel_rfl) (by kernel_rfl) (by kernel_rfl) (fun _ _ _ h => h) (by kernel_rfl) (SM.of hS) ?_ ?_; rotate_left; (focus (intro w hSw; (try dsimp only at hSw); refine Pure.val ?_; go_simp; (try with_reducible rfl); done)); try simp only [Act.put, List.setIfInBounds_toArray, List.set_cons_zero, List.set_cons_succ])
            (refine Org.yes (v := ?_) rfl (by kernel_rfl) (by kernel_rfl) (by kernel_rfl) (by kernel_rfl) (by kernel_rfl) (fun _ _ _ h => h) (by kernel_rfl) (SM.of hS) ?_ ?_; rotate_left; (focus (intro w hSw; (try dsimp only at hSw); refine Pure.val ?_; go_simp; (try with_reducible rfl); done)); try simp only [Act.put, List.setIfInBounds_toArray, List.set_cons_zero, List.set_cons_succ])
            (refine Org.yes (v := ?_) rfl (by kernel_rfl) (by kernel_rfl) (by kernel_rfl) (by kernel_rfl) (by kernel_rfl) (fun _ _ _ h => h) (by kernel_rfl) (SM.of hS) ?_ ?_; rotate_left; (focus (intro w hSw; (try dsimp only at hSw); refine Pure.val ?_; go_simp; (try with_reducible rfl); done)); try simp only [Act.put, List.setIfInBounds_toArray, List.set_cons_zero, List.set_cons_succ])
            (refine Org.yes (v := ?_) rfl (by kernel_rfl) (by kernel_rfl) (by kernel_rfl) (by kernel_rfl) (by kernel_rfl) (fun _ _ _ h => h) (by kernel_rfl) (SM.of hS) ?_ ?_; rotate_left; (focus (intro w hSw; (try dsimp only at hSw); refine Pure.val ?_; go_simp; (try with_reducible rfl); done)); try simp only [Act.put, List.setIfInBounds_toArray, List.set_cons_zero, List.set_cons_succ])
            (refine Org.yes (v := ?_) rfl (by kernel_rfl) (by kernel_rfl) (by kernel_rfl) (by kernel_rfl) (by kernel_rfl) (fun _ _ _ h => h) (by kernel_rfl) (SM.of hS) ?_ ?_; rotate_left; (focus (intro w hSw; (try dsimp only at hSw); refine Pure.val ?_; go_simp; (try with_reducible rfl); done)); try simp only [Act.put, List.setIfInBounds_toArray, List.set_cons_zero, List.set_cons_succ])
            (refine Org.yes (v := ?_) rfl (by kernel_rfl) (by kernel_rfl) (by kernel_rfl) (by kernel_rfl) (by kernel_rfl) (fun _ _ _ h => h) (by kernel_rfl) (SM.of hS) ?_ ?_; rotate_left; (focus (intro w hSw; (try dsimp only at hSw); refine Pure.val ?_; go_simp; (try with_reducible rfl); done)); try simp only [Act.put, List.setIfInBounds_toArray, List.set_cons_zero, List.set_cons_succ])
            (refine Org.yes (v := ?_) rfl (by kernel_rfl) (by kernel_rfl) (by kernel_rfl) (by kernel_rfl) (by kernel_rfl) (fun _ _ _ h => h) (by kernel_rfl) (SM.of hS) ?_ ?_; rotate_left; (focus (intro w hSw; (try dsimp only at hSw); have q0 := cell_keep hSw k0; refine Pure.val ?_; go_simp; (try with_reducible rfl); done)); try simp only [Act.put, List.setIfInBounds_toArray, List.set_cons_zero, List.set_cons_succ])
            (refine Org.yes (v := ?_) rfl (by kernel_rfl) (by kernel_rfl) (by kernel_rfl) (by kernel_rfl) (by kernel_rfl) (fun _ _ _ h => h) (by kernel_rfl) (SM.of hS) ?_ ?_; rotate_left; (focus (intro w hSw; (try dsimp only at hSw); refine Pure.val ?_; go_simp; (try with_reducible rfl); done)); try simp only [Act.put, List.setIfInBounds_toArray, List.set_cons_zero, List.set_cons_succ])
            (refine Org.yes (v := ?_) rfl (by kernel_rfl) (by kernel_rfl) (by kernel_rfl) (by kernel_rfl) (by kernel_rfl) (fun _ _ _ h => h) (by kernel_rfl) (SM.of hS) ?_ ?_; rotate_left; (focus (intro w hSw; (try dsimp only at hSw); refine Pure.val ?_; go_simp; (try with_reducible rfl); done)); try simp only [Act.put, List.setIfInBounds_toArray, List.set_cons_zero, List.set_cons_succ])
            (refine Org.yes (v := ?_) rfl (by kernel_rfl) (by kernel_rfl) (by kernel_rfl) (by kernel_rfl) (by kernel_rfl) (fun _ _ _ h => h) (by kernel_rfl) (SM.of hS) ?_ ?_; rotate_left; (focus (intro w hSw; (try dsimp only at hSw); refine Pure.val ?_; go_simp; (try with_reducible rfl); done)); try simp only [Act.put, List.setIfInBounds_toArray, List.set_cons_zero, List.set_cons_succ])
            (refine Org.yes (v := ?_) rfl (by kernel_rfl) (by kernel_rfl) (by kernel_rfl) (by kernel_rfl) (by kernel_rfl) (fun _ _ _ h => h) (by kernel_rfl) (SM.of hS) ?_ ?_; rotate_left; (focus (intro w hSw; (try dsimp only at hSw); refine Pure.val ?_; go_simp; (try with_reducible rfl); done)); try simp only [Act.put, List.setIfInBounds_toArray, List.set_cons_zero, List.set_cons_succ])
            (refine Org.yes (v := ?_) rfl (by kernel_rfl) (by kernel_rfl) (by kernel_rfl) (by kernel_rfl) (by kernel_rfl) (fun _ _ _ h => h) (by kernel_rfl) (SM.of hS) ?_ ?_; rotate_left; (focus (intro w hSw; (try dsimp only at hSw); have q1 := cell_keep hSw k1; refine Pure.val ?_; go_simp; (try with_reducible rfl); done)); try simp only [Act.put, List.setIfInBounds_toArray, List.set_cons_zero, List.set_cons_succ])
            (refine Org.yes (v := ?_) rfl (by kernel_rfl) (by kernel_rfl) (by kernel_rfl) (by kernel_rfl) (by kernel_rfl) (fun _ _ _ h => h) (by kernel_rfl) (SM.of hS) ?_ ?_; rotate_left; (focus (intro w hSw; (try dsimp only at hSw); refine Pure.val ?_; go_simp; (try with_reducible rfl); done)); try simp only [Act.put, List.setIfInBounds_toArray, List.set_cons_zero, List.set_cons_succ])
            (refine Org.yes (v := ?_) rfl (by kernel_rfl) (by kernel_rfl) (by kernel_rfl) (by kernel_rfl) (by kernel_rfl) (fun _ _ _ h => h) (by kernel_rfl) (SM.of hS) ?_ ?_; rotate_left; (focus (intro w hSw; (try dsimp only at hSw); refine Pure.val ?_; go_simp; (try with_reducible rfl); done)); try simp only [Act.put, List.setIfInBounds_toArray, List.set_cons_zero, List.set_cons_succ])
            (refine Org.yes (v := ?_) rfl (by kernel_rfl) (by kernel_rfl) (by kernel_rfl) (by kernel_rfl) (by kernel_rfl) (fun _ _ _ h => h) (by kernel_rfl) (SM.of hS) ?_ ?_; rotate_left; (focus (intro w hSw; (try dsimp only at hSw); refine Pure.val ?_; go_simp; (try with_reducible rfl); done)); try simp only [Act.put, List.setIfInBounds_toArray, List.set_cons_zero, List.set_cons_succ])
            (refine Org.yes (v := ?_) rfl (by kernel_rfl) (by kernel_rfl) (by kernel_rfl) (by kernel_rfl) (by kernel_rfl) (fun _ _ _ h => h) (by kernel_rfl) (SM.of hS) ?_ ?_; rotate_left; (focus (intro w hSw; (try dsimp only at hSw); refine Pure.val ?_; go_simp; (try with_reducible rfl); done)); try simp only [Act.put, List.setIfInBounds_toArray, List.set_cons_zero, List.set_cons_succ])
            (refine Org.yes (v := ?_) rfl (by kernel_rfl) (by kernel_rfl) (by kernel_rfl) (by kernel_rfl) (by kernel_rfl) (fun _ _ _ h => h) (by kernel_rfl) (SM.of hS) ?_ ?_; rotate_left; (focus (intro w hSw; (try dsimp only at hSw); have q2 := cell_keep hSw k2; refine Pure.val ?_; go_simp; (try with_reducible rfl); done)); try simp only [Act.put, List.setIfInBounds_toArray, List.set_cons_zero, List.set_cons_succ])
            refine Org.go rfl (by kernel_rfl) (by kernel_rfl) (fun K hK => ?_)
            go_simp
            go_at_call 28
            refine (deed_any w F G g pg gr qg d j z0 z1 z2 _ HWD.out (by omega) hz0 hz1 hz2).mono ?_
            rintro e w5 ⟨rfl, F', G', d', h5⟩
            have H5 := hid h5
            clear h5
            go_wp2_with fail
            refine hK.out _ _ H5.out.be (fun hS2 => ?_)
            clear hK K hS
            have hS := hS2
            clear hS2
            try simp only [Act.put, List.setIfInBounds_toArray, List.set_cons_zero, List.set_cons_succ]
            (refine Org.yes (v := ?_) rfl (by kernel_rfl) (by kernel_rfl) (by kernel_rfl) (by kernel_rfl) (by kernel_rfl) (fun _ _ _ h => h) (by kernel_rfl) (SM.of hS) ?_ ?_; rotate_left; (focus (intro w hSw; (try dsimp only at hSw); refine Pure.val ?_; go_simp; (try with_reducible rfl); done)); try simp only [Act.put, List.setIfInBounds_toArray, List.set_cons_zero, List.set_cons_succ])
            (refine Org.yes (v := ?_) rfl (by kernel_rfl) (by kernel_rfl) (by kernel_rfl) (by kernel_rfl) (by kernel_rfl) (fun _ _ _ h => h) (by kernel_rfl) (SM.of hS) ?_ ?_; rotate_left; (focus (intro w hSw; (try dsimp only at hSw); refine Pure.val ?_; go_simp; (try with_reducible rfl); done)); try simp only [Act.put, List.setIfInBounds_toArray, List.set_cons_zero, List.set_cons_succ])
            (refine Org.yes (v := ?_) rfl (by kernel_rfl) (by kernel_rfl) (by kernel_rfl) (by kernel_rfl) (by kernel_rfl) (fun _ _ _ h => h) (by kernel_rfl) (SM.of hS) ?_ ?_; rotate_left; (focus (intro w hSw; (try dsimp only at hSw); refine Pure.val ?_; go_simp; (try with_reducible rfl); done)); try simp only [Act.put, List.setIfInBounds_toArray, List.set_cons_zero, List.set_cons_succ])
            (refine Org.yes (v := ?_) rfl (by kernel_rfl) (by kernel_rfl) (by kernel_rfl) (by kernel_rfl) (by kernel_rfl) (fun _ _ _ h => h) (by kernel_rfl) (SM.of hS) ?_ ?_; rotate_left; (focus (intro w hSw; (try dsimp only at hSw); refine Pure.val ?_; go_simp; (try with_reducible rfl); done)); try simp only [Act.put, List.setIfInBounds_toArray, List.set_cons_zero, List.set_cons_succ])
            refine Org.go rfl (by kernel_rfl) (by kernel_rfl) (fun K hK => ?_)
            go_simp
            go_at_call 29
            refine (same22_any w F' G' g pg gr qg d' (j + 1) _ H5.out).mono ?_
            rintro e w6 ⟨rfl, hb6⟩
            have H6 := hid (H5.out.new_ hb6)
            clear hb6
            go_wp2_with fail
            refine hK.out _ _ H6.out.be (fun hS2 => ?_)
            clear hK K hS
            have hS := hS2
            clear hS2
            try simp only [Act.put, List.setIfInBounds_toArray, List.set_cons_zero, List.set_cons_succ]
            (refine Org.yes (v := ?_) rfl (by kernel_rfl) (by kernel_rfl) (by kernel_rfl) (by kernel_rfl) (by kernel_rfl) (fun _ _ _ h => h) (by kernel_rfl) (SM.of hS) ?_ ?_; rotate_left; (focus (intro w hSw; (try dsimp only at hSw); refine Pure.val ?_; go_simp; (try with_reducible rfl); done)); try simp only [Act.put, List.setIfInBounds_toArray, List.set_cons_zero, List.set_cons_succ])
            (refine Org.yes (v := ?_) rfl (by kernel_rfl) (by kernel_rfl) (by kernel_rfl) (by kernel_rfl) (by kernel_rfl) (fun _ _ _ h => h) (by kernel_rfl) (SM.of hS) ?_ ?_; rotate_left; (focus (intro w hSw; (try dsimp only at hSw); refine Pure.val ?_; go_simp; (try with_reducible rfl); done)); try simp only [Act.put, List.setIfInBounds_toArray, List.set_cons_zero, List.set_cons_succ])
            refine Org.done (by kernel_rfl) ?_
            go_wp2_with fail
            go_roundw
            case rel => exact ⟨j + 1, k3x, F', G', d', by omega, HK3.out, rfl, H6.out⟩
            case measure => have h8 := HK3.out; have h9 := HW0.out; simp [intOf]; omega
          · clear hk1x hk2x hk3x hkx hw
            clear HW0
            go_wp2_with fail
            refine (dappend_any F g pg d j w.heap.size Ab lb nb cb wr HW.out.d_ HW.out.okd (by omega) (hsb.below HW.out.be) HW.out.be.size (by omega)).mono ?_
            rintro e w5 ⟨rfl, hd5, hO5⟩
            have H5 := hid (HW.out.prog hO5 hd5 HW.out.okd.append (Nat.le_succ j))
            clear hd5 hO5
            go_wp2_with fail
            have HSL := hid (show ∀ w', Only G w5 w' → Sl w' w'.heap.size 1 Ab nb (lb.map bv8) from fun w' hg => by
              have h1 := H5.out.be.trans (hg.below H5.out.hG H5.out.be.size)
              exact (hsb.below h1).mono h1.size)
            refine (rappend_any G gr qg d (j + 1) Ab lb nb cb w5 H5.out.r_ H5.out.okr (by omega) HSL.out (by omega)).mono ?_
            rintro e w6 ⟨rfl, hr6, hO6⟩
            have H6 := hid (H5.out.doc hO6 hr6 HW.out.okr.append (Nat.le_refl _))
            clear hr6 hO6
            obtain ⟨er, her⟩ : ∃ x, (d.append lb).2 = x := ⟨_, rfl⟩
            obtain ⟨d6, hd6⟩ : ∃ x, (d.append lb).1 = x := ⟨_, rfl⟩
            rw [hd6] at H6
            rw [her]
            have hne : (er != er) = false := by simp
            clear her hd6
            obtain ⟨F6, hF6⟩ : ∃ F6, Ext F wr w5 = F6 := ⟨_, rfl⟩
            obtain ⟨G6, hG6⟩ : ∃ G6, Ext G w5 w6 = G6 := ⟨_, rfl⟩
            rw [hF6, hG6] at H6
            clear hF6 hG6
            have hmb := u32_bd mask
            obtain ⟨mk, hmk⟩ : ∃ x, mask % 4294967296 = x := ⟨_, rfl⟩
            rw [hmk] at hmb
            go_wp2_with fail
            refine (dspoil_any F6 g pg d6 (j + 1) ii at_ mk w6 H6.out.d_ H6.out.okd hi hat hmb).mono ?_
            rintro e w7 ⟨rfl, hd7, hO7⟩
            have H7 := hid (H6.out.prog hO7 hd7.up H6.out.okd.spoil (Nat.le_refl _))
            clear hd7 hO7
            go_wp2_with fail
            refine (rspoil_any G6 gr qg d6 (j + 1) ii at_ mk w7 H7.out.r_ H7.out.okr hi hat hmb).mono ?_
            rintro e w8 ⟨rfl, hr8, hO8⟩
            have H8 := hid (H7.out.doc hO8 hr8 H6.out.okr.spoil (Nat.le_refl _))
            clear hr8 hO8
            obtain ⟨br, hbr⟩ : ∃ x, (d6.spoil ii at_ mk).2 = x := ⟨_, rfl⟩
            obtain ⟨d8, hd8⟩ : ∃ x, (d6.spoil ii at_ mk).1 = x := ⟨_, rfl⟩
            rw [hd8] at H8
            rw [hbr]
            have hnb : (br != br) = false := by simp
            clear hbr hd8
            obtain ⟨F8, hF8⟩ : ∃ F8, Ext F6 w6 w7 = F8 := ⟨_, rfl⟩
            obtain ⟨G8, hG8⟩ : ∃ G8, Ext G6 w7 w8 = G8 := ⟨_, rfl⟩
            rw [hF8, hG8] at H8
            clear hF8 hG8
            go_wp2_with fail
            refine (dcrash_any F8 g pg d8 (j + 1) ii at_ w8 H8.out.d_ H8.out.okd hi hat).mono ?_
            rintro e w9 ⟨rfl, hd9, hO9⟩
            have H9 := hid (H8.out.prog hO9 hd9 H8.out.okd.crash (Nat.le_refl _))
            clear hd9 hO9
            go_wp2_with fail
            refine (rcrash_any G8 gr qg d8 (j + 1) ii at_ w9 H9.out.r_ H9.out.okr hi hat).mono ?_
            rintro e w10 ⟨rfl, hr10, hO10⟩
            have H10 := hid (H9.out.doc hO10 hr10 H8.out.okr.crash (Nat.le_refl _))
            clear hr10 hO10
            go_wp2_with fail
            refine (same22_any w _ _ g pg gr qg _ (j + 1) w10 H10.out).mono ?_
            rintro e w11 ⟨rfl, hb11⟩
            have H11 := hid (H10.out.new_ hb11)
            clear hb11
            go_wp2_with fail
            refine (wakes22 w11).mono ?_
            rintro e w12 ⟨rfl, hb12⟩
            have hbe := H11.out.be.trans (hb12.mono H11.out.be.size)
            clear hb12
            go_wp2_with fail
            go_ret
            exact ⟨rfl, hbe⟩
        · clear hk1x hk2x hk3x hkx hw
          clear HW0
          go_wp2_with fail
          refine (dappend_any F g pg d j w.heap.size Ab lb nb cb wr HW.out.d_ HW.out.okd (by omega) (hsb.below HW.out.be) HW.out.be.size (by omega)).mono ?_
          rintro e w5 ⟨rfl, hd5, hO5⟩
          have H5 := hid (HW.out.prog hO5 hd5 HW.out.okd.append (Nat.le_succ j))
          clear hd5 hO5
          go_wp2_with fail
          have HSL := hid (show ∀ w', Only G w5 w' → Sl w' w'.heap.size 1 Ab nb (lb.map bv8) from fun w' hg => by
            have h1 := H5.out.be.trans (hg.below H5.out.hG H5.out.be.size)
            exact (hsb.below h1).mono h1.size)
          refine (rappend_any G gr qg d (j + 1) Ab lb nb cb w5 H5.out.r_ H5.out.okr (by omega) HSL.out (by omega)).mono ?_
          rintro e w6 ⟨rfl, hr6, hO6⟩
          have H6 := hid (H5.out.doc hO6 hr6 HW.out.okr.append (Nat.le_refl _))
          clear hr6 hO6
          obtain ⟨er, her⟩ : ∃ x, (d.append lb).2 = x := ⟨_, rfl⟩
          obtain ⟨d6, hd6⟩ : ∃ x, (d.append lb).1 = x := ⟨_, rfl⟩
          rw [hd6] at H6
          rw [her]
          have hne : (er != er) = false := by simp
          clear her hd6
          obtain ⟨F6, hF6⟩ : ∃ F6, Ext F wr w5 = F6 := ⟨_, rfl⟩
          obtain ⟨G6, hG6⟩ : ∃ G6, Ext G w5 w6 = G6 := ⟨_, rfl⟩
          rw [hF6, hG6] at H6
          clear hF6 hG6
          have hmb := u32_bd mask
          obtain ⟨mk, hmk⟩ : ∃ x, mask % 4294967296 = x := ⟨_, rfl⟩
          rw [hmk] at hmb
          go_wp2_with fail
          refine (dspoil_any F6 g pg d6 (j + 1) ii at_ mk w6 H6.out.d_ H6.out.okd hi hat hmb).mono ?_
          rintro e w7 ⟨rfl, hd7, hO7⟩
          have H7 := hid (H6.out.prog hO7 hd7.up H6.out.okd.spoil (Nat.le_refl _))
          clear hd7 hO7
          go_wp2_with fail
          refine (rspoil_any G6 gr qg d6 (j + 1) ii at_ mk w7 H7.out.r_ H7.out.okr hi hat hmb).mono ?_
          rintro e w8 ⟨rfl, hr8, hO8⟩
          have H8 := hid (H7.out.doc hO8 hr8 H6.out.okr.spoil (Nat.le_refl _))
          clear hr8 hO8
          obtain ⟨br, hbr⟩ : ∃ x, (d6.spoil ii at_ mk).2 = x := ⟨_, rfl⟩
          obtain ⟨d8, hd8⟩ : ∃ x, (d6.spoil ii at_ mk).1 = x := ⟨_, rfl⟩
          rw [hd8] at H8
          rw [hbr]
          have hnb : (br != br) = false := by simp
          clear hbr hd8
          obtain ⟨F8, hF8⟩ : ∃ F8, Ext F6 w6 w7 = F8 := ⟨_, rfl⟩
          obtain ⟨G8, hG8⟩ : ∃ G8, Ext G6 w7 w8 = G8 := ⟨_, rfl⟩
          rw [hF8, hG8] at H8
          clear hF8 hG8
          go_wp2_with fail
          refine (dcrash_any F8 g pg d8 (j + 1) ii at_ w8 H8.out.d_ H8.out.okd hi hat).mono ?_
          rintro e w9 ⟨rfl, hd9, hO9⟩
          have H9 := hid (H8.out.prog hO9 hd9 H8.out.okd.crash (Nat.le_refl _))
          clear hd9 hO9
          go_wp2_with fail
          refine (rcrash_any G8 gr qg d8 (j + 1) ii at_ w9 H9.out.r_ H9.out.okr hi hat).mono ?_
          rintro e w10 ⟨rfl, hr10, hO10⟩
          have H10 := hid (H9.out.doc hO10 hr10 H8.out.okr.crash (Nat.le_refl _))
          clear hr10 hO10
          go_wp2_with fail
          refine (same22_any w _ _ g pg gr qg _ (j + 1) w10 H10.out).mono ?_
          rintro e w11 ⟨rfl, hb11⟩
          have H11 := hid (H10.out.new_ hb11)
          clear hb11
          go_wp2_with fail
          refine (wakes22 w11).mono ?_
          rintro e w12 ⟨rfl, hb12⟩
          have hbe := H11.out.be.trans (hb12.mono H11.out.be.size)
          clear hb12
          go_wp2_with fail
          go_ret
          exact ⟨rfl, hbe⟩
    · have hd1 := hno1.1
      have hd2 := hno1.2
      go_wp2_with fail
      refine (dnew_nil w2).mono ?_
      rintro e w4 ⟨rfl, rfl⟩
      have e45 : IntKind.i64.wrap (1 + (n0 : Int)) = (nd : Int) := by rw [IntKind.wrap_i64]; omega
      go_wp2_with fail
      refine (within_any cells 9 _ hc.1 hc.2 (by omega) (by omega)).mono ?_
      rintro e w4 ⟨rfl, rfl⟩
      rw [HN0.out]
      go_wp2_with fail
      refine (dnew_any nd pg Pw.new w2 (by omega) (by omega) HP3.out).mono ?_
      rintro e w4 ⟨g, rfl, hg, hd4, hb4⟩
      have hz4 := hb4.size
      have hq4 := HQ3.out.below hb4 HQ3.out.lt
      go_wp2_with fail
      refine (rnew_any nd qg Pw.new w4 (by omega) (by omega) hq4).mono ?_
      rintro e w5 ⟨gr, rfl, hgr, hr5, hb5⟩
      have hz5 := hb5.size
      have hq5l := HQ3.out.lt
      have hp5l := HP3.out.lt
      have hzw3 := HB3.out.size
      have HH := hid (show HS w w5 (fun k => k = g ∨ k = pg) (fun k => k = gr ∨ k = qg) g pg gr qg (Dr.new Pw.new nd) (Dr.new Pw.new nd) 0 from
        ⟨hd4.new_ hb5, hr5, fun k hf hg2 => by have := hd4.ltp k hf; rcases hf with rfl | rfl <;> rcases hg2 with h1 | h1 <;> omega, fun k hf => by rcases hf with rfl | rfl <;> omega, fun k hf => by rcases hf with rfl | rfl <;> omega, (HB3.out.trans (hb4.mono hzw3)).trans (hb5.mono (by omega)), DOk.new_ (by omega), DOk.new_ (by omega)⟩)
      clear hd4 hb4 hq4 hr5 hb5
      go_wp2_with fail
      go_loopw [19] (fun iv wr => ∃ (j kx : Nat) (F G : Nat → Prop) (d : Dr), j ≤ 40 ∧ kx = 3 * j ∧ iv = .int .i64 (kx : Int) ∧ HS w wr F G g pg gr qg d d j) (fun iv _ => 130 - (intOf iv).toNat)
      case atStart => exact ⟨0, 0, _, _, _, by omega, rfl, rfl, HH.out⟩
      case round =>
        clear HH HP3 HQ3
        obtain ⟨j, kx, F, G, d, hj, hkx, rfl, hw⟩ := hrel
        have HW := hid hw
        have HW0 := hid hkx
        obtain ⟨k1x, hk1x⟩ : ∃ x, kx + 1 = x := ⟨_, rfl⟩
        obtain ⟨k2x, hk2x⟩ : ∃ x, kx + 2 = x := ⟨_, rfl⟩
        obtain ⟨k3x, hk3x⟩ : ∃ x, kx + 3 = x := ⟨_, rfl⟩
        have e59 : IntKind.i64.wrap ((kx : Int) + 2) = (k2x : Int) := by rw [IntKind.wrap_i64]; omega
        have e79 : IntKind.i64.wrap ((kx : Int) + 1) = (k1x : Int) := by rw [IntKind.wrap_i64]; omega
        have e68 : IntKind.i64.wrap ((kx : Int) + 3) = (k3x : Int) := by rw [IntKind.wrap_i64]; omega
        have HK3 := hid (show k3x = 3 * (j + 1) by omega)
        by_cases hc1 : (k2x : Int) < (n : Int)
        · by_cases hc2 : (kx : Int) < 120
          · have hj39 : j ≤ 39 := by omega
            have hb0 : (kx : Int) < (n : Int) := by omega
            have hb1 : (k1x : Int) < (n : Int) := by omega
            obtain ⟨b, o, rfl, hbl, hat2⟩ := hs.at_ (by omega)
            have hln : l.length = n := by have := hs.len; simpa using this
            have key : ∀ q, q < n → ∃ z : Int, w.cell? ⟨b, o + q, none⟩ = some (.int .i64 z) ∧ -9223372036854775808 ≤ z ∧ z ≤ 9223372036854775807 := fun q hq => by
              refine ⟨l[q]'(by omega), hat2 q _ (by rw [List.getElem?_map, List.getElem?_eq_getElem (by omega)]; rfl), hwf _ (List.getElem_mem _)⟩
            obtain ⟨z0, k0, hz0⟩ := key kx (by omega)
            obtain ⟨z1, k1, hz1⟩ := key k1x (by omega)
            obtain ⟨z2, k2, hz2⟩ := key k2x (by omega)
            have HWD := hid (HW.out.new_ (below_drew' (Below.refl _ _)))
            clear key hk1x hk2x hk3x hkx hw hat2
            go_wp2_with fail
            refine Org.begin [] (fun w' => Below w.heap.size w w') [0, 1, 2, 3, 4, 5, 6, 7, 8, 9, 10, 11, 12, 13, 14, 15, 16, 17, 18, 19, 20, 21, 22, 23, 24, 25] (by kernel_rfl) (below_drew' HW.out.be) (fun hS => ?_)
            (refine Org.yes (v := ?_) rfl (by kernel_rfl) (by kernel_rfl) (by kernel_rfl) (by kernel_rfl) (by kernel_rfl) (fun _ _ _ h => h) (by kernel_rfl) (SM.of hS) ?_ ?_; rotate_left; (focus (intro w hSw; (try dsimp only at hSw); refine Pure.val ?_; go_simp; (try with_reducible rfl); done)); try simp only [Act.put, List.setIfInBounds_toArray, List.set_cons_zero, List.set_cons_succ])
            (refine Org.yes (v := ?_) rfl (by kernel_rfl) (by kernel_rfl) (by kernel_rfl) (by kernel_rfl) (by kernel_rfl) (fun _ _ _ h => h) (by kernel_rfl) (SM.of hS) ?_ ?_; rotate_left; (focus (intro w hSw; (try dsimp only at hSw); refine Pure.val ?_; go_simp; (try with_reducible rfl); done)); try simp only [Act.put, List.setIfInBounds_toArray, List.set_cons_zero, List.set_cons_succ])
            (refine Org.yes (v := ?_) rfl (by kernel_rfl) (by kernel_rfl) (by kernel_rfl) (by kernel_rfl) (by kernel_rfl) (fun _ _ _ h => h) (by kernel_rfl) (SM.of hS) ?_ ?_; rotate_left; (focus (intro w hSw; (try dsimp only at hSw); refine Pure.val ?_; go_simp; (try with_reducible rfl); done)); try simp only [Act.put, List.setIfInBounds_toArray, List.set_cons_zero, List.set_cons_succ])
            (refine Org.yes (v := ?_) rfl (by kernel_rfl) (by kernel_rfl) (by kernel_rfl) (by kernel_rfl) (by kernel_rfl) (fun _ _ _ h => h) (by kernel_rfl) (SM.of hS) ?_ ?_; rotate_left; (focus (intro w hSw; (try dsimp only at hSw); refine Pure.val ?_; go_simp; (try with_reducible rfl); done)); try simp only [Act.put, List.setIfInBounds_toArray, List.set_cons_zero, List.set_cons_succ])
            (refine Org.yes (v := ?_) rfl (by kernel_rfl) (by kernel_rfl) (by kernel_rfl) (by kernel_rfl) (by kernel_rfl) (fun _ _ _ h => h) (by kernel_rfl) (SM.of hS) ?_ ?_; rotate_left; (focus (intro w hSw; (try dsimp only at hSw); refine Pure.val ?_; go_simp; (try with_reducible rfl); done)); try simp only [Act.put, List.setIfInBounds_toArray, List.set_cons_zero, List.set_cons_succ])
            (refine Org.yes (v := ?_) rfl (by kernel_rfl) (by kernel_rfl) (by kernel_rfl) (by kernel_rfl) (by kernel_rfl) (fun _ _ _ h => h) (by kernel_rfl) (SM.of hS) ?_ ?_; rotate_left; (focus (intro w hSw; (try dsimp only at hSw); refine Pure.val ?_; go_simp; (try with_reducible rfl); done)); try simp only [Act.put, List.setIfInBounds_toArray, List.set_cons_zero, List.set_cons_succ])
            (refine Org.yes (v := ?_) rfl (by kernel_rfl) (by kernel_rfl) (by kernel_rfl) (by kernel_rfl) (by kernel_rfl) (fun _ _ _ h => h) (by kernel_rfl) (SM.of hS) ?_ ?_; rotate_left; (focus (intro w hSw; (try dsimp only at hSw); refine Pure.val ?_; go_simp; (try with_reducible rfl); done)); try simp only [Act.put, List.setIfInBounds_toArray, List.set_cons_zero, List.set_cons_succ])
            (refine Org.yes (v := ?_) rfl (by kernel_rfl) (by kernel_rfl) (by kernel_rfl) (by kernel_rfl) (by kernel_rfl) (fun _ _ _ h => h) (by kernel_rfl) (SM.of hS) ?_ ?_; rotate_left; (focus (intro w hSw; (try dsimp only at hSw); have q0 := cell_keep hSw k0; refine Pure.val ?_; go_simp; (try with_reducible rfl); done)); try simp only [Act.put, List.setIfInBounds_toArray, List.set_cons_zero, List.set_cons_succ])
            (refine Org.yes (v := ?_) rfl (by kernel_rfl) (by kernel_rfl) (by kernel_rfl) (by kernel_rfl) (by kernel_rfl) (fun _ _ _ h => h) (by kernel_rfl) (SM.of hS) ?_ ?_; rotate_left; (focus (intro w hSw; (try dsimp only at hSw); refine Pure.val ?_; go_simp; (try with_reducible rfl); done)); try simp only [Act.put, List.setIfInBounds_toArray, List.set_cons_zero, List.set_cons_succ])
            (refine Org.yes (v := ?_) rfl (by kernel_rfl) (by kernel_rfl) (by kernel_rfl) (by kernel_rfl) (by kernel_rfl) (fun _ _ _ h => h) (by kernel_rfl) (SM.of hS) ?_ ?_; rotate_left; (focus (intro w hSw; (try dsimp only at hSw); refine Pure.val ?_; go_simp; (try with_reducible rfl); done)); try simp only [Act.put, List.setIfInBounds_toArray, List.set_cons_zero, List.set_cons_succ])
            (refine Org.yes (v := ?_) rfl (by kernel_rfl) (by kernel_rfl) (by kernel_rfl) (by kernel_rfl) (by kernel_rfl) (fun _ _ _ h => h) (by kernel_rfl) (SM.of hS) ?_ ?_; rotate_left; (focus (intro w hSw; (try dsimp only at hSw); refine Pure.val ?_; go_simp; (try with_reducible rfl); done)); try simp only [Act.put, List.setIfInBounds_toArray, List.set_cons_zero, List.set_cons_succ])
            (refine Org.yes (v := ?_) rfl (by kernel_rfl) (by kernel_rfl) (by kernel_rfl) (by kernel_rfl) (by kernel_rfl) (fun _ _ _ h => h) (by kernel_rfl) (SM.of hS) ?_ ?_; rotate_left; (focus (intro w hSw; (try dsimp only at hSw); refine Pure.val ?_; go_simp; (try with_reducible rfl); done)); try simp only [Act.put, List.setIfInBounds_toArray, List.set_cons_zero, List.set_cons_succ])
            (refine Org.yes (v := ?_) rfl (by kernel_rfl) (by kernel_rfl) (by kernel_rfl) (by kernel_rfl) (by kernel_rfl) (fun _ _ _ h => h) (by kernel_rfl) (SM.of hS) ?_ ?_; rotate_left; (focus (intro w hSw; (try dsimp only at hSw); have q1 := cell_keep hSw k1; refine Pure.val ?_; go_simp; (try with_reducible rfl); done)); try simp only [Act.put, List.setIfInBounds_toArray, List.set_cons_zero, List.set_cons_succ])
            (refine Org.yes (v := ?_) rfl (by kernel_rfl) (by kernel_rfl) (by kernel_rfl) (by kernel_rfl) (by kernel_rfl) (fun _ _ _ h => h) (by kernel_rfl) (SM.of hS) ?_ ?_; rotate_left; (focus (intro w hSw; (try dsimp only at hSw); refine Pure.val ?_; go_simp; (try with_reducible rfl); done)); try simp only [Act.put, List.setIfInBounds_toArray, List.set_cons_zero, List.set_cons_succ])
            (refine Org.yes (v := ?_) rfl (by kernel_rfl) (by kernel_rfl) (by kernel_rfl) (by kernel_rfl) (by kernel_rfl) (fun _ _ _ h => h) (by kernel_rfl) (SM.of hS) ?_ ?_; rotate_left; (focus (intro w hSw; (try dsimp only at hSw); refine Pure.val ?_; go_simp; (try with_reducible rfl); done)); try simp only [Act.put, List.setIfInBounds_toArray, List.set_cons_zero, List.set_cons_succ])
            (refine Org.yes (v := ?_) rfl (by kernel_rfl) (by kernel_rfl) (by kernel_rfl) (by kernel_rfl) (by kernel_rfl) (fun _ _ _ h => h) (by kernel_rfl) (SM.of hS) ?_ ?_; rotate_left; (focus (intro w hSw; (try dsimp only at hSw); refine Pure.val ?_; go_simp; (try with_reducible rfl); done)); try simp only [Act.put, List.setIfInBounds_toArray, List.set_cons_zero, List.set_cons_succ])
            (refine Org.yes (v := ?_) rfl (by kernel_rfl) (by kernel_rfl) (by kernel_rfl) (by kernel_rfl) (by kernel_rfl) (fun _ _ _ h => h) (by kernel_rfl) (SM.of hS) ?_ ?_; rotate_left; (focus (intro w hSw; (try dsimp only at hSw); refine Pure.val ?_; go_simp; (try with_reducible rfl); done)); try simp only [Act.put, List.setIfInBounds_toArray, List.set_cons_zero, List.set_cons_succ])
            (refine Org.yes (v := ?_) rfl (by kernel_rfl) (by kernel_rfl) (by kernel_rfl) (by kernel_rfl) (by kernel_rfl) (fun _ _ _ h => h) (by kernel_rfl) (SM.of hS) ?_ ?_; rotate_left; (focus (intro w hSw; (try dsimp only at hSw); have q2 := cell_keep hSw k2; refine Pure.val ?_; go_simp; (try with_reducible rfl); done)); try simp only [Act.put, List.setIfInBounds_toArray, List.set_cons_zero, List.set_cons_succ])
            refine Org.go rfl (by kernel_rfl) (by kernel_rfl) (fun K hK => ?_)
            go_simp
            go_at_call 28
            refine (deed_any w F G g pg gr qg d j z0 z1 z2 _ HWD.out (by omega) hz0 hz1 hz2).mono ?_
            rintro e w5 ⟨rfl, F', G', d', h5⟩
            have H5 := hid h5
            clear h5
            go_wp2_with fail
            refine hK.out _ _ H5.out.be (fun hS2 => ?_)
            clear hK K hS
            have hS := hS2
            clear hS2
            try simp only [Act.put, List.setIfInBounds_toArray, List.set_cons_zero, List.set_cons_succ]
            (refine Org.yes (v := ?_) rfl (by kernel_rfl) (by kernel_rfl) (by kernel_rfl) (by kernel_rfl) (by kernel_rfl) (fun _ _ _ h => h) (by kernel_rfl) (SM.of hS) ?_ ?_; rotate_left; (focus (intro w hSw; (try dsimp only at hSw); refine Pure.val ?_; go_simp; (try with_reducible rfl); done)); try simp only [Act.put, List.setIfInBounds_toArray, List.set_cons_zero, List.set_cons_succ])
            (refine Org.yes (v := ?_) rfl (by kernel_rfl) (by kernel_rfl) (by kernel_rfl) (by kernel_rfl) (by kernel_rfl) (fun _ _ _ h => h) (by kernel_rfl) (SM.of hS) ?_ ?_; rotate_left; (focus (intro w hSw; (try dsimp only at hSw); refine Pure.val ?_; go_simp; (try with_reducible rfl); done)); try simp only [Act.put, List.setIfInBounds_toArray, List.set_cons_zero, List.set_cons_succ])
            (refine Org.yes (v := ?_) rfl (by kernel_rfl) (by kernel_rfl) (by kernel_rfl) (by kernel_rfl) (by kernel_rfl) (fun _ _ _ h => h) (by kernel_rfl) (SM.of hS) ?_ ?_; rotate_left; (focus (intro w hSw; (try dsimp only at hSw); refine Pure.val ?_; go_simp; (try with_reducible rfl); done)); try simp only [Act.put, List.setIfInBounds_toArray, List.set_cons_zero, List.set_cons_succ])
            (refine Org.yes (v := ?_) rfl (by kernel_rfl) (by kernel_rfl) (by kernel_rfl) (by kernel_rfl) (by kernel_rfl) (fun _ _ _ h => h) (by kernel_rfl) (SM.of hS) ?_ ?_; rotate_left; (focus (intro w hSw; (try dsimp only at hSw); refine Pure.val ?_; go_simp; (try with_reducible rfl); done)); try simp only [Act.put, List.setIfInBounds_toArray, List.set_cons_zero, List.set_cons_succ])
            refine Org.go rfl (by kernel_rfl) (by kernel_rfl) (fun K hK => ?_)
            go_simp
            go_at_call 29
            refine (same22_any w F' G' g pg gr qg d' (j + 1) _ H5.out).mono ?_
            rintro e w6 ⟨rfl, hb6⟩
            have H6 := hid (H5.out.new_ hb6)
            clear hb6
            go_wp2_with fail
            refine hK.out _ _ H6.out.be (fun hS2 => ?_)
            clear hK K hS
            have hS := hS2
            clear hS2
            try simp only [Act.put, List.setIfInBounds_toArray, List.set_cons_zero, List.set_cons_succ]
            (refine Org.yes (v := ?_) rfl (by kernel_rfl) (by kernel_rfl) (by kernel_rfl) (by kernel_rfl) (by kernel_rfl) (fun _ _ _ h => h) (by kernel_rfl) (SM.of hS) ?_ ?_; rotate_left; (focus (intro w hSw; (try dsimp only at hSw); refine Pure.val ?_; go_simp; (try with_reducible rfl); done)); try simp only [Act.put, List.setIfInBounds_toArray, List.set_cons_zero, List.set_cons_succ])
            (refine Org.yes (v := ?_) rfl (by kernel_rfl) (by kernel_rfl) (by kernel_rfl) (by kernel_rfl) (by kernel_rfl) (fun _ _ _ h => h) (by kernel_rfl) (SM.of hS) ?_ ?_; rotate_left; (focus (intro w hSw; (try dsimp only at hSw); refine Pure.val ?_; go_simp; (try with_reducible rfl); done)); try simp only [Act.put, List.setIfInBounds_toArray, List.set_cons_zero, List.set_cons_succ])
            refine Org.done (by kernel_rfl) ?_
            go_wp2_with fail
            go_roundw
            case rel => exact ⟨j + 1, k3x, F', G', d', by omega, HK3.out, rfl, H6.out⟩
            case measure => have h8 := HK3.out; have h9 := HW0.out; simp [intOf]; omega
          · clear hk1x hk2x hk3x hkx hw
            clear HW0
            go_wp2_with fail
            refine (dappend_any F g pg d j w.heap.size Ab lb nb cb wr HW.out.d_ HW.out.okd (by omega) (hsb.below HW.out.be) HW.out.be.size (by omega)).mono ?_
            rintro e w5 ⟨rfl, hd5, hO5⟩
            have H5 := hid (HW.out.prog hO5 hd5 HW.out.okd.append (Nat.le_succ j))
            clear hd5 hO5
            go_wp2_with fail
            have HSL := hid (show ∀ w', Only G w5 w' → Sl w' w'.heap.size 1 Ab nb (lb.map bv8) from fun w' hg => by
              have h1 := H5.out.be.trans (hg.below H5.out.hG H5.out.be.size)
              exact (hsb.below h1).mono h1.size)
            refine (rappend_any G gr qg d (j + 1) Ab lb nb cb w5 H5.out.r_ H5.out.okr (by omega) HSL.out (by omega)).mono ?_
            rintro e w6 ⟨rfl, hr6, hO6⟩
            have H6 := hid (H5.out.doc hO6 hr6 HW.out.okr.append (Nat.le_refl _))
            clear hr6 hO6
            obtain ⟨er, her⟩ : ∃ x, (d.append lb).2 = x := ⟨_, rfl⟩
            obtain ⟨d6, hd6⟩ : ∃ x, (d.append lb).1 = x := ⟨_, rfl⟩
            rw [hd6] at H6
            rw [her]
            have hne : (er != er) = false := by simp
            clear her hd6
            obtain ⟨F6, hF6⟩ : ∃ F6, Ext F wr w5 = F6 := ⟨_, rfl⟩
            obtain ⟨G6, hG6⟩ : ∃ G6, Ext G w5 w6 = G6 := ⟨_, rfl⟩
            rw [hF6, hG6] at H6
            clear hF6 hG6
            have hmb := u32_bd mask
            obtain ⟨mk, hmk⟩ : ∃ x, mask % 4294967296 = x := ⟨_, rfl⟩
            rw [hmk] at hmb
            go_wp2_with fail
            refine (dspoil_any F6 g pg d6 (j + 1) ii at_ mk w6 H6.out.d_ H6.out.okd hi hat hmb).mono ?_
            rintro e w7 ⟨rfl, hd7, hO7⟩
            have H7 := hid (H6.out.prog hO7 hd7.up H6.out.okd.spoil (Nat.le_refl _))
            clear hd7 hO7
            go_wp2_with fail
            refine (rspoil_any G6 gr qg d6 (j + 1) ii at_ mk w7 H7.out.r_ H7.out.okr hi hat hmb).mono ?_
            rintro e w8 ⟨rfl, hr8, hO8⟩
            have H8 := hid (H7.out.doc hO8 hr8 H6.out.okr.spoil (Nat.le_refl _))
            clear hr8 hO8
            obtain ⟨br, hbr⟩ : ∃ x, (d6.spoil ii at_ mk).2 = x := ⟨_, rfl⟩
            obtain ⟨d8, hd8⟩ : ∃ x, (d6.spoil ii at_ mk).1 = x := ⟨_, rfl⟩
            rw [hd8] at H8
            rw [hbr]
            have hnb : (br != br) = false := by simp
            clear hbr hd8
            obtain ⟨F8, hF8⟩ : ∃ F8, Ext F6 w6 w7 = F8 := ⟨_, rfl⟩
            obtain ⟨G8, hG8⟩ : ∃ G8, Ext G6 w7 w8 = G8 := ⟨_, rfl⟩
            rw [hF8, hG8] at H8
            clear hF8 hG8
            go_wp2_with fail
            refine (dcrash_any F8 g pg d8 (j + 1) ii at_ w8 H8.out.d_ H8.out.okd hi hat).mono ?_
            rintro e w9 ⟨rfl, hd9, hO9⟩
            have H9 := hid (H8.out.prog hO9 hd9 H8.out.okd.crash (Nat.le_refl _))
            clear hd9 hO9
            go_wp2_with fail
            refine (rcrash_any G8 gr qg d8 (j + 1) ii at_ w9 H9.out.r_ H9.out.okr hi hat).mono ?_
            rintro e w10 ⟨rfl, hr10, hO10⟩
            have H10 := hid (H9.out.doc hO10 hr10 H8.out.okr.crash (Nat.le_refl _))
            clear hr10 hO10
            go_wp2_with fail
            refine (same22_any w _ _ g pg gr qg _ (j + 1) w10 H10.out).mono ?_
            rintro e w11 ⟨rfl, hb11⟩
            have H11 := hid (H10.out.new_ hb11)
            clear hb11
            go_wp2_with fail
            refine (wakes22 w11).mono ?_
            rintro e w12 ⟨rfl, hb12⟩
            have hbe := H11.out.be.trans (hb12.mono H11.out.be.size)
            clear hb12
            go_wp2_with fail
            go_ret
            exact ⟨rfl, hbe⟩
        · clear hk1x hk2x hk3x hkx hw
          clear HW0
          go_wp2_with fail
          refine (dappend_any F g pg d j w.heap.size Ab lb nb cb wr HW.out.d_ HW.out.okd (by omega) (hsb.below HW.out.be) HW.out.be.size (by omega)).mono ?_
          rintro e w5 ⟨rfl, hd5, hO5⟩
          have H5 := hid (HW.out.prog hO5 hd5 HW.out.okd.append (Nat.le_succ j))
          clear hd5 hO5
          go_wp2_with fail
          have HSL := hid (show ∀ w', Only G w5 w' → Sl w' w'.heap.size 1 Ab nb (lb.map bv8) from fun w' hg => by
            have h1 := H5.out.be.trans (hg.below H5.out.hG H5.out.be.size)
            exact (hsb.below h1).mono h1.size)
          refine (rappend_any G gr qg d (j + 1) Ab lb nb cb w5 H5.out.r_ H5.out.okr (by omega) HSL.out (by omega)).mono ?_
          rintro e w6 ⟨rfl, hr6, hO6⟩
          have H6 := hid (H5.out.doc hO6 hr6 HW.out.okr.append (Nat.le_refl _))
          clear hr6 hO6
          obtain ⟨er, her⟩ : ∃ x, (d.append lb).2 = x := ⟨_, rfl⟩
          obtain ⟨d6, hd6⟩ : ∃ x, (d.append lb).1 = x := ⟨_, rfl⟩
          rw [hd6] at H6
          rw [her]
          have hne : (er != er) = false := by simp
          clear her hd6
          obtain ⟨F6, hF6⟩ : ∃ F6, Ext F wr w5 = F6 := ⟨_, rfl⟩
          obtain ⟨G6, hG6⟩ : ∃ G6, Ext G w5 w6 = G6 := ⟨_, rfl⟩
          rw [hF6, hG6] at H6
          clear hF6 hG6
          have hmb := u32_bd mask
          obtain ⟨mk, hmk⟩ : ∃ x, mask % 4294967296 = x := ⟨_, rfl⟩
          rw [hmk] at hmb
          go_wp2_with fail
          refine (dspoil_any F6 g pg d6 (j + 1) ii at_ mk w6 H6.out.d_ H6.out.okd hi hat hmb).mono ?_
          rintro e w7 ⟨rfl, hd7, hO7⟩
          have H7 := hid (H6.out.prog hO7 hd7.up H6.out.okd.spoil (Nat.le_refl _))
          clear hd7 hO7
          go_wp2_with fail
          refine (rspoil_any G6 gr qg d6 (j + 1) ii at_ mk w7 H7.out.r_ H7.out.okr hi hat hmb).mono ?_
          rintro e w8 ⟨rfl, hr8, hO8⟩
          have H8 := hid (H7.out.doc hO8 hr8 H6.out.okr.spoil (Nat.le_refl _))
          clear hr8 hO8
          obtain ⟨br, hbr⟩ : ∃ x, (d6.spoil ii at_ mk).2 = x := ⟨_, rfl⟩
          obtain ⟨d8, hd8⟩ : ∃ x, (d6.spoil ii at_ mk).1 = x := ⟨_, rfl⟩
          rw [hd8] at H8
          rw [hbr]
          have hnb : (br != br) = false := by simp
          clear hbr hd8
          obtain ⟨F8, hF8⟩ : ∃ F8, Ext F6 w6 w7 = F8 := ⟨_, rfl⟩
          obtain ⟨G8, hG8⟩ : ∃ G8, Ext G6 w7 w8 = G8 := ⟨_, rfl⟩
          rw [hF8, hG8] at H8
          clear hF8 hG8
          go_wp2_with fail
          refine (dcrash_any F8 g pg d8 (j + 1) ii at_ w8 H8.out.d_ H8.out.okd hi hat).mono ?_
          rintro e w9 ⟨rfl, hd9, hO9⟩
          have H9 := hid (H8.out.prog hO9 hd9 H8.out.okd.crash (Nat.le_refl _))
          clear hd9 hO9
          go_wp2_with fail
          refine (rcrash_any G8 gr qg d8 (j + 1) ii at_ w9 H9.out.r_ H9.out.okr hi hat).mono ?_
          rintro e w10 ⟨rfl, hr10, hO10⟩
          have H10 := hid (H9.out.doc hO10 hr10 H8.out.okr.crash (Nat.le_refl _))
          clear hr10 hO10
          go_wp2_with fail
          refine (same22_any w _ _ g pg gr qg _ (j + 1) w10 H10.out).mono ?_
          rintro e w11 ⟨rfl, hb11⟩
          have H11 := hid (H10.out.new_ hb11)
          clear hb11
          go_wp2_with fail
          refine (wakes22 w11).mono ?_
          rintro e w12 ⟨rfl, hb12⟩
          have hbe := H11.out.be.trans (hb12.mono H11.out.be.size)
          clear hb12
          go_wp2_with fail
          go_ret
          exact ⟨rfl, hbe⟩
end Go.Proofs.Ytcklnkilldeamaa
