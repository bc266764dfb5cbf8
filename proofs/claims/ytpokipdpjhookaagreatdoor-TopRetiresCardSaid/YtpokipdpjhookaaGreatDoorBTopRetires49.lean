/- The statement TopRetires is proved here, as it is given. It has no condition beside the statement's own. -/
import Derived.Test.YtpokipdpjhookaaGreatDoorBTopRetires02
import Derived.Test.YtpokipdpjhookaaGreatDoorBTopRetires03
import Derived.Test.YtpokipdpjhookaaGreatDoorBTopRetires07
import Derived.Test.YtpokipdpjhookaaGreatDoorBTopRetires27
import Derived.Test.YtpokipdpjhookaaGreatDoorBTopRetires48
set_option maxHeartbeats 8000000
set_option maxRecDepth 20000
set_option linter.all false
namespace Go.Proofs.YtpokipdpjhookaaGreatDoor.topRetires
open Go.ChangeShapes Go.WideShapes Go.ChangeAt Go.RowKit
open Go.ChangeMaps (open_string shut_string)
set_option linter.unusedVariables false
theorem own : ownKnob Tryz.prog.godebug = none := by kernel_rfl
theorem laidOut : laidOutB Tryz.prog = true := by kernel_rfl
set_option maxRecDepth 100000 in
set_option maxHeartbeats 2000000 in
theorem lifted (os : Os) (started : os.Started) (H : Type) (enc : TypeId × Value → H) :
    ReturnsInHanded {} Tryz.checked os 3 .any (fun w args => (Rows.topRetiresSpec.pre enc Tryz.prog Tryz.f3 Rows.topRetiresRow.domain false w args ∧ laidMetH Tryz.prog Rows.topRetiresRow.laid w) ∧ sizedMet enc Tryz.prog Tryz.f3 (OpenSpec.ofChange Rows.topRetiresSpec) false w args)
      (Rows.topRetiresSpec.post enc Tryz.prog Tryz.f3 false true false false) := by
  refine returnsInHanded_of_change_and (C := Tryz.checked) (X := fun w _ => laidMetH Tryz.prog Rows.topRetiresRow.laid w) (fun _ _ _ hh h => h.of_heap hh) own started (by kernel_rfl) Tryz.func3
    (ChangeSpec.witness_shaped (enc := enc) (C := Tryz.checked) (os := os) (X := fun w _ => laidMetH Tryz.prog Rows.topRetiresRow.laid w) false (World.laidAll Tryz.prog os Rows.topRetiresRow.laid) #[.slice none 0 0, .slice none 0 0, .slice none 0 0] 8 (World.laidAll_os _ _ _)
      (World.shaped_of_ZipB (by kernel_rfl) (by kernel_rfl)) (by kernel_rfl) (by kernel_rfl) (by kernel_rfl)
      (by rw [MakeChecks.laidMetH_plain _ _ _ (by kernel_rfl)]; exact laidMet_laidAll _ (by kernel_rfl) (by kernel_rfl))) ?_
  intro W base args ds gs before hval0 hW hcnd _ hL _
  have hval : ∀ (j : Nat) t v, Tryz.f3.params[j]? = some t → args[j]? = some v → Value.okWide Tryz.prog W .any base t v := hval0
  have hW' := hW
  obtain ⟨p, q, hA0, hV, rfl, hfz, hnd⟩ := hW
  have hA : DataW.TrodAll enc Tryz.prog W 0 (fun _ => true) true Tryz.f3.params.toList args.toList ds p := hA0
  rw [Tryz.params3] at hA hval
  obtain ⟨v0, vs0, d0, ds0, p0, q0, hargs, rfl, rfl, h0, r0⟩ := trodAll_cons hA
  obtain ⟨v1, vs1, d1, ds1, p1, q1, rfl, rfl, rfl, h1, r1⟩ := trodAll_cons r0
  obtain ⟨v2, vs2, d2, ds2, p2, q2, rfl, rfl, rfl, h2, r2⟩ := trodAll_cons r1
  obtain ⟨rfl, rfl, rfl⟩ := trodAll_nil r2
  obtain rfl : args = #[v0, v1, v2] := by cases args; simp_all
  obtain ⟨rfl, rfl⟩ := trodVars_none hV
  obtain ⟨A0, n0, c0, rfl⟩ := okWide_slice Tryz.underlying22 (hval 0 22 v0 rfl rfl)
  have k0 := h0
  have lt0 : ∀ x ∈ p0, x.block < W.heap.size := by obtain ⟨m, hm⟩ := k0; exact DataW.trod_lt m _ _ _ hm
  obtain ⟨l0, w0⟩ : ∃ l, Z2Q W A0 n0 c0 l := by
    obtain ⟨fuel, hf⟩ := h0
    exact Z5O Tryz.underlying22 Tryz.underlying3 (by kernel_rfl) hf
  obtain ⟨A1, n1, c1, rfl⟩ := okWide_slice Tryz.underlying22 (hval 1 22 v1 rfl rfl)
  have k1 := h1
  have lt1 : ∀ x ∈ p1, x.block < W.heap.size := by obtain ⟨m, hm⟩ := k1; exact DataW.trod_lt m _ _ _ hm
  obtain ⟨l1, w1⟩ : ∃ l, Z2Q W A1 n1 c1 l := by
    obtain ⟨fuel, hf⟩ := h1
    exact Z5O Tryz.underlying22 Tryz.underlying3 (by kernel_rfl) hf
  obtain ⟨A2, n2, c2, rfl⟩ := okWide_slice Tryz.underlying22 (hval 2 22 v2 rfl rfl)
  have k2 := h2
  have lt2 : ∀ x ∈ p2, x.block < W.heap.size := by obtain ⟨m, hm⟩ := k2; exact DataW.trod_lt m _ _ _ hm
  obtain ⟨l2, w2⟩ : ∃ l, Z2Q W A2 n2 c2 l := by
    obtain ⟨fuel, hf⟩ := h2
    exact Z5O Tryz.underlying22 Tryz.underlying3 (by kernel_rfl) hf
  clear hA0 hval0
  refine (walk_TopRetires A0 n0 c0 l0 A1 n1 c1 l1 A2 n2 c2 l2 W w0 w1 w2).mono fun e W' ⟨he, bel⟩ => ?_
  subst he
  exact ⟨_, rfl, _, _, _, [], _, [], hW', trodAll_mk1 (shut_bool Tryz.underlying4 _), (trodAll_cons_mk (Below.trod laidOut (by kernel_rfl) (of_decide_eq_true (by kernel_rfl)) k0 bel lt0) (trodAll_cons_mk (Below.trod laidOut (by kernel_rfl) (of_decide_eq_true (by kernel_rfl)) k1 bel lt1) (trodAll_cons_mk (Below.trod laidOut (by kernel_rfl) (of_decide_eq_true (by kernel_rfl)) k2 bel lt2) trodAll_mk0))), rfl, bel.frame _, fun h => by cases h⟩
theorem joined : joinedFacts Tryz.prog 3 Tryz.f3 Rows.topRetiresSpec Rows.topRetiresRow = true := by
  unfold joinedFacts
  refine Bool.and_eq_true_iff.2 ⟨?_, j31⟩
  refine Bool.and_eq_true_iff.2 ⟨?_, j30⟩
  refine Bool.and_eq_true_iff.2 ⟨?_, j29⟩
  refine Bool.and_eq_true_iff.2 ⟨?_, j28⟩
  refine Bool.and_eq_true_iff.2 ⟨?_, j27⟩
  refine Bool.and_eq_true_iff.2 ⟨?_, j26⟩
  refine Bool.and_eq_true_iff.2 ⟨?_, j25⟩
  refine Bool.and_eq_true_iff.2 ⟨?_, j24⟩
  refine Bool.and_eq_true_iff.2 ⟨?_, j23⟩
  refine Bool.and_eq_true_iff.2 ⟨?_, j22⟩
  refine Bool.and_eq_true_iff.2 ⟨?_, j21⟩
  refine Bool.and_eq_true_iff.2 ⟨?_, j20⟩
  refine Bool.and_eq_true_iff.2 ⟨?_, j19⟩
  refine Bool.and_eq_true_iff.2 ⟨?_, j18⟩
  refine Bool.and_eq_true_iff.2 ⟨?_, j17⟩
  refine Bool.and_eq_true_iff.2 ⟨?_, j16⟩
  refine Bool.and_eq_true_iff.2 ⟨?_, j15⟩
  refine Bool.and_eq_true_iff.2 ⟨?_, j14⟩
  refine Bool.and_eq_true_iff.2 ⟨?_, j13⟩
  refine Bool.and_eq_true_iff.2 ⟨?_, j12⟩
  refine Bool.and_eq_true_iff.2 ⟨?_, j11⟩
  refine Bool.and_eq_true_iff.2 ⟨?_, j10⟩
  refine Bool.and_eq_true_iff.2 ⟨?_, j9⟩
  refine Bool.and_eq_true_iff.2 ⟨?_, j8⟩
  refine Bool.and_eq_true_iff.2 ⟨?_, j7⟩
  refine Bool.and_eq_true_iff.2 ⟨?_, j6⟩
  refine Bool.and_eq_true_iff.2 ⟨?_, j5⟩
  refine Bool.and_eq_true_iff.2 ⟨?_, j4⟩
  refine Bool.and_eq_true_iff.2 ⟨?_, j3⟩
  refine Bool.and_eq_true_iff.2 ⟨?_, j2⟩
  refine Bool.and_eq_true_iff.2 ⟨?_, j1⟩
  exact j0
theorem over : Rows.topRetiresRow.holds Tryz.pinned (OpenSpec.ofChange Rows.topRetiresSpec) :=
  OpenClaim.holds_of_wide 3 Tryz.f3 rfl rfl rfl rfl rfl rfl rfl ⟨rfl, rfl, rfl, rfl, rfl⟩ rfl rfl rfl rfl rfl (by kernel_rfl) Tryz.func3 joined
    (of_decide_eq_true (by kernel_rfl)) (by unfold Func.isWrapper; first | (rw [if_pos (by decide +kernel)]; kernel_rfl) | (rw [if_neg (by decide +kernel)]; exact ⟨rfl, rfl⟩))
    (fun os started H enc _ => lifted os started H enc)
theorem w1 : Rows.topRetiresRow.wfByText (OpenSpec.ofChange Rows.topRetiresSpec) = true := by kernel_rfl
theorem w2 : Tryz.pinned.checked.prog.mainIs = some (true, "be5813271612fa382681d45e3a332ee1b2f134cbd0716e37d6fd8d570785fd1b".toList) := by kernel_rfl
theorem w3 : Tryz.prog.funcNamed "wellspring/wellspringtop.TopRetires" = some 3 := by kernel_rfl
theorem w4 : false = Tryz.prog.looks [] := by kernel_rfl
theorem w6 : false = Rows.topRetiresRow.goesBy Tryz.prog := by kernel_rfl
/-- The statement: the card. -/
theorem proved : Rows.TopRetiresCardSaid :=
  Claim7.holds_tied_plain_at .later [] [.data, .pinned] true (true, "be5813271612fa382681d45e3a332ee1b2f134cbd0716e37d6fd8d570785fd1b") false
    over (fun _ h => by cases h) w1 (fun _ h => by cases h) topRetires_row_tie rfl ⟨rfl, rfl⟩ w2 rfl
    (fun f fn hf hfn => by
      obtain rfl : f = 3 := Option.some.inj (w3.symm.trans hf) |>.symm
      obtain rfl : fn = Tryz.f3 := (Option.some.inj (Tryz.func3.symm.trans hfn)).symm
      exact ⟨w4, fun j t ht => by
        rw [Tryz.params3] at ht
        have hm : t ∈ [22, 22, 22] := by simpa using Array.mem_of_getElem? ht
        have hall : ([22, 22, 22].all fun u => !Tryz.prog.wantsStandIn u) = true := by kernel_rfl
        exact (show Tryz.prog.wantsStandIn t = false by simpa using List.all_eq_true.1 hall t hm)⟩)
    w6
end Go.Proofs.YtpokipdpjhookaaGreatDoor.topRetires
