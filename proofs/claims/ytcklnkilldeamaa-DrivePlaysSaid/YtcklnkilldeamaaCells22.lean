/- Cells of numbers. -/
import Derived.Test.YtcklnkilldeamaaSameD
import Derived.Test.YtcklnkilldeamaaData
import Derived.Test.YtcklnkilldeamaaWithin
import Derived.ArgAppend
namespace Wells
theorem tdiv_bd7 {x : Int} (h : -9223372036854775808 ≤ x ∧ x ≤ 9223372036854775807) : -9223372036854775808 ≤ x.tdiv 7 ∧ x.tdiv 7 ≤ 9223372036854775807 := by
  have e := Int.tdiv_eq_ediv (a := x) (b := 7)
  have e1 : Int.sign 7 = 1 := rfl
  rw [e1] at e
  rw [e]
  split <;> omega
end Wells
namespace Go.Proofs.Ytcklnkilldeamaa
open Go.RowKit Wells
def CellsR (w : World) (e : Ending) (w' : World) : Prop :=
  ∃ (A : Option Addr) (k c : Nat) (vs : List Value) (ls : List (List Byte)), e = .returned (.slice A k c) ∧ ls.length = k ∧ k ≤ 6 ∧ (∀ x ∈ ls, 1 ≤ x.length ∧ x.length ≤ 64) ∧ OBs w.heap.size w' (.slice A k c) vs ls ∧ Below w.heap.size w w'
set_option maxRecDepth 20000 in
set_option maxHeartbeats 2000000 in
theorem cells22_any (nn x : Int) (w : World) (h1 : -9223372036854775808 ≤ nn ∧ nn ≤ 9223372036854775807) (h2 : -9223372036854775808 ≤ x ∧ x ≤ 9223372036854775807) :
    Calls Try.prog 41 #[.int .i64 nn, .int .i64 x] w (CellsR w) := by
  obtain ⟨n, hn⟩ : ∃ k : Nat, (k : Int) = nn % 7 := ⟨(nn % 7).toNat, by omega⟩
  have hn6 : n ≤ 6 := by omega
  have HN := hid hn
  clear hn
  obtain ⟨i1, hi', hz0', hz1', hz2'⟩ := info_parts infoBs
  have hd7 := tdiv_bd7 h2
  have e7 : IntKind.i64.wrap (x.tdiv 7) = x.tdiv 7 := by rw [IntKind.wrap_i64]; omega
  go_enter Try.func41, Try.ntmps41
  go_wp2_with fail
  go_loopw [5, 6] (fun v i wr => ∃ (j : Nat) (A : Option Addr) (c : Nat) (vs : List Value) (ls : List (List Byte)), j ≤ n ∧ i = .int .i64 j ∧ v = .slice A j c ∧ ls.length = j ∧ (∀ y ∈ ls, 1 ≤ y.length ∧ y.length ≤ 64) ∧ OBs w.heap.size wr (.slice A j c) vs ls ∧ Below w.heap.size w wr) (fun _ i _ => n - (intOf i).toNat)
  case atStart => exact ⟨0, none, 0, [], [], by omega, rfl, rfl, rfl, (fun y hy => by cases hy), OBs.nil_ _ _, Below.refl _ _⟩
  case round =>
    obtain ⟨j, A, c, vs, ls, hj, rfl, rfl, hlj, hyl, hos, hbw⟩ := hrel
    have hwz := hbw.size
    have HLJ := hid hlj
    have HYL := hid hyl
    have HOS := hid hos
    have HBW := hid hbw
    clear hlj hyl hos hbw
    by_cases hlt : j < n
    · have hlt2 : (j : Int) < (n : Int) := by omega
      obtain ⟨u, hu⟩ : ∃ u, IntKind.i64.wrap (x.tdiv 7 + (j : Int)) = u := ⟨_, rfl⟩
      have hub : -9223372036854775808 ≤ u ∧ u ≤ 9223372036854775807 := by rw [← hu, IntKind.wrap_i64]; omega
      obtain ⟨xv, hxv⟩ : ∃ v, IntKind.i64.wrap (x + (j : Int)) = v := ⟨_, rfl⟩
      have hxr : -9223372036854775808 ≤ xv ∧ xv ≤ 9223372036854775807 := by rw [← hxv, IntKind.wrap_i64]; omega
      obtain ⟨r, hr⟩ : ∃ r, u % 19 = r := ⟨_, rfl⟩
      have hrb : 0 ≤ r ∧ r ≤ 18 := by omega
      have HR := hid hr
      clear hr
      go_wp2_with fail
      refine (within_any nn 7 _ h1.1 h1.2 (by omega) (by omega)).mono ?_
      rintro e w3 ⟨rfl, hw3⟩
      rw [← HN.out, ← hw3]
      clear hw3 w3
      go_wp2_with fail
      refine (within_any u 19 _ hub.1 hub.2 (by omega) (by omega)).mono ?_
      rintro e w3 ⟨rfl, hw3⟩
      rw [HR.out, ← hw3]
      clear hw3 w3
      have e19 : IntKind.i64.wrap (r - 17) = r - 17 := by rw [IntKind.wrap_i64]; omega
      by_cases hr18 : r = 18
      · subst hr18
        go_wp2_with fail
        refine (data_any 63 xv wr (by omega) hxr).mono ?_
        rintro e w3 ⟨Ac, cc, y, rfl, hyl, hoc, hb3⟩
        have hos3 := HOS.out.below hb3
        have how := hos3.own
        rw [HLJ.out] at how
        have hz3 := hb3.size
        have hoc' : OB w.heap.size w3 (.slice Ac 63 cc) y := own_base hoc hwz
        have hbl := HBW.out.trans (hb3.mono hwz)
        have HOS3 := hid hos3
        have HOC := hid hoc'
        have HBL := hid hbl
        have HY := hid hyl
        clear hos3 hoc hoc' hbl hb3 hyl
        go_wp2_with (at_builtin; go_must (refine wpl_append rfl (.tmp 13) (.tmp 26) 27 rfl w.heap.size 28 i1 (.slice none 0 0) 1 24 Try.underlying27 hi' hz0' hz1' hz2' rfl (by omega) (.slice A j c) j vs rfl (how.alloc _) _ _ 1 1 [.slice Ac 63 cc] rfl (Sl.fresh _ _ _ _ 1 rfl) (by simp [Value.oneCell']) (j + 1) rfl _ rfl (by omega) (by omega) (by simp; omega) ?_); intro A6 c6 w6 o6 g6 _)
        have b6 : Below w.heap.size w w6 := below_own (HBL.out.alloc (by omega) _) (how.alloc _) g6 (Nat.le_refl _) (by simp; omega)
        have ho6 := (HOS3.out.below ((Below.refl _ _).alloc (Nat.le_refl _) _)).push (x := y) (OB.below HOC.out ((Below.refl _ _).alloc (Nat.le_refl _) _)) (by rw [HLJ.out]; exact o6) g6
        have hall : ∀ z ∈ ls ++ [y], 1 ≤ z.length ∧ z.length ≤ 64 := fun z hz => by
          rcases List.mem_append.1 hz with hz | hz
          · exact HYL.out z hz
          · rw [List.mem_singleton] at hz; subst hz; rw [HY.out]; omega
        have HAL := hid hall
        have HO6 := hid ho6
        have HB6 := hid b6
        have HLN := hid (show (ls ++ [y]).length = j + 1 by rw [List.length_append, HLJ.out]; rfl)
        clear hall ho6 b6 how o6 g6
        go_wp2_with fail
        go_roundw
        case rel => exact ⟨j + 1, A6, c6, _, ls ++ [y], by omega, by go_num, rfl, HLN.out, HAL.out, HO6.out, HB6.out⟩
        case measure => simp [intOf]; omega
      · have hr17 : r - 17 ≤ 0 := by omega
        have hr16 : r ≤ 17 := by omega
        go_wp2_with fail
        refine (data_any 64 xv wr (by omega) hxr).mono ?_
        rintro e w3 ⟨Ac, cc, y, rfl, hyl, hoc, hb3⟩
        have hos3 := HOS.out.below hb3
        have how := hos3.own
        rw [HLJ.out] at how
        have hz3 := hb3.size
        have hoc' : OB w.heap.size w3 (.slice Ac 64 cc) y := own_base hoc hwz
        have hbl := HBW.out.trans (hb3.mono hwz)
        have HOS3 := hid hos3
        have HOC := hid hoc'
        have HBL := hid hbl
        have HY := hid hyl
        clear hos3 hoc hoc' hbl hb3 hyl
        go_wp2_with (at_builtin; go_must (refine wpl_append rfl (.tmp 13) (.tmp 26) 27 rfl w.heap.size 28 i1 (.slice none 0 0) 1 24 Try.underlying27 hi' hz0' hz1' hz2' rfl (by omega) (.slice A j c) j vs rfl (how.alloc _) _ _ 1 1 [.slice Ac 64 cc] rfl (Sl.fresh _ _ _ _ 1 rfl) (by simp [Value.oneCell']) (j + 1) rfl _ rfl (by omega) (by omega) (by simp; omega) ?_); intro A6 c6 w6 o6 g6 _)
        have b6 : Below w.heap.size w w6 := below_own (HBL.out.alloc (by omega) _) (how.alloc _) g6 (Nat.le_refl _) (by simp; omega)
        have ho6 := (HOS3.out.below ((Below.refl _ _).alloc (Nat.le_refl _) _)).push (x := y) (OB.below HOC.out ((Below.refl _ _).alloc (Nat.le_refl _) _)) (by rw [HLJ.out]; exact o6) g6
        have hall : ∀ z ∈ ls ++ [y], 1 ≤ z.length ∧ z.length ≤ 64 := fun z hz => by
          rcases List.mem_append.1 hz with hz | hz
          · exact HYL.out z hz
          · rw [List.mem_singleton] at hz; subst hz; rw [HY.out]; omega
        have HAL := hid hall
        have HO6 := hid ho6
        have HB6 := hid b6
        have HLN := hid (show (ls ++ [y]).length = j + 1 by rw [List.length_append, HLJ.out]; rfl)
        clear hall ho6 b6 how o6 g6
        go_wp2_with fail
        go_roundw
        case rel => exact ⟨j + 1, A6, c6, _, ls ++ [y], by omega, by go_num, rfl, HLN.out, HAL.out, HO6.out, HB6.out⟩
        case measure => simp [intOf]; omega
    · have hjp : j = n := by omega
      subst hjp
      go_wp2_with fail
      refine (within_any nn 7 _ h1.1 h1.2 (by omega) (by omega)).mono ?_
      rintro e w3 ⟨rfl, hw3⟩
      rw [← HN.out, ← hw3]
      clear hw3 w3
      go_wp2_with fail
      go_ret
      exact ⟨A, j, c, vs, ls, rfl, HLJ.out, hn6, HYL.out, HOS.out, HBW.out⟩
end Go.Proofs.Ytcklnkilldeamaa
