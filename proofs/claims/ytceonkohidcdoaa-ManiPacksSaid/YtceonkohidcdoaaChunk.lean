/- How many blocks. -/
import Derived.Test.YtceonkohidcdoaaPre
import Derived.Deep.QuietTactic
import Derived.BigQuiet
namespace Go.Proofs.Ytceonkohidcdoaa
open Go.RowKit Wells
theorem size_any (p : Par) (r : Int) (w : World) (h : p.Ok) (hr : p.size = r) : Calls Try.prog 53 #[p.val] w fun e w' => e = .returned (.int .i64 r) ∧ Below w.heap.size w w' := by
  subst hr
  have hb := Par.size_le h
  obtain ⟨h1, h2, _, _, h5, h6⟩ := h
  obtain ⟨K, H, S⟩ := p
  unfold Par.val Par.size at *
  dsimp only at *
  go_enter Try.func53, Try.ntmps53
  go_wp2
  go_ret
  exact ⟨rfl, (Below.refl _ _).alloc (Nat.le_refl _) _⟩
theorem count_any (p : Par) (n m : Int) (w : World) (hn : -9223372036854775808 ≤ n ∧ n ≤ 9223372036854775807) (hm : countP p n = m) : Calls Try.prog 28 #[p.val, .int .i64 n] w fun e w' => e = .returned (.int .i64 m) ∧ Below w.heap.size w w' := by
  have HM := hid hm
  clear hm
  by_cases h1 : p.may = true
  · have hok := Par.may_ok h1
    have hsz := Par.size_le hok
    by_cases h2 : 0 < n
    · have hz : countP p n = (n - 1) / p.size + 1 := countP_yes h1 h2
      have hq0 : 0 ≤ (n - 1) / p.size := Int.ediv_nonneg (by omega) (by omega)
      have hq1 : (n - 1) / p.size ≤ n - 1 := Int.ediv_le_self _ (by omega)
      obtain ⟨K, H, S⟩ := p
      have HZ := hid hz
      have H1 := hid h1
      have HO := hid hok
      clear hz h1 hok
      generalize hsv : Par.size ⟨K, H, S⟩ = sv at *
      have HSV := hid hsv
      clear hsv
      unfold Par.val at *
      go_enter Try.func28, Try.ntmps28
      go_wp2_with fail
      refine (premay_any ⟨K, H, S⟩ true _ H1.out).mono ?_
      rintro e w1 ⟨rfl, hb⟩
      have hc : ∀ o, o < 3 → w1.cell? ⟨w.heap.size, o, none⟩ = (w.alloc (.cells #[.int .i64 K, .int .i64 H, .int .i64 S] 23)).cell? ⟨w.heap.size, o, none⟩ := fun o _ => hb.cell (p := ⟨w.heap.size, o, none⟩) (by simp)
      have hb' : Below w.heap.size w w1 := ((Below.refl _ _).alloc (Nat.le_refl _) _).trans (hb.mono (by simp))
      have hc0 := hc 0 (by omega)
      have hc1 := hc 1 (by omega)
      have hc2 := hc 2 (by omega)
      clear hc
      go_wp2_with fail
      refine (size_any ⟨K, H, S⟩ sv _ HO.out HSV.out).mono ?_
      rintro e w2 ⟨rfl, hb2⟩
      go_wp2
      go_ret
      exact ⟨ret_int (HZ.out.symm.trans HM.out), hb'.trans (hb2.mono hb'.size)⟩
    · have hz : countP p n = 0 := countP_no (fun h => h2 h.2)
      obtain ⟨K, H, S⟩ := p
      have HZ := hid hz
      have H1 := hid h1
      clear hz h1 hok hsz
      unfold Par.val at *
      go_enter Try.func28, Try.ntmps28
      go_wp2_with fail
      refine (premay_any ⟨K, H, S⟩ true _ H1.out).mono ?_
      rintro e w1 ⟨rfl, hb⟩
      go_wp2
      go_ret
      exact ⟨ret_int (HZ.out.symm.trans HM.out), ((Below.refl _ _).alloc (Nat.le_refl _) _).trans (hb.mono (by simp))⟩
  · have h1' : p.may = false := by simpa using h1
    have hz : countP p n = 0 := countP_no (fun h => h1 h.1)
    obtain ⟨K, H, S⟩ := p
    unfold Par.val at *
    go_enter Try.func28, Try.ntmps28
    go_wp2_with fail
    refine (premay_any ⟨K, H, S⟩ false _ h1').mono ?_
    rintro e w1 ⟨rfl, hb⟩
    go_wp2
    go_ret
    exact ⟨ret_int (hz.symm.trans HM.out), ((Below.refl _ _).alloc (Nat.le_refl _) _).trans (hb.mono (by simp))⟩
end Go.Proofs.Ytceonkohidcdoaa
