/- What cells say, by the document. -/
import Derived.Test.YthafodblffgmmaaTake
import Derived.Deep.AppendLies
namespace Go.Proofs.Ythafodblffgmmaa
open Go.RowKit Wells
theorem reftake_any (B : Nat) (A : Option Addr) (l : List Byte) (n c : Nat) (w : World) (h : Sl w B 1 A n (l.map bv8)) (hB : B ≤ w.heap.size) (hn : n ≤ 1048576) (hc : n ≤ c) (hc2 : c ≤ 9223372036854775807) :
    Calls Try.prog 18 #[.slice A n c] w fun e w' => ∃ v, e = .returned (.tuple #[tkV (takeP l), v, .bool (takeP l).isSome]) ∧ OB w.heap.size w' v ((takeP l).getD (0#8, [])).2 ∧ Below w.heap.size w w' := by
  have hl : l.length = n := by have := h.len; simpa using this
  have HL := hid hl
  obtain ⟨i0, hi, hz0, hz1, hz2⟩ := info_parts infoB
  by_cases h64 : n = 64
  · subst h64
    obtain ⟨b, o, rfl, hbB, hcell⟩ := h.at_ (by omega)
    obtain ⟨k, hk⟩ : ∃ k, l.getD 3 0 = k := ⟨_, rfl⟩
    have hc3 : w.cell? ⟨b, o + 3, none⟩ = some (.int .u8 (k.toNat : Int)) := by
      rw [hcell 3 _ (u8s_get l 3 (by omega)), hk]; rfl
    have hkb := k.isLt
    have hsub : Sl w B 1 (some ⟨b, o + 4, none⟩) 55 (((l.drop 4).take 55).map bv8) := by
      refine ⟨by simp [hl], fun _ => ⟨b, o + 4, rfl, hbB, fun j u hu => ?_⟩⟩
      have hj : j < 55 := by
        have := (List.getElem?_eq_some_iff.1 hu).1
        simp [hl] at this
        omega
      have := hcell (4 + j) u (by rw [← hu]; simp [List.getElem?_map, List.getElem?_take, hj, List.getElem?_drop])
      rw [← Nat.add_assoc] at this
      exact this
    obtain ⟨x, hx⟩ : ∃ x, (l.drop 4).take 55 = x := ⟨_, rfl⟩
    rw [hx] at hsub
    have htk : takeP l = if cellL (k.toNat : Int) x = l then some (k, x) else none := by
      unfold takeP
      rw [hk, hx, hl]
      simp
    have HT := hid htk
    have hxl : x.length = 55 := by rw [← hx]; simp [hl]
    have HXL := hid hxl
    have hc4 : ¬ c = 4 := by omega
    have hwk : IntKind.i64.wrap (k.toNat : Int) = (k.toNat : Int) := by rw [IntKind.wrap_i64]; omega
    have f59 : 59 ≤ c := by omega
    have f59i : (59 : Int) ≤ (c : Int) := by omega
    clear hk hx htk hxl hl hcell
    go_enter Try.func18, Try.ntmps18
    go_wp2_with fail
    have hnews : ∀ j u, (x.map bv8)[j]? = some u → w.drew.cell? ((⟨b, o + 4, none⟩ : Addr).add j) = some u := by
      intro j u hu
      obtain ⟨b', o', e, _, hcc⟩ := hsub.at_ (by omega)
      injection e with e
      injection e with e1 e2
      subst e1 e2
      rw [addr_add]
      exact hcc j u hu
    have hnl : (x.map bv8).length = 55 * 1 := by rw [List.length_map, HXL.out]
    go_region_held3 (fun w' => w'.cell? ⟨b, o + 3, none⟩ = some (.int .u8 (k.toNat : Int)) ∧ Below w.heap.size w w')
      (first
        | exact ⟨hc3, below_drewN (Below.refl _ _) 1⟩
        | exact ⟨hb1.cell (p := ⟨b, o + 3, none⟩) (by show b < _; simp; omega) |>.trans hc3, (below_drewN (Below.refl _ _) 1).trans hb1⟩)
      (first
        | (refine step_append_lies w.drew rfl (.const (.slice none 0 0)) (.tmp 15) 25 rfl w.heap.size 5 i0 (.int .u8 0) 1 1 Try.underlying25 hi hz0 hz1 hz2 rfl (by omega) (.slice none 0 0) 0 [] rfl (World.ownsRow_nil _ _ _ _) ⟨b, o + 4, none⟩ 55 (c - 4) (x.map bv8) rfl hnl hnews (u8s_cell _) (by omega) (by unfold maxLen; omega) (by omega) (Nat.le_refl _) _ rfl ?_; intro g1 c1 w1 o1 gr1 _ _; have hb1 : Below w.drew.heap.size w.drew w1 := below_own (Below.refl _ _) (World.ownsRow_nil w.drew w.heap.size 5 1) gr1 (Nat.le_refl _) (Nat.le_refl _)))
    have hv1 : OB w.heap.size w1 (.slice (some ⟨g1, 0, none⟩) x.length c1) x := by unfold OB; rw [HXL.out]; exact o1
    generalize (some (⟨g1, 0, none⟩ : Addr)) = Ax at *
    obtain ⟨_, cx, e, hcx1, hcx2, sx⟩ := hv1.read
    injection e with e1 _ e2
    subst e1 e2
    rw [HXL.out] at hcx1 sx
    have hb1' : Below w.heap.size w w1 := (below_drewN (Below.refl _ _) 1).trans hb1
    have hs1 := h.below (hb1'.mono hB)
    clear ‹w1.cell? _ = _ ∧ _›
    go_wp2_with fail
    refine (refput_any (k.toNat : Int) _ Ax x 55 c1 _ (by omega) sx (Nat.le_refl _) (by omega)).mono ?_
    rintro e w2 ⟨vp, rfl, hvp, hb2⟩
    obtain ⟨Ap, cp, rfl, hcp1, hcp2, sp⟩ := hvp.read
    have hb2' : Below w.heap.size w w2 := hb1'.trans (hb2.mono hb1'.size)
    have hs2 := h.below (hb2'.mono hB)
    have hsz2 := hb2'.size
    have hv2 := hv1.below (hb2.mono (Nat.le_refl _))
    rw [HXL.out] at hv2
    have hcl64 : (cellL (k.toNat : Int) x).length ≤ 64 := by rw [cellL_len]; split <;> omega
    generalize hcl : cellL (k.toNat : Int) x = cl at *
    have HCL := hid hcl
    clear hcl
    by_cases heq : cl = l
    · have hT1 : takeP l = some (k, x) := by rw [HT.out, if_pos heq]
      have HT1 := hid hT1
      have HEQ := hid heq
      clear hT1 heq
      go_wp2_with fail
      refine (same_is true w2.heap.size _ _ cl l _ _ _ _ _ sp (hs2.mono (by omega)) (by omega) (by omega) (decide_eq_true HEQ.out)).mono ?_
      rintro e w3 ⟨rfl, d, rfl⟩
      go_wp2_with fail
      refine bodyPost_ret (v := .tuple #[.int .i64 (k.toNat : Int), .slice Ax 55 c1, .bool true]) (by simp [results, Try.results18, go_sem]) rfl ⟨.slice Ax 55 c1, ?_, ?_, below_drewN hb2' d⟩
      · rw [HT1.out]; rfl
      · rw [HT1.out]; exact hv2
    · have hT1 : takeP l = none := by rw [HT.out, if_neg heq]
      have HT1 := hid hT1
      have HEQ := hid heq
      clear hT1 heq
      go_wp2_with fail
      refine (same_is false w2.heap.size _ _ cl l _ _ _ _ _ sp (hs2.mono (by omega)) (by omega) (by omega) (decide_eq_false HEQ.out)).mono ?_
      rintro e w3 ⟨rfl, d, rfl⟩
      go_wp2_with fail
      refine bodyPost_ret (v := .tuple #[.int .i64 0, .slice none 0 0, .bool false]) (by simp [results, Try.results18, go_sem]) rfl ⟨.slice none 0 0, ?_, ?_, below_drewN hb2' d⟩
      · rw [HT1.out]; rfl
      · rw [HT1.out]; exact World.ownsRow_nil _ _ _ _
  · have hT1 : takeP l = none := by unfold takeP; rw [if_neg (by omega)]
    have HT1 := hid hT1
    clear hT1
    have hb64 : ((n : Int) != 64) = true := by simp; omega
    go_enter Try.func18, Try.ntmps18
    go_wp2_with fail
    refine bodyPost_ret (v := .tuple #[.int .i64 0, .slice none 0 0, .bool false]) (by simp [results, Try.results18, go_sem]) rfl ⟨.slice none 0 0, ?_, ?_, Below.refl _ _⟩
    · rw [HT1.out]; rfl
    · rw [HT1.out]; exact World.ownsRow_nil _ _ _ _
end Go.Proofs.Ythafodblffgmmaa
