/- What cells say. -/
import Derived.Test.YthafodblffgmmaaRefCell
import Derived.StillTailTactics
namespace Go.Proofs.Ythafodblffgmmaa
open Go.RowKit Wells
/-- what a Take returns -/
def tkV (t : Option (Byte × List Byte)) : Value := .int .i64 (((t.getD (0#8, [])).1.toNat : Nat) : Int)
theorem take_any (B : Nat) (A : Option Addr) (l : List Byte) (n c : Nat) (w : World) (h : Sl w B 1 A n (l.map bv8)) (hB : B ≤ w.heap.size) (hn : n ≤ 1048576) (hc : n ≤ c) (hc2 : c ≤ 9223372036854775807) :
    Calls Try.prog 23 #[.slice A n c] w fun e w' => ∃ v, e = .returned (.tuple #[tkV (takeP l), v, .bool (takeP l).isSome]) ∧ OB w.heap.size w' v ((takeP l).getD (0#8, [])).2 ∧ Below w.heap.size w w' := by
  have hl : l.length = n := by have := h.len; simpa using this
  have HL := hid hl
  by_cases h64 : n = 64
  · subst h64
    obtain ⟨b, o, rfl, hbB, hcell⟩ := h.at_ (by omega)
    obtain ⟨k, hk⟩ : ∃ k, l.getD 3 0 = k := ⟨_, rfl⟩
    have hc3 : w.cell? ⟨b, o + 3, none⟩ = some (.int .u8 (k.toNat : Int)) := by
      rw [hcell 3 _ (u8s_get l 3 (by omega)), hk]; rfl
    have hkb := k.isLt
    have hsub : Sl w B 1 (some ⟨b, o + 4, none⟩) 55 (((l.drop 4).take 55).map bv8) := by
      refine ⟨by simp [hl], fun _ => ⟨b, o + 4, rfl, hbB, fun j u hu => ?_⟩⟩
      have hj : j < 55 := by
        have := (List.getElem?_eq_some_iff.1 hu).1
        simp [hl] at this
        omega
      have := hcell (4 + j) u (by rw [← hu]; simp [List.getElem?_map, List.getElem?_take, hj, List.getElem?_drop])
      rw [← Nat.add_assoc] at this
      exact this
    obtain ⟨x, hx⟩ : ∃ x, (l.drop 4).take 55 = x := ⟨_, rfl⟩
    rw [hx] at hsub
    have htk : takeP l = if cellL (k.toNat : Int) x = l then some (k, x) else none := by
      unfold takeP
      rw [hk, hx, hl]
      simp
    have HT := hid htk
    have hxl : x.length = 55 := by rw [← hx]; simp [hl]
    have HXL := hid hxl
    have hc4 : ¬ c = 4 := by omega
    have hwk : IntKind.i64.wrap (k.toNat : Int) = (k.toNat : Int) := by rw [IntKind.wrap_i64]; omega
    have f59 : 59 ≤ c := by omega
    have f59i : (59 : Int) ≤ (c : Int) := by omega
    clear hk hx htk hxl hl hcell
    go_enter Try.func23, Try.ntmps23
    go_wp2_with fail
    go_region_held3 (fun w' => w'.cell? ⟨b, o + 3, none⟩ = some (.int .u8 (k.toNat : Int)) ∧ Below w.heap.size w w')
      (first
        | exact ⟨hc3, below_drewN (Below.refl _ _) 1⟩
        | exact ⟨hb1.cell (p := ⟨b, o + 3, none⟩) (by show b < _; simp; omega) |>.trans hc3, (below_drewN (Below.refl _ _) 1).trans hb1⟩)
      (first
        | (go_at_call 34; refine (clone_any B _ x 55 _ _ (hsub.below (below_drewN (Below.refl _ _) 1)) (by simp; omega) (by omega)).mono ?_; rintro e w1 ⟨v, rfl, hv1, hb1⟩))
    obtain ⟨Ax, cx, rfl, hcx1, hcx2, sx⟩ := hv1.read
    rw [HXL.out] at hcx1 sx ⊢
    have hb1' : Below w.heap.size w w1 := (below_drewN (Below.refl _ _) 1).trans hb1
    have hs1 := h.below (hb1'.mono hB)
    clear ‹w1.cell? _ = _ ∧ _›
    go_wp2_with fail
    refine (put_any (k.toNat : Int) _ Ax x 55 cx _ (by omega) sx (Nat.le_refl _) (by omega)).mono ?_
    rintro e w2 ⟨vp, rfl, hvp, hb2⟩
    obtain ⟨Ap, cp, rfl, hcp1, hcp2, sp⟩ := hvp.read
    have hb2' : Below w.heap.size w w2 := hb1'.trans (hb2.mono hb1'.size)
    have hs2 := h.below (hb2'.mono hB)
    have hsz2 := hb2'.size
    have hv2 := hv1.below (hb2.mono (Nat.le_refl _))
    rw [HXL.out] at hv2
    generalize hcl : cellL (k.toNat : Int) x = cl at *
    have HCL := hid hcl
    clear hcl
    by_cases heq : cl = l
    · have hT1 : takeP l = some (k, x) := by rw [HT.out, if_pos heq]
      have HT1 := hid hT1
      have HEQ := hid heq
      clear hT1 heq
      go_wp2_with fail
      refine (equal_is true w2.heap.size _ _ l cl _ _ _ _ _ (hs2.mono (by omega)) sp (decide_eq_true HEQ.out.symm)).mono ?_
      rintro e w3 ⟨rfl, rfl⟩
      go_wp2_with fail
      refine bodyPost_ret (v := .tuple #[.int .i64 (k.toNat : Int), .slice Ax 55 cx, .bool true]) (by simp [results, Try.results23, go_sem]) rfl ⟨.slice Ax 55 cx, ?_, ?_, hb2'⟩
      · rw [HT1.out]; rfl
      · rw [HT1.out]; exact hv2
    · have hT1 : takeP l = none := by rw [HT.out, if_neg heq]
      have HT1 := hid hT1
      have HEQ := hid heq
      clear hT1 heq
      go_wp2_with fail
      refine (equal_is false w2.heap.size _ _ l cl _ _ _ _ _ (hs2.mono (by omega)) sp (decide_eq_false (fun e => HEQ.out e.symm))).mono ?_
      rintro e w3 ⟨rfl, rfl⟩
      go_wp2_with fail
      refine bodyPost_ret (v := .tuple #[.int .i64 0, .slice none 0 0, .bool false]) (by simp [results, Try.results23, go_sem]) rfl ⟨.slice none 0 0, ?_, ?_, hb2'⟩
      · rw [HT1.out]; rfl
      · rw [HT1.out]; exact World.ownsRow_nil _ _ _ _
  · have hT1 : takeP l = none := by unfold takeP; rw [if_neg (by omega)]
    have HT1 := hid hT1
    clear hT1
    have hb64 : ((n : Int) != 64) = true := by simp; omega
    go_enter Try.func23, Try.ntmps23
    go_wp2_with fail
    refine bodyPost_ret (v := .tuple #[.int .i64 0, .slice none 0 0, .bool false]) (by simp [results, Try.results23, go_sem]) rfl ⟨.slice none 0 0, ?_, ?_, Below.refl _ _⟩
    · rw [HT1.out]; rfl
    · rw [HT1.out]; exact World.ownsRow_nil _ _ _ _
end Go.Proofs.Ythafodblffgmmaa
