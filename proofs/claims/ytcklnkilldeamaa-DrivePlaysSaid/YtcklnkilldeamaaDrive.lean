/- Drives: what they hold, and their functions. -/
import Derived.Test.YtcklnkilldeamaaSep
import Derived.Test.YtcklnkilldeamaaPower
import Derived.Test.YtcklnkilldeamaaEqual
import Derived.Deep.RegionHeld3
import Derived.BigGuardPart
namespace Go.Proofs.Ytcklnkilldeamaa
open Go.RowKit Wells
theorem OBs.lt {base : Nat} {w : World} {v : Value} {vs : List Value} {ls : List (List Byte)} (h : OBs base w v vs ls) : ∀ x ∈ vs, ∀ k, x.ownBlock = some k → base ≤ k ∧ k < w.heap.size := fun x hx k hk => by
  have hl : vs.length = ls.length := by have := h.own.1; omega
  obtain ⟨i, hi, rfl⟩ := List.getElem_of_mem hx
  have := h.at_ i (by omega)
  rw [List.getD_eq_getElem?_getD, List.getElem?_eq_getElem hi] at this
  exact own_lt this k hk
theorem dist_push {vs : List Value} {x : Value} {m : Nat} (hd : Dist vs) (h : ∀ a ∈ vs, ∀ k, a.ownBlock = some k → k < m) (hx : ∀ k, x.ownBlock = some k → m ≤ k) : Dist (vs ++ [x]) := by
  unfold Dist
  rw [List.pairwise_append]
  refine ⟨hd, List.pairwise_singleton _ _, fun a ha b hb k hk e => ?_⟩
  rw [List.mem_singleton] at hb
  subst hb
  have := h a ha k hk
  have := hx k e
  omega
theorem down_any (B : Nat) (A : Option Addr) (vs : List Value) (ls : List (List Byte)) (n c : Nat) (w : World) (h : RBs w B A n vs ls) (hB : B ≤ w.heap.size) (hn : n ≤ 1048576) (hl : ∀ i, i < n → (ls.getD i []).length ≤ 1048576) :
    Calls Try.prog 38 #[.slice A n c] w fun e w' => ∃ A' c' vs', e = .returned (.slice A' n c') ∧ OBs w.heap.size w' (.slice A' n c') vs' ls ∧ Dist vs' ∧ Below w.heap.size w w' := by
  have HL := hid h.len
  have HLL := hid hl
  obtain ⟨i1, hi', hz0', hz1', hz2'⟩ := info_parts infoBs
  clear hl
  generalize hg : w.heap.size = G at *
  have HG := hid hg
  clear hg
  go_enter Try.func38, Try.ntmps38
  go_wp2_with fail
  go_loopw [3, 8] (fun v i wr => ∃ (k : Nat) (vs' : List Value) (Ao : Option Addr) (co : Nat), k ≤ n ∧ i = .int .i64 k ∧ v = .slice Ao k co ∧ OBs G wr (.slice Ao k co) vs' (ls.take k) ∧ Dist vs' ∧ Below G w wr) (fun _ i _ => n - (intOf i).toNat)
  case atStart => exact ⟨0, [], none, 0, by omega, rfl, rfl, OBs.nil_ _ _, List.Pairwise.nil, Below.refl _ _⟩
  case round =>
    obtain ⟨k, vs', Ao, co, hk, rfl, rfl, ho, hdi, hbw⟩ := hrel
    have hsz : G ≤ wr.heap.size := by have := hbw.size; have := HG.out; omega
    by_cases hlt : k < n
    · obtain ⟨b, o, A1, c1, rfl, hb, hc, hl1, hc1, sl1⟩ := ((h.mono hB).below hbw).get hlt
      have hkl : k < ls.length := by rw [HL.out]; exact hlt
      have HTK := hid (show ls.take (k + 1) = ls.take k ++ [ls.getD k []] by rw [List.take_succ_eq_append_getElem hkl]; simp [hkl])
      have hlk := hid (show (ls.take k).length = k by simp; omega)
      have hxl := HLL.out k hlt
      generalize ls.getD k [] = x at *
      generalize hlx : x.length = lx at *
      have HX := hid hlx
      clear hlx
      go_wp2_with fail
      refine (clone_any G A1 x lx c1 _ sl1 hsz (by omega)).mono ?_
      rintro e w2 ⟨v2, rfl, hx2, hb2⟩
      obtain ⟨A2, c2, ev2, hc21, hc22, _⟩ := hx2.read
      rw [HX.out] at ev2 hc21
      subst ev2
      have hold : ∀ a ∈ vs', ∀ k, a.ownBlock = some k → k < wr.heap.size := fun a ha k hk => (ho.lt a ha k hk).2
      have hnew : ∀ k, (Value.slice A2 lx c2).ownBlock = some k → wr.heap.size ≤ k := fun k hk => (own_lt hx2 k hk).1
      have hdi2 := dist_push hdi hold hnew
      have HDI := hid hdi2
      clear hold hnew hdi hdi2
      have ho2 := ho.below hb2
      have hw2 := ho2.own
      rw [hlk.out] at hw2
      go_wp2_with (at_builtin; go_must (refine wpl_append rfl (.tmp 12) (.tmp 15) 27 rfl G 28 i1 (.slice none 0 0) 1 24 Try.underlying27 hi' hz0' hz1' hz2' rfl (by omega) (.slice Ao k co) k vs' rfl (hw2.alloc _) _ _ 1 1 _ rfl (Sl.fresh _ _ _ _ 1 rfl) (by simp [Value.oneCell']) (k + 1) rfl _ rfl (by omega) (by omega) (by have := hb2.size; simp; omega) ?_); intro A6 c6 w6 o6 g6 _)
      have b6 : Below G w w6 := below_own ((hbw.trans (hb2.mono hsz)).alloc (by have := hb2.size; omega) _) (hw2.alloc _) g6 (Nat.le_refl _) (by have := hb2.size; simp; omega)
      have ho6 := (ho2.below ((Below.refl _ _).alloc (Nat.le_refl _) _)).push (x := x) (OB.below (base := G) (own_base hx2 hsz) ((Below.refl _ _).alloc (Nat.le_refl _) _)) (by rw [hlk.out]; exact o6) g6
      go_roundw
      case rel => exact ⟨k + 1, _, A6, c6, by omega, by go_num, rfl, by rw [HTK.out]; exact ho6, HDI.out, b6⟩
      case measure => simp [intOf]; omega
    · have hkn : n = k := by omega
      subst hkn
      go_wp2_with fail
      go_ret
      rw [List.take_of_length_le (by rw [HL.out]; omega)] at ho
      exact ⟨Ao, co, vs', rfl, ho, hdi, hbw⟩
end Go.Proofs.Ytcklnkilldeamaa
