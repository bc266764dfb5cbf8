/- Equal Copy -/
import Derived.Laws.BytesArg
import Derived.Lib.Bytes
import Derived.Lib.SliceRun
import Derived.WalkKit
import Derived.Test.YtlfmfhdgnmchgaaGreatBRoomTells00
set_option maxRecDepth 20000
set_option linter.unusedSimpArgs false
set_option linter.unusedVariables false
namespace Wells
open Go Go.RowKit
def nums (l : List Byte) : List Int := l.map fun b => (b.toNat : Int)
theorem nums_inj {a b : List Byte} (h : strOfNums (nums a) = strOfNums (nums b)) : a = b := by
  have h2 : (strOfNums (nums a)).data.toList = (strOfNums (nums b)).data.toList := by rw [h]
  rw [strOfNums_data, strOfNums_data] at h2
  unfold nums at h2
  rw [List.map_map, List.map_map] at h2
  refine (List.map_inj_right ?_).1 h2
  intro x y hxy
  have h3 := congrArg UInt8.toNat hxy
  simp [UInt8.toNat_ofNat'] at h3
  have hx := x.isLt
  have hy := y.isLt
  apply BitVec.eq_of_toNat_eq
  omega
theorem Sl.convert {P : Program} {w : World} {B n : Nat} {A : Option Addr} {l : List Byte} (h : Sl w B 1 A n (l.map bv8)) (c : Nat) (src e dst : TypeId)
    (hs : P.underlying src = some (.slice e)) (he : P.underlying e = some (.int .u8)) (hd : P.underlying dst = some .string) :
    (Go.convert src dst (.slice A n c)).run P w = .ok (.string (strOfNums (nums l))) w := by
  have hl : l.length = n := by have := h.len; simpa using this
  rcases Nat.eq_zero_or_pos n with hn | hn
  · subst hn
    obtain rfl : l = [] := List.eq_nil_of_length_eq_zero hl
    rw [run_convert_bytes_string w src dst e _ 0 c hs he hd]
    cases A <;> simp [Conv.bytesToString, loadCells]
    all_goals rfl
  · obtain ⟨b, o, rfl, _, hc⟩ := h.at_ hn
    refine run_convert_bytes_arg (P := P) w src e hs he b o n c (nums l) (by simp [nums, hl]) (fun i hi => ?_) dst hd
    have := hc i (bv8 (l.getD i 0)) (by rw [List.getElem?_map, List.getElem?_eq_getElem (show i < l.length by omega)]; simp [show i < l.length by omega])
    rw [this]
    simp [nums, bv8, List.getD_eq_getElem?_getD, List.getElem?_map, List.getElem?_eq_getElem (show i < l.length by omega)]
end Wells
namespace Go.Proofs.YtlfmfhdgnmchgaaGreat
open Go.RowKit Wells
theorem equal_is (r : Bool) (B : Nat) (A A' : Option Addr) (l l' : List Byte) (n n' c c' : Nat) (w : World) (h : Sl w B 1 A n (l.map bv8)) (h' : Sl w B 1 A' n' (l'.map bv8)) (hr : decide (l = l') = r) :
    Calls Tryz.prog 60 #[.slice A n c, .slice A' n' c'] w fun e w' => e = .returned (.bool r) ∧ w = w' := by
  have k1 := h.convert (P := Tryz.prog) c 58 5 9 Tryz.underlying58 Tryz.underlying5 Tryz.underlying9
  have k2 := h'.convert (P := Tryz.prog) c' 58 5 9 Tryz.underlying58 Tryz.underlying5 Tryz.underlying9
  clear h h'
  have hb : ((strOfNums (nums l)).toList == (strOfNums (nums l')).toList) = r := by
    rw [← hr]
    by_cases h : l = l'
    · subst h; simp
    · have : (strOfNums (nums l)).toList ≠ (strOfNums (nums l')).toList := fun e => h (nums_inj (by rw [Lib.strOfNums_toList, Lib.strOfNums_toList] at e; unfold Lib.bytesOf at e; unfold strOfNums; rw [e]))
      simp [h, this]
  obtain ⟨s1, hs1⟩ : ∃ s, strOfNums (nums l) = s := ⟨_, rfl⟩
  obtain ⟨s2, hs2⟩ : ∃ s, strOfNums (nums l') = s := ⟨_, rfl⟩
  rw [hs1] at k1
  rw [hs2] at k2
  rw [hs1, hs2] at hb
  have HB := hid hb
  clear hb hs1 hs2 hr
  go_enter Tryz.func60, Tryz.ntmps60
  go_wp2_with fail
  go_ret
  exact ⟨ret_bool HB.out, rfl⟩
theorem clone_any (B : Nat) (A : Option Addr) (l : List Byte) (n c : Nat) (w : World) (h : Sl w B 1 A n (l.map bv8)) (hB : B ≤ w.heap.size) (hn : n ≤ 1048576) :
    Calls Tryz.prog 63 #[.slice A n c] w fun e w' => ∃ v, e = .returned v ∧ OB w.heap.size w' v l ∧ Below w.heap.size w w' := by
  have HL := hid (show l.length = n by have := h.len; simpa using this)
  obtain ⟨i0, hi, hz0, hz1, hz2⟩ := info_parts infoB
  have kq : ∀ (w : World) (a : Option Addr) (n c n' c' : Nat), (binOp .eql 58 (.slice a n c) (.slice none n' c')).run Tryz.prog w = .ok (.bool a.isNone) w := fun w a n c n' c' => Lib.run_eql_slice_nil w _ _ a n c n' c' Tryz.underlying58
  cases A with
  | none =>
    have hn0 : n = 0 := by
      rcases Nat.eq_zero_or_pos n with hn | hn
      · exact hn
      · obtain ⟨b, o, e, _⟩ := h.at_ hn; cases e
    subst hn0
    obtain rfl : l = [] := List.eq_nil_of_length_eq_zero HL.out
    go_enter Tryz.func63, Tryz.ntmps63
    go_wp2_with fail
    go_ret
    exact ⟨_, rfl, World.ownsRow_nil _ _ _ _, Below.refl _ _⟩
  | some a =>
    have ow : (w.alloc (.cells #[] 5)).ownsRow w.heap.size 5 1 (.slice (some ⟨w.heap.size, 0, none⟩) 0 0) 0 [] := World.ownsRow_made w #[] 0 (Nat.le_refl _) (Nat.zero_le _) rfl
    have bw : Below w.heap.size w (w.alloc (.cells #[] 5)) := (Below.refl _ _).alloc (Nat.le_refl _) _
    go_enter Tryz.func63, Tryz.ntmps63
    go_wp2_with (at_builtin; go_must (refine wpl_append rfl (.tmp 5) (.tmp 6) 58 rfl w.heap.size 5 i0 (.int .u8 0) 1 1 Tryz.underlying58 hi hz0 hz1 hz2 rfl (by omega) _ 0 [] rfl ow w.heap.size (some a) n c _ rfl ((h.mono hB).below bw) (u8s_cell _) n (by omega) (l.map bv8) rfl (by omega) (by omega) bw.size ?_); intro A2 c2 w2 o2 g2 _)
    go_ret
    exact ⟨_, rfl, by unfold OB; rw [HL.out]; exact o2, below_own bw ow g2 (Nat.le_refl _) bw.size⟩
end Go.Proofs.YtlfmfhdgnmchgaaGreat

namespace Go.Proofs.YtlfmfhdgnmchgaaGreat
open Go.RowKit Wells
theorem copy_any (B : Nat) (A : Option Addr) (l : List Byte) (n c : Nat) (w : World) (h : Sl w B 1 A n (l.map bv8)) (hB : B ≤ w.heap.size) (hn : n ≤ 70368744177664) :
    Calls Tryz.prog 113 #[.slice A n c] w fun e w' => ∃ A' c', e = .returned (.slice A' n c') ∧ OB w.heap.size w' (.slice A' n c') l ∧ Below w.heap.size w w' := by
  have HL := hid (show l.length = n by have := h.len; simpa using this)
  obtain ⟨i0, hi, hz0, hz1, hz2⟩ := info_parts infoB
  go_enter Tryz.func113, Tryz.ntmps113
  go_wp2_with (first
    | (at_make; refine wpl_make _ rfl (.const (.int .i64 0)) (.tmp 6) 58 rfl 5 i0 (.int .u8 0) 1 Tryz.underlying58 hi hz0 hz1 hz2 rfl .i64 .i64 _ _ 0 (n + 2) rfl rfl rfl (by omega) (by omega) (by omega) (by omega) ?_; intro w1 r1 b1 s1; have o1 := r1.own (base := w.heap.size) (size := 1) (n := 0) (cap := n + 2) (Nat.le_refl _) (by omega) (by unfold maxLen; omega) (by simp))
    | (at_builtin; go_must (refine wpl_append rfl (.tmp 8) (.tmp 9) 58 rfl w.heap.size 5 i0 (.int .u8 0) 1 1 Tryz.underlying58 hi hz0 hz1 hz2 rfl (by omega) _ 0 [] rfl o1 B A n c _ rfl (h.below (b1.mono hB)) (u8s_cell _) n (by omega) (l.map bv8) rfl (by omega) (by omega) b1.size ?_); intro A2 c2 w2 o2 g2 _))
  go_ret
  exact ⟨A2, c2, rfl, by unfold OB; rw [HL.out]; exact o2, below_own b1 o1 g2 (Nat.le_refl _) b1.size⟩
theorem copies_any (B : Nat) (A : Option Addr) (vs : List Value) (ls : List (List Byte)) (n c : Nat) (w : World) (h : RBs w B A n vs ls) (hB : B ≤ w.heap.size) (hn : n ≤ 1048576) (hl : ∀ i, i < n → (ls.getD i []).length ≤ 1048576) :
    Calls Tryz.prog 98 #[.slice A n c] w fun e w' => ∃ A' c' vs', e = .returned (.slice A' n c') ∧ OBs w.heap.size w' (.slice A' n c') vs' ls ∧ Below w.heap.size w w' := by
  have HL := hid h.len
  have HLL := hid hl
  obtain ⟨i1, hi', hz0', hz1', hz2'⟩ := info_parts infoBs
  clear hl
  generalize hg : w.heap.size = G at *
  have HG := hid hg
  clear hg
  go_enter Tryz.func98, Tryz.ntmps98
  go_wp2_with fail
  go_loopw [3, 8] (fun v i wr => ∃ (k : Nat) (vs' : List Value) (Ao : Option Addr) (co : Nat), k ≤ n ∧ i = .int .i64 k ∧ v = .slice Ao k co ∧ OBs G wr (.slice Ao k co) vs' (ls.take k) ∧ Below G w wr) (fun _ i _ => n - (intOf i).toNat)
  case atStart => exact ⟨0, [], none, 0, by omega, rfl, rfl, OBs.nil_ _ _, Below.refl _ _⟩
  case round =>
    obtain ⟨k, vs', Ao, co, hk, rfl, rfl, ho, hbw⟩ := hrel
    have hsz : G ≤ wr.heap.size := by have := hbw.size; have := HG.out; omega
    by_cases hlt : k < n
    · obtain ⟨b, o, A1, c1, rfl, hb, hc, hl1, hc1, sl1⟩ := ((h.mono hB).below hbw).get hlt
      have hkl : k < ls.length := by rw [HL.out]; exact hlt
      have HTK := hid (show ls.take (k + 1) = ls.take k ++ [ls.getD k []] by rw [List.take_succ_eq_append_getElem hkl]; simp [hkl])
      have hlk := hid (show (ls.take k).length = k by simp; omega)
      have hxl := HLL.out k hlt
      generalize ls.getD k [] = x at *
      generalize hlx : x.length = lx at *
      have HX := hid hlx
      clear hlx
      go_wp2_with fail
      refine (copy_any G A1 x lx c1 _ sl1 hsz (by omega)).mono ?_
      rintro e w2 ⟨A2, c2, rfl, hx2, hb2⟩
      have ho2 := ho.below hb2
      have hw2 := ho2.own
      rw [hlk.out] at hw2
      go_wp2_with (at_builtin; go_must (refine wpl_append rfl (.tmp 12) (.tmp 15) 29 rfl G 58 i1 (.slice none 0 0) 1 24 Tryz.underlying29 hi' hz0' hz1' hz2' rfl (by omega) (.slice Ao k co) k vs' rfl (hw2.alloc _) _ _ 1 1 _ rfl (Sl.fresh _ _ _ _ 1 rfl) (by simp [Value.oneCell']) (k + 1) rfl _ rfl (by omega) (by omega) (by have := hb2.size; simp; omega) ?_); intro A6 c6 w6 o6 g6 _)
      have b6 : Below G w w6 := below_own ((hbw.trans (hb2.mono hsz)).alloc (by have := hb2.size; omega) _) (hw2.alloc _) g6 (Nat.le_refl _) (by have := hb2.size; simp; omega)
      have ho6 := (ho2.below ((Below.refl _ _).alloc (Nat.le_refl _) _)).push (x := x) (OB.below (base := G) (own_base hx2 hsz) ((Below.refl _ _).alloc (Nat.le_refl _) _)) (by rw [hlk.out]; exact o6) g6
      go_roundw
      case rel => exact ⟨k + 1, _, A6, c6, by omega, by go_num, rfl, by rw [HTK.out]; exact ho6, b6⟩
      case measure => simp [intOf]; omega
    · have hkn : n = k := by omega
      subst hkn
      go_wp2_with fail
      go_ret
      rw [List.take_of_length_le (by rw [HL.out]; omega)] at ho
      exact ⟨Ao, co, vs', rfl, ho, hbw⟩
end Go.Proofs.YtlfmfhdgnmchgaaGreat

