/- Equal Parse Wakes19 -/
import Derived.Laws.BytesArg
import Derived.Lib.Bytes
import Derived.Lib.SliceRun
import Derived.WalkKit
import Derived.Test.YtlfmfhdgnmchgaaGreatBRoomMade01
import Derived.Test.YtlfmfhdgnmchgaaGreatBRoomMade07
import Derived.Test.YtlfmfhdgnmchgaaGreatBRoomMade10
import Derived.Test.YtlfmfhdgnmchgaaGreatBRoomMade18
set_option maxRecDepth 20000
set_option linter.unusedSimpArgs false
set_option linter.unusedVariables false
namespace Wells
open Go Go.RowKit
def nums (l : List Byte) : List Int := l.map fun b => (b.toNat : Int)
theorem nums_inj {a b : List Byte} (h : strOfNums (nums a) = strOfNums (nums b)) : a = b := by
  have h2 : (strOfNums (nums a)).data.toList = (strOfNums (nums b)).data.toList := by rw [h]
  rw [strOfNums_data, strOfNums_data] at h2
  unfold nums at h2
  rw [List.map_map, List.map_map] at h2
  refine (List.map_inj_right ?_).1 h2
  intro x y hxy
  have h3 := congrArg UInt8.toNat hxy
  simp [UInt8.toNat_ofNat'] at h3
  have hx := x.isLt
  have hy := y.isLt
  apply BitVec.eq_of_toNat_eq
  omega
theorem Sl.convert {P : Program} {w : World} {B n : Nat} {A : Option Addr} {l : List Byte} (h : Sl w B 1 A n (l.map bv8)) (c : Nat) (src e dst : TypeId)
    (hs : P.underlying src = some (.slice e)) (he : P.underlying e = some (.int .u8)) (hd : P.underlying dst = some .string) :
    (Go.convert src dst (.slice A n c)).run P w = .ok (.string (strOfNums (nums l))) w := by
  have hl : l.length = n := by have := h.len; simpa using this
  rcases Nat.eq_zero_or_pos n with hn | hn
  · subst hn
    obtain rfl : l = [] := List.eq_nil_of_length_eq_zero hl
    rw [run_convert_bytes_string w src dst e _ 0 c hs he hd]
    cases A <;> simp [Conv.bytesToString, loadCells]
    all_goals rfl
  · obtain ⟨b, o, rfl, _, hc⟩ := h.at_ hn
    refine run_convert_bytes_arg (P := P) w src e hs he b o n c (nums l) (by simp [nums, hl]) (fun i hi => ?_) dst hd
    have := hc i (bv8 (l.getD i 0)) (by rw [List.getElem?_map, List.getElem?_eq_getElem (show i < l.length by omega)]; simp [show i < l.length by omega])
    rw [this]
    simp [nums, bv8, List.getD_eq_getElem?_getD, List.getElem?_map, List.getElem?_eq_getElem (show i < l.length by omega)]
end Wells
namespace Go.Proofs.YtlfmfhdgnmchgaaGreat
open Go.RowKit Wells
theorem equal_is (r : Bool) (B : Nat) (A A' : Option Addr) (l l' : List Byte) (n n' c c' : Nat) (w : World) (h : Sl w B 1 A n (l.map bv8)) (h' : Sl w B 1 A' n' (l'.map bv8)) (hr : decide (l = l') = r) :
    Calls Tryz.prog 60 #[.slice A n c, .slice A' n' c'] w fun e w' => e = .returned (.bool r) ∧ w = w' := by
  have k1 := h.convert (P := Tryz.prog) c 58 5 9 Tryz.underlying58 Tryz.underlying5 Tryz.underlying9
  have k2 := h'.convert (P := Tryz.prog) c' 58 5 9 Tryz.underlying58 Tryz.underlying5 Tryz.underlying9
  clear h h'
  have hb : ((strOfNums (nums l)).toList == (strOfNums (nums l')).toList) = r := by
    rw [← hr]
    by_cases h : l = l'
    · subst h; simp
    · have : (strOfNums (nums l)).toList ≠ (strOfNums (nums l')).toList := fun e => h (nums_inj (by rw [Lib.strOfNums_toList, Lib.strOfNums_toList] at e; unfold Lib.bytesOf at e; unfold strOfNums; rw [e]))
      simp [h, this]
  obtain ⟨s1, hs1⟩ : ∃ s, strOfNums (nums l) = s := ⟨_, rfl⟩
  obtain ⟨s2, hs2⟩ : ∃ s, strOfNums (nums l') = s := ⟨_, rfl⟩
  rw [hs1] at k1
  rw [hs2] at k2
  rw [hs1, hs2] at hb
  have HB := hid hb
  clear hb hs1 hs2 hr
  go_enter Tryz.func60, Tryz.ntmps60
  go_wp2_with fail
  go_ret
  exact ⟨ret_bool HB.out, rfl⟩
theorem clone_any (B : Nat) (A : Option Addr) (l : List Byte) (n c : Nat) (w : World) (h : Sl w B 1 A n (l.map bv8)) (hB : B ≤ w.heap.size) (hn : n ≤ 1048576) :
    Calls Tryz.prog 63 #[.slice A n c] w fun e w' => ∃ v, e = .returned v ∧ OB w.heap.size w' v l ∧ Below w.heap.size w w' := by
  have HL := hid (show l.length = n by have := h.len; simpa using this)
  obtain ⟨i0, hi, hz0, hz1, hz2⟩ := info_parts infoB
  have kq : ∀ (w : World) (a : Option Addr) (n c n' c' : Nat), (binOp .eql 58 (.slice a n c) (.slice none n' c')).run Tryz.prog w = .ok (.bool a.isNone) w := fun w a n c n' c' => Lib.run_eql_slice_nil w _ _ a n c n' c' Tryz.underlying58
  cases A with
  | none =>
    have hn0 : n = 0 := by
      rcases Nat.eq_zero_or_pos n with hn | hn
      · exact hn
      · obtain ⟨b, o, e, _⟩ := h.at_ hn; cases e
    subst hn0
    obtain rfl : l = [] := List.eq_nil_of_length_eq_zero HL.out
    go_enter Tryz.func63, Tryz.ntmps63
    go_wp2_with fail
    go_ret
    exact ⟨_, rfl, World.ownsRow_nil _ _ _ _, Below.refl _ _⟩
  | some a =>
    have ow : (w.alloc (.cells #[] 5)).ownsRow w.heap.size 5 1 (.slice (some ⟨w.heap.size, 0, none⟩) 0 0) 0 [] := World.ownsRow_made w #[] 0 (Nat.le_refl _) (Nat.zero_le _) rfl
    have bw : Below w.heap.size w (w.alloc (.cells #[] 5)) := (Below.refl _ _).alloc (Nat.le_refl _) _
    go_enter Tryz.func63, Tryz.ntmps63
    go_wp2_with (at_builtin; go_must (refine wpl_append rfl (.tmp 5) (.tmp 6) 58 rfl w.heap.size 5 i0 (.int .u8 0) 1 1 Tryz.underlying58 hi hz0 hz1 hz2 rfl (by omega) _ 0 [] rfl ow w.heap.size (some a) n c _ rfl ((h.mono hB).below bw) (u8s_cell _) n (by omega) (l.map bv8) rfl (by omega) (by omega) bw.size ?_); intro A2 c2 w2 o2 g2 _)
    go_ret
    exact ⟨_, rfl, by unfold OB; rw [HL.out]; exact o2, below_own bw ow g2 (Nat.le_refl _) bw.size⟩
end Go.Proofs.YtlfmfhdgnmchgaaGreat

namespace Wells
open Go Go.RowKit
theorem row8m {w : World} {g : Nat} {t : TypeId} {z0 z1 z2 z3 z4 z5 z6 z7 : Value} (h : Row w g t [z0, z1, z2, z3, z4, z5, z6, z7]) (a0 a1 a2 a3 a4 a5 a6 a7 : Value) : Row ((((((((w.setCell ⟨g, 0, none⟩ a0).setCell ⟨g, 1, none⟩ a1).setCell ⟨g, 2, none⟩ a2).setCell ⟨g, 3, none⟩ a3).setCell ⟨g, 4, none⟩ a4).setCell ⟨g, 5, none⟩ a5).setCell ⟨g, 6, none⟩ a6).setCell ⟨g, 7, none⟩ a7) g t [a0, a1, a2, a3, a4, a5, a6, a7] :=
  (((((((h.set 0 a0).set 1 a1).set 2 a2).set 3 a3).set 4 a4).set 5 a5).set 6 a6).set 7 a7
theorem grown8s (w : World) (g : Nat) (a0 a1 a2 a3 a4 a5 a6 a7 : Value) : w.grownBy ((((((((w.setCell ⟨g, 0, none⟩ a0).setCell ⟨g, 1, none⟩ a1).setCell ⟨g, 2, none⟩ a2).setCell ⟨g, 3, none⟩ a3).setCell ⟨g, 4, none⟩ a4).setCell ⟨g, 5, none⟩ a5).setCell ⟨g, 6, none⟩ a6).setCell ⟨g, 7, none⟩ a7) (some g) :=
  grown_set (grown_set (grown_set (grown_set (grown_set (grown_set (grown_set (grown_set (grown_new (Below.refl _ _) (some g)) (.inl rfl) 0 a0) (.inl rfl) 1 a1) (.inl rfl) 2 a2) (.inl rfl) 3 a3) (.inl rfl) 4 a4) (.inl rfl) 5 a5) (.inl rfl) 6 a6) (.inl rfl) 7 a7
end Wells
namespace Go.Proofs.YtlfmfhdgnmchgaaGreat
open Go.RowKit Wells
theorem OM.other {base : Nat} {w w' : World} {m : Mani} {Ad Ao : Option Addr} {nd cd no co : Nat} {ts : List Value} {g : Nat} {t : TypeId} {cs : List Value} (h : OM base w m Ad nd cd Ao no co ts) (hg : w.grownBy w' (some g)) (hr : Row w g t cs) (h1 : 69 ≠ t) (h2 : 3 ≠ t) : OM base w' m Ad nd cd Ao no co ts :=
  ⟨h.d.kept hg (own_ne h.d hr h2), h.dl, h.o.other hg hr h1 h2, h.ol⟩
end Go.Proofs.YtlfmfhdgnmchgaaGreat

namespace Wells
open Go Go.RowKit
def mani0 : Mani := ⟨1, 0, ⟨1, 1, 1⟩, 0, [3], []⟩
theorem mani0_64 : M64 mani0 := ⟨by unfold i64; decide, by unfold i64; decide, by unfold i64; decide, by unfold i64; decide, by unfold i64; decide, by unfold i64; decide, fun z h => by unfold i64; simp [mani0] at h; omega, fun e h => by cases h⟩
theorem mani0_nm : ∀ e ∈ mani0.objs, e.name.length ≤ 1048576 := fun e h => by cases h
theorem REs.nil_ (w : World) (B : Nat) (A : Option Addr) : REs w B A 0 [] [] := ⟨Sl.nil_, rfl, rfl, fun i hi => absurd hi (by omega)⟩
theorem mani0_rm {w : World} {B g c : Nat} {A : Option Addr} (h : Sl w B 1 (some ⟨g, 0, none⟩) 1 [.int .i64 3]) (hc : 1 ≤ c ∧ c ≤ 9223372036854775807) : RM w B mani0 (some ⟨g, 0, none⟩) 1 c A 0 0 [] :=
  ⟨h, rfl, hc, REs.nil_ _ _ _, by omega⟩
end Wells
namespace Go.Proofs.YtlfmfhdgnmchgaaGreat
open Go.RowKit Wells
end Go.Proofs.YtlfmfhdgnmchgaaGreat

