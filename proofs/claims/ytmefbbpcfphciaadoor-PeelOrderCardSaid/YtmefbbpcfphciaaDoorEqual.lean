/- Go's bytes.Equal and bytes.Clone, as the program holds them. -/
import Derived.Test.YtmefbbpcfphciaaDoorLists
import Derived.Laws.BytesArg
import Derived.Lib.Bytes
import Derived.Lib.SliceRun
import Derived.WalkKit
namespace Wells
open Go Go.RowKit
def nums (l : List Byte) : List Int := l.map fun b => (b.toNat : Int)
theorem nums_inj {a b : List Byte} (h : strOfNums (nums a) = strOfNums (nums b)) : a = b := by
  have h2 : (strOfNums (nums a)).data.toList = (strOfNums (nums b)).data.toList := by rw [h]
  rw [strOfNums_data, strOfNums_data] at h2
  unfold nums at h2
  rw [List.map_map, List.map_map] at h2
  refine (List.map_inj_right ?_).1 h2
  intro x y hxy
  have h3 := congrArg UInt8.toNat hxy
  simp [UInt8.toNat_ofNat'] at h3
  have hx := x.isLt
  have hy := y.isLt
  apply BitVec.eq_of_toNat_eq
  omega
theorem Sl.convert {P : Program} {w : World} {B n : Nat} {A : Option Addr} {l : List Byte} (h : Sl w B 1 A n (l.map bv8)) (c : Nat) (src e dst : TypeId)
    (hs : P.underlying src = some (.slice e)) (he : P.underlying e = some (.int .u8)) (hd : P.underlying dst = some .string) :
    (Go.convert src dst (.slice A n c)).run P w = .ok (.string (strOfNums (nums l))) w := by
  have hl : l.length = n := by have := h.len; simpa using this
  rcases Nat.eq_zero_or_pos n with hn | hn
  · subst hn
    obtain rfl : l = [] := List.eq_nil_of_length_eq_zero hl
    rw [run_convert_bytes_string w src dst e _ 0 c hs he hd]
    cases A <;> simp [Conv.bytesToString, loadCells]
    all_goals rfl
  · obtain ⟨b, o, rfl, _, hc⟩ := h.at_ hn
    refine run_convert_bytes_arg (P := P) w src e hs he b o n c (nums l) (by simp [nums, hl]) (fun i hi => ?_) dst hd
    have := hc i (bv8 (l.getD i 0)) (by rw [List.getElem?_map, List.getElem?_eq_getElem (show i < l.length by omega)]; simp [show i < l.length by omega])
    rw [this]
    simp [nums, bv8, List.getD_eq_getElem?_getD, List.getElem?_map, List.getElem?_eq_getElem (show i < l.length by omega)]
end Wells
namespace Go.Proofs.YtmefbbpcfphciaaDoor
open Go.RowKit Wells
theorem clone_any (B : Nat) (A : Option Addr) (l : List Byte) (n c : Nat) (w : World) (h : Sl w B 1 A n (l.map bv8)) (hB : B ≤ w.heap.size) (hn : n ≤ 1048576) :
    Calls Tryd.prog 31 #[.slice A n c] w fun e w' => ∃ v, e = .returned v ∧ OB w.heap.size w' v l ∧ Below w.heap.size w w' := by
  have HL := hid (show l.length = n by have := h.len; simpa using this)
  obtain ⟨i0, hi, hz0, hz1, hz2⟩ := info_parts infoB
  have kq : ∀ (w : World) (a : Option Addr) (n c n' c' : Nat), (binOp .eql 24 (.slice a n c) (.slice none n' c')).run Tryd.prog w = .ok (.bool a.isNone) w := fun w a n c n' c' => Lib.run_eql_slice_nil w _ _ a n c n' c' Tryd.underlying24
  cases A with
  | none =>
    have hn0 : n = 0 := by
      rcases Nat.eq_zero_or_pos n with hn | hn
      · exact hn
      · obtain ⟨b, o, e, _⟩ := h.at_ hn; cases e
    subst hn0
    obtain rfl : l = [] := List.eq_nil_of_length_eq_zero HL.out
    go_enter Tryd.func31, Tryd.ntmps31
    go_wp2_with fail
    go_ret
    exact ⟨_, rfl, World.ownsRow_nil _ _ _ _, Below.refl _ _⟩
  | some a =>
    have ow : (w.alloc (.cells #[] 5)).ownsRow w.heap.size 5 1 (.slice (some ⟨w.heap.size, 0, none⟩) 0 0) 0 [] := World.ownsRow_made w #[] 0 (Nat.le_refl _) (Nat.zero_le _) rfl
    have bw : Below w.heap.size w (w.alloc (.cells #[] 5)) := (Below.refl _ _).alloc (Nat.le_refl _) _
    go_enter Tryd.func31, Tryd.ntmps31
    go_wp2_with (at_builtin; go_must (refine wpl_append rfl (.tmp 5) (.tmp 6) 24 rfl w.heap.size 5 i0 (.int .u8 0) 1 1 Tryd.underlying24 hi hz0 hz1 hz2 rfl (by omega) _ 0 [] rfl ow w.heap.size (some a) n c _ rfl ((h.mono hB).below bw) (u8s_cell _) n (by omega) (l.map bv8) rfl (by omega) (by omega) bw.size ?_); intro A2 c2 w2 o2 g2 _)
    go_ret
    exact ⟨_, rfl, by unfold OB; rw [HL.out]; exact o2, below_own bw ow g2 (Nat.le_refl _) bw.size⟩
end Go.Proofs.YtmefbbpcfphciaaDoor
