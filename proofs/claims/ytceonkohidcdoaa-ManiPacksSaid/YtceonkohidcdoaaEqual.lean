/- Go's bytes.Equal and bytes.Clone, as the program holds them. -/
import Derived.Test.YtceonkohidcdoaaLists
import Derived.Laws.BytesArg
import Derived.Lib.Bytes
import Derived.Lib.SliceRun
import Derived.WalkKit
namespace Wells
open Go Go.RowKit
def nums (l : List Byte) : List Int := l.map fun b => (b.toNat : Int)
theorem nums_inj {a b : List Byte} (h : strOfNums (nums a) = strOfNums (nums b)) : a = b := by
  have h2 : (strOfNums (nums a)).data.toList = (strOfNums (nums b)).data.toList := by rw [h]
  rw [strOfNums_data, strOfNums_data] at h2
  unfold nums at h2
  rw [List.map_map, List.map_map] at h2
  refine (List.map_inj_right ?_).1 h2
  intro x y hxy
  have h3 := congrArg UInt8.toNat hxy
  simp [UInt8.toNat_ofNat'] at h3
  have hx := x.isLt
  have hy := y.isLt
  apply BitVec.eq_of_toNat_eq
  omega
theorem Sl.convert {P : Program} {w : World} {B n : Nat} {A : Option Addr} {l : List Byte} (h : Sl w B 1 A n (l.map bv8)) (c : Nat) (src e dst : TypeId)
    (hs : P.underlying src = some (.slice e)) (he : P.underlying e = some (.int .u8)) (hd : P.underlying dst = some .string) :
    (Go.convert src dst (.slice A n c)).run P w = .ok (.string (strOfNums (nums l))) w := by
  have hl : l.length = n := by have := h.len; simpa using this
  rcases Nat.eq_zero_or_pos n with hn | hn
  · subst hn
    obtain rfl : l = [] := List.eq_nil_of_length_eq_zero hl
    rw [run_convert_bytes_string w src dst e _ 0 c hs he hd]
    cases A <;> simp [Conv.bytesToString, loadCells]
    all_goals rfl
  · obtain ⟨b, o, rfl, _, hc⟩ := h.at_ hn
    refine run_convert_bytes_arg (P := P) w src e hs he b o n c (nums l) (by simp [nums, hl]) (fun i hi => ?_) dst hd
    have := hc i (bv8 (l.getD i 0)) (by rw [List.getElem?_map, List.getElem?_eq_getElem (show i < l.length by omega)]; simp [show i < l.length by omega])
    rw [this]
    simp [nums, bv8, List.getD_eq_getElem?_getD, List.getElem?_map, List.getElem?_eq_getElem (show i < l.length by omega)]
end Wells
namespace Go.Proofs.Ytceonkohidcdoaa
open Go.RowKit Wells
theorem equal_is (r : Bool) (B : Nat) (A A' : Option Addr) (l l' : List Byte) (n n' c c' : Nat) (w : World) (h : Sl w B 1 A n (l.map bv8)) (h' : Sl w B 1 A' n' (l'.map bv8)) (hr : decide (l = l') = r) :
    Calls Try.prog 50 #[.slice A n c, .slice A' n' c'] w fun e w' => e = .returned (.bool r) ∧ w = w' := by
  have k1 := h.convert (P := Try.prog) c 36 5 9 Try.underlying36 Try.underlying5 Try.underlying9
  have k2 := h'.convert (P := Try.prog) c' 36 5 9 Try.underlying36 Try.underlying5 Try.underlying9
  clear h h'
  have hb : ((strOfNums (nums l)).toList == (strOfNums (nums l')).toList) = r := by
    rw [← hr]
    by_cases h : l = l'
    · subst h; simp
    · have : (strOfNums (nums l)).toList ≠ (strOfNums (nums l')).toList := fun e => h (nums_inj (by rw [Lib.strOfNums_toList, Lib.strOfNums_toList] at e; unfold Lib.bytesOf at e; unfold strOfNums; rw [e]))
      simp [h, this]
  obtain ⟨s1, hs1⟩ : ∃ s, strOfNums (nums l) = s := ⟨_, rfl⟩
  obtain ⟨s2, hs2⟩ : ∃ s, strOfNums (nums l') = s := ⟨_, rfl⟩
  rw [hs1] at k1
  rw [hs2] at k2
  rw [hs1, hs2] at hb
  have HB := hid hb
  clear hb hs1 hs2 hr
  go_enter Try.func50, Try.ntmps50
  go_wp2_with fail
  go_ret
  exact ⟨ret_bool HB.out, rfl⟩
end Go.Proofs.Ytceonkohidcdoaa
