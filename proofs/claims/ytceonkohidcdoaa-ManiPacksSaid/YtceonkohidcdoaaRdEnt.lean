/- An entry that is read. -/
import Derived.Test.YtceonkohidcdoaaReader
import Derived.Test.YtceonkohidcdoaaAppd
import Derived.Test.YtceonkohidcdoaaMani3
import Derived.Laws.BytesArg
import Derived.Deep.RegionLaw
import Derived.Deep.AppendLies
namespace Wells
open Go Go.RowKit
def rdTries : Nat → RSt → List Int × RSt
  | 0, st => ([], st)
  | n + 1, st => if st.2 then ([], st) else ((rdNum 1 st).1 :: (rdTries n (rdNum 1 st).2).1, (rdTries n (rdNum 1 st).2).2)
def rdEnt (P : Par) (st : RSt) : Ent × RSt :=
  let a := rdNum 1 st
  let nm := rdSome a.1.toNat a.2
  let o := rdNum 3 nm.2
  let l := rdNum 2 o.2
  let t := rdTries (countP P l.1).toNat l.2
  (⟨nm.1, o.1, l.1, t.1⟩, t.2)
theorem conv_str {P : Program} {w : World} {B n c : Nat} {A : Option Addr} {l : List Byte} (src dst e : TypeId) (hs : P.underlying src = some (.slice e)) (he : P.underlying e = some (.int .u8)) (hd : P.underlying dst = some .string) (h : Sl w B 1 A n (l.map bv8)) :
    (convert src dst (.slice A n c)).run P w = .ok (.string (strB l)) w := by
  have hl : l.length = n := by have := h.len; simpa using this
  rcases A with _ | a
  · have h0 : n = 0 := by
      rcases Nat.eq_zero_or_pos n with h0 | h0
      · exact h0
      · obtain ⟨_, _, hh, _⟩ := h.at_ h0
        cases hh
    subst h0
    have : l = [] := List.eq_nil_of_length_eq_zero hl
    subst this
    exact run_convert_bytes_nil w src e hs he 0 c dst hd
  · rw [run_convert_bytes_string w src dst e (some a) n c hs he hd]
    have hld := run_loadCells_list (P := P) w a ((l.map (fun b : Byte => (b.toNat : Int))).map (Value.int .u8)) (fun j v hj => by
      have hjl : j < l.length := by
        have := (List.getElem?_eq_some_iff.1 hj).1
        simpa using this
      obtain ⟨b, o, hA, _, hc⟩ := h.at_ (by omega)
      injection hA with hA
      subst hA
      rw [addr_add]
      refine hc j v ?_
      rw [← hj, List.map_map]
      rfl)
    simp only [List.length_map] at hld
    rw [hl] at hld
    rw [run_bytesToString w a n c _ hld, foldl_push_bytes]
    congr 2
    unfold strB
    congr 1
    have he0 : ByteArray.empty.data = #[] := rfl
    rw [he0, Array.empty_append, List.map_map]
    congr 1
    apply List.map_congr_left
    intro x _
    apply UInt8.toNat_inj.1
    have := x.isLt
    simp
end Wells
