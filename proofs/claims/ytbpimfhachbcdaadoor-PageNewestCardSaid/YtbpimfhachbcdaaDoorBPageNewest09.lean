/- Keep Sum -/
import Derived.Test.YtbpimfhachbcdaaDoorProg
import Derived.Deep.LoopGhost
import Derived.Deep.QuietTactic
import Derived.BigQuiet
import Derived.Deep.DeepMust
import Derived.Lib.SlBytesConst
import Derived.Test.YtbpimfhachbcdaaDoorBPageNewest00
import Derived.Test.YtbpimfhachbcdaaDoorBPageNewest02
set_option maxRecDepth 20000
set_option linter.unusedSimpArgs false
set_option linter.unusedVariables false
namespace Go.Proofs.YtbpimfhachbcdaaDoor
open Go.RowKit Wells

theorem u8_get (l : List Byte) (k : Nat) (h : k < l.length) : (l.map bv8)[k]? = some (bv8 (l.getD k 0)) := by
  rw [List.getElem?_map, List.getElem?_eq_getElem h]; simp [h]
end Go.Proofs.YtbpimfhachbcdaaDoor

namespace Go.Proofs.YtbpimfhachbcdaaDoor
open Go.RowKit Wells
theorem not_u32 (s : BitVec 32) : bits .xor .u32 IntKind.u32.max (s.toNat : Int) = ((~~~ s).toNat : Int) := by
  have h := x32 (~~~ 0#32) s
  have e : IntKind.u32.max = ((~~~ 0#32 : BitVec 32).toNat : Int) := by decide
  rw [e, h]
  congr 1
set_option maxHeartbeats 400000 in
theorem sum_len (B : Nat) (A : Option Addr) (l : List Byte) (c : Nat) (w : World) (h : Sl w B 1 A l.length (l.map bv8)) (hl : l.length ≤ 9223372036854775807) :
    Calls Tryd.prog 71 #[.slice A l.length c] w fun e w' => e = .returned (.int .u32 ((crc l).toNat : Int)) ∧ w = w' := by
  go_enter Tryd.func71, Tryd.ntmps71
  go_wp2
  go_loop [3, 9] (fun s i => ∃ k : Nat, k ≤ l.length ∧ i = .int .i64 k ∧ s = .int .u32 ((crcS (~~~ 0#32) (l.take k)).toNat : Int)) (fun _ i => l.length - (intOf i).toNat)
  case atStart => exact ⟨0, Nat.zero_le _, rfl, rfl⟩
  case round =>
    obtain ⟨k, hk, rfl, rfl⟩ := hrel
    generalize hs : crcS (~~~ 0#32) (l.take k) = s
    have HS := hid hs
    clear hs
    by_cases hlt : k < l.length
    · obtain ⟨b, o, rfl, hb, hc⟩ := h.at_ (by omega)
      have hck : w.cell? ⟨b, o + k, none⟩ = some (.int .u8 ((l.getD k 0).toNat : Int)) := hc k _ (by rw [List.getElem?_map, List.getElem?_eq_getElem hlt]; simp [bv8, hlt])
      have hbd := (l.getD k 0).isLt
      have hsd := s.isLt
      generalize hx : l.getD k 0 = x at *
      have HX := hid hx
      clear hx hc h
      go_wp2
      go_loop [3, 17] (fun s' i => ∃ j : Nat, j ≤ 8 ∧ i = .int .i64 j ∧ s' = .int .u32 ((tn j (s ^^^ x.setWidth 32)).toNat : Int)) (fun _ i => 8 - (intOf i).toNat)
      case atStart => exact ⟨0, by omega, rfl, by rw [x32b]; rfl⟩
      case round =>
        obtain ⟨j, hj, rfl, rfl⟩ := hrel
        generalize ht : tn j (s ^^^ x.setWidth 32) = t
        have HT := hid ht
        clear ht
        have htd := t.isLt
        go_wp2
        · go_round
          case rel => exact ⟨j + 1, by omega, by go_num, by rw [tb_one t (by assumption), tn_succ, HT.out]⟩
          case measure => simp [intOf]; omega
        · go_round
          case rel => exact ⟨j + 1, by omega, by go_num, by rw [tb_nought t (by assumption), tn_succ, HT.out]⟩
          case measure => simp [intOf]; omega
        · have hj8 : j = 8 := by omega
          go_round
          case rel => exact ⟨k + 1, by omega, by go_num, by rw [crcS_take _ _ _ hlt, HX.out, HS.out, ← HT.out, hj8]⟩
          case measure => simp [intOf]; omega
    · have he : k = l.length := by omega
      go_wp2
      go_ret
      exact ⟨ret_int (by rw [not_u32]; unfold crc; rw [← HS.out, he, List.take_length]), rfl⟩
theorem sum_any (B : Nat) (A : Option Addr) (l : List Byte) (n c : Nat) (w : World) (h : Sl w B 1 A n (l.map bv8)) (hl : n ≤ 9223372036854775807) :
    Calls Tryd.prog 71 #[.slice A n c] w fun e w' => e = .returned (.int .u32 ((crc l).toNat : Int)) ∧ w = w' := by
  have e : l.length = n := by have := h.len; simpa using this
  subst e
  exact sum_len B A l c w h hl
end Go.Proofs.YtbpimfhachbcdaaDoor

