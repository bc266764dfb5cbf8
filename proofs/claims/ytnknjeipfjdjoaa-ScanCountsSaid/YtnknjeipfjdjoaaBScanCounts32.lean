/- Scope2 Keep Bits Sum CellErr -/
import Derived.ScopeJumps
import Derived.WalkMore
import Derived.Test.YtnknjeipfjdjoaaProg
import Derived.Deep.LoopGhost
import Derived.Deep.QuietTactic
import Derived.BigQuiet
import Derived.Deep.DeepMust
import Derived.WalkKit
import Derived.Laws.BitsAllLaws
import Derived.Lib.SlBytesConst
import Derived.Test.YtnknjeipfjdjoaaBScanCounts00
import Derived.Test.YtnknjeipfjdjoaaBScanCounts01
import Derived.Test.YtnknjeipfjdjoaaBScanCounts02
set_option maxRecDepth 20000
namespace Wells
open Go Go.RowKit
/-- as Q; by a goto to l1: J1, to l2: J2 -/
def jump2 (l1 l2 : Nat) (J1 J2 : Act → World → Prop) (Q : Exit → Act → World → Prop) : Exit → Act → World → Prop
  | .goto l', a, w => (l' = l1 ∧ J1 a w) ∨ (l' = l2 ∧ J2 a w)
  | e, a, w => Q e a w
theorem jump2_mono {l1 l2 : Nat} {J1 J1' J2 : Act → World → Prop} {Q : Exit → Act → World → Prop} (h : ∀ a w, J1 a w → J1' a w) : ∀ e a w, jump2 l1 l2 J1 J2 Q e a w → jump2 l1 l2 J1' J2 Q e a w := fun e a w hj => by
  cases e <;> first | exact hj | exact hj.elim (fun x => .inl ⟨x.1, h _ _ x.2⟩) .inr
section
variable {P : Program} {a : Act} {w : World} {Q : Exit → Act → World → Prop}
theorem wp_scope_two {c X Y : Code} (l1 l2 : Nat) (J1 J2 : Act → World → Prop) (μ : Act → World → Nat) (hf1 : findLabel c l1 = some (Code.skip.seq X)) (hf2 : findLabel c l2 = some (Code.skip.seq Y))
    (first : (∀ a w, J1 a w → X.wp P (jump2 l1 l2 J1 J2 Q) a w) → c.wp P (jump2 l1 l2 J1 J2 Q) a w)
    (pass1 : ∀ a w, J1 a w → X.wp P (jump2 l1 l2 (fun a' w' => J1 a' w' ∧ μ a' w' < μ a w) J2 Q) a w)
    (pass2 : ∀ a w, J2 a w → Y.wp P (jump2 l1 l2 (fun _ _ => False) (fun _ _ => False) Q) a w) : (Code.scope c).wp P Q a w := by
  have first' := first fun a w h => wp_mono (pass1 a w h) fun e a' w' => jump2_mono (fun _ _ h => h.1) e a' w'
  clear first
  have p1 : ∀ a w, J1 a w → (Code.skip.seq X).wp P (jump2 l1 l2 (fun a' w' => J1 a' w' ∧ μ a' w' < μ a w) J2 Q) a w := fun a w h => wp_seq (wp_skip (pass1 a w h))
  have p2 : ∀ a w, J2 a w → (Code.skip.seq Y).wp P (jump2 l1 l2 (fun _ _ => False) (fun _ _ => False) Q) a w := fun a w h => wp_seq (wp_skip (pass2 a w h))
  intro b k cs
  have hg1 : gotoIn l1 (.inScope c :: k) = some (.code (Code.skip.seq X) :: .inScope c :: k) := by simp [gotoIn, hf1]
  have hg2 : gotoIn l2 (.inScope c :: k) = some (.code (Code.skip.seq Y) :: .inScope c :: k) := by simp [gotoIn, hf2]
  have key2 : ∀ a w, J2 a w → ∃ e a' w', Q e a' w' ∧ Arrives P (lone (b.at a (.code (Code.skip.seq Y) :: .inScope c :: k)) cs w) b k cs e a' w' := by
    intro a w hJ
    obtain ⟨e, a₁, w₁, hq, harr⟩ := p2 a w hJ b (.inScope c :: k) cs
    cases e with
    | normal => exact ⟨.normal, a₁, w₁, hq, Steps.trans harr (.one step_inScope)⟩
    | exit id => exact ⟨.exit id, a₁, w₁, hq, fun k' hk => harr k' (by simp [exitTo, hk])⟩
    | goto l' => rcases hq with ⟨_, h⟩ | ⟨_, h⟩ <;> exact h.elim
    | ret => exact ⟨_, a₁, w₁, hq, harr⟩
    | panic ch => exact ⟨_, a₁, w₁, hq, harr⟩
    | outgrown => exact ⟨_, a₁, w₁, hq, harr⟩
  have key : ∀ n a w, μ a w = n → J1 a w → ∃ e a' w', Q e a' w' ∧ Arrives P (lone (b.at a (.code (Code.skip.seq X) :: .inScope c :: k)) cs w) b k cs e a' w' := by
    intro n
    induction n using Nat.strongRecOn with
    | _ n ih =>
      intro a w hn hJ
      obtain ⟨e, a₁, w₁, hq, harr⟩ := p1 a w hJ b (.inScope c :: k) cs
      cases e with
      | normal => exact ⟨.normal, a₁, w₁, hq, Steps.trans harr (.one step_inScope)⟩
      | exit id => exact ⟨.exit id, a₁, w₁, hq, fun k' hk => harr k' (by simp [exitTo, hk])⟩
      | goto l' =>
        rcases hq with ⟨rfl, hJ', hlt⟩ | ⟨rfl, hJ'⟩
        · obtain ⟨e₂, a₂, w₂, hq₂, harr₂⟩ := ih _ (by omega) a₁ w₁ rfl hJ'
          exact ⟨e₂, a₂, w₂, hq₂, .of_steps (harr _ hg1) harr₂⟩
        · obtain ⟨e₂, a₂, w₂, hq₂, harr₂⟩ := key2 a₁ w₁ hJ'
          exact ⟨e₂, a₂, w₂, hq₂, .of_steps (harr _ hg2) harr₂⟩
      | ret => exact ⟨_, a₁, w₁, hq, harr⟩
      | panic ch => exact ⟨_, a₁, w₁, hq, harr⟩
      | outgrown => exact ⟨_, a₁, w₁, hq, harr⟩
  obtain ⟨e, a₁, w₁, hq, harr⟩ := first' b (.inScope c :: k) cs
  cases e with
  | normal => exact ⟨.normal, a₁, w₁, hq, .head step_scope (Steps.trans harr (.one step_inScope))⟩
  | exit id => exact ⟨.exit id, a₁, w₁, hq, fun k' hk => .head step_scope (harr k' (by simp [exitTo, hk]))⟩
  | goto l' =>
    rcases hq with ⟨rfl, hJ'⟩ | ⟨rfl, hJ'⟩
    · obtain ⟨e₂, a₂, w₂, hq₂, harr₂⟩ := key _ a₁ w₁ rfl hJ'
      exact ⟨e₂, a₂, w₂, hq₂, .of_steps (.head step_scope (harr _ hg1)) harr₂⟩
    · obtain ⟨e₂, a₂, w₂, hq₂, harr₂⟩ := key2 a₁ w₁ hJ'
      exact ⟨e₂, a₂, w₂, hq₂, .of_steps (.head step_scope (harr _ hg2)) harr₂⟩
  | ret => exact ⟨_, a₁, w₁, hq, .of_steps (.one step_scope) harr⟩
  | panic ch => exact ⟨_, a₁, w₁, hq, .of_steps (.one step_scope) harr⟩
  | outgrown => exact ⟨_, a₁, w₁, hq, .of_steps (.one step_scope) harr⟩
end
end Wells

namespace Go.Proofs.Ytnknjeipfjdjoaa
open Go.RowKit Wells

theorem u8_get (l : List Byte) (k : Nat) (h : k < l.length) : (l.map bv8)[k]? = some (bv8 (l.getD k 0)) := by
  rw [List.getElem?_map, List.getElem?_eq_getElem h]; simp [h]
theorem take_eq_step (l l' : List Byte) (k : Nat) (h : k < l.length) (h' : k < l'.length) (ht : l.take k = l'.take k) (hx : l.getD k 0 = l'.getD k 0) :  l.take (k + 1) = l'.take (k + 1) := by
  rw [List.take_succ_eq_append_getElem h, List.take_succ_eq_append_getElem h', ht]
  simp [h, h'] at hx
  rw [hx]
theorem byte_ne {x y : Byte} (h : ((x.toNat : Int) != (y.toNat : Int)) = true) : x ≠ y := by rintro rfl; simp at h
theorem byte_eq {x y : Byte} (h : ((x.toNat : Int) != (y.toNat : Int)) = false) : x = y := by
  simp at h
  exact BitVec.eq_of_toNat_eq (by omega)
/-- 'Same' of two byte lists -/
theorem same_any (B : Nat) (A A' : Option Addr) (l l' : List Byte) (n n' c c' : Nat) (w : World) (h : Sl w B 1 A n (l.map bv8)) (h' : Sl w B 1 A' n' (l'.map bv8)) (hnl : n ≤ 9223372036854775807) (hn'l : n' ≤ 9223372036854775807) :
    Calls Try.prog 16 #[.slice A n c, .slice A' n' c'] w fun e w' => e = .returned (.bool (decide (l = l'))) ∧ ∃ d, w' = w.drewN d := by
  have HL := hid (show l.length = n by have := h.len; simpa using this)
  have HL' := hid (show l'.length = n' by have := h'.len; simpa using this)
  by_cases hlen : n = n'
  · subst hlen
    have hb : ((n : Int) != (n : Int)) = false := by simp
    go_enter Try.func16, Try.ntmps16
    go_wp2
    go_loopw [13] (fun i wr => ∃ k d : Nat, k ≤ n ∧ i = .int .i64 k ∧ Hid (l.take k = l'.take k) ∧ wr = w.drewN d) (fun i _ => n - (intOf i).toNat)
    case atStart => exact ⟨0, 0, Nat.zero_le _, rfl, rfl, rfl⟩
    case round =>
      obtain ⟨k, d, hk, rfl, ht, rfl⟩ := hrel
      by_cases hlt : k < n
      · have hlt' : (k : Int) < (n : Int) := by omega
        have hk0 : (0 : Int) ≤ (k : Int) := by omega
        obtain ⟨b, o, rfl, hb, hc⟩ := h.get hlt (u8_get l k (by rw [HL.out]; exact hlt))
        obtain ⟨b', o', rfl, hb', hc'⟩ := h'.get hlt (u8_get l' k (by rw [HL'.out]; exact hlt))
        have HT := hid (take_eq_step l l' k (by rw [HL.out]; exact hlt) (by rw [HL'.out]; exact hlt) ht.out)
        generalize hx : l.getD k 0 = x at *
        generalize hy : l'.getD k 0 = y at *
        have HX := hid hx
        have HY := hid hy
        clear hx hy
        unfold bv8 at hc hc'
        go_wp2
        go_quiet (fail)
        go_wp2
        · have hne : decide (l = l') = false := by
            have hxy := byte_ne (x := x) (y := y) (by assumption)
            simp; rintro rfl
            exact hxy (HX.out.symm.trans HY.out)
          go_ret
          exact ⟨ret_bool hne.symm, _, World.drewN_drewN _ _ _⟩
        · go_roundw
          case rel => exact ⟨k + 1, _, by omega, by go_num, HT.out (byte_eq (by assumption)), rfl⟩
          case measure => simp [intOf]; omega
      · have he : decide (l = l') = true := by
          have h1 := ht.out
          rw [List.take_of_length_le (by rw [HL.out]; omega), List.take_of_length_le (by rw [HL'.out]; omega)] at h1
          simpa using h1
        go_wp2
        go_ret
        exact ⟨ret_bool he.symm, _, rfl⟩
  · have hb : ((n : Int) != (n' : Int)) = true := by simp; omega
    have hne : decide (l = l') = false := by
      simp; rintro rfl; exact hlen (HL.out.symm.trans HL'.out)
    go_enter Try.func16, Try.ntmps16
    go_wp2
    go_ret
    exact ⟨ret_bool hne.symm, 0, rfl⟩

theorem same_is (r : Bool) (B : Nat) (A A' : Option Addr) (l l' : List Byte) (n n' c c' : Nat) (w : World) (h : Sl w B 1 A n (l.map bv8)) (h' : Sl w B 1 A' n' (l'.map bv8)) (hnl : n ≤ 9223372036854775807) (hn'l : n' ≤ 9223372036854775807) (hr : decide (l = l') = r) :
    Calls Try.prog 16 #[.slice A n c, .slice A' n' c'] w fun e w' => e = .returned (.bool r) ∧ ∃ d, w' = w.drewN d := by
  subst hr
  exact same_any B A A' l l' n n' c c' w h h' hnl hn'l
theorem infoU8 : (Try.prog.info? 5).map (fun i => (i.zero, i.size, i.bytes)) = some (some (.int .u8 0), 1, 1) := by kernel_rfl
theorem u8_one (b : Byte) : (bv8 b).oneCell' = true := rfl
theorem u8s_one (l : List Byte) : ∀ v ∈ l.map bv8, v.oneCell' = true := by
  intro v hv
  obtain ⟨b, _, rfl⟩ := List.mem_map.1 hv
  rfl
def spareRow (l : List Byte) (x : Byte) (j : Nat) : List Value := l.map bv8 ++ (List.replicate j (bv8 x) ++ List.replicate (2 - j) (.int .u8 0))
theorem spareRow_zero (l : List Byte) (x : Byte) : splice (List.replicate (l.length + 2) (Value.int .u8 0)) 0 ((l.map bv8).take l.length) = spareRow l x 0 := by
  have e : (l.map bv8).take l.length = l.map bv8 := List.take_of_length_le (by simp)
  unfold splice spareRow
  rw [e]
  simp
theorem spareRow_set (l : List Byte) (x : Byte) (j : Nat) (h : j < 2) : (spareRow l x j).set (l.length + j) (bv8 x) = spareRow l x (j + 1) := by
  unfold spareRow
  rw [List.set_append_right _ _ (by simp)]
  congr 1
  obtain rfl | rfl : j = 0 ∨ j = 1 := by omega
  · simp [List.replicate_succ]
  · simp [List.replicate_succ]
theorem spareRow_len (l : List Byte) (x : Byte) (j : Nat) (h : j ≤ 2) : (spareRow l x j).length = l.length + 2 := by
  unfold spareRow; simp; omega
end Go.Proofs.Ytnknjeipfjdjoaa

namespace Wells
open Go Go.RowKit
theorem x32 (a b : BitVec 32) : bits .xor .u32 (a.toNat : Int) (b.toNat : Int) = ((a ^^^ b).toNat : Int) := by
  rw [u32_xor_nat _ _ a.isLt b.isLt, BitVec.toNat_xor]
theorem x32b (a : BitVec 32) (b : BitVec 8) : bits .xor .u32 (a.toNat : Int) (b.toNat : Int) = ((a ^^^ b.setWidth 32).toNat : Int) := by
  have := x32 a (b.setWidth 32)
  rw [BitVec.toNat_setWidth, Nat.mod_eq_of_lt (by have := b.isLt; omega)] at this
  exact this
theorem and1 (t : BitVec 32) : bits .and .u32 (t.toNat : Int) 1 = (t.toNat % 2 : Int) := by
  have := u32_and_nat t.toNat 1 t.isLt (by omega)
  rw [Nat.and_one_is_mod] at this
  simpa using this
theorem lsb_of (t : BitVec 32) : t.getLsbD 0 = decide (t.toNat % 2 = 1) := by
  rw [BitVec.getLsbD, Nat.testBit_zero]
theorem tb_one (t : BitVec 32) (h : (bits .and .u32 (t.toNat : Int) 1 == 1) = true) : bits .xor .u32 ((t.toNat : Int) / 2) 3988292384 = ((tb t).toNat : Int) := by
  rw [and1] at h
  have h1 : t.getLsbD 0 = true := by rw [lsb_of]; simp at h ⊢; omega
  have e : (t.toNat : Int) / (2 : Int) = ((t >>> 1).toNat : Int) := by rw [BitVec.toNat_ushiftRight, Nat.shiftRight_eq_div_pow]; omega
  have e2 : (3988292384 : Int) = ((0xedb88320#32).toNat : Int) := rfl
  rw [e, e2, x32]
  unfold tb
  rw [h1]; rfl
theorem tb_nought (t : BitVec 32) (h : (bits .and .u32 (t.toNat : Int) 1 == 1) = false) : ((t.toNat : Int) / 2) = ((tb t).toNat : Int) := by
  rw [and1] at h
  have h1 : t.getLsbD 0 = false := by rw [lsb_of]; simp at h ⊢; omega
  have e : (t.toNat : Int) / (2 : Int) = ((t >>> 1).toNat : Int) := by rw [BitVec.toNat_ushiftRight, Nat.shiftRight_eq_div_pow]; omega
  rw [e]
  unfold tb
  rw [h1]; simp
theorem tn_succ (j : Nat) (s : BitVec 32) : tn (j + 1) s = tb (tn j s) := tn_add j 1 s
theorem not32 (s : BitVec 32) : ((~~~ s).toNat : Int) = 4294967295 - (s.toNat : Int) := by
  rw [BitVec.toNat_not]
  have := s.isLt
  omega
theorem crcS_take (s : BitVec 32) (l : List Byte) (k : Nat) (h : k < l.length) : crcS s (l.take (k + 1)) = tn 8 (crcS s (l.take k) ^^^ (l.getD k 0).setWidth 32) := by
  rw [List.take_succ_eq_append_getElem h]
  unfold crcS
  rw [List.foldl_append]
  simp [by8, h]
end Wells

namespace Go.Proofs.Ytnknjeipfjdjoaa
open Go.RowKit Wells
theorem not_u32 (s : BitVec 32) : bits .xor .u32 IntKind.u32.max (s.toNat : Int) = ((~~~ s).toNat : Int) := by
  have h := x32 (~~~ 0#32) s
  have e : IntKind.u32.max = ((~~~ 0#32 : BitVec 32).toNat : Int) := by decide
  rw [e, h]
  congr 1
set_option maxHeartbeats 400000 in
theorem sum_len (B : Nat) (A : Option Addr) (l : List Byte) (c : Nat) (w : World) (h : Sl w B 1 A l.length (l.map bv8)) (hl : l.length ≤ 9223372036854775807) :
    Calls Try.prog 75 #[.slice A l.length c] w fun e w' => e = .returned (.int .u32 ((crc l).toNat : Int)) ∧ w = w' := by
  go_enter Try.func75, Try.ntmps75
  go_wp2
  go_loop [3, 9] (fun s i => ∃ k : Nat, k ≤ l.length ∧ i = .int .i64 k ∧ s = .int .u32 ((crcS (~~~ 0#32) (l.take k)).toNat : Int)) (fun _ i => l.length - (intOf i).toNat)
  case atStart => exact ⟨0, Nat.zero_le _, rfl, rfl⟩
  case round =>
    obtain ⟨k, hk, rfl, rfl⟩ := hrel
    generalize hs : crcS (~~~ 0#32) (l.take k) = s
    have HS := hid hs
    clear hs
    by_cases hlt : k < l.length
    · obtain ⟨b, o, rfl, hb, hc⟩ := h.at_ (by omega)
      have hck : w.cell? ⟨b, o + k, none⟩ = some (.int .u8 ((l.getD k 0).toNat : Int)) := hc k _ (by rw [List.getElem?_map, List.getElem?_eq_getElem hlt]; simp [bv8, hlt])
      have hbd := (l.getD k 0).isLt
      have hsd := s.isLt
      generalize hx : l.getD k 0 = x at *
      have HX := hid hx
      clear hx hc h
      go_wp2
      go_loop [3, 17] (fun s' i => ∃ j : Nat, j ≤ 8 ∧ i = .int .i64 j ∧ s' = .int .u32 ((tn j (s ^^^ x.setWidth 32)).toNat : Int)) (fun _ i => 8 - (intOf i).toNat)
      case atStart => exact ⟨0, by omega, rfl, by rw [x32b]; rfl⟩
      case round =>
        obtain ⟨j, hj, rfl, rfl⟩ := hrel
        generalize ht : tn j (s ^^^ x.setWidth 32) = t
        have HT := hid ht
        clear ht
        have htd := t.isLt
        go_wp2
        · go_round
          case rel => exact ⟨j + 1, by omega, by go_num, by rw [tb_one t (by assumption), tn_succ, HT.out]⟩
          case measure => simp [intOf]; omega
        · go_round
          case rel => exact ⟨j + 1, by omega, by go_num, by rw [tb_nought t (by assumption), tn_succ, HT.out]⟩
          case measure => simp [intOf]; omega
        · have hj8 : j = 8 := by omega
          go_round
          case rel => exact ⟨k + 1, by omega, by go_num, by rw [crcS_take _ _ _ hlt, HX.out, HS.out, ← HT.out, hj8]⟩
          case measure => simp [intOf]; omega
    · have he : k = l.length := by omega
      go_wp2
      go_ret
      exact ⟨ret_int (by rw [not_u32]; unfold crc; rw [← HS.out, he, List.take_length]), rfl⟩
theorem sum_any (B : Nat) (A : Option Addr) (l : List Byte) (n c : Nat) (w : World) (h : Sl w B 1 A n (l.map bv8)) (hl : n ≤ 9223372036854775807) :
    Calls Try.prog 75 #[.slice A n c] w fun e w' => e = .returned (.int .u32 ((crc l).toNat : Int)) ∧ w = w' := by
  have e : l.length = n := by have := h.len; simpa using this
  subst e
  exact sum_len B A l c w h hl
set_option maxHeartbeats 400000 in
theorem refsum_len (B : Nat) (A : Option Addr) (l : List Byte) (c : Nat) (w : World) (h : Sl w B 1 A l.length (l.map bv8)) (hl : l.length ≤ 9223372036854775807) :
    Calls Try.prog 71 #[.slice A l.length c] w fun e w' => e = .returned (.int .u32 ((crc l).toNat : Int)) ∧ w = w' := by
  go_enter Try.func71, Try.ntmps71
  go_wp2
  go_loop [3, 8] (fun s i => ∃ k : Nat, k ≤ l.length ∧ i = .int .i64 k ∧ s = .int .u32 ((crcS (~~~ 0#32) (l.take k)).toNat : Int)) (fun _ i => l.length - (intOf i).toNat)
  case atStart => exact ⟨0, Nat.zero_le _, rfl, rfl⟩
  case round =>
    obtain ⟨k, hk, rfl, rfl⟩ := hrel
    generalize hs : crcS (~~~ 0#32) (l.take k) = s
    have HS := hid hs
    clear hs
    by_cases hlt : k < l.length
    · obtain ⟨b, o, rfl, hb, hc⟩ := h.at_ (by omega)
      have hck : w.cell? ⟨b, o + k, none⟩ = some (.int .u8 ((l.getD k 0).toNat : Int)) := hc k _ (by rw [List.getElem?_map, List.getElem?_eq_getElem hlt]; simp [bv8, hlt])
      have hbd := (l.getD k 0).isLt
      have hsd := s.isLt
      generalize hx : l.getD k 0 = x at *
      have HX := hid hx
      clear hx hc h
      go_wp2
      go_loop [3, 5] (fun s' i => ∃ j : Nat, j ≤ 8 ∧ i = .int .i64 j ∧ s' = .int .u32 ((tn j (s ^^^ x.setWidth 32)).toNat : Int)) (fun _ i => 8 - (intOf i).toNat)
      case atStart => exact ⟨0, by omega, rfl, by rw [x32b]; rfl⟩
      case round =>
        obtain ⟨j, hj, rfl, rfl⟩ := hrel
        generalize ht : tn j (s ^^^ x.setWidth 32) = t
        have HT := hid ht
        clear ht
        have htd := t.isLt
        go_wp2
        · go_round
          case rel => exact ⟨j + 1, by omega, by go_num, by rw [tb_one t (by assumption), tn_succ, HT.out]⟩
          case measure => simp [intOf]; omega
        · go_round
          case rel => exact ⟨j + 1, by omega, by go_num, by rw [tb_nought t (by assumption), tn_succ, HT.out]⟩
          case measure => simp [intOf]; omega
        · have hj8 : j = 8 := by omega
          go_round
          case rel => exact ⟨k + 1, by omega, by go_num, by rw [crcS_take _ _ _ hlt, HX.out, HS.out, ← HT.out, hj8]⟩
          case measure => simp [intOf]; omega
    · have he : k = l.length := by omega
      go_wp2
      go_ret
      exact ⟨ret_int (by rw [not_u32]; unfold crc; rw [← HS.out, he, List.take_length]), rfl⟩
theorem refsum_any (B : Nat) (A : Option Addr) (l : List Byte) (n c : Nat) (w : World) (h : Sl w B 1 A n (l.map bv8)) (hl : n ≤ 9223372036854775807) :
    Calls Try.prog 71 #[.slice A n c] w fun e w' => e = .returned (.int .u32 ((crc l).toNat : Int)) ∧ w = w' := by
  have e : l.length = n := by have := h.len; simpa using this
  subst e
  exact refsum_len B A l c w h hl
def digits9 : List Byte := [49#8, 50#8, 51#8, 52#8, 53#8, 54#8, 55#8, 56#8, 57#8]
theorem crc_digits : crc digits9 = 0xcbf43926#32 := by decide +kernel
end Go.Proofs.Ytnknjeipfjdjoaa

namespace Wells
theorem xr_zero (b e : BL) (h : b.length = e.length) (hz : ∀ i, e.getD i 0 = 0#8) : xr b e = b := by
  unfold xr
  apply List.ext_getElem?
  intro i
  rw [List.getElem?_zipWith]
  by_cases hi : i < b.length
  · rw [List.getElem?_eq_getElem hi, List.getElem?_eq_getElem (show i < e.length by omega)]
    have := hz i
    rw [List.getD_eq_getElem?_getD, List.getElem?_eq_getElem (show i < e.length by omega)] at this
    simp at this
    simp [this]
  · rw [List.getElem?_eq_none (by omega)]
theorem errL_getD (len bit : Nat) (mask : BitVec 32) (n i : Nat) : (errL len bit mask n).getD i 0 = if i < len then errB bit mask n i else 0#8 := by
  unfold errL
  rw [List.getD_eq_getElem?_getD, List.getElem?_map]
  by_cases h : i < len
  · rw [List.getElem?_range h, if_pos h]; rfl
  · rw [List.getElem?_eq_none (by simpa using h), if_neg h]; rfl
theorem errB_zero {bit : Nat} {mask : BitVec 32} {n j : Nat} (h : ∀ r, r < 8 → errBit bit mask n (8 * j + r) = false) : errB bit mask n j = 0#8 := by
  apply BitVec.eq_of_getLsbD_eq
  intro r hr
  rw [errB_get _ _ _ _ _ hr]
  have := h r hr
  unfold errBit at this
  rw [this]
  simp
theorem cell_burst {b : BL} (hb : IsCell b) (bit : Nat) (mask : BitVec 32) (hbit : bit ≤ 8 * 64) : IsCell (xr b (errL 64 bit mask 32)) ↔ turnN 64 bit mask 32 = 0 := by
  obtain ⟨hl, h3, hk, h63, hc⟩ := (isCell_iff b).1 hb
  constructor
  · intro hb'
    obtain ⟨hl', h3', hk', h63', hc'⟩ := (isCell_iff _).1 hb'
    have e63 : errB bit mask 32 63 = 0#8 := by
      have h1 : (xr b (errL 64 bit mask 32)).getD 63 0 = b.getD 63 0 ^^^ (errL 64 bit mask 32).getD 63 0 := by
        unfold xr
        rw [List.getD_eq_getElem?_getD, List.getElem?_zipWith, List.getElem?_eq_getElem (show 63 < b.length by omega), List.getElem?_eq_getElem (show 63 < (errL 64 bit mask 32).length by rw [errL_length]; omega)]
        simp [List.getD_eq_getElem?_getD, hl, errL_length]
      rw [h1, h63, errL_getD, if_pos (by omega)] at h63'
      have := congrArg (fun x => 0xa5#8 ^^^ x) h63'
      simpa [← BitVec.xor_assoc] using this
    have ht : (xr b (errL 64 bit mask 32)).take 63 = xr (b.take 63) (errL 63 bit mask 32) := by
      unfold xr
      rw [List.take_zipWith]
      congr 1
    rw [ht] at hc'
    have hx : crcS 0#32 (errL 63 bit mask 32) = 0#32 := by
      have h1 := crcS_xor (b.take 63) (errL 63 bit mask 32) (~~~ 0#32) 0#32 (by simp [hl, errL_length])
      unfold crc at hc hc'
      have h2 : crcS (~~~ 0#32) (xr (b.take 63) (errL 63 bit mask 32)) = crcS (~~~ 0#32) (b.take 63) := by
        have := hc'.trans hc.symm
        have := congrArg (fun x => ~~~ x) this
        simpa using this
      rw [BitVec.xor_zero, h2] at h1
      have := congrArg (fun x => crcS (~~~ 0#32) (b.take 63) ^^^ x) h1
      simpa [← BitVec.xor_assoc] using this.symm
    have h0 : turnN 63 bit mask 32 = 0 := by
      by_cases hb63 : bit ≤ 8 * 63
      · exact (crcS_err 63 bit mask hb63).1 hx
      · exact (turnN_zero 63 bit mask 32).2 (fun i _ h => by omega)
    refine (turnN_zero 64 bit mask 32).2 fun i hi hlt => ?_
    by_cases h5 : bit + i < 8 * 63
    · exact (turnN_zero 63 bit mask 32).1 h0 i hi h5
    · have := congrArg (fun x => x.getLsbD (bit + i - 504)) e63
      rw [errB_get _ _ _ _ _ (by omega)] at this
      have e1 : 8 * 63 + (bit + i - 504) - bit = i := by omega
      rw [e1, decide_eq_true (by omega)] at this
      simpa using this
  · intro h0
    rw [xr_zero b _ (by rw [errL_length, hl]) fun j => ?_]
    · exact hb
    · rw [errL_getD]
      split
      · refine errB_zero fun r hr => ?_
        unfold errBit
        by_cases hin : bit ≤ 8 * j + r ∧ 8 * j + r < bit + 32
        · rw [(turnN_zero 64 bit mask 32).1 h0 (8 * j + r - bit) (by omega) (by omega)]
          simp
        · rw [decide_eq_false hin]; rfl
      · rfl
theorem flip_err (k : Nat) (c : BitVec 8) (j : Nat) : errB (8 * k) (c.setWidth 32) 32 j = if j = k then c else 0#8 := by
  apply BitVec.eq_of_getLsbD_eq
  intro r hr
  rw [errB_get _ _ _ _ _ hr]
  by_cases hjk : j = k
  · subst hjk
    rw [if_pos rfl, decide_eq_true (by omega), show 8 * j + r - 8 * j = r by omega, BitVec.getLsbD_setWidth, decide_eq_true (by omega)]
    simp
  · rw [if_neg hjk]
    by_cases hin : 8 * k ≤ 8 * j + r ∧ 8 * j + r < 8 * k + 32
    · rw [decide_eq_true hin, BitVec.getLsbD_setWidth, BitVec.getLsbD_of_ge c (8 * j + r - 8 * k) (by omega)]
      simp
    · rw [decide_eq_false hin]; simp
theorem flip_xr {b : BL} (hl : b.length = 64) (k : Nat) (c : BitVec 8) (hk : k < 64) : xr b (errL 64 (8 * k) (c.setWidth 32) 32) = b.set k (b.getD k 0 ^^^ c) := by
  unfold xr errL
  apply List.ext_getElem?
  intro i
  rw [List.getElem?_zipWith, List.getElem?_map, List.getElem?_set]
  by_cases hi : i < 64
  · rw [List.getElem?_range hi, List.getElem?_eq_getElem (by omega)]
    simp only [Option.map_some, flip_err]
    by_cases hik : k = i
    · subst hik; simp [hl, hk, List.getD_eq_getElem?_getD]
    · rw [if_neg hik, if_neg (fun h => hik h.symm)]; simp
  · rw [List.getElem?_eq_none (by omega), if_neg (by omega)]
theorem cell_flip {b : BL} (hb : IsCell b) (k : Nat) (c : BitVec 8) (hk : k < 64) : IsCell (b.set k (b.getD k 0 ^^^ c)) ↔ c = 0#8 := by
  have hl := ((isCell_iff b).1 hb).1
  rw [← flip_xr hl k c hk, cell_burst hb _ _ (by omega), turnN_zero]
  constructor
  · intro h
    apply BitVec.eq_of_getLsbD_eq
    intro r hr
    have := h r (by omega) (by omega)
    rw [BitVec.getLsbD_setWidth, decide_eq_true (by omega)] at this
    simpa using this
  · rintro rfl i hi _
    simp
end Wells

