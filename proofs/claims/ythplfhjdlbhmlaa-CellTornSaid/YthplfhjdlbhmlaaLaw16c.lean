/- The walk of CellTorn. -/
import Derived.Test.YthplfhjdlbhmlaaLaw16b
namespace Wells
theorem torn_none {fr : BL} (hl : fr.length = 64) (m : Nat) (hm : m < 64) : takeP (fr.take m ++ List.replicate (64 - m) 0#8) = none := by
  cases h : takeP (fr.take m ++ List.replicate (64 - m) 0#8) with
  | none => rfl
  | some p =>
    have h1 : (takeP (fr.take m ++ List.replicate (64 - m) 0#8)).isSome = true := by rw [h]; rfl
    obtain ⟨_, _, _, h63, _⟩ := (isCell_iff _).1 ((take_isSome _).1 h1)
    rw [List.getD_eq_getElem?_getD, List.getElem?_append_right (by simp; omega), List.getElem?_replicate] at h63
    split at h63
    · exact absurd h63 (by decide)
    · exact absurd h63 (by decide)
theorem len_none {b : BL} (h : b.length ≠ 64) : takeP b = none := by unfold takeP; rw [if_neg (fun hh => h hh.1)]
end Wells
namespace Go.Proofs.Ythplfhjdlbhmlaa
open Go.RowKit Wells
theorem walk_CellTorn (kind : Int) (A : Option Addr) (n0 c0 : Nat) (l0 : List Byte) (at_ : Int) (w : World) (hk : -9223372036854775808 ≤ kind ∧ kind ≤ 9223372036854775807) (h : IsBytes w A n0 c0 l0) (ha : -9223372036854775808 ≤ at_ ∧ at_ ≤ 9223372036854775807) :
    Calls Try.prog 6 #[.int .i64 kind, .slice A n0 c0, .int .i64 at_] w fun e w' => e = .returned (.bool true) ∧ Below w.heap.size w w' := by
  obtain ⟨hs, hle, hcap⟩ := h
  obtain ⟨n, hn⟩ : ∃ n, n = min n0 55 := ⟨_, rfl⟩
  have hn55 : n ≤ 55 := by omega
  have hnn : n ≤ n0 := by omega
  have hs' : Sl w w.heap.size 1 A n ((l0.take n).map bv8) := by
    have := hs.take hnn
    rwa [Nat.mul_one, ← List.map_take] at this
  generalize l0.take n = l at hs'
  have hll : l.length = n := by have := hs'.len; simpa using this
  have HN := hid hn
  obtain ⟨x, hx⟩ : ∃ x, kind % 255 = x := ⟨_, rfl⟩
  have hx0 : 0 ≤ x ∧ x ≤ 254 := by omega
  obtain ⟨hx0, hx1⟩ := hx0
  obtain ⟨k, hk0, hkx, hce⟩ := made_cell hx (show l.length ≤ 55 by omega)
  have hfl := frame_len (k := k) (show l.length ≤ 55 by omega)
  obtain ⟨m, hm⟩ : ∃ m : Nat, (m : Int) = at_ % 64 := ⟨(at_ % 64).toNat, by omega⟩
  have hm64 : m < 64 := by omega
  have HX := hid hx
  have HCE := hid hce
  have HM := hid hm
  generalize hfr : frame k l = fr at *
  have HFL := hid hfl
  have t1 := torn_none hfl m hm64
  have t2 : takeP (fr.take 63) = none := len_none (by simp [hfl])
  have t3 : takeP (fr ++ [0#8]) = none := len_none (by simp [hfl])
  have ht : ((fr.take m).map bv8).length = m := by simp [hfl]; omega
  have hsp : splice (List.replicate 64 (Value.int .u8 0)) 0 (((fr.take m).map bv8).take 64) = (fr.take m ++ List.replicate (64 - m) 0#8).map bv8 := by
    rw [List.take_of_length_le (by omega)]
    unfold splice
    rw [ht, List.map_append, List.map_replicate, List.take_zero, List.nil_append, List.drop_replicate, Nat.zero_add]
    rfl
  have T1 := hid t1
  have T2 := hid t2
  have T3 := hid t3
  have HSP := hid hsp
  have HTL := hid ht
  obtain ⟨i0, hi, hz0, hz1, hz2⟩ := info_parts infoB
  have hsz : (Try.prog.info? 5).map (·.size) = some 1 := by rw [hi]; simp [hz1]
  clear hn hx hce hm hfr hfl t1 t2 t3 ht hsp hll hkx
  go_enter Try.func6, Try.ntmps6
  go_wp2_with fail
  refine (within_any kind 255 _ hk.1 hk.2 (by omega) (by omega)).mono ?_
  rintro e w1 ⟨rfl, rfl⟩
  rw [HX.out]
  go_wp2_with fail
  refine (cut_any A n0 c0 n 55 _ (by omega) (by omega) (by omega) hle HN.out).mono ?_
  rintro e w1 ⟨rfl, rfl⟩
  go_wp2_with fail
  refine (put_any (1 + x) _ A l n c0 _ (by omega) hs' (Nat.le_refl _) (by omega)).mono ?_
  rintro e w1 ⟨v, rfl, hv, hb1⟩
  rw [HCE.out] at hv
  obtain ⟨A1, c1, rfl, hc1, hc2⟩ := own_form2 hv
  unfold OB at hv
  rw [HFL.out] at hv hc1 ⊢
  have s1 := Sl.own hv
  have hsw1 := hb1.size
  go_wp2_with (at_make; refine wpl_make _ rfl (.const (.int .i64 64)) (.const (.int .i64 64)) 22 rfl 5 i0 (.int .u8 0) 1 Try.underlying22 hi hz0 hz1 hz2 rfl .i64 .i64 _ _ 64 64 rfl rfl rfl (by omega) (by omega) (by omega) (by omega) ?_; intro w2 r2 b2 z2)
  refine (within_any at_ 64 _ ha.1 ha.2 (by omega) (by omega)).mono ?_
  rintro e w3 ⟨rfl, rfl⟩
  rw [← HM.out]
  have sm : Sl w2 w1.heap.size 1 A1 m ((fr.take m).map bv8) := by
    have := (s1.take (m := m) (by omega)).below b2
    rwa [Nat.mul_one, ← List.map_take] at this
  have hmc : m ≤ c1 := by omega
  have hmi : (m : Int) ≤ (c1 : Int) := by omega
  have hmi0 : (0 : Int) ≤ (m : Int) := by omega
  go_wp2_with ((with_reducible show wpList _ _ _ (⟨some 33, _, _, _, _, _⟩ :: _) _ _); go_must (refine wpl_copy rfl (.tmp 28) (.tmp 32) 22 22 rfl 5 Try.underlying22 hsz _ _ 64 64 m c1 rfl rfl w1.heap.size 0 _ 5 r2 w1.heap.size _ sm (fun _ => rfl) (by simp; omega) (u8s_cell _) ?_); intro w4 r4 g4)
  rw [HSP.out] at r4
  have hlt4 : (fr.take m ++ List.replicate (64 - m) 0#8).length = 64 := by rw [List.length_append, List.length_take, List.length_replicate, HFL.out]; omega
  have b14 : Below w1.heap.size w1 w4 := b2.grown g4 (by omega) (fun k hk => by injection hk with hk; omega)
  have b4 : Below w.heap.size w w4 := hb1.trans (b14.mono hsw1)
  have s4 : Sl w4 (w1.heap.size + 1) 1 (some ⟨w1.heap.size, 0, none⟩) 64 ((fr.take m ++ List.replicate (64 - m) 0#8).map bv8) := by
    have := r4.sl (B := w1.heap.size + 1) (m := 64) (by omega) (by rw [List.length_map, hlt4]; omega)
    rwa [List.take_of_length_le (by rw [List.length_map, hlt4]; omega)] at this
  have hv4 := hv.kept (grown_of_below b14 none) (by cases (Value.slice A1 64 c1).ownBlock <;> simp)
  have hsz4 : w1.heap.size + 1 ≤ w4.heap.size := r4.lt
  clear r4 g4 r2 sm b2 hlt4
  refine (take_any _ _ _ 64 64 _ s4 hsz4 (by omega) (by omega) (by omega)).mono ?_
  rintro e w5 ⟨v5, rfl, ov5, hb5⟩
  rw [T1.out] at ov5 ⊢
  obtain ⟨A5, c5, e5, _, _⟩ := own_form2 ov5
  have e5' : v5 = .slice A5 0 c5 := e5
  subst e5'
  clear e5 ov5 s4
  have b5 := b4.trans (hb5.mono b4.size)
  have hv5 := hv4.kept (grown_of_below hb5 none) (by cases (Value.slice A1 64 c1).ownBlock <;> simp)
  have hsz5 := hb5.size
  clear hv4
  have s5 := Sl.own hv5
  have s63 : Sl w5 w5.heap.size 1 A1 63 ((fr.take 63).map bv8) := by
    have := s5.take (m := 63) (by omega)
    rwa [Nat.mul_one, ← List.map_take] at this
  have h63c : 63 ≤ c1 := by omega
  have h63ci : (63 : Int) ≤ (c1 : Int) := by omega
  have ek : tkV none = .int .i64 0 := rfl
  rw [ek]
  go_wp2_with fail
  refine (take_any _ A1 _ 63 c1 _ s63 (Nat.le_refl _) (by omega) h63c hc2).mono ?_
  rintro e w6 ⟨v6, rfl, _, hb6⟩
  rw [T2.out, ek]
  have b6 := b5.trans (hb6.mono b5.size)
  have hv6 := hv5.kept (grown_of_below hb6 none) (by cases (Value.slice A1 64 c1).ownBlock <;> simp)
  have s6 := Sl.own hv6
  have hsz6 := hb6.size
  have hsz6' := b6.size
  clear hv5 s5 s63 s1
  go_wp2_with (first
    | ((with_reducible show wpList _ _ _ (⟨some 49, _, _, _, _, _⟩ :: _) _ _); go_must (refine wpl_append rfl (.const (.slice none 0 0)) (.tmp 48) 22 rfl w.heap.size 5 i0 (.int .u8 0) 1 1 Try.underlying22 hi hz0 hz1 hz2 rfl (by omega) (.slice none 0 0) 0 [] rfl (World.ownsRow_nil _ _ _ _) _ A1 64 c1 _ rfl s6 (u8s_cell _) 64 (by omega) (fr.map bv8) rfl (by omega) (by omega) hsz6' ?_); intro A7 c7 w7 o7 g7 _; have b7 : Below w.heap.size w w7 := below_own b6 (World.ownsRow_nil w6 w.heap.size 5 1) g7 (Nat.le_refl _) hsz6')
    | ((with_reducible show wpList _ _ _ (⟨some 51, _, _, _, _, _⟩ :: _) _ _); go_must (refine wpl_append rfl (.tmp 49) (.tmp 50) 22 rfl w.heap.size 5 i0 (.int .u8 0) 1 1 Try.underlying22 hi hz0 hz1 hz2 rfl (by omega) (.slice A7 64 c7) 64 _ rfl (o7.alloc _) _ _ 1 1 _ rfl (Sl.fresh _ _ _ _ 1 rfl) (by simp [Value.oneCell']) 65 (by omega) ((fr ++ [0#8]).map bv8) (by rw [List.map_append]; rfl) (by omega) (by omega) (by have := b7.size; simp; omega) ?_); intro A8 c8 w8 o8 g8 _))
  have b8 : Below w.heap.size w w8 := below_own (b7.alloc b7.size _) (o7.alloc _) g8 (Nat.le_refl _) (by have := b7.size; simp; omega)
  obtain ⟨hc81, hc82⟩ := own_cap o8
  refine (take_any _ A8 _ 65 c8 _ (Sl.own o8) (Nat.le_refl _) (by omega) hc81 hc82).mono ?_
  rintro e w9 ⟨v9, rfl, _, hb9⟩
  rw [T3.out, ek]
  have b9 := b8.trans (hb9.mono b8.size)
  go_wp2_with fail
  refine (wakes16 _).mono ?_
  rintro e w10 ⟨rfl, hb10⟩
  go_wp2
  go_ret
  exact ⟨rfl, b9.trans (hb10.mono b9.size)⟩
end Go.Proofs.Ythplfhjdlbhmlaa
