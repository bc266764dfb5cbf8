/- Rising PlayMath -/
import Derived.Lib.Bytes
import Derived.Test.YtlfmfhdgnmchgaaGreatBRoomTells02
import Derived.Test.YtlfmfhdgnmchgaaGreatBRoomTells15
import Derived.Test.YtlfmfhdgnmchgaaGreatBRoomTells19
set_option maxRecDepth 20000
set_option linter.unusedSimpArgs false
set_option linter.unusedVariables false
namespace Wells
open Go Go.RowKit
def StrictUp (l : List Int) : Prop := ∀ a b, a < b → b < l.length → l.getD a 0 < l.getD b 0
theorem getD_app (l : List Int) (x : Int) (a : Nat) : (l ++ [x]).getD a 0 = if a < l.length then l.getD a 0 else if a = l.length then x else 0 := by
  simp only [List.getD_eq_getElem?_getD, List.getElem?_append]
  split
  · rfl
  · split
    · rename_i h; subst h; simp
    · rename_i h1 h2
      rw [List.getElem?_eq_none (by simp; omega)]; rfl
theorem StrictUp.push {l : List Int} {x : Int} (h : StrictUp l) (hx : ∀ z ∈ l, z < x) : StrictUp (l ++ [x]) := by
  intro a b hab hb
  simp only [List.length_append, List.length_singleton] at hb
  rw [getD_app, getD_app, if_pos (by omega)]
  have hm : ∀ i, i < l.length → l.getD i 0 ∈ l := fun i hi => by rw [List.getD_eq_getElem?_getD, List.getElem?_eq_getElem hi]; exact List.getElem_mem _
  by_cases hbl : b < l.length
  · rw [if_pos hbl]; exact h a b hab hbl
  · rw [if_neg hbl, if_pos (by omega)]
    exact hx _ (hm a (by omega))
theorem StrictUp.below {l : List Int} (h : StrictUp l) {x : Int} (hle : ∀ z ∈ l, z ≤ x) (hl : l = [] ∨ l.getD (l.length - 1) 0 ≠ x) : ∀ z ∈ l, z < x := fun z hz => by
  obtain ⟨j, hj, rfl⟩ := List.getElem_of_mem hz
  have hm : ∀ i, i < l.length → l.getD i 0 ∈ l := fun i hi => by rw [List.getD_eq_getElem?_getD, List.getElem?_eq_getElem hi]; exact List.getElem_mem _
  have hg : l[j] = l.getD j 0 := by rw [List.getD_eq_getElem?_getD, List.getElem?_eq_getElem hj]; rfl
  rw [hg]
  rcases hl with h0 | h0
  · subst h0; cases hj
  · have h1 := hle _ (hm (l.length - 1) (by omega))
    by_cases he : j = l.length - 1
    · subst he; omega
    · have := h j (l.length - 1) (by omega) (by omega)
      omega
theorem StrictUp.rise {l : List Int} (h : StrictUp l) {most : Int} (hb : ∀ z ∈ l, 0 ≤ z ∧ z ≤ most) : riseB l most = true := by
  refine all_range_true fun k hk => ?_
  have hm : ∀ i, i < l.length → l.getD i 0 ∈ l := fun i hi => by rw [List.getD_eq_getElem?_getD, List.getElem?_eq_getElem hi]; exact List.getElem_mem _
  unfold riseStep
  rw [Bool.and_eq_true]
  refine ⟨decide_eq_true (hb _ (hm k hk)), ?_⟩
  by_cases h0 : k = 0
  · simp [h0]
  · simp [h0]
    exact h (k - 1) k (by omega) hk
end Wells
namespace Go.Proofs.YtlfmfhdgnmchgaaGreat
open Go.RowKit Wells
set_option maxRecDepth 20000 in
set_option maxHeartbeats 4000000 in
theorem rising_any (B : Nat) (A : Option Addr) (l : List Int) (n c : Nat) (w : World) (h : Sl w B 1 A n (l.map iv)) (hB : B ≤ w.heap.size) (hn : n ≤ 1048576) :
    Calls Tryz.prog 35 #[.slice A n c] w fun e w' => ∃ A' n' c' l', e = .returned (.slice A' n' c') ∧ w'.ownsRow w.heap.size 3 1 (.slice A' n' c') n' (l'.map iv) ∧ n' ≤ n ∧ StrictUp l' ∧ (∀ z ∈ l', z ∈ l) ∧ Below w.heap.size w w' := by
  obtain ⟨i0, hi, hz0, hz1, hz2⟩ := info_parts infoI4
  go_enter Tryz.func35, Tryz.ntmps35
  go_wp2_with fail
  refine (sorted_any B A l n c w h hB hn).mono ?_
  rintro e w1 ⟨A1, c1, s, rfl, ho1, hu, hm, hb1⟩
  have hsl := Sl.own ho1
  have hsn : s.length = n := by have := hsl.len; simpa using this
  have HU := hid hu
  have HM := hid hm
  have HSN := hid hsn
  have hz1w := hb1.size
  clear hu hm hsn
  go_wp2_with fail
  go_loopw [3, 9] (fun v i wr => ∃ (k m : Nat) (A2 : Option Addr) (c2 : Nat) (r : List Int), k ≤ n ∧ i = .int .i64 (k : Int) ∧ v = .slice A2 m c2 ∧ m ≤ k ∧ wr.ownsRow w1.heap.size 3 1 (.slice A2 m c2) m (r.map iv) ∧ StrictUp r ∧ (∀ z ∈ r, ∃ j, j < k ∧ s.getD j 0 = z) ∧ Below w1.heap.size w1 wr) (fun _ i _ => n - (intOf i).toNat)
  case atStart => exact ⟨0, 0, none, 0, [], Nat.zero_le _, rfl, rfl, Nat.le_refl _, World.ownsRow_nil _ _ _ _, (fun a b _ hb => by simp at hb), (fun z hz => by cases hz), Below.refl _ _⟩
  case round =>
    obtain ⟨k, m, A2, c2, r, hk, rfl, rfl, hmk, ho, hst, hmem, hb⟩ := hrel
    have hrl : r.length = m := by have := ho.1; simpa using this
    have HRL := hid hrl
    have HST := hid hst
    have HMEM := hid hmem
    have HO := hid ho
    have hzr := hb.size
    clear hrl hst hmem
    by_cases hlt : k < n
    · obtain ⟨b, o, rfl, hbb, hce⟩ := (hsl.below hb).get hlt (ivs_get s k (by rw [HSN.out]; exact hlt))
      obtain ⟨x, hx⟩ : ∃ x, s.getD k 0 = x := ⟨_, rfl⟩
      rw [hx] at hce
      have HX := hid hx
      have hle : ∀ z ∈ r, z ≤ x := fun z hz => by
        obtain ⟨j, hj, rfl⟩ := HMEM.out z hz
        rw [← HX.out]
        exact HU.out j k hj hlt
      have HLE := hid hle
      clear hx hle
      have hpush : (r = [] ∨ r.getD (r.length - 1) 0 ≠ x) → StrictUp (r ++ [x]) ∧ (∀ z ∈ r ++ [x], ∃ j, j < k + 1 ∧ s.getD j 0 = z) := fun hh => by
        refine ⟨HST.out.push (HST.out.below HLE.out hh), fun z hz => ?_⟩
        rcases List.mem_append.1 hz with h1 | h1
        · obtain ⟨j, hj, e⟩ := HMEM.out z h1
          exact ⟨j, by omega, e⟩
        · rw [List.mem_singleton.1 h1]
          exact ⟨k, by omega, HX.out⟩
      have HP := hid hpush
      clear hpush
      by_cases hm0 : m = 0
      · subst hm0
        have hp := HP.out (.inl (List.eq_nil_of_length_eq_zero HRL.out))
        have HP2 := hid hp
        clear hp
        go_wp2_with (at_builtin; go_must (refine wpl_append rfl (.tmp 26) (.tmp 28) 22 rfl w1.heap.size 3 i0 (.int .i64 0) 1 8 Tryz.underlying22 hi hz0 hz1 hz2 rfl (by omega) (.slice A2 0 c2) 0 (r.map iv) rfl (ho.alloc _) _ _ 1 1 _ rfl (Sl.fresh _ _ _ _ 1 rfl) (by simp [Value.oneCell']) 1 rfl ((r ++ [x]).map iv) (by simp [iv]) (by omega) (by omega) (by simp; omega) ?_); intro A3 c3 w3 o3 g3 _)
        have hb3 := below_own (hb.alloc hb.size (.cells #[.int .i64 x] 3)) (ho.alloc _) g3 (Nat.le_refl _) (by simp; omega)
        have HB3 := hid hb3
        clear hb3 g3
        go_roundw
        case rel => exact ⟨k + 1, 1, A3, c3, r ++ [x], by omega, by go_num, rfl, by omega, o3, HP2.out.1, HP2.out.2, HB3.out⟩
        case measure => simp [intOf]; omega
      · obtain ⟨p, rfl⟩ : ∃ p, m = p + 1 := ⟨m - 1, by omega⟩
        obtain ⟨bb, oo, hA2, _, hcl⟩ := (Sl.own ho).get (k := p) (by omega) (ivs_get r p (by rw [HRL.out]; omega))
        obtain ⟨y, hy⟩ : ∃ y, r.getD p 0 = y := ⟨_, rfl⟩
        rw [hy] at hcl
        have HY := hid hy
        subst hA2
        clear hy
        by_cases hyx : y = x
        · subst hyx
          have hmem2 : ∀ z ∈ r, ∃ j, j < k + 1 ∧ s.getD j 0 = z := fun z hz => by
            obtain ⟨j, hj, e⟩ := HMEM.out z hz
            exact ⟨j, by omega, e⟩
          have HM2 := hid hmem2
          clear hmem2
          go_wp2_with fail
          go_roundw
          case rel => exact ⟨k + 1, p + 1, _, c2, r, by omega, by go_num, rfl, by omega, HO.out, HST.out, HM2.out, hb⟩
          case measure => simp [intOf]; omega
        · have hp := HP.out (.inr (by rw [HRL.out, Nat.add_sub_cancel, HY.out]; exact hyx))
          have HP2 := hid hp
          have hne : (y != x) = true := by simp [hyx]
          clear hp
          go_wp2_with (at_builtin; go_must (refine wpl_append rfl (.tmp 26) (.tmp 28) 22 rfl w1.heap.size 3 i0 (.int .i64 0) 1 8 Tryz.underlying22 hi hz0 hz1 hz2 rfl (by omega) (.slice (some ⟨bb, oo, none⟩) (p + 1) c2) (p + 1) (r.map iv) rfl (ho.alloc _) _ _ 1 1 _ rfl (Sl.fresh _ _ _ _ 1 rfl) (by simp [Value.oneCell']) (p + 2) rfl ((r ++ [x]).map iv) (by simp [iv]) (by omega) (by omega) (by simp; omega) ?_); intro A3 c3 w3 o3 g3 _)
          have hb3 := below_own (hb.alloc hb.size (.cells #[.int .i64 x] 3)) (ho.alloc _) g3 (Nat.le_refl _) (by simp; omega)
          have HB3 := hid hb3
          clear hb3 g3
          go_roundw
          case rel => exact ⟨k + 1, p + 2, A3, c3, r ++ [x], by omega, by go_num, rfl, by omega, o3, HP2.out.1, HP2.out.2, HB3.out⟩
          case measure => simp [intOf]; omega
    · obtain rfl : k = n := by omega
      have hmem2 : ∀ z ∈ r, z ∈ l := fun z hz => by
        obtain ⟨j, hj, rfl⟩ := HMEM.out z hz
        refine HM.out _ ?_
        rw [List.getD_eq_getElem?_getD, List.getElem?_eq_getElem (by rw [HSN.out]; exact hj)]
        exact List.getElem_mem _
      have HM2 := hid hmem2
      clear hmem2
      go_wp2_with fail
      go_ret
      exact ⟨A2, m, c2, r, rfl, own_base HO.out hz1w, hmk, HST.out, HM2.out, hb1.trans (hb.mono hz1w)⟩
end Go.Proofs.YtlfmfhdgnmchgaaGreat

namespace Wells
open Go Go.RowKit
structure PEnt (P : Par) (i : Nat) (e : Ent) : Prop where
  name : ∃ x : Nat, x < 26 ∧ e.name = [BitVec.ofNat 8 (97 + 2 * i), BitVec.ofNat 8 (97 + x)]
  obj : 3 * (i : Int) ≤ e.obj ∧ e.obj ≤ 3 * (i : Int) + 2
  len : 0 ≤ e.len ∧ e.len ≤ P.K * P.S * 4
  tries : ∀ z ∈ e.tries, 0 ≤ z ∧ z ≤ 15
  count : (e.tries.length : Int) = countP P e.len
structure PlayM (m : Mani) : Prop where
  seq : 1 ≤ m.seq ∧ m.seq ≤ 1000
  next : 20 ≤ m.next ∧ m.next ≤ 119
  P : 1 ≤ m.P.K ∧ m.P.K ≤ 6 ∧ 1 ≤ m.P.H ∧ m.P.H ≤ 3 ∧ 1 ≤ m.P.S ∧ m.P.S ≤ 9
  extra : 0 ≤ m.extra ∧ m.extra ≤ 16
  dlen : m.drives.length ≤ 8
  drives : StrictUp m.drives
  drv : ∀ z ∈ m.drives, 0 ≤ z ∧ z ≤ 56
  olen : m.objs.length ≤ 5
  objs : ∀ i, i < m.objs.length → PEnt m.P i (m.objs.getD i default)
theorem less_first {a b : UInt8} {x y : List UInt8} (h : a < b) : Op.bytesLess (a :: x) (b :: y) = true := by
  simp [Op.bytesLess, h]
theorem strB_toList (l : List Byte) : (strB l).toList = l.map UInt8.ofBitVec := by
  rw [ByteArray.toList_eq]
  unfold strB
  simp
theorem PEnt.less {P : Par} {i : Nat} {e f : Ent} (he : PEnt P i e) (hf : PEnt P (i + 1) f) (hi : i ≤ 10) : lessS e.name f.name = true := by
  obtain ⟨x, _, hx⟩ := he.name
  obtain ⟨y, _, hy⟩ := hf.name
  unfold lessS
  rw [hx, hy, strB_toList, strB_toList]
  simp only [List.map_cons]
  apply less_first
  rw [UInt8.lt_iff_toNat_lt]
  show (BitVec.ofNat 8 (97 + 2 * i)).toNat < (BitVec.ofNat 8 (97 + 2 * (i + 1))).toNat
  rw [BitVec.toNat_ofNat, BitVec.toNat_ofNat]
  omega
theorem PEnt.nameOk {P : Par} {i : Nat} {e : Ent} (he : PEnt P i e) (hi : i ≤ 10) : nameOk e.name = true := by
  obtain ⟨x, hx0, hx⟩ := he.name
  rw [hx]
  unfold Wells.nameOk
  rw [Bool.and_eq_true]
  refine ⟨?_, by simp⟩
  simp only [List.all_cons, List.all_nil, Bool.and_true, Bool.and_eq_true]
  refine ⟨?_, ?_⟩ <;> (unfold nameC; rw [BitVec.toNat_ofNat]; refine decide_eq_true ?_; omega)
theorem PlayM.parOk {m : Mani} (h : PlayM m) : m.P.Ok := by
  obtain ⟨h1, h2, h3, h4, h5, h6⟩ := h.P
  unfold Par.Ok
  omega
theorem PlayM.may {m : Mani} (h : PlayM m) : m.may = true := by
  have hP := Par.ok_may h.parOk
  have h1 := h.seq; have h2 := h.next; have h3 := h.extra; have h4 := h.olen
  refine p_may ⟨by omega, by omega, hP, h3, h.drives.rise (fun z hz => by have := h.drv z hz; omega), by omega, fun i hi => ?_⟩
  have hs := Par.size_le h.parOk
  unfold Par.size at hs
  have he := h.objs i hi
  obtain ⟨q, hq⟩ : ∃ q, m.P.K * m.P.S = q := ⟨_, rfl⟩
  have hE : entB m (m.objs.getD i default) = true := by
    unfold entB
    rw [he.nameOk (by omega), Bool.true_and]
    have ho := he.obj; have hl := he.len
    rw [hq] at hl hs
    rw [hq, decide_eq_true (by omega), decide_eq_true (by omega), Bool.true_and, Bool.true_and, Bool.and_eq_true]
    refine ⟨?_, decide_eq_true he.count⟩
    unfold triesOk
    rw [List.all_eq_true]
    intro z hz
    exact decide_eq_true (he.tries z hz)
  unfold objStep entAt
  rw [hE, Bool.true_and, Bool.and_eq_true]
  refine ⟨?_, ?_⟩
  · by_cases h0 : i = 0
    · simp [h0]
    · obtain ⟨k, rfl⟩ : ∃ k, i = k + 1 := ⟨i - 1, by omega⟩
      rw [Nat.add_sub_cancel, (h.objs k (by omega)).less he (by omega), Bool.or_true]
  · rw [List.all_eq_true]
    intro y hy
    obtain ⟨j, hj, rfl⟩ := List.getElem_of_mem hy
    have hji : j < i := by have := hj; rw [List.length_take] at this; omega
    have hpj := (h.objs j (by omega)).obj
    rw [List.getD_eq_getElem?_getD, List.getElem?_eq_getElem (by omega)] at hpj
    simp only [Option.getD_some] at hpj
    rw [List.getElem_take]
    have hoi := he.obj
    simp only [Bool.not_eq_true', decide_eq_false_iff_not]
    intro e
    rw [e] at hpj
    omega
theorem PlayM.m64 {m : Mani} (h : PlayM m) : M64 m ∧ ∀ e ∈ m.objs, e.name.length ≤ 1048576 := by
  have h1 := h.seq; have h2 := h.next; have h3 := h.extra
  obtain ⟨k1, k2, k3, k4, k5, k6⟩ := h.P
  have hs := Par.size_le h.parOk
  unfold Par.size at hs
  obtain ⟨q, hq⟩ : ∃ q, m.P.K * m.P.S = q := ⟨_, rfl⟩
  rw [hq] at hs
  have hob : ∀ e ∈ m.objs, ∃ i, i < m.objs.length ∧ PEnt m.P i e := fun e he => by
    obtain ⟨i, hi, rfl⟩ := List.getElem_of_mem he
    have := h.objs i hi
    rw [List.getD_eq_getElem?_getD, List.getElem?_eq_getElem hi] at this
    exact ⟨i, hi, this⟩
  refine ⟨⟨by unfold i64; omega, by unfold i64; omega, by unfold i64; omega, by unfold i64; omega, by unfold i64; omega, by unfold i64; omega, fun z hz => ?_, fun e he => ?_⟩, fun e he => ?_⟩
  · have := h.drv z hz; unfold i64; omega
  · obtain ⟨i, hi, hp⟩ := hob e he
    have ho := hp.obj; have hl := hp.len; have h4 := h.olen
    rw [hq] at hl
    refine ⟨by unfold i64; omega, by unfold i64; omega, fun z hz => ?_⟩
    have := hp.tries z hz; unfold i64; omega
  · obtain ⟨i, hi, hp⟩ := hob e he
    obtain ⟨x, _, hx⟩ := hp.name
    rw [hx]
    simp
end Wells

