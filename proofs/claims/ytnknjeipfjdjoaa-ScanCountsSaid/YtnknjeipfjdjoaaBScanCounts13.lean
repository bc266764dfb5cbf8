/- Rising Params Ord -/
import Derived.Test.YtnknjeipfjdjoaaBScanCounts01
import Derived.Test.YtnknjeipfjdjoaaBScanCounts05
import Derived.Test.YtnknjeipfjdjoaaBScanCounts12
set_option maxRecDepth 20000
namespace Wells
open Go Go.RowKit
def StrictUp (l : List Int) : Prop := ∀ a b, a < b → b < l.length → l.getD a 0 < l.getD b 0
theorem getD_app (l : List Int) (x : Int) (a : Nat) : (l ++ [x]).getD a 0 = if a < l.length then l.getD a 0 else if a = l.length then x else 0 := by
  simp only [List.getD_eq_getElem?_getD, List.getElem?_append]
  split
  · rfl
  · split
    · rename_i h; subst h; simp
    · rename_i h1 h2
      rw [List.getElem?_eq_none (by simp; omega)]; rfl
theorem StrictUp.push {l : List Int} {x : Int} (h : StrictUp l) (hx : ∀ z ∈ l, z < x) : StrictUp (l ++ [x]) := by
  intro a b hab hb
  simp only [List.length_append, List.length_singleton] at hb
  rw [getD_app, getD_app, if_pos (by omega)]
  have hm : ∀ i, i < l.length → l.getD i 0 ∈ l := fun i hi => by rw [List.getD_eq_getElem?_getD, List.getElem?_eq_getElem hi]; exact List.getElem_mem _
  by_cases hbl : b < l.length
  · rw [if_pos hbl]; exact h a b hab hbl
  · rw [if_neg hbl, if_pos (by omega)]
    exact hx _ (hm a (by omega))
theorem StrictUp.below {l : List Int} (h : StrictUp l) {x : Int} (hle : ∀ z ∈ l, z ≤ x) (hl : l = [] ∨ l.getD (l.length - 1) 0 ≠ x) : ∀ z ∈ l, z < x := fun z hz => by
  obtain ⟨j, hj, rfl⟩ := List.getElem_of_mem hz
  have hm : ∀ i, i < l.length → l.getD i 0 ∈ l := fun i hi => by rw [List.getD_eq_getElem?_getD, List.getElem?_eq_getElem hi]; exact List.getElem_mem _
  have hg : l[j] = l.getD j 0 := by rw [List.getD_eq_getElem?_getD, List.getElem?_eq_getElem hj]; rfl
  rw [hg]
  rcases hl with h0 | h0
  · subst h0; cases hj
  · have h1 := hle _ (hm (l.length - 1) (by omega))
    by_cases he : j = l.length - 1
    · subst he; omega
    · have := h j (l.length - 1) (by omega) (by omega)
      omega
theorem StrictUp.rise {l : List Int} (h : StrictUp l) {most : Int} (hb : ∀ z ∈ l, 0 ≤ z ∧ z ≤ most) : riseB l most = true := by
  refine all_range_true fun k hk => ?_
  have hm : ∀ i, i < l.length → l.getD i 0 ∈ l := fun i hi => by rw [List.getD_eq_getElem?_getD, List.getElem?_eq_getElem hi]; exact List.getElem_mem _
  unfold riseStep
  rw [Bool.and_eq_true]
  refine ⟨decide_eq_true (hb _ (hm k hk)), ?_⟩
  by_cases h0 : k = 0
  · simp [h0]
  · simp [h0]
    exact h (k - 1) k (by omega) hk
end Wells
namespace Go.Proofs.Ytnknjeipfjdjoaa
open Go.RowKit Wells
set_option maxRecDepth 20000 in
set_option maxHeartbeats 4000000 in
theorem rising_any (B : Nat) (A : Option Addr) (l : List Int) (n c : Nat) (w : World) (h : Sl w B 1 A n (l.map iv)) (hB : B ≤ w.heap.size) (hn : n ≤ 1048576) :
    Calls Try.prog 27 #[.slice A n c] w fun e w' => ∃ A' n' c' l', e = .returned (.slice A' n' c') ∧ w'.ownsRow w.heap.size 3 1 (.slice A' n' c') n' (l'.map iv) ∧ n' ≤ n ∧ StrictUp l' ∧ (∀ z ∈ l', z ∈ l) ∧ Below w.heap.size w w' := by
  obtain ⟨i0, hi, hz0, hz1, hz2⟩ := info_parts infoI4
  go_enter Try.func27, Try.ntmps27
  go_wp2_with fail
  refine (sorted_any B A l n c w h hB hn).mono ?_
  rintro e w1 ⟨A1, c1, s, rfl, ho1, hu, hm, hb1⟩
  have hsl := Sl.own ho1
  have hsn : s.length = n := by have := hsl.len; simpa using this
  have HU := hid hu
  have HM := hid hm
  have HSN := hid hsn
  have hz1w := hb1.size
  clear hu hm hsn
  go_wp2_with fail
  go_loopw [3, 9] (fun v i wr => ∃ (k m : Nat) (A2 : Option Addr) (c2 : Nat) (r : List Int), k ≤ n ∧ i = .int .i64 (k : Int) ∧ v = .slice A2 m c2 ∧ m ≤ k ∧ wr.ownsRow w1.heap.size 3 1 (.slice A2 m c2) m (r.map iv) ∧ StrictUp r ∧ (∀ z ∈ r, ∃ j, j < k ∧ s.getD j 0 = z) ∧ Below w1.heap.size w1 wr) (fun _ i _ => n - (intOf i).toNat)
  case atStart => exact ⟨0, 0, none, 0, [], Nat.zero_le _, rfl, rfl, Nat.le_refl _, World.ownsRow_nil _ _ _ _, (fun a b _ hb => by simp at hb), (fun z hz => by cases hz), Below.refl _ _⟩
  case round =>
    obtain ⟨k, m, A2, c2, r, hk, rfl, rfl, hmk, ho, hst, hmem, hb⟩ := hrel
    have hrl : r.length = m := by have := ho.1; simpa using this
    have HRL := hid hrl
    have HST := hid hst
    have HMEM := hid hmem
    have HO := hid ho
    have hzr := hb.size
    clear hrl hst hmem
    by_cases hlt : k < n
    · obtain ⟨b, o, rfl, hbb, hce⟩ := (hsl.below hb).get hlt (ivs_get s k (by rw [HSN.out]; exact hlt))
      obtain ⟨x, hx⟩ : ∃ x, s.getD k 0 = x := ⟨_, rfl⟩
      rw [hx] at hce
      have HX := hid hx
      have hle : ∀ z ∈ r, z ≤ x := fun z hz => by
        obtain ⟨j, hj, rfl⟩ := HMEM.out z hz
        rw [← HX.out]
        exact HU.out j k hj hlt
      have HLE := hid hle
      clear hx hle
      have hpush : (r = [] ∨ r.getD (r.length - 1) 0 ≠ x) → StrictUp (r ++ [x]) ∧ (∀ z ∈ r ++ [x], ∃ j, j < k + 1 ∧ s.getD j 0 = z) := fun hh => by
        refine ⟨HST.out.push (HST.out.below HLE.out hh), fun z hz => ?_⟩
        rcases List.mem_append.1 hz with h1 | h1
        · obtain ⟨j, hj, e⟩ := HMEM.out z h1
          exact ⟨j, by omega, e⟩
        · rw [List.mem_singleton.1 h1]
          exact ⟨k, by omega, HX.out⟩
      have HP := hid hpush
      clear hpush
      by_cases hm0 : m = 0
      · subst hm0
        have hp := HP.out (.inl (List.eq_nil_of_length_eq_zero HRL.out))
        have HP2 := hid hp
        clear hp
        go_wp2_with (at_builtin; go_must (refine wpl_append rfl (.tmp 26) (.tmp 28) 24 rfl w1.heap.size 3 i0 (.int .i64 0) 1 8 Try.underlying24 hi hz0 hz1 hz2 rfl (by omega) (.slice A2 0 c2) 0 (r.map iv) rfl (ho.alloc _) _ _ 1 1 _ rfl (Sl.fresh _ _ _ _ 1 rfl) (by simp [Value.oneCell']) 1 rfl ((r ++ [x]).map iv) (by simp [iv]) (by omega) (by omega) (by simp; omega) ?_); intro A3 c3 w3 o3 g3 _)
        have hb3 := below_own (hb.alloc hb.size (.cells #[.int .i64 x] 3)) (ho.alloc _) g3 (Nat.le_refl _) (by simp; omega)
        have HB3 := hid hb3
        clear hb3 g3
        go_roundw
        case rel => exact ⟨k + 1, 1, A3, c3, r ++ [x], by omega, by go_num, rfl, by omega, o3, HP2.out.1, HP2.out.2, HB3.out⟩
        case measure => simp [intOf]; omega
      · obtain ⟨p, rfl⟩ : ∃ p, m = p + 1 := ⟨m - 1, by omega⟩
        obtain ⟨bb, oo, hA2, _, hcl⟩ := (Sl.own ho).get (k := p) (by omega) (ivs_get r p (by rw [HRL.out]; omega))
        obtain ⟨y, hy⟩ : ∃ y, r.getD p 0 = y := ⟨_, rfl⟩
        rw [hy] at hcl
        have HY := hid hy
        subst hA2
        clear hy
        by_cases hyx : y = x
        · subst hyx
          have hmem2 : ∀ z ∈ r, ∃ j, j < k + 1 ∧ s.getD j 0 = z := fun z hz => by
            obtain ⟨j, hj, e⟩ := HMEM.out z hz
            exact ⟨j, by omega, e⟩
          have HM2 := hid hmem2
          clear hmem2
          go_wp2_with fail
          go_roundw
          case rel => exact ⟨k + 1, p + 1, _, c2, r, by omega, by go_num, rfl, by omega, HO.out, HST.out, HM2.out, hb⟩
          case measure => simp [intOf]; omega
        · have hp := HP.out (.inr (by rw [HRL.out, Nat.add_sub_cancel, HY.out]; exact hyx))
          have HP2 := hid hp
          have hne : (y != x) = true := by simp [hyx]
          clear hp
          go_wp2_with (at_builtin; go_must (refine wpl_append rfl (.tmp 26) (.tmp 28) 24 rfl w1.heap.size 3 i0 (.int .i64 0) 1 8 Try.underlying24 hi hz0 hz1 hz2 rfl (by omega) (.slice (some ⟨bb, oo, none⟩) (p + 1) c2) (p + 1) (r.map iv) rfl (ho.alloc _) _ _ 1 1 _ rfl (Sl.fresh _ _ _ _ 1 rfl) (by simp [Value.oneCell']) (p + 2) rfl ((r ++ [x]).map iv) (by simp [iv]) (by omega) (by omega) (by simp; omega) ?_); intro A3 c3 w3 o3 g3 _)
          have hb3 := below_own (hb.alloc hb.size (.cells #[.int .i64 x] 3)) (ho.alloc _) g3 (Nat.le_refl _) (by simp; omega)
          have HB3 := hid hb3
          clear hb3 g3
          go_roundw
          case rel => exact ⟨k + 1, p + 2, A3, c3, r ++ [x], by omega, by go_num, rfl, by omega, o3, HP2.out.1, HP2.out.2, HB3.out⟩
          case measure => simp [intOf]; omega
    · obtain rfl : k = n := by omega
      have hmem2 : ∀ z ∈ r, z ∈ l := fun z hz => by
        obtain ⟨j, hj, rfl⟩ := HMEM.out z hz
        refine HM.out _ ?_
        rw [List.getD_eq_getElem?_getD, List.getElem?_eq_getElem (by rw [HSN.out]; exact hj)]
        exact List.getElem_mem _
      have HM2 := hid hmem2
      clear hmem2
      go_wp2_with fail
      go_ret
      exact ⟨A2, m, c2, r, rfl, own_base HO.out hz1w, hmk, HST.out, HM2.out, hb1.trans (hb.mono hz1w)⟩
end Go.Proofs.Ytnknjeipfjdjoaa

namespace Wells
open Go Go.RowKit
def parOf (a b c : Int) : Par := ⟨1 + a % 16, 1 + b % 4, 1 + c % 24⟩
def smallOf (a b c : Int) : Par := ⟨1 + a % 6, 1 + b % 3, 1 + c % 9⟩
theorem parOf_ok (a b c : Int) : (parOf a b c).Ok := by unfold parOf Par.Ok; dsimp only; omega
theorem smallOf_ok (a b c : Int) : (smallOf a b c).Ok := by unfold smallOf Par.Ok; dsimp only; omega
end Wells
namespace Go.Proofs.Ytnknjeipfjdjoaa
open Go.RowKit Wells
theorem small_any (p : Par) (a b c : Int) (w : World) (ha : -9223372036854775808 ≤ a ∧ a ≤ 9223372036854775807) (hb : -9223372036854775808 ≤ b ∧ b ≤ 9223372036854775807) (hc : -9223372036854775808 ≤ c ∧ c ≤ 9223372036854775807) (hp : smallOf a b c = p) :
    Calls Try.prog 26 #[.int .i64 a, .int .i64 b, .int .i64 c] w fun e w' => e = .returned (.agg #[.int .i64 p.K, .int .i64 p.H, .int .i64 p.S]) ∧ Below w.heap.size w w' := by
  subst hp
  obtain ⟨x, hx⟩ : ∃ x, a % 6 = x := ⟨_, rfl⟩
  obtain ⟨y, hy⟩ : ∃ y, b % 3 = y := ⟨_, rfl⟩
  obtain ⟨z, hz⟩ : ∃ z, c % 9 = z := ⟨_, rfl⟩
  have h1 : 0 ≤ x ∧ x ≤ 5 := by omega
  have h2 : 0 ≤ y ∧ y ≤ 2 := by omega
  have h3 : 0 ≤ z ∧ z ≤ 8 := by omega
  obtain ⟨h1, h1'⟩ := h1
  obtain ⟨h2, h2'⟩ := h2
  obtain ⟨h3, h3'⟩ := h3
  have HX := hid hx
  have HY := hid hy
  have HZ := hid hz
  clear hx hy hz
  go_enter Try.func26, Try.ntmps26
  go_wp2_with fail
  refine (within_any a 6 _ ha.1 ha.2 (by omega) (by omega)).mono ?_
  rintro e w1 ⟨rfl, rfl⟩
  rw [HX.out]
  go_wp2_with fail
  refine (within_any b 3 _ hb.1 hb.2 (by omega) (by omega)).mono ?_
  rintro e w1 ⟨rfl, rfl⟩
  rw [HY.out]
  go_wp2_with fail
  refine (within_any c 9 _ hc.1 hc.2 (by omega) (by omega)).mono ?_
  rintro e w1 ⟨rfl, rfl⟩
  rw [HZ.out]
  go_wp2
  refine bodyPost_ret (v := .agg #[.int .i64 (1 + x), .int .i64 (1 + y), .int .i64 (1 + z)]) (by simp [results, Try.results26, go_sem]) rfl ⟨?_, (Below.refl _ _).alloc (Nat.le_refl _) _⟩
  rw [← HX.out, ← HY.out, ← HZ.out]
  rfl
end Go.Proofs.Ytnknjeipfjdjoaa

namespace Wells
open Go Go.RowKit
section
variable {P : Program} {md : Region.Mode} {ops : Array Oper} {Q : Exit → Act → World → Prop} {S : World → Prop}
/-- what is left of a region, and the order in which it is walked -/
def Ord (P : Program) (md : Region.Mode) (ops : Array Oper) (Q : Exit → Act → World → Prop) (S : World → Prop) (_order : List Nat) (fuel : Nat) (listed : Array Bool) (a : Act) (w : World) : Prop := wpAnyH P md ops Q S fuel listed a w
theorem Ord.begin {id : Nat} {a : Act} {w : World} (order : List Nat) (hm : P.follows .mixedOrders = true) (hS : S w.drew)
    (h : S w.drew → Ord P .any ops Q S order ops.size (Array.replicate ops.size false) a w.drew) : (Code.region id ops true).wp P Q a w := wp_region_held_drew hm hS h
theorem Ord.no {i fuel : Nat} {order : List Nat} {listed : Array Bool} {a : Act} {w : World} {oi : Oper} (hi : ops.toList[i]? = some oi)
    (hs : Region.noSelect ops = true) (hf : Region.free md ops listed i = true) (hr : (Region.ready md ops listed).contains i = true)
    (hQ : ∀ c a w, Q (.panic c) (a.put oi.dst undef) w → Q (.panic c) a w) (hw : Region.wanted oi (yielded ops a.tmps) = false) (hS : S w)
    (h : Ord P md ops Q S order fuel (listed.setIfInBounds i true) (a.put oi.dst undef) w) : Ord P md ops Q S (i :: order) (fuel + 1) listed a w :=
  wpAnyH_take (by simpa using hi) hs hf hr hQ (Or.inr ⟨hw, rfl⟩) hS h
theorem Ord.yes {i fuel : Nat} {order : List Nat} {listed : Array Bool} {a : Act} {w : World} {oi : Oper} {v : Value} (hi : ops.toList[i]? = some oi)
    (hs : Region.noSelect ops = true) (hf : Region.free md ops listed i = true) (hr : (Region.ready md ops listed).contains i = true)
    (hQ : ∀ c a w, Q (.panic c) (a.put oi.dst v) w → Q (.panic c) a w) (hw : Region.wanted oi (yielded ops a.tmps) = true) (hS : S w) (hy : ∀ w, S w → (execOp a.eval oi).run P w = .ok (.value v) w)
    (h : Ord P md ops Q S order fuel (listed.setIfInBounds i true) (a.put oi.dst v) w) : Ord P md ops Q S (i :: order) (fuel + 1) listed a w :=
  wpAnyH_take (by simpa using hi) hs hf hr hQ (Or.inl ⟨hw, hy⟩) hS h
theorem Ord.go {i fuel : Nat} {order : List Nat} {listed : Array Bool} {a : Act} {w : World} {oi : Oper} (hi : ops.toList[i]? = some oi) (hr : Region.ready md ops listed = [i]) (hw : Region.wanted oi (yielded ops a.tmps) = true)
    (h : ∀ K' : Act → World → Prop, Shut (∀ a w, S w → (S w → Ord P md ops Q S order fuel (listed.setIfInBounds i true) a w) → K' a w) → Oper.wp P oi a w K' Q) : Ord P md ops Q S (i :: order) (fuel + 1) listed a w :=
  wpAnyH_ready hr (by simp) (AllReadyH.cons (by simpa using hi) (fun K' hK => by rw [if_pos hw]; exact h K' hK) AllReadyH.nil)
theorem Ord.done {fuel : Nat} {listed : Array Bool} {a : Act} {w : World} (hr : Region.ready md ops listed = []) (h : Q .normal a w) : Ord P md ops Q S [] fuel listed a w := wpAnyH_done hr h fuel
end
end Wells

