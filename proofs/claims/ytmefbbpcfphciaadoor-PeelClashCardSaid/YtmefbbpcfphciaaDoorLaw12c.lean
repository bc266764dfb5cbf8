/- PeelClash: the walk. -/
import Derived.Test.YtmefbbpcfphciaaDoorWakes12
import Derived.Test.YtmefbbpcfphciaaDoorPeelUse
import Derived.Test.YtmefbbpcfphciaaDoorFrame
import Derived.Test.YtmefbbpcfphciaaDoorOrdG
import Derived.Test.YtmefbbpcfphciaaDoorOpApp
import Derived.Test.YtmefbbpcfphciaaDoorOpMake
import Derived.Deep.DeepCutAuto
namespace Wells
open Go Go.RowKit
/-- a row for each value -/
def oneRows (vals : List (List Byte)) (k : Nat) : List Eqn := (List.range k).map fun (c : Nat) => (⟨[(c : Int)], vals.getD c []⟩ : Eqn)
theorem oneRows_len (vals : List (List Byte)) (k : Nat) : (oneRows vals k).length = k := by unfold oneRows; simp
theorem oneRows_succ (vals : List (List Byte)) (k : Nat) : oneRows vals (k + 1) = oneRows vals k ++ [⟨[(k : Int)], vals.getD k []⟩] := by unfold oneRows; rw [List.range_succ, List.map_append]; rfl
theorem oneRows_mem {vals : List (List Byte)} {k : Nat} {q : Eqn} (h : q ∈ oneRows vals k) : ∃ c, c < k ∧ q = ⟨[(c : Int)], vals.getD c []⟩ := by
  unfold oneRows at h
  obtain ⟨c, hc, rfl⟩ := List.mem_map.1 h
  exact ⟨c, List.mem_range.1 hc, rfl⟩
theorem oneRows_in {vals : List (List Byte)} {k c : Nat} (h : c < k) : (⟨[(c : Int)], vals.getD c []⟩ : Eqn) ∈ oneRows vals k := List.mem_map.2 ⟨c, List.mem_range.2 h, rfl⟩
theorem one_ok {n c : Nat} (h : c < n) : ColsOk (n : Int) [(c : Int)] := fun j hj => by
  have hj : j < 1 := hj
  obtain rfl : j = 0 := by omega
  exact ⟨by simp, by simp; omega, fun h0 => absurd h0 (by omega)⟩
theorem one_made {N : Nat} {vals : List (List Byte)} (hv : ∀ i, i < N → (vals.getD i []).length = 1) : MadeRows N 1 vals (oneRows vals N) := fun q hq => by
  obtain ⟨c, hc, rfl⟩ := oneRows_mem hq
  refine ⟨one_ok hc, ?_⟩
  show vals.getD c [] = xorL (zeroL 1) (vAt vals (c : Int))
  unfold vAt
  rw [Int.toNat_natCast, zero_xor (hv c hc)]
theorem one_byte {l : List Byte} (h : l.length = 1) : ∃ b, l = [b] := by
  match l with
  | [b] => exact ⟨b, rfl⟩
  | [] => simp at h
  | _ :: _ :: _ => simp at h
theorem clash_end {N : Nat} {vals : List (List Byte)} {q : Eqn} {y x : Byte} {T : PSt} (hv : ∀ i, i < N → (vals.getD i []).length = 1) (hN : N ≤ 64) (hok : ColsOk (N : Int) q.cols) (hd : q.data = sumV (vAt vals) q.cols (zeroL 1)) (hy : q.data = [y])
    (hr : Wells.Reach N (oneRows vals N ++ [⟨q.cols, [y ^^^ x]⟩]) T) (hf : Final (oneRows vals N ++ [⟨q.cols, [y ^^^ x]⟩]) T) : Sound (oneRows vals N ++ [⟨q.cols, [y ^^^ x]⟩]) T ↔ x = 0#8 := by
  have hR : Right N 1 (oneRows vals N ++ [⟨q.cols, [y ^^^ x]⟩]) := by
    have h1 := made_right (one_made hv) hv
    refine ⟨fun p hp => ?_, fun p hp => ?_, fun p hp => ?_⟩ <;> rcases List.mem_append.1 hp with h9 | h9
    · exact h1.rng p h9
    · obtain rfl := List.mem_singleton.1 h9; exact cols_bd hok
    · exact h1.nd p h9
    · obtain rfl := List.mem_singleton.1 h9; exact cols_nodup hok
    · exact h1.len p h9
    · obtain rfl := List.mem_singleton.1 h9; rfl
  constructor
  · intro hs
    have hall : ∀ c : Nat, c < N → T.kn (c : Int) = true ∧ T.val (c : Int) = vals.getD c [] := fun c hc => by
      have hm : (⟨[(c : Int)], vals.getD c []⟩ : Eqn) ∈ oneRows vals N ++ [⟨q.cols, [y ^^^ x]⟩] := List.mem_append_left _ (oneRows_in hc)
      have hk : T.kn (c : Int) = true := by
        cases h : T.kn (c : Int) with
        | true => rfl
        | false =>
          exfalso
          refine hf _ hm ?_
          unfold PSt.opn
          simp [h]
      refine ⟨hk, ?_⟩
      have ho : T.opn [(c : Int)] = [] := by unfold PSt.opn; simp [hk]
      have hz := hs _ hm ho
      have hrest : T.rest ⟨[(c : Int)], vals.getD c []⟩ = xorL (vals.getD c []) (T.val (c : Int)) := by
        show T.stepD (vals.getD c []) (c : Int) = _
        unfold PSt.stepD
        rw [if_pos hk]
      rw [hrest] at hz
      have fm := hr.form hR
      exact (xor_zero (by rw [hv c hc, fm.len (c : Int) (by omega) hk]) hz).symm
    have hm : (⟨q.cols, [y ^^^ x]⟩ : Eqn) ∈ oneRows vals N ++ [⟨q.cols, [y ^^^ x]⟩] := List.mem_append_right _ (List.mem_singleton.2 rfl)
    have hkq : ∀ c ∈ q.cols, T.kn c = true ∧ T.val c = vAt vals c := fun c hc => by
      obtain ⟨h0, h1⟩ := cols_bd hok c hc
      obtain ⟨c', rfl⟩ := Int.eq_ofNat_of_zero_le h0
      have := hall c' (by omega)
      unfold vAt
      rw [Int.toNat_natCast]
      exact this
    have ho : T.opn q.cols = [] := by
      unfold PSt.opn
      rw [List.filter_eq_nil_iff]
      intro c hc
      simp [(hkq c hc).1]
    have hz := hs _ hm ho
    have hrest : T.rest ⟨q.cols, [y ^^^ x]⟩ = sumV (vAt vals) q.cols [y ^^^ x] := by
      unfold PSt.rest
      rw [foldl_filter, List.filter_eq_self.2 (fun c hc => (hkq c hc).1)]
      exact foldl_congr _ _ (fun c hc => (hkq c hc).2)
    rw [hrest, show ([y ^^^ x] : List Byte) = xorL [y] [x] from rfl, sumV_pull, ← hy, hd, sumV_twice (D := 1) _ _ (fun c hc => by
      have := cols_bd hok c hc
      exact hv _ (by omega)) (by simp [zeroL])] at hz
    have := hz (0#8 ^^^ x) (by unfold xorL zeroL; simp)
    simpa using this
  · rintro rfl
    have hm : MadeRows N 1 vals (oneRows vals N ++ [⟨q.cols, [y ^^^ 0#8]⟩]) := fun p hp => by
      rcases List.mem_append.1 hp with h9 | h9
      · exact one_made hv p h9
      · obtain rfl := List.mem_singleton.1 h9
        exact ⟨hok, by rw [← hd, hy]; simp⟩
    exact made_sound (made_right hm hv) (made_made hm hv) hr
end Wells
namespace Go.Proofs.YtmefbbpcfphciaaDoor
open Go.RowKit Wells
theorem row_two {w : World} {g : Nat} {t : TypeId} {x y : Value} (h : Row w g t [x, y]) : Sl w (g + 1) 2 (some ⟨g, 0, none⟩) 1 [x, y] :=
  ⟨rfl, fun _ => ⟨_, 0, rfl, by omega, fun j u hu => by rw [Nat.zero_add, h.cell]; exact hu⟩⟩
theorem REqs.snoc {w w' : World} {B m nc c1 c2 g : Nat} {A A' A1 : Option Addr} {ps : List (Value × Value)} {rows : List Eqn} {cols : List Int} {dat : List Byte} (h : REqs w B A m ps rows) (sl : Sl w' w'.heap.size 2 A' (m + 1) (eqC ps ++ [.slice A1 nc c1, .slice (some ⟨g, 0, none⟩) 1 c2]))
    (hb : Below B w w') (hB : B ≤ w'.heap.size) (h1 : nc ≤ c1) (h2 : c1 ≤ 9223372036854775807) (s1 : Sl w' B 1 A1 nc (cols.map iv)) (hc2 : c2 = 1) (s2 : Sl w' w'.heap.size 1 (some ⟨g, 0, none⟩) 1 ((dat.map bv8).take 1)) (hnc : cols.length = nc := by assumption) (hd : dat.length = 1 := by rfl) :
    REqs w' w'.heap.size A' (m + 1) (ps ++ [(.slice A1 nc c1, .slice (some ⟨g, 0, none⟩) 1 c2)]) (rows ++ [⟨cols, dat⟩]) := by
  have pl := h.pl
  have hl := h.len
  refine ⟨by rw [eqC_app]; exact sl, by simp [pl], by simp [hl], fun i hi => ?_⟩
  simp only [List.getD_eq_getElem?_getD]
  by_cases hlt : i < m
  · rw [List.getElem?_append_left (by rw [pl]; exact hlt), List.getElem?_append_left (by rw [hl]; exact hlt)]
    have := h.at_ i hlt
    simp only [List.getD_eq_getElem?_getD] at this
    exact (this.keep hb).mono hB
  · obtain rfl : i = m := by omega
    rw [List.getElem?_append_right (by rw [pl]; omega), List.getElem?_append_right (by rw [hl]; omega), pl, hl]
    simp only [Nat.sub_self, List.getElem?_cons_zero, Option.getD_some]
    refine ⟨⟨A1, c1, by rw [hnc], by rw [hnc]; exact h1, h2, by rw [hnc]; exact s1.mono hB⟩, ⟨_, c2, by rw [hd], by rw [hd, hc2]; exact Nat.le_refl _, by omega, ?_⟩⟩
    rw [hd]
    rwa [List.take_of_length_le (by simp [hd])] at s2
set_option maxRecDepth 20000 in
set_option maxHeartbeats 2000000 in
theorem walk_PeelClash (a0 : Int) (A1 : Option Addr) (n1 c1 : Nat) (l1 : List Int) (A2 : Option Addr) (n2 c2 : Nat) (l2 : List Byte) (a3 : Int) (w : World) (h0 : -9223372036854775808 ≤ a0 ∧ a0 ≤ 9223372036854775807) (h1 : IsInts w A1 n1 c1 l1) (h2 : IsBytes w A2 n2 c2 l2) (h3 : 0 ≤ a3 ∧ a3 ≤ 255) :
    Calls Tryd.prog 6 #[.int .i64 a0, .slice A1 n1 c1, .slice A2 n2 c2, .int .u8 a3] w fun e w' => e = .returned (.bool true) ∧ Below w.heap.size w w' := by
  obtain ⟨i0, hi, hz0, hz1, hz2⟩ := info_parts infoB
  obtain ⟨ie, hie, hz0ie, hz1ie, hz2ie⟩ := info_parts infoEq
  obtain ⟨s1, le1, cap1, wf1⟩ := h1
  obtain ⟨s2, le2, cap2⟩ := h2
  obtain ⟨h01, h02⟩ := h0
  obtain ⟨xb, hxb⟩ : ∃ xb : Byte, (xb.toNat : Int) = a3 := ⟨BitVec.ofNat 8 a3.toNat, by rw [BitVec.toNat_ofNat, Nat.mod_eq_of_lt (by omega)]; omega⟩
  subst hxb
  obtain ⟨N, hN, hN1, hN14⟩ : ∃ N : Nat, 1 + a0 % 10 = (N : Int) ∧ 1 ≤ N ∧ N ≤ 10 := ⟨(1 + a0 % 10).toNat, by omega, by omega, by omega⟩
  have hM0 := Int.emod_nonneg a0 (show (10 : Int) ≠ 0 by omega)
  have hM1 := Int.emod_lt_of_pos a0 (show (0 : Int) < 10 by omega)
  have HN := hid hN
  have S1 := hid (show Sl w w.heap.size 1 A1 n1 (l1.map iv) from s1)
  have S2 := hid s2
  have WF1 := hid wf1
  clear s1 s2 wf1 hN
  go_enter Tryd.func6, Tryd.ntmps6
  go_wp2_with fail
  refine (within_any a0 10 _ h01 h02 (by omega) (by omega)).mono ?_
  rintro e w1 ⟨rfl, rfl⟩
  go_wp2_with fail
  rw [HN.out]
  refine (vals_any l2 w.heap.size A2 n2 c2 N 1 w S2.out (Nat.le_refl _) (by omega) (by omega) (by omega)).mono ?_
  rintro e w2 ⟨A3, c3, vv, rfl, ov, b2⟩
  have hz2' := b2.size
  have HLV : Hid (∀ i, i < N → ((valsP l2 N 1).getD i []).length = 1) := hid (fun i hi => by rw [valsP_get _ _ _ _ hi, valAt_len])
  have HRV := hid (ov.read (valsP_len l2 N 1))
  have HOV := hid ov
  have HB2 := hid b2
  have HVN := hid (valsP_len l2 N 1)
  obtain ⟨vals, hvals⟩ : ∃ vals, valsP l2 N 1 = vals := ⟨_, rfl⟩
  rw [hvals] at HRV HLV HOV HVN
  clear ov b2 hvals
  go_wp2_with fail
  go_loopw [10, 31] (fun v i wr => ∃ (k : Nat) (A' : Option Addr) (c' : Nat) (ps : List (Value × Value)), k ≤ N ∧ i = .int .i64 (k : Int) ∧ v = .slice A' k c' ∧ OEqs w2.heap.size wr (.slice A' k c') ps (oneRows vals k) ∧ Below w2.heap.size w2 wr) (fun _ i _ => N - (intOf i).toNat)
  case atStart => exact ⟨0, none, 0, [], Nat.zero_le _, rfl, rfl, OEqs.nil_ _ _, Below.refl _ _⟩
  case round =>
    obtain ⟨k, Ab, cb, psr, hk, rfl, rfl, hoe, hbr⟩ := hrel
    have HOE := hid hoe
    have HBR := hid hbr
    have hzr := hbr.size
    clear hoe hbr
    by_cases hlt : k < N
    · have hlt' : (k : Int) < (N : Int) := by omega
      have hovr := HOV.out.below HBR.out
      have hob := hovr.at_ k (by rw [HVN.out]; exact hlt)
      obtain ⟨Ax, cx, ex, hcx, hcx2, sx⟩ := own_slice hob
      have hsl := Sl.own (show wr.ownsRow w.heap.size 24 1 (.slice A3 N c3) N vv by have h9 := hovr.own; rwa [HVN.out] at h9)
      have hvk : vv[k]? = some (.slice Ax (vals.getD k []).length cx) := by
        have hvl : k < vv.length := by have := hsl.len; omega
        rw [List.getElem?_eq_getElem hvl]
        rw [List.getD_eq_getElem?_getD, List.getElem?_eq_getElem hvl] at ex
        exact congrArg some ex
      rw [HLV.out k hlt] at hvk
      obtain ⟨bv, ov, e3, hbv, kv⟩ := hsl.get hlt hvk
      subst e3
      have hrb := (HOV.out.at_ k (by rw [HVN.out]; exact hlt)).read
      rw [ex] at hrb
      rw [HLV.out k hlt] at hrb
      have HOB := hid (hrb.keep HBR.out)
      have hb1 : Below wr.heap.size wr (wr.alloc (.cells #[.int .i64 (k : Int)] 3)) := (Below.refl _ _).alloc (Nat.le_refl _) _
      have hb2 : Below wr.heap.size wr ((wr.alloc (.cells #[.int .i64 (k : Int)] 3)).alloc (.cells #[.slice (some ⟨wr.heap.size, 0, none⟩) 1 1, .slice Ax 1 cx] 27)) := hb1.alloc hb1.size _
      have r1 := (Row.new wr 3 #[.int .i64 (k : Int)]).alloc (.cells #[.slice (some ⟨wr.heap.size, 0, none⟩) 1 1, .slice Ax 1 cx] 27)
      have hoi := Row.own (base := w2.heap.size) (size := 1) (n := 1) (cap := 1) r1 (by omega) (Nat.le_refl _) (by unfold maxLen; omega) rfl
      have HOI := hid hoi
      have HOE2 := hid (HOE.out.below hb2 (by omega))
      have how := HOE2.out.own
      rw [oneRows_len] at how
      have HOW := hid how
      have HBX := hid (HBR.out.trans (hb2.mono hzr))
      have HOB2 := hid (show RB _ w2.heap.size (.slice Ax 1 cx) (vals.getD k []) from HOB.out.keep (hb2.mono hzr))
      have hszx : ((wr.alloc (.cells #[.int .i64 (k : Int)] 3)).alloc (.cells #[.slice (some ⟨wr.heap.size, 0, none⟩) 1 1, .slice Ax 1 cx] 27)).heap.size = wr.heap.size + 2 := by simp
      clear hovr hob hrb hsl hvk ex sx hb1 hb2 r1 hoi how hcx
      go_wp2_with (at_builtin; go_must (refine wpl_append rfl (.tmp 34) (.tmp 42) 22 rfl w2.heap.size 27 ie (.agg #[.slice none 0 0, .slice none 0 0]) 2 48 Tryd.underlying22 hie hz0ie hz1ie hz2ie rfl (by omega) (.slice Ab k cb) k (eqC psr) rfl HOW.out _ _ 1 1 [.slice (some ⟨wr.heap.size, 0, none⟩) 1 1, .slice Ax 1 cx] rfl (fresh2 _ _ _ _ _ (by simp)) (by simp [Value.oneCell']) (k + 1) rfl _ rfl (by omega) (by omega) (by omega) ?_); intro A6 c6 w6 o6 g6 _)
      have hoe6 : OEqs w2.heap.size w6 (.slice A6 (k + 1) c6) (psr ++ [(.slice (some ⟨wr.heap.size, 0, none⟩) 1 1, .slice Ax 1 cx)]) (oneRows vals (k + 1)) := by
        rw [oneRows_succ]
        refine HOE2.out.app (ps2 := [(.slice (some ⟨wr.heap.size, 0, none⟩) 1 1, .slice Ax 1 cx)]) (rows2 := [⟨[(k : Int)], vals.getD k []⟩]) rfl (fun i hi => ?_) ?_ g6 (by omega)
        · obtain rfl : i = 0 := by simpa using hi
          exact ⟨.inr HOI.out, .inl HOB2.out⟩
        · rw [oneRows_len]; exact o6
      have hb6 := below_own HBX.out HOW.out g6 (Nat.le_refl _) (by omega)
      have HO6 := hid hoe6
      have HB6 := hid hb6
      clear hoe6 hb6 o6 g6
      go_roundw
      case rel => exact ⟨k + 1, A6, c6, _, by omega, by go_num, rfl, HO6.out, HB6.out⟩
      case measure => simp [intOf]; omega
    · obtain rfl : N = k := by omega
      obtain ⟨w3, hw3⟩ : ∃ w3, wr = w3 := ⟨_, rfl⟩
      rw [hw3] at HOE HBR hzr ⊢
      clear hw3
      have HBW3 := hid (HB2.out.trans (HBR.out.mono hz2'))
      go_wp2_with fail
      refine (rows_any l1 N 8 1 vals vv w2.heap.size A1 A3 n1 c1 c3 w3 ((S1.out.below HBW3.out).mono hz2') (HRV.out.below HBR.out) hzr HLV.out hN1 (by omega) (by omega) (by omega) WF1.out (by omega)).mono ?_
      rintro e w4 ⟨A4, m, c4, ps4, rows, rfl, hrl, hm8, oe4, b4, hmade⟩
      have hz4 := b4.size
      have HMADE := hid hmade
      have HRL := hid hrl
      have HR4 := hid (oe4.read hrl hz4)
      have hb0 := HOE.out.below (b4.mono (Nat.le_refl _)) hzr
      have HRB := hid (hb0.read (oneRows_len _ _) (by omega))
      have hcb := own_cap (show w4.ownsRow w2.heap.size 27 2 (.slice Ab N cb) N (eqC psr) by have h9 := hb0.own; rwa [oneRows_len] at h9)
      obtain ⟨hcb1, hcb2⟩ := hcb
      have HBW4 := hid (HBW3.out.trans (b4.mono (by omega)))
      have HONE := hid (eqC_one (reqs_one (hb0.read (oneRows_len _ _) (by omega))))
      clear oe4 b4 hmade hrl hb0
      go_wp2_with fail
      go_loopw [50] (fun i wr => ∃ k : Nat, k ≤ m ∧ i = .int .i64 (k : Int) ∧ Below w4.heap.size w4 wr) (fun i _ => m - (intOf i).toNat)
      case atStart => exact ⟨0, Nat.zero_le _, rfl, Below.refl _ _⟩
      case round =>
        obtain ⟨k, hk, rfl, hbr⟩ := hrel
        have hzr := hbr.size
        by_cases hlt : k < m
        · have hre := HR4.out.below hbr
          obtain ⟨bb, o, A7, c7, A8, c8, eA, hbb, e0, e1, l1', l2', s7, l3', l4', s8⟩ := hre.get hlt
          subst eA
          have hym : rows.getD k default ∈ rows := mem_getD (by rw [HRL.out]; exact hlt)
          obtain ⟨hqok, hqd⟩ := HMADE.out _ hym
          have hql := made_len HMADE.out HLV.out _ hym
          obtain ⟨q, hq⟩ : ∃ q, rows.getD k default = q := ⟨_, rfl⟩
          rw [hq] at e0 e1 l1' s7 l3' s8 hqok hqd hql
          obtain ⟨y, hy⟩ := one_byte hql
          rw [hql] at e1 l3' s8
          rw [hy] at s8
          obtain ⟨bd, od, e8, hbd, hyc⟩ := s8.at_ (by omega)
          subst e8
          have y0 := hyc 0 (bv8 y) rfl
          unfold bv8 at y0
          have y1 : wr.cell? ⟨bd, od, none⟩ = some (.int .u8 (y.toNat : Int)) := y0
          obtain ⟨nc, hnc⟩ : ∃ nc, q.cols.length = nc := ⟨_, rfl⟩
          rw [hnc] at e0 l1' s7
          have hncN : nc ≤ N := by rw [← hnc]; exact cols_count hqok
          have hx := Row.new wr 27 #[.slice A7 nc c7, .slice (some ⟨bd, od, none⟩) 1 c8]
          have hbx : Below wr.heap.size wr (wr.alloc (.cells #[.slice A7 nc c7, .slice (some ⟨bd, od, none⟩) 1 c8] 27)) := (Below.refl _ _).alloc (Nat.le_refl _) _
          have x0 := hx.cell 0
          have x1 := hx.cell 1
          simp only [List.getElem?_cons_succ, List.getElem?_cons_zero] at x0 x1
          have y1 := (hbx.cell (p := ⟨bd, od, none⟩) (by show bd < wr.heap.size; omega)).trans y1
          have hg13 := hx.lt
          have hszx : (wr.alloc (.cells #[.slice A7 nc c7, .slice (some ⟨bd, od, none⟩) 1 c8] 27)).heap.size = wr.heap.size + 1 := by simp
          have HBX := hid (hbr.trans (hbx.mono hzr))
          have HRX0 := hid ((HRB.out.below hbr).below (hbx.mono hzr))
          have HQC0 := hid (s7.below (hbx.mono hzr))
          have HQ := hid hq
          have HQOK := hid hqok
          have HQD := hid hqd
          have HY := hid hy
          have HNC := hid hnc
          have hbd' : bd < wr.heap.size := by omega
          have hN0 : N ≤ 10 := by omega
          have hc7a := l1'
          have hc7b := l2'
          clear hre hym hq hqok hqd hql hy y0 hyc hnc s7 s8 hx hbx hbr
          go_wp2_with fail
          generalize wr.alloc (.cells #[.slice A7 nc c7, .slice (some ⟨bd, od, none⟩) 1 c8] 27) = wx at *
          obtain ⟨g13, hg9⟩ : ∃ g13, wr.heap.size = g13 := ⟨_, rfl⟩
          rw [hg9] at x0 x1 hg13 hszx hbd' hzr
          try simp only [hg9]
          clear hg9
          have hbd : bd < wx.heap.size := by omega
          have hzx : w4.heap.size ≤ wx.heap.size := by omega
          have HRX := hid (HRX0.out.mono hzx)
          have HQC := hid (HQC0.out.mono hzx)
          have hncl : q.cols.length = nc := HNC.out
          have HNC2 := hid hncl
          clear hncl
          go_upto_region 12 with fail
          go_cut [14] (fun s14 wy => ∃ (A9 : Option Addr) (c9 : Nat) (ps9 : List (Value × Value)), s14 = .slice A9 (N + 1) c9 ∧ (N + 1 ≤ c9 ∧ c9 ≤ 9223372036854775807) ∧ REqs wy wy.heap.size A9 (N + 1) ps9 (oneRows vals N ++ [⟨q.cols, [y ^^^ xb]⟩]) ∧ Below wx.heap.size wx wy)
          case first =>
            refine Org.begin [] (fun w' => Below wx.heap.size wx w') [0, 2, 3, 4, 5, 6, 7, 8, 9] (by kernel_rfl) (below_drew' (Below.refl _ _)) (fun hS => ?_)
            (refine Org.yes (v := ?_) rfl (by kernel_rfl) (by kernel_rfl) (by kernel_rfl) (by kernel_rfl) (by kernel_rfl) (fun _ _ _ h => h) (by kernel_rfl) (SM.of hS) ?_ ?_; rotate_left; (focus (intro w hSw; (try dsimp only at hSw); refine Pure.val ?_; go_simp; (try with_reducible rfl); done)); try simp only [Act.put, List.setIfInBounds_toArray, List.set_cons_zero, List.set_cons_succ])
            (refine Org.yes (v := ?_) rfl (by kernel_rfl) (by kernel_rfl) (by kernel_rfl) (by kernel_rfl) (by kernel_rfl) (fun _ _ _ h => h) (by kernel_rfl) (SM.of hS) ?_ ?_; rotate_left; (focus (intro w hSw; (try dsimp only at hSw); refine Pure.val ?_; go_simp; (try with_reducible rfl); done)); try simp only [Act.put, List.setIfInBounds_toArray, List.set_cons_zero, List.set_cons_succ])
            (refine Org.yes (v := ?_) rfl (by kernel_rfl) (by kernel_rfl) (by kernel_rfl) (by kernel_rfl) (by kernel_rfl) (fun _ _ _ h => h) (by kernel_rfl) (SM.of hS) ?_ ?_; rotate_left; (focus (intro w hSw; (try dsimp only at hSw); have q0 := (hSw.cell (p := ⟨g13, 0, none⟩) hg13).trans x0; have q1 := (hSw.cell (p := ⟨g13, 1, none⟩) hg13).trans x1; have q2 := (hSw.cell (p := ⟨bd, od, none⟩) hbd).trans y1; refine Pure.val ?_; go_simp; (try with_reducible rfl); done)); try simp only [Act.put, List.setIfInBounds_toArray, List.set_cons_zero, List.set_cons_succ])
            (refine Org.yes (v := ?_) rfl (by kernel_rfl) (by kernel_rfl) (by kernel_rfl) (by kernel_rfl) (by kernel_rfl) (fun _ _ _ h => h) (by kernel_rfl) (SM.of hS) ?_ ?_; rotate_left; (focus (intro w hSw; (try dsimp only at hSw); refine Pure.val ?_; go_simp; (try with_reducible rfl); done)); try simp only [Act.put, List.setIfInBounds_toArray, List.set_cons_zero, List.set_cons_succ])
            (refine Org.yes (v := ?_) rfl (by kernel_rfl) (by kernel_rfl) (by kernel_rfl) (by kernel_rfl) (by kernel_rfl) (fun _ _ _ h => h) (by kernel_rfl) (SM.of hS) ?_ ?_; rotate_left; (focus (intro w hSw; (try dsimp only at hSw); have q0 := (hSw.cell (p := ⟨g13, 0, none⟩) hg13).trans x0; have q1 := (hSw.cell (p := ⟨g13, 1, none⟩) hg13).trans x1; have q2 := (hSw.cell (p := ⟨bd, od, none⟩) hbd).trans y1; refine Pure.val ?_; go_simp; (try with_reducible rfl); done)); try simp only [Act.put, List.setIfInBounds_toArray, List.set_cons_zero, List.set_cons_succ])
            (refine Org.yes (v := ?_) rfl (by kernel_rfl) (by kernel_rfl) (by kernel_rfl) (by kernel_rfl) (by kernel_rfl) (fun _ _ _ h => h) (by kernel_rfl) (SM.of hS) ?_ ?_; rotate_left; (focus (intro w hSw; (try dsimp only at hSw); have q0 := (hSw.cell (p := ⟨g13, 0, none⟩) hg13).trans x0; have q1 := (hSw.cell (p := ⟨g13, 1, none⟩) hg13).trans x1; have q2 := (hSw.cell (p := ⟨bd, od, none⟩) hbd).trans y1; refine Pure.val ?_; go_simp; (try with_reducible rfl); done)); try simp only [Act.put, List.setIfInBounds_toArray, List.set_cons_zero, List.set_cons_succ])
            (refine Org.yes (v := ?_) rfl (by kernel_rfl) (by kernel_rfl) (by kernel_rfl) (by kernel_rfl) (by kernel_rfl) (fun _ _ _ h => h) (by kernel_rfl) (SM.of hS) ?_ ?_; rotate_left; (focus (intro w hSw; (try dsimp only at hSw); have q0 := (hSw.cell (p := ⟨g13, 0, none⟩) hg13).trans x0; have q1 := (hSw.cell (p := ⟨g13, 1, none⟩) hg13).trans x1; have q2 := (hSw.cell (p := ⟨bd, od, none⟩) hbd).trans y1; refine Pure.val ?_; go_simp; (try with_reducible rfl); done)); try simp only [Act.put, List.setIfInBounds_toArray, List.set_cons_zero, List.set_cons_succ])
            (refine Org.yes (v := ?_) rfl (by kernel_rfl) (by kernel_rfl) (by kernel_rfl) (by kernel_rfl) (by kernel_rfl) (fun _ _ _ h => h) (by kernel_rfl) (SM.of hS) ?_ ?_; rotate_left; (focus (intro w hSw; (try dsimp only at hSw); refine Pure.val ?_; go_simp; (try with_reducible rfl); done)); try simp only [Act.put, List.setIfInBounds_toArray, List.set_cons_zero, List.set_cons_succ])
            (refine Org.yes (v := ?_) rfl (by kernel_rfl) (by kernel_rfl) (by kernel_rfl) (by kernel_rfl) (by kernel_rfl) (fun _ _ _ h => h) (by kernel_rfl) (SM.of hS) ?_ ?_; rotate_left; (focus (intro w hSw; (try dsimp only at hSw); refine Pure.val ?_; go_simp; (try with_reducible rfl); done)); try simp only [Act.put, List.setIfInBounds_toArray, List.set_cons_zero, List.set_cons_succ])
            refine Org.two (i := 1) (j := 10) [10, 11, 12, 13, 14] [11] rfl rfl (by kernel_rfl) (by kernel_rfl) (by kernel_rfl) (fun K hK => ?_) (fun K hK => ?_)
            · skip
              (refine op_append (.const (.slice none 0 0)) (.tmp 54) 22 (by rfl) wx.heap.size 27 ie (.agg #[.slice none 0 0, .slice none 0 0]) 2 48 Tryd.underlying22 hie hz0ie hz1ie hz2ie rfl (by omega) (.slice none 0 0) 0 [] (by rfl) (World.ownsRow_nil _ _ _ _) wx.heap.size Ab N cb (eqC psr) (by rfl) (HRX.out.sl.below hS) HONE.out N (by omega) (eqC psr) rfl (by omega) (by omega) hS.size ?_)
              intro A5 c5 w5 o5 g5 _
              have b5 := (Below.refl _ _).grown g5 (Nat.le_refl _) (fun k hk => by simp [Value.ownBlock] at hk)
              have HO5 := hid o5
              
              have hS3 := hS.trans (b5.mono hS.size)
              clear o5 g5 b5
              refine hK.out _ _ hS3 (fun hS2 => ?_)
              clear hK K hS
              have hS := hS2
              clear hS2
              try simp only [Act.put, List.setIfInBounds_toArray, List.set_cons_zero, List.set_cons_succ]
              refine Org.go rfl (by kernel_rfl) (by kernel_rfl) (fun K hK => ?_)
              (refine op_build1 24 5 (.tmp 63) (by rfl) (.int .u8 (bits .xor .u8 (y.toNat : Int) (xb.toNat : Int))) (by rfl) rfl i0 (.int .u8 0) Tryd.underlying24 hi hz0 hz1 rfl ?_)
              intro w6 g64 hg64 r6 b6 s6
              rw [x8'] at r6
              have HR64 := hid r6
              have HO5 := hid ((HO5.out).kept (grown_of_below ((hg64 ▸ b6 : Below _ _ w6)) none) (Classical.em _))
              have hS3 := hS.trans (b6.mono (by rw [← hg64]; exact hS.size))
              clear r6 b6 s6 hg64
              refine hK.out _ _ hS3 (fun hS2 => ?_)
              clear hK K hS
              have hS := hS2
              clear hS2
              try simp only [Act.put, List.setIfInBounds_toArray, List.set_cons_zero, List.set_cons_succ]
              (refine Org.yes (v := ?_) rfl (by kernel_rfl) (by kernel_rfl) (by kernel_rfl) (by kernel_rfl) (by kernel_rfl) (fun _ _ _ h => h) (by kernel_rfl) (SM.of hS) ?_ ?_; rotate_left; (focus (intro w hSw; (try dsimp only at hSw); refine Pure.val ?_; go_simp; (try with_reducible rfl); done)); try simp only [Act.put, List.setIfInBounds_toArray, List.set_cons_zero, List.set_cons_succ])
              refine Org.go rfl (by kernel_rfl) (by kernel_rfl) (fun K hK => ?_)
              (refine op_build2 22 27 (.tmp 65) (by rfl) (.slice A7 nc c7) (.slice (some ⟨g64, 0, none⟩) 1 1) (by rfl) ie (.slice none 0 0) (.slice none 0 0) Tryd.underlying22 hie hz0ie hz1ie ?_)
              intro w7 g66 hg66 r7 b7 s7
              have HR66 := hid r7
              have HO5 := hid ((HO5.out).kept (grown_of_below ((hg66 ▸ b7 : Below _ _ w7)) none) (Classical.em _))
              have HR64 := hid (HR64.out.below ((hg66 ▸ b7 : Below _ _ w7)) HR64.out.lt)
              have hS3 := hS.trans (b7.mono (by rw [← hg66]; exact hS.size))
              clear r7 b7 s7 hg66
              refine hK.out _ _ hS3 (fun hS2 => ?_)
              clear hK K hS
              have hS := hS2
              clear hS2
              try simp only [Act.put, List.setIfInBounds_toArray, List.set_cons_zero, List.set_cons_succ]
              refine Org.go rfl (by kernel_rfl) (by kernel_rfl) (fun K hK => ?_)
              (refine op_append (.tmp 55) (.tmp 66) 22 (by rfl) wx.heap.size 27 ie (.agg #[.slice none 0 0, .slice none 0 0]) 2 48 Tryd.underlying22 hie hz0ie hz1ie hz2ie rfl (by omega) (.slice A5 N c5) N (eqC psr) (by rfl) HO5.out (g66 + 1) (some ⟨g66, 0, none⟩) 1 1 [.slice A7 nc c7, .slice (some ⟨g64, 0, none⟩) 1 1] (by rfl) (row_two HR66.out) (by simp [Value.oneCell']) (N + 1) (by omega) _ rfl (by omega) (by omega) hS.size ?_)
              intro A9 c9 w9 o9 g9 _
              have hb9 := below_own hS HO5.out g9 (Nat.le_refl _) hS.size
              have HR64b := hid (HR64.out.grown g9 (fun e => by
                rcases own_ne HO5.out HR64.out (by decide) with h9 | h9
                · rw [h9] at e; cases e
                · exact h9 e.symm))
              have HO9 := hid o9
              clear o9 g9
              refine hK.out _ _ hb9 (fun hS2 => ?_)
              clear hK K hS
              have hS := hS2
              clear hS2
              try simp only [Act.put, List.setIfInBounds_toArray, List.set_cons_zero, List.set_cons_succ]
              (refine Org.yes (v := ?_) rfl (by kernel_rfl) (by kernel_rfl) (by kernel_rfl) (by kernel_rfl) (by kernel_rfl) (fun _ _ _ h => h) (by kernel_rfl) (SM.of hS) ?_ ?_; rotate_left; (focus (intro w hSw; (try dsimp only at hSw); refine Pure.val ?_; go_simp; (try with_reducible rfl); done)); try simp only [Act.put, List.setIfInBounds_toArray, List.set_cons_zero, List.set_cons_succ])
              refine Org.done (by kernel_rfl) ?_
              go_wp2_with fail
              go_meet
              exact ⟨A9, c9, _, rfl, own_cap HO9.out, (HRX.out.snoc (Sl.own HO9.out) hS hS.size (c1 := c7) (c2 := 1) hc7a hc7b (HQC.out.below hS) rfl (HR64b.out.sl HR64b.out.lt (Nat.le_refl _)) HNC2.out), hS⟩
            · skip
              (refine op_build1 24 5 (.tmp 63) (by rfl) (.int .u8 (bits .xor .u8 (y.toNat : Int) (xb.toNat : Int))) (by rfl) rfl i0 (.int .u8 0) Tryd.underlying24 hi hz0 hz1 rfl ?_)
              intro w6 g64 hg64 r6 b6 s6
              rw [x8'] at r6
              have HR64 := hid r6
              
              have hS3 := hS.trans (b6.mono (by rw [← hg64]; exact hS.size))
              clear r6 b6 s6 hg64
              refine hK.out _ _ hS3 (fun hS2 => ?_)
              clear hK K hS
              have hS := hS2
              clear hS2
              try simp only [Act.put, List.setIfInBounds_toArray, List.set_cons_zero, List.set_cons_succ]
              (refine Org.yes (v := ?_) rfl (by kernel_rfl) (by kernel_rfl) (by kernel_rfl) (by kernel_rfl) (by kernel_rfl) (fun _ _ _ h => h) (by kernel_rfl) (SM.of hS) ?_ ?_; rotate_left; (focus (intro w hSw; (try dsimp only at hSw); refine Pure.val ?_; go_simp; (try with_reducible rfl); done)); try simp only [Act.put, List.setIfInBounds_toArray, List.set_cons_zero, List.set_cons_succ])
              refine Org.two (i := 1) (j := 12) [12, 13, 14] [1, 13, 14] rfl rfl (by kernel_rfl) (by kernel_rfl) (by kernel_rfl) (fun K hK => ?_) (fun K hK => ?_)
              · skip
                (refine op_append (.const (.slice none 0 0)) (.tmp 54) 22 (by rfl) wx.heap.size 27 ie (.agg #[.slice none 0 0, .slice none 0 0]) 2 48 Tryd.underlying22 hie hz0ie hz1ie hz2ie rfl (by omega) (.slice none 0 0) 0 [] (by rfl) (World.ownsRow_nil _ _ _ _) wx.heap.size Ab N cb (eqC psr) (by rfl) (HRX.out.sl.below hS) HONE.out N (by omega) (eqC psr) rfl (by omega) (by omega) hS.size ?_)
                intro A5 c5 w5 o5 g5 _
                have b5 := (Below.refl _ _).grown g5 (Nat.le_refl _) (fun k hk => by simp [Value.ownBlock] at hk)
                have HO5 := hid o5
                have HR64 := hid (HR64.out.below (b5) HR64.out.lt)
                have hS3 := hS.trans (b5.mono hS.size)
                clear o5 g5 b5
                refine hK.out _ _ hS3 (fun hS2 => ?_)
                clear hK K hS
                have hS := hS2
                clear hS2
                try simp only [Act.put, List.setIfInBounds_toArray, List.set_cons_zero, List.set_cons_succ]
                refine Org.go rfl (by kernel_rfl) (by kernel_rfl) (fun K hK => ?_)
                (refine op_build2 22 27 (.tmp 65) (by rfl) (.slice A7 nc c7) (.slice (some ⟨g64, 0, none⟩) 1 1) (by rfl) ie (.slice none 0 0) (.slice none 0 0) Tryd.underlying22 hie hz0ie hz1ie ?_)
                intro w7 g66 hg66 r7 b7 s7
                have HR66 := hid r7
                have HO5 := hid ((HO5.out).kept (grown_of_below ((hg66 ▸ b7 : Below _ _ w7)) none) (Classical.em _))
                have HR64 := hid (HR64.out.below ((hg66 ▸ b7 : Below _ _ w7)) HR64.out.lt)
                have hS3 := hS.trans (b7.mono (by rw [← hg66]; exact hS.size))
                clear r7 b7 s7 hg66
                refine hK.out _ _ hS3 (fun hS2 => ?_)
                clear hK K hS
                have hS := hS2
                clear hS2
                try simp only [Act.put, List.setIfInBounds_toArray, List.set_cons_zero, List.set_cons_succ]
                refine Org.go rfl (by kernel_rfl) (by kernel_rfl) (fun K hK => ?_)
                (refine op_append (.tmp 55) (.tmp 66) 22 (by rfl) wx.heap.size 27 ie (.agg #[.slice none 0 0, .slice none 0 0]) 2 48 Tryd.underlying22 hie hz0ie hz1ie hz2ie rfl (by omega) (.slice A5 N c5) N (eqC psr) (by rfl) HO5.out (g66 + 1) (some ⟨g66, 0, none⟩) 1 1 [.slice A7 nc c7, .slice (some ⟨g64, 0, none⟩) 1 1] (by rfl) (row_two HR66.out) (by simp [Value.oneCell']) (N + 1) (by omega) _ rfl (by omega) (by omega) hS.size ?_)
                intro A9 c9 w9 o9 g9 _
                have hb9 := below_own hS HO5.out g9 (Nat.le_refl _) hS.size
                have HR64b := hid (HR64.out.grown g9 (fun e => by
                  rcases own_ne HO5.out HR64.out (by decide) with h9 | h9
                  · rw [h9] at e; cases e
                  · exact h9 e.symm))
                have HO9 := hid o9
                clear o9 g9
                refine hK.out _ _ hb9 (fun hS2 => ?_)
                clear hK K hS
                have hS := hS2
                clear hS2
                try simp only [Act.put, List.setIfInBounds_toArray, List.set_cons_zero, List.set_cons_succ]
                (refine Org.yes (v := ?_) rfl (by kernel_rfl) (by kernel_rfl) (by kernel_rfl) (by kernel_rfl) (by kernel_rfl) (fun _ _ _ h => h) (by kernel_rfl) (SM.of hS) ?_ ?_; rotate_left; (focus (intro w hSw; (try dsimp only at hSw); refine Pure.val ?_; go_simp; (try with_reducible rfl); done)); try simp only [Act.put, List.setIfInBounds_toArray, List.set_cons_zero, List.set_cons_succ])
                refine Org.done (by kernel_rfl) ?_
                go_wp2_with fail
                go_meet
                exact ⟨A9, c9, _, rfl, own_cap HO9.out, (HRX.out.snoc (Sl.own HO9.out) hS hS.size (c1 := c7) (c2 := 1) hc7a hc7b (HQC.out.below hS) rfl (HR64b.out.sl HR64b.out.lt (Nat.le_refl _)) HNC2.out), hS⟩
              · skip
                (refine op_build2 22 27 (.tmp 65) (by rfl) (.slice A7 nc c7) (.slice (some ⟨g64, 0, none⟩) 1 1) (by rfl) ie (.slice none 0 0) (.slice none 0 0) Tryd.underlying22 hie hz0ie hz1ie ?_)
                intro w7 g66 hg66 r7 b7 s7
                have HR66 := hid r7
                have HR64 := hid (HR64.out.below ((hg66 ▸ b7 : Below _ _ w7)) HR64.out.lt)
                have hS3 := hS.trans (b7.mono (by rw [← hg66]; exact hS.size))
                clear r7 b7 s7 hg66
                refine hK.out _ _ hS3 (fun hS2 => ?_)
                clear hK K hS
                have hS := hS2
                clear hS2
                try simp only [Act.put, List.setIfInBounds_toArray, List.set_cons_zero, List.set_cons_succ]
                refine Org.go rfl (by kernel_rfl) (by kernel_rfl) (fun K hK => ?_)
                (refine op_append (.const (.slice none 0 0)) (.tmp 54) 22 (by rfl) wx.heap.size 27 ie (.agg #[.slice none 0 0, .slice none 0 0]) 2 48 Tryd.underlying22 hie hz0ie hz1ie hz2ie rfl (by omega) (.slice none 0 0) 0 [] (by rfl) (World.ownsRow_nil _ _ _ _) wx.heap.size Ab N cb (eqC psr) (by rfl) (HRX.out.sl.below hS) HONE.out N (by omega) (eqC psr) rfl (by omega) (by omega) hS.size ?_)
                intro A5 c5 w5 o5 g5 _
                have b5 := (Below.refl _ _).grown g5 (Nat.le_refl _) (fun k hk => by simp [Value.ownBlock] at hk)
                have HO5 := hid o5
                have HR64 := hid (HR64.out.below (b5) HR64.out.lt)
                have HR66 := hid (HR66.out.below (b5) HR66.out.lt)
                have hS3 := hS.trans (b5.mono hS.size)
                clear o5 g5 b5
                refine hK.out _ _ hS3 (fun hS2 => ?_)
                clear hK K hS
                have hS := hS2
                clear hS2
                try simp only [Act.put, List.setIfInBounds_toArray, List.set_cons_zero, List.set_cons_succ]
                refine Org.go rfl (by kernel_rfl) (by kernel_rfl) (fun K hK => ?_)
                (refine op_append (.tmp 55) (.tmp 66) 22 (by rfl) wx.heap.size 27 ie (.agg #[.slice none 0 0, .slice none 0 0]) 2 48 Tryd.underlying22 hie hz0ie hz1ie hz2ie rfl (by omega) (.slice A5 N c5) N (eqC psr) (by rfl) HO5.out (g66 + 1) (some ⟨g66, 0, none⟩) 1 1 [.slice A7 nc c7, .slice (some ⟨g64, 0, none⟩) 1 1] (by rfl) (row_two HR66.out) (by simp [Value.oneCell']) (N + 1) (by omega) _ rfl (by omega) (by omega) hS.size ?_)
                intro A9 c9 w9 o9 g9 _
                have hb9 := below_own hS HO5.out g9 (Nat.le_refl _) hS.size
                have HR64b := hid (HR64.out.grown g9 (fun e => by
                  rcases own_ne HO5.out HR64.out (by decide) with h9 | h9
                  · rw [h9] at e; cases e
                  · exact h9 e.symm))
                have HO9 := hid o9
                clear o9 g9
                refine hK.out _ _ hb9 (fun hS2 => ?_)
                clear hK K hS
                have hS := hS2
                clear hS2
                try simp only [Act.put, List.setIfInBounds_toArray, List.set_cons_zero, List.set_cons_succ]
                (refine Org.yes (v := ?_) rfl (by kernel_rfl) (by kernel_rfl) (by kernel_rfl) (by kernel_rfl) (by kernel_rfl) (fun _ _ _ h => h) (by kernel_rfl) (SM.of hS) ?_ ?_; rotate_left; (focus (intro w hSw; (try dsimp only at hSw); refine Pure.val ?_; go_simp; (try with_reducible rfl); done)); try simp only [Act.put, List.setIfInBounds_toArray, List.set_cons_zero, List.set_cons_succ])
                refine Org.done (by kernel_rfl) ?_
                go_wp2_with fail
                go_meet
                exact ⟨A9, c9, _, rfl, own_cap HO9.out, (HRX.out.snoc (Sl.own HO9.out) hS hS.size (c1 := c7) (c2 := 1) hc7a hc7b (HQC.out.below hS) rfl (HR64b.out.sl HR64b.out.lt (Nat.le_refl _)) HNC2.out), hS⟩
          case rest =>
          obtain ⟨A9, c9, ps9, rfl, ⟨hc91, hc92⟩, hr9, hb9⟩ := hcut
          have HR9 := hid hr9
          have HB9 := hid (HBX.out.trans (hb9.mono hzx))
          have hz9 := hb9.size
          have hmem : ∀ p ∈ oneRows vals N ++ [⟨q.cols, [y ^^^ xb]⟩], ColsOk (N : Int) p.cols ∧ p.data.length = 1 := fun p hp => by
            rcases List.mem_append.1 hp with h9 | h9
            · exact ⟨(one_made HLV.out p h9).1, made_len (one_made HLV.out) HLV.out p h9⟩
            · obtain rfl := List.mem_singleton.1 h9
              exact ⟨HQOK.out, rfl⟩
          have HMEM := hid hmem
          have HRP : Hid (RightP (N : Int) (oneRows vals N ++ [⟨q.cols, [y ^^^ xb]⟩])) := hid ⟨by omega, by omega, fun i hi => ⟨(hmem _ (mem_getD hi)).1, by rw [(hmem _ (mem_getD hi)).2, (hmem _ (mem_getD (Nat.lt_of_le_of_lt (Nat.zero_le i) hi))).2]⟩⟩
          clear hr9 hb9 hmem x0 x1 y1
          obtain ⟨w9, hw9⟩ : ∃ w9, wc = w9 := ⟨_, rfl⟩
          rw [hw9] at HR9 HB9 hz9 ⊢
          clear hw9
          go_wp2_with fail
          refine (peel_any (N : Int) w9.heap.size A9 (N + 1) c9 ps9 _ w9 HR9.out (Nat.le_refl _) (by omega) (by omega) (fun p hp x hx => by have := cols_bd (HMEM.out p hp).1 x hx; omega) (fun p hp => by have := cols_count (HMEM.out p hp).1; omega) (fun p hp => by rw [(HMEM.out p hp).2]; omega)).mono ?_
          rintro e w10 ⟨b10, hor⟩
          have HB10 := hid (HB9.out.trans (b10.mono (by omega)))
          rcases hor with ⟨hno, _⟩ | ⟨_, T, hT, hF, hor⟩
          · exact absurd HRP.out hno
          rw [Int.toNat_natCast] at hT
          have hce := clash_end HLV.out (by omega) HQOK.out HQD.out HY.out hT hF
          have HCE := hid hce
          clear hce hT hF b10
          rcases hor with ⟨hno, rfl⟩ | ⟨hs, vk, v5, vr, vs, ps2, rfl, ok, ov, orr⟩
          · have hx0 : xb ≠ 0#8 := fun h9 => hno (HCE.out.2 h9)
            have hb1 : ((xb.toNat : Int) != 0) = true := by
              have : xb.toNat ≠ 0 := fun h9 => hx0 (BitVec.eq_of_toNat_eq (by simpa using h9))
              simp; omega
            clear hno
            go_wp2_with fail
            go_roundw
            case rel => exact ⟨k + 1, by omega, by go_num, HB10.out⟩
            case measure => simp [intOf]; omega
          · have hx0 : xb = 0#8 := HCE.out.1 hs
            have hb1 : ((xb.toNat : Int) != 0) = false := by rw [hx0]; rfl
            clear hs ok ov orr hx0
            go_wp2_with fail
            go_roundw
            case rel => exact ⟨k + 1, by omega, by go_num, HB10.out⟩
            case measure => simp [intOf]; omega
        · obtain rfl : m = k := by omega
          have HBR2 := hid (HBW4.out.trans (hbr.mono (by omega)))
          have hneg : ¬ RightP (-(N : Int)) [] := fun h9 => absurd h9.1 (by omega)
          have HNEG := hid hneg
          clear hneg
          go_wp2_with fail
          refine (peel_any (-(N : Int)) wr.heap.size none 0 0 [] [] wr REqs.nil_ (Nat.le_refl _) (by omega) (by omega) (fun q hq => absurd hq (by simp)) (fun q hq => absurd hq (by simp)) (fun q hq => absurd hq (by simp))).mono ?_
          rintro e w11 ⟨b11, hor⟩
          rcases hor with ⟨_, rfl⟩ | ⟨hno, _⟩
          · have HB11 := hid (HBR2.out.trans (b11.mono (by omega)))
            have hz11 := b11.size
            clear b11
            go_wp2_with fail
            refine (wakes12 w11).mono ?_
            rintro e w12 ⟨rfl, hb12⟩
            go_wp2_with fail
            go_ret
            exact ⟨rfl, HB11.out.trans (hb12.mono (by omega))⟩
          · exact absurd hno HNEG.out
end Go.Proofs.YtmefbbpcfphciaaDoor
