/- DrvMore DrvSpoil Sorted -/
import Derived.BigRegion
import Derived.Deep.DeepCutAuto
import Derived.Test.YtlfmfhdgnmchgaaGreatBRoomTells03
import Derived.Test.YtlfmfhdgnmchgaaGreatBRoomTells09
import Derived.Test.YtlfmfhdgnmchgaaGreatBRoomTells14
set_option maxRecDepth 20000
set_option linter.unusedSimpArgs false
set_option linter.unusedVariables false
namespace Wells
def Dr.read (d : Dr) (i : Int) : List Byte := if 0 ≤ i ∧ i < d.L.length then d.L.getD i.toNat [] else []
end Wells
namespace Go.Proofs.YtlfmfhdgnmchgaaGreat
open Go.RowKit Wells
theorem dlose_any (F : Nat → Prop) (g pg : Nat) (d : Dr) (w : World) (h : DrvE F w g pg d) : Calls Tryz.prog 26 #[.pointer (some ⟨g, 0, none⟩)] w fun e w' => e = .returned (.tuple #[]) ∧ DrvE F w' g pg d.lose ∧ Only F w w' := by
  obtain ⟨lv, lvs, bv, bvs, h⟩ := h
  have c2 := h.row.cell 2
  have e2 : (drRow pg d (lv) (bv))[2]? = some (lv) := rfl
  rw [e2] at c2
  clear e2
  have f2 := h.row.frozen 2
  have c3 := h.row.cell 3
  have e3 : (drRow pg d (lv) (bv))[3]? = some (.int .i64 d.wait) := rfl
  rw [e3] at c3
  clear e3
  have f3 := h.row.frozen 3
  have c4 := h.row.cell 4
  have e4 : (drRow pg d (lv) (bv))[4]? = some (bv) := rfl
  rw [e4] at c4
  clear e4
  have f4 := h.row.frozen 4
  have c5 := h.row.cell 5
  have e5 : (drRow pg d (lv) (bv))[5]? = some (.bool d.has) := rfl
  rw [e5] at c5
  clear e5
  have f5 := h.row.frozen 5
  have c6 := h.row.cell 6
  have e6 : (drRow pg d (lv) (bv))[6]? = some (.bool d.lost) := rfl
  rw [e6] at c6
  clear e6
  have f6 := h.row.frozen 6
  have h1 := h.setLost true
  have h2 := h1.setL (Lst.nil_ F _) (fun k e => by cases e) (show Dist ([] ++ bvs) from dist_right h.dist)
  have hw := ((h2.setWait 0).noB).setHas false
  have ho : Only F w (((((w.setCell ⟨g, 6, none⟩ (.bool true)).setCell ⟨g, 2, none⟩ (.slice none 0 0)).setCell ⟨g, 3, none⟩ (.int .i64 (0 : Nat))).setCell ⟨g, 4, none⟩ (.slice none 0 0)).setCell ⟨g, 5, none⟩ (.bool false)) := (((((Only.refl F w).set h.fg 6 _).set h.fg 2 _).set h.fg 3 _).set h.fg 4 _).set h.fg 5 _
  clear h1 h2
  have HW := hid hw
  have HO := hid ho
  clear hw ho
  go_enter Tryz.func26, Tryz.ntmps26
  go_wp2_with fail
  go_end0
  exact ⟨rfl, ⟨_, _, _, _, HW.out⟩, HO.out⟩
theorem dread_any (F : Nat → Prop) (g pg : Nat) (d : Dr) (m : Nat) (i : Int) (w : World) (h : DrvE F w g pg d) (hok : DOk m d) (hi : -9223372036854775808 ≤ i ∧ i ≤ 9223372036854775807) :
    Calls Tryz.prog 69 #[.pointer (some ⟨g, 0, none⟩), .int .i64 i] w fun e w' => ∃ v, e = .returned v ∧ OB w.heap.size w' v (d.read i) ∧ Below w.heap.size w w' := by
  obtain ⟨lv, lvs, bv, bvs, h⟩ := h
  obtain ⟨A, c, rfl, _, _⟩ := h.l.own.form
  have c2 := h.row.cell 2
  have e2 : (drRow pg d ((.slice A d.L.length c)) (bv))[2]? = some ((.slice A d.L.length c)) := rfl
  rw [e2] at c2
  clear e2
  have hrd := h.l.own.read rfl
  have hln := hok.len
  have hrm := hok.room
  have HC := hid hok.cells
  by_cases h1 : i < 0
  · have hr : d.read i = [] := if_neg (by omega)
    rw [hr]
    go_enter Tryz.func69, Tryz.ntmps69
    go_wp2_with fail
    go_ret
    exact ⟨_, rfl, World.ownsRow_nil _ _ _ _, Below.refl _ _⟩
  by_cases h2 : i < (d.L.length : Int)
  · obtain ⟨k, rfl⟩ : ∃ k : Nat, i = (k : Int) := ⟨i.toNat, by omega⟩
    have hk : k < d.L.length := by omega
    obtain ⟨b, o, A1, c1, rfl, hb, hc, hl1, hc1, sl1⟩ := hrd.get hk
    have hr : d.read (k : Int) = d.L.getD k [] := if_pos ⟨by omega, by omega⟩
    have hx : (d.L.getD k []).length ≤ 1048576 := by
      rw [List.getD_eq_getElem?_getD, List.getElem?_eq_getElem hk]
      have := HC.out _ (List.getElem_mem hk)
      simp only [Option.getD_some]
      omega
    rw [hr]
    generalize d.L.getD k [] = x at *
    obtain ⟨lx, hlx⟩ : ∃ n, x.length = n := ⟨_, rfl⟩
    rw [hlx] at hc hl1 sl1 hx
    clear hlx h1
    have h1 : ¬ ((k : Int) < 0) := by omega
    have h3 : ¬ ((d.L.length : Int) ≤ (k : Int)) := by omega
    go_enter Tryz.func69, Tryz.ntmps69
    go_wp2_with fail
    refine (clone_any _ A1 x lx c1 w sl1 (Nat.le_refl _) hx).mono ?_
    rintro e w2 ⟨v, rfl, ho, hb2⟩
    go_wp2_with fail
    go_ret
    exact ⟨v, rfl, ho, hb2⟩
  · have hr : d.read i = [] := if_neg (by omega)
    rw [hr]
    have h3 : (d.L.length : Int) ≤ i := by omega
    go_enter Tryz.func69, Tryz.ntmps69
    go_wp2_with fail
    go_ret
    exact ⟨_, rfl, World.ownsRow_nil _ _ _ _, Below.refl _ _⟩
end Go.Proofs.YtlfmfhdgnmchgaaGreat

namespace Wells
open Go Go.RowKit
theorem ownrow_ {w : World} {base size n : Nat} {t : TypeId} {v : Value} {xs : List Value} (h : w.ownsRow base t size v n xs) (hn : 0 < n) :
    ∃ g c cur, v = .slice (some ⟨g, 0, none⟩) n c ∧ base ≤ g ∧ Row w g t cur ∧ cur.length = c * size ∧ cur.take (n * size) = xs ∧ n ≤ c ∧ c ≤ maxLen := by
  rcases h.2 with ⟨hv, h0⟩ | ⟨g, cap, cur, hv, hb, hg, hn', hc, hs, ht⟩
  · omega
  · exact ⟨g, cap, cur.toList, hv, hb, by simpa [Row] using hg, by simpa using hs, by simpa using ht, hn', hc⟩
theorem ownset_ {w : World} {base size n c g i : Nat} {t : TypeId} {xs : List Value} (h : w.ownsRow base t size (.slice (some ⟨g, 0, none⟩) n c) n xs) (hn : 0 < n) (u : Value) :
    (w.setCell ⟨g, i, none⟩ u).ownsRow base t size (.slice (some ⟨g, 0, none⟩) n c) n (xs.set i u) := by
  obtain ⟨g', c', cur, e, hb, hr, hcl, hct, hnc, hcm⟩ := ownrow_ h hn
  injection e with e e2 e3
  injection e with e
  injection e with e _ _
  subst e e3
  refine ⟨by rw [List.length_set]; exact h.1, .inr ⟨g, c, (cur.set i u).toArray, rfl, hb, hr.set i _, hnc, hcm, by simpa using hcl, ?_⟩⟩
  rw [← hct]
  simp only [List.toList_toArray, List.take_set]
theorem x8s (a b : BitVec 8) : bits .xor .u8 (a.toNat : Int) (b.toNat : Int) = ((a ^^^ b).toNat : Int) := by
  rw [u8_xor_nat _ _ a.isLt b.isLt, BitVec.toNat_xor]
end Wells
namespace Go.Proofs.YtlfmfhdgnmchgaaGreat
open Go.RowKit Wells
/-- where one byte of one cell lies -/
theorem Drv.at_ {F : Nat → Prop} {w : World} {g pg : Nat} {bv : Value} {lvs bvs : List Value} {d : Dr} {gl nl cl gi n ci i k : Nat} {x : List Byte} (h : Drv F w g pg (.slice (some ⟨gl, 0, none⟩) nl cl) lvs bv bvs d) (hnl : d.L.length = nl) (hi : i < nl)
    (hv : lvs.getD i undef = .slice (some ⟨gi, 0, none⟩) n ci) (hx : d.L.getD i [] = x) (hn : x.length = n) (hk : k < n) :
    w.cell? ⟨g, 2, none⟩ = some (.slice (some ⟨gl, 0, none⟩) nl cl) ∧ w.cell? ⟨gl, i, none⟩ = some (.slice (some ⟨gi, 0, none⟩) n ci) ∧ w.cell? ⟨gi, k, none⟩ = some (.int .u8 ((x.getD k 0).toNat : Int)) ∧ w.frozen? ⟨gi, k, none⟩ = false := by
  have hll := h.l.len
  obtain ⟨gl', cl', curl, el, _, hrl, hcl1, hcl2, _, _⟩ := ownrow_ h.l.own.own (by omega)
  injection el with el _ el2
  injection el with el
  injection el with el _ _
  subst el
  obtain ⟨gi', ci', cur, ei, _, hri, _, hci, _, _⟩ := ownrow_ (h.l.own.at_ i (by omega)) (by rw [hx]; omega)
  rw [hv] at ei
  injection ei with ei _ ei2
  injection ei with ei
  injection ei with ei _ _
  subst ei
  rw [hx] at hci
  refine ⟨h.row.cell 2, ?_, ?_, hri.frozen k⟩
  · rw [hrl.cell, ← hv, ← List.getElem?_take_of_lt (show i < d.L.length * 1 by omega), hcl2]
    simp [List.getD_eq_getElem?_getD, show i < lvs.length by omega]
  · rw [hri.cell, ← List.getElem?_take_of_lt (show k < x.length * 1 by omega), hci, List.getElem?_map]
    rw [List.getD_eq_getElem?_getD, List.getElem?_eq_getElem (show k < x.length by omega)]
    rfl
end Go.Proofs.YtlfmfhdgnmchgaaGreat

namespace Wells
open Go Go.RowKit
/-- in order up to m, but for what stands at k -/
def BarK (l : List Int) (m k : Nat) : Prop := ∀ a b, a < b → b < m → b ≠ k → l.getD a 0 ≤ l.getD b 0
def Upto (l : List Int) (m : Nat) : Prop := ∀ a b, a < b → b < m → l.getD a 0 ≤ l.getD b 0
def swapI (l : List Int) (k : Nat) : List Int := (l.set k (l.getD (k - 1) 0)).set (k - 1) (l.getD k 0)
theorem getD_set_eq (l : List Int) (i : Nat) (x : Int) (h : i < l.length) : (l.set i x).getD i 0 = x := by simp [List.getD_eq_getElem?_getD, h]
theorem getD_set_ne (l : List Int) (i j : Nat) (x : Int) (h : i ≠ j) : (l.set i x).getD j 0 = l.getD j 0 := by simp [List.getD_eq_getElem?_getD, List.getElem?_set_ne h]
theorem swapI_len (l : List Int) (k : Nat) : (swapI l k).length = l.length := by simp [swapI]
theorem swapI_at {l : List Int} {k j : Nat} (hk : 0 < k) (hl : k < l.length) : (swapI l k).getD j 0 = if j = k - 1 then l.getD k 0 else if j = k then l.getD (k - 1) 0 else l.getD j 0 := by
  unfold swapI
  by_cases h1 : j = k - 1
  · rw [if_pos h1, h1, getD_set_eq _ _ _ (by simp; omega)]
  · rw [if_neg h1, getD_set_ne _ _ _ _ (fun e => h1 e.symm)]
    by_cases h2 : j = k
    · rw [if_pos h2, h2, getD_set_eq _ _ _ hl]
    · rw [if_neg h2, getD_set_ne _ _ _ _ (fun e => h2 e.symm)]
theorem swapI_mem {l : List Int} {k : Nat} (hk : 0 < k) (hl : k < l.length) : ∀ z ∈ swapI l k, z ∈ l := fun z hz => by
  obtain ⟨j, hj, rfl⟩ := List.getElem_of_mem hz
  rw [swapI_len] at hj
  have h := swapI_at (j := j) hk hl
  rw [List.getD_eq_getElem?_getD, List.getElem?_eq_getElem (by rw [swapI_len]; exact hj)] at h
  simp only [Option.getD_some] at h
  rw [h]
  have hm : ∀ i, i < l.length → l.getD i 0 ∈ l := fun i hi => by rw [List.getD_eq_getElem?_getD, List.getElem?_eq_getElem hi]; exact List.getElem_mem _
  split
  · exact hm _ hl
  · split
    · exact hm _ (by omega)
    · exact hm _ hj
theorem BarK.swap {l : List Int} {m k : Nat} (h : BarK l m k) (hk : 0 < k) (hl : k < l.length) (hkm : k < m) (hlt : l.getD k 0 < l.getD (k - 1) 0) : BarK (swapI l k) m (k - 1) := by
  intro a b hab hb hne
  rw [swapI_at hk hl, swapI_at hk hl, if_neg hne]
  by_cases hbk : b = k
  · rw [if_pos hbk]
    by_cases ha : a = k - 1
    · rw [if_pos ha]; omega
    · rw [if_neg ha, if_neg (by omega)]
      exact h a (k - 1) (by omega) (by omega) (by omega)
  · rw [if_neg hbk]
    by_cases ha : a = k - 1
    · rw [if_pos ha]
      by_cases hkb : k < b
      · exact h k b hkb hb (by omega)
      · omega
    · rw [if_neg ha]
      by_cases ha2 : a = k
      · rw [if_pos ha2]
        exact h (k - 1) b (by omega) hb (by omega)
      · rw [if_neg ha2]
        exact h a b hab hb (by omega)
theorem Upto.bar {l : List Int} {m : Nat} (h : Upto l m) : BarK l (m + 1) m := fun a b hab hb hne => h a b hab (by omega)
theorem BarK.upto {l : List Int} {m k : Nat} (h : BarK l m k) (hs : k = 0 ∨ l.getD (k - 1) 0 ≤ l.getD k 0) : Upto l m := fun a b hab hb => by
  by_cases hne : b = k
  · subst hne
    rcases hs with h0 | h1
    · omega
    · by_cases ha : a = b - 1
      · subst ha; exact h1
      · have := h a (b - 1) (by omega) (by omega) (by omega)
        omega
  · exact h a b hab hb hne
theorem own_rowI {w : World} {base n : Nat} {t : TypeId} {v : Value} {xs : List Value} (h : w.ownsRow base t 1 v n xs) (hn : 0 < n) :
    ∃ g c cur, v = .slice (some ⟨g, 0, none⟩) n c ∧ base ≤ g ∧ Row w g t cur ∧ cur.length = c ∧ cur.take n = xs ∧ n ≤ c ∧ c ≤ maxLen := by
  rcases h.2 with ⟨hv, h0⟩ | ⟨g, cap, cur, hv, hb, hg, hn', hc, hs, ht⟩
  · omega
  · refine ⟨g, cap, cur.toList, hv, hb, by simpa [Row] using hg, by simpa using hs, by simpa using ht, hn', hc⟩
theorem own_setI {w : World} {base n c g i : Nat} {t : TypeId} {xs : List Value} (h : w.ownsRow base t 1 (.slice (some ⟨g, 0, none⟩) n c) n xs) (hi : i < n) (u : Value) :
    (w.setCell ⟨g, i, none⟩ u).ownsRow base t 1 (.slice (some ⟨g, 0, none⟩) n c) n (xs.set i u) := by
  obtain ⟨g', c', cur, e, hb, hr, hcl, hct, hnc, hcm⟩ := own_rowI h (by omega)
  injection e with e e2 e3
  injection e with e
  injection e with e _ _
  subst e e3
  refine ⟨by have := h.1; simpa using this, .inr ⟨g, c, (cur.set i u).toArray, rfl, hb, hr.set i _, hnc, hcm, by simpa using hcl, ?_⟩⟩
  rw [← hct]
  simp only [Nat.mul_one, List.toList_toArray, List.take_set]
end Wells
namespace Go.Proofs.YtlfmfhdgnmchgaaGreat
open Go.RowKit Wells
theorem infoI4 : (Tryz.prog.info? 3).map (fun i => (i.zero, i.size, i.bytes)) = some (some (.int .i64 0), 1, 8) := by kernel_rfl
set_option maxRecDepth 20000 in
set_option maxHeartbeats 4000000 in
theorem sorted_any (B : Nat) (A : Option Addr) (l : List Int) (n c : Nat) (w : World) (h : Sl w B 1 A n (l.map iv)) (hB : B ≤ w.heap.size) (hn : n ≤ 1048576) :
    Calls Tryz.prog 72 #[.slice A n c] w fun e w' => ∃ A' c' l', e = .returned (.slice A' n c') ∧ w'.ownsRow w.heap.size 3 1 (.slice A' n c') n (l'.map iv) ∧ Upto l' n ∧ (∀ z ∈ l', z ∈ l) ∧ Below w.heap.size w w' := by
  obtain ⟨i0, hi, hz0, hz1, hz2⟩ := info_parts infoI4
  have HL := hid (show l.length = n by have := h.len; simpa using this)
  have h1c : ∀ u ∈ l.map iv, u.oneCell' = true := fun u hu => by
    obtain ⟨z, _, rfl⟩ := List.mem_map.1 hu
    rfl
  go_enter Tryz.func72, Tryz.ntmps72
  go_wp2_with (at_builtin; go_must (refine wpl_append rfl (.const (.slice none 0 0)) (.tmp 6) 22 rfl w.heap.size 3 i0 (.int .i64 0) 1 8 Tryz.underlying22 hi hz0 hz1 hz2 rfl (by omega) _ 0 [] rfl (World.ownsRow_nil _ _ _ _) B A n c (l.map iv) rfl h h1c n (by omega) (l.map iv) rfl (by omega) (by omega) (Nat.le_refl _) ?_); intro A1 c1 w1 o1 g1 wh1)
  have hb1 : Below w.heap.size w w1 := below_own (Below.refl _ _) (World.ownsRow_nil w w.heap.size 3 1) g1 (Nat.le_refl _) (Nat.le_refl _)
  clear g1 wh1
  go_loopw [10] (fun i wr => ∃ (k : Nat) (l' : List Int), k ≤ n ∧ i = .int .i64 (k : Int) ∧ wr.ownsRow w.heap.size 3 1 (.slice A1 n c1) n (l'.map iv) ∧ Upto l' k ∧ (∀ z ∈ l', z ∈ l) ∧ Below w.heap.size w wr) (fun i _ => n - (intOf i).toNat)
  case atStart => exact ⟨0, l, Nat.zero_le _, rfl, o1, (fun a b _ hb => absurd hb (by omega)), (fun z hz => hz), hb1⟩
  case round =>
    obtain ⟨i, li, hin, rfl, hoi, hui, hmi, hbi⟩ := hrel
    by_cases hlt : i < n
    · obtain ⟨g, c', cur, hv, hg, _⟩ := own_rowI hoi (by omega)
      injection hv with hv e2 e3
      subst hv
      clear e2 e3
      have HU := hid hui
      have HM := hid hmi
      have HO := hid hoi
      have HBI := hid hbi
      clear hui hmi hoi hbi o1
      obtain ⟨wo, hwo⟩ : ∃ wo, wo = wr := ⟨_, rfl⟩
      rw [← hwo] at HO HBI
      go_wp2_with fail
      go_loopw [5] (fun k wx => ∃ (p : Nat) (l' : List Int), p ≤ i ∧ k = .int .i64 (p : Int) ∧ wx.ownsRow w.heap.size 3 1 (.slice (some ⟨g, 0, none⟩) n c1) n (l'.map iv) ∧ BarK l' (i + 1) p ∧ (∀ z ∈ l', z ∈ l) ∧ Below w.heap.size w wx) (fun k _ => (intOf k).toNat)
      case atStart => exact ⟨i, li, Nat.le_refl _, rfl, by rw [← hwo]; exact HO.out, HU.out.bar, HM.out, by rw [← hwo]; exact HBI.out⟩
      case round =>
        obtain ⟨p, l', hp, rfl, ho, hba, hme, hb⟩ := hrel
        have hl' : l'.length = n := by have := ho.1; simpa using this
        obtain ⟨_, _, cur', hv, _, hr, hcl, hct, hnc, _⟩ := own_rowI ho (by omega)
        injection hv with hv e2 e3
        injection hv with hv
        injection hv with hv e4 e5
        subst hv
        clear e2 e3 e4 e5
        have HL' := hid hl'
        have HBA := hid hba
        have HME := hid hme
        have HO' := hid ho
        have HB' := hid hb
        have hcell : ∀ j, j < n → wr.cell? ⟨g, j, none⟩ = some (.int .i64 (l'.getD j 0)) := fun j hj => by
          rw [hr.cell, ← List.getElem?_take_of_lt hj, hct]
          exact ivs_get l' j (by omega)
        have hfz : ∀ j, wr.frozen? ⟨g, j, none⟩ = false := fun j => hr.frozen j
        have HCE := hid hcell
        have HFZ := hid hfz
        clear hl' hba hme ho hb hcell hfz hr hcl hct
        rcases Nat.eq_zero_or_pos p with hp0 | hp0
        · subst hp0
          go_wp2_with fail
          go_quiet (fail)
          go_wp2_with fail
          go_roundw
          case rel => exact ⟨i + 1, l', by omega, by go_num, HO'.out, HBA.out.upto (.inl rfl), HME.out, below_drewN HB'.out _⟩
          case measure => simp [intOf]; omega
        · obtain ⟨q, rfl⟩ : ∃ q, p = q + 1 := ⟨p - 1, by omega⟩
          have cq1 := HCE.out (q + 1) (by omega)
          have cq0 := HCE.out q (by omega)
          have z1 := HFZ.out (q + 1)
          have z0 := HFZ.out q
          obtain ⟨x, hx⟩ : ∃ x, l'.getD (q + 1) 0 = x := ⟨_, rfl⟩
          obtain ⟨y, hy⟩ : ∃ y, l'.getD q 0 = y := ⟨_, rfl⟩
          rw [hx] at cq1
          rw [hy] at cq0
          have HX := hid hx
          have HY := hid hy
          clear hx hy
          have k0 : (0 : Int) < (q : Int) + 1 := by omega
          have k1 : (0 : Int) ≤ (q : Int) + 1 := by omega
          have k2 : (q : Int) + 1 < (n : Int) := by omega
          have k3 : (0 : Int) ≤ (q : Int) := by omega
          have k4 : (q : Int) < (n : Int) := by omega
          have k5 : ((q : Int) + 1).toNat = q + 1 := by omega
          have k6 : IntKind.i64.wrap (q : Int) = (q : Int) := by rw [IntKind.wrap_i64]; omega
          have k7 : ((q : Int) + 1 - 1) = (q : Int) := by omega
          by_cases hxy : x < y
          · go_wp2_with fail
            go_quiet (fail)
            go_wp2_with fail
            refine Org.begin [15, 17] (fun w' => w'.cell? ⟨g, q + 1, none⟩ = some (.int .i64 x) ∧ w'.cell? ⟨g, q, none⟩ = some (.int .i64 y)) [0, 1, 2, 3, 4, 5, 6, 7, 8, 9, 10, 11, 12, 13, 14, 15, 16, 17] (by kernel_rfl) (⟨cq1, cq0⟩) (fun hS => ?_)
            (refine Org.yes (v := ?_) rfl (by kernel_rfl) (by kernel_rfl) (by kernel_rfl) (by kernel_rfl) (by kernel_rfl) (fun _ _ _ h => h) (by kernel_rfl) (SM.of hS) ?_ ?_; rotate_left; (focus (intro w hSw; (try dsimp only at hSw); refine Pure.val ?_; go_simp; (try with_reducible rfl); done)); try simp only [Act.put, List.setIfInBounds_toArray, List.set_cons_zero, List.set_cons_succ])
            (refine Org.yes (v := ?_) rfl (by kernel_rfl) (by kernel_rfl) (by kernel_rfl) (by kernel_rfl) (by kernel_rfl) (fun _ _ _ h => h) (by kernel_rfl) (SM.of hS) ?_ ?_; rotate_left; (focus (intro w hSw; (try dsimp only at hSw); refine Pure.val ?_; go_simp; (try with_reducible rfl); done)); try simp only [Act.put, List.setIfInBounds_toArray, List.set_cons_zero, List.set_cons_succ])
            (refine Org.free (v := ?_) rfl (by kernel_rfl) (by kernel_rfl) (by kernel_rfl) (by kernel_rfl) (by kernel_rfl) (fun _ _ _ h => h) (by kernel_rfl) (SM.of hS) ?_ ?_; rotate_left; (focus (intro w; refine Pure.val ?_; go_simp; (try with_reducible rfl); done)); try simp only [Act.put, List.setIfInBounds_toArray, List.set_cons_zero, List.set_cons_succ])
            (refine Org.free (v := ?_) rfl (by kernel_rfl) (by kernel_rfl) (by kernel_rfl) (by kernel_rfl) (by kernel_rfl) (fun _ _ _ h => h) (by kernel_rfl) (SM.of hS) ?_ ?_; rotate_left; (focus (intro w; refine Pure.val ?_; go_simp; (try with_reducible rfl); done)); try simp only [Act.put, List.setIfInBounds_toArray, List.set_cons_zero, List.set_cons_succ])
            (refine Org.free (v := ?_) rfl (by kernel_rfl) (by kernel_rfl) (by kernel_rfl) (by kernel_rfl) (by kernel_rfl) (fun _ _ _ h => h) (by kernel_rfl) (SM.of hS) ?_ ?_; rotate_left; (focus (intro w; refine Pure.val ?_; go_simp; (try with_reducible rfl); done)); try simp only [Act.put, List.setIfInBounds_toArray, List.set_cons_zero, List.set_cons_succ])
            (refine Org.yes (v := ?_) rfl (by kernel_rfl) (by kernel_rfl) (by kernel_rfl) (by kernel_rfl) (by kernel_rfl) (fun _ _ _ h => h) (by kernel_rfl) (SM.of hS) ?_ ?_; rotate_left; (focus (intro w hSw; (try dsimp only at hSw); refine Pure.val ?_; go_simp; (try with_reducible rfl); done)); try simp only [Act.put, List.setIfInBounds_toArray, List.set_cons_zero, List.set_cons_succ])
            (refine Org.yes (v := ?_) rfl (by kernel_rfl) (by kernel_rfl) (by kernel_rfl) (by kernel_rfl) (by kernel_rfl) (fun _ _ _ h => h) (by kernel_rfl) (SM.of hS) ?_ ?_; rotate_left; (focus (intro w hSw; (try dsimp only at hSw); refine Pure.val ?_; go_simp; (try with_reducible rfl); done)); try simp only [Act.put, List.setIfInBounds_toArray, List.set_cons_zero, List.set_cons_succ])
            (refine Org.yes (v := ?_) rfl (by kernel_rfl) (by kernel_rfl) (by kernel_rfl) (by kernel_rfl) (by kernel_rfl) (fun _ _ _ h => h) (by kernel_rfl) (SM.of hS) ?_ ?_; rotate_left; (focus (intro w hSw; (try dsimp only at hSw); refine Pure.val ?_; go_simp; (try with_reducible rfl); done)); try simp only [Act.put, List.setIfInBounds_toArray, List.set_cons_zero, List.set_cons_succ])
            (refine Org.yes (v := ?_) rfl (by kernel_rfl) (by kernel_rfl) (by kernel_rfl) (by kernel_rfl) (by kernel_rfl) (fun _ _ _ h => h) (by kernel_rfl) (SM.of hS) ?_ ?_; rotate_left; (focus (intro w hSw; (try dsimp only at hSw); refine Pure.val ?_; go_simp; (try with_reducible rfl); done)); try simp only [Act.put, List.setIfInBounds_toArray, List.set_cons_zero, List.set_cons_succ])
            (refine Org.yes (v := ?_) rfl (by kernel_rfl) (by kernel_rfl) (by kernel_rfl) (by kernel_rfl) (by kernel_rfl) (fun _ _ _ h => h) (by kernel_rfl) (SM.of hS) ?_ ?_; rotate_left; (focus (intro w hSw; (try dsimp only at hSw); refine Pure.val ?_; go_simp; (try with_reducible rfl); done)); try simp only [Act.put, List.setIfInBounds_toArray, List.set_cons_zero, List.set_cons_succ])
            (refine Org.free (v := ?_) rfl (by kernel_rfl) (by kernel_rfl) (by kernel_rfl) (by kernel_rfl) (by kernel_rfl) (fun _ _ _ h => h) (by kernel_rfl) (SM.of hS) ?_ ?_; rotate_left; (focus (intro w; refine Pure.val ?_; go_simp; (try with_reducible rfl); done)); try simp only [Act.put, List.setIfInBounds_toArray, List.set_cons_zero, List.set_cons_succ])
            (refine Org.free (v := ?_) rfl (by kernel_rfl) (by kernel_rfl) (by kernel_rfl) (by kernel_rfl) (by kernel_rfl) (fun _ _ _ h => h) (by kernel_rfl) (SM.of hS) ?_ ?_; rotate_left; (focus (intro w; refine Pure.val ?_; go_simp; (try with_reducible rfl); done)); try simp only [Act.put, List.setIfInBounds_toArray, List.set_cons_zero, List.set_cons_succ])
            (refine Org.free (v := ?_) rfl (by kernel_rfl) (by kernel_rfl) (by kernel_rfl) (by kernel_rfl) (by kernel_rfl) (fun _ _ _ h => h) (by kernel_rfl) (SM.of hS) ?_ ?_; rotate_left; (focus (intro w; refine Pure.val ?_; go_simp; (try with_reducible rfl); done)); try simp only [Act.put, List.setIfInBounds_toArray, List.set_cons_zero, List.set_cons_succ])
            (refine Org.yes (v := ?_) rfl (by kernel_rfl) (by kernel_rfl) (by kernel_rfl) (by kernel_rfl) (by kernel_rfl) (fun _ _ _ h => h) (by kernel_rfl) (SM.of hS) ?_ ?_; rotate_left; (focus (intro w hSw; (try dsimp only at hSw); refine Pure.val ?_; go_simp; (try with_reducible rfl); done)); try simp only [Act.put, List.setIfInBounds_toArray, List.set_cons_zero, List.set_cons_succ])
            (refine Org.yes (v := ?_) rfl (by kernel_rfl) (by kernel_rfl) (by kernel_rfl) (by kernel_rfl) (by kernel_rfl) (fun _ _ _ h => h) (by kernel_rfl) (SM.of hS) ?_ ?_; rotate_left; (focus (intro w hSw; (try dsimp only at hSw); refine Pure.val ?_; go_simp; (try with_reducible rfl); done)); try simp only [Act.put, List.setIfInBounds_toArray, List.set_cons_zero, List.set_cons_succ])
            refine Org.mark (p := 15) rfl (by kernel_rfl) (by kernel_rfl) (by kernel_rfl) (by kernel_rfl) (fun K hK => ?_)
            go_simp
            refine hK.out _ _ ?_
            clear hK K hS
            try simp only [Act.put, List.setIfInBounds_toArray, List.set_cons_zero, List.set_cons_succ]
            (refine Org.free (v := ?_) rfl (by kernel_rfl) (by kernel_rfl) (by kernel_rfl) (by kernel_rfl) (by kernel_rfl) (fun _ _ _ h => h) (by kernel_rfl) (SM.past (p := 15) (by kernel_rfl) (by kernel_rfl)) ?_ ?_; rotate_left; (focus (intro w; refine Pure.val ?_; go_simp; (try with_reducible rfl); done)); try simp only [Act.put, List.setIfInBounds_toArray, List.set_cons_zero, List.set_cons_succ])
            refine Org.mark (p := 15) rfl (by kernel_rfl) (by kernel_rfl) (by kernel_rfl) (by kernel_rfl) (fun K hK => ?_)
            go_simp
            refine hK.out _ _ ?_
            clear hK K
            try simp only [Act.put, List.setIfInBounds_toArray, List.set_cons_zero, List.set_cons_succ]
            refine Org.done (by kernel_rfl) ?_
            have how : ((wr.drewN nq).drew).ownsRow w.heap.size 3 1 (.slice (some ⟨g, 0, none⟩) n c1) n (l'.map iv) := HO'.out
            have ho2 := own_setI (own_setI how (show q + 1 < n by omega) (iv y)) (show q < n by omega) (iv x)
            have hsw : ((l'.map iv).set (q + 1) (iv y)).set q (iv x) = (swapI l' (q + 1)).map iv := by
              unfold swapI
              rw [Nat.add_sub_cancel, HX.out, HY.out, List.map_set, List.map_set]
            rw [hsw] at ho2
            have hb2 := ((below_drew' (below_drewN HB'.out nq)).setCell (p := (⟨g, q + 1, none⟩ : Addr)) (by assumption) (iv y)).setCell (p := (⟨g, q, none⟩ : Addr)) (by assumption) (iv x)
            have hlt2 : l'.getD (q + 1) 0 < l'.getD (q + 1 - 1) 0 := by rw [Nat.add_sub_cancel, HX.out, HY.out]; exact hxy
            have hba2 := HBA.out.swap (by omega) (show q + 1 < l'.length by rw [HL'.out]; omega) (by omega) hlt2
            rw [Nat.add_sub_cancel] at hba2
            have hme2 := fun z hz => HME.out z (swapI_mem (by omega) (show q + 1 < l'.length by rw [HL'.out]; omega) z hz)
            have HO2 := hid ho2
            have HB2 := hid hb2
            have HBA2 := hid hba2
            have HME2 := hid hme2
            clear how ho2 hsw hb2 hlt2 hba2 hme2 k0 k1 k2 k3 k4 k5 k6 k7
            go_wp2_with fail
            go_roundw
            case rel => exact ⟨q, swapI l' (q + 1), by omega, by first | rfl | go_num, HO2.out, HBA2.out, HME2.out, HB2.out⟩
            case measure => simp [intOf]
          · have hxn : decide (x < y) = false := by simpa using hxy
            have hle : y ≤ x := by omega
            go_wp2_with fail
            go_quiet (fail)
            go_wp2_with fail
            go_roundw
            case rel => exact ⟨i + 1, l', by omega, by go_num, HO'.out, HBA.out.upto (.inr (by rw [Nat.add_sub_cancel, HX.out, HY.out]; exact hle)), HME.out, below_drewN HB'.out _⟩
            case measure => simp [intOf]; omega
    · obtain rfl : i = n := by omega
      have HU := hid hui
      have HM := hid hmi
      have HBI := hid hbi
      go_wp2_with fail
      go_ret
      exact ⟨A1, c1, li, rfl, hoi, HU.out, HM.out, HBI.out⟩
end Go.Proofs.YtlfmfhdgnmchgaaGreat

