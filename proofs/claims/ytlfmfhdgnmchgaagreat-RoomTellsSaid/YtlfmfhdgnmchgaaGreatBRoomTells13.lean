/- Mani4 Counts StableNil -/
import Derived.WalkLawsBesides
import Derived.Test.YtlfmfhdgnmchgaaGreatBRoomTells03
import Derived.Test.YtlfmfhdgnmchgaaGreatBRoomTells12
set_option maxRecDepth 20000
set_option linter.unusedSimpArgs false
set_option linter.unusedVariables false
namespace Wells
open Go Go.RowKit
theorem objs_no {es : List Ent} {o : Int} {k : Nat} (hk : k < es.length) (h : (es.getD k default).obj = o) : es.all (fun y => !decide (y.obj = o)) = false := by
  rw [List.all_eq_false]
  refine ⟨es.getD k default, ?_, by rw [decide_eq_true h]; simp⟩
  rw [List.getD_eq_getElem?_getD, List.getElem?_eq_getElem hk]; exact List.getElem_mem _
theorem objs_yes {es : List Ent} {o : Int} (h : ∀ k, k < es.length → ¬ (es.getD k default).obj = o) : es.all (fun y => !decide (y.obj = o)) = true := by
  rw [List.all_eq_true]
  intro c hc
  obtain ⟨k, hk, rfl⟩ := List.getElem_of_mem hc
  have := h k hk
  rw [List.getD_eq_getElem?_getD, List.getElem?_eq_getElem hk] at this
  simpa using this
end Wells
namespace Go.Proofs.YtlfmfhdgnmchgaaGreat
open Go.RowKit Wells
theorem sameobj_any (y : Ent) (A : Option Addr) (n c : Nat) (gx : Nat) (o : Int) (b : Bool) (w : World) (hx : w.cell? ⟨gx, 1, none⟩ = some (.int .i64 o)) (hb : decide (y.obj = o) = b) :
    Calls Tryz.prog 93 #[y.val (.slice A n c), .pointer (some ⟨gx, 0, none⟩)] w fun e w' => e = .returned (.bool b) ∧ Below w.heap.size w w' := by
  have HB := hid hb
  have hce := ECells.new w 69 y (.slice A n c)
  have hb1 := (Below.refl w.heap.size w).alloc (Nat.le_refl _) (entObj 69 y (.slice A n c))
  have hx1 := cell_keep hb1 hx
  obtain ⟨e0, e1, e2, e3⟩ := hce
  clear hb hx
  unfold Ent.val
  go_enter Tryz.func93, Tryz.ntmps93
  go_wp2_with fail
  go_ret
  exact ⟨ret_bool (by rw [← HB.out]; first | rfl | (by_cases hq : y.obj = o <;> simp [hq])), hb1⟩
theorem idxobj_any (B : Nat) (A : Option Addr) (n c : Nat) (ts : List Value) (es : List Ent) (gx : Nat) (o : Int) (b : Bool) (w : World) (h : REs w B A n ts es) (hB : B ≤ w.heap.size) (hn : n ≤ 9223372036854775807) (hx : w.cell? ⟨gx, 1, none⟩ = some (.int .i64 o)) (hb : es.all (fun y => !decide (y.obj = o)) = b) :
    Calls Tryz.prog 103 #[.slice A n c, .func (Fn.func 93) #[] #[.pointer (some ⟨gx, 0, none⟩)]] w fun e w' => (∃ r : Int, e = .returned (.int .i64 r) ∧ decide (0 ≤ r) = !b) ∧ Below w.heap.size w w' := by
  have HL := hid h.len
  have HB := hid hb
  have H := hid h
  have HX := hid hx
  clear hb h hx
  go_enter Tryz.func103, Tryz.ntmps103
  go_wp2_with fail
  go_loopw [8] (fun i wr => ∃ k : Nat, k ≤ n ∧ i = .int .i64 k ∧ Below w.heap.size w wr ∧ Hid (∀ j, j < k → ¬ (es.getD j default).obj = o)) (fun i _ => n - (intOf i).toNat)
  case atStart => exact ⟨0, Nat.zero_le _, rfl, Below.refl _ _, hid (fun j hj => absurd hj (by omega))⟩
  case round =>
    obtain ⟨k, hk, rfl, hbr, HK⟩ := hrel
    have hzr := hbr.size
    by_cases hlt : k < n
    · obtain ⟨bb, o', A', c', rfl, hbb, e0, e1, e2, e3, hc1, hc2, hsl⟩ := (H.out.below (hbr.mono hB)).get hlt
      have hxr : wr.cell? ⟨gx, 1, none⟩ = some (.int .i64 o) := (hbr.cell (p := ⟨gx, 1, none⟩) (World.block_lt_of_cell? w _ HX.out)).trans HX.out
      obtain ⟨x, hx⟩ : ∃ x, es.getD k default = x := ⟨_, rfl⟩
      have HXX := hid hx
      rw [hx] at e0 e1 e2 e3 hc1 hsl
      have HXR := hid hxr
      clear hx hxr hsl hc1
      by_cases hq : x.obj = o
      · have hno : b = false := by rw [← HB.out]; exact objs_no (k := k) (by rw [HL.out]; exact hlt) (by rw [HXX.out]; exact hq)
        subst hno
        have HQ := hid (decide_eq_true hq)
        clear hq
        go_wp2_with fail
        refine (sameobj_any x A' x.tries.length c' gx o true wr HXR.out HQ.out).mono ?_
        rintro e w3 ⟨rfl, hb3⟩
        have hb4 := hbr.trans (hb3.mono hzr)
        go_wp2_with fail
        go_ret
        exact ⟨⟨_, rfl, by simp⟩, hb4⟩
      · have HQ := hid (decide_eq_false hq)
        have HQ2 := hid hq
        clear hq
        go_wp2_with fail
        refine (sameobj_any x A' x.tries.length c' gx o false wr HXR.out HQ.out).mono ?_
        rintro e w3 ⟨rfl, hb3⟩
        have hb4 := hbr.trans (hb3.mono hzr)
        go_wp2_with fail
        go_roundw
        case rel => exact ⟨k + 1, by omega, by go_num, hb4, hid (fun j hj => by
          rcases Nat.lt_or_ge j k with h | h
          · exact HK.out j h
          · have e : j = k := by omega
            rw [e, HXX.out]; exact HQ2.out)⟩
        case measure => simp [intOf]; omega
    · obtain rfl : k = n := by omega
      have hyes : b = true := by rw [← HB.out]; exact objs_yes (fun j hj => HK.out j (by rw [HL.out] at hj; exact hj))
      subst hyes
      go_wp2_with fail
      go_ret
      exact ⟨⟨_, rfl, by simp⟩, hbr⟩
theorem hasobj_any (B : Nat) (A : Option Addr) (n c : Nat) (ts : List Value) (es : List Ent) (gx : Nat) (o : Int) (b : Bool) (w : World) (h : REs w B A n ts es) (hB : B ≤ w.heap.size) (hn : n ≤ 9223372036854775807) (hx : w.cell? ⟨gx, 1, none⟩ = some (.int .i64 o)) (hb : es.all (fun y => !decide (y.obj = o)) = b) :
    Calls Tryz.prog 84 #[.slice A n c, .func (Fn.func 93) #[] #[.pointer (some ⟨gx, 0, none⟩)]] w fun e w' => e = .returned (.bool (!b)) ∧ Below w.heap.size w w' := by
  have HX := hid hx
  clear hx
  go_enter Tryz.func84, Tryz.ntmps84
  go_wp2_with fail
  refine (idxobj_any B A n c ts es gx o b w h hB hn HX.out hb).mono ?_
  rintro e w3 ⟨⟨r, rfl, hr⟩, hb3⟩
  have HR := hid hr
  clear hr
  go_wp2_with fail
  go_ret
  exact ⟨ret_bool HR.out, hb3⟩
end Go.Proofs.YtlfmfhdgnmchgaaGreat

namespace Wells
open Go Go.RowKit
/-- does an entry tell a record's block and seed? -/
def cntE (r : Rec) (y : Ent) : Bool := decide (y.obj = r.O) && (decide (r.B < (y.tries.length : Int)) && decide (r.S = seedL r.O r.B (y.tries.getD r.B.toNat 0)))
def countsM (m : Mani) (r : Rec) : Bool := r.may && (decide (r.P = m.P) && m.objs.any (cntE r))
theorem par_ext {a b : Par} (h1 : a.K = b.K) (h2 : a.H = b.H) (h3 : a.S = b.S) : a = b := by
  cases a; cases b; simp only at h1 h2 h3; rw [h1, h2, h3]
end Wells
namespace Go.Proofs.YtlfmfhdgnmchgaaGreat
open Go.RowKit Wells
set_option maxHeartbeats 1000000 in
theorem cntone_any (r : Rec) (y : Ent) (A Ar : Option Addr) (n c nr cr gr B : Nat) (b : Bool) (w : World) (hr : Row w gr 75 [.int .i64 r.O, .int .i64 r.B, .int .i64 r.I, .int .i64 r.P.K, .int .i64 r.P.H, .int .i64 r.P.S, .int .u32 (r.S.toNat : Int), .slice Ar nr cr])
    (hs : Sl w B 1 A n (y.tries.map iv)) (hB : B ≤ w.heap.size) (hn : y.tries.length = n) (hb0 : 0 ≤ r.B) (hnb : n ≤ 9223372036854775807) (hb : cntE r y = b) :
    Calls Tryz.prog 85 #[y.val (.slice A n c), .pointer (some ⟨gr, 0, none⟩)] w fun e w' => e = .returned (.bool b) ∧ Below w.heap.size w w' := by
  have HB := hid hb
  have hce := ECells.new w 69 y (.slice A n c)
  have hb1 := (Below.refl w.heap.size w).alloc (Nat.le_refl _) (entObj 69 y (.slice A n c))
  have hr1 := hr.below hb1 hr.lt
  have hs1 := hs.below (hb1.mono hB)
  obtain ⟨e0, e1, e2, e3⟩ := hce
  have c0 := hr1.cell 0
  have c1 := hr1.cell 1
  have c4 := hr1.cell 6
  simp only [List.getElem?_cons_succ, List.getElem?_cons_zero] at c0 c1 c4
  have HBL := hid hb1
  have HS := hid hs1
  have HN := hid hn
  obtain ⟨O, rB, I, ⟨K, H, S⟩, sd, D⟩ := r
  obtain ⟨nm, yo, yl, tr⟩ := y
  simp only at *
  obtain ⟨k, rfl⟩ := Int.eq_ofNat_of_zero_le hb0
  clear hb hr hs hb1 hr1 hs1 hn
  unfold Ent.val
  unfold cntE at HB
  simp only at *
  by_cases h1 : yo = O
  · subst h1
    have t1 : (yo == yo) = true := by simp
    by_cases h2 : k < n
    · obtain ⟨bb, o, e9, hbb, hct⟩ := HS.out.get h2 (ints_get tr k (by rw [HN.out]; exact h2))
      subst e9
      have h2' : (k : Int) < (n : Int) := by omega
      obtain ⟨z, hz⟩ : ∃ z, tr.getD k 0 = z := ⟨_, rfl⟩
      rw [hz] at hct
      have HZ := hid hz
      clear hz
      by_cases h3 : sd = seedL yo k z
      · have hbt : b = true := by
          have := HB.out
          rw [Int.toNat_natCast, HZ.out, HN.out, decide_eq_true h3, decide_eq_true h2'] at this
          simpa using this.symm
        subst hbt
        have t3 : ((sd.toNat : Int) == ((seedL yo k z).toNat : Int)) = true := by rw [h3]; simp
        have H3 := hid h3
        clear h3
        go_enter Tryz.func85, Tryz.ntmps85
        go_wp2_with fail
        go_quiet ((go_at_call 86; exact Calls.quiet_of_same ((mseed_any yo k z _).mono (fun e w' ⟨h1, h2⟩ => ⟨h1, h2.symm⟩))))
        go_wp2_with fail
        go_ret
        exact ⟨rfl, below_drewN HBL.out _⟩
      · have hbt : b = false := by
          have := HB.out
          rw [Int.toNat_natCast, HZ.out, HN.out, decide_eq_false h3] at this
          simpa using this.symm
        subst hbt
        have t3 : ((sd.toNat : Int) == ((seedL yo k z).toNat : Int)) = false := by
          have : sd.toNat ≠ (seedL yo k z).toNat := fun h9 => h3 (BitVec.eq_of_toNat_eq h9)
          simp; omega
        have H3 := hid h3
        clear h3
        go_enter Tryz.func85, Tryz.ntmps85
        go_wp2_with fail
        go_quiet ((go_at_call 86; exact Calls.quiet_of_same ((mseed_any yo k z _).mono (fun e w' ⟨h1, h2⟩ => ⟨h1, h2.symm⟩))))
        go_wp2_with fail
        go_ret
        exact ⟨rfl, below_drewN HBL.out _⟩
    · have h2' : ¬ (k : Int) < (n : Int) := by omega
      have h2d : decide ((k : Int) < (n : Int)) = false := decide_eq_false h2'
      have hbt : b = false := by
        have := HB.out
        rw [HN.out, h2d] at this
        simpa using this.symm
      subst hbt
      go_enter Tryz.func85, Tryz.ntmps85
      go_wp2_with fail
      go_quiet (fail)
      go_wp2_with fail
      go_ret
      exact ⟨rfl, below_drewN HBL.out _⟩
  · have t1 : (yo == O) = false := by simp [h1]
    have hbt : b = false := by
      have := HB.out
      rw [decide_eq_false h1] at this
      simpa using this.symm
    subst hbt
    clear h1
    go_enter Tryz.func85, Tryz.ntmps85
    go_wp2_with fail
    go_quiet (fail)
    go_wp2_with fail
    go_ret
    exact ⟨rfl, below_drewN HBL.out _⟩
theorem any_yes {α : Type} [Inhabited α] {es : List α} {p : α → Bool} {k : Nat} (hk : k < es.length) (h : p (es.getD k default) = true) : es.any p = true := by
  rw [List.any_eq_true]
  exact ⟨_, by rw [List.getD_eq_getElem?_getD, List.getElem?_eq_getElem hk]; exact List.getElem_mem _, h⟩
theorem any_no {α : Type} [Inhabited α] {es : List α} {p : α → Bool} (h : ∀ k, k < es.length → p (es.getD k default) = false) : es.any p = false := by
  rw [List.any_eq_false]
  intro x hx
  obtain ⟨k, hk, rfl⟩ := List.getElem_of_mem hx
  have := h k hk
  rw [List.getD_eq_getElem?_getD, List.getElem?_eq_getElem hk] at this
  simpa using this
def RecCells (r : Rec) (Ar : Option Addr) (nr cr : Nat) : List Value := [.int .i64 r.O, .int .i64 r.B, .int .i64 r.I, .int .i64 r.P.K, .int .i64 r.P.H, .int .i64 r.P.S, .int .u32 (r.S.toNat : Int), .slice Ar nr cr]
theorem idxcnt_any (r : Rec) (B : Nat) (A Ar : Option Addr) (n c nr cr : Nat) (ts : List Value) (es : List Ent) (gr : Nat) (b : Bool) (w : World) (h : REs w B A n ts es) (hB : B ≤ w.heap.size) (hn : n ≤ 9223372036854775807) (hr : Row w gr 75 (RecCells r Ar nr cr)) (hb0 : 0 ≤ r.B) (hb : es.any (cntE r) = b) :
    Calls Tryz.prog 103 #[.slice A n c, .func (Fn.func 85) #[] #[.pointer (some ⟨gr, 0, none⟩)]] w fun e w' => (∃ z : Int, e = .returned (.int .i64 z) ∧ decide (0 ≤ z) = b) ∧ Below w.heap.size w w' := by
  have HL := hid h.len
  have HB := hid hb
  have H := hid h
  have HR := hid hr
  have HB0 := hid hb0
  clear hb h hr hb0
  go_enter Tryz.func103, Tryz.ntmps103
  go_wp2_with fail
  go_loopw [8] (fun i wr => ∃ k : Nat, k ≤ n ∧ i = .int .i64 k ∧ Below w.heap.size w wr ∧ Hid (∀ j, j < k → cntE r (es.getD j default) = false)) (fun i _ => n - (intOf i).toNat)
  case atStart => exact ⟨0, Nat.zero_le _, rfl, Below.refl _ _, hid (fun j hj => absurd hj (by omega))⟩
  case round =>
    obtain ⟨k, hk, rfl, hbr, HK⟩ := hrel
    have hzr := hbr.size
    by_cases hlt : k < n
    · obtain ⟨bb, o', A', c', e', hbb, e0, e1, e2, e3, hc1, hc2, hsl⟩ := (H.out.below (hbr.mono hB)).get hlt
      subst e'
      obtain ⟨x, hx⟩ : ∃ x, es.getD k default = x := ⟨_, rfl⟩
      have HXX := hid hx
      rw [hx] at e0 e1 e2 e3 hc1 hsl
      have HSL := hid hsl
      have HRR := hid (HR.out.below hbr HR.out.lt)
      obtain ⟨q, hq⟩ : ∃ q, cntE r x = q := ⟨_, rfl⟩
      have HQ := hid hq
      have hc9 : x.tries.length ≤ 9223372036854775807 := by omega
      clear hx hsl hq
      go_wp2_with fail
      refine (cntone_any r x A' Ar x.tries.length c' nr cr gr B q wr HRR.out HSL.out (Nat.le_trans hB hzr) rfl HB0.out hc9 HQ.out).mono ?_
      rintro e w3 ⟨rfl, hb3⟩
      have hb4 := hbr.trans (hb3.mono hzr)
      cases q with
      | true =>
        have hyes : b = true := by rw [← HB.out]; exact any_yes (k := k) (by rw [HL.out]; exact hlt) (by rw [HXX.out]; exact HQ.out)
        subst hyes
        go_wp2_with fail
        go_ret
        exact ⟨⟨_, rfl, by simp⟩, hb4⟩
      | false =>
        go_wp2_with fail
        go_roundw
        case rel => exact ⟨k + 1, by omega, by go_num, hb4, hid (fun j hj => by
          rcases Nat.lt_or_ge j k with h | h
          · exact HK.out j h
          · have e : j = k := by omega
            rw [e, HXX.out]; exact HQ.out)⟩
        case measure => simp [intOf]; omega
    · obtain rfl : k = n := by omega
      have hyes : b = false := by rw [← HB.out]; exact any_no (fun j hj => HK.out j (by rw [HL.out] at hj; exact hj))
      subst hyes
      go_wp2_with fail
      go_ret
      exact ⟨⟨_, rfl, by simp⟩, hbr⟩
theorem hascnt_any (r : Rec) (B : Nat) (A Ar : Option Addr) (n c nr cr : Nat) (ts : List Value) (es : List Ent) (gr : Nat) (b : Bool) (w : World) (h : REs w B A n ts es) (hB : B ≤ w.heap.size) (hn : n ≤ 9223372036854775807) (hr : Row w gr 75 (RecCells r Ar nr cr)) (hb0 : 0 ≤ r.B) (hb : es.any (cntE r) = b) :
    Calls Tryz.prog 84 #[.slice A n c, .func (Fn.func 85) #[] #[.pointer (some ⟨gr, 0, none⟩)]] w fun e w' => e = .returned (.bool b) ∧ Below w.heap.size w w' := by
  have HR := hid hr
  have HB0 := hid hb0
  clear hr hb0
  go_enter Tryz.func84, Tryz.ntmps84
  go_wp2_with fail
  refine (idxcnt_any r B A Ar n c nr cr ts es gr b w h hB hn HR.out HB0.out hb).mono ?_
  rintro e w3 ⟨⟨z, rfl, hr⟩, hb3⟩
  have HZ := hid hr
  clear hr
  go_wp2_with fail
  go_ret
  exact ⟨ret_bool HZ.out, hb3⟩
set_option maxHeartbeats 1000000 in
theorem counts_any (m : Mani) (r : Rec) (B : Nat) (Ad Ao Ar : Option Addr) (nd cd no co nr cr : Nat) (ts : List Value) (b : Bool) (w : World) (h : RM w B m Ad nd cd Ao no co ts) (hB : B ≤ w.heap.size) (hn : r.D.length = nr) (hno : no ≤ 9223372036854775807) (hb : countsM m r = b) :
    Calls Tryz.prog 45 #[m.val (.slice Ad nd cd) (.slice Ao no co), r.val (.slice Ar nr cr)] w fun e w' => e = .returned (.bool b) ∧ Below w.heap.size w w' := by
  have HB := hid hb
  unfold countsM at HB
  have HN := hid hn
  have hx2 := Row.new w 27 #[.int .i64 m.seq, .int .i64 m.next, .int .i64 m.P.K, .int .i64 m.P.H, .int .i64 m.P.S, .int .i64 m.extra, .slice Ad nd cd, .slice Ao no co]
  have hx3 := Row.new (w.alloc (.cells #[.int .i64 m.seq, .int .i64 m.next, .int .i64 m.P.K, .int .i64 m.P.H, .int .i64 m.P.S, .int .i64 m.extra, .slice Ad nd cd, .slice Ao no co] 27)) 75 #[.int .i64 r.O, .int .i64 r.B, .int .i64 r.I, .int .i64 r.P.K, .int .i64 r.P.H, .int .i64 r.P.S, .int .u32 (r.S.toNat : Int), .slice Ar nr cr]
  have hx2b := hx2.alloc (.cells #[.int .i64 r.O, .int .i64 r.B, .int .i64 r.I, .int .i64 r.P.K, .int .i64 r.P.H, .int .i64 r.P.S, .int .u32 (r.S.toNat : Int), .slice Ar nr cr] 75)
  have hb2 := ((Below.refl w.heap.size w).alloc (Nat.le_refl _) (.cells #[.int .i64 m.seq, .int .i64 m.next, .int .i64 m.P.K, .int .i64 m.P.H, .int .i64 m.P.S, .int .i64 m.extra, .slice Ad nd cd, .slice Ao no co] 27)).alloc (by simp) (.cells #[.int .i64 r.O, .int .i64 r.B, .int .i64 r.I, .int .i64 r.P.K, .int .i64 r.P.H, .int .i64 r.P.S, .int .u32 (r.S.toNat : Int), .slice Ar nr cr] 75)
  have hsz : (w.alloc (.cells #[.int .i64 m.seq, .int .i64 m.next, .int .i64 m.P.K, .int .i64 m.P.H, .int .i64 m.P.S, .int .i64 m.extra, .slice Ad nd cd, .slice Ao no co] 27)).heap.size = w.heap.size + 1 := by simp
  rw [hsz] at hx3
  have HX2 := hid hx2b
  have HX3 := hid hx3
  have HB2 := hid hb2
  have HR := hid ((h.below (hb2.mono hB)).mono (Nat.le_trans hB hb2.size))
  have hz2 := hb2.size
  obtain ⟨pm, hpm⟩ : ∃ q, r.may = q := ⟨_, rfl⟩
  have HPM := hid hpm
  have x0 := hx3.cell 0
  have x1 := hx3.cell 1
  have x2 := hx3.cell 2
  have x3 := hx3.cell 3
  have x4 := hx3.cell 4
  have x5 := hx3.cell 5
  have x6 := hx3.cell 6
  have x7 := hx3.cell 7
  simp only [List.getElem?_cons_succ, List.getElem?_cons_zero] at x0 x1 x2 x3 x4 x5 x6 x7
  clear hb h hx2 hx3 hx2b hb2 hn hsz hpm
  unfold Mani.val Rec.val
  go_enter Tryz.func45, Tryz.ntmps45
  go_wp2_with fail
  generalize (w.alloc (.cells #[.int .i64 m.seq, .int .i64 m.next, .int .i64 m.P.K, .int .i64 m.P.H, .int .i64 m.P.S, .int .i64 m.extra, .slice Ad nd cd, .slice Ao no co] 27)).alloc (.cells #[.int .i64 r.O, .int .i64 r.B, .int .i64 r.I, .int .i64 r.P.K, .int .i64 r.P.H, .int .i64 r.P.S, .int .u32 (r.S.toNat : Int), .slice Ar nr cr] 75) = w2 at *
  refine (recmay_any r Ar nr cr pm w2 HN.out HPM.out).mono ?_
  rintro e w3 ⟨rfl, hb3⟩
  have HB3 := hid (HB2.out.trans (hb3.mono hz2))
  have hz3 := hb3.size
  have hr2 := HX2.out.below hb3 HX2.out.lt
  have hr3 := HX3.out.below hb3 HX3.out.lt
  have HR3 := hid ((HR.out.below hb3).mono hz3)
  have HX33 := hid hr3
  have m2 := hr2.cell 2
  have m3 := hr2.cell 3
  have m4 := hr2.cell 4
  have m7 := hr2.cell 7
  have r3 := hr3.cell 3
  have r4 := hr3.cell 4
  have r5 := hr3.cell 5
  simp only [List.getElem?_cons_succ, List.getElem?_cons_zero] at m2 m3 m4 m7 r3 r4 r5
  clear hr2 hr3 hb3 x0 x1 x2 x3 x4 x5 x6 x7
  cases pm with
  | false =>
    have hbt : b = false := by
      have := HB.out
      rw [HPM.out] at this
      simpa using this.symm
    subst hbt
    go_wp2_with fail
    go_ret
    exact ⟨rfl, HB3.out⟩
  | true =>
    have hb0 : 0 ≤ r.B := by
      have := HPM.out
      unfold Rec.may at this
      exact (of_decide_eq_true this).2.2.1
    obtain ⟨q, hq⟩ : ∃ q, m.objs.any (cntE r) = q := ⟨_, rfl⟩
    have HQ := hid hq
    have hcon : Calls Tryz.prog 84 #[.slice Ao no co, .func (Fn.func 85) #[] #[.pointer (some ⟨w.heap.size + 1, 0, none⟩)]] w3 fun e w' => e = .returned (.bool q) ∧ Below w3.heap.size w3 w' :=
      hascnt_any r w3.heap.size Ao Ar no co nr cr ts m.objs _ q w3 HR3.out.o (Nat.le_refl _) hno HX33.out hb0 hq
    have HCON := hid hcon
    clear hq hcon
    go_wp2_with fail
    · have e3 : r.P.K = m.P.K := by assumption
      have e4 : r.P.H = m.P.H := by assumption
      have e5 : r.P.S = m.P.S := by assumption
      refine HCON.out.mono ?_
      rintro e w4 ⟨rfl, hb4⟩
      have HB4 := hid (HB3.out.trans (hb4.mono (by omega)))
      have hpp : r.P = m.P := par_ext e3 e4 e5
      have hbq : b = q := by
        have := HB.out
        rw [HPM.out, decide_eq_true hpp, HQ.out] at this
        simpa using this.symm
      subst hbq
      clear hb4 e3 e4 e5 hpp
      go_wp2_with fail
      go_ret
      exact ⟨rfl, HB4.out⟩
    all_goals
      have hbt : b = false := by
        have := HB.out
        rw [HPM.out, decide_eq_false (fun e => by
          have e9 := congrArg Par.K e
          have e8 := congrArg Par.H e
          have e7 := congrArg Par.S e
          contradiction)] at this
        simpa using this.symm
      subst hbt
      go_ret
      exact ⟨rfl, HB3.out⟩
set_option maxHeartbeats 2000000 in
theorem refcounts_any (m : Mani) (r : Rec) (B : Nat) (Ad Ao Ar : Option Addr) (nd cd no co nr cr : Nat) (ts : List Value) (b : Bool) (w : World) (h : RM w B m Ad nd cd Ao no co ts) (hB : B ≤ w.heap.size) (hn : r.D.length = nr) (hno : no ≤ 9223372036854775807) (hb : countsM m r = b) :
    Calls Tryz.prog 120 #[m.val (.slice Ad nd cd) (.slice Ao no co), r.val (.slice Ar nr cr)] w fun e w' => e = .returned (.bool b) ∧ Below w.heap.size w w' := by
  have HB := hid hb
  unfold countsM at HB
  have HN := hid hn
  have hx2 := Row.new w 27 #[.int .i64 m.seq, .int .i64 m.next, .int .i64 m.P.K, .int .i64 m.P.H, .int .i64 m.P.S, .int .i64 m.extra, .slice Ad nd cd, .slice Ao no co]
  have hx3 := Row.new (w.alloc (.cells #[.int .i64 m.seq, .int .i64 m.next, .int .i64 m.P.K, .int .i64 m.P.H, .int .i64 m.P.S, .int .i64 m.extra, .slice Ad nd cd, .slice Ao no co] 27)) 75 #[.int .i64 r.O, .int .i64 r.B, .int .i64 r.I, .int .i64 r.P.K, .int .i64 r.P.H, .int .i64 r.P.S, .int .u32 (r.S.toNat : Int), .slice Ar nr cr]
  have hx2b := hx2.alloc (.cells #[.int .i64 r.O, .int .i64 r.B, .int .i64 r.I, .int .i64 r.P.K, .int .i64 r.P.H, .int .i64 r.P.S, .int .u32 (r.S.toNat : Int), .slice Ar nr cr] 75)
  have hb2 := ((Below.refl w.heap.size w).alloc (Nat.le_refl _) (.cells #[.int .i64 m.seq, .int .i64 m.next, .int .i64 m.P.K, .int .i64 m.P.H, .int .i64 m.P.S, .int .i64 m.extra, .slice Ad nd cd, .slice Ao no co] 27)).alloc (by simp) (.cells #[.int .i64 r.O, .int .i64 r.B, .int .i64 r.I, .int .i64 r.P.K, .int .i64 r.P.H, .int .i64 r.P.S, .int .u32 (r.S.toNat : Int), .slice Ar nr cr] 75)
  have hsz : (w.alloc (.cells #[.int .i64 m.seq, .int .i64 m.next, .int .i64 m.P.K, .int .i64 m.P.H, .int .i64 m.P.S, .int .i64 m.extra, .slice Ad nd cd, .slice Ao no co] 27)).heap.size = w.heap.size + 1 := by simp
  rw [hsz] at hx3
  have HX2 := hid hx2b
  have HX3 := hid hx3
  have HB2 := hid hb2
  have HR := hid ((h.below (hb2.mono hB)).mono (Nat.le_trans hB hb2.size))
  have hz2 := hb2.size
  obtain ⟨pm, hpm⟩ : ∃ q, r.may = q := ⟨_, rfl⟩
  have HPM := hid hpm
  have x0 := hx3.cell 0
  have x1 := hx3.cell 1
  have x2 := hx3.cell 2
  have x3 := hx3.cell 3
  have x4 := hx3.cell 4
  have x5 := hx3.cell 5
  have x6 := hx3.cell 6
  have x7 := hx3.cell 7
  simp only [List.getElem?_cons_succ, List.getElem?_cons_zero] at x0 x1 x2 x3 x4 x5 x6 x7
  clear hb h hx2 hx3 hx2b hb2 hn hsz hpm
  unfold Mani.val Rec.val
  go_enter Tryz.func120, Tryz.ntmps120
  go_wp2_with fail
  generalize (w.alloc (.cells #[.int .i64 m.seq, .int .i64 m.next, .int .i64 m.P.K, .int .i64 m.P.H, .int .i64 m.P.S, .int .i64 m.extra, .slice Ad nd cd, .slice Ao no co] 27)).alloc (.cells #[.int .i64 r.O, .int .i64 r.B, .int .i64 r.I, .int .i64 r.P.K, .int .i64 r.P.H, .int .i64 r.P.S, .int .u32 (r.S.toNat : Int), .slice Ar nr cr] 75) = w2 at *
  refine (refrecmay_any r Ar nr cr pm w2 HN.out HPM.out).mono ?_
  rintro e w3 ⟨rfl, hb3⟩
  have HB3 := hid (HB2.out.trans (hb3.mono hz2))
  have hz3 := hb3.size
  have hr2 := HX2.out.below hb3 HX2.out.lt
  have hr3 := HX3.out.below hb3 HX3.out.lt
  have HR3 := hid ((HR.out.below hb3).mono hz3)
  have HX33 := hid hr3
  have m2 := hr2.cell 2
  have m3 := hr2.cell 3
  have m4 := hr2.cell 4
  have m7 := hr2.cell 7
  have r3 := hr3.cell 3
  have r4 := hr3.cell 4
  have r5 := hr3.cell 5
  simp only [List.getElem?_cons_succ, List.getElem?_cons_zero] at m2 m3 m4 m7 r3 r4 r5
  clear hr2 hr3 hb3 x0 x1 x2 x3 x4 x5 x6 x7
  cases pm with
  | false =>
    have hbt : b = false := by
      have := HB.out
      rw [HPM.out] at this
      simpa using this.symm
    subst hbt
    go_wp2_with fail
    go_ret
    exact ⟨rfl, HB3.out⟩
  | true =>
    have hb0 : 0 ≤ r.B := by
      have := HPM.out
      unfold Rec.may at this
      exact (of_decide_eq_true this).2.2.1
    go_wp2_with fail
    · have e3 : r.P.K = m.P.K := by assumption
      have e4 : r.P.H = m.P.H := by assumption
      have e5 : r.P.S = m.P.S := by assumption
      have hpp : r.P = m.P := par_ext e3 e4 e5
      have HBQ : Hid (m.objs.any (cntE r) = b) := hid (by
        have := HB.out
        rw [HPM.out, decide_eq_true hpp] at this
        simpa using this)
      clear e3 e4 e5 hpp m2 m3 m4 r3 r4 r5
      have HLO := hid HR3.out.o.len
      go_loopw [20] (fun i wr => ∃ k : Nat, k ≤ no ∧ i = .int .i64 (k : Int) ∧ Below w3.heap.size w3 wr ∧ Hid (∀ j, j < k → cntE r (m.objs.getD j default) = false)) (fun i _ => no - (intOf i).toNat)
      case atStart => exact ⟨0, Nat.zero_le _, rfl, Below.refl _ _, hid (fun j hj => absurd hj (by omega))⟩
      case round =>
        obtain ⟨k, hk, rfl, hbr, HK⟩ := hrel
        have hzr := hbr.size
        have HBR := hid (HB3.out.trans (hbr.mono (by omega)))
        by_cases hlt : k < no
        · obtain ⟨bb, o', A', c', e', hbb, e0, e1, e2, e3, hc1, hc2, hsl⟩ := (HR3.out.o.below hbr).get hlt
          subst e'
          have hrr := HX33.out.below hbr HX33.out.lt
          obtain ⟨y, hy⟩ : ∃ y, m.objs.getD k default = y := ⟨_, rfl⟩
          have HY := hid hy
          rw [hy] at e0 e1 e2 e3 hc1 hsl
          obtain ⟨nt, hnt⟩ : ∃ nt, y.tries.length = nt := ⟨_, rfl⟩
          rw [hnt] at e3 hc1 hsl
          have HNT := hid hnt
          have hx6 := Row.new wr 69 #[.string (strB y.name), .int .i64 y.obj, .int .i64 y.len, .slice A' nt c']
          have hbx : Below wr.heap.size wr (wr.alloc (.cells #[.string (strB y.name), .int .i64 y.obj, .int .i64 y.len, .slice A' nt c'] 69)) := (Below.refl _ _).alloc (Nat.le_refl _) _
          have hrx := hrr.below hbx hrr.lt
          have y1 := hx6.cell 1
          have y3 := hx6.cell 3
          have c0 := hrx.cell 0
          have c1 := hrx.cell 1
          have c6 := hrx.cell 6
          simp only [List.getElem?_cons_succ, List.getElem?_cons_zero] at y1 y3 c0 c1 c6
          have HS := hid (hsl.below (hbx.mono hzr))
          have HBX := hid (hbr.trans (hbx.mono hzr))
          have HBX2 := hid (HBR.out.trans (hbx.mono (by have := HBR.out.size; omega)))
          clear hy hnt hsl hx6 hbx hrx hrr hbr
          obtain ⟨q, hq⟩ : ∃ q, cntE r y = q := ⟨_, rfl⟩
          have HQ := hid hq
          unfold cntE at hq
          obtain ⟨rB, hrB⟩ := Int.eq_ofNat_of_zero_le hb0
          have HRB := hid hrB
          rw [hrB, Int.toNat_natCast, HNT.out] at hq
          have HQ2 := hid hq
          rw [hrB] at c1
          clear hq hrB
          have hend : ∀ wq : World, True := fun _ => trivial
          by_cases h1 : y.obj = r.O
          · have t1 : (y.obj == r.O) = true := by simp [h1]
            have HO1 := hid h1
            by_cases h2 : rB < nt
            · obtain ⟨b7, o7, e9, hb7, hct⟩ := HS.out.get h2 (ints_get y.tries rB (by rw [HNT.out]; exact h2))
              subst e9
              have h2' : (rB : Int) < (nt : Int) := by omega
              obtain ⟨z, hz⟩ : ∃ z, y.tries.getD rB 0 = z := ⟨_, rfl⟩
              rw [hz] at hct
              have HZ := hid hz
              clear hz h1
              by_cases h3 : r.S = seedL r.O rB z
              · have hqt : q = true := by
                  have := HQ2.out
                  rw [HZ.out, HO1.out, decide_eq_true h3, decide_eq_true h2'] at this
                  simpa using this.symm
                have t3 : ((r.S.toNat : Int) == ((seedL r.O rB z).toNat : Int)) = true := by rw [h3]; simp
                have hyes : b = true := by rw [← HBQ.out]; exact any_yes (k := k) (by rw [HLO.out]; exact hlt) (by rw [HY.out, HQ.out]; exact hqt)
                subst hyes
                clear h3 hqt
                go_wp2_with fail
                go_quiet ((go_at_call 77; exact Calls.quiet_of_same ((refseed_any r.O rB z _).mono (fun e w' ⟨h1, h2⟩ => ⟨h1, h2.symm⟩))))
                go_wp2_with fail
                go_ret
                exact ⟨rfl, below_drewN HBX2.out _⟩
              · have HQF : Hid (q = false) := hid (by
                  have := HQ2.out
                  rw [HZ.out, decide_eq_false h3] at this
                  simpa using this.symm)
                have t3 : ((r.S.toNat : Int) == ((seedL r.O rB z).toNat : Int)) = false := by
                  have : r.S.toNat ≠ (seedL r.O rB z).toNat := fun h9 => h3 (BitVec.eq_of_toNat_eq h9)
                  simp; omega
                clear h3
                go_wp2_with fail
                go_quiet ((go_at_call 77; exact Calls.quiet_of_same ((refseed_any r.O rB z _).mono (fun e w' ⟨h1, h2⟩ => ⟨h1, h2.symm⟩))))
                go_wp2_with fail
                go_roundw
                case rel => exact ⟨k + 1, by omega, by go_num, below_drewN HBX.out _, hid (fun j hj => by
                  rcases Nat.lt_or_ge j k with h9 | h9
                  · exact HK.out j h9
                  · obtain rfl : j = k := by omega
                    rw [HY.out, HQ.out]; exact HQF.out)⟩
                case measure => simp [intOf]; omega
            · have h2' : ¬ (rB : Int) < (nt : Int) := by omega
              have h2d : decide ((rB : Int) < (nt : Int)) = false := decide_eq_false h2'
              have HQF : Hid (q = false) := hid (by
                have := HQ2.out
                rw [h2d] at this
                simpa using this.symm)
              clear h1
              go_wp2_with fail
              go_quiet (fail)
              go_wp2_with fail
              go_roundw
              case rel => exact ⟨k + 1, by omega, by go_num, below_drewN HBX.out _, hid (fun j hj => by
                rcases Nat.lt_or_ge j k with h9 | h9
                · exact HK.out j h9
                · obtain rfl : j = k := by omega
                  rw [HY.out, HQ.out]; exact HQF.out)⟩
              case measure => simp [intOf]; omega
          · have t1 : (y.obj == r.O) = false := by simp [h1]
            have HQF : Hid (q = false) := hid (by
              have := HQ2.out
              rw [decide_eq_false h1] at this
              simpa using this.symm)
            clear h1
            go_wp2_with fail
            go_quiet (fail)
            go_wp2_with fail
            go_roundw
            case rel => exact ⟨k + 1, by omega, by go_num, below_drewN HBX.out _, hid (fun j hj => by
              rcases Nat.lt_or_ge j k with h9 | h9
              · exact HK.out j h9
              · obtain rfl : j = k := by omega
                rw [HY.out, HQ.out]; exact HQF.out)⟩
            case measure => simp [intOf]; omega
        · obtain rfl : no = k := by omega
          have hno2 : b = false := by rw [← HBQ.out]; exact any_no (fun j hj => HK.out j (by rw [HLO.out] at hj; exact hj))
          subst hno2
          go_wp2_with fail
          go_ret
          exact ⟨rfl, HBR.out⟩
    all_goals
      have hbt : b = false := by
        have := HB.out
        rw [HPM.out, decide_eq_false (fun e => by
          have e9 := congrArg Par.K e
          have e8 := congrArg Par.H e
          have e7 := congrArg Par.S e
          contradiction)] at this
        simpa using this.symm
      subst hbt
      go_ret
      exact ⟨rfl, HB3.out⟩
end Go.Proofs.YtlfmfhdgnmchgaaGreat

namespace Go.Proofs.YtlfmfhdgnmchgaaGreat
open Go.RowKit Wells
theorem insert_nil (A : Option Addr) (c : Nat) (fv : Value) (w : World) :
    Calls Tryz.prog 104 #[.slice A 0 c, .int .i64 0, .int .i64 0, fv] w fun e w' => e = .returned (.tuple #[]) ∧ w = w' := by
  go_enter Tryz.func104, Tryz.ntmps104
  go_wp2_with fail
  go_loopw [8] (fun a wr => a = .int .i64 1 ∧ w = wr) (fun _ _ => 0)
  case atStart => exact ⟨rfl, rfl⟩
  case round =>
    obtain ⟨rfl, rfl⟩ := hrel
    go_wp2_with fail
    go_end0
    exact ⟨rfl, rfl⟩
theorem stable_nil (A : Option Addr) (c : Nat) (fv : Value) (w : World) :
    Calls Tryz.prog 87 #[.slice A 0 c, .int .i64 0, fv] w fun e w' => e = .returned (.tuple #[]) ∧ w = w' := by
  go_enter Tryz.func87, Tryz.ntmps87
  go_wp2_with fail
  go_loopw [7, 8] (fun a b wr => a = .int .i64 0 ∧ b = .int .i64 20 ∧ w = wr) (fun _ _ _ => 0)
  case atStart => exact ⟨rfl, rfl, rfl⟩
  case round =>
    obtain ⟨rfl, rfl, rfl⟩ := hrel
    go_wp2_with fail
    refine (insert_nil A c fv w).mono ?_
    rintro e w1 ⟨rfl, rfl⟩
    go_wp2_with fail
    go_loopw [6] (fun a wr => a = .int .i64 20 ∧ w = wr) (fun _ _ => 0)
    case atStart => exact ⟨rfl, rfl⟩
    case round =>
      obtain ⟨rfl, rfl⟩ := hrel
      go_wp2_with fail
      go_end0
      exact ⟨rfl, rfl⟩
theorem sortstable_nil (A : Option Addr) (c : Nat) (fv : Value) (w : World) :
    Calls Tryz.prog 46 #[.slice A 0 c, fv] w fun e w' => e = .returned (.tuple #[]) ∧ w = w' := by
  go_enter Tryz.func46, Tryz.ntmps46
  go_wp2_with fail
  refine (stable_nil A c fv w).mono ?_
  rintro e w1 ⟨rfl, rfl⟩
  go_wp2_with fail
  go_end0
  exact ⟨rfl, rfl⟩
theorem compact_nil (A : Option Addr) (c : Nat) (fv : Value) (w : World) :
    Calls Tryz.prog 48 #[.slice A 0 c, fv] w fun e w' => e = .returned (.slice A 0 c) ∧ w = w' := by
  go_enter Tryz.func48, Tryz.ntmps48
  go_wp2_with fail
  go_ret
  exact ⟨rfl, rfl⟩
end Go.Proofs.YtlfmfhdgnmchgaaGreat

