/- Mani4 Counts StableNil PackMath -/
import Derived.WalkLawsBesides
import Derived.Lib.AppendStr
import Derived.Test.YtlfmfhdgnmchgaaBRoomLess02
import Derived.Test.YtlfmfhdgnmchgaaBRoomLess07
import Derived.Test.YtlfmfhdgnmchgaaBRoomLess08
import Derived.Test.YtlfmfhdgnmchgaaBRoomLess24
set_option maxRecDepth 20000
set_option linter.unusedSimpArgs false
set_option linter.unusedVariables false
namespace Wells
open Go Go.RowKit
theorem objs_no {es : List Ent} {o : Int} {k : Nat} (hk : k < es.length) (h : (es.getD k default).obj = o) : es.all (fun y => !decide (y.obj = o)) = false := by
  rw [List.all_eq_false]
  refine ⟨es.getD k default, ?_, by rw [decide_eq_true h]; simp⟩
  rw [List.getD_eq_getElem?_getD, List.getElem?_eq_getElem hk]; exact List.getElem_mem _
theorem objs_yes {es : List Ent} {o : Int} (h : ∀ k, k < es.length → ¬ (es.getD k default).obj = o) : es.all (fun y => !decide (y.obj = o)) = true := by
  rw [List.all_eq_true]
  intro c hc
  obtain ⟨k, hk, rfl⟩ := List.getElem_of_mem hc
  have := h k hk
  rw [List.getD_eq_getElem?_getD, List.getElem?_eq_getElem hk] at this
  simpa using this
end Wells
namespace Go.Proofs.Ytlfmfhdgnmchgaa
open Go.RowKit Wells
theorem sameobj_any (y : Ent) (A : Option Addr) (n c : Nat) (gx : Nat) (o : Int) (b : Bool) (w : World) (hx : w.cell? ⟨gx, 1, none⟩ = some (.int .i64 o)) (hb : decide (y.obj = o) = b) :
    Calls Try.prog 72 #[y.val (.slice A n c), .pointer (some ⟨gx, 0, none⟩)] w fun e w' => e = .returned (.bool b) ∧ Below w.heap.size w w' := by
  have HB := hid hb
  have hce := ECells.new w 47 y (.slice A n c)
  have hb1 := (Below.refl w.heap.size w).alloc (Nat.le_refl _) (entObj 47 y (.slice A n c))
  have hx1 := cell_keep hb1 hx
  obtain ⟨e0, e1, e2, e3⟩ := hce
  clear hb hx
  unfold Ent.val
  go_enter Try.func72, Try.ntmps72
  go_wp2_with fail
  go_ret
  exact ⟨ret_bool (by rw [← HB.out]; first | rfl | (by_cases hq : y.obj = o <;> simp [hq])), hb1⟩
theorem idxobj_any (B : Nat) (A : Option Addr) (n c : Nat) (ts : List Value) (es : List Ent) (gx : Nat) (o : Int) (b : Bool) (w : World) (h : REs w B A n ts es) (hB : B ≤ w.heap.size) (hn : n ≤ 9223372036854775807) (hx : w.cell? ⟨gx, 1, none⟩ = some (.int .i64 o)) (hb : es.all (fun y => !decide (y.obj = o)) = b) :
    Calls Try.prog 86 #[.slice A n c, .func (Fn.func 72) #[] #[.pointer (some ⟨gx, 0, none⟩)]] w fun e w' => (∃ r : Int, e = .returned (.int .i64 r) ∧ decide (0 ≤ r) = !b) ∧ Below w.heap.size w w' := by
  have HL := hid h.len
  have HB := hid hb
  have H := hid h
  have HX := hid hx
  clear hb h hx
  go_enter Try.func86, Try.ntmps86
  go_wp2_with fail
  go_loopw [8] (fun i wr => ∃ k : Nat, k ≤ n ∧ i = .int .i64 k ∧ Below w.heap.size w wr ∧ Hid (∀ j, j < k → ¬ (es.getD j default).obj = o)) (fun i _ => n - (intOf i).toNat)
  case atStart => exact ⟨0, Nat.zero_le _, rfl, Below.refl _ _, hid (fun j hj => absurd hj (by omega))⟩
  case round =>
    obtain ⟨k, hk, rfl, hbr, HK⟩ := hrel
    have hzr := hbr.size
    by_cases hlt : k < n
    · obtain ⟨bb, o', A', c', rfl, hbb, e0, e1, e2, e3, hc1, hc2, hsl⟩ := (H.out.below (hbr.mono hB)).get hlt
      have hxr : wr.cell? ⟨gx, 1, none⟩ = some (.int .i64 o) := (hbr.cell (p := ⟨gx, 1, none⟩) (World.block_lt_of_cell? w _ HX.out)).trans HX.out
      obtain ⟨x, hx⟩ : ∃ x, es.getD k default = x := ⟨_, rfl⟩
      have HXX := hid hx
      rw [hx] at e0 e1 e2 e3 hc1 hsl
      have HXR := hid hxr
      clear hx hxr hsl hc1
      by_cases hq : x.obj = o
      · have hno : b = false := by rw [← HB.out]; exact objs_no (k := k) (by rw [HL.out]; exact hlt) (by rw [HXX.out]; exact hq)
        subst hno
        have HQ := hid (decide_eq_true hq)
        clear hq
        go_wp2_with fail
        refine (sameobj_any x A' x.tries.length c' gx o true wr HXR.out HQ.out).mono ?_
        rintro e w3 ⟨rfl, hb3⟩
        have hb4 := hbr.trans (hb3.mono hzr)
        go_wp2_with fail
        go_ret
        exact ⟨⟨_, rfl, by simp⟩, hb4⟩
      · have HQ := hid (decide_eq_false hq)
        have HQ2 := hid hq
        clear hq
        go_wp2_with fail
        refine (sameobj_any x A' x.tries.length c' gx o false wr HXR.out HQ.out).mono ?_
        rintro e w3 ⟨rfl, hb3⟩
        have hb4 := hbr.trans (hb3.mono hzr)
        go_wp2_with fail
        go_roundw
        case rel => exact ⟨k + 1, by omega, by go_num, hb4, hid (fun j hj => by
          rcases Nat.lt_or_ge j k with h | h
          · exact HK.out j h
          · have e : j = k := by omega
            rw [e, HXX.out]; exact HQ2.out)⟩
        case measure => simp [intOf]; omega
    · obtain rfl : k = n := by omega
      have hyes : b = true := by rw [← HB.out]; exact objs_yes (fun j hj => HK.out j (by rw [HL.out] at hj; exact hj))
      subst hyes
      go_wp2_with fail
      go_ret
      exact ⟨⟨_, rfl, by simp⟩, hbr⟩
theorem hasobj_any (B : Nat) (A : Option Addr) (n c : Nat) (ts : List Value) (es : List Ent) (gx : Nat) (o : Int) (b : Bool) (w : World) (h : REs w B A n ts es) (hB : B ≤ w.heap.size) (hn : n ≤ 9223372036854775807) (hx : w.cell? ⟨gx, 1, none⟩ = some (.int .i64 o)) (hb : es.all (fun y => !decide (y.obj = o)) = b) :
    Calls Try.prog 71 #[.slice A n c, .func (Fn.func 72) #[] #[.pointer (some ⟨gx, 0, none⟩)]] w fun e w' => e = .returned (.bool (!b)) ∧ Below w.heap.size w w' := by
  have HX := hid hx
  clear hx
  go_enter Try.func71, Try.ntmps71
  go_wp2_with fail
  refine (idxobj_any B A n c ts es gx o b w h hB hn HX.out hb).mono ?_
  rintro e w3 ⟨⟨r, rfl, hr⟩, hb3⟩
  have HR := hid hr
  clear hr
  go_wp2_with fail
  go_ret
  exact ⟨ret_bool HR.out, hb3⟩
end Go.Proofs.Ytlfmfhdgnmchgaa

namespace Wells
open Go Go.RowKit
/-- does an entry tell a record's block and seed? -/
def cntE (r : Rec) (y : Ent) : Bool := decide (y.obj = r.O) && (decide (r.B < (y.tries.length : Int)) && decide (r.S = seedL r.O r.B (y.tries.getD r.B.toNat 0)))
def countsM (m : Mani) (r : Rec) : Bool := r.may && (decide (r.P = m.P) && m.objs.any (cntE r))
theorem par_ext {a b : Par} (h1 : a.K = b.K) (h2 : a.H = b.H) (h3 : a.S = b.S) : a = b := by
  cases a; cases b; simp only at h1 h2 h3; rw [h1, h2, h3]
end Wells
namespace Go.Proofs.Ytlfmfhdgnmchgaa
open Go.RowKit Wells
set_option maxHeartbeats 1000000 in
theorem cntone_any (r : Rec) (y : Ent) (A Ar : Option Addr) (n c nr cr gr B : Nat) (b : Bool) (w : World) (hr : Row w gr 53 [.int .i64 r.O, .int .i64 r.B, .int .i64 r.I, .int .i64 r.P.K, .int .i64 r.P.H, .int .i64 r.P.S, .int .u32 (r.S.toNat : Int), .slice Ar nr cr])
    (hs : Sl w B 1 A n (y.tries.map iv)) (hB : B ≤ w.heap.size) (hn : y.tries.length = n) (hb0 : 0 ≤ r.B) (hnb : n ≤ 9223372036854775807) (hb : cntE r y = b) :
    Calls Try.prog 77 #[y.val (.slice A n c), .pointer (some ⟨gr, 0, none⟩)] w fun e w' => e = .returned (.bool b) ∧ Below w.heap.size w w' := by
  have HB := hid hb
  have hce := ECells.new w 47 y (.slice A n c)
  have hb1 := (Below.refl w.heap.size w).alloc (Nat.le_refl _) (entObj 47 y (.slice A n c))
  have hr1 := hr.below hb1 hr.lt
  have hs1 := hs.below (hb1.mono hB)
  obtain ⟨e0, e1, e2, e3⟩ := hce
  have c0 := hr1.cell 0
  have c1 := hr1.cell 1
  have c4 := hr1.cell 6
  simp only [List.getElem?_cons_succ, List.getElem?_cons_zero] at c0 c1 c4
  have HBL := hid hb1
  have HS := hid hs1
  have HN := hid hn
  obtain ⟨O, rB, I, ⟨K, H, S⟩, sd, D⟩ := r
  obtain ⟨nm, yo, yl, tr⟩ := y
  simp only at *
  obtain ⟨k, rfl⟩ := Int.eq_ofNat_of_zero_le hb0
  clear hb hr hs hb1 hr1 hs1 hn
  unfold Ent.val
  unfold cntE at HB
  simp only at *
  by_cases h1 : yo = O
  · subst h1
    have t1 : (yo == yo) = true := by simp
    by_cases h2 : k < n
    · obtain ⟨bb, o, e9, hbb, hct⟩ := HS.out.get h2 (ints_get tr k (by rw [HN.out]; exact h2))
      subst e9
      have h2' : (k : Int) < (n : Int) := by omega
      obtain ⟨z, hz⟩ : ∃ z, tr.getD k 0 = z := ⟨_, rfl⟩
      rw [hz] at hct
      have HZ := hid hz
      clear hz
      by_cases h3 : sd = seedL yo k z
      · have hbt : b = true := by
          have := HB.out
          rw [Int.toNat_natCast, HZ.out, HN.out, decide_eq_true h3, decide_eq_true h2'] at this
          simpa using this.symm
        subst hbt
        have t3 : ((sd.toNat : Int) == ((seedL yo k z).toNat : Int)) = true := by rw [h3]; simp
        have H3 := hid h3
        clear h3
        go_enter Try.func77, Try.ntmps77
        go_wp2_with fail
        go_quiet ((go_at_call 78; exact Calls.quiet_of_same ((mseed_any yo k z _).mono (fun e w' ⟨h1, h2⟩ => ⟨h1, h2.symm⟩))))
        go_wp2_with fail
        go_ret
        exact ⟨rfl, below_drewN HBL.out _⟩
      · have hbt : b = false := by
          have := HB.out
          rw [Int.toNat_natCast, HZ.out, HN.out, decide_eq_false h3] at this
          simpa using this.symm
        subst hbt
        have t3 : ((sd.toNat : Int) == ((seedL yo k z).toNat : Int)) = false := by
          have : sd.toNat ≠ (seedL yo k z).toNat := fun h9 => h3 (BitVec.eq_of_toNat_eq h9)
          simp; omega
        have H3 := hid h3
        clear h3
        go_enter Try.func77, Try.ntmps77
        go_wp2_with fail
        go_quiet ((go_at_call 78; exact Calls.quiet_of_same ((mseed_any yo k z _).mono (fun e w' ⟨h1, h2⟩ => ⟨h1, h2.symm⟩))))
        go_wp2_with fail
        go_ret
        exact ⟨rfl, below_drewN HBL.out _⟩
    · have h2' : ¬ (k : Int) < (n : Int) := by omega
      have h2d : decide ((k : Int) < (n : Int)) = false := decide_eq_false h2'
      have hbt : b = false := by
        have := HB.out
        rw [HN.out, h2d] at this
        simpa using this.symm
      subst hbt
      go_enter Try.func77, Try.ntmps77
      go_wp2_with fail
      go_quiet (fail)
      go_wp2_with fail
      go_ret
      exact ⟨rfl, below_drewN HBL.out _⟩
  · have t1 : (yo == O) = false := by simp [h1]
    have hbt : b = false := by
      have := HB.out
      rw [decide_eq_false h1] at this
      simpa using this.symm
    subst hbt
    clear h1
    go_enter Try.func77, Try.ntmps77
    go_wp2_with fail
    go_quiet (fail)
    go_wp2_with fail
    go_ret
    exact ⟨rfl, below_drewN HBL.out _⟩
theorem any_yes {α : Type} [Inhabited α] {es : List α} {p : α → Bool} {k : Nat} (hk : k < es.length) (h : p (es.getD k default) = true) : es.any p = true := by
  rw [List.any_eq_true]
  exact ⟨_, by rw [List.getD_eq_getElem?_getD, List.getElem?_eq_getElem hk]; exact List.getElem_mem _, h⟩
theorem any_no {α : Type} [Inhabited α] {es : List α} {p : α → Bool} (h : ∀ k, k < es.length → p (es.getD k default) = false) : es.any p = false := by
  rw [List.any_eq_false]
  intro x hx
  obtain ⟨k, hk, rfl⟩ := List.getElem_of_mem hx
  have := h k hk
  rw [List.getD_eq_getElem?_getD, List.getElem?_eq_getElem hk] at this
  simpa using this
def RecCells (r : Rec) (Ar : Option Addr) (nr cr : Nat) : List Value := [.int .i64 r.O, .int .i64 r.B, .int .i64 r.I, .int .i64 r.P.K, .int .i64 r.P.H, .int .i64 r.P.S, .int .u32 (r.S.toNat : Int), .slice Ar nr cr]
theorem idxcnt_any (r : Rec) (B : Nat) (A Ar : Option Addr) (n c nr cr : Nat) (ts : List Value) (es : List Ent) (gr : Nat) (b : Bool) (w : World) (h : REs w B A n ts es) (hB : B ≤ w.heap.size) (hn : n ≤ 9223372036854775807) (hr : Row w gr 53 (RecCells r Ar nr cr)) (hb0 : 0 ≤ r.B) (hb : es.any (cntE r) = b) :
    Calls Try.prog 86 #[.slice A n c, .func (Fn.func 77) #[] #[.pointer (some ⟨gr, 0, none⟩)]] w fun e w' => (∃ z : Int, e = .returned (.int .i64 z) ∧ decide (0 ≤ z) = b) ∧ Below w.heap.size w w' := by
  have HL := hid h.len
  have HB := hid hb
  have H := hid h
  have HR := hid hr
  have HB0 := hid hb0
  clear hb h hr hb0
  go_enter Try.func86, Try.ntmps86
  go_wp2_with fail
  go_loopw [8] (fun i wr => ∃ k : Nat, k ≤ n ∧ i = .int .i64 k ∧ Below w.heap.size w wr ∧ Hid (∀ j, j < k → cntE r (es.getD j default) = false)) (fun i _ => n - (intOf i).toNat)
  case atStart => exact ⟨0, Nat.zero_le _, rfl, Below.refl _ _, hid (fun j hj => absurd hj (by omega))⟩
  case round =>
    obtain ⟨k, hk, rfl, hbr, HK⟩ := hrel
    have hzr := hbr.size
    by_cases hlt : k < n
    · obtain ⟨bb, o', A', c', e', hbb, e0, e1, e2, e3, hc1, hc2, hsl⟩ := (H.out.below (hbr.mono hB)).get hlt
      subst e'
      obtain ⟨x, hx⟩ : ∃ x, es.getD k default = x := ⟨_, rfl⟩
      have HXX := hid hx
      rw [hx] at e0 e1 e2 e3 hc1 hsl
      have HSL := hid hsl
      have HRR := hid (HR.out.below hbr HR.out.lt)
      obtain ⟨q, hq⟩ : ∃ q, cntE r x = q := ⟨_, rfl⟩
      have HQ := hid hq
      have hc9 : x.tries.length ≤ 9223372036854775807 := by omega
      clear hx hsl hq
      go_wp2_with fail
      refine (cntone_any r x A' Ar x.tries.length c' nr cr gr B q wr HRR.out HSL.out (Nat.le_trans hB hzr) rfl HB0.out hc9 HQ.out).mono ?_
      rintro e w3 ⟨rfl, hb3⟩
      have hb4 := hbr.trans (hb3.mono hzr)
      cases q with
      | true =>
        have hyes : b = true := by rw [← HB.out]; exact any_yes (k := k) (by rw [HL.out]; exact hlt) (by rw [HXX.out]; exact HQ.out)
        subst hyes
        go_wp2_with fail
        go_ret
        exact ⟨⟨_, rfl, by simp⟩, hb4⟩
      | false =>
        go_wp2_with fail
        go_roundw
        case rel => exact ⟨k + 1, by omega, by go_num, hb4, hid (fun j hj => by
          rcases Nat.lt_or_ge j k with h | h
          · exact HK.out j h
          · have e : j = k := by omega
            rw [e, HXX.out]; exact HQ.out)⟩
        case measure => simp [intOf]; omega
    · obtain rfl : k = n := by omega
      have hyes : b = false := by rw [← HB.out]; exact any_no (fun j hj => HK.out j (by rw [HL.out] at hj; exact hj))
      subst hyes
      go_wp2_with fail
      go_ret
      exact ⟨⟨_, rfl, by simp⟩, hbr⟩
theorem hascnt_any (r : Rec) (B : Nat) (A Ar : Option Addr) (n c nr cr : Nat) (ts : List Value) (es : List Ent) (gr : Nat) (b : Bool) (w : World) (h : REs w B A n ts es) (hB : B ≤ w.heap.size) (hn : n ≤ 9223372036854775807) (hr : Row w gr 53 (RecCells r Ar nr cr)) (hb0 : 0 ≤ r.B) (hb : es.any (cntE r) = b) :
    Calls Try.prog 71 #[.slice A n c, .func (Fn.func 77) #[] #[.pointer (some ⟨gr, 0, none⟩)]] w fun e w' => e = .returned (.bool b) ∧ Below w.heap.size w w' := by
  have HR := hid hr
  have HB0 := hid hb0
  clear hr hb0
  go_enter Try.func71, Try.ntmps71
  go_wp2_with fail
  refine (idxcnt_any r B A Ar n c nr cr ts es gr b w h hB hn HR.out HB0.out hb).mono ?_
  rintro e w3 ⟨⟨z, rfl, hr⟩, hb3⟩
  have HZ := hid hr
  clear hr
  go_wp2_with fail
  go_ret
  exact ⟨ret_bool HZ.out, hb3⟩
set_option maxHeartbeats 1000000 in
theorem counts_any (m : Mani) (r : Rec) (B : Nat) (Ad Ao Ar : Option Addr) (nd cd no co nr cr : Nat) (ts : List Value) (b : Bool) (w : World) (h : RM w B m Ad nd cd Ao no co ts) (hB : B ≤ w.heap.size) (hn : r.D.length = nr) (hno : no ≤ 9223372036854775807) (hb : countsM m r = b) :
    Calls Try.prog 60 #[m.val (.slice Ad nd cd) (.slice Ao no co), r.val (.slice Ar nr cr)] w fun e w' => e = .returned (.bool b) ∧ Below w.heap.size w w' := by
  have HB := hid hb
  unfold countsM at HB
  have HN := hid hn
  have hx2 := Row.new w 27 #[.int .i64 m.seq, .int .i64 m.next, .int .i64 m.P.K, .int .i64 m.P.H, .int .i64 m.P.S, .int .i64 m.extra, .slice Ad nd cd, .slice Ao no co]
  have hx3 := Row.new (w.alloc (.cells #[.int .i64 m.seq, .int .i64 m.next, .int .i64 m.P.K, .int .i64 m.P.H, .int .i64 m.P.S, .int .i64 m.extra, .slice Ad nd cd, .slice Ao no co] 27)) 53 #[.int .i64 r.O, .int .i64 r.B, .int .i64 r.I, .int .i64 r.P.K, .int .i64 r.P.H, .int .i64 r.P.S, .int .u32 (r.S.toNat : Int), .slice Ar nr cr]
  have hx2b := hx2.alloc (.cells #[.int .i64 r.O, .int .i64 r.B, .int .i64 r.I, .int .i64 r.P.K, .int .i64 r.P.H, .int .i64 r.P.S, .int .u32 (r.S.toNat : Int), .slice Ar nr cr] 53)
  have hb2 := ((Below.refl w.heap.size w).alloc (Nat.le_refl _) (.cells #[.int .i64 m.seq, .int .i64 m.next, .int .i64 m.P.K, .int .i64 m.P.H, .int .i64 m.P.S, .int .i64 m.extra, .slice Ad nd cd, .slice Ao no co] 27)).alloc (by simp) (.cells #[.int .i64 r.O, .int .i64 r.B, .int .i64 r.I, .int .i64 r.P.K, .int .i64 r.P.H, .int .i64 r.P.S, .int .u32 (r.S.toNat : Int), .slice Ar nr cr] 53)
  have hsz : (w.alloc (.cells #[.int .i64 m.seq, .int .i64 m.next, .int .i64 m.P.K, .int .i64 m.P.H, .int .i64 m.P.S, .int .i64 m.extra, .slice Ad nd cd, .slice Ao no co] 27)).heap.size = w.heap.size + 1 := by simp
  rw [hsz] at hx3
  have HX2 := hid hx2b
  have HX3 := hid hx3
  have HB2 := hid hb2
  have HR := hid ((h.below (hb2.mono hB)).mono (Nat.le_trans hB hb2.size))
  have hz2 := hb2.size
  obtain ⟨pm, hpm⟩ : ∃ q, r.may = q := ⟨_, rfl⟩
  have HPM := hid hpm
  have x0 := hx3.cell 0
  have x1 := hx3.cell 1
  have x2 := hx3.cell 2
  have x3 := hx3.cell 3
  have x4 := hx3.cell 4
  have x5 := hx3.cell 5
  have x6 := hx3.cell 6
  have x7 := hx3.cell 7
  simp only [List.getElem?_cons_succ, List.getElem?_cons_zero] at x0 x1 x2 x3 x4 x5 x6 x7
  clear hb h hx2 hx3 hx2b hb2 hn hsz hpm
  unfold Mani.val Rec.val
  go_enter Try.func60, Try.ntmps60
  go_wp2_with fail
  generalize (w.alloc (.cells #[.int .i64 m.seq, .int .i64 m.next, .int .i64 m.P.K, .int .i64 m.P.H, .int .i64 m.P.S, .int .i64 m.extra, .slice Ad nd cd, .slice Ao no co] 27)).alloc (.cells #[.int .i64 r.O, .int .i64 r.B, .int .i64 r.I, .int .i64 r.P.K, .int .i64 r.P.H, .int .i64 r.P.S, .int .u32 (r.S.toNat : Int), .slice Ar nr cr] 53) = w2 at *
  refine (recmay_any r Ar nr cr pm w2 HN.out HPM.out).mono ?_
  rintro e w3 ⟨rfl, hb3⟩
  have HB3 := hid (HB2.out.trans (hb3.mono hz2))
  have hz3 := hb3.size
  have hr2 := HX2.out.below hb3 HX2.out.lt
  have hr3 := HX3.out.below hb3 HX3.out.lt
  have HR3 := hid ((HR.out.below hb3).mono hz3)
  have HX33 := hid hr3
  have m2 := hr2.cell 2
  have m3 := hr2.cell 3
  have m4 := hr2.cell 4
  have m7 := hr2.cell 7
  have r3 := hr3.cell 3
  have r4 := hr3.cell 4
  have r5 := hr3.cell 5
  simp only [List.getElem?_cons_succ, List.getElem?_cons_zero] at m2 m3 m4 m7 r3 r4 r5
  clear hr2 hr3 hb3 x0 x1 x2 x3 x4 x5 x6 x7
  cases pm with
  | false =>
    have hbt : b = false := by
      have := HB.out
      rw [HPM.out] at this
      simpa using this.symm
    subst hbt
    go_wp2_with fail
    go_ret
    exact ⟨rfl, HB3.out⟩
  | true =>
    have hb0 : 0 ≤ r.B := by
      have := HPM.out
      unfold Rec.may at this
      exact (of_decide_eq_true this).2.2.1
    obtain ⟨q, hq⟩ : ∃ q, m.objs.any (cntE r) = q := ⟨_, rfl⟩
    have HQ := hid hq
    have hcon : Calls Try.prog 71 #[.slice Ao no co, .func (Fn.func 77) #[] #[.pointer (some ⟨w.heap.size + 1, 0, none⟩)]] w3 fun e w' => e = .returned (.bool q) ∧ Below w3.heap.size w3 w' :=
      hascnt_any r w3.heap.size Ao Ar no co nr cr ts m.objs _ q w3 HR3.out.o (Nat.le_refl _) hno HX33.out hb0 hq
    have HCON := hid hcon
    clear hq hcon
    go_wp2_with fail
    · have e3 : r.P.K = m.P.K := by assumption
      have e4 : r.P.H = m.P.H := by assumption
      have e5 : r.P.S = m.P.S := by assumption
      refine HCON.out.mono ?_
      rintro e w4 ⟨rfl, hb4⟩
      have HB4 := hid (HB3.out.trans (hb4.mono (by omega)))
      have hpp : r.P = m.P := par_ext e3 e4 e5
      have hbq : b = q := by
        have := HB.out
        rw [HPM.out, decide_eq_true hpp, HQ.out] at this
        simpa using this.symm
      subst hbq
      clear hb4 e3 e4 e5 hpp
      go_wp2_with fail
      go_ret
      exact ⟨rfl, HB4.out⟩
    all_goals
      have hbt : b = false := by
        have := HB.out
        rw [HPM.out, decide_eq_false (fun e => by
          have e9 := congrArg Par.K e
          have e8 := congrArg Par.H e
          have e7 := congrArg Par.S e
          contradiction)] at this
        simpa using this.symm
      subst hbt
      go_ret
      exact ⟨rfl, HB3.out⟩
end Go.Proofs.Ytlfmfhdgnmchgaa

namespace Go.Proofs.Ytlfmfhdgnmchgaa
open Go.RowKit Wells
theorem insert_nil (A : Option Addr) (c : Nat) (fv : Value) (w : World) :
    Calls Try.prog 87 #[.slice A 0 c, .int .i64 0, .int .i64 0, fv] w fun e w' => e = .returned (.tuple #[]) ∧ w = w' := by
  go_enter Try.func87, Try.ntmps87
  go_wp2_with fail
  go_loopw [8] (fun a wr => a = .int .i64 1 ∧ w = wr) (fun _ _ => 0)
  case atStart => exact ⟨rfl, rfl⟩
  case round =>
    obtain ⟨rfl, rfl⟩ := hrel
    go_wp2_with fail
    go_end0
    exact ⟨rfl, rfl⟩
theorem stable_nil (A : Option Addr) (c : Nat) (fv : Value) (w : World) :
    Calls Try.prog 79 #[.slice A 0 c, .int .i64 0, fv] w fun e w' => e = .returned (.tuple #[]) ∧ w = w' := by
  go_enter Try.func79, Try.ntmps79
  go_wp2_with fail
  go_loopw [7, 8] (fun a b wr => a = .int .i64 0 ∧ b = .int .i64 20 ∧ w = wr) (fun _ _ _ => 0)
  case atStart => exact ⟨rfl, rfl, rfl⟩
  case round =>
    obtain ⟨rfl, rfl, rfl⟩ := hrel
    go_wp2_with fail
    refine (insert_nil A c fv w).mono ?_
    rintro e w1 ⟨rfl, rfl⟩
    go_wp2_with fail
    go_loopw [6] (fun a wr => a = .int .i64 20 ∧ w = wr) (fun _ _ => 0)
    case atStart => exact ⟨rfl, rfl⟩
    case round =>
      obtain ⟨rfl, rfl⟩ := hrel
      go_wp2_with fail
      go_end0
      exact ⟨rfl, rfl⟩
theorem sortstable_nil (A : Option Addr) (c : Nat) (fv : Value) (w : World) :
    Calls Try.prog 61 #[.slice A 0 c, fv] w fun e w' => e = .returned (.tuple #[]) ∧ w = w' := by
  go_enter Try.func61, Try.ntmps61
  go_wp2_with fail
  refine (stable_nil A c fv w).mono ?_
  rintro e w1 ⟨rfl, rfl⟩
  go_wp2_with fail
  go_end0
  exact ⟨rfl, rfl⟩
theorem compact_nil (A : Option Addr) (c : Nat) (fv : Value) (w : World) :
    Calls Try.prog 63 #[.slice A 0 c, fv] w fun e w' => e = .returned (.slice A 0 c) ∧ w = w' := by
  go_enter Try.func63, Try.ntmps63
  go_wp2_with fail
  go_ret
  exact ⟨rfl, rfl⟩
end Go.Proofs.Ytlfmfhdgnmchgaa

namespace Wells
open Go Go.RowKit
def b8 (z : Int) : Byte := hiB z 0
theorem b8_val {z : Int} (h : 0 ≤ z ∧ z ≤ 255) : bv8 (b8 z) = .int .u8 z := by
  unfold bv8 b8
  rw [hiB_toNat]
  congr 1
  simp
  omega
def packE (e : Ent) : BL := [b8 e.name.length] ++ e.name ++ highL 3 e.obj ++ highL 2 e.len ++ e.tries.map b8
def packH (m : Mani) : BL := highL 4 m.seq ++ highL 4 m.next ++ [b8 m.P.K, b8 m.P.H, b8 m.P.S, b8 m.extra, b8 m.drives.length]
def packL (m : Mani) : BL := packH m ++ m.drives.map b8 ++ [b8 m.objs.length] ++ m.objs.flatMap packE
def pack (m : Mani) : BL := if m.may then packL m else []
theorem take_b8 {l : List Int} {k : Nat} (h : k < l.length) : (l.take (k + 1)).map b8 = (l.take k).map b8 ++ [b8 (l.getD k 0)] := by
  rw [List.take_succ_eq_append_getElem h, List.map_append]; simp [h]
theorem take_ents {es : List Ent} {k : Nat} (h : k < es.length) : (es.take (k + 1)).flatMap packE = (es.take k).flatMap packE ++ packE (es.getD k default) := by
  rw [List.take_succ_eq_append_getElem h, List.flatMap_append]; simp [h]
theorem rise_ge {l : List Int} {most : Int} (h : riseB l most = true) : ∀ i, i < l.length → (i : Int) ≤ l.getD i 0
  | 0, hi => by
    have := all_range_at h hi
    unfold riseStep at this
    simp only [Bool.and_eq_true, decide_eq_true_eq] at this
    simpa using this.1.1
  | i + 1, hi => by
    have ih := rise_ge h i (by omega)
    have := all_range_at h hi
    unfold riseStep at this
    simp only [Bool.and_eq_true, Bool.or_eq_true, decide_eq_true_eq] at this
    rcases this.2 with h1 | h1
    · omega
    · simp only [Nat.add_sub_cancel] at h1
      omega
theorem rise_at {l : List Int} {most : Int} (h : riseB l most = true) {i : Nat} (hi : i < l.length) : 0 ≤ l.getD i 0 ∧ l.getD i 0 ≤ most := by
  have := all_range_at h hi
  unfold riseStep at this
  simp only [Bool.and_eq_true, decide_eq_true_eq] at this
  exact this.1
theorem rise_len {l : List Int} (h : riseB l 63 = true) : l.length ≤ 64 := by
  rcases Nat.eq_zero_or_pos l.length with h0 | h0
  · omega
  · have h1 := rise_ge h (l.length - 1) (by omega)
    have h2 := rise_at h (i := l.length - 1) (by omega)
    omega
/-- what a manifest that may be keeps to -/
structure MayP (m : Mani) : Prop where
  seq : 1 ≤ m.seq ∧ m.seq ≤ 2147483647
  next : 0 ≤ m.next ∧ m.next ≤ 16777216
  P : m.P.may = true
  extra : 0 ≤ m.extra ∧ m.extra ≤ 16
  drives : riseB m.drives 63 = true
  olen : m.objs.length ≤ 12
  objs : ∀ i, i < m.objs.length → objStep m i = true
theorem may_p {m : Mani} (h : m.may = true) : MayP m := by
  unfold Mani.may preB at h
  simp only [Bool.and_eq_true, decide_eq_true_eq] at h
  obtain ⟨⟨h1, h2, h3, h4⟩, h5, h6, h7⟩ := h
  exact ⟨h1, h2, h3, h4, h5, h6, fun i hi => all_range_at h7 hi⟩
theorem p_may {m : Mani} (h : MayP m) : m.may = true := by
  unfold Mani.may preB
  simp only [Bool.and_eq_true, decide_eq_true_eq]
  exact ⟨⟨h.seq, h.next, h.P, h.extra⟩, h.drives, h.olen, all_range_true h.objs⟩
/-- what an entry that may be keeps to -/
structure EntP (m : Mani) (e : Ent) : Prop where
  name : nameOk e.name = true
  nlen : 1 ≤ e.name.length ∧ e.name.length ≤ 12
  obj : 0 ≤ e.obj ∧ e.obj ≤ m.next - 1
  len : 0 ≤ e.len ∧ e.len ≤ m.P.K * m.P.S * 8
  len2 : e.len ≤ 3072
  tries : triesOk e.tries = true
  count : (e.tries.length : Int) = countP m.P e.len
  tlen : e.tries.length ≤ 8
theorem ent_p {m : Mani} {e : Ent} (hP : m.P.may = true) (h : entB m e = true) : EntP m e := by
  unfold entB at h
  simp only [Bool.and_eq_true, decide_eq_true_eq] at h
  obtain ⟨h1, h2, h3, h4, h5⟩ := h
  have hs := Par.size_le (Par.may_ok hP)
  unfold Par.size at hs
  obtain ⟨q, hq⟩ : ∃ q, m.P.K * m.P.S = q := ⟨_, rfl⟩
  have hn : 1 ≤ e.name.length ∧ e.name.length ≤ 12 := by
    unfold nameOk at h1
    simp only [Bool.and_eq_true, decide_eq_true_eq] at h1
    exact h1.2
  have hl : e.len ≤ 3072 := by rw [hq] at hs h3; omega
  refine ⟨h1, hn, h2, h3, hl, h4, h5, ?_⟩
  unfold countP at h5
  split at h5
  · rename_i hc
    have : (e.len - 1) / m.P.size < 8 := by
      unfold Par.size
      rw [hq] at h3 hs ⊢
      exact Int.ediv_lt_of_lt_mul (by omega) (by omega)
    omega
  · omega
theorem ent_at {m : Mani} (h : MayP m) {i : Nat} (hi : i < m.objs.length) : EntP m (m.objs.getD i default) := by
  have := h.objs i hi
  unfold objStep at this
  simp only [Bool.and_eq_true] at this
  exact ent_p h.P this.1
theorem packE_len {m : Mani} {e : Ent} (h : EntP m e) : (packE e).length ≤ 26 := by
  unfold packE
  simp only [List.length_append, List.length_map, highL_len, List.length_singleton]
  have := h.nlen; have := h.tlen
  omega
theorem tries_at {l : List Int} (h : triesOk l = true) {k : Nat} (hk : k < l.length) : 0 ≤ l.getD k 0 ∧ l.getD k 0 ≤ 15 := by
  unfold triesOk at h
  rw [List.all_eq_true] at h
  have := h (l.getD k 0) (by rw [List.getD_eq_getElem?_getD, List.getElem?_eq_getElem hk]; exact List.getElem_mem _)
  simpa using this
theorem strCells_strB (l : List Byte) : Lib.strCells (strB l) = l.map bv8 := by
  unfold Lib.strCells strB
  simp only [List.map_map]
  apply List.map_congr_left
  intro x _
  rfl
end Wells

