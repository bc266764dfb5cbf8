/- The walk of ManiBlocks. -/
import Derived.Test.YtceonkohidcdoaaWakes19
import Derived.Test.YtceonkohidcdoaaPlayMani
import Derived.Test.YtceonkohidcdoaaManiEdit
import Derived.Test.YtceonkohidcdoaaOrdG3
import Derived.Test.YtceonkohidcdoaaFrame
import Derived.Deep.DeepCutAuto
import Derived.Deep.CutBlock
namespace Wells
open Go Go.RowKit
theorem may_count {m : Mani} (h : m.may = true) {i : Nat} (hi : i < m.objs.length) : ((m.objs.getD i default).tries.length : Int) = countP m.P (m.objs.getD i default).len := (ent_at (may_p h) hi).count
theorem may_not {m : Mani} {i : Nat} (hi : i < m.objs.length) (h : ((m.objs.getD i default).tries.length : Int) ≠ countP m.P (m.objs.getD i default).len) : m.may = false := by
  cases hm : m.may with
  | false => rfl
  | true => exact absurd (may_count hm hi) h
theorem pack_nil {m : Mani} (h : m.may = false) : pack m = [] := by unfold pack; rw [h]; rfl
theorem getD_mem {es : List Ent} {k : Nat} (h : k < es.length) : es.getD k default ∈ es := by
  rw [List.getD_eq_getElem?_getD, List.getElem?_eq_getElem h, Option.getD_some]
  exact List.getElem_mem _
theorem mem_setE {es : List Ent} {k : Nat} {e' x : Ent} (h : x ∈ es.set k e') : x ∈ es ∨ x = e' := List.mem_or_eq_of_mem_set h
theorem edit_not {m : Mani} {k : Nat} {e' : Ent} (hk : k < m.objs.length) (h : (e'.tries.length : Int) ≠ countP m.P e'.len) : ({ m with objs := m.objs.set k e' } : Mani).may = false := by
  refine may_not (i := k) (by simpa using hk) ?_
  rw [show ({ m with objs := m.objs.set k e' } : Mani).objs = m.objs.set k e' from rfl, List.getD_eq_getElem?_getD, List.getElem?_set_self hk, Option.getD_some]
  exact h
theorem edit_64 {m : Mani} {k : Nat} {e' : Ent} (_hk : k < m.objs.length) (h : M64 m) (h' : i64 e'.obj ∧ i64 e'.len ∧ ∀ z ∈ e'.tries, i64 z) : M64 { m with objs := m.objs.set k e' } :=
  ⟨h.seq, h.next, h.K, h.H, h.S, h.extra, h.drives, fun e he => by
    rcases mem_setE he with h1 | rfl
    · exact h.objs e h1
    · exact h'⟩
theorem edit_nm {m : Mani} {k : Nat} {e' : Ent} (hk : k < m.objs.length) (h : ∀ e ∈ m.objs, e.name.length ≤ 1048576) (h' : e'.name = (m.objs.getD k default).name) : ∀ e ∈ ({ m with objs := m.objs.set k e' } : Mani).objs, e.name.length ≤ 1048576 := fun e he => by
  rcases mem_setE he with h1 | rfl
  · exact h e h1
  · rw [h']; exact h _ (getD_mem hk)
theorem PlayM.tlen {m : Mani} (h : PlayM m) : ∀ e ∈ m.objs, e.tries.length ≤ 216 := fun e he => by
  obtain ⟨i, hi, rfl⟩ := List.mem_iff_getElem.1 he
  have hp := h.objs i hi
  rw [show m.objs.getD i default = m.objs[i] by simp [hi]] at hp
  have h1 := (countP_le m.P m.objs[i].len).2 hp.len.1
  have h2 := hp.len.2
  have h3 : m.P.K * m.P.S ≤ 6 * m.P.S := Int.mul_le_mul_of_nonneg_right h.P.2.1 (by have := h.P; omega)
  have h4 := hp.count
  have h5 := h.P
  omega
end Wells
namespace Go.Proofs.Ytceonkohidcdoaa
open Go.RowKit Wells
theorem om_lt {base : Nat} {w : World} {m : Mani} {Ad Ao : Option Addr} {nd cd no co : Nat} {ts : List Value} (h : OM base w m Ad nd cd Ao no co ts) : (∀ i, i < no → ∀ b, (ts.getD i undef).ownBlock = some b → b < w.heap.size) ∧ (∀ b, (Value.slice Ad nd cd).ownBlock = some b → b < w.heap.size) ∧ (∀ b, (Value.slice Ao no co).ownBlock = some b → b < w.heap.size) :=
  ⟨fun i hi b hb => by
    obtain ⟨A, c, e, ho⟩ := h.o.at_ i (by rw [h.ol]; exact hi)
    rw [e] at hb
    exact (ho.lt b hb).2, fun b hb => (h.d.lt b hb).2, fun b hb => (h.o.own.lt b hb).2⟩
theorem own_belowx {base size n : Nat} {w w' : World} {e : TypeId} {v : Value} {xs : List Value} (h : w.ownsRow base e size v n xs) (hb : Below w.heap.size w w') : w'.ownsRow base e size v n xs := h.kept (grown_of_below hb none) (by cases v.ownBlock <;> simp)
set_option maxRecDepth 20000 in
set_option maxHeartbeats 8000000 in
theorem walk_ManiBlocks (A : Option Addr) (n c : Nat) (l : List Int) (what : Int) (w : World) (h : IsInts w A n c l) (ha : -9223372036854775808 ≤ what ∧ what ≤ 9223372036854775807) :
    Calls Try.prog 6 #[.slice A n c, .int .i64 what] w fun e w' => e = .returned (.bool true) ∧ Below w.heap.size w w' := by
  obtain ⟨i0, hi, hz0, hz1, hz2⟩ := info_parts infoI2
  obtain ⟨hs, hle, hcap, hwf⟩ := h
  go_enter Try.func6, Try.ntmps6
  go_wp2_with fail
  refine (mani_any w.heap.size A n c l w hs (Nat.le_refl _) (by omega) hwf).mono ?_
  rintro e w1 ⟨m, Ad, nd, cd, Ao, no, co, ts, rfl, hom, hpl, hb1⟩
  have HMAY := hid hpl.may
  have H64 := hid hpl.m64
  have HPL := hid hpl
  have hrm1 := hom.read
  have hz1w := hb1.size
  have hno5 : no ≤ 5 := by have := hpl.olen; rw [hom.ol] at this; exact this
  have hnd8 : nd ≤ 8 := by have := hpl.dlen; rw [hom.dl] at this; exact this
  have HOL := hid hom.ol
  clear hom hpl hwf
  unfold Mani.val
  have hx2 := Row.new w1 27 #[.int .i64 m.seq, .int .i64 m.next, .int .i64 m.P.K, .int .i64 m.P.H, .int .i64 m.P.S, .int .i64 m.extra, .slice Ad nd cd, .slice Ao no co]
  have hb12 : Below w1.heap.size w1 (w1.alloc (.cells #[.int .i64 m.seq, .int .i64 m.next, .int .i64 m.P.K, .int .i64 m.P.H, .int .i64 m.P.S, .int .i64 m.extra, .slice Ad nd cd, .slice Ao no co] 27)) := (Below.refl _ _).alloc (Nat.le_refl _) _
  have hrm2 := (hrm1.below hb12).mono hb12.size
  have hb2 := hb1.trans (hb12.mono hz1w)
  have HX := hid hx2
  have HM := hid hrm2
  have HBB := hid hb2
  have x0 := HX.out.cell 0
  have x1 := HX.out.cell 1
  have x2 := HX.out.cell 2
  have x3 := HX.out.cell 3
  have x4 := HX.out.cell 4
  have x5 := HX.out.cell 5
  have x6 := HX.out.cell 6
  have x7 := HX.out.cell 7
  simp only [List.getElem?_cons_succ, List.getElem?_cons_zero] at x0 x1 x2 x3 x4 x5 x6 x7
  clear hrm1 hb12 hb1 hx2 hrm2 hb2 hz1w
  obtain ⟨tb, htb⟩ : ∃ t, (((no : Nat) : Int) == 0) = t := ⟨_, rfl⟩
  have HTB := hid htb
  clear htb
  cases tb with
  | true =>
    have hq := HTB.out
    go_wp2_with fail
    refine (may_any m _ Ad Ao nd cd no co ts true _ HM.out (Nat.le_refl _) H64.out.1 H64.out.2 HMAY.out).mono ?_
    rintro e w5 ⟨rfl, hb5⟩
    have HB5 := hid (HBB.out.trans (hb5.mono HBB.out.size))
    clear hb5
    go_wp2_with fail
    refine (wakes19 _).mono ?_
    rintro e w6 ⟨rfl, hb6⟩
    have hbe := HB5.out.trans (hb6.mono HB5.out.size)
    go_wp2_with fail
    go_ret
    exact ⟨rfl, hbe⟩
  | false =>
    have hq := HTB.out
    have h0 : 0 < no := by
      rcases Nat.eq_zero_or_pos no with h | h
      · have := HTB.out
        rw [h] at this
        cases this
      · exact h
    go_wp2_with fail
    generalize w1.alloc (.cells #[.int .i64 m.seq, .int .i64 m.next, .int .i64 m.P.K, .int .i64 m.P.H, .int .i64 m.P.S, .int .i64 m.extra, .slice Ad nd cd, .slice Ao no co] 27) = w2 at *
    obtain ⟨gm, hgm⟩ : ∃ g, w1.heap.size = g := ⟨_, rfl⟩
    rw [hgm] at HX x0 x1 x2 x3 x4 x5 x6 x7 ⊢
    clear hgm
    refine (within_any what no w2 ha.1 ha.2 (by omega) (by omega)).mono ?_
    rintro e w3 ⟨rfl, rfl⟩
    obtain ⟨k, hk, hkn⟩ : ∃ k : Nat, what % (no : Int) = (k : Int) ∧ k < no := by
      have h1 := Int.emod_nonneg what (show (no : Int) ≠ 0 by omega)
      have h2 := Int.emod_lt_of_pos what (show (0 : Int) < no by omega)
      exact ⟨(what % (no : Int)).toNat, by omega, by omega⟩
    rw [hk]
    clear hk
    obtain ⟨bO, oO, At, ct, rfl, hbO, e0, e1, e2, e3, htc, htm, hst⟩ := HM.out.o.get hkn
    have HST := hid hst
    clear hst
    have hmem : m.objs.getD k default ∈ m.objs := by
      have h := HOL.out
      rw [List.getD_eq_getElem?_getD, List.getElem?_eq_getElem (by omega), Option.getD_some]
      exact List.getElem_mem _
    have hc0 := may_count HMAY.out (show k < m.objs.length by rw [HOL.out]; exact hkn)
    have hpe := HPL.out.objs k (by rw [HOL.out]; exact hkn)
    have hln := hpe.len
    have htz := hpe.tries
    have hPs := HPL.out.P
    have hlnb : (m.objs.getD k default).len ≤ 216 := by
      have h1 : m.P.K * m.P.S ≤ 6 * m.P.S := Int.mul_le_mul_of_nonneg_right hPs.2.1 (by omega)
      have h2 := hln.2
      omega
    have HCT := hid hc0
    have HCALL : Hid (∀ w', Calls Try.prog 28 #[.agg #[.int .i64 m.P.K, .int .i64 m.P.H, .int .i64 m.P.S], .int .i64 (m.objs.getD k default).len] w' fun e w'' => e = .returned (.int .i64 ((m.objs.getD k default).tries.length : Int)) ∧ Below w'.heap.size w' w'') := hid (fun w' => count_any m.P (m.objs.getD k default).len _ w' (by omega) HCT.out.symm)
    have HLN := hid (show 0 ≤ (m.objs.getD k default).len ∧ (m.objs.getD k default).len ≤ 216 from ⟨hln.1, hlnb⟩)
    have hct : (m.objs.getD k default).tries.length ≤ 216 := by
      have h1 := (countP_le m.P (m.objs.getD k default).len).2 HLN.out.1
      omega
    have HTZ := hid htz
    clear hc0 hpe hln htz hPs hlnb hmem
    obtain ⟨ee, hee⟩ : ∃ e, m.objs.getD k default = e := ⟨_, rfl⟩
    rw [hee] at e0 e1 e2 e3 HCALL HLN HTZ HCT hct htc HST
    have HEE := hid hee
    clear hee
    obtain ⟨nt, hnt⟩ : ∃ n, ee.tries.length = n := ⟨_, rfl⟩
    rw [hnt] at e3 HCALL HCT hct htc HST
    have HNT := hid hnt
    clear hnt
    have hii : (k : Int) < (no : Int) := by omega
    skip
    go_wp2_with fail
    refine Org.begin [] (fun w' => Below w2.heap.size w2 w') [0, 1, 2, 3, 4, 5, 6, 7, 9, 10, 11, 12, 13, 14, 15, 8, 16] (by kernel_rfl) (below_drew' (Below.refl _ _)) (fun hS => ?_)
    (refine Org.yes (v := ?_) rfl (by kernel_rfl) (by kernel_rfl) (by kernel_rfl) (by kernel_rfl) (by kernel_rfl) (fun _ _ _ h => h) (by kernel_rfl) (SM.of hS) ?_ ?_; rotate_left; (focus (intro w hSw; (try dsimp only at hSw); refine Pure.val ?_; go_simp; (try with_reducible rfl); done)); try simp only [Act.put, List.setIfInBounds_toArray, List.set_cons_zero, List.set_cons_succ])
    (refine Org.yes (v := ?_) rfl (by kernel_rfl) (by kernel_rfl) (by kernel_rfl) (by kernel_rfl) (by kernel_rfl) (fun _ _ _ h => h) (by kernel_rfl) (SM.of hS) ?_ ?_; rotate_left; (focus (intro w hSw; (try dsimp only at hSw); have qx2 := cell_keep hSw x2; have qx3 := cell_keep hSw x3; have qx4 := cell_keep hSw x4; refine Pure.val ?_; go_simp; (try with_reducible rfl); done)); try simp only [Act.put, List.setIfInBounds_toArray, List.set_cons_zero, List.set_cons_succ])
    (refine Org.yes (v := ?_) rfl (by kernel_rfl) (by kernel_rfl) (by kernel_rfl) (by kernel_rfl) (by kernel_rfl) (fun _ _ _ h => h) (by kernel_rfl) (SM.of hS) ?_ ?_; rotate_left; (focus (intro w hSw; (try dsimp only at hSw); refine Pure.val ?_; go_simp; (try with_reducible rfl); done)); try simp only [Act.put, List.setIfInBounds_toArray, List.set_cons_zero, List.set_cons_succ])
    (refine Org.yes (v := ?_) rfl (by kernel_rfl) (by kernel_rfl) (by kernel_rfl) (by kernel_rfl) (by kernel_rfl) (fun _ _ _ h => h) (by kernel_rfl) (SM.of hS) ?_ ?_; rotate_left; (focus (intro w hSw; (try dsimp only at hSw); have qx7 := cell_keep hSw x7; refine Pure.val ?_; go_simp; (try with_reducible rfl); done)); try simp only [Act.put, List.setIfInBounds_toArray, List.set_cons_zero, List.set_cons_succ])
    (refine Org.yes (v := ?_) rfl (by kernel_rfl) (by kernel_rfl) (by kernel_rfl) (by kernel_rfl) (by kernel_rfl) (fun _ _ _ h => h) (by kernel_rfl) (SM.of hS) ?_ ?_; rotate_left; (focus (intro w hSw; (try dsimp only at hSw); refine Pure.val ?_; go_simp; (try with_reducible rfl); done)); try simp only [Act.put, List.setIfInBounds_toArray, List.set_cons_zero, List.set_cons_succ])
    (refine Org.yes (v := ?_) rfl (by kernel_rfl) (by kernel_rfl) (by kernel_rfl) (by kernel_rfl) (by kernel_rfl) (fun _ _ _ h => h) (by kernel_rfl) (SM.of hS) ?_ ?_; rotate_left; (focus (intro w hSw; (try dsimp only at hSw); refine Pure.val ?_; go_simp; (try with_reducible rfl); done)); try simp only [Act.put, List.setIfInBounds_toArray, List.set_cons_zero, List.set_cons_succ])
    (refine Org.yes (v := ?_) rfl (by kernel_rfl) (by kernel_rfl) (by kernel_rfl) (by kernel_rfl) (by kernel_rfl) (fun _ _ _ h => h) (by kernel_rfl) (SM.of hS) ?_ ?_; rotate_left; (focus (intro w hSw; (try dsimp only at hSw); refine Pure.val ?_; go_simp; (try with_reducible rfl); done)); try simp only [Act.put, List.setIfInBounds_toArray, List.set_cons_zero, List.set_cons_succ])
    (refine Org.yes (v := ?_) rfl (by kernel_rfl) (by kernel_rfl) (by kernel_rfl) (by kernel_rfl) (by kernel_rfl) (fun _ _ _ h => h) (by kernel_rfl) (SM.of hS) ?_ ?_; rotate_left; (focus (intro w hSw; (try dsimp only at hSw); have qe2 := cell_keep hSw e2; refine Pure.val ?_; go_simp; (try with_reducible rfl); done)); try simp only [Act.put, List.setIfInBounds_toArray, List.set_cons_zero, List.set_cons_succ])
    (refine Org.yes (v := ?_) rfl (by kernel_rfl) (by kernel_rfl) (by kernel_rfl) (by kernel_rfl) (by kernel_rfl) (fun _ _ _ h => h) (by kernel_rfl) (SM.of hS) ?_ ?_; rotate_left; (focus (intro w hSw; (try dsimp only at hSw); refine Pure.val ?_; go_simp; (try with_reducible rfl); done)); try simp only [Act.put, List.setIfInBounds_toArray, List.set_cons_zero, List.set_cons_succ])
    (refine Org.yes (v := ?_) rfl (by kernel_rfl) (by kernel_rfl) (by kernel_rfl) (by kernel_rfl) (by kernel_rfl) (fun _ _ _ h => h) (by kernel_rfl) (SM.of hS) ?_ ?_; rotate_left; (focus (intro w hSw; (try dsimp only at hSw); have qx7 := cell_keep hSw x7; refine Pure.val ?_; go_simp; (try with_reducible rfl); done)); try simp only [Act.put, List.setIfInBounds_toArray, List.set_cons_zero, List.set_cons_succ])
    (refine Org.yes (v := ?_) rfl (by kernel_rfl) (by kernel_rfl) (by kernel_rfl) (by kernel_rfl) (by kernel_rfl) (fun _ _ _ h => h) (by kernel_rfl) (SM.of hS) ?_ ?_; rotate_left; (focus (intro w hSw; (try dsimp only at hSw); refine Pure.val ?_; go_simp; (try with_reducible rfl); done)); try simp only [Act.put, List.setIfInBounds_toArray, List.set_cons_zero, List.set_cons_succ])
    (refine Org.yes (v := ?_) rfl (by kernel_rfl) (by kernel_rfl) (by kernel_rfl) (by kernel_rfl) (by kernel_rfl) (fun _ _ _ h => h) (by kernel_rfl) (SM.of hS) ?_ ?_; rotate_left; (focus (intro w hSw; (try dsimp only at hSw); refine Pure.val ?_; go_simp; (try with_reducible rfl); done)); try simp only [Act.put, List.setIfInBounds_toArray, List.set_cons_zero, List.set_cons_succ])
    (refine Org.yes (v := ?_) rfl (by kernel_rfl) (by kernel_rfl) (by kernel_rfl) (by kernel_rfl) (by kernel_rfl) (fun _ _ _ h => h) (by kernel_rfl) (SM.of hS) ?_ ?_; rotate_left; (focus (intro w hSw; (try dsimp only at hSw); refine Pure.val ?_; go_simp; (try with_reducible rfl); done)); try simp only [Act.put, List.setIfInBounds_toArray, List.set_cons_zero, List.set_cons_succ])
    (refine Org.yes (v := ?_) rfl (by kernel_rfl) (by kernel_rfl) (by kernel_rfl) (by kernel_rfl) (by kernel_rfl) (fun _ _ _ h => h) (by kernel_rfl) (SM.of hS) ?_ ?_; rotate_left; (focus (intro w hSw; (try dsimp only at hSw); have qe3 := cell_keep hSw e3; refine Pure.val ?_; go_simp; (try with_reducible rfl); done)); try simp only [Act.put, List.setIfInBounds_toArray, List.set_cons_zero, List.set_cons_succ])
    (refine Org.yes (v := ?_) rfl (by kernel_rfl) (by kernel_rfl) (by kernel_rfl) (by kernel_rfl) (by kernel_rfl) (fun _ _ _ h => h) (by kernel_rfl) (SM.of hS) ?_ ?_; rotate_left; (focus (intro w hSw; (try dsimp only at hSw); refine Pure.val ?_; go_simp; (try with_reducible rfl); done)); try simp only [Act.put, List.setIfInBounds_toArray, List.set_cons_zero, List.set_cons_succ])
    refine Org.go rfl (by kernel_rfl) (by kernel_rfl) (fun K hK => ?_)
    go_simp
    go_at_call 28
    refine (HCALL.out _).mono ?_
    rintro e w5 ⟨rfl, hbb⟩
    go_wp2_with fail
    refine hK.out _ _ (hS.trans (hbb.mono hS.size)) (fun hS2 => ?_)
    clear hK K hS
    have hS := hS2
    clear hS2
    try simp only [Act.put, List.setIfInBounds_toArray, List.set_cons_zero, List.set_cons_succ]
    (refine Org.yes (v := ?_) rfl (by kernel_rfl) (by kernel_rfl) (by kernel_rfl) (by kernel_rfl) (by kernel_rfl) (fun _ _ _ h => h) (by kernel_rfl) (SM.of hS) ?_ ?_; rotate_left; (focus (intro w hSw; (try dsimp only at hSw); refine Pure.val ?_; go_simp; (try with_reducible rfl); done)); try simp only [Act.put, List.setIfInBounds_toArray, List.set_cons_zero, List.set_cons_succ])
    refine Org.done (by kernel_rfl) ?_
    have hb5 : Below w2.heap.size w2 w5 := hS
    clear hS
    have HM5 := hid ((HM.out.below hb5).mono hb5.size)
    have HX5 := hid (HX.out.below hb5 HX.out.lt)
    have HB5 := hid (HBB.out.trans (hb5.mono HBB.out.size))
    have HTRI : Hid (∀ e ∈ m.objs, e.tries.length ≤ 1048576) := hid (fun e he => by have := HPL.out.tlen e he; omega)
    clear x0 x1 x2 x3 x4 x5 x6 x7 e0 e1 e2 e3 HM HX HBB HST hb5 HCALL htc htm
    have x0 := HX5.out.cell 0
    have x1 := HX5.out.cell 1
    have x2 := HX5.out.cell 2
    have x3 := HX5.out.cell 3
    have x4 := HX5.out.cell 4
    have x5 := HX5.out.cell 5
    have x6 := HX5.out.cell 6
    have x7 := HX5.out.cell 7
    simp only [List.getElem?_cons_succ, List.getElem?_cons_zero] at x0 x1 x2 x3 x4 x5 x6 x7
    go_upto_region 7 with fail
    go_cut [7, 8] (fun r7 r8 wx => ∃ (g7 g8 N1 N2 : Nat) (Ad1 : Option Addr) (nd1 cd1 : Nat) (Ao1 : Option Addr) (no1 co1 : Nat) (ts1 : List Value) (Ad2 : Option Addr) (nd2 cd2 : Nat) (Ao2 : Option Addr) (no2 co2 : Nat) (ts2 : List Value),
      r7 = .pointer (some ⟨g7, 0, none⟩) ∧ r8 = .pointer (some ⟨g8, 0, none⟩) ∧ EM N1 wx g7 m Ad1 nd1 cd1 Ao1 no1 co1 ts1 ∧ EM N2 wx g8 m Ad2 nd2 cd2 Ao2 no2 co2 ts2 ∧ w5.heap.size ≤ N1 ∧
      (N1 ≤ N2 ∧ (∀ i, i < no1 → ∀ b, (ts1.getD i undef).ownBlock = some b → b < N2) ∧ (∀ b, (Value.slice Ad1 nd1 cd1).ownBlock = some b → b < N2) ∧ (∀ b, (Value.slice Ao1 no1 co1).ownBlock = some b → b < N2)) ∧ g7 ≠ g8 ∧ Below w5.heap.size w5 wx)
    case first =>
      refine Org.begin [] (fun w' => Below w5.heap.size w5 w') [0, 2] (by kernel_rfl) (below_drew' (Below.refl _ _)) (fun hS => ?_)
      generalize w5.drew = W0 at *
      (refine Org.yes (v := ?_) rfl (by kernel_rfl) (by kernel_rfl) (by kernel_rfl) (by kernel_rfl) (by kernel_rfl) (fun _ _ _ h => h) (by kernel_rfl) (SM.of hS) ?_ ?_; rotate_left; (focus (intro w hSw; (try dsimp only at hSw); have qx0 := cell_keep hSw x0; have qx1 := cell_keep hSw x1; have qx2 := cell_keep hSw x2; have qx3 := cell_keep hSw x3; have qx4 := cell_keep hSw x4; have qx5 := cell_keep hSw x5; have qx6 := cell_keep hSw x6; have qx7 := cell_keep hSw x7; refine Pure.val ?_; go_simp; (try with_reducible rfl); done)); try simp only [Act.put, List.setIfInBounds_toArray, List.set_cons_zero, List.set_cons_succ])
      (refine Org.yes (v := ?_) rfl (by kernel_rfl) (by kernel_rfl) (by kernel_rfl) (by kernel_rfl) (by kernel_rfl) (fun _ _ _ h => h) (by kernel_rfl) (SM.of hS) ?_ ?_; rotate_left; (focus (intro w hSw; (try dsimp only at hSw); have qx0 := cell_keep hSw x0; have qx1 := cell_keep hSw x1; have qx2 := cell_keep hSw x2; have qx3 := cell_keep hSw x3; have qx4 := cell_keep hSw x4; have qx5 := cell_keep hSw x5; have qx6 := cell_keep hSw x6; have qx7 := cell_keep hSw x7; refine Pure.val ?_; go_simp; (try with_reducible rfl); done)); try simp only [Act.put, List.setIfInBounds_toArray, List.set_cons_zero, List.set_cons_succ])
      refine Org.three (i := 1) (j := 4) (k := 5) [] [] [] rfl rfl rfl (by kernel_rfl) (by kernel_rfl) (by kernel_rfl) (by kernel_rfl) (fun K hK => ?_) (fun K hK => ?_) (fun K hK => ?_)
      · skip
        go_simp
        go_at_call 13
        refine (copy_any m _ Ad (some ⟨bO, oO, none⟩) nd cd no co ts W0 ((HM5.out.below hS).mono hS.size) (Nat.le_refl _) (by omega) (by omega) HTRI.out).mono ?_
        rintro e W1 ⟨Ad1, nd1, cd1, Ao1, no1, co1, ts1, he, hom1, hdj1, hbk⟩
        unfold Mani.val at he
        subst he
        have HD1 := hid hdj1
        obtain ⟨N1, hN1⟩ : ∃ N, W0.heap.size = N := ⟨_, rfl⟩
        obtain ⟨S1, hS1⟩ : ∃ S, W1.heap.size = S := ⟨_, rfl⟩
        have HNN1 := hid (show w5.heap.size ≤ N1 ∧ N1 ≤ S1 by rw [← hN1, ← hS1]; exact ⟨hS.size, hbk.size⟩)
        rw [hN1] at hom1
        have HC1 := hid hom1
        have HSZ := hid (Nat.le_of_eq hS1.symm)
        have hS3 := hS.trans (hbk.mono hS.size)
        clear hom1 hdj1 hN1 hS1 hbk
        go_wp2_with fail
        refine hK.out _ _ hS3 (fun hS2 => ?_)
        clear hS3
        clear hK K hS
        have hS := hS2
        clear hS2
        try simp only [Act.put, List.setIfInBounds_toArray, List.set_cons_zero, List.set_cons_succ]
        refine Org.three (i := 3) (j := 4) (k := 5) [] [] [] rfl rfl rfl (by kernel_rfl) (by kernel_rfl) (by kernel_rfl) (by kernel_rfl) (fun K hK => ?_) (fun K hK => ?_) (fun K hK => ?_)
        · skip
          go_simp
          go_at_call 13
          refine (copy_any m _ Ad (some ⟨bO, oO, none⟩) nd cd no co ts W1 ((HM5.out.below hS).mono hS.size) (Nat.le_refl _) (by omega) (by omega) HTRI.out).mono ?_
          rintro e W2 ⟨Ad2, nd2, cd2, Ao2, no2, co2, ts2, he, hom2, hdj2, hbk⟩
          unfold Mani.val at he
          subst he
          have HD2 := hid hdj2
          obtain ⟨N2, hN2⟩ : ∃ N, W1.heap.size = N := ⟨_, rfl⟩
          obtain ⟨S2, hS2⟩ : ∃ S, W2.heap.size = S := ⟨_, rfl⟩
          have HNN2 := hid (show w5.heap.size ≤ N2 ∧ N2 ≤ S2 by rw [← hN2, ← hS2]; exact ⟨hS.size, hbk.size⟩)
          have HLT := hid (show N1 ≤ N2 ∧ (∀ i, i < no1 → ∀ b, (ts1.getD i undef).ownBlock = some b → b < N2) ∧ (∀ b, (Value.slice Ad1 nd1 cd1).ownBlock = some b → b < N2) ∧ (∀ b, (Value.slice Ao1 no1 co1).ownBlock = some b → b < N2) by rw [← hN2]; exact ⟨Nat.le_trans HNN1.out.2 HSZ.out, om_lt HC1.out⟩)
          have HSZ := hid (Nat.le_trans HSZ.out hbk.size)
          have HC1 := hid (HC1.out.below hbk)
          rw [hN2] at hom2
          have HC2 := hid hom2
          have hS3 := hS.trans (hbk.mono hS.size)
          clear hom2 hdj2 hN2 hS2 hbk
          go_wp2_with fail
          refine hK.out _ _ hS3 (fun hS2 => ?_)
          clear hS3
          clear hK K hS
          have hS := hS2
          clear hS2
          try simp only [Act.put, List.setIfInBounds_toArray, List.set_cons_zero, List.set_cons_succ]
          refine Org.two (i := 4) (j := 5) [5, 6, 7] [4, 6, 7] rfl rfl (by kernel_rfl) (by kernel_rfl) (by kernel_rfl) (fun K hK => ?_) (fun K hK => ?_)
          · skip
            go_simp
            obtain ⟨g7, hg7⟩ : ∃ g, W2.heap.size = g := ⟨_, rfl⟩
            have HG7 := hid (show w5.heap.size ≤ g7 by rw [← hg7]; exact hS.size)
            have hA7 := Row.new W2 27 #[.int .i64 0, .int .i64 0, .int .i64 0, .int .i64 0, .int .i64 0, .int .i64 0, .slice none 0 0, .slice none 0 0]
            have hbk : Below W2.heap.size W2 (W2.alloc (.cells #[.int .i64 0, .int .i64 0, .int .i64 0, .int .i64 0, .int .i64 0, .int .i64 0, .slice none 0 0, .slice none 0 0] 27)) := (Below.refl _ _).alloc (Nat.le_refl _) _
            have hS3 := hS.alloc hS.size (.cells #[.int .i64 0, .int .i64 0, .int .i64 0, .int .i64 0, .int .i64 0, .int .i64 0, .slice none 0 0, .slice none 0 0] 27)
            have HSZ := hid (Nat.le_trans HSZ.out hbk.size)
            have HC1 := hid (HC1.out.below hbk)
            have HC2 := hid (HC2.out.below hbk)
            rw [hg7] at hA7 ⊢
            generalize W2.alloc (.cells #[.int .i64 0, .int .i64 0, .int .i64 0, .int .i64 0, .int .i64 0, .int .i64 0, .slice none 0 0, .slice none 0 0] 27) = W3 at *
            have HA7 := hid hA7
            have HOLD7 := hid hA7.lt
            clear hg7 hA7 hbk
            refine hK.out _ _ hS3 (fun hS2 => ?_)
            clear hS3
            clear hK K hS
            have hS := hS2
            clear hS2
            try simp only [Act.put, List.setIfInBounds_toArray, List.set_cons_zero, List.set_cons_succ]
            refine Org.go rfl (by kernel_rfl) (by kernel_rfl) (fun K hK => ?_)
            go_simp
            obtain ⟨g8, hg8⟩ : ∃ g, W3.heap.size = g := ⟨_, rfl⟩
            have HG8 := hid (show w5.heap.size ≤ g8 by rw [← hg8]; exact hS.size)
            have hA8 := Row.new W3 27 #[.int .i64 0, .int .i64 0, .int .i64 0, .int .i64 0, .int .i64 0, .int .i64 0, .slice none 0 0, .slice none 0 0]
            have hbk : Below W3.heap.size W3 (W3.alloc (.cells #[.int .i64 0, .int .i64 0, .int .i64 0, .int .i64 0, .int .i64 0, .int .i64 0, .slice none 0 0, .slice none 0 0] 27)) := (Below.refl _ _).alloc (Nat.le_refl _) _
            have hS3 := hS.alloc hS.size (.cells #[.int .i64 0, .int .i64 0, .int .i64 0, .int .i64 0, .int .i64 0, .int .i64 0, .slice none 0 0, .slice none 0 0] 27)
            have HNE := hid (show g7 ≠ g8 by have := HA7.out.lt; omega)
            have HSZ := hid (Nat.le_trans HSZ.out hbk.size)
            have HC1 := hid (HC1.out.below hbk)
            have HC2 := hid (HC2.out.below hbk)
            have HA7 := hid (HA7.out.below hbk HA7.out.lt)
            rw [hg8] at hA8 ⊢
            generalize W3.alloc (.cells #[.int .i64 0, .int .i64 0, .int .i64 0, .int .i64 0, .int .i64 0, .int .i64 0, .slice none 0 0, .slice none 0 0] 27) = W4 at *
            have HA8 := hid hA8
            have HOLD8 := hid hA8.lt
            clear hg8 hA8 hbk
            refine hK.out _ _ hS3 (fun hS2 => ?_)
            clear hS3
            clear hK K hS
            have hS := hS2
            clear hS2
            try simp only [Act.put, List.setIfInBounds_toArray, List.set_cons_zero, List.set_cons_succ]
            refine Org.go rfl (by kernel_rfl) (by kernel_rfl) (fun K hK => ?_)
            have y0 := HA7.out.cell 0
            have y1 := HA7.out.cell 1
            have y2 := HA7.out.cell 2
            have y3 := HA7.out.cell 3
            have y4 := HA7.out.cell 4
            have y5 := HA7.out.cell 5
            have y6 := HA7.out.cell 6
            have y7 := HA7.out.cell 7
            simp only [List.getElem?_cons_succ, List.getElem?_cons_zero] at y0 y1 y2 y3 y4 y5 y6 y7
            have z0 := HA7.out.frozen 0
            have z1 := HA7.out.frozen 1
            have z2 := HA7.out.frozen 2
            have z3 := HA7.out.frozen 3
            have z4 := HA7.out.frozen 4
            have z5 := HA7.out.frozen 5
            have z6 := HA7.out.frozen 6
            have z7 := HA7.out.frozen 7
            have hg8 := grown8s W4 g7 (.int .i64 m.seq) (.int .i64 m.next) (.int .i64 m.P.K) (.int .i64 m.P.H) (.int .i64 m.P.S) (.int .i64 m.extra) (.slice Ad1 nd1 cd1) (.slice Ao1 no1 co1)
            have HC1 := hid (HC1.out.other hg8 HA7.out (by decide) (by decide))
            have HC2 := hid (HC2.out.other hg8 HA7.out (by decide) (by decide))
            have HA8 := hid (HA8.out.grown hg8 (fun e => by injection e with e; exact HNE.out e.symm))
            have HS3 := hid (hS.grown hg8 hS.size (fun j hj => by injection hj with hj; have := HG7.out; omega))
            have HA7 := hid (row8m HA7.out (.int .i64 m.seq) (.int .i64 m.next) (.int .i64 m.P.K) (.int .i64 m.P.H) (.int .i64 m.P.S) (.int .i64 m.extra) (.slice Ad1 nd1 cd1) (.slice Ao1 no1 co1))
            clear hg8
            go_simp
            refine hK.out _ _ HS3.out (fun hS2 => ?_)
            clear HS3 y0 y1 y2 y3 y4 y5 y6 y7 z0 z1 z2 z3 z4 z5 z6 z7
            generalize ((((((((W4.setCell ⟨g7, 0, none⟩ (.int .i64 m.seq)).setCell ⟨g7, 1, none⟩ (.int .i64 m.next)).setCell ⟨g7, 2, none⟩ (.int .i64 m.P.K)).setCell ⟨g7, 3, none⟩ (.int .i64 m.P.H)).setCell ⟨g7, 4, none⟩ (.int .i64 m.P.S)).setCell ⟨g7, 5, none⟩ (.int .i64 m.extra)).setCell ⟨g7, 6, none⟩ (.slice Ad1 nd1 cd1)).setCell ⟨g7, 7, none⟩ (.slice Ao1 no1 co1)) = W5 at *
            clear hK K hS
            have hS := hS2
            clear hS2
            try simp only [Act.put, List.setIfInBounds_toArray, List.set_cons_zero, List.set_cons_succ]
            refine Org.go rfl (by kernel_rfl) (by kernel_rfl) (fun K hK => ?_)
            have y0 := HA8.out.cell 0
            have y1 := HA8.out.cell 1
            have y2 := HA8.out.cell 2
            have y3 := HA8.out.cell 3
            have y4 := HA8.out.cell 4
            have y5 := HA8.out.cell 5
            have y6 := HA8.out.cell 6
            have y7 := HA8.out.cell 7
            simp only [List.getElem?_cons_succ, List.getElem?_cons_zero] at y0 y1 y2 y3 y4 y5 y6 y7
            have z0 := HA8.out.frozen 0
            have z1 := HA8.out.frozen 1
            have z2 := HA8.out.frozen 2
            have z3 := HA8.out.frozen 3
            have z4 := HA8.out.frozen 4
            have z5 := HA8.out.frozen 5
            have z6 := HA8.out.frozen 6
            have z7 := HA8.out.frozen 7
            have hg8 := grown8s W5 g8 (.int .i64 m.seq) (.int .i64 m.next) (.int .i64 m.P.K) (.int .i64 m.P.H) (.int .i64 m.P.S) (.int .i64 m.extra) (.slice Ad2 nd2 cd2) (.slice Ao2 no2 co2)
            have HC1 := hid (HC1.out.other hg8 HA8.out (by decide) (by decide))
            have HC2 := hid (HC2.out.other hg8 HA8.out (by decide) (by decide))
            have HA7 := hid (HA7.out.grown hg8 (fun e => by injection e with e; exact HNE.out e))
            have HS3 := hid (hS.grown hg8 hS.size (fun j hj => by injection hj with hj; have := HG8.out; omega))
            have HA8 := hid (row8m HA8.out (.int .i64 m.seq) (.int .i64 m.next) (.int .i64 m.P.K) (.int .i64 m.P.H) (.int .i64 m.P.S) (.int .i64 m.extra) (.slice Ad2 nd2 cd2) (.slice Ao2 no2 co2))
            clear hg8
            go_simp
            refine hK.out _ _ HS3.out (fun hS2 => ?_)
            clear HS3 y0 y1 y2 y3 y4 y5 y6 y7 z0 z1 z2 z3 z4 z5 z6 z7
            generalize ((((((((W5.setCell ⟨g8, 0, none⟩ (.int .i64 m.seq)).setCell ⟨g8, 1, none⟩ (.int .i64 m.next)).setCell ⟨g8, 2, none⟩ (.int .i64 m.P.K)).setCell ⟨g8, 3, none⟩ (.int .i64 m.P.H)).setCell ⟨g8, 4, none⟩ (.int .i64 m.P.S)).setCell ⟨g8, 5, none⟩ (.int .i64 m.extra)).setCell ⟨g8, 6, none⟩ (.slice Ad2 nd2 cd2)).setCell ⟨g8, 7, none⟩ (.slice Ao2 no2 co2)) = W6 at *
            clear hK K hS
            have hS := hS2
            clear hS2
            try simp only [Act.put, List.setIfInBounds_toArray, List.set_cons_zero, List.set_cons_succ]
            refine Org.done (by kernel_rfl) ?_
            have hSE := hS
            clear hS
            go_wp2_with fail
            go_meet
            exact ⟨g7, g8, N1, N2, Ad1, nd1, cd1, Ao1, no1, co1, ts1, Ad2, nd2, cd2, Ao2, no2, co2, ts2, rfl, rfl, ⟨HA7.out, HC1.out, HD1.out⟩, ⟨HA8.out, HC2.out, HD2.out⟩, HNN1.out.1, HLT.out, HNE.out, hSE⟩
          · skip
            go_simp
            obtain ⟨g8, hg8⟩ : ∃ g, W2.heap.size = g := ⟨_, rfl⟩
            have HG8 := hid (show w5.heap.size ≤ g8 by rw [← hg8]; exact hS.size)
            have hA8 := Row.new W2 27 #[.int .i64 0, .int .i64 0, .int .i64 0, .int .i64 0, .int .i64 0, .int .i64 0, .slice none 0 0, .slice none 0 0]
            have hbk : Below W2.heap.size W2 (W2.alloc (.cells #[.int .i64 0, .int .i64 0, .int .i64 0, .int .i64 0, .int .i64 0, .int .i64 0, .slice none 0 0, .slice none 0 0] 27)) := (Below.refl _ _).alloc (Nat.le_refl _) _
            have hS3 := hS.alloc hS.size (.cells #[.int .i64 0, .int .i64 0, .int .i64 0, .int .i64 0, .int .i64 0, .int .i64 0, .slice none 0 0, .slice none 0 0] 27)
            have HSZ := hid (Nat.le_trans HSZ.out hbk.size)
            have HC1 := hid (HC1.out.below hbk)
            have HC2 := hid (HC2.out.below hbk)
            rw [hg8] at hA8 ⊢
            generalize W2.alloc (.cells #[.int .i64 0, .int .i64 0, .int .i64 0, .int .i64 0, .int .i64 0, .int .i64 0, .slice none 0 0, .slice none 0 0] 27) = W3 at *
            have HA8 := hid hA8
            have HOLD8 := hid hA8.lt
            clear hg8 hA8 hbk
            refine hK.out _ _ hS3 (fun hS2 => ?_)
            clear hS3
            clear hK K hS
            have hS := hS2
            clear hS2
            try simp only [Act.put, List.setIfInBounds_toArray, List.set_cons_zero, List.set_cons_succ]
            refine Org.go rfl (by kernel_rfl) (by kernel_rfl) (fun K hK => ?_)
            go_simp
            obtain ⟨g7, hg7⟩ : ∃ g, W3.heap.size = g := ⟨_, rfl⟩
            have HG7 := hid (show w5.heap.size ≤ g7 by rw [← hg7]; exact hS.size)
            have hA7 := Row.new W3 27 #[.int .i64 0, .int .i64 0, .int .i64 0, .int .i64 0, .int .i64 0, .int .i64 0, .slice none 0 0, .slice none 0 0]
            have hbk : Below W3.heap.size W3 (W3.alloc (.cells #[.int .i64 0, .int .i64 0, .int .i64 0, .int .i64 0, .int .i64 0, .int .i64 0, .slice none 0 0, .slice none 0 0] 27)) := (Below.refl _ _).alloc (Nat.le_refl _) _
            have hS3 := hS.alloc hS.size (.cells #[.int .i64 0, .int .i64 0, .int .i64 0, .int .i64 0, .int .i64 0, .int .i64 0, .slice none 0 0, .slice none 0 0] 27)
            have HNE := hid (show g7 ≠ g8 by have := HA8.out.lt; omega)
            have HSZ := hid (Nat.le_trans HSZ.out hbk.size)
            have HC1 := hid (HC1.out.below hbk)
            have HC2 := hid (HC2.out.below hbk)
            have HA8 := hid (HA8.out.below hbk HA8.out.lt)
            rw [hg7] at hA7 ⊢
            generalize W3.alloc (.cells #[.int .i64 0, .int .i64 0, .int .i64 0, .int .i64 0, .int .i64 0, .int .i64 0, .slice none 0 0, .slice none 0 0] 27) = W4 at *
            have HA7 := hid hA7
            have HOLD7 := hid hA7.lt
            clear hg7 hA7 hbk
            refine hK.out _ _ hS3 (fun hS2 => ?_)
            clear hS3
            clear hK K hS
            have hS := hS2
            clear hS2
            try simp only [Act.put, List.setIfInBounds_toArray, List.set_cons_zero, List.set_cons_succ]
            refine Org.go rfl (by kernel_rfl) (by kernel_rfl) (fun K hK => ?_)
            have y0 := HA7.out.cell 0
            have y1 := HA7.out.cell 1
            have y2 := HA7.out.cell 2
            have y3 := HA7.out.cell 3
            have y4 := HA7.out.cell 4
            have y5 := HA7.out.cell 5
            have y6 := HA7.out.cell 6
            have y7 := HA7.out.cell 7
            simp only [List.getElem?_cons_succ, List.getElem?_cons_zero] at y0 y1 y2 y3 y4 y5 y6 y7
            have z0 := HA7.out.frozen 0
            have z1 := HA7.out.frozen 1
            have z2 := HA7.out.frozen 2
            have z3 := HA7.out.frozen 3
            have z4 := HA7.out.frozen 4
            have z5 := HA7.out.frozen 5
            have z6 := HA7.out.frozen 6
            have z7 := HA7.out.frozen 7
            have hg8 := grown8s W4 g7 (.int .i64 m.seq) (.int .i64 m.next) (.int .i64 m.P.K) (.int .i64 m.P.H) (.int .i64 m.P.S) (.int .i64 m.extra) (.slice Ad1 nd1 cd1) (.slice Ao1 no1 co1)
            have HC1 := hid (HC1.out.other hg8 HA7.out (by decide) (by decide))
            have HC2 := hid (HC2.out.other hg8 HA7.out (by decide) (by decide))
            have HA8 := hid (HA8.out.grown hg8 (fun e => by injection e with e; exact HNE.out e.symm))
            have HS3 := hid (hS.grown hg8 hS.size (fun j hj => by injection hj with hj; have := HG7.out; omega))
            have HA7 := hid (row8m HA7.out (.int .i64 m.seq) (.int .i64 m.next) (.int .i64 m.P.K) (.int .i64 m.P.H) (.int .i64 m.P.S) (.int .i64 m.extra) (.slice Ad1 nd1 cd1) (.slice Ao1 no1 co1))
            clear hg8
            go_simp
            refine hK.out _ _ HS3.out (fun hS2 => ?_)
            clear HS3 y0 y1 y2 y3 y4 y5 y6 y7 z0 z1 z2 z3 z4 z5 z6 z7
            generalize ((((((((W4.setCell ⟨g7, 0, none⟩ (.int .i64 m.seq)).setCell ⟨g7, 1, none⟩ (.int .i64 m.next)).setCell ⟨g7, 2, none⟩ (.int .i64 m.P.K)).setCell ⟨g7, 3, none⟩ (.int .i64 m.P.H)).setCell ⟨g7, 4, none⟩ (.int .i64 m.P.S)).setCell ⟨g7, 5, none⟩ (.int .i64 m.extra)).setCell ⟨g7, 6, none⟩ (.slice Ad1 nd1 cd1)).setCell ⟨g7, 7, none⟩ (.slice Ao1 no1 co1)) = W5 at *
            clear hK K hS
            have hS := hS2
            clear hS2
            try simp only [Act.put, List.setIfInBounds_toArray, List.set_cons_zero, List.set_cons_succ]
            refine Org.go rfl (by kernel_rfl) (by kernel_rfl) (fun K hK => ?_)
            have y0 := HA8.out.cell 0
            have y1 := HA8.out.cell 1
            have y2 := HA8.out.cell 2
            have y3 := HA8.out.cell 3
            have y4 := HA8.out.cell 4
            have y5 := HA8.out.cell 5
            have y6 := HA8.out.cell 6
            have y7 := HA8.out.cell 7
            simp only [List.getElem?_cons_succ, List.getElem?_cons_zero] at y0 y1 y2 y3 y4 y5 y6 y7
            have z0 := HA8.out.frozen 0
            have z1 := HA8.out.frozen 1
            have z2 := HA8.out.frozen 2
            have z3 := HA8.out.frozen 3
            have z4 := HA8.out.frozen 4
            have z5 := HA8.out.frozen 5
            have z6 := HA8.out.frozen 6
            have z7 := HA8.out.frozen 7
            have hg8 := grown8s W5 g8 (.int .i64 m.seq) (.int .i64 m.next) (.int .i64 m.P.K) (.int .i64 m.P.H) (.int .i64 m.P.S) (.int .i64 m.extra) (.slice Ad2 nd2 cd2) (.slice Ao2 no2 co2)
            have HC1 := hid (HC1.out.other hg8 HA8.out (by decide) (by decide))
            have HC2 := hid (HC2.out.other hg8 HA8.out (by decide) (by decide))
            have HA7 := hid (HA7.out.grown hg8 (fun e => by injection e with e; exact HNE.out e))
            have HS3 := hid (hS.grown hg8 hS.size (fun j hj => by injection hj with hj; have := HG8.out; omega))
            have HA8 := hid (row8m HA8.out (.int .i64 m.seq) (.int .i64 m.next) (.int .i64 m.P.K) (.int .i64 m.P.H) (.int .i64 m.P.S) (.int .i64 m.extra) (.slice Ad2 nd2 cd2) (.slice Ao2 no2 co2))
            clear hg8
            go_simp
            refine hK.out _ _ HS3.out (fun hS2 => ?_)
            clear HS3 y0 y1 y2 y3 y4 y5 y6 y7 z0 z1 z2 z3 z4 z5 z6 z7
            generalize ((((((((W5.setCell ⟨g8, 0, none⟩ (.int .i64 m.seq)).setCell ⟨g8, 1, none⟩ (.int .i64 m.next)).setCell ⟨g8, 2, none⟩ (.int .i64 m.P.K)).setCell ⟨g8, 3, none⟩ (.int .i64 m.P.H)).setCell ⟨g8, 4, none⟩ (.int .i64 m.P.S)).setCell ⟨g8, 5, none⟩ (.int .i64 m.extra)).setCell ⟨g8, 6, none⟩ (.slice Ad2 nd2 cd2)).setCell ⟨g8, 7, none⟩ (.slice Ao2 no2 co2)) = W6 at *
            clear hK K hS
            have hS := hS2
            clear hS2
            try simp only [Act.put, List.setIfInBounds_toArray, List.set_cons_zero, List.set_cons_succ]
            refine Org.done (by kernel_rfl) ?_
            have hSE := hS
            clear hS
            go_wp2_with fail
            go_meet
            exact ⟨g7, g8, N1, N2, Ad1, nd1, cd1, Ao1, no1, co1, ts1, Ad2, nd2, cd2, Ao2, no2, co2, ts2, rfl, rfl, ⟨HA7.out, HC1.out, HD1.out⟩, ⟨HA8.out, HC2.out, HD2.out⟩, HNN1.out.1, HLT.out, HNE.out, hSE⟩
        · skip
          go_simp
          obtain ⟨g7, hg7⟩ : ∃ g, W1.heap.size = g := ⟨_, rfl⟩
          have HG7 := hid (show w5.heap.size ≤ g7 by rw [← hg7]; exact hS.size)
          have hA7 := Row.new W1 27 #[.int .i64 0, .int .i64 0, .int .i64 0, .int .i64 0, .int .i64 0, .int .i64 0, .slice none 0 0, .slice none 0 0]
          have hbk : Below W1.heap.size W1 (W1.alloc (.cells #[.int .i64 0, .int .i64 0, .int .i64 0, .int .i64 0, .int .i64 0, .int .i64 0, .slice none 0 0, .slice none 0 0] 27)) := (Below.refl _ _).alloc (Nat.le_refl _) _
          have hS3 := hS.alloc hS.size (.cells #[.int .i64 0, .int .i64 0, .int .i64 0, .int .i64 0, .int .i64 0, .int .i64 0, .slice none 0 0, .slice none 0 0] 27)
          have HSZ := hid (Nat.le_trans HSZ.out hbk.size)
          have HC1 := hid (HC1.out.below hbk)
          rw [hg7] at hA7 ⊢
          generalize W1.alloc (.cells #[.int .i64 0, .int .i64 0, .int .i64 0, .int .i64 0, .int .i64 0, .int .i64 0, .slice none 0 0, .slice none 0 0] 27) = W2 at *
          have HA7 := hid hA7
          have HOLD7 := hid hA7.lt
          clear hg7 hA7 hbk
          refine hK.out _ _ hS3 (fun hS2 => ?_)
          clear hS3
          clear hK K hS
          have hS := hS2
          clear hS2
          try simp only [Act.put, List.setIfInBounds_toArray, List.set_cons_zero, List.set_cons_succ]
          refine Org.two (i := 3) (j := 5) [5, 6, 7] [3, 6, 7] rfl rfl (by kernel_rfl) (by kernel_rfl) (by kernel_rfl) (fun K hK => ?_) (fun K hK => ?_)
          · skip
            go_simp
            go_at_call 13
            refine (copy_any m _ Ad (some ⟨bO, oO, none⟩) nd cd no co ts W2 ((HM5.out.below hS).mono hS.size) (Nat.le_refl _) (by omega) (by omega) HTRI.out).mono ?_
            rintro e W3 ⟨Ad2, nd2, cd2, Ao2, no2, co2, ts2, he, hom2, hdj2, hbk⟩
            unfold Mani.val at he
            subst he
            have HD2 := hid hdj2
            obtain ⟨N2, hN2⟩ : ∃ N, W2.heap.size = N := ⟨_, rfl⟩
            obtain ⟨S2, hS2⟩ : ∃ S, W3.heap.size = S := ⟨_, rfl⟩
            have HNN2 := hid (show w5.heap.size ≤ N2 ∧ N2 ≤ S2 by rw [← hN2, ← hS2]; exact ⟨hS.size, hbk.size⟩)
            have HLT := hid (show N1 ≤ N2 ∧ (∀ i, i < no1 → ∀ b, (ts1.getD i undef).ownBlock = some b → b < N2) ∧ (∀ b, (Value.slice Ad1 nd1 cd1).ownBlock = some b → b < N2) ∧ (∀ b, (Value.slice Ao1 no1 co1).ownBlock = some b → b < N2) by rw [← hN2]; exact ⟨Nat.le_trans HNN1.out.2 HSZ.out, om_lt HC1.out⟩)
            have HSZ := hid (Nat.le_trans HSZ.out hbk.size)
            have HC1 := hid (HC1.out.below hbk)
            have HA7 := hid (HA7.out.below hbk HA7.out.lt)
            rw [hN2] at hom2
            have HC2 := hid hom2
            have hS3 := hS.trans (hbk.mono hS.size)
            clear hom2 hdj2 hN2 hS2 hbk
            go_wp2_with fail
            refine hK.out _ _ hS3 (fun hS2 => ?_)
            clear hS3
            clear hK K hS
            have hS := hS2
            clear hS2
            try simp only [Act.put, List.setIfInBounds_toArray, List.set_cons_zero, List.set_cons_succ]
            refine Org.go rfl (by kernel_rfl) (by kernel_rfl) (fun K hK => ?_)
            go_simp
            obtain ⟨g8, hg8⟩ : ∃ g, W3.heap.size = g := ⟨_, rfl⟩
            have HG8 := hid (show w5.heap.size ≤ g8 by rw [← hg8]; exact hS.size)
            have hA8 := Row.new W3 27 #[.int .i64 0, .int .i64 0, .int .i64 0, .int .i64 0, .int .i64 0, .int .i64 0, .slice none 0 0, .slice none 0 0]
            have hbk : Below W3.heap.size W3 (W3.alloc (.cells #[.int .i64 0, .int .i64 0, .int .i64 0, .int .i64 0, .int .i64 0, .int .i64 0, .slice none 0 0, .slice none 0 0] 27)) := (Below.refl _ _).alloc (Nat.le_refl _) _
            have hS3 := hS.alloc hS.size (.cells #[.int .i64 0, .int .i64 0, .int .i64 0, .int .i64 0, .int .i64 0, .int .i64 0, .slice none 0 0, .slice none 0 0] 27)
            have HNE := hid (show g7 ≠ g8 by have := HA7.out.lt; omega)
            have HSZ := hid (Nat.le_trans HSZ.out hbk.size)
            have HC1 := hid (HC1.out.below hbk)
            have HC2 := hid (HC2.out.below hbk)
            have HA7 := hid (HA7.out.below hbk HA7.out.lt)
            rw [hg8] at hA8 ⊢
            generalize W3.alloc (.cells #[.int .i64 0, .int .i64 0, .int .i64 0, .int .i64 0, .int .i64 0, .int .i64 0, .slice none 0 0, .slice none 0 0] 27) = W4 at *
            have HA8 := hid hA8
            have HOLD8 := hid hA8.lt
            clear hg8 hA8 hbk
            refine hK.out _ _ hS3 (fun hS2 => ?_)
            clear hS3
            clear hK K hS
            have hS := hS2
            clear hS2
            try simp only [Act.put, List.setIfInBounds_toArray, List.set_cons_zero, List.set_cons_succ]
            refine Org.go rfl (by kernel_rfl) (by kernel_rfl) (fun K hK => ?_)
            have y0 := HA7.out.cell 0
            have y1 := HA7.out.cell 1
            have y2 := HA7.out.cell 2
            have y3 := HA7.out.cell 3
            have y4 := HA7.out.cell 4
            have y5 := HA7.out.cell 5
            have y6 := HA7.out.cell 6
            have y7 := HA7.out.cell 7
            simp only [List.getElem?_cons_succ, List.getElem?_cons_zero] at y0 y1 y2 y3 y4 y5 y6 y7
            have z0 := HA7.out.frozen 0
            have z1 := HA7.out.frozen 1
            have z2 := HA7.out.frozen 2
            have z3 := HA7.out.frozen 3
            have z4 := HA7.out.frozen 4
            have z5 := HA7.out.frozen 5
            have z6 := HA7.out.frozen 6
            have z7 := HA7.out.frozen 7
            have hg8 := grown8s W4 g7 (.int .i64 m.seq) (.int .i64 m.next) (.int .i64 m.P.K) (.int .i64 m.P.H) (.int .i64 m.P.S) (.int .i64 m.extra) (.slice Ad1 nd1 cd1) (.slice Ao1 no1 co1)
            have HC1 := hid (HC1.out.other hg8 HA7.out (by decide) (by decide))
            have HC2 := hid (HC2.out.other hg8 HA7.out (by decide) (by decide))
            have HA8 := hid (HA8.out.grown hg8 (fun e => by injection e with e; exact HNE.out e.symm))
            have HS3 := hid (hS.grown hg8 hS.size (fun j hj => by injection hj with hj; have := HG7.out; omega))
            have HA7 := hid (row8m HA7.out (.int .i64 m.seq) (.int .i64 m.next) (.int .i64 m.P.K) (.int .i64 m.P.H) (.int .i64 m.P.S) (.int .i64 m.extra) (.slice Ad1 nd1 cd1) (.slice Ao1 no1 co1))
            clear hg8
            go_simp
            refine hK.out _ _ HS3.out (fun hS2 => ?_)
            clear HS3 y0 y1 y2 y3 y4 y5 y6 y7 z0 z1 z2 z3 z4 z5 z6 z7
            generalize ((((((((W4.setCell ⟨g7, 0, none⟩ (.int .i64 m.seq)).setCell ⟨g7, 1, none⟩ (.int .i64 m.next)).setCell ⟨g7, 2, none⟩ (.int .i64 m.P.K)).setCell ⟨g7, 3, none⟩ (.int .i64 m.P.H)).setCell ⟨g7, 4, none⟩ (.int .i64 m.P.S)).setCell ⟨g7, 5, none⟩ (.int .i64 m.extra)).setCell ⟨g7, 6, none⟩ (.slice Ad1 nd1 cd1)).setCell ⟨g7, 7, none⟩ (.slice Ao1 no1 co1)) = W5 at *
            clear hK K hS
            have hS := hS2
            clear hS2
            try simp only [Act.put, List.setIfInBounds_toArray, List.set_cons_zero, List.set_cons_succ]
            refine Org.go rfl (by kernel_rfl) (by kernel_rfl) (fun K hK => ?_)
            have y0 := HA8.out.cell 0
            have y1 := HA8.out.cell 1
            have y2 := HA8.out.cell 2
            have y3 := HA8.out.cell 3
            have y4 := HA8.out.cell 4
            have y5 := HA8.out.cell 5
            have y6 := HA8.out.cell 6
            have y7 := HA8.out.cell 7
            simp only [List.getElem?_cons_succ, List.getElem?_cons_zero] at y0 y1 y2 y3 y4 y5 y6 y7
            have z0 := HA8.out.frozen 0
            have z1 := HA8.out.frozen 1
            have z2 := HA8.out.frozen 2
            have z3 := HA8.out.frozen 3
            have z4 := HA8.out.frozen 4
            have z5 := HA8.out.frozen 5
            have z6 := HA8.out.frozen 6
            have z7 := HA8.out.frozen 7
            have hg8 := grown8s W5 g8 (.int .i64 m.seq) (.int .i64 m.next) (.int .i64 m.P.K) (.int .i64 m.P.H) (.int .i64 m.P.S) (.int .i64 m.extra) (.slice Ad2 nd2 cd2) (.slice Ao2 no2 co2)
            have HC1 := hid (HC1.out.other hg8 HA8.out (by decide) (by decide))
            have HC2 := hid (HC2.out.other hg8 HA8.out (by decide) (by decide))
            have HA7 := hid (HA7.out.grown hg8 (fun e => by injection e with e; exact HNE.out e))
            have HS3 := hid (hS.grown hg8 hS.size (fun j hj => by injection hj with hj; have := HG8.out; omega))
            have HA8 := hid (row8m HA8.out (.int .i64 m.seq) (.int .i64 m.next) (.int .i64 m.P.K) (.int .i64 m.P.H) (.int .i64 m.P.S) (.int .i64 m.extra) (.slice Ad2 nd2 cd2) (.slice Ao2 no2 co2))
            clear hg8
            go_simp
            refine hK.out _ _ HS3.out (fun hS2 => ?_)
            clear HS3 y0 y1 y2 y3 y4 y5 y6 y7 z0 z1 z2 z3 z4 z5 z6 z7
            generalize ((((((((W5.setCell ⟨g8, 0, none⟩ (.int .i64 m.seq)).setCell ⟨g8, 1, none⟩ (.int .i64 m.next)).setCell ⟨g8, 2, none⟩ (.int .i64 m.P.K)).setCell ⟨g8, 3, none⟩ (.int .i64 m.P.H)).setCell ⟨g8, 4, none⟩ (.int .i64 m.P.S)).setCell ⟨g8, 5, none⟩ (.int .i64 m.extra)).setCell ⟨g8, 6, none⟩ (.slice Ad2 nd2 cd2)).setCell ⟨g8, 7, none⟩ (.slice Ao2 no2 co2)) = W6 at *
            clear hK K hS
            have hS := hS2
            clear hS2
            try simp only [Act.put, List.setIfInBounds_toArray, List.set_cons_zero, List.set_cons_succ]
            refine Org.done (by kernel_rfl) ?_
            have hSE := hS
            clear hS
            go_wp2_with fail
            go_meet
            exact ⟨g7, g8, N1, N2, Ad1, nd1, cd1, Ao1, no1, co1, ts1, Ad2, nd2, cd2, Ao2, no2, co2, ts2, rfl, rfl, ⟨HA7.out, HC1.out, HD1.out⟩, ⟨HA8.out, HC2.out, HD2.out⟩, HNN1.out.1, HLT.out, HNE.out, hSE⟩
          · skip
            go_simp
            obtain ⟨g8, hg8⟩ : ∃ g, W2.heap.size = g := ⟨_, rfl⟩
            have HG8 := hid (show w5.heap.size ≤ g8 by rw [← hg8]; exact hS.size)
            have hA8 := Row.new W2 27 #[.int .i64 0, .int .i64 0, .int .i64 0, .int .i64 0, .int .i64 0, .int .i64 0, .slice none 0 0, .slice none 0 0]
            have hbk : Below W2.heap.size W2 (W2.alloc (.cells #[.int .i64 0, .int .i64 0, .int .i64 0, .int .i64 0, .int .i64 0, .int .i64 0, .slice none 0 0, .slice none 0 0] 27)) := (Below.refl _ _).alloc (Nat.le_refl _) _
            have hS3 := hS.alloc hS.size (.cells #[.int .i64 0, .int .i64 0, .int .i64 0, .int .i64 0, .int .i64 0, .int .i64 0, .slice none 0 0, .slice none 0 0] 27)
            have HNE := hid (show g7 ≠ g8 by have := HA7.out.lt; omega)
            have HSZ := hid (Nat.le_trans HSZ.out hbk.size)
            have HC1 := hid (HC1.out.below hbk)
            have HA7 := hid (HA7.out.below hbk HA7.out.lt)
            rw [hg8] at hA8 ⊢
            generalize W2.alloc (.cells #[.int .i64 0, .int .i64 0, .int .i64 0, .int .i64 0, .int .i64 0, .int .i64 0, .slice none 0 0, .slice none 0 0] 27) = W3 at *
            have HA8 := hid hA8
            have HOLD8 := hid hA8.lt
            clear hg8 hA8 hbk
            refine hK.out _ _ hS3 (fun hS2 => ?_)
            clear hS3
            clear hK K hS
            have hS := hS2
            clear hS2
            try simp only [Act.put, List.setIfInBounds_toArray, List.set_cons_zero, List.set_cons_succ]
            refine Org.go rfl (by kernel_rfl) (by kernel_rfl) (fun K hK => ?_)
            go_simp
            go_at_call 13
            refine (copy_any m _ Ad (some ⟨bO, oO, none⟩) nd cd no co ts W3 ((HM5.out.below hS).mono hS.size) (Nat.le_refl _) (by omega) (by omega) HTRI.out).mono ?_
            rintro e W4 ⟨Ad2, nd2, cd2, Ao2, no2, co2, ts2, he, hom2, hdj2, hbk⟩
            unfold Mani.val at he
            subst he
            have HD2 := hid hdj2
            obtain ⟨N2, hN2⟩ : ∃ N, W3.heap.size = N := ⟨_, rfl⟩
            obtain ⟨S2, hS2⟩ : ∃ S, W4.heap.size = S := ⟨_, rfl⟩
            have HNN2 := hid (show w5.heap.size ≤ N2 ∧ N2 ≤ S2 by rw [← hN2, ← hS2]; exact ⟨hS.size, hbk.size⟩)
            have HLT := hid (show N1 ≤ N2 ∧ (∀ i, i < no1 → ∀ b, (ts1.getD i undef).ownBlock = some b → b < N2) ∧ (∀ b, (Value.slice Ad1 nd1 cd1).ownBlock = some b → b < N2) ∧ (∀ b, (Value.slice Ao1 no1 co1).ownBlock = some b → b < N2) by rw [← hN2]; exact ⟨Nat.le_trans HNN1.out.2 HSZ.out, om_lt HC1.out⟩)
            have HSZ := hid (Nat.le_trans HSZ.out hbk.size)
            have HC1 := hid (HC1.out.below hbk)
            have HA7 := hid (HA7.out.below hbk HA7.out.lt)
            have HA8 := hid (HA8.out.below hbk HA8.out.lt)
            rw [hN2] at hom2
            have HC2 := hid hom2
            have hS3 := hS.trans (hbk.mono hS.size)
            clear hom2 hdj2 hN2 hS2 hbk
            go_wp2_with fail
            refine hK.out _ _ hS3 (fun hS2 => ?_)
            clear hS3
            clear hK K hS
            have hS := hS2
            clear hS2
            try simp only [Act.put, List.setIfInBounds_toArray, List.set_cons_zero, List.set_cons_succ]
            refine Org.go rfl (by kernel_rfl) (by kernel_rfl) (fun K hK => ?_)
            have y0 := HA7.out.cell 0
            have y1 := HA7.out.cell 1
            have y2 := HA7.out.cell 2
            have y3 := HA7.out.cell 3
            have y4 := HA7.out.cell 4
            have y5 := HA7.out.cell 5
            have y6 := HA7.out.cell 6
            have y7 := HA7.out.cell 7
            simp only [List.getElem?_cons_succ, List.getElem?_cons_zero] at y0 y1 y2 y3 y4 y5 y6 y7
            have z0 := HA7.out.frozen 0
            have z1 := HA7.out.frozen 1
            have z2 := HA7.out.frozen 2
            have z3 := HA7.out.frozen 3
            have z4 := HA7.out.frozen 4
            have z5 := HA7.out.frozen 5
            have z6 := HA7.out.frozen 6
            have z7 := HA7.out.frozen 7
            have hg8 := grown8s W4 g7 (.int .i64 m.seq) (.int .i64 m.next) (.int .i64 m.P.K) (.int .i64 m.P.H) (.int .i64 m.P.S) (.int .i64 m.extra) (.slice Ad1 nd1 cd1) (.slice Ao1 no1 co1)
            have HC1 := hid (HC1.out.other hg8 HA7.out (by decide) (by decide))
            have HC2 := hid (HC2.out.other hg8 HA7.out (by decide) (by decide))
            have HA8 := hid (HA8.out.grown hg8 (fun e => by injection e with e; exact HNE.out e.symm))
            have HS3 := hid (hS.grown hg8 hS.size (fun j hj => by injection hj with hj; have := HG7.out; omega))
            have HA7 := hid (row8m HA7.out (.int .i64 m.seq) (.int .i64 m.next) (.int .i64 m.P.K) (.int .i64 m.P.H) (.int .i64 m.P.S) (.int .i64 m.extra) (.slice Ad1 nd1 cd1) (.slice Ao1 no1 co1))
            clear hg8
            go_simp
            refine hK.out _ _ HS3.out (fun hS2 => ?_)
            clear HS3 y0 y1 y2 y3 y4 y5 y6 y7 z0 z1 z2 z3 z4 z5 z6 z7
            generalize ((((((((W4.setCell ⟨g7, 0, none⟩ (.int .i64 m.seq)).setCell ⟨g7, 1, none⟩ (.int .i64 m.next)).setCell ⟨g7, 2, none⟩ (.int .i64 m.P.K)).setCell ⟨g7, 3, none⟩ (.int .i64 m.P.H)).setCell ⟨g7, 4, none⟩ (.int .i64 m.P.S)).setCell ⟨g7, 5, none⟩ (.int .i64 m.extra)).setCell ⟨g7, 6, none⟩ (.slice Ad1 nd1 cd1)).setCell ⟨g7, 7, none⟩ (.slice Ao1 no1 co1)) = W5 at *
            clear hK K hS
            have hS := hS2
            clear hS2
            try simp only [Act.put, List.setIfInBounds_toArray, List.set_cons_zero, List.set_cons_succ]
            refine Org.go rfl (by kernel_rfl) (by kernel_rfl) (fun K hK => ?_)
            have y0 := HA8.out.cell 0
            have y1 := HA8.out.cell 1
            have y2 := HA8.out.cell 2
            have y3 := HA8.out.cell 3
            have y4 := HA8.out.cell 4
            have y5 := HA8.out.cell 5
            have y6 := HA8.out.cell 6
            have y7 := HA8.out.cell 7
            simp only [List.getElem?_cons_succ, List.getElem?_cons_zero] at y0 y1 y2 y3 y4 y5 y6 y7
            have z0 := HA8.out.frozen 0
            have z1 := HA8.out.frozen 1
            have z2 := HA8.out.frozen 2
            have z3 := HA8.out.frozen 3
            have z4 := HA8.out.frozen 4
            have z5 := HA8.out.frozen 5
            have z6 := HA8.out.frozen 6
            have z7 := HA8.out.frozen 7
            have hg8 := grown8s W5 g8 (.int .i64 m.seq) (.int .i64 m.next) (.int .i64 m.P.K) (.int .i64 m.P.H) (.int .i64 m.P.S) (.int .i64 m.extra) (.slice Ad2 nd2 cd2) (.slice Ao2 no2 co2)
            have HC1 := hid (HC1.out.other hg8 HA8.out (by decide) (by decide))
            have HC2 := hid (HC2.out.other hg8 HA8.out (by decide) (by decide))
            have HA7 := hid (HA7.out.grown hg8 (fun e => by injection e with e; exact HNE.out e))
            have HS3 := hid (hS.grown hg8 hS.size (fun j hj => by injection hj with hj; have := HG8.out; omega))
            have HA8 := hid (row8m HA8.out (.int .i64 m.seq) (.int .i64 m.next) (.int .i64 m.P.K) (.int .i64 m.P.H) (.int .i64 m.P.S) (.int .i64 m.extra) (.slice Ad2 nd2 cd2) (.slice Ao2 no2 co2))
            clear hg8
            go_simp
            refine hK.out _ _ HS3.out (fun hS2 => ?_)
            clear HS3 y0 y1 y2 y3 y4 y5 y6 y7 z0 z1 z2 z3 z4 z5 z6 z7
            generalize ((((((((W5.setCell ⟨g8, 0, none⟩ (.int .i64 m.seq)).setCell ⟨g8, 1, none⟩ (.int .i64 m.next)).setCell ⟨g8, 2, none⟩ (.int .i64 m.P.K)).setCell ⟨g8, 3, none⟩ (.int .i64 m.P.H)).setCell ⟨g8, 4, none⟩ (.int .i64 m.P.S)).setCell ⟨g8, 5, none⟩ (.int .i64 m.extra)).setCell ⟨g8, 6, none⟩ (.slice Ad2 nd2 cd2)).setCell ⟨g8, 7, none⟩ (.slice Ao2 no2 co2)) = W6 at *
            clear hK K hS
            have hS := hS2
            clear hS2
            try simp only [Act.put, List.setIfInBounds_toArray, List.set_cons_zero, List.set_cons_succ]
            refine Org.done (by kernel_rfl) ?_
            have hSE := hS
            clear hS
            go_wp2_with fail
            go_meet
            exact ⟨g7, g8, N1, N2, Ad1, nd1, cd1, Ao1, no1, co1, ts1, Ad2, nd2, cd2, Ao2, no2, co2, ts2, rfl, rfl, ⟨HA7.out, HC1.out, HD1.out⟩, ⟨HA8.out, HC2.out, HD2.out⟩, HNN1.out.1, HLT.out, HNE.out, hSE⟩
        · skip
          go_simp
          obtain ⟨g8, hg8⟩ : ∃ g, W1.heap.size = g := ⟨_, rfl⟩
          have HG8 := hid (show w5.heap.size ≤ g8 by rw [← hg8]; exact hS.size)
          have hA8 := Row.new W1 27 #[.int .i64 0, .int .i64 0, .int .i64 0, .int .i64 0, .int .i64 0, .int .i64 0, .slice none 0 0, .slice none 0 0]
          have hbk : Below W1.heap.size W1 (W1.alloc (.cells #[.int .i64 0, .int .i64 0, .int .i64 0, .int .i64 0, .int .i64 0, .int .i64 0, .slice none 0 0, .slice none 0 0] 27)) := (Below.refl _ _).alloc (Nat.le_refl _) _
          have hS3 := hS.alloc hS.size (.cells #[.int .i64 0, .int .i64 0, .int .i64 0, .int .i64 0, .int .i64 0, .int .i64 0, .slice none 0 0, .slice none 0 0] 27)
          have HSZ := hid (Nat.le_trans HSZ.out hbk.size)
          have HC1 := hid (HC1.out.below hbk)
          rw [hg8] at hA8 ⊢
          generalize W1.alloc (.cells #[.int .i64 0, .int .i64 0, .int .i64 0, .int .i64 0, .int .i64 0, .int .i64 0, .slice none 0 0, .slice none 0 0] 27) = W2 at *
          have HA8 := hid hA8
          have HOLD8 := hid hA8.lt
          clear hg8 hA8 hbk
          refine hK.out _ _ hS3 (fun hS2 => ?_)
          clear hS3
          clear hK K hS
          have hS := hS2
          clear hS2
          try simp only [Act.put, List.setIfInBounds_toArray, List.set_cons_zero, List.set_cons_succ]
          refine Org.two (i := 3) (j := 4) [4, 6, 7] [3, 6, 7] rfl rfl (by kernel_rfl) (by kernel_rfl) (by kernel_rfl) (fun K hK => ?_) (fun K hK => ?_)
          · skip
            go_simp
            go_at_call 13
            refine (copy_any m _ Ad (some ⟨bO, oO, none⟩) nd cd no co ts W2 ((HM5.out.below hS).mono hS.size) (Nat.le_refl _) (by omega) (by omega) HTRI.out).mono ?_
            rintro e W3 ⟨Ad2, nd2, cd2, Ao2, no2, co2, ts2, he, hom2, hdj2, hbk⟩
            unfold Mani.val at he
            subst he
            have HD2 := hid hdj2
            obtain ⟨N2, hN2⟩ : ∃ N, W2.heap.size = N := ⟨_, rfl⟩
            obtain ⟨S2, hS2⟩ : ∃ S, W3.heap.size = S := ⟨_, rfl⟩
            have HNN2 := hid (show w5.heap.size ≤ N2 ∧ N2 ≤ S2 by rw [← hN2, ← hS2]; exact ⟨hS.size, hbk.size⟩)
            have HLT := hid (show N1 ≤ N2 ∧ (∀ i, i < no1 → ∀ b, (ts1.getD i undef).ownBlock = some b → b < N2) ∧ (∀ b, (Value.slice Ad1 nd1 cd1).ownBlock = some b → b < N2) ∧ (∀ b, (Value.slice Ao1 no1 co1).ownBlock = some b → b < N2) by rw [← hN2]; exact ⟨Nat.le_trans HNN1.out.2 HSZ.out, om_lt HC1.out⟩)
            have HSZ := hid (Nat.le_trans HSZ.out hbk.size)
            have HC1 := hid (HC1.out.below hbk)
            have HA8 := hid (HA8.out.below hbk HA8.out.lt)
            rw [hN2] at hom2
            have HC2 := hid hom2
            have hS3 := hS.trans (hbk.mono hS.size)
            clear hom2 hdj2 hN2 hS2 hbk
            go_wp2_with fail
            refine hK.out _ _ hS3 (fun hS2 => ?_)
            clear hS3
            clear hK K hS
            have hS := hS2
            clear hS2
            try simp only [Act.put, List.setIfInBounds_toArray, List.set_cons_zero, List.set_cons_succ]
            refine Org.go rfl (by kernel_rfl) (by kernel_rfl) (fun K hK => ?_)
            go_simp
            obtain ⟨g7, hg7⟩ : ∃ g, W3.heap.size = g := ⟨_, rfl⟩
            have HG7 := hid (show w5.heap.size ≤ g7 by rw [← hg7]; exact hS.size)
            have hA7 := Row.new W3 27 #[.int .i64 0, .int .i64 0, .int .i64 0, .int .i64 0, .int .i64 0, .int .i64 0, .slice none 0 0, .slice none 0 0]
            have hbk : Below W3.heap.size W3 (W3.alloc (.cells #[.int .i64 0, .int .i64 0, .int .i64 0, .int .i64 0, .int .i64 0, .int .i64 0, .slice none 0 0, .slice none 0 0] 27)) := (Below.refl _ _).alloc (Nat.le_refl _) _
            have hS3 := hS.alloc hS.size (.cells #[.int .i64 0, .int .i64 0, .int .i64 0, .int .i64 0, .int .i64 0, .int .i64 0, .slice none 0 0, .slice none 0 0] 27)
            have HNE := hid (show g7 ≠ g8 by have := HA8.out.lt; omega)
            have HSZ := hid (Nat.le_trans HSZ.out hbk.size)
            have HC1 := hid (HC1.out.below hbk)
            have HC2 := hid (HC2.out.below hbk)
            have HA8 := hid (HA8.out.below hbk HA8.out.lt)
            rw [hg7] at hA7 ⊢
            generalize W3.alloc (.cells #[.int .i64 0, .int .i64 0, .int .i64 0, .int .i64 0, .int .i64 0, .int .i64 0, .slice none 0 0, .slice none 0 0] 27) = W4 at *
            have HA7 := hid hA7
            have HOLD7 := hid hA7.lt
            clear hg7 hA7 hbk
            refine hK.out _ _ hS3 (fun hS2 => ?_)
            clear hS3
            clear hK K hS
            have hS := hS2
            clear hS2
            try simp only [Act.put, List.setIfInBounds_toArray, List.set_cons_zero, List.set_cons_succ]
            refine Org.go rfl (by kernel_rfl) (by kernel_rfl) (fun K hK => ?_)
            have y0 := HA7.out.cell 0
            have y1 := HA7.out.cell 1
            have y2 := HA7.out.cell 2
            have y3 := HA7.out.cell 3
            have y4 := HA7.out.cell 4
            have y5 := HA7.out.cell 5
            have y6 := HA7.out.cell 6
            have y7 := HA7.out.cell 7
            simp only [List.getElem?_cons_succ, List.getElem?_cons_zero] at y0 y1 y2 y3 y4 y5 y6 y7
            have z0 := HA7.out.frozen 0
            have z1 := HA7.out.frozen 1
            have z2 := HA7.out.frozen 2
            have z3 := HA7.out.frozen 3
            have z4 := HA7.out.frozen 4
            have z5 := HA7.out.frozen 5
            have z6 := HA7.out.frozen 6
            have z7 := HA7.out.frozen 7
            have hg8 := grown8s W4 g7 (.int .i64 m.seq) (.int .i64 m.next) (.int .i64 m.P.K) (.int .i64 m.P.H) (.int .i64 m.P.S) (.int .i64 m.extra) (.slice Ad1 nd1 cd1) (.slice Ao1 no1 co1)
            have HC1 := hid (HC1.out.other hg8 HA7.out (by decide) (by decide))
            have HC2 := hid (HC2.out.other hg8 HA7.out (by decide) (by decide))
            have HA8 := hid (HA8.out.grown hg8 (fun e => by injection e with e; exact HNE.out e.symm))
            have HS3 := hid (hS.grown hg8 hS.size (fun j hj => by injection hj with hj; have := HG7.out; omega))
            have HA7 := hid (row8m HA7.out (.int .i64 m.seq) (.int .i64 m.next) (.int .i64 m.P.K) (.int .i64 m.P.H) (.int .i64 m.P.S) (.int .i64 m.extra) (.slice Ad1 nd1 cd1) (.slice Ao1 no1 co1))
            clear hg8
            go_simp
            refine hK.out _ _ HS3.out (fun hS2 => ?_)
            clear HS3 y0 y1 y2 y3 y4 y5 y6 y7 z0 z1 z2 z3 z4 z5 z6 z7
            generalize ((((((((W4.setCell ⟨g7, 0, none⟩ (.int .i64 m.seq)).setCell ⟨g7, 1, none⟩ (.int .i64 m.next)).setCell ⟨g7, 2, none⟩ (.int .i64 m.P.K)).setCell ⟨g7, 3, none⟩ (.int .i64 m.P.H)).setCell ⟨g7, 4, none⟩ (.int .i64 m.P.S)).setCell ⟨g7, 5, none⟩ (.int .i64 m.extra)).setCell ⟨g7, 6, none⟩ (.slice Ad1 nd1 cd1)).setCell ⟨g7, 7, none⟩ (.slice Ao1 no1 co1)) = W5 at *
            clear hK K hS
            have hS := hS2
            clear hS2
            try simp only [Act.put, List.setIfInBounds_toArray, List.set_cons_zero, List.set_cons_succ]
            refine Org.go rfl (by kernel_rfl) (by kernel_rfl) (fun K hK => ?_)
            have y0 := HA8.out.cell 0
            have y1 := HA8.out.cell 1
            have y2 := HA8.out.cell 2
            have y3 := HA8.out.cell 3
            have y4 := HA8.out.cell 4
            have y5 := HA8.out.cell 5
            have y6 := HA8.out.cell 6
            have y7 := HA8.out.cell 7
            simp only [List.getElem?_cons_succ, List.getElem?_cons_zero] at y0 y1 y2 y3 y4 y5 y6 y7
            have z0 := HA8.out.frozen 0
            have z1 := HA8.out.frozen 1
            have z2 := HA8.out.frozen 2
            have z3 := HA8.out.frozen 3
            have z4 := HA8.out.frozen 4
            have z5 := HA8.out.frozen 5
            have z6 := HA8.out.frozen 6
            have z7 := HA8.out.frozen 7
            have hg8 := grown8s W5 g8 (.int .i64 m.seq) (.int .i64 m.next) (.int .i64 m.P.K) (.int .i64 m.P.H) (.int .i64 m.P.S) (.int .i64 m.extra) (.slice Ad2 nd2 cd2) (.slice Ao2 no2 co2)
            have HC1 := hid (HC1.out.other hg8 HA8.out (by decide) (by decide))
            have HC2 := hid (HC2.out.other hg8 HA8.out (by decide) (by decide))
            have HA7 := hid (HA7.out.grown hg8 (fun e => by injection e with e; exact HNE.out e))
            have HS3 := hid (hS.grown hg8 hS.size (fun j hj => by injection hj with hj; have := HG8.out; omega))
            have HA8 := hid (row8m HA8.out (.int .i64 m.seq) (.int .i64 m.next) (.int .i64 m.P.K) (.int .i64 m.P.H) (.int .i64 m.P.S) (.int .i64 m.extra) (.slice Ad2 nd2 cd2) (.slice Ao2 no2 co2))
            clear hg8
            go_simp
            refine hK.out _ _ HS3.out (fun hS2 => ?_)
            clear HS3 y0 y1 y2 y3 y4 y5 y6 y7 z0 z1 z2 z3 z4 z5 z6 z7
            generalize ((((((((W5.setCell ⟨g8, 0, none⟩ (.int .i64 m.seq)).setCell ⟨g8, 1, none⟩ (.int .i64 m.next)).setCell ⟨g8, 2, none⟩ (.int .i64 m.P.K)).setCell ⟨g8, 3, none⟩ (.int .i64 m.P.H)).setCell ⟨g8, 4, none⟩ (.int .i64 m.P.S)).setCell ⟨g8, 5, none⟩ (.int .i64 m.extra)).setCell ⟨g8, 6, none⟩ (.slice Ad2 nd2 cd2)).setCell ⟨g8, 7, none⟩ (.slice Ao2 no2 co2)) = W6 at *
            clear hK K hS
            have hS := hS2
            clear hS2
            try simp only [Act.put, List.setIfInBounds_toArray, List.set_cons_zero, List.set_cons_succ]
            refine Org.done (by kernel_rfl) ?_
            have hSE := hS
            clear hS
            go_wp2_with fail
            go_meet
            exact ⟨g7, g8, N1, N2, Ad1, nd1, cd1, Ao1, no1, co1, ts1, Ad2, nd2, cd2, Ao2, no2, co2, ts2, rfl, rfl, ⟨HA7.out, HC1.out, HD1.out⟩, ⟨HA8.out, HC2.out, HD2.out⟩, HNN1.out.1, HLT.out, HNE.out, hSE⟩
          · skip
            go_simp
            obtain ⟨g7, hg7⟩ : ∃ g, W2.heap.size = g := ⟨_, rfl⟩
            have HG7 := hid (show w5.heap.size ≤ g7 by rw [← hg7]; exact hS.size)
            have hA7 := Row.new W2 27 #[.int .i64 0, .int .i64 0, .int .i64 0, .int .i64 0, .int .i64 0, .int .i64 0, .slice none 0 0, .slice none 0 0]
            have hbk : Below W2.heap.size W2 (W2.alloc (.cells #[.int .i64 0, .int .i64 0, .int .i64 0, .int .i64 0, .int .i64 0, .int .i64 0, .slice none 0 0, .slice none 0 0] 27)) := (Below.refl _ _).alloc (Nat.le_refl _) _
            have hS3 := hS.alloc hS.size (.cells #[.int .i64 0, .int .i64 0, .int .i64 0, .int .i64 0, .int .i64 0, .int .i64 0, .slice none 0 0, .slice none 0 0] 27)
            have HNE := hid (show g7 ≠ g8 by have := HA8.out.lt; omega)
            have HSZ := hid (Nat.le_trans HSZ.out hbk.size)
            have HC1 := hid (HC1.out.below hbk)
            have HA8 := hid (HA8.out.below hbk HA8.out.lt)
            rw [hg7] at hA7 ⊢
            generalize W2.alloc (.cells #[.int .i64 0, .int .i64 0, .int .i64 0, .int .i64 0, .int .i64 0, .int .i64 0, .slice none 0 0, .slice none 0 0] 27) = W3 at *
            have HA7 := hid hA7
            have HOLD7 := hid hA7.lt
            clear hg7 hA7 hbk
            refine hK.out _ _ hS3 (fun hS2 => ?_)
            clear hS3
            clear hK K hS
            have hS := hS2
            clear hS2
            try simp only [Act.put, List.setIfInBounds_toArray, List.set_cons_zero, List.set_cons_succ]
            refine Org.go rfl (by kernel_rfl) (by kernel_rfl) (fun K hK => ?_)
            go_simp
            go_at_call 13
            refine (copy_any m _ Ad (some ⟨bO, oO, none⟩) nd cd no co ts W3 ((HM5.out.below hS).mono hS.size) (Nat.le_refl _) (by omega) (by omega) HTRI.out).mono ?_
            rintro e W4 ⟨Ad2, nd2, cd2, Ao2, no2, co2, ts2, he, hom2, hdj2, hbk⟩
            unfold Mani.val at he
            subst he
            have HD2 := hid hdj2
            obtain ⟨N2, hN2⟩ : ∃ N, W3.heap.size = N := ⟨_, rfl⟩
            obtain ⟨S2, hS2⟩ : ∃ S, W4.heap.size = S := ⟨_, rfl⟩
            have HNN2 := hid (show w5.heap.size ≤ N2 ∧ N2 ≤ S2 by rw [← hN2, ← hS2]; exact ⟨hS.size, hbk.size⟩)
            have HLT := hid (show N1 ≤ N2 ∧ (∀ i, i < no1 → ∀ b, (ts1.getD i undef).ownBlock = some b → b < N2) ∧ (∀ b, (Value.slice Ad1 nd1 cd1).ownBlock = some b → b < N2) ∧ (∀ b, (Value.slice Ao1 no1 co1).ownBlock = some b → b < N2) by rw [← hN2]; exact ⟨Nat.le_trans HNN1.out.2 HSZ.out, om_lt HC1.out⟩)
            have HSZ := hid (Nat.le_trans HSZ.out hbk.size)
            have HC1 := hid (HC1.out.below hbk)
            have HA7 := hid (HA7.out.below hbk HA7.out.lt)
            have HA8 := hid (HA8.out.below hbk HA8.out.lt)
            rw [hN2] at hom2
            have HC2 := hid hom2
            have hS3 := hS.trans (hbk.mono hS.size)
            clear hom2 hdj2 hN2 hS2 hbk
            go_wp2_with fail
            refine hK.out _ _ hS3 (fun hS2 => ?_)
            clear hS3
            clear hK K hS
            have hS := hS2
            clear hS2
            try simp only [Act.put, List.setIfInBounds_toArray, List.set_cons_zero, List.set_cons_succ]
            refine Org.go rfl (by kernel_rfl) (by kernel_rfl) (fun K hK => ?_)
            have y0 := HA7.out.cell 0
            have y1 := HA7.out.cell 1
            have y2 := HA7.out.cell 2
            have y3 := HA7.out.cell 3
            have y4 := HA7.out.cell 4
            have y5 := HA7.out.cell 5
            have y6 := HA7.out.cell 6
            have y7 := HA7.out.cell 7
            simp only [List.getElem?_cons_succ, List.getElem?_cons_zero] at y0 y1 y2 y3 y4 y5 y6 y7
            have z0 := HA7.out.frozen 0
            have z1 := HA7.out.frozen 1
            have z2 := HA7.out.frozen 2
            have z3 := HA7.out.frozen 3
            have z4 := HA7.out.frozen 4
            have z5 := HA7.out.frozen 5
            have z6 := HA7.out.frozen 6
            have z7 := HA7.out.frozen 7
            have hg8 := grown8s W4 g7 (.int .i64 m.seq) (.int .i64 m.next) (.int .i64 m.P.K) (.int .i64 m.P.H) (.int .i64 m.P.S) (.int .i64 m.extra) (.slice Ad1 nd1 cd1) (.slice Ao1 no1 co1)
            have HC1 := hid (HC1.out.other hg8 HA7.out (by decide) (by decide))
            have HC2 := hid (HC2.out.other hg8 HA7.out (by decide) (by decide))
            have HA8 := hid (HA8.out.grown hg8 (fun e => by injection e with e; exact HNE.out e.symm))
            have HS3 := hid (hS.grown hg8 hS.size (fun j hj => by injection hj with hj; have := HG7.out; omega))
            have HA7 := hid (row8m HA7.out (.int .i64 m.seq) (.int .i64 m.next) (.int .i64 m.P.K) (.int .i64 m.P.H) (.int .i64 m.P.S) (.int .i64 m.extra) (.slice Ad1 nd1 cd1) (.slice Ao1 no1 co1))
            clear hg8
            go_simp
            refine hK.out _ _ HS3.out (fun hS2 => ?_)
            clear HS3 y0 y1 y2 y3 y4 y5 y6 y7 z0 z1 z2 z3 z4 z5 z6 z7
            generalize ((((((((W4.setCell ⟨g7, 0, none⟩ (.int .i64 m.seq)).setCell ⟨g7, 1, none⟩ (.int .i64 m.next)).setCell ⟨g7, 2, none⟩ (.int .i64 m.P.K)).setCell ⟨g7, 3, none⟩ (.int .i64 m.P.H)).setCell ⟨g7, 4, none⟩ (.int .i64 m.P.S)).setCell ⟨g7, 5, none⟩ (.int .i64 m.extra)).setCell ⟨g7, 6, none⟩ (.slice Ad1 nd1 cd1)).setCell ⟨g7, 7, none⟩ (.slice Ao1 no1 co1)) = W5 at *
            clear hK K hS
            have hS := hS2
            clear hS2
            try simp only [Act.put, List.setIfInBounds_toArray, List.set_cons_zero, List.set_cons_succ]
            refine Org.go rfl (by kernel_rfl) (by kernel_rfl) (fun K hK => ?_)
            have y0 := HA8.out.cell 0
            have y1 := HA8.out.cell 1
            have y2 := HA8.out.cell 2
            have y3 := HA8.out.cell 3
            have y4 := HA8.out.cell 4
            have y5 := HA8.out.cell 5
            have y6 := HA8.out.cell 6
            have y7 := HA8.out.cell 7
            simp only [List.getElem?_cons_succ, List.getElem?_cons_zero] at y0 y1 y2 y3 y4 y5 y6 y7
            have z0 := HA8.out.frozen 0
            have z1 := HA8.out.frozen 1
            have z2 := HA8.out.frozen 2
            have z3 := HA8.out.frozen 3
            have z4 := HA8.out.frozen 4
            have z5 := HA8.out.frozen 5
            have z6 := HA8.out.frozen 6
            have z7 := HA8.out.frozen 7
            have hg8 := grown8s W5 g8 (.int .i64 m.seq) (.int .i64 m.next) (.int .i64 m.P.K) (.int .i64 m.P.H) (.int .i64 m.P.S) (.int .i64 m.extra) (.slice Ad2 nd2 cd2) (.slice Ao2 no2 co2)
            have HC1 := hid (HC1.out.other hg8 HA8.out (by decide) (by decide))
            have HC2 := hid (HC2.out.other hg8 HA8.out (by decide) (by decide))
            have HA7 := hid (HA7.out.grown hg8 (fun e => by injection e with e; exact HNE.out e))
            have HS3 := hid (hS.grown hg8 hS.size (fun j hj => by injection hj with hj; have := HG8.out; omega))
            have HA8 := hid (row8m HA8.out (.int .i64 m.seq) (.int .i64 m.next) (.int .i64 m.P.K) (.int .i64 m.P.H) (.int .i64 m.P.S) (.int .i64 m.extra) (.slice Ad2 nd2 cd2) (.slice Ao2 no2 co2))
            clear hg8
            go_simp
            refine hK.out _ _ HS3.out (fun hS2 => ?_)
            clear HS3 y0 y1 y2 y3 y4 y5 y6 y7 z0 z1 z2 z3 z4 z5 z6 z7
            generalize ((((((((W5.setCell ⟨g8, 0, none⟩ (.int .i64 m.seq)).setCell ⟨g8, 1, none⟩ (.int .i64 m.next)).setCell ⟨g8, 2, none⟩ (.int .i64 m.P.K)).setCell ⟨g8, 3, none⟩ (.int .i64 m.P.H)).setCell ⟨g8, 4, none⟩ (.int .i64 m.P.S)).setCell ⟨g8, 5, none⟩ (.int .i64 m.extra)).setCell ⟨g8, 6, none⟩ (.slice Ad2 nd2 cd2)).setCell ⟨g8, 7, none⟩ (.slice Ao2 no2 co2)) = W6 at *
            clear hK K hS
            have hS := hS2
            clear hS2
            try simp only [Act.put, List.setIfInBounds_toArray, List.set_cons_zero, List.set_cons_succ]
            refine Org.done (by kernel_rfl) ?_
            have hSE := hS
            clear hS
            go_wp2_with fail
            go_meet
            exact ⟨g7, g8, N1, N2, Ad1, nd1, cd1, Ao1, no1, co1, ts1, Ad2, nd2, cd2, Ao2, no2, co2, ts2, rfl, rfl, ⟨HA7.out, HC1.out, HD1.out⟩, ⟨HA8.out, HC2.out, HD2.out⟩, HNN1.out.1, HLT.out, HNE.out, hSE⟩
      · skip
        go_simp
        obtain ⟨g7, hg7⟩ : ∃ g, W0.heap.size = g := ⟨_, rfl⟩
        have HG7 := hid (show w5.heap.size ≤ g7 by rw [← hg7]; exact hS.size)
        have hA7 := Row.new W0 27 #[.int .i64 0, .int .i64 0, .int .i64 0, .int .i64 0, .int .i64 0, .int .i64 0, .slice none 0 0, .slice none 0 0]
        have hbk : Below W0.heap.size W0 (W0.alloc (.cells #[.int .i64 0, .int .i64 0, .int .i64 0, .int .i64 0, .int .i64 0, .int .i64 0, .slice none 0 0, .slice none 0 0] 27)) := (Below.refl _ _).alloc (Nat.le_refl _) _
        have hS3 := hS.alloc hS.size (.cells #[.int .i64 0, .int .i64 0, .int .i64 0, .int .i64 0, .int .i64 0, .int .i64 0, .slice none 0 0, .slice none 0 0] 27)
        rw [hg7] at hA7 ⊢
        generalize W0.alloc (.cells #[.int .i64 0, .int .i64 0, .int .i64 0, .int .i64 0, .int .i64 0, .int .i64 0, .slice none 0 0, .slice none 0 0] 27) = W1 at *
        have HA7 := hid hA7
        have HOLD7 := hid hA7.lt
        clear hg7 hA7 hbk
        refine hK.out _ _ hS3 (fun hS2 => ?_)
        clear hS3
        clear hK K hS
        have hS := hS2
        clear hS2
        try simp only [Act.put, List.setIfInBounds_toArray, List.set_cons_zero, List.set_cons_succ]
        refine Org.two (i := 1) (j := 5) [] [1, 3, 6, 7] rfl rfl (by kernel_rfl) (by kernel_rfl) (by kernel_rfl) (fun K hK => ?_) (fun K hK => ?_)
        · skip
          go_simp
          go_at_call 13
          refine (copy_any m _ Ad (some ⟨bO, oO, none⟩) nd cd no co ts W1 ((HM5.out.below hS).mono hS.size) (Nat.le_refl _) (by omega) (by omega) HTRI.out).mono ?_
          rintro e W2 ⟨Ad1, nd1, cd1, Ao1, no1, co1, ts1, he, hom1, hdj1, hbk⟩
          unfold Mani.val at he
          subst he
          have HD1 := hid hdj1
          obtain ⟨N1, hN1⟩ : ∃ N, W1.heap.size = N := ⟨_, rfl⟩
          obtain ⟨S1, hS1⟩ : ∃ S, W2.heap.size = S := ⟨_, rfl⟩
          have HNN1 := hid (show w5.heap.size ≤ N1 ∧ N1 ≤ S1 by rw [← hN1, ← hS1]; exact ⟨hS.size, hbk.size⟩)
          have HA7 := hid (HA7.out.below hbk HA7.out.lt)
          rw [hN1] at hom1
          have HC1 := hid hom1
          have HSZ := hid (Nat.le_of_eq hS1.symm)
          have hS3 := hS.trans (hbk.mono hS.size)
          clear hom1 hdj1 hN1 hS1 hbk
          go_wp2_with fail
          refine hK.out _ _ hS3 (fun hS2 => ?_)
          clear hS3
          clear hK K hS
          have hS := hS2
          clear hS2
          try simp only [Act.put, List.setIfInBounds_toArray, List.set_cons_zero, List.set_cons_succ]
          refine Org.two (i := 3) (j := 5) [5, 6, 7] [3, 6, 7] rfl rfl (by kernel_rfl) (by kernel_rfl) (by kernel_rfl) (fun K hK => ?_) (fun K hK => ?_)
          · skip
            go_simp
            go_at_call 13
            refine (copy_any m _ Ad (some ⟨bO, oO, none⟩) nd cd no co ts W2 ((HM5.out.below hS).mono hS.size) (Nat.le_refl _) (by omega) (by omega) HTRI.out).mono ?_
            rintro e W3 ⟨Ad2, nd2, cd2, Ao2, no2, co2, ts2, he, hom2, hdj2, hbk⟩
            unfold Mani.val at he
            subst he
            have HD2 := hid hdj2
            obtain ⟨N2, hN2⟩ : ∃ N, W2.heap.size = N := ⟨_, rfl⟩
            obtain ⟨S2, hS2⟩ : ∃ S, W3.heap.size = S := ⟨_, rfl⟩
            have HNN2 := hid (show w5.heap.size ≤ N2 ∧ N2 ≤ S2 by rw [← hN2, ← hS2]; exact ⟨hS.size, hbk.size⟩)
            have HLT := hid (show N1 ≤ N2 ∧ (∀ i, i < no1 → ∀ b, (ts1.getD i undef).ownBlock = some b → b < N2) ∧ (∀ b, (Value.slice Ad1 nd1 cd1).ownBlock = some b → b < N2) ∧ (∀ b, (Value.slice Ao1 no1 co1).ownBlock = some b → b < N2) by rw [← hN2]; exact ⟨Nat.le_trans HNN1.out.2 HSZ.out, om_lt HC1.out⟩)
            have HSZ := hid (Nat.le_trans HSZ.out hbk.size)
            have HC1 := hid (HC1.out.below hbk)
            have HA7 := hid (HA7.out.below hbk HA7.out.lt)
            rw [hN2] at hom2
            have HC2 := hid hom2
            have hS3 := hS.trans (hbk.mono hS.size)
            clear hom2 hdj2 hN2 hS2 hbk
            go_wp2_with fail
            refine hK.out _ _ hS3 (fun hS2 => ?_)
            clear hS3
            clear hK K hS
            have hS := hS2
            clear hS2
            try simp only [Act.put, List.setIfInBounds_toArray, List.set_cons_zero, List.set_cons_succ]
            refine Org.go rfl (by kernel_rfl) (by kernel_rfl) (fun K hK => ?_)
            go_simp
            obtain ⟨g8, hg8⟩ : ∃ g, W3.heap.size = g := ⟨_, rfl⟩
            have HG8 := hid (show w5.heap.size ≤ g8 by rw [← hg8]; exact hS.size)
            have hA8 := Row.new W3 27 #[.int .i64 0, .int .i64 0, .int .i64 0, .int .i64 0, .int .i64 0, .int .i64 0, .slice none 0 0, .slice none 0 0]
            have hbk : Below W3.heap.size W3 (W3.alloc (.cells #[.int .i64 0, .int .i64 0, .int .i64 0, .int .i64 0, .int .i64 0, .int .i64 0, .slice none 0 0, .slice none 0 0] 27)) := (Below.refl _ _).alloc (Nat.le_refl _) _
            have hS3 := hS.alloc hS.size (.cells #[.int .i64 0, .int .i64 0, .int .i64 0, .int .i64 0, .int .i64 0, .int .i64 0, .slice none 0 0, .slice none 0 0] 27)
            have HNE := hid (show g7 ≠ g8 by have := HA7.out.lt; omega)
            have HSZ := hid (Nat.le_trans HSZ.out hbk.size)
            have HC1 := hid (HC1.out.below hbk)
            have HC2 := hid (HC2.out.below hbk)
            have HA7 := hid (HA7.out.below hbk HA7.out.lt)
            rw [hg8] at hA8 ⊢
            generalize W3.alloc (.cells #[.int .i64 0, .int .i64 0, .int .i64 0, .int .i64 0, .int .i64 0, .int .i64 0, .slice none 0 0, .slice none 0 0] 27) = W4 at *
            have HA8 := hid hA8
            have HOLD8 := hid hA8.lt
            clear hg8 hA8 hbk
            refine hK.out _ _ hS3 (fun hS2 => ?_)
            clear hS3
            clear hK K hS
            have hS := hS2
            clear hS2
            try simp only [Act.put, List.setIfInBounds_toArray, List.set_cons_zero, List.set_cons_succ]
            refine Org.go rfl (by kernel_rfl) (by kernel_rfl) (fun K hK => ?_)
            have y0 := HA7.out.cell 0
            have y1 := HA7.out.cell 1
            have y2 := HA7.out.cell 2
            have y3 := HA7.out.cell 3
            have y4 := HA7.out.cell 4
            have y5 := HA7.out.cell 5
            have y6 := HA7.out.cell 6
            have y7 := HA7.out.cell 7
            simp only [List.getElem?_cons_succ, List.getElem?_cons_zero] at y0 y1 y2 y3 y4 y5 y6 y7
            have z0 := HA7.out.frozen 0
            have z1 := HA7.out.frozen 1
            have z2 := HA7.out.frozen 2
            have z3 := HA7.out.frozen 3
            have z4 := HA7.out.frozen 4
            have z5 := HA7.out.frozen 5
            have z6 := HA7.out.frozen 6
            have z7 := HA7.out.frozen 7
            have hg8 := grown8s W4 g7 (.int .i64 m.seq) (.int .i64 m.next) (.int .i64 m.P.K) (.int .i64 m.P.H) (.int .i64 m.P.S) (.int .i64 m.extra) (.slice Ad1 nd1 cd1) (.slice Ao1 no1 co1)
            have HC1 := hid (HC1.out.other hg8 HA7.out (by decide) (by decide))
            have HC2 := hid (HC2.out.other hg8 HA7.out (by decide) (by decide))
            have HA8 := hid (HA8.out.grown hg8 (fun e => by injection e with e; exact HNE.out e.symm))
            have HS3 := hid (hS.grown hg8 hS.size (fun j hj => by injection hj with hj; have := HG7.out; omega))
            have HA7 := hid (row8m HA7.out (.int .i64 m.seq) (.int .i64 m.next) (.int .i64 m.P.K) (.int .i64 m.P.H) (.int .i64 m.P.S) (.int .i64 m.extra) (.slice Ad1 nd1 cd1) (.slice Ao1 no1 co1))
            clear hg8
            go_simp
            refine hK.out _ _ HS3.out (fun hS2 => ?_)
            clear HS3 y0 y1 y2 y3 y4 y5 y6 y7 z0 z1 z2 z3 z4 z5 z6 z7
            generalize ((((((((W4.setCell ⟨g7, 0, none⟩ (.int .i64 m.seq)).setCell ⟨g7, 1, none⟩ (.int .i64 m.next)).setCell ⟨g7, 2, none⟩ (.int .i64 m.P.K)).setCell ⟨g7, 3, none⟩ (.int .i64 m.P.H)).setCell ⟨g7, 4, none⟩ (.int .i64 m.P.S)).setCell ⟨g7, 5, none⟩ (.int .i64 m.extra)).setCell ⟨g7, 6, none⟩ (.slice Ad1 nd1 cd1)).setCell ⟨g7, 7, none⟩ (.slice Ao1 no1 co1)) = W5 at *
            clear hK K hS
            have hS := hS2
            clear hS2
            try simp only [Act.put, List.setIfInBounds_toArray, List.set_cons_zero, List.set_cons_succ]
            refine Org.go rfl (by kernel_rfl) (by kernel_rfl) (fun K hK => ?_)
            have y0 := HA8.out.cell 0
            have y1 := HA8.out.cell 1
            have y2 := HA8.out.cell 2
            have y3 := HA8.out.cell 3
            have y4 := HA8.out.cell 4
            have y5 := HA8.out.cell 5
            have y6 := HA8.out.cell 6
            have y7 := HA8.out.cell 7
            simp only [List.getElem?_cons_succ, List.getElem?_cons_zero] at y0 y1 y2 y3 y4 y5 y6 y7
            have z0 := HA8.out.frozen 0
            have z1 := HA8.out.frozen 1
            have z2 := HA8.out.frozen 2
            have z3 := HA8.out.frozen 3
            have z4 := HA8.out.frozen 4
            have z5 := HA8.out.frozen 5
            have z6 := HA8.out.frozen 6
            have z7 := HA8.out.frozen 7
            have hg8 := grown8s W5 g8 (.int .i64 m.seq) (.int .i64 m.next) (.int .i64 m.P.K) (.int .i64 m.P.H) (.int .i64 m.P.S) (.int .i64 m.extra) (.slice Ad2 nd2 cd2) (.slice Ao2 no2 co2)
            have HC1 := hid (HC1.out.other hg8 HA8.out (by decide) (by decide))
            have HC2 := hid (HC2.out.other hg8 HA8.out (by decide) (by decide))
            have HA7 := hid (HA7.out.grown hg8 (fun e => by injection e with e; exact HNE.out e))
            have HS3 := hid (hS.grown hg8 hS.size (fun j hj => by injection hj with hj; have := HG8.out; omega))
            have HA8 := hid (row8m HA8.out (.int .i64 m.seq) (.int .i64 m.next) (.int .i64 m.P.K) (.int .i64 m.P.H) (.int .i64 m.P.S) (.int .i64 m.extra) (.slice Ad2 nd2 cd2) (.slice Ao2 no2 co2))
            clear hg8
            go_simp
            refine hK.out _ _ HS3.out (fun hS2 => ?_)
            clear HS3 y0 y1 y2 y3 y4 y5 y6 y7 z0 z1 z2 z3 z4 z5 z6 z7
            generalize ((((((((W5.setCell ⟨g8, 0, none⟩ (.int .i64 m.seq)).setCell ⟨g8, 1, none⟩ (.int .i64 m.next)).setCell ⟨g8, 2, none⟩ (.int .i64 m.P.K)).setCell ⟨g8, 3, none⟩ (.int .i64 m.P.H)).setCell ⟨g8, 4, none⟩ (.int .i64 m.P.S)).setCell ⟨g8, 5, none⟩ (.int .i64 m.extra)).setCell ⟨g8, 6, none⟩ (.slice Ad2 nd2 cd2)).setCell ⟨g8, 7, none⟩ (.slice Ao2 no2 co2)) = W6 at *
            clear hK K hS
            have hS := hS2
            clear hS2
            try simp only [Act.put, List.setIfInBounds_toArray, List.set_cons_zero, List.set_cons_succ]
            refine Org.done (by kernel_rfl) ?_
            have hSE := hS
            clear hS
            go_wp2_with fail
            go_meet
            exact ⟨g7, g8, N1, N2, Ad1, nd1, cd1, Ao1, no1, co1, ts1, Ad2, nd2, cd2, Ao2, no2, co2, ts2, rfl, rfl, ⟨HA7.out, HC1.out, HD1.out⟩, ⟨HA8.out, HC2.out, HD2.out⟩, HNN1.out.1, HLT.out, HNE.out, hSE⟩
          · skip
            go_simp
            obtain ⟨g8, hg8⟩ : ∃ g, W2.heap.size = g := ⟨_, rfl⟩
            have HG8 := hid (show w5.heap.size ≤ g8 by rw [← hg8]; exact hS.size)
            have hA8 := Row.new W2 27 #[.int .i64 0, .int .i64 0, .int .i64 0, .int .i64 0, .int .i64 0, .int .i64 0, .slice none 0 0, .slice none 0 0]
            have hbk : Below W2.heap.size W2 (W2.alloc (.cells #[.int .i64 0, .int .i64 0, .int .i64 0, .int .i64 0, .int .i64 0, .int .i64 0, .slice none 0 0, .slice none 0 0] 27)) := (Below.refl _ _).alloc (Nat.le_refl _) _
            have hS3 := hS.alloc hS.size (.cells #[.int .i64 0, .int .i64 0, .int .i64 0, .int .i64 0, .int .i64 0, .int .i64 0, .slice none 0 0, .slice none 0 0] 27)
            have HNE := hid (show g7 ≠ g8 by have := HA7.out.lt; omega)
            have HSZ := hid (Nat.le_trans HSZ.out hbk.size)
            have HC1 := hid (HC1.out.below hbk)
            have HA7 := hid (HA7.out.below hbk HA7.out.lt)
            rw [hg8] at hA8 ⊢
            generalize W2.alloc (.cells #[.int .i64 0, .int .i64 0, .int .i64 0, .int .i64 0, .int .i64 0, .int .i64 0, .slice none 0 0, .slice none 0 0] 27) = W3 at *
            have HA8 := hid hA8
            have HOLD8 := hid hA8.lt
            clear hg8 hA8 hbk
            refine hK.out _ _ hS3 (fun hS2 => ?_)
            clear hS3
            clear hK K hS
            have hS := hS2
            clear hS2
            try simp only [Act.put, List.setIfInBounds_toArray, List.set_cons_zero, List.set_cons_succ]
            refine Org.go rfl (by kernel_rfl) (by kernel_rfl) (fun K hK => ?_)
            go_simp
            go_at_call 13
            refine (copy_any m _ Ad (some ⟨bO, oO, none⟩) nd cd no co ts W3 ((HM5.out.below hS).mono hS.size) (Nat.le_refl _) (by omega) (by omega) HTRI.out).mono ?_
            rintro e W4 ⟨Ad2, nd2, cd2, Ao2, no2, co2, ts2, he, hom2, hdj2, hbk⟩
            unfold Mani.val at he
            subst he
            have HD2 := hid hdj2
            obtain ⟨N2, hN2⟩ : ∃ N, W3.heap.size = N := ⟨_, rfl⟩
            obtain ⟨S2, hS2⟩ : ∃ S, W4.heap.size = S := ⟨_, rfl⟩
            have HNN2 := hid (show w5.heap.size ≤ N2 ∧ N2 ≤ S2 by rw [← hN2, ← hS2]; exact ⟨hS.size, hbk.size⟩)
            have HLT := hid (show N1 ≤ N2 ∧ (∀ i, i < no1 → ∀ b, (ts1.getD i undef).ownBlock = some b → b < N2) ∧ (∀ b, (Value.slice Ad1 nd1 cd1).ownBlock = some b → b < N2) ∧ (∀ b, (Value.slice Ao1 no1 co1).ownBlock = some b → b < N2) by rw [← hN2]; exact ⟨Nat.le_trans HNN1.out.2 HSZ.out, om_lt HC1.out⟩)
            have HSZ := hid (Nat.le_trans HSZ.out hbk.size)
            have HC1 := hid (HC1.out.below hbk)
            have HA7 := hid (HA7.out.below hbk HA7.out.lt)
            have HA8 := hid (HA8.out.below hbk HA8.out.lt)
            rw [hN2] at hom2
            have HC2 := hid hom2
            have hS3 := hS.trans (hbk.mono hS.size)
            clear hom2 hdj2 hN2 hS2 hbk
            go_wp2_with fail
            refine hK.out _ _ hS3 (fun hS2 => ?_)
            clear hS3
            clear hK K hS
            have hS := hS2
            clear hS2
            try simp only [Act.put, List.setIfInBounds_toArray, List.set_cons_zero, List.set_cons_succ]
            refine Org.go rfl (by kernel_rfl) (by kernel_rfl) (fun K hK => ?_)
            have y0 := HA7.out.cell 0
            have y1 := HA7.out.cell 1
            have y2 := HA7.out.cell 2
            have y3 := HA7.out.cell 3
            have y4 := HA7.out.cell 4
            have y5 := HA7.out.cell 5
            have y6 := HA7.out.cell 6
            have y7 := HA7.out.cell 7
            simp only [List.getElem?_cons_succ, List.getElem?_cons_zero] at y0 y1 y2 y3 y4 y5 y6 y7
            have z0 := HA7.out.frozen 0
            have z1 := HA7.out.frozen 1
            have z2 := HA7.out.frozen 2
            have z3 := HA7.out.frozen 3
            have z4 := HA7.out.frozen 4
            have z5 := HA7.out.frozen 5
            have z6 := HA7.out.frozen 6
            have z7 := HA7.out.frozen 7
            have hg8 := grown8s W4 g7 (.int .i64 m.seq) (.int .i64 m.next) (.int .i64 m.P.K) (.int .i64 m.P.H) (.int .i64 m.P.S) (.int .i64 m.extra) (.slice Ad1 nd1 cd1) (.slice Ao1 no1 co1)
            have HC1 := hid (HC1.out.other hg8 HA7.out (by decide) (by decide))
            have HC2 := hid (HC2.out.other hg8 HA7.out (by decide) (by decide))
            have HA8 := hid (HA8.out.grown hg8 (fun e => by injection e with e; exact HNE.out e.symm))
            have HS3 := hid (hS.grown hg8 hS.size (fun j hj => by injection hj with hj; have := HG7.out; omega))
            have HA7 := hid (row8m HA7.out (.int .i64 m.seq) (.int .i64 m.next) (.int .i64 m.P.K) (.int .i64 m.P.H) (.int .i64 m.P.S) (.int .i64 m.extra) (.slice Ad1 nd1 cd1) (.slice Ao1 no1 co1))
            clear hg8
            go_simp
            refine hK.out _ _ HS3.out (fun hS2 => ?_)
            clear HS3 y0 y1 y2 y3 y4 y5 y6 y7 z0 z1 z2 z3 z4 z5 z6 z7
            generalize ((((((((W4.setCell ⟨g7, 0, none⟩ (.int .i64 m.seq)).setCell ⟨g7, 1, none⟩ (.int .i64 m.next)).setCell ⟨g7, 2, none⟩ (.int .i64 m.P.K)).setCell ⟨g7, 3, none⟩ (.int .i64 m.P.H)).setCell ⟨g7, 4, none⟩ (.int .i64 m.P.S)).setCell ⟨g7, 5, none⟩ (.int .i64 m.extra)).setCell ⟨g7, 6, none⟩ (.slice Ad1 nd1 cd1)).setCell ⟨g7, 7, none⟩ (.slice Ao1 no1 co1)) = W5 at *
            clear hK K hS
            have hS := hS2
            clear hS2
            try simp only [Act.put, List.setIfInBounds_toArray, List.set_cons_zero, List.set_cons_succ]
            refine Org.go rfl (by kernel_rfl) (by kernel_rfl) (fun K hK => ?_)
            have y0 := HA8.out.cell 0
            have y1 := HA8.out.cell 1
            have y2 := HA8.out.cell 2
            have y3 := HA8.out.cell 3
            have y4 := HA8.out.cell 4
            have y5 := HA8.out.cell 5
            have y6 := HA8.out.cell 6
            have y7 := HA8.out.cell 7
            simp only [List.getElem?_cons_succ, List.getElem?_cons_zero] at y0 y1 y2 y3 y4 y5 y6 y7
            have z0 := HA8.out.frozen 0
            have z1 := HA8.out.frozen 1
            have z2 := HA8.out.frozen 2
            have z3 := HA8.out.frozen 3
            have z4 := HA8.out.frozen 4
            have z5 := HA8.out.frozen 5
            have z6 := HA8.out.frozen 6
            have z7 := HA8.out.frozen 7
            have hg8 := grown8s W5 g8 (.int .i64 m.seq) (.int .i64 m.next) (.int .i64 m.P.K) (.int .i64 m.P.H) (.int .i64 m.P.S) (.int .i64 m.extra) (.slice Ad2 nd2 cd2) (.slice Ao2 no2 co2)
            have HC1 := hid (HC1.out.other hg8 HA8.out (by decide) (by decide))
            have HC2 := hid (HC2.out.other hg8 HA8.out (by decide) (by decide))
            have HA7 := hid (HA7.out.grown hg8 (fun e => by injection e with e; exact HNE.out e))
            have HS3 := hid (hS.grown hg8 hS.size (fun j hj => by injection hj with hj; have := HG8.out; omega))
            have HA8 := hid (row8m HA8.out (.int .i64 m.seq) (.int .i64 m.next) (.int .i64 m.P.K) (.int .i64 m.P.H) (.int .i64 m.P.S) (.int .i64 m.extra) (.slice Ad2 nd2 cd2) (.slice Ao2 no2 co2))
            clear hg8
            go_simp
            refine hK.out _ _ HS3.out (fun hS2 => ?_)
            clear HS3 y0 y1 y2 y3 y4 y5 y6 y7 z0 z1 z2 z3 z4 z5 z6 z7
            generalize ((((((((W5.setCell ⟨g8, 0, none⟩ (.int .i64 m.seq)).setCell ⟨g8, 1, none⟩ (.int .i64 m.next)).setCell ⟨g8, 2, none⟩ (.int .i64 m.P.K)).setCell ⟨g8, 3, none⟩ (.int .i64 m.P.H)).setCell ⟨g8, 4, none⟩ (.int .i64 m.P.S)).setCell ⟨g8, 5, none⟩ (.int .i64 m.extra)).setCell ⟨g8, 6, none⟩ (.slice Ad2 nd2 cd2)).setCell ⟨g8, 7, none⟩ (.slice Ao2 no2 co2)) = W6 at *
            clear hK K hS
            have hS := hS2
            clear hS2
            try simp only [Act.put, List.setIfInBounds_toArray, List.set_cons_zero, List.set_cons_succ]
            refine Org.done (by kernel_rfl) ?_
            have hSE := hS
            clear hS
            go_wp2_with fail
            go_meet
            exact ⟨g7, g8, N1, N2, Ad1, nd1, cd1, Ao1, no1, co1, ts1, Ad2, nd2, cd2, Ao2, no2, co2, ts2, rfl, rfl, ⟨HA7.out, HC1.out, HD1.out⟩, ⟨HA8.out, HC2.out, HD2.out⟩, HNN1.out.1, HLT.out, HNE.out, hSE⟩
        · skip
          go_simp
          obtain ⟨g8, hg8⟩ : ∃ g, W1.heap.size = g := ⟨_, rfl⟩
          have HG8 := hid (show w5.heap.size ≤ g8 by rw [← hg8]; exact hS.size)
          have hA8 := Row.new W1 27 #[.int .i64 0, .int .i64 0, .int .i64 0, .int .i64 0, .int .i64 0, .int .i64 0, .slice none 0 0, .slice none 0 0]
          have hbk : Below W1.heap.size W1 (W1.alloc (.cells #[.int .i64 0, .int .i64 0, .int .i64 0, .int .i64 0, .int .i64 0, .int .i64 0, .slice none 0 0, .slice none 0 0] 27)) := (Below.refl _ _).alloc (Nat.le_refl _) _
          have hS3 := hS.alloc hS.size (.cells #[.int .i64 0, .int .i64 0, .int .i64 0, .int .i64 0, .int .i64 0, .int .i64 0, .slice none 0 0, .slice none 0 0] 27)
          have HNE := hid (show g7 ≠ g8 by have := HA7.out.lt; omega)
          have HA7 := hid (HA7.out.below hbk HA7.out.lt)
          rw [hg8] at hA8 ⊢
          generalize W1.alloc (.cells #[.int .i64 0, .int .i64 0, .int .i64 0, .int .i64 0, .int .i64 0, .int .i64 0, .slice none 0 0, .slice none 0 0] 27) = W2 at *
          have HA8 := hid hA8
          have HOLD8 := hid hA8.lt
          clear hg8 hA8 hbk
          refine hK.out _ _ hS3 (fun hS2 => ?_)
          clear hS3
          clear hK K hS
          have hS := hS2
          clear hS2
          try simp only [Act.put, List.setIfInBounds_toArray, List.set_cons_zero, List.set_cons_succ]
          refine Org.go rfl (by kernel_rfl) (by kernel_rfl) (fun K hK => ?_)
          go_simp
          go_at_call 13
          refine (copy_any m _ Ad (some ⟨bO, oO, none⟩) nd cd no co ts W2 ((HM5.out.below hS).mono hS.size) (Nat.le_refl _) (by omega) (by omega) HTRI.out).mono ?_
          rintro e W3 ⟨Ad1, nd1, cd1, Ao1, no1, co1, ts1, he, hom1, hdj1, hbk⟩
          unfold Mani.val at he
          subst he
          have HD1 := hid hdj1
          obtain ⟨N1, hN1⟩ : ∃ N, W2.heap.size = N := ⟨_, rfl⟩
          obtain ⟨S1, hS1⟩ : ∃ S, W3.heap.size = S := ⟨_, rfl⟩
          have HNN1 := hid (show w5.heap.size ≤ N1 ∧ N1 ≤ S1 by rw [← hN1, ← hS1]; exact ⟨hS.size, hbk.size⟩)
          have HA7 := hid (HA7.out.below hbk HA7.out.lt)
          have HA8 := hid (HA8.out.below hbk HA8.out.lt)
          rw [hN1] at hom1
          have HC1 := hid hom1
          have HSZ := hid (Nat.le_of_eq hS1.symm)
          have hS3 := hS.trans (hbk.mono hS.size)
          clear hom1 hdj1 hN1 hS1 hbk
          go_wp2_with fail
          refine hK.out _ _ hS3 (fun hS2 => ?_)
          clear hS3
          clear hK K hS
          have hS := hS2
          clear hS2
          try simp only [Act.put, List.setIfInBounds_toArray, List.set_cons_zero, List.set_cons_succ]
          refine Org.go rfl (by kernel_rfl) (by kernel_rfl) (fun K hK => ?_)
          go_simp
          go_at_call 13
          refine (copy_any m _ Ad (some ⟨bO, oO, none⟩) nd cd no co ts W3 ((HM5.out.below hS).mono hS.size) (Nat.le_refl _) (by omega) (by omega) HTRI.out).mono ?_
          rintro e W4 ⟨Ad2, nd2, cd2, Ao2, no2, co2, ts2, he, hom2, hdj2, hbk⟩
          unfold Mani.val at he
          subst he
          have HD2 := hid hdj2
          obtain ⟨N2, hN2⟩ : ∃ N, W3.heap.size = N := ⟨_, rfl⟩
          obtain ⟨S2, hS2⟩ : ∃ S, W4.heap.size = S := ⟨_, rfl⟩
          have HNN2 := hid (show w5.heap.size ≤ N2 ∧ N2 ≤ S2 by rw [← hN2, ← hS2]; exact ⟨hS.size, hbk.size⟩)
          have HLT := hid (show N1 ≤ N2 ∧ (∀ i, i < no1 → ∀ b, (ts1.getD i undef).ownBlock = some b → b < N2) ∧ (∀ b, (Value.slice Ad1 nd1 cd1).ownBlock = some b → b < N2) ∧ (∀ b, (Value.slice Ao1 no1 co1).ownBlock = some b → b < N2) by rw [← hN2]; exact ⟨Nat.le_trans HNN1.out.2 HSZ.out, om_lt HC1.out⟩)
          have HSZ := hid (Nat.le_trans HSZ.out hbk.size)
          have HC1 := hid (HC1.out.below hbk)
          have HA7 := hid (HA7.out.below hbk HA7.out.lt)
          have HA8 := hid (HA8.out.below hbk HA8.out.lt)
          rw [hN2] at hom2
          have HC2 := hid hom2
          have hS3 := hS.trans (hbk.mono hS.size)
          clear hom2 hdj2 hN2 hS2 hbk
          go_wp2_with fail
          refine hK.out _ _ hS3 (fun hS2 => ?_)
          clear hS3
          clear hK K hS
          have hS := hS2
          clear hS2
          try simp only [Act.put, List.setIfInBounds_toArray, List.set_cons_zero, List.set_cons_succ]
          refine Org.go rfl (by kernel_rfl) (by kernel_rfl) (fun K hK => ?_)
          have y0 := HA7.out.cell 0
          have y1 := HA7.out.cell 1
          have y2 := HA7.out.cell 2
          have y3 := HA7.out.cell 3
          have y4 := HA7.out.cell 4
          have y5 := HA7.out.cell 5
          have y6 := HA7.out.cell 6
          have y7 := HA7.out.cell 7
          simp only [List.getElem?_cons_succ, List.getElem?_cons_zero] at y0 y1 y2 y3 y4 y5 y6 y7
          have z0 := HA7.out.frozen 0
          have z1 := HA7.out.frozen 1
          have z2 := HA7.out.frozen 2
          have z3 := HA7.out.frozen 3
          have z4 := HA7.out.frozen 4
          have z5 := HA7.out.frozen 5
          have z6 := HA7.out.frozen 6
          have z7 := HA7.out.frozen 7
          have hg8 := grown8s W4 g7 (.int .i64 m.seq) (.int .i64 m.next) (.int .i64 m.P.K) (.int .i64 m.P.H) (.int .i64 m.P.S) (.int .i64 m.extra) (.slice Ad1 nd1 cd1) (.slice Ao1 no1 co1)
          have HC1 := hid (HC1.out.other hg8 HA7.out (by decide) (by decide))
          have HC2 := hid (HC2.out.other hg8 HA7.out (by decide) (by decide))
          have HA8 := hid (HA8.out.grown hg8 (fun e => by injection e with e; exact HNE.out e.symm))
          have HS3 := hid (hS.grown hg8 hS.size (fun j hj => by injection hj with hj; have := HG7.out; omega))
          have HA7 := hid (row8m HA7.out (.int .i64 m.seq) (.int .i64 m.next) (.int .i64 m.P.K) (.int .i64 m.P.H) (.int .i64 m.P.S) (.int .i64 m.extra) (.slice Ad1 nd1 cd1) (.slice Ao1 no1 co1))
          clear hg8
          go_simp
          refine hK.out _ _ HS3.out (fun hS2 => ?_)
          clear HS3 y0 y1 y2 y3 y4 y5 y6 y7 z0 z1 z2 z3 z4 z5 z6 z7
          generalize ((((((((W4.setCell ⟨g7, 0, none⟩ (.int .i64 m.seq)).setCell ⟨g7, 1, none⟩ (.int .i64 m.next)).setCell ⟨g7, 2, none⟩ (.int .i64 m.P.K)).setCell ⟨g7, 3, none⟩ (.int .i64 m.P.H)).setCell ⟨g7, 4, none⟩ (.int .i64 m.P.S)).setCell ⟨g7, 5, none⟩ (.int .i64 m.extra)).setCell ⟨g7, 6, none⟩ (.slice Ad1 nd1 cd1)).setCell ⟨g7, 7, none⟩ (.slice Ao1 no1 co1)) = W5 at *
          clear hK K hS
          have hS := hS2
          clear hS2
          try simp only [Act.put, List.setIfInBounds_toArray, List.set_cons_zero, List.set_cons_succ]
          refine Org.go rfl (by kernel_rfl) (by kernel_rfl) (fun K hK => ?_)
          have y0 := HA8.out.cell 0
          have y1 := HA8.out.cell 1
          have y2 := HA8.out.cell 2
          have y3 := HA8.out.cell 3
          have y4 := HA8.out.cell 4
          have y5 := HA8.out.cell 5
          have y6 := HA8.out.cell 6
          have y7 := HA8.out.cell 7
          simp only [List.getElem?_cons_succ, List.getElem?_cons_zero] at y0 y1 y2 y3 y4 y5 y6 y7
          have z0 := HA8.out.frozen 0
          have z1 := HA8.out.frozen 1
          have z2 := HA8.out.frozen 2
          have z3 := HA8.out.frozen 3
          have z4 := HA8.out.frozen 4
          have z5 := HA8.out.frozen 5
          have z6 := HA8.out.frozen 6
          have z7 := HA8.out.frozen 7
          have hg8 := grown8s W5 g8 (.int .i64 m.seq) (.int .i64 m.next) (.int .i64 m.P.K) (.int .i64 m.P.H) (.int .i64 m.P.S) (.int .i64 m.extra) (.slice Ad2 nd2 cd2) (.slice Ao2 no2 co2)
          have HC1 := hid (HC1.out.other hg8 HA8.out (by decide) (by decide))
          have HC2 := hid (HC2.out.other hg8 HA8.out (by decide) (by decide))
          have HA7 := hid (HA7.out.grown hg8 (fun e => by injection e with e; exact HNE.out e))
          have HS3 := hid (hS.grown hg8 hS.size (fun j hj => by injection hj with hj; have := HG8.out; omega))
          have HA8 := hid (row8m HA8.out (.int .i64 m.seq) (.int .i64 m.next) (.int .i64 m.P.K) (.int .i64 m.P.H) (.int .i64 m.P.S) (.int .i64 m.extra) (.slice Ad2 nd2 cd2) (.slice Ao2 no2 co2))
          clear hg8
          go_simp
          refine hK.out _ _ HS3.out (fun hS2 => ?_)
          clear HS3 y0 y1 y2 y3 y4 y5 y6 y7 z0 z1 z2 z3 z4 z5 z6 z7
          generalize ((((((((W5.setCell ⟨g8, 0, none⟩ (.int .i64 m.seq)).setCell ⟨g8, 1, none⟩ (.int .i64 m.next)).setCell ⟨g8, 2, none⟩ (.int .i64 m.P.K)).setCell ⟨g8, 3, none⟩ (.int .i64 m.P.H)).setCell ⟨g8, 4, none⟩ (.int .i64 m.P.S)).setCell ⟨g8, 5, none⟩ (.int .i64 m.extra)).setCell ⟨g8, 6, none⟩ (.slice Ad2 nd2 cd2)).setCell ⟨g8, 7, none⟩ (.slice Ao2 no2 co2)) = W6 at *
          clear hK K hS
          have hS := hS2
          clear hS2
          try simp only [Act.put, List.setIfInBounds_toArray, List.set_cons_zero, List.set_cons_succ]
          refine Org.done (by kernel_rfl) ?_
          have hSE := hS
          clear hS
          go_wp2_with fail
          go_meet
          exact ⟨g7, g8, N1, N2, Ad1, nd1, cd1, Ao1, no1, co1, ts1, Ad2, nd2, cd2, Ao2, no2, co2, ts2, rfl, rfl, ⟨HA7.out, HC1.out, HD1.out⟩, ⟨HA8.out, HC2.out, HD2.out⟩, HNN1.out.1, HLT.out, HNE.out, hSE⟩
      · skip
        go_simp
        obtain ⟨g8, hg8⟩ : ∃ g, W0.heap.size = g := ⟨_, rfl⟩
        have HG8 := hid (show w5.heap.size ≤ g8 by rw [← hg8]; exact hS.size)
        have hA8 := Row.new W0 27 #[.int .i64 0, .int .i64 0, .int .i64 0, .int .i64 0, .int .i64 0, .int .i64 0, .slice none 0 0, .slice none 0 0]
        have hbk : Below W0.heap.size W0 (W0.alloc (.cells #[.int .i64 0, .int .i64 0, .int .i64 0, .int .i64 0, .int .i64 0, .int .i64 0, .slice none 0 0, .slice none 0 0] 27)) := (Below.refl _ _).alloc (Nat.le_refl _) _
        have hS3 := hS.alloc hS.size (.cells #[.int .i64 0, .int .i64 0, .int .i64 0, .int .i64 0, .int .i64 0, .int .i64 0, .slice none 0 0, .slice none 0 0] 27)
        rw [hg8] at hA8 ⊢
        generalize W0.alloc (.cells #[.int .i64 0, .int .i64 0, .int .i64 0, .int .i64 0, .int .i64 0, .int .i64 0, .slice none 0 0, .slice none 0 0] 27) = W1 at *
        have HA8 := hid hA8
        have HOLD8 := hid hA8.lt
        clear hg8 hA8 hbk
        refine hK.out _ _ hS3 (fun hS2 => ?_)
        clear hS3
        clear hK K hS
        have hS := hS2
        clear hS2
        try simp only [Act.put, List.setIfInBounds_toArray, List.set_cons_zero, List.set_cons_succ]
        refine Org.two (i := 1) (j := 4) [] [1, 3, 6, 7] rfl rfl (by kernel_rfl) (by kernel_rfl) (by kernel_rfl) (fun K hK => ?_) (fun K hK => ?_)
        · skip
          go_simp
          go_at_call 13
          refine (copy_any m _ Ad (some ⟨bO, oO, none⟩) nd cd no co ts W1 ((HM5.out.below hS).mono hS.size) (Nat.le_refl _) (by omega) (by omega) HTRI.out).mono ?_
          rintro e W2 ⟨Ad1, nd1, cd1, Ao1, no1, co1, ts1, he, hom1, hdj1, hbk⟩
          unfold Mani.val at he
          subst he
          have HD1 := hid hdj1
          obtain ⟨N1, hN1⟩ : ∃ N, W1.heap.size = N := ⟨_, rfl⟩
          obtain ⟨S1, hS1⟩ : ∃ S, W2.heap.size = S := ⟨_, rfl⟩
          have HNN1 := hid (show w5.heap.size ≤ N1 ∧ N1 ≤ S1 by rw [← hN1, ← hS1]; exact ⟨hS.size, hbk.size⟩)
          have HA8 := hid (HA8.out.below hbk HA8.out.lt)
          rw [hN1] at hom1
          have HC1 := hid hom1
          have HSZ := hid (Nat.le_of_eq hS1.symm)
          have hS3 := hS.trans (hbk.mono hS.size)
          clear hom1 hdj1 hN1 hS1 hbk
          go_wp2_with fail
          refine hK.out _ _ hS3 (fun hS2 => ?_)
          clear hS3
          clear hK K hS
          have hS := hS2
          clear hS2
          try simp only [Act.put, List.setIfInBounds_toArray, List.set_cons_zero, List.set_cons_succ]
          refine Org.two (i := 3) (j := 4) [4, 6, 7] [3, 6, 7] rfl rfl (by kernel_rfl) (by kernel_rfl) (by kernel_rfl) (fun K hK => ?_) (fun K hK => ?_)
          · skip
            go_simp
            go_at_call 13
            refine (copy_any m _ Ad (some ⟨bO, oO, none⟩) nd cd no co ts W2 ((HM5.out.below hS).mono hS.size) (Nat.le_refl _) (by omega) (by omega) HTRI.out).mono ?_
            rintro e W3 ⟨Ad2, nd2, cd2, Ao2, no2, co2, ts2, he, hom2, hdj2, hbk⟩
            unfold Mani.val at he
            subst he
            have HD2 := hid hdj2
            obtain ⟨N2, hN2⟩ : ∃ N, W2.heap.size = N := ⟨_, rfl⟩
            obtain ⟨S2, hS2⟩ : ∃ S, W3.heap.size = S := ⟨_, rfl⟩
            have HNN2 := hid (show w5.heap.size ≤ N2 ∧ N2 ≤ S2 by rw [← hN2, ← hS2]; exact ⟨hS.size, hbk.size⟩)
            have HLT := hid (show N1 ≤ N2 ∧ (∀ i, i < no1 → ∀ b, (ts1.getD i undef).ownBlock = some b → b < N2) ∧ (∀ b, (Value.slice Ad1 nd1 cd1).ownBlock = some b → b < N2) ∧ (∀ b, (Value.slice Ao1 no1 co1).ownBlock = some b → b < N2) by rw [← hN2]; exact ⟨Nat.le_trans HNN1.out.2 HSZ.out, om_lt HC1.out⟩)
            have HSZ := hid (Nat.le_trans HSZ.out hbk.size)
            have HC1 := hid (HC1.out.below hbk)
            have HA8 := hid (HA8.out.below hbk HA8.out.lt)
            rw [hN2] at hom2
            have HC2 := hid hom2
            have hS3 := hS.trans (hbk.mono hS.size)
            clear hom2 hdj2 hN2 hS2 hbk
            go_wp2_with fail
            refine hK.out _ _ hS3 (fun hS2 => ?_)
            clear hS3
            clear hK K hS
            have hS := hS2
            clear hS2
            try simp only [Act.put, List.setIfInBounds_toArray, List.set_cons_zero, List.set_cons_succ]
            refine Org.go rfl (by kernel_rfl) (by kernel_rfl) (fun K hK => ?_)
            go_simp
            obtain ⟨g7, hg7⟩ : ∃ g, W3.heap.size = g := ⟨_, rfl⟩
            have HG7 := hid (show w5.heap.size ≤ g7 by rw [← hg7]; exact hS.size)
            have hA7 := Row.new W3 27 #[.int .i64 0, .int .i64 0, .int .i64 0, .int .i64 0, .int .i64 0, .int .i64 0, .slice none 0 0, .slice none 0 0]
            have hbk : Below W3.heap.size W3 (W3.alloc (.cells #[.int .i64 0, .int .i64 0, .int .i64 0, .int .i64 0, .int .i64 0, .int .i64 0, .slice none 0 0, .slice none 0 0] 27)) := (Below.refl _ _).alloc (Nat.le_refl _) _
            have hS3 := hS.alloc hS.size (.cells #[.int .i64 0, .int .i64 0, .int .i64 0, .int .i64 0, .int .i64 0, .int .i64 0, .slice none 0 0, .slice none 0 0] 27)
            have HNE := hid (show g7 ≠ g8 by have := HA8.out.lt; omega)
            have HSZ := hid (Nat.le_trans HSZ.out hbk.size)
            have HC1 := hid (HC1.out.below hbk)
            have HC2 := hid (HC2.out.below hbk)
            have HA8 := hid (HA8.out.below hbk HA8.out.lt)
            rw [hg7] at hA7 ⊢
            generalize W3.alloc (.cells #[.int .i64 0, .int .i64 0, .int .i64 0, .int .i64 0, .int .i64 0, .int .i64 0, .slice none 0 0, .slice none 0 0] 27) = W4 at *
            have HA7 := hid hA7
            have HOLD7 := hid hA7.lt
            clear hg7 hA7 hbk
            refine hK.out _ _ hS3 (fun hS2 => ?_)
            clear hS3
            clear hK K hS
            have hS := hS2
            clear hS2
            try simp only [Act.put, List.setIfInBounds_toArray, List.set_cons_zero, List.set_cons_succ]
            refine Org.go rfl (by kernel_rfl) (by kernel_rfl) (fun K hK => ?_)
            have y0 := HA7.out.cell 0
            have y1 := HA7.out.cell 1
            have y2 := HA7.out.cell 2
            have y3 := HA7.out.cell 3
            have y4 := HA7.out.cell 4
            have y5 := HA7.out.cell 5
            have y6 := HA7.out.cell 6
            have y7 := HA7.out.cell 7
            simp only [List.getElem?_cons_succ, List.getElem?_cons_zero] at y0 y1 y2 y3 y4 y5 y6 y7
            have z0 := HA7.out.frozen 0
            have z1 := HA7.out.frozen 1
            have z2 := HA7.out.frozen 2
            have z3 := HA7.out.frozen 3
            have z4 := HA7.out.frozen 4
            have z5 := HA7.out.frozen 5
            have z6 := HA7.out.frozen 6
            have z7 := HA7.out.frozen 7
            have hg8 := grown8s W4 g7 (.int .i64 m.seq) (.int .i64 m.next) (.int .i64 m.P.K) (.int .i64 m.P.H) (.int .i64 m.P.S) (.int .i64 m.extra) (.slice Ad1 nd1 cd1) (.slice Ao1 no1 co1)
            have HC1 := hid (HC1.out.other hg8 HA7.out (by decide) (by decide))
            have HC2 := hid (HC2.out.other hg8 HA7.out (by decide) (by decide))
            have HA8 := hid (HA8.out.grown hg8 (fun e => by injection e with e; exact HNE.out e.symm))
            have HS3 := hid (hS.grown hg8 hS.size (fun j hj => by injection hj with hj; have := HG7.out; omega))
            have HA7 := hid (row8m HA7.out (.int .i64 m.seq) (.int .i64 m.next) (.int .i64 m.P.K) (.int .i64 m.P.H) (.int .i64 m.P.S) (.int .i64 m.extra) (.slice Ad1 nd1 cd1) (.slice Ao1 no1 co1))
            clear hg8
            go_simp
            refine hK.out _ _ HS3.out (fun hS2 => ?_)
            clear HS3 y0 y1 y2 y3 y4 y5 y6 y7 z0 z1 z2 z3 z4 z5 z6 z7
            generalize ((((((((W4.setCell ⟨g7, 0, none⟩ (.int .i64 m.seq)).setCell ⟨g7, 1, none⟩ (.int .i64 m.next)).setCell ⟨g7, 2, none⟩ (.int .i64 m.P.K)).setCell ⟨g7, 3, none⟩ (.int .i64 m.P.H)).setCell ⟨g7, 4, none⟩ (.int .i64 m.P.S)).setCell ⟨g7, 5, none⟩ (.int .i64 m.extra)).setCell ⟨g7, 6, none⟩ (.slice Ad1 nd1 cd1)).setCell ⟨g7, 7, none⟩ (.slice Ao1 no1 co1)) = W5 at *
            clear hK K hS
            have hS := hS2
            clear hS2
            try simp only [Act.put, List.setIfInBounds_toArray, List.set_cons_zero, List.set_cons_succ]
            refine Org.go rfl (by kernel_rfl) (by kernel_rfl) (fun K hK => ?_)
            have y0 := HA8.out.cell 0
            have y1 := HA8.out.cell 1
            have y2 := HA8.out.cell 2
            have y3 := HA8.out.cell 3
            have y4 := HA8.out.cell 4
            have y5 := HA8.out.cell 5
            have y6 := HA8.out.cell 6
            have y7 := HA8.out.cell 7
            simp only [List.getElem?_cons_succ, List.getElem?_cons_zero] at y0 y1 y2 y3 y4 y5 y6 y7
            have z0 := HA8.out.frozen 0
            have z1 := HA8.out.frozen 1
            have z2 := HA8.out.frozen 2
            have z3 := HA8.out.frozen 3
            have z4 := HA8.out.frozen 4
            have z5 := HA8.out.frozen 5
            have z6 := HA8.out.frozen 6
            have z7 := HA8.out.frozen 7
            have hg8 := grown8s W5 g8 (.int .i64 m.seq) (.int .i64 m.next) (.int .i64 m.P.K) (.int .i64 m.P.H) (.int .i64 m.P.S) (.int .i64 m.extra) (.slice Ad2 nd2 cd2) (.slice Ao2 no2 co2)
            have HC1 := hid (HC1.out.other hg8 HA8.out (by decide) (by decide))
            have HC2 := hid (HC2.out.other hg8 HA8.out (by decide) (by decide))
            have HA7 := hid (HA7.out.grown hg8 (fun e => by injection e with e; exact HNE.out e))
            have HS3 := hid (hS.grown hg8 hS.size (fun j hj => by injection hj with hj; have := HG8.out; omega))
            have HA8 := hid (row8m HA8.out (.int .i64 m.seq) (.int .i64 m.next) (.int .i64 m.P.K) (.int .i64 m.P.H) (.int .i64 m.P.S) (.int .i64 m.extra) (.slice Ad2 nd2 cd2) (.slice Ao2 no2 co2))
            clear hg8
            go_simp
            refine hK.out _ _ HS3.out (fun hS2 => ?_)
            clear HS3 y0 y1 y2 y3 y4 y5 y6 y7 z0 z1 z2 z3 z4 z5 z6 z7
            generalize ((((((((W5.setCell ⟨g8, 0, none⟩ (.int .i64 m.seq)).setCell ⟨g8, 1, none⟩ (.int .i64 m.next)).setCell ⟨g8, 2, none⟩ (.int .i64 m.P.K)).setCell ⟨g8, 3, none⟩ (.int .i64 m.P.H)).setCell ⟨g8, 4, none⟩ (.int .i64 m.P.S)).setCell ⟨g8, 5, none⟩ (.int .i64 m.extra)).setCell ⟨g8, 6, none⟩ (.slice Ad2 nd2 cd2)).setCell ⟨g8, 7, none⟩ (.slice Ao2 no2 co2)) = W6 at *
            clear hK K hS
            have hS := hS2
            clear hS2
            try simp only [Act.put, List.setIfInBounds_toArray, List.set_cons_zero, List.set_cons_succ]
            refine Org.done (by kernel_rfl) ?_
            have hSE := hS
            clear hS
            go_wp2_with fail
            go_meet
            exact ⟨g7, g8, N1, N2, Ad1, nd1, cd1, Ao1, no1, co1, ts1, Ad2, nd2, cd2, Ao2, no2, co2, ts2, rfl, rfl, ⟨HA7.out, HC1.out, HD1.out⟩, ⟨HA8.out, HC2.out, HD2.out⟩, HNN1.out.1, HLT.out, HNE.out, hSE⟩
          · skip
            go_simp
            obtain ⟨g7, hg7⟩ : ∃ g, W2.heap.size = g := ⟨_, rfl⟩
            have HG7 := hid (show w5.heap.size ≤ g7 by rw [← hg7]; exact hS.size)
            have hA7 := Row.new W2 27 #[.int .i64 0, .int .i64 0, .int .i64 0, .int .i64 0, .int .i64 0, .int .i64 0, .slice none 0 0, .slice none 0 0]
            have hbk : Below W2.heap.size W2 (W2.alloc (.cells #[.int .i64 0, .int .i64 0, .int .i64 0, .int .i64 0, .int .i64 0, .int .i64 0, .slice none 0 0, .slice none 0 0] 27)) := (Below.refl _ _).alloc (Nat.le_refl _) _
            have hS3 := hS.alloc hS.size (.cells #[.int .i64 0, .int .i64 0, .int .i64 0, .int .i64 0, .int .i64 0, .int .i64 0, .slice none 0 0, .slice none 0 0] 27)
            have HNE := hid (show g7 ≠ g8 by have := HA8.out.lt; omega)
            have HSZ := hid (Nat.le_trans HSZ.out hbk.size)
            have HC1 := hid (HC1.out.below hbk)
            have HA8 := hid (HA8.out.below hbk HA8.out.lt)
            rw [hg7] at hA7 ⊢
            generalize W2.alloc (.cells #[.int .i64 0, .int .i64 0, .int .i64 0, .int .i64 0, .int .i64 0, .int .i64 0, .slice none 0 0, .slice none 0 0] 27) = W3 at *
            have HA7 := hid hA7
            have HOLD7 := hid hA7.lt
            clear hg7 hA7 hbk
            refine hK.out _ _ hS3 (fun hS2 => ?_)
            clear hS3
            clear hK K hS
            have hS := hS2
            clear hS2
            try simp only [Act.put, List.setIfInBounds_toArray, List.set_cons_zero, List.set_cons_succ]
            refine Org.go rfl (by kernel_rfl) (by kernel_rfl) (fun K hK => ?_)
            go_simp
            go_at_call 13
            refine (copy_any m _ Ad (some ⟨bO, oO, none⟩) nd cd no co ts W3 ((HM5.out.below hS).mono hS.size) (Nat.le_refl _) (by omega) (by omega) HTRI.out).mono ?_
            rintro e W4 ⟨Ad2, nd2, cd2, Ao2, no2, co2, ts2, he, hom2, hdj2, hbk⟩
            unfold Mani.val at he
            subst he
            have HD2 := hid hdj2
            obtain ⟨N2, hN2⟩ : ∃ N, W3.heap.size = N := ⟨_, rfl⟩
            obtain ⟨S2, hS2⟩ : ∃ S, W4.heap.size = S := ⟨_, rfl⟩
            have HNN2 := hid (show w5.heap.size ≤ N2 ∧ N2 ≤ S2 by rw [← hN2, ← hS2]; exact ⟨hS.size, hbk.size⟩)
            have HLT := hid (show N1 ≤ N2 ∧ (∀ i, i < no1 → ∀ b, (ts1.getD i undef).ownBlock = some b → b < N2) ∧ (∀ b, (Value.slice Ad1 nd1 cd1).ownBlock = some b → b < N2) ∧ (∀ b, (Value.slice Ao1 no1 co1).ownBlock = some b → b < N2) by rw [← hN2]; exact ⟨Nat.le_trans HNN1.out.2 HSZ.out, om_lt HC1.out⟩)
            have HSZ := hid (Nat.le_trans HSZ.out hbk.size)
            have HC1 := hid (HC1.out.below hbk)
            have HA7 := hid (HA7.out.below hbk HA7.out.lt)
            have HA8 := hid (HA8.out.below hbk HA8.out.lt)
            rw [hN2] at hom2
            have HC2 := hid hom2
            have hS3 := hS.trans (hbk.mono hS.size)
            clear hom2 hdj2 hN2 hS2 hbk
            go_wp2_with fail
            refine hK.out _ _ hS3 (fun hS2 => ?_)
            clear hS3
            clear hK K hS
            have hS := hS2
            clear hS2
            try simp only [Act.put, List.setIfInBounds_toArray, List.set_cons_zero, List.set_cons_succ]
            refine Org.go rfl (by kernel_rfl) (by kernel_rfl) (fun K hK => ?_)
            have y0 := HA7.out.cell 0
            have y1 := HA7.out.cell 1
            have y2 := HA7.out.cell 2
            have y3 := HA7.out.cell 3
            have y4 := HA7.out.cell 4
            have y5 := HA7.out.cell 5
            have y6 := HA7.out.cell 6
            have y7 := HA7.out.cell 7
            simp only [List.getElem?_cons_succ, List.getElem?_cons_zero] at y0 y1 y2 y3 y4 y5 y6 y7
            have z0 := HA7.out.frozen 0
            have z1 := HA7.out.frozen 1
            have z2 := HA7.out.frozen 2
            have z3 := HA7.out.frozen 3
            have z4 := HA7.out.frozen 4
            have z5 := HA7.out.frozen 5
            have z6 := HA7.out.frozen 6
            have z7 := HA7.out.frozen 7
            have hg8 := grown8s W4 g7 (.int .i64 m.seq) (.int .i64 m.next) (.int .i64 m.P.K) (.int .i64 m.P.H) (.int .i64 m.P.S) (.int .i64 m.extra) (.slice Ad1 nd1 cd1) (.slice Ao1 no1 co1)
            have HC1 := hid (HC1.out.other hg8 HA7.out (by decide) (by decide))
            have HC2 := hid (HC2.out.other hg8 HA7.out (by decide) (by decide))
            have HA8 := hid (HA8.out.grown hg8 (fun e => by injection e with e; exact HNE.out e.symm))
            have HS3 := hid (hS.grown hg8 hS.size (fun j hj => by injection hj with hj; have := HG7.out; omega))
            have HA7 := hid (row8m HA7.out (.int .i64 m.seq) (.int .i64 m.next) (.int .i64 m.P.K) (.int .i64 m.P.H) (.int .i64 m.P.S) (.int .i64 m.extra) (.slice Ad1 nd1 cd1) (.slice Ao1 no1 co1))
            clear hg8
            go_simp
            refine hK.out _ _ HS3.out (fun hS2 => ?_)
            clear HS3 y0 y1 y2 y3 y4 y5 y6 y7 z0 z1 z2 z3 z4 z5 z6 z7
            generalize ((((((((W4.setCell ⟨g7, 0, none⟩ (.int .i64 m.seq)).setCell ⟨g7, 1, none⟩ (.int .i64 m.next)).setCell ⟨g7, 2, none⟩ (.int .i64 m.P.K)).setCell ⟨g7, 3, none⟩ (.int .i64 m.P.H)).setCell ⟨g7, 4, none⟩ (.int .i64 m.P.S)).setCell ⟨g7, 5, none⟩ (.int .i64 m.extra)).setCell ⟨g7, 6, none⟩ (.slice Ad1 nd1 cd1)).setCell ⟨g7, 7, none⟩ (.slice Ao1 no1 co1)) = W5 at *
            clear hK K hS
            have hS := hS2
            clear hS2
            try simp only [Act.put, List.setIfInBounds_toArray, List.set_cons_zero, List.set_cons_succ]
            refine Org.go rfl (by kernel_rfl) (by kernel_rfl) (fun K hK => ?_)
            have y0 := HA8.out.cell 0
            have y1 := HA8.out.cell 1
            have y2 := HA8.out.cell 2
            have y3 := HA8.out.cell 3
            have y4 := HA8.out.cell 4
            have y5 := HA8.out.cell 5
            have y6 := HA8.out.cell 6
            have y7 := HA8.out.cell 7
            simp only [List.getElem?_cons_succ, List.getElem?_cons_zero] at y0 y1 y2 y3 y4 y5 y6 y7
            have z0 := HA8.out.frozen 0
            have z1 := HA8.out.frozen 1
            have z2 := HA8.out.frozen 2
            have z3 := HA8.out.frozen 3
            have z4 := HA8.out.frozen 4
            have z5 := HA8.out.frozen 5
            have z6 := HA8.out.frozen 6
            have z7 := HA8.out.frozen 7
            have hg8 := grown8s W5 g8 (.int .i64 m.seq) (.int .i64 m.next) (.int .i64 m.P.K) (.int .i64 m.P.H) (.int .i64 m.P.S) (.int .i64 m.extra) (.slice Ad2 nd2 cd2) (.slice Ao2 no2 co2)
            have HC1 := hid (HC1.out.other hg8 HA8.out (by decide) (by decide))
            have HC2 := hid (HC2.out.other hg8 HA8.out (by decide) (by decide))
            have HA7 := hid (HA7.out.grown hg8 (fun e => by injection e with e; exact HNE.out e))
            have HS3 := hid (hS.grown hg8 hS.size (fun j hj => by injection hj with hj; have := HG8.out; omega))
            have HA8 := hid (row8m HA8.out (.int .i64 m.seq) (.int .i64 m.next) (.int .i64 m.P.K) (.int .i64 m.P.H) (.int .i64 m.P.S) (.int .i64 m.extra) (.slice Ad2 nd2 cd2) (.slice Ao2 no2 co2))
            clear hg8
            go_simp
            refine hK.out _ _ HS3.out (fun hS2 => ?_)
            clear HS3 y0 y1 y2 y3 y4 y5 y6 y7 z0 z1 z2 z3 z4 z5 z6 z7
            generalize ((((((((W5.setCell ⟨g8, 0, none⟩ (.int .i64 m.seq)).setCell ⟨g8, 1, none⟩ (.int .i64 m.next)).setCell ⟨g8, 2, none⟩ (.int .i64 m.P.K)).setCell ⟨g8, 3, none⟩ (.int .i64 m.P.H)).setCell ⟨g8, 4, none⟩ (.int .i64 m.P.S)).setCell ⟨g8, 5, none⟩ (.int .i64 m.extra)).setCell ⟨g8, 6, none⟩ (.slice Ad2 nd2 cd2)).setCell ⟨g8, 7, none⟩ (.slice Ao2 no2 co2)) = W6 at *
            clear hK K hS
            have hS := hS2
            clear hS2
            try simp only [Act.put, List.setIfInBounds_toArray, List.set_cons_zero, List.set_cons_succ]
            refine Org.done (by kernel_rfl) ?_
            have hSE := hS
            clear hS
            go_wp2_with fail
            go_meet
            exact ⟨g7, g8, N1, N2, Ad1, nd1, cd1, Ao1, no1, co1, ts1, Ad2, nd2, cd2, Ao2, no2, co2, ts2, rfl, rfl, ⟨HA7.out, HC1.out, HD1.out⟩, ⟨HA8.out, HC2.out, HD2.out⟩, HNN1.out.1, HLT.out, HNE.out, hSE⟩
        · skip
          go_simp
          obtain ⟨g7, hg7⟩ : ∃ g, W1.heap.size = g := ⟨_, rfl⟩
          have HG7 := hid (show w5.heap.size ≤ g7 by rw [← hg7]; exact hS.size)
          have hA7 := Row.new W1 27 #[.int .i64 0, .int .i64 0, .int .i64 0, .int .i64 0, .int .i64 0, .int .i64 0, .slice none 0 0, .slice none 0 0]
          have hbk : Below W1.heap.size W1 (W1.alloc (.cells #[.int .i64 0, .int .i64 0, .int .i64 0, .int .i64 0, .int .i64 0, .int .i64 0, .slice none 0 0, .slice none 0 0] 27)) := (Below.refl _ _).alloc (Nat.le_refl _) _
          have hS3 := hS.alloc hS.size (.cells #[.int .i64 0, .int .i64 0, .int .i64 0, .int .i64 0, .int .i64 0, .int .i64 0, .slice none 0 0, .slice none 0 0] 27)
          have HNE := hid (show g7 ≠ g8 by have := HA8.out.lt; omega)
          have HA8 := hid (HA8.out.below hbk HA8.out.lt)
          rw [hg7] at hA7 ⊢
          generalize W1.alloc (.cells #[.int .i64 0, .int .i64 0, .int .i64 0, .int .i64 0, .int .i64 0, .int .i64 0, .slice none 0 0, .slice none 0 0] 27) = W2 at *
          have HA7 := hid hA7
          have HOLD7 := hid hA7.lt
          clear hg7 hA7 hbk
          refine hK.out _ _ hS3 (fun hS2 => ?_)
          clear hS3
          clear hK K hS
          have hS := hS2
          clear hS2
          try simp only [Act.put, List.setIfInBounds_toArray, List.set_cons_zero, List.set_cons_succ]
          refine Org.go rfl (by kernel_rfl) (by kernel_rfl) (fun K hK => ?_)
          go_simp
          go_at_call 13
          refine (copy_any m _ Ad (some ⟨bO, oO, none⟩) nd cd no co ts W2 ((HM5.out.below hS).mono hS.size) (Nat.le_refl _) (by omega) (by omega) HTRI.out).mono ?_
          rintro e W3 ⟨Ad1, nd1, cd1, Ao1, no1, co1, ts1, he, hom1, hdj1, hbk⟩
          unfold Mani.val at he
          subst he
          have HD1 := hid hdj1
          obtain ⟨N1, hN1⟩ : ∃ N, W2.heap.size = N := ⟨_, rfl⟩
          obtain ⟨S1, hS1⟩ : ∃ S, W3.heap.size = S := ⟨_, rfl⟩
          have HNN1 := hid (show w5.heap.size ≤ N1 ∧ N1 ≤ S1 by rw [← hN1, ← hS1]; exact ⟨hS.size, hbk.size⟩)
          have HA7 := hid (HA7.out.below hbk HA7.out.lt)
          have HA8 := hid (HA8.out.below hbk HA8.out.lt)
          rw [hN1] at hom1
          have HC1 := hid hom1
          have HSZ := hid (Nat.le_of_eq hS1.symm)
          have hS3 := hS.trans (hbk.mono hS.size)
          clear hom1 hdj1 hN1 hS1 hbk
          go_wp2_with fail
          refine hK.out _ _ hS3 (fun hS2 => ?_)
          clear hS3
          clear hK K hS
          have hS := hS2
          clear hS2
          try simp only [Act.put, List.setIfInBounds_toArray, List.set_cons_zero, List.set_cons_succ]
          refine Org.go rfl (by kernel_rfl) (by kernel_rfl) (fun K hK => ?_)
          go_simp
          go_at_call 13
          refine (copy_any m _ Ad (some ⟨bO, oO, none⟩) nd cd no co ts W3 ((HM5.out.below hS).mono hS.size) (Nat.le_refl _) (by omega) (by omega) HTRI.out).mono ?_
          rintro e W4 ⟨Ad2, nd2, cd2, Ao2, no2, co2, ts2, he, hom2, hdj2, hbk⟩
          unfold Mani.val at he
          subst he
          have HD2 := hid hdj2
          obtain ⟨N2, hN2⟩ : ∃ N, W3.heap.size = N := ⟨_, rfl⟩
          obtain ⟨S2, hS2⟩ : ∃ S, W4.heap.size = S := ⟨_, rfl⟩
          have HNN2 := hid (show w5.heap.size ≤ N2 ∧ N2 ≤ S2 by rw [← hN2, ← hS2]; exact ⟨hS.size, hbk.size⟩)
          have HLT := hid (show N1 ≤ N2 ∧ (∀ i, i < no1 → ∀ b, (ts1.getD i undef).ownBlock = some b → b < N2) ∧ (∀ b, (Value.slice Ad1 nd1 cd1).ownBlock = some b → b < N2) ∧ (∀ b, (Value.slice Ao1 no1 co1).ownBlock = some b → b < N2) by rw [← hN2]; exact ⟨Nat.le_trans HNN1.out.2 HSZ.out, om_lt HC1.out⟩)
          have HSZ := hid (Nat.le_trans HSZ.out hbk.size)
          have HC1 := hid (HC1.out.below hbk)
          have HA7 := hid (HA7.out.below hbk HA7.out.lt)
          have HA8 := hid (HA8.out.below hbk HA8.out.lt)
          rw [hN2] at hom2
          have HC2 := hid hom2
          have hS3 := hS.trans (hbk.mono hS.size)
          clear hom2 hdj2 hN2 hS2 hbk
          go_wp2_with fail
          refine hK.out _ _ hS3 (fun hS2 => ?_)
          clear hS3
          clear hK K hS
          have hS := hS2
          clear hS2
          try simp only [Act.put, List.setIfInBounds_toArray, List.set_cons_zero, List.set_cons_succ]
          refine Org.go rfl (by kernel_rfl) (by kernel_rfl) (fun K hK => ?_)
          have y0 := HA7.out.cell 0
          have y1 := HA7.out.cell 1
          have y2 := HA7.out.cell 2
          have y3 := HA7.out.cell 3
          have y4 := HA7.out.cell 4
          have y5 := HA7.out.cell 5
          have y6 := HA7.out.cell 6
          have y7 := HA7.out.cell 7
          simp only [List.getElem?_cons_succ, List.getElem?_cons_zero] at y0 y1 y2 y3 y4 y5 y6 y7
          have z0 := HA7.out.frozen 0
          have z1 := HA7.out.frozen 1
          have z2 := HA7.out.frozen 2
          have z3 := HA7.out.frozen 3
          have z4 := HA7.out.frozen 4
          have z5 := HA7.out.frozen 5
          have z6 := HA7.out.frozen 6
          have z7 := HA7.out.frozen 7
          have hg8 := grown8s W4 g7 (.int .i64 m.seq) (.int .i64 m.next) (.int .i64 m.P.K) (.int .i64 m.P.H) (.int .i64 m.P.S) (.int .i64 m.extra) (.slice Ad1 nd1 cd1) (.slice Ao1 no1 co1)
          have HC1 := hid (HC1.out.other hg8 HA7.out (by decide) (by decide))
          have HC2 := hid (HC2.out.other hg8 HA7.out (by decide) (by decide))
          have HA8 := hid (HA8.out.grown hg8 (fun e => by injection e with e; exact HNE.out e.symm))
          have HS3 := hid (hS.grown hg8 hS.size (fun j hj => by injection hj with hj; have := HG7.out; omega))
          have HA7 := hid (row8m HA7.out (.int .i64 m.seq) (.int .i64 m.next) (.int .i64 m.P.K) (.int .i64 m.P.H) (.int .i64 m.P.S) (.int .i64 m.extra) (.slice Ad1 nd1 cd1) (.slice Ao1 no1 co1))
          clear hg8
          go_simp
          refine hK.out _ _ HS3.out (fun hS2 => ?_)
          clear HS3 y0 y1 y2 y3 y4 y5 y6 y7 z0 z1 z2 z3 z4 z5 z6 z7
          generalize ((((((((W4.setCell ⟨g7, 0, none⟩ (.int .i64 m.seq)).setCell ⟨g7, 1, none⟩ (.int .i64 m.next)).setCell ⟨g7, 2, none⟩ (.int .i64 m.P.K)).setCell ⟨g7, 3, none⟩ (.int .i64 m.P.H)).setCell ⟨g7, 4, none⟩ (.int .i64 m.P.S)).setCell ⟨g7, 5, none⟩ (.int .i64 m.extra)).setCell ⟨g7, 6, none⟩ (.slice Ad1 nd1 cd1)).setCell ⟨g7, 7, none⟩ (.slice Ao1 no1 co1)) = W5 at *
          clear hK K hS
          have hS := hS2
          clear hS2
          try simp only [Act.put, List.setIfInBounds_toArray, List.set_cons_zero, List.set_cons_succ]
          refine Org.go rfl (by kernel_rfl) (by kernel_rfl) (fun K hK => ?_)
          have y0 := HA8.out.cell 0
          have y1 := HA8.out.cell 1
          have y2 := HA8.out.cell 2
          have y3 := HA8.out.cell 3
          have y4 := HA8.out.cell 4
          have y5 := HA8.out.cell 5
          have y6 := HA8.out.cell 6
          have y7 := HA8.out.cell 7
          simp only [List.getElem?_cons_succ, List.getElem?_cons_zero] at y0 y1 y2 y3 y4 y5 y6 y7
          have z0 := HA8.out.frozen 0
          have z1 := HA8.out.frozen 1
          have z2 := HA8.out.frozen 2
          have z3 := HA8.out.frozen 3
          have z4 := HA8.out.frozen 4
          have z5 := HA8.out.frozen 5
          have z6 := HA8.out.frozen 6
          have z7 := HA8.out.frozen 7
          have hg8 := grown8s W5 g8 (.int .i64 m.seq) (.int .i64 m.next) (.int .i64 m.P.K) (.int .i64 m.P.H) (.int .i64 m.P.S) (.int .i64 m.extra) (.slice Ad2 nd2 cd2) (.slice Ao2 no2 co2)
          have HC1 := hid (HC1.out.other hg8 HA8.out (by decide) (by decide))
          have HC2 := hid (HC2.out.other hg8 HA8.out (by decide) (by decide))
          have HA7 := hid (HA7.out.grown hg8 (fun e => by injection e with e; exact HNE.out e))
          have HS3 := hid (hS.grown hg8 hS.size (fun j hj => by injection hj with hj; have := HG8.out; omega))
          have HA8 := hid (row8m HA8.out (.int .i64 m.seq) (.int .i64 m.next) (.int .i64 m.P.K) (.int .i64 m.P.H) (.int .i64 m.P.S) (.int .i64 m.extra) (.slice Ad2 nd2 cd2) (.slice Ao2 no2 co2))
          clear hg8
          go_simp
          refine hK.out _ _ HS3.out (fun hS2 => ?_)
          clear HS3 y0 y1 y2 y3 y4 y5 y6 y7 z0 z1 z2 z3 z4 z5 z6 z7
          generalize ((((((((W5.setCell ⟨g8, 0, none⟩ (.int .i64 m.seq)).setCell ⟨g8, 1, none⟩ (.int .i64 m.next)).setCell ⟨g8, 2, none⟩ (.int .i64 m.P.K)).setCell ⟨g8, 3, none⟩ (.int .i64 m.P.H)).setCell ⟨g8, 4, none⟩ (.int .i64 m.P.S)).setCell ⟨g8, 5, none⟩ (.int .i64 m.extra)).setCell ⟨g8, 6, none⟩ (.slice Ad2 nd2 cd2)).setCell ⟨g8, 7, none⟩ (.slice Ao2 no2 co2)) = W6 at *
          clear hK K hS
          have hS := hS2
          clear hS2
          try simp only [Act.put, List.setIfInBounds_toArray, List.set_cons_zero, List.set_cons_succ]
          refine Org.done (by kernel_rfl) ?_
          have hSE := hS
          clear hS
          go_wp2_with fail
          go_meet
          exact ⟨g7, g8, N1, N2, Ad1, nd1, cd1, Ao1, no1, co1, ts1, Ad2, nd2, cd2, Ao2, no2, co2, ts2, rfl, rfl, ⟨HA7.out, HC1.out, HD1.out⟩, ⟨HA8.out, HC2.out, HD2.out⟩, HNN1.out.1, HLT.out, HNE.out, hSE⟩
    case rest =>
    obtain ⟨g7, g8, N1, N2, Ad1, nd1, cd1, Ao1, no1, co1, ts1, Ad2, nd2, cd2, Ao2, no2, co2, ts2, rfl, rfl, hm1, hm2, hN1, hlt, hne, hbc⟩ := hcut
    obtain rfl : no = no1 := by rw [← hm1.o.ol, HOL.out]
    obtain rfl : no = no2 := by rw [← hm2.o.ol, HOL.out]
    obtain ⟨gO, cur1, rfl, hgO, hr1, hnc1, hcm1, hcur1⟩ := hm1.gO h0
    obtain ⟨At1, ct1, hat1, hot1⟩ := hm1.tries hkn
    have c13 := hcur1 k hkn 3 (by omega)
    rw [hat1, HEE.out, HNT.out] at c13
    rw [HEE.out, HNT.out] at hat1 hot1
    have hn1 := own_cap hot1
    have t1 : wc.cell? ⟨gO, k * 4 + 3, none⟩ = some (.slice At1 nt ct1) := by rw [hr1.cell (k * 4 + 3), c13]; rfl
    have HE1 := hid hm1
    have HE2 := hid hm2
    have HLT := hid hlt
    have HBC := hid hbc
    have HOT1 := hid hot1
    have HAT1 := hid hat1
    have HG7 := hid (show g7 ≠ g8 from hne)
    have HR1 := hid hr1
    have hzc := hbc.size
    have hzN := hm1.x.lt
    have hszN : N1 ≤ wc.heap.size := by have := hr1.lt; omega
    clear x0 x1 x2 x3 x4 x5 x6 x7 hm1 hm2 hlt hbc hot1 hat1 hcur1 c13 hne hr1
    have hzl : (ee.tries ++ [0]).length = nt + 1 := by rw [List.length_append, HNT.out]; rfl
    have HZL := hid hzl
    clear hzl
    skip
    go_wp2_with fail
    refine Org.begin [13] (fun w' => Row w' g7 27 [.int .i64 m.seq, .int .i64 m.next, .int .i64 m.P.K, .int .i64 m.P.H, .int .i64 m.P.S, .int .i64 m.extra, .slice Ad1 nd1 cd1, .slice (some ⟨gO, 0, none⟩) no co1] ∧ w'.cell? ⟨gO, k * 4 + 3, none⟩ = some (.slice At1 nt ct1)) [0, 1, 2, 3, 4, 5, 6, 7, 8, 9, 10, 11, 12, 13] (by kernel_rfl) (⟨HE1.out.x.below (below_drew' (Below.refl _ _)) HE1.out.x.lt, t1⟩) (fun hS => ?_)
    (refine Org.yes (v := ?_) rfl (by kernel_rfl) (by kernel_rfl) (by kernel_rfl) (by kernel_rfl) (by kernel_rfl) (fun _ _ _ h => h) (by kernel_rfl) (SM.of hS) ?_ ?_; rotate_left; (focus (intro w hSw; (try dsimp only at hSw); refine Pure.val ?_; go_simp; (try with_reducible rfl); done)); try simp only [Act.put, List.setIfInBounds_toArray, List.set_cons_zero, List.set_cons_succ])
    (refine Org.yes (v := ?_) rfl (by kernel_rfl) (by kernel_rfl) (by kernel_rfl) (by kernel_rfl) (by kernel_rfl) (fun _ _ _ h => h) (by kernel_rfl) (SM.of hS) ?_ ?_; rotate_left; (focus (intro w hSw; (try dsimp only at hSw); have c7 := hSw.1.cell 7; simp only [List.getElem?_cons_succ, List.getElem?_cons_zero] at c7; refine Pure.val ?_; go_simp; (try with_reducible rfl); done)); try simp only [Act.put, List.setIfInBounds_toArray, List.set_cons_zero, List.set_cons_succ])
    (refine Org.yes (v := ?_) rfl (by kernel_rfl) (by kernel_rfl) (by kernel_rfl) (by kernel_rfl) (by kernel_rfl) (fun _ _ _ h => h) (by kernel_rfl) (SM.of hS) ?_ ?_; rotate_left; (focus (intro w hSw; (try dsimp only at hSw); refine Pure.val ?_; go_simp; (try with_reducible rfl); done)); try simp only [Act.put, List.setIfInBounds_toArray, List.set_cons_zero, List.set_cons_succ])
    (refine Org.yes (v := ?_) rfl (by kernel_rfl) (by kernel_rfl) (by kernel_rfl) (by kernel_rfl) (by kernel_rfl) (fun _ _ _ h => h) (by kernel_rfl) (SM.of hS) ?_ ?_; rotate_left; (focus (intro w hSw; (try dsimp only at hSw); refine Pure.val ?_; go_simp; (try with_reducible rfl); done)); try simp only [Act.put, List.setIfInBounds_toArray, List.set_cons_zero, List.set_cons_succ])
    (refine Org.yes (v := ?_) rfl (by kernel_rfl) (by kernel_rfl) (by kernel_rfl) (by kernel_rfl) (by kernel_rfl) (fun _ _ _ h => h) (by kernel_rfl) (SM.of hS) ?_ ?_; rotate_left; (focus (intro w hSw; (try dsimp only at hSw); have c7 := hSw.1.cell 7; simp only [List.getElem?_cons_succ, List.getElem?_cons_zero] at c7; refine Pure.val ?_; go_simp; (try with_reducible rfl); done)); try simp only [Act.put, List.setIfInBounds_toArray, List.set_cons_zero, List.set_cons_succ])
    (refine Org.yes (v := ?_) rfl (by kernel_rfl) (by kernel_rfl) (by kernel_rfl) (by kernel_rfl) (by kernel_rfl) (fun _ _ _ h => h) (by kernel_rfl) (SM.of hS) ?_ ?_; rotate_left; (focus (intro w hSw; (try dsimp only at hSw); refine Pure.val ?_; go_simp; (try with_reducible rfl); done)); try simp only [Act.put, List.setIfInBounds_toArray, List.set_cons_zero, List.set_cons_succ])
    (refine Org.yes (v := ?_) rfl (by kernel_rfl) (by kernel_rfl) (by kernel_rfl) (by kernel_rfl) (by kernel_rfl) (fun _ _ _ h => h) (by kernel_rfl) (SM.of hS) ?_ ?_; rotate_left; (focus (intro w hSw; (try dsimp only at hSw); refine Pure.val ?_; go_simp; (try with_reducible rfl); done)); try simp only [Act.put, List.setIfInBounds_toArray, List.set_cons_zero, List.set_cons_succ])
    (refine Org.yes (v := ?_) rfl (by kernel_rfl) (by kernel_rfl) (by kernel_rfl) (by kernel_rfl) (by kernel_rfl) (fun _ _ _ h => h) (by kernel_rfl) (SM.of hS) ?_ ?_; rotate_left; (focus (intro w hSw; (try dsimp only at hSw); refine Pure.val ?_; go_simp; (try with_reducible rfl); done)); try simp only [Act.put, List.setIfInBounds_toArray, List.set_cons_zero, List.set_cons_succ])
    (refine Org.yes (v := ?_) rfl (by kernel_rfl) (by kernel_rfl) (by kernel_rfl) (by kernel_rfl) (by kernel_rfl) (fun _ _ _ h => h) (by kernel_rfl) (SM.of hS) ?_ ?_; rotate_left; (focus (intro w hSw; (try dsimp only at hSw); have c3 := hSw.2; refine Pure.val ?_; go_simp; (try with_reducible rfl); done)); try simp only [Act.put, List.setIfInBounds_toArray, List.set_cons_zero, List.set_cons_succ])
    refine Org.go rfl (by kernel_rfl) (by kernel_rfl) (fun K hK => ?_)
    go_simp
    have hbA : Below wc.heap.size wc (wc.alloc (.cells #[.int .i64 0] 3)).drew := below_drew' ((Below.refl _ _).alloc (Nat.le_refl _) _)
    have HBA := hid hbA
    refine hK.out _ _ ⟨HE1.out.x.below hbA HE1.out.x.lt, by rw [hbA.cell (p := ⟨gO, k * 4 + 3, none⟩) HR1.out.lt]; exact t1⟩ (fun hS2 => ?_)
    clear hbA
    clear hK K hS
    have hS := hS2
    clear hS2
    try simp only [Act.put, List.setIfInBounds_toArray, List.set_cons_zero, List.set_cons_succ]
    refine Org.go rfl (by kernel_rfl) (by kernel_rfl) (fun K hK => ?_)
    refine op_append (.tmp 55) (.tmp 56) 24 rfl N1 3 i0 (.int .i64 0) 1 8 Try.underlying24 hi hz0 hz1 hz2 rfl (by omega) (.slice At1 nt ct1) nt (ee.tries.map iv) rfl (own_belowx HOT1.out HBA.out) _ _ 1 1 _ rfl ((Sl.fresh wc [.int .i64 0] 3 (0, 0) 1 rfl).below (below_drew' (Below.refl _ _))) (by simp [Value.oneCell']) (nt + 1) rfl ((ee.tries ++ [0]).map iv) (by simp [iv]) (by omega) (by omega) (Nat.le_trans hszN HBA.out.size) ?_
    intro A8 c8 w8 o8 g8x wh8
    have hem8 := HE1.out.below HBA.out
    have hgt := hem8.growT (k := k) (tv8 := .slice A8 (nt + 1) c8) (z := ee.tries ++ [0]) hkn (by rw [HAT1.out]; exact g8x) ⟨A8, c8, by rw [HZL.out], by rw [HZL.out]; exact o8⟩ (by rw [HAT1.out]; exact wh8)
    obtain ⟨⟨curx, hrx, hlx⟩, hx7, hE9⟩ := hgt
    have hown8 := own_belowx HOT1.out HBA.out
    have hem2 := HE2.out.below HBA.out
    have hb2x := HLT.out.2.1 k hkn
    rw [HAT1.out] at hb2x
    have hne8 := own_ne hown8 hem2.x (by decide)
    have hem3 := hem2.away g8x (fun b hb => ⟨hb2x b hb, fun e => by rcases hne8 with h | h; rw [hb] at h; cases h; exact h (by rw [hb, e])⟩)
    have hE29 := hem3.otherE hrx (fun b hb => by have h1 := (hem3.o.o.own.lt b (by rw [hem3.o.ol] at *; exact hb)).1; have h2 := HLT.out.2.2.2 gO rfl; omega) (k * 4 + 3) (.slice A8 (nt + 1) c8)
    have hB9 := (below_own (HBC.out.trans (HBA.out.mono hzc)) hown8 g8x hN1 (Nat.le_trans hzc HBA.out.size)).setCell (p := (⟨gO, k * 4 + 3, none⟩ : Addr)) (by show w5.heap.size ≤ gO; omega) (.slice A8 (nt + 1) c8)
    have HE19 := hid hE9
    have HE29 := hid hE29
    have HB9 := hid hB9
    have f8 := hrx.frozen (k * 4 + 3)
    have e8 : w8.cell? ⟨gO, k * 4 + 3, none⟩ = some (.slice At1 nt ct1) := by rw [hrx.cell, hlx, HAT1.out]
    have k8 := e8
    refine hK.out _ _ ⟨hx7, e8⟩ (fun hS2 => ?_)
    clear hem8 hown8 hem2 hb2x hne8 hem3 hE9 hE29 hB9 o8 g8x wh8 hx7 e8
    clear hK K hS
    have hS := hS2
    clear hS2
    try simp only [Act.put, List.setIfInBounds_toArray, List.set_cons_zero, List.set_cons_succ]
    (refine Org.free (v := ?_) rfl (by kernel_rfl) (by kernel_rfl) (by kernel_rfl) (by kernel_rfl) (by kernel_rfl) (fun _ _ _ h => h) (by kernel_rfl) (SM.of hS) ?_ ?_; rotate_left; (focus (intro w; refine Pure.val ?_; go_simp; (try with_reducible rfl); done)); try simp only [Act.put, List.setIfInBounds_toArray, List.set_cons_zero, List.set_cons_succ])
    (refine Org.yes (v := ?_) rfl (by kernel_rfl) (by kernel_rfl) (by kernel_rfl) (by kernel_rfl) (by kernel_rfl) (fun _ _ _ h => h) (by kernel_rfl) (SM.of hS) ?_ ?_; rotate_left; (focus (intro w hSw; (try dsimp only at hSw); refine Pure.val ?_; go_simp; (try with_reducible rfl); done)); try simp only [Act.put, List.setIfInBounds_toArray, List.set_cons_zero, List.set_cons_succ])
    refine Org.mark (p := 13) rfl (by kernel_rfl) (by kernel_rfl) (by kernel_rfl) (by kernel_rfl) (fun K hK => ?_)
    go_simp
    refine hK.out _ _ ?_
    clear f8 k8
    generalize w8.setCell ⟨gO, k * 4 + 3, none⟩ (.slice A8 (nt + 1) c8) = w9 at *
    clear hK K hS
    try simp only [Act.put, List.setIfInBounds_toArray, List.set_cons_zero, List.set_cons_succ]
    refine Org.done (by kernel_rfl) ?_
    clear t1
    obtain ⟨m1, hm1⟩ : ∃ m', { m with objs := m.objs.set k { m.objs.getD k default with tries := ee.tries ++ [0] } } = m' := ⟨_, rfl⟩
    rw [hm1] at HE19
    have HM1 : Hid (m1.may = false ∧ M64 m1 ∧ ∀ e ∈ m1.objs, e.name.length ≤ 1048576) := hid (by
      rw [← hm1]
      refine ⟨edit_not (by rw [HOL.out]; exact hkn) ?_, edit_64 (by rw [HOL.out]; exact hkn) H64.out.1 ?_, edit_nm (by rw [HOL.out]; exact hkn) H64.out.2 rfl⟩
      · rw [HEE.out, HZL.out]
        show ((nt + 1 : Nat) : Int) ≠ countP m.P ee.len
        rw [← HCT.out]
        omega
      · rw [HEE.out]
        have h1 := H64.out.1.objs ee (by rw [← HEE.out]; exact getD_mem (by rw [HOL.out]; exact hkn))
        exact ⟨h1.1, h1.2.1, fun z hz => by rcases List.mem_append.1 hz with h | h; exact h1.2.2 z h; rw [List.mem_singleton.1 h]; unfold i64; omega⟩)
    clear hm1
    obtain ⟨gP, cur2, rfl, hgP, hr2, hnc2, hcm2, hcur2⟩ := HE29.out.gO h0
    obtain ⟨At2, ct2, hat2, hot2⟩ := HE29.out.tries hkn
    have c23 := hcur2 k hkn 3 (by omega)
    have c22 := hcur2 k hkn 2 (by omega)
    rw [hat2, HEE.out, HNT.out] at c23
    rw [HEE.out] at c22
    rw [HEE.out, HNT.out] at hat2 hot2
    have hn2 := own_cap hot2
    have t3 : w9.cell? ⟨gP, k * 4 + 3, none⟩ = some (.slice At2 nt ct2) := by rw [hr2.cell (k * 4 + 3), c23]; rfl
    have t2 : w9.cell? ⟨gP, k * 4 + 2, none⟩ = some (.int .i64 ee.len) := by rw [hr2.cell (k * 4 + 2), c22]; rfl
    have f3 := hr2.frozen (k * 4 + 3)
    have f2 := hr2.frozen (k * 4 + 2)
    have z7 := HE29.out.x.cell 7
    simp only [List.getElem?_cons_succ, List.getElem?_cons_zero] at z7
    have HR2 := hid hr2
    have HOT2 := hid hot2
    have HAT2 := hid hat2
    clear hr2 hot2 hat2 hcur2 c23 c22
    obtain ⟨tb, htb⟩ : ∃ t, decide ((nt : Int) > 0) = t := ⟨_, rfl⟩
    have HTB2 := hid htb
    have hhe : ∀ (j : Nat) (u : Value), EM N1 (w9.setCell ⟨gP, k * 4 + j, none⟩ u) g7 m1 Ad1 nd1 cd1 (some ⟨gO, 0, none⟩) no co1 (ts1.set k (.slice A8 (nt + 1) c8)) := fun j u => HE19.out.otherE HR2.out (fun b hb => by have := HLT.out.2.2.2 b hb; omega) (k * 4 + j) u
    have HHE := hid hhe
    have hb9s : ∀ (j : Nat) (u : Value), Below w5.heap.size w5 (w9.setCell ⟨gP, k * 4 + j, none⟩ u) := fun j u => HB9.out.setCell (p := ⟨gP, k * 4 + j, none⟩) (by have := HLT.out.1; show w5.heap.size ≤ gP; omega) u
    have HB9S := hid hb9s
    clear hhe hb9s
    clear htb
    cases tb with
    | true =>
      have htb := HTB2.out
      have hpos : 0 < nt := by have := of_decide_eq_true htb; omega
      obtain ⟨gT, rfl⟩ : ∃ gT, At2 = some ⟨gT, 0, none⟩ := by
        obtain ⟨gT, cTx, curT, eT, _, _, _, _, _, _⟩ := own_rowS HOT2.out hpos
        injection eT with eT
        exact ⟨gT, eT⟩
      have hc20 : ¬ ct2 = 0 := by omega
      have e79 : IntKind.i64.wrap ((nt : Int) - 1) = ((nt - 1 : Nat) : Int) := by rw [IntKind.wrap_i64]; omega
      have hn79 : nt - 1 ≤ ct2 := by omega
      go_wp2_with fail
      have HE2D := hid (HE29.out.below (below_drew' (Below.refl _ _)))
      have HOTD := hid (own_belowx HOT2.out (below_drew' (Below.refl _ _)))
      have HE1D := hid (HE19.out.below (below_drew' (Below.refl _ _)))
      have HRD := hid (HR2.out.below (below_drew' (Below.refl _ _)) HR2.out.lt)
      have HBD := hid (below_drew' HB9.out)
      refine Org.begin [14] (fun w' => w'.cell? ⟨g8, 7, none⟩ = some (.slice (some ⟨gP, 0, none⟩) no co2) ∧ w'.cell? ⟨gP, k * 4 + 3, none⟩ = some (.slice (some ⟨gT, 0, none⟩) nt ct2)) [0, 1, 2, 3, 4, 5, 6, 7, 8, 9, 10, 11, 12, 13, 14] (by kernel_rfl) (⟨z7, t3⟩) (fun hS => ?_)
      generalize w9.drew = w9d at *
      (refine Org.yes (v := ?_) rfl (by kernel_rfl) (by kernel_rfl) (by kernel_rfl) (by kernel_rfl) (by kernel_rfl) (fun _ _ _ h => h) (by kernel_rfl) (SM.of hS) ?_ ?_; rotate_left; (focus (intro w hSw; (try dsimp only at hSw); refine Pure.val ?_; go_simp; (try with_reducible rfl); done)); try simp only [Act.put, List.setIfInBounds_toArray, List.set_cons_zero, List.set_cons_succ])
      (refine Org.yes (v := ?_) rfl (by kernel_rfl) (by kernel_rfl) (by kernel_rfl) (by kernel_rfl) (by kernel_rfl) (fun _ _ _ h => h) (by kernel_rfl) (SM.of hS) ?_ ?_; rotate_left; (focus (intro w hSw; (try dsimp only at hSw); have c7 := hSw.1; refine Pure.val ?_; go_simp; (try with_reducible rfl); done)); try simp only [Act.put, List.setIfInBounds_toArray, List.set_cons_zero, List.set_cons_succ])
      (refine Org.yes (v := ?_) rfl (by kernel_rfl) (by kernel_rfl) (by kernel_rfl) (by kernel_rfl) (by kernel_rfl) (fun _ _ _ h => h) (by kernel_rfl) (SM.of hS) ?_ ?_; rotate_left; (focus (intro w hSw; (try dsimp only at hSw); refine Pure.val ?_; go_simp; (try with_reducible rfl); done)); try simp only [Act.put, List.setIfInBounds_toArray, List.set_cons_zero, List.set_cons_succ])
      (refine Org.yes (v := ?_) rfl (by kernel_rfl) (by kernel_rfl) (by kernel_rfl) (by kernel_rfl) (by kernel_rfl) (fun _ _ _ h => h) (by kernel_rfl) (SM.of hS) ?_ ?_; rotate_left; (focus (intro w hSw; (try dsimp only at hSw); refine Pure.val ?_; go_simp; (try with_reducible rfl); done)); try simp only [Act.put, List.setIfInBounds_toArray, List.set_cons_zero, List.set_cons_succ])
      (refine Org.yes (v := ?_) rfl (by kernel_rfl) (by kernel_rfl) (by kernel_rfl) (by kernel_rfl) (by kernel_rfl) (fun _ _ _ h => h) (by kernel_rfl) (SM.of hS) ?_ ?_; rotate_left; (focus (intro w hSw; (try dsimp only at hSw); have c7 := hSw.1; refine Pure.val ?_; go_simp; (try with_reducible rfl); done)); try simp only [Act.put, List.setIfInBounds_toArray, List.set_cons_zero, List.set_cons_succ])
      (refine Org.yes (v := ?_) rfl (by kernel_rfl) (by kernel_rfl) (by kernel_rfl) (by kernel_rfl) (by kernel_rfl) (fun _ _ _ h => h) (by kernel_rfl) (SM.of hS) ?_ ?_; rotate_left; (focus (intro w hSw; (try dsimp only at hSw); refine Pure.val ?_; go_simp; (try with_reducible rfl); done)); try simp only [Act.put, List.setIfInBounds_toArray, List.set_cons_zero, List.set_cons_succ])
      (refine Org.yes (v := ?_) rfl (by kernel_rfl) (by kernel_rfl) (by kernel_rfl) (by kernel_rfl) (by kernel_rfl) (fun _ _ _ h => h) (by kernel_rfl) (SM.of hS) ?_ ?_; rotate_left; (focus (intro w hSw; (try dsimp only at hSw); refine Pure.val ?_; go_simp; (try with_reducible rfl); done)); try simp only [Act.put, List.setIfInBounds_toArray, List.set_cons_zero, List.set_cons_succ])
      (refine Org.yes (v := ?_) rfl (by kernel_rfl) (by kernel_rfl) (by kernel_rfl) (by kernel_rfl) (by kernel_rfl) (fun _ _ _ h => h) (by kernel_rfl) (SM.of hS) ?_ ?_; rotate_left; (focus (intro w hSw; (try dsimp only at hSw); refine Pure.val ?_; go_simp; (try with_reducible rfl); done)); try simp only [Act.put, List.setIfInBounds_toArray, List.set_cons_zero, List.set_cons_succ])
      (refine Org.yes (v := ?_) rfl (by kernel_rfl) (by kernel_rfl) (by kernel_rfl) (by kernel_rfl) (by kernel_rfl) (fun _ _ _ h => h) (by kernel_rfl) (SM.of hS) ?_ ?_; rotate_left; (focus (intro w hSw; (try dsimp only at hSw); have c3 := hSw.2; refine Pure.val ?_; go_simp; (try with_reducible rfl); done)); try simp only [Act.put, List.setIfInBounds_toArray, List.set_cons_zero, List.set_cons_succ])
      (refine Org.yes (v := ?_) rfl (by kernel_rfl) (by kernel_rfl) (by kernel_rfl) (by kernel_rfl) (by kernel_rfl) (fun _ _ _ h => h) (by kernel_rfl) (SM.of hS) ?_ ?_; rotate_left; (focus (intro w hSw; (try dsimp only at hSw); refine Pure.val ?_; go_simp; (try with_reducible rfl); done)); try simp only [Act.put, List.setIfInBounds_toArray, List.set_cons_zero, List.set_cons_succ])
      (refine Org.yes (v := ?_) rfl (by kernel_rfl) (by kernel_rfl) (by kernel_rfl) (by kernel_rfl) (by kernel_rfl) (fun _ _ _ h => h) (by kernel_rfl) (SM.of hS) ?_ ?_; rotate_left; (focus (intro w hSw; (try dsimp only at hSw); refine Pure.val ?_; go_simp; (try with_reducible rfl); done)); try simp only [Act.put, List.setIfInBounds_toArray, List.set_cons_zero, List.set_cons_succ])
      (refine Org.yes (v := ?_) rfl (by kernel_rfl) (by kernel_rfl) (by kernel_rfl) (by kernel_rfl) (by kernel_rfl) (fun _ _ _ h => h) (by kernel_rfl) (SM.of hS) ?_ ?_; rotate_left; (focus (intro w hSw; (try dsimp only at hSw); refine Pure.val ?_; go_simp; (try with_reducible rfl); done)); try simp only [Act.put, List.setIfInBounds_toArray, List.set_cons_zero, List.set_cons_succ])
      (refine Org.free (v := ?_) rfl (by kernel_rfl) (by kernel_rfl) (by kernel_rfl) (by kernel_rfl) (by kernel_rfl) (fun _ _ _ h => h) (by kernel_rfl) (SM.of hS) ?_ ?_; rotate_left; (focus (intro w; refine Pure.val ?_; go_simp; (try with_reducible rfl); done)); try simp only [Act.put, List.setIfInBounds_toArray, List.set_cons_zero, List.set_cons_succ])
      (refine Org.yes (v := ?_) rfl (by kernel_rfl) (by kernel_rfl) (by kernel_rfl) (by kernel_rfl) (by kernel_rfl) (fun _ _ _ h => h) (by kernel_rfl) (SM.of hS) ?_ ?_; rotate_left; (focus (intro w hSw; (try dsimp only at hSw); refine Pure.val ?_; go_simp; (try with_reducible rfl); done)); try simp only [Act.put, List.setIfInBounds_toArray, List.set_cons_zero, List.set_cons_succ])
      refine Org.mark (p := 14) rfl (by kernel_rfl) (by kernel_rfl) (by kernel_rfl) (by kernel_rfl) (fun K hK => ?_)
      have f8 := HRD.out.frozen (k * 4 + 3)
      have k8 := hS.2
      go_simp
      refine hK.out _ _ ?_
      clear f8 k8
      clear hK K hS
      try simp only [Act.put, List.setIfInBounds_toArray, List.set_cons_zero, List.set_cons_succ]
      refine Org.done (by kernel_rfl) ?_
      have hF := HE2D.out.setE (gO := gP) (k := k) (j := 3) hkn (by omega) (.slice (some ⟨gT, 0, none⟩) (nt - 1) ct2) { m.objs.getD k default with tries := ee.tries.take (nt - 1) } (.slice (some ⟨gT, 0, none⟩) (nt - 1) ct2) rfl
        ⟨some ⟨gT, 0, none⟩, ct2, by rw [List.length_take, HNT.out, Nat.min_eq_left (by omega)], by
          have h1 := own_front (m := nt - 1) HOTD.out (by omega) hpos
          rw [← List.map_take] at h1
          rw [List.length_take, HNT.out, Nat.min_eq_left (by omega)]
          exact h1⟩ (.inl (by rw [HAT2.out]; rfl))
      have hF1 := HE1D.out.otherE HRD.out (fun b hb => by have := HLT.out.2.2.2 b hb; omega) (k * 4 + 3) (.slice (some ⟨gT, 0, none⟩) (nt - 1) ct2)
      have hFB := HBD.out.setCell (p := ⟨gP, k * 4 + 3, none⟩) (by have := HLT.out.1; show w5.heap.size ≤ gP; omega) (.slice (some ⟨gT, 0, none⟩) (nt - 1) ct2)
      obtain ⟨m2, hm2⟩ : ∃ m', { m with objs := m.objs.set k { m.objs.getD k default with tries := ee.tries.take (nt - 1) } } = m' := ⟨_, rfl⟩
      rw [hm2] at hF
      have HM2 : Hid (m2.may = false ∧ M64 m2 ∧ ∀ e ∈ m2.objs, e.name.length ≤ 1048576) := hid (by
        rw [← hm2]
        refine ⟨edit_not (by rw [HOL.out]; exact hkn) ?_, edit_64 (by rw [HOL.out]; exact hkn) H64.out.1 ?_, edit_nm (by rw [HOL.out]; exact hkn) H64.out.2 rfl⟩
        · rw [HEE.out]
          show (((ee.tries.take (nt - 1)).length : Nat) : Int) ≠ countP m.P ee.len
          rw [← HCT.out, List.length_take, HNT.out, Nat.min_eq_left (by omega)]
          omega
        · rw [HEE.out]
          have h1 := H64.out.1.objs ee (by rw [← HEE.out]; exact getD_mem (by rw [HOL.out]; exact hkn))
          exact ⟨h1.1, h1.2.1, fun z hz => h1.2.2 z (List.mem_of_mem_take hz)⟩)
      generalize w9d.setCell ⟨gP, k * 4 + 3, none⟩ (.slice (some ⟨gT, 0, none⟩) (nt - 1) ct2) = v9 at *
      obtain ⟨tsF, htsF⟩ : ∃ t, ts2.set k (.slice (some ⟨gT, 0, none⟩) (nt - 1) ct2) = t := ⟨_, rfl⟩
      rw [htsF] at hF
      clear hm2 htsF e79 hn79 t3 t2 f3 f2 z7 htb
      have HE1F := hid hF1
      have HE2F := hid hF
      have HBF := hid hFB
      clear hF hF1 hFB HE29 HE19 HB9 HHE HB9S
      obtain ⟨tsE, htsE⟩ : ∃ t, ts1.set k (.slice A8 (nt + 1) c8) = t := ⟨_, rfl⟩
      rw [htsE] at HE1F
      clear htsE
      have HRM := hid ((HM5.out.below HBF.out).mono HBF.out.size)
      have HR1 := hid HE1F.out.o.read
      have HRF := hid HE2F.out.o.read
      have HXF := hid (HX5.out.below HBF.out HX5.out.lt)
      have x0 := HXF.out.cell 0
      have x1 := HXF.out.cell 1
      have x2 := HXF.out.cell 2
      have x3 := HXF.out.cell 3
      have x4 := HXF.out.cell 4
      have x5 := HXF.out.cell 5
      have x6 := HXF.out.cell 6
      have x7 := HXF.out.cell 7
      simp only [List.getElem?_cons_succ, List.getElem?_cons_zero] at x0 x1 x2 x3 x4 x5 x6 x7
      have y0 := HE1F.out.x.cell 0
      have y1 := HE1F.out.x.cell 1
      have y2 := HE1F.out.x.cell 2
      have y3 := HE1F.out.x.cell 3
      have y4 := HE1F.out.x.cell 4
      have y5 := HE1F.out.x.cell 5
      have y6 := HE1F.out.x.cell 6
      have y7 := HE1F.out.x.cell 7
      simp only [List.getElem?_cons_succ, List.getElem?_cons_zero] at y0 y1 y2 y3 y4 y5 y6 y7
      have z0 := HE2F.out.x.cell 0
      have z1 := HE2F.out.x.cell 1
      have z2 := HE2F.out.x.cell 2
      have z3 := HE2F.out.x.cell 3
      have z4 := HE2F.out.x.cell 4
      have z5 := HE2F.out.x.cell 5
      have z6 := HE2F.out.x.cell 6
      have z7 := HE2F.out.x.cell 7
      simp only [List.getElem?_cons_succ, List.getElem?_cons_zero] at z0 z1 z2 z3 z4 z5 z6 z7
      go_wp2_with fail
      refine Org.begin [] (fun w' => Below v9.heap.size v9 w') [0, 1, 2, 3, 4, 5, 6, 7, 8, 9, 10, 11, 12, 13, 16, 14, 15, 17, 18, 19, 20, 21, 22, 23, 24, 25] (by kernel_rfl) (below_drew' (Below.refl _ _)) (fun hS => ?_)
      (refine Org.yes (v := ?_) rfl (by kernel_rfl) (by kernel_rfl) (by kernel_rfl) (by kernel_rfl) (by kernel_rfl) (fun _ _ _ h => h) (by kernel_rfl) (SM.of hS) ?_ ?_; rotate_left; (focus (intro w hSw; (try dsimp only at hSw); have qx0 := cell_keep hSw x0; have qx1 := cell_keep hSw x1; have qx2 := cell_keep hSw x2; have qx3 := cell_keep hSw x3; have qx4 := cell_keep hSw x4; have qx5 := cell_keep hSw x5; have qx6 := cell_keep hSw x6; have qx7 := cell_keep hSw x7; refine Pure.val ?_; go_simp; (try with_reducible rfl); done)); try simp only [Act.put, List.setIfInBounds_toArray, List.set_cons_zero, List.set_cons_succ])
      refine Org.go rfl (by kernel_rfl) (by kernel_rfl) (fun K hK => ?_)
      go_simp
      go_at_call 15
      refine (may_any m _ Ad (some ⟨bO, oO, none⟩) nd cd no co ts true _ ((HRM.out.below hS).mono hS.size) (Nat.le_refl _) H64.out.1 H64.out.2 HMAY.out).mono ?_
      rintro e V1 ⟨rfl, hbk⟩
      go_wp2_with fail
      have hS3 := hS.trans (hbk.mono hS.size)
      clear hbk
      refine hK.out _ _ hS3 (fun hS2 => ?_)
      clear hS3
      clear hK K hS
      have hS := hS2
      clear hS2
      try simp only [Act.put, List.setIfInBounds_toArray, List.set_cons_zero, List.set_cons_succ]
      (refine Org.yes (v := ?_) rfl (by kernel_rfl) (by kernel_rfl) (by kernel_rfl) (by kernel_rfl) (by kernel_rfl) (fun _ _ _ h => h) (by kernel_rfl) (SM.of hS) ?_ ?_; rotate_left; (focus (intro w hSw; (try dsimp only at hSw); refine Pure.val ?_; go_simp; (try with_reducible rfl); done)); try simp only [Act.put, List.setIfInBounds_toArray, List.set_cons_zero, List.set_cons_succ])
      (refine Org.yes (v := ?_) rfl (by kernel_rfl) (by kernel_rfl) (by kernel_rfl) (by kernel_rfl) (by kernel_rfl) (fun _ _ _ h => h) (by kernel_rfl) (SM.of hS) ?_ ?_; rotate_left; (focus (intro w hSw; (try dsimp only at hSw); have qy0 := cell_keep hSw y0; have qy1 := cell_keep hSw y1; have qy2 := cell_keep hSw y2; have qy3 := cell_keep hSw y3; have qy4 := cell_keep hSw y4; have qy5 := cell_keep hSw y5; have qy6 := cell_keep hSw y6; have qy7 := cell_keep hSw y7; refine Pure.val ?_; go_simp; (try with_reducible rfl); done)); try simp only [Act.put, List.setIfInBounds_toArray, List.set_cons_zero, List.set_cons_succ])
      refine Org.go rfl (by kernel_rfl) (by kernel_rfl) (fun K hK => ?_)
      go_simp
      go_at_call 15
      refine (may_any m1 _ Ad1 (some ⟨gO, 0, none⟩) nd1 cd1 no co1 tsE false _ ((HR1.out.below hS).mono hS.size) (Nat.le_refl _) HM1.out.2.1 HM1.out.2.2 HM1.out.1).mono ?_
      rintro e V2 ⟨rfl, hbk⟩
      go_wp2_with fail
      have hS3 := hS.trans (hbk.mono hS.size)
      clear hbk
      refine hK.out _ _ hS3 (fun hS2 => ?_)
      clear hS3
      clear hK K hS
      have hS := hS2
      clear hS2
      try simp only [Act.put, List.setIfInBounds_toArray, List.set_cons_zero, List.set_cons_succ]
      (refine Org.yes (v := ?_) rfl (by kernel_rfl) (by kernel_rfl) (by kernel_rfl) (by kernel_rfl) (by kernel_rfl) (fun _ _ _ h => h) (by kernel_rfl) (SM.of hS) ?_ ?_; rotate_left; (focus (intro w hSw; (try dsimp only at hSw); refine Pure.val ?_; go_simp; (try with_reducible rfl); done)); try simp only [Act.put, List.setIfInBounds_toArray, List.set_cons_zero, List.set_cons_succ])
      (refine Org.yes (v := ?_) rfl (by kernel_rfl) (by kernel_rfl) (by kernel_rfl) (by kernel_rfl) (by kernel_rfl) (fun _ _ _ h => h) (by kernel_rfl) (SM.of hS) ?_ ?_; rotate_left; (focus (intro w hSw; (try dsimp only at hSw); refine Pure.val ?_; go_simp; (try with_reducible rfl); done)); try simp only [Act.put, List.setIfInBounds_toArray, List.set_cons_zero, List.set_cons_succ])
      (refine Org.yes (v := ?_) rfl (by kernel_rfl) (by kernel_rfl) (by kernel_rfl) (by kernel_rfl) (by kernel_rfl) (fun _ _ _ h => h) (by kernel_rfl) (SM.of hS) ?_ ?_; rotate_left; (focus (intro w hSw; (try dsimp only at hSw); refine Pure.val ?_; go_simp; (try with_reducible rfl); done)); try simp only [Act.put, List.setIfInBounds_toArray, List.set_cons_zero, List.set_cons_succ])
      (refine Org.yes (v := ?_) rfl (by kernel_rfl) (by kernel_rfl) (by kernel_rfl) (by kernel_rfl) (by kernel_rfl) (fun _ _ _ h => h) (by kernel_rfl) (SM.of hS) ?_ ?_; rotate_left; (focus (intro w hSw; (try dsimp only at hSw); have qz0 := cell_keep hSw z0; have qz1 := cell_keep hSw z1; have qz2 := cell_keep hSw z2; have qz3 := cell_keep hSw z3; have qz4 := cell_keep hSw z4; have qz5 := cell_keep hSw z5; have qz6 := cell_keep hSw z6; have qz7 := cell_keep hSw z7; refine Pure.val ?_; go_simp; (try with_reducible rfl); done)); try simp only [Act.put, List.setIfInBounds_toArray, List.set_cons_zero, List.set_cons_succ])
      refine Org.go rfl (by kernel_rfl) (by kernel_rfl) (fun K hK => ?_)
      go_simp
      go_at_call 15
      refine (may_any m2 _ Ad2 (some ⟨gP, 0, none⟩) nd2 cd2 no co2 tsF false _ ((HRF.out.below hS).mono hS.size) (Nat.le_refl _) HM2.out.2.1 HM2.out.2.2 HM2.out.1).mono ?_
      rintro e V3 ⟨rfl, hbk⟩
      go_wp2_with fail
      have hS3 := hS.trans (hbk.mono hS.size)
      clear hbk
      refine hK.out _ _ hS3 (fun hS2 => ?_)
      clear hS3
      clear hK K hS
      have hS := hS2
      clear hS2
      try simp only [Act.put, List.setIfInBounds_toArray, List.set_cons_zero, List.set_cons_succ]
      (refine Org.yes (v := ?_) rfl (by kernel_rfl) (by kernel_rfl) (by kernel_rfl) (by kernel_rfl) (by kernel_rfl) (fun _ _ _ h => h) (by kernel_rfl) (SM.of hS) ?_ ?_; rotate_left; (focus (intro w hSw; (try dsimp only at hSw); refine Pure.val ?_; go_simp; (try with_reducible rfl); done)); try simp only [Act.put, List.setIfInBounds_toArray, List.set_cons_zero, List.set_cons_succ])
      (refine Org.yes (v := ?_) rfl (by kernel_rfl) (by kernel_rfl) (by kernel_rfl) (by kernel_rfl) (by kernel_rfl) (fun _ _ _ h => h) (by kernel_rfl) (SM.of hS) ?_ ?_; rotate_left; (focus (intro w hSw; (try dsimp only at hSw); refine Pure.val ?_; go_simp; (try with_reducible rfl); done)); try simp only [Act.put, List.setIfInBounds_toArray, List.set_cons_zero, List.set_cons_succ])
      (refine Org.yes (v := ?_) rfl (by kernel_rfl) (by kernel_rfl) (by kernel_rfl) (by kernel_rfl) (by kernel_rfl) (fun _ _ _ h => h) (by kernel_rfl) (SM.of hS) ?_ ?_; rotate_left; (focus (intro w hSw; (try dsimp only at hSw); refine Pure.val ?_; go_simp; (try with_reducible rfl); done)); try simp only [Act.put, List.setIfInBounds_toArray, List.set_cons_zero, List.set_cons_succ])
      (refine Org.yes (v := ?_) rfl (by kernel_rfl) (by kernel_rfl) (by kernel_rfl) (by kernel_rfl) (by kernel_rfl) (fun _ _ _ h => h) (by kernel_rfl) (SM.of hS) ?_ ?_; rotate_left; (focus (intro w hSw; (try dsimp only at hSw); have qy0 := cell_keep hSw y0; have qy1 := cell_keep hSw y1; have qy2 := cell_keep hSw y2; have qy3 := cell_keep hSw y3; have qy4 := cell_keep hSw y4; have qy5 := cell_keep hSw y5; have qy6 := cell_keep hSw y6; have qy7 := cell_keep hSw y7; refine Pure.val ?_; go_simp; (try with_reducible rfl); done)); try simp only [Act.put, List.setIfInBounds_toArray, List.set_cons_zero, List.set_cons_succ])
      (refine Org.yes (v := ?_) rfl (by kernel_rfl) (by kernel_rfl) (by kernel_rfl) (by kernel_rfl) (by kernel_rfl) (fun _ _ _ h => h) (by kernel_rfl) (SM.of hS) ?_ ?_; rotate_left; (focus (intro w hSw; (try dsimp only at hSw); have qz0 := cell_keep hSw z0; have qz1 := cell_keep hSw z1; have qz2 := cell_keep hSw z2; have qz3 := cell_keep hSw z3; have qz4 := cell_keep hSw z4; have qz5 := cell_keep hSw z5; have qz6 := cell_keep hSw z6; have qz7 := cell_keep hSw z7; refine Pure.val ?_; go_simp; (try with_reducible rfl); done)); try simp only [Act.put, List.setIfInBounds_toArray, List.set_cons_zero, List.set_cons_succ])
      refine Org.go rfl (by kernel_rfl) (by kernel_rfl) (fun K hK => ?_)
      go_simp
      go_at_call 18
      refine (pack_any m1 _ Ad1 (some ⟨gO, 0, none⟩) nd1 cd1 no co1 tsE _ ((HR1.out.below hS).mono hS.size) (Nat.le_refl _) HM1.out.2.1 HM1.out.2.2).mono ?_
      rintro e V4 ⟨AV4, nV4, cV4, rfl, hnV4, _, _, hbk⟩
      have hzV4 : nV4 = 0 := by
        rw [← hnV4, pack_nil HM1.out.1]
        rfl
      subst hzV4
      clear hnV4
      go_wp2_with fail
      have hS3 := hS.trans (hbk.mono hS.size)
      clear hbk
      refine hK.out _ _ hS3 (fun hS2 => ?_)
      clear hS3
      clear hK K hS
      have hS := hS2
      clear hS2
      try simp only [Act.put, List.setIfInBounds_toArray, List.set_cons_zero, List.set_cons_succ]
      (refine Org.yes (v := ?_) rfl (by kernel_rfl) (by kernel_rfl) (by kernel_rfl) (by kernel_rfl) (by kernel_rfl) (fun _ _ _ h => h) (by kernel_rfl) (SM.of hS) ?_ ?_; rotate_left; (focus (intro w hSw; (try dsimp only at hSw); refine Pure.val ?_; go_simp; (try with_reducible rfl); done)); try simp only [Act.put, List.setIfInBounds_toArray, List.set_cons_zero, List.set_cons_succ])
      refine Org.go rfl (by kernel_rfl) (by kernel_rfl) (fun K hK => ?_)
      go_simp
      go_at_call 18
      refine (pack_any m2 _ Ad2 (some ⟨gP, 0, none⟩) nd2 cd2 no co2 tsF _ ((HRF.out.below hS).mono hS.size) (Nat.le_refl _) HM2.out.2.1 HM2.out.2.2).mono ?_
      rintro e V5 ⟨AV5, nV5, cV5, rfl, hnV5, _, _, hbk⟩
      have hzV5 : nV5 = 0 := by
        rw [← hnV5, pack_nil HM2.out.1]
        rfl
      subst hzV5
      clear hnV5
      go_wp2_with fail
      have hS3 := hS.trans (hbk.mono hS.size)
      clear hbk
      refine hK.out _ _ hS3 (fun hS2 => ?_)
      clear hS3
      clear hK K hS
      have hS := hS2
      clear hS2
      try simp only [Act.put, List.setIfInBounds_toArray, List.set_cons_zero, List.set_cons_succ]
      (refine Org.yes (v := ?_) rfl (by kernel_rfl) (by kernel_rfl) (by kernel_rfl) (by kernel_rfl) (by kernel_rfl) (fun _ _ _ h => h) (by kernel_rfl) (SM.of hS) ?_ ?_; rotate_left; (focus (intro w hSw; (try dsimp only at hSw); refine Pure.val ?_; go_simp; (try with_reducible rfl); done)); try simp only [Act.put, List.setIfInBounds_toArray, List.set_cons_zero, List.set_cons_succ])
      (refine Org.yes (v := ?_) rfl (by kernel_rfl) (by kernel_rfl) (by kernel_rfl) (by kernel_rfl) (by kernel_rfl) (fun _ _ _ h => h) (by kernel_rfl) (SM.of hS) ?_ ?_; rotate_left; (focus (intro w hSw; (try dsimp only at hSw); refine Pure.val ?_; go_simp; (try with_reducible rfl); done)); try simp only [Act.put, List.setIfInBounds_toArray, List.set_cons_zero, List.set_cons_succ])
      (refine Org.yes (v := ?_) rfl (by kernel_rfl) (by kernel_rfl) (by kernel_rfl) (by kernel_rfl) (by kernel_rfl) (fun _ _ _ h => h) (by kernel_rfl) (SM.of hS) ?_ ?_; rotate_left; (focus (intro w hSw; (try dsimp only at hSw); refine Pure.val ?_; go_simp; (try with_reducible rfl); done)); try simp only [Act.put, List.setIfInBounds_toArray, List.set_cons_zero, List.set_cons_succ])
      (refine Org.yes (v := ?_) rfl (by kernel_rfl) (by kernel_rfl) (by kernel_rfl) (by kernel_rfl) (by kernel_rfl) (fun _ _ _ h => h) (by kernel_rfl) (SM.of hS) ?_ ?_; rotate_left; (focus (intro w hSw; (try dsimp only at hSw); refine Pure.val ?_; go_simp; (try with_reducible rfl); done)); try simp only [Act.put, List.setIfInBounds_toArray, List.set_cons_zero, List.set_cons_succ])
      (refine Org.yes (v := ?_) rfl (by kernel_rfl) (by kernel_rfl) (by kernel_rfl) (by kernel_rfl) (by kernel_rfl) (fun _ _ _ h => h) (by kernel_rfl) (SM.of hS) ?_ ?_; rotate_left; (focus (intro w hSw; (try dsimp only at hSw); refine Pure.val ?_; go_simp; (try with_reducible rfl); done)); try simp only [Act.put, List.setIfInBounds_toArray, List.set_cons_zero, List.set_cons_succ])
      refine Org.go rfl (by kernel_rfl) (by kernel_rfl) (fun K hK => ?_)
      go_simp
      go_at_call 10
      refine (wakes19 _).mono ?_
      rintro e V6 ⟨rfl, hbk⟩
      go_wp2_with fail
      have hS3 := hS.trans (hbk.mono hS.size)
      clear hbk
      refine hK.out _ _ hS3 (fun hS2 => ?_)
      clear hS3
      clear hK K hS
      have hS := hS2
      clear hS2
      try simp only [Act.put, List.setIfInBounds_toArray, List.set_cons_zero, List.set_cons_succ]
      (refine Org.yes (v := ?_) rfl (by kernel_rfl) (by kernel_rfl) (by kernel_rfl) (by kernel_rfl) (by kernel_rfl) (fun _ _ _ h => h) (by kernel_rfl) (SM.of hS) ?_ ?_; rotate_left; (focus (intro w hSw; (try dsimp only at hSw); refine Pure.val ?_; go_simp; (try with_reducible rfl); done)); try simp only [Act.put, List.setIfInBounds_toArray, List.set_cons_zero, List.set_cons_succ])
      (refine Org.yes (v := ?_) rfl (by kernel_rfl) (by kernel_rfl) (by kernel_rfl) (by kernel_rfl) (by kernel_rfl) (fun _ _ _ h => h) (by kernel_rfl) (SM.of hS) ?_ ?_; rotate_left; (focus (intro w hSw; (try dsimp only at hSw); refine Pure.val ?_; go_simp; (try with_reducible rfl); done)); try simp only [Act.put, List.setIfInBounds_toArray, List.set_cons_zero, List.set_cons_succ])
      refine Org.done (by kernel_rfl) ?_
      have hbe := HB5.out.trans ((HBF.out.trans (Below.mono hS HBF.out.size)).mono HB5.out.size)
      go_wp2_with fail
      go_ret
      exact ⟨rfl, hbe⟩
    | false =>
      have htb := HTB2.out
      have hnl : ¬ ((nt : Int) > 0) := of_decide_eq_false htb
      have hnt0 : nt = 0 := by omega
      have HN0 := hid hnt0
      clear hnt0
      go_wp2_with fail
      have hF := HE29.out.setE (gO := gP) (k := k) (j := 2) hkn (by omega) (.int .i64 1) { m.objs.getD k default with len := 1 } (ts2.getD k undef) rfl
        ⟨At2, ct2, by rw [HAT2.out, HEE.out, HNT.out], by rw [HAT2.out, HEE.out, HNT.out]; exact HOT2.out⟩ (.inl rfl)
      have hF1 := HHE.out 2 (.int .i64 1)
      have hFB := HB9S.out 2 (.int .i64 1)
      obtain ⟨m2, hm2⟩ : ∃ m', { m with objs := m.objs.set k { m.objs.getD k default with len := 1 } } = m' := ⟨_, rfl⟩
      rw [hm2] at hF
      have HM2 : Hid (m2.may = false ∧ M64 m2 ∧ ∀ e ∈ m2.objs, e.name.length ≤ 1048576) := hid (by
        rw [← hm2]
        refine ⟨edit_not (by rw [HOL.out]; exact hkn) ?_, edit_64 (by rw [HOL.out]; exact hkn) H64.out.1 ?_, edit_nm (by rw [HOL.out]; exact hkn) H64.out.2 rfl⟩
        · rw [HEE.out]
          show ((ee.tries.length : Nat) : Int) ≠ countP m.P 1
          rw [HNT.out, HN0.out, countP_yes (may_p HMAY.out).P (by omega)]
          simp
        · rw [HEE.out]
          have h1 := H64.out.1.objs ee (by rw [← HEE.out]; exact getD_mem (by rw [HOL.out]; exact hkn))
          exact ⟨h1.1, by unfold i64; show -9223372036854775808 ≤ (1 : Int) ∧ (1 : Int) ≤ 9223372036854775807; omega, h1.2.2⟩)
      generalize w9.setCell ⟨gP, k * 4 + 2, none⟩ (.int .i64 1) = v9 at *
      obtain ⟨tsF, htsF⟩ : ∃ t, ts2.set k (ts2.getD k undef) = t := ⟨_, rfl⟩
      rw [htsF] at hF
      clear hm2 htsF t3 t2 f3 f2 z7 htb
      have HE1F := hid hF1
      have HE2F := hid hF
      have HBF := hid hFB
      clear hF hF1 hFB HE29 HE19 HB9 HHE HB9S
      obtain ⟨tsE, htsE⟩ : ∃ t, ts1.set k (.slice A8 (nt + 1) c8) = t := ⟨_, rfl⟩
      rw [htsE] at HE1F
      clear htsE
      have HRM := hid ((HM5.out.below HBF.out).mono HBF.out.size)
      have HR1 := hid HE1F.out.o.read
      have HRF := hid HE2F.out.o.read
      have HXF := hid (HX5.out.below HBF.out HX5.out.lt)
      have x0 := HXF.out.cell 0
      have x1 := HXF.out.cell 1
      have x2 := HXF.out.cell 2
      have x3 := HXF.out.cell 3
      have x4 := HXF.out.cell 4
      have x5 := HXF.out.cell 5
      have x6 := HXF.out.cell 6
      have x7 := HXF.out.cell 7
      simp only [List.getElem?_cons_succ, List.getElem?_cons_zero] at x0 x1 x2 x3 x4 x5 x6 x7
      have y0 := HE1F.out.x.cell 0
      have y1 := HE1F.out.x.cell 1
      have y2 := HE1F.out.x.cell 2
      have y3 := HE1F.out.x.cell 3
      have y4 := HE1F.out.x.cell 4
      have y5 := HE1F.out.x.cell 5
      have y6 := HE1F.out.x.cell 6
      have y7 := HE1F.out.x.cell 7
      simp only [List.getElem?_cons_succ, List.getElem?_cons_zero] at y0 y1 y2 y3 y4 y5 y6 y7
      have z0 := HE2F.out.x.cell 0
      have z1 := HE2F.out.x.cell 1
      have z2 := HE2F.out.x.cell 2
      have z3 := HE2F.out.x.cell 3
      have z4 := HE2F.out.x.cell 4
      have z5 := HE2F.out.x.cell 5
      have z6 := HE2F.out.x.cell 6
      have z7 := HE2F.out.x.cell 7
      simp only [List.getElem?_cons_succ, List.getElem?_cons_zero] at z0 z1 z2 z3 z4 z5 z6 z7
      go_wp2_with fail
      refine Org.begin [] (fun w' => Below v9.heap.size v9 w') [0, 1, 2, 3, 4, 5, 6, 7, 8, 9, 10, 11, 12, 13, 16, 14, 15, 17, 18, 19, 20, 21, 22, 23, 24, 25] (by kernel_rfl) (below_drew' (Below.refl _ _)) (fun hS => ?_)
      (refine Org.yes (v := ?_) rfl (by kernel_rfl) (by kernel_rfl) (by kernel_rfl) (by kernel_rfl) (by kernel_rfl) (fun _ _ _ h => h) (by kernel_rfl) (SM.of hS) ?_ ?_; rotate_left; (focus (intro w hSw; (try dsimp only at hSw); have qx0 := cell_keep hSw x0; have qx1 := cell_keep hSw x1; have qx2 := cell_keep hSw x2; have qx3 := cell_keep hSw x3; have qx4 := cell_keep hSw x4; have qx5 := cell_keep hSw x5; have qx6 := cell_keep hSw x6; have qx7 := cell_keep hSw x7; refine Pure.val ?_; go_simp; (try with_reducible rfl); done)); try simp only [Act.put, List.setIfInBounds_toArray, List.set_cons_zero, List.set_cons_succ])
      refine Org.go rfl (by kernel_rfl) (by kernel_rfl) (fun K hK => ?_)
      go_simp
      go_at_call 15
      refine (may_any m _ Ad (some ⟨bO, oO, none⟩) nd cd no co ts true _ ((HRM.out.below hS).mono hS.size) (Nat.le_refl _) H64.out.1 H64.out.2 HMAY.out).mono ?_
      rintro e V1 ⟨rfl, hbk⟩
      go_wp2_with fail
      have hS3 := hS.trans (hbk.mono hS.size)
      clear hbk
      refine hK.out _ _ hS3 (fun hS2 => ?_)
      clear hS3
      clear hK K hS
      have hS := hS2
      clear hS2
      try simp only [Act.put, List.setIfInBounds_toArray, List.set_cons_zero, List.set_cons_succ]
      (refine Org.yes (v := ?_) rfl (by kernel_rfl) (by kernel_rfl) (by kernel_rfl) (by kernel_rfl) (by kernel_rfl) (fun _ _ _ h => h) (by kernel_rfl) (SM.of hS) ?_ ?_; rotate_left; (focus (intro w hSw; (try dsimp only at hSw); refine Pure.val ?_; go_simp; (try with_reducible rfl); done)); try simp only [Act.put, List.setIfInBounds_toArray, List.set_cons_zero, List.set_cons_succ])
      (refine Org.yes (v := ?_) rfl (by kernel_rfl) (by kernel_rfl) (by kernel_rfl) (by kernel_rfl) (by kernel_rfl) (fun _ _ _ h => h) (by kernel_rfl) (SM.of hS) ?_ ?_; rotate_left; (focus (intro w hSw; (try dsimp only at hSw); have qy0 := cell_keep hSw y0; have qy1 := cell_keep hSw y1; have qy2 := cell_keep hSw y2; have qy3 := cell_keep hSw y3; have qy4 := cell_keep hSw y4; have qy5 := cell_keep hSw y5; have qy6 := cell_keep hSw y6; have qy7 := cell_keep hSw y7; refine Pure.val ?_; go_simp; (try with_reducible rfl); done)); try simp only [Act.put, List.setIfInBounds_toArray, List.set_cons_zero, List.set_cons_succ])
      refine Org.go rfl (by kernel_rfl) (by kernel_rfl) (fun K hK => ?_)
      go_simp
      go_at_call 15
      refine (may_any m1 _ Ad1 (some ⟨gO, 0, none⟩) nd1 cd1 no co1 tsE false _ ((HR1.out.below hS).mono hS.size) (Nat.le_refl _) HM1.out.2.1 HM1.out.2.2 HM1.out.1).mono ?_
      rintro e V2 ⟨rfl, hbk⟩
      go_wp2_with fail
      have hS3 := hS.trans (hbk.mono hS.size)
      clear hbk
      refine hK.out _ _ hS3 (fun hS2 => ?_)
      clear hS3
      clear hK K hS
      have hS := hS2
      clear hS2
      try simp only [Act.put, List.setIfInBounds_toArray, List.set_cons_zero, List.set_cons_succ]
      (refine Org.yes (v := ?_) rfl (by kernel_rfl) (by kernel_rfl) (by kernel_rfl) (by kernel_rfl) (by kernel_rfl) (fun _ _ _ h => h) (by kernel_rfl) (SM.of hS) ?_ ?_; rotate_left; (focus (intro w hSw; (try dsimp only at hSw); refine Pure.val ?_; go_simp; (try with_reducible rfl); done)); try simp only [Act.put, List.setIfInBounds_toArray, List.set_cons_zero, List.set_cons_succ])
      (refine Org.yes (v := ?_) rfl (by kernel_rfl) (by kernel_rfl) (by kernel_rfl) (by kernel_rfl) (by kernel_rfl) (fun _ _ _ h => h) (by kernel_rfl) (SM.of hS) ?_ ?_; rotate_left; (focus (intro w hSw; (try dsimp only at hSw); refine Pure.val ?_; go_simp; (try with_reducible rfl); done)); try simp only [Act.put, List.setIfInBounds_toArray, List.set_cons_zero, List.set_cons_succ])
      (refine Org.yes (v := ?_) rfl (by kernel_rfl) (by kernel_rfl) (by kernel_rfl) (by kernel_rfl) (by kernel_rfl) (fun _ _ _ h => h) (by kernel_rfl) (SM.of hS) ?_ ?_; rotate_left; (focus (intro w hSw; (try dsimp only at hSw); refine Pure.val ?_; go_simp; (try with_reducible rfl); done)); try simp only [Act.put, List.setIfInBounds_toArray, List.set_cons_zero, List.set_cons_succ])
      (refine Org.yes (v := ?_) rfl (by kernel_rfl) (by kernel_rfl) (by kernel_rfl) (by kernel_rfl) (by kernel_rfl) (fun _ _ _ h => h) (by kernel_rfl) (SM.of hS) ?_ ?_; rotate_left; (focus (intro w hSw; (try dsimp only at hSw); have qz0 := cell_keep hSw z0; have qz1 := cell_keep hSw z1; have qz2 := cell_keep hSw z2; have qz3 := cell_keep hSw z3; have qz4 := cell_keep hSw z4; have qz5 := cell_keep hSw z5; have qz6 := cell_keep hSw z6; have qz7 := cell_keep hSw z7; refine Pure.val ?_; go_simp; (try with_reducible rfl); done)); try simp only [Act.put, List.setIfInBounds_toArray, List.set_cons_zero, List.set_cons_succ])
      refine Org.go rfl (by kernel_rfl) (by kernel_rfl) (fun K hK => ?_)
      go_simp
      go_at_call 15
      refine (may_any m2 _ Ad2 (some ⟨gP, 0, none⟩) nd2 cd2 no co2 tsF false _ ((HRF.out.below hS).mono hS.size) (Nat.le_refl _) HM2.out.2.1 HM2.out.2.2 HM2.out.1).mono ?_
      rintro e V3 ⟨rfl, hbk⟩
      go_wp2_with fail
      have hS3 := hS.trans (hbk.mono hS.size)
      clear hbk
      refine hK.out _ _ hS3 (fun hS2 => ?_)
      clear hS3
      clear hK K hS
      have hS := hS2
      clear hS2
      try simp only [Act.put, List.setIfInBounds_toArray, List.set_cons_zero, List.set_cons_succ]
      (refine Org.yes (v := ?_) rfl (by kernel_rfl) (by kernel_rfl) (by kernel_rfl) (by kernel_rfl) (by kernel_rfl) (fun _ _ _ h => h) (by kernel_rfl) (SM.of hS) ?_ ?_; rotate_left; (focus (intro w hSw; (try dsimp only at hSw); refine Pure.val ?_; go_simp; (try with_reducible rfl); done)); try simp only [Act.put, List.setIfInBounds_toArray, List.set_cons_zero, List.set_cons_succ])
      (refine Org.yes (v := ?_) rfl (by kernel_rfl) (by kernel_rfl) (by kernel_rfl) (by kernel_rfl) (by kernel_rfl) (fun _ _ _ h => h) (by kernel_rfl) (SM.of hS) ?_ ?_; rotate_left; (focus (intro w hSw; (try dsimp only at hSw); refine Pure.val ?_; go_simp; (try with_reducible rfl); done)); try simp only [Act.put, List.setIfInBounds_toArray, List.set_cons_zero, List.set_cons_succ])
      (refine Org.yes (v := ?_) rfl (by kernel_rfl) (by kernel_rfl) (by kernel_rfl) (by kernel_rfl) (by kernel_rfl) (fun _ _ _ h => h) (by kernel_rfl) (SM.of hS) ?_ ?_; rotate_left; (focus (intro w hSw; (try dsimp only at hSw); refine Pure.val ?_; go_simp; (try with_reducible rfl); done)); try simp only [Act.put, List.setIfInBounds_toArray, List.set_cons_zero, List.set_cons_succ])
      (refine Org.yes (v := ?_) rfl (by kernel_rfl) (by kernel_rfl) (by kernel_rfl) (by kernel_rfl) (by kernel_rfl) (fun _ _ _ h => h) (by kernel_rfl) (SM.of hS) ?_ ?_; rotate_left; (focus (intro w hSw; (try dsimp only at hSw); have qy0 := cell_keep hSw y0; have qy1 := cell_keep hSw y1; have qy2 := cell_keep hSw y2; have qy3 := cell_keep hSw y3; have qy4 := cell_keep hSw y4; have qy5 := cell_keep hSw y5; have qy6 := cell_keep hSw y6; have qy7 := cell_keep hSw y7; refine Pure.val ?_; go_simp; (try with_reducible rfl); done)); try simp only [Act.put, List.setIfInBounds_toArray, List.set_cons_zero, List.set_cons_succ])
      (refine Org.yes (v := ?_) rfl (by kernel_rfl) (by kernel_rfl) (by kernel_rfl) (by kernel_rfl) (by kernel_rfl) (fun _ _ _ h => h) (by kernel_rfl) (SM.of hS) ?_ ?_; rotate_left; (focus (intro w hSw; (try dsimp only at hSw); have qz0 := cell_keep hSw z0; have qz1 := cell_keep hSw z1; have qz2 := cell_keep hSw z2; have qz3 := cell_keep hSw z3; have qz4 := cell_keep hSw z4; have qz5 := cell_keep hSw z5; have qz6 := cell_keep hSw z6; have qz7 := cell_keep hSw z7; refine Pure.val ?_; go_simp; (try with_reducible rfl); done)); try simp only [Act.put, List.setIfInBounds_toArray, List.set_cons_zero, List.set_cons_succ])
      refine Org.go rfl (by kernel_rfl) (by kernel_rfl) (fun K hK => ?_)
      go_simp
      go_at_call 18
      refine (pack_any m1 _ Ad1 (some ⟨gO, 0, none⟩) nd1 cd1 no co1 tsE _ ((HR1.out.below hS).mono hS.size) (Nat.le_refl _) HM1.out.2.1 HM1.out.2.2).mono ?_
      rintro e V4 ⟨AV4, nV4, cV4, rfl, hnV4, _, _, hbk⟩
      have hzV4 : nV4 = 0 := by
        rw [← hnV4, pack_nil HM1.out.1]
        rfl
      subst hzV4
      clear hnV4
      go_wp2_with fail
      have hS3 := hS.trans (hbk.mono hS.size)
      clear hbk
      refine hK.out _ _ hS3 (fun hS2 => ?_)
      clear hS3
      clear hK K hS
      have hS := hS2
      clear hS2
      try simp only [Act.put, List.setIfInBounds_toArray, List.set_cons_zero, List.set_cons_succ]
      (refine Org.yes (v := ?_) rfl (by kernel_rfl) (by kernel_rfl) (by kernel_rfl) (by kernel_rfl) (by kernel_rfl) (fun _ _ _ h => h) (by kernel_rfl) (SM.of hS) ?_ ?_; rotate_left; (focus (intro w hSw; (try dsimp only at hSw); refine Pure.val ?_; go_simp; (try with_reducible rfl); done)); try simp only [Act.put, List.setIfInBounds_toArray, List.set_cons_zero, List.set_cons_succ])
      refine Org.go rfl (by kernel_rfl) (by kernel_rfl) (fun K hK => ?_)
      go_simp
      go_at_call 18
      refine (pack_any m2 _ Ad2 (some ⟨gP, 0, none⟩) nd2 cd2 no co2 tsF _ ((HRF.out.below hS).mono hS.size) (Nat.le_refl _) HM2.out.2.1 HM2.out.2.2).mono ?_
      rintro e V5 ⟨AV5, nV5, cV5, rfl, hnV5, _, _, hbk⟩
      have hzV5 : nV5 = 0 := by
        rw [← hnV5, pack_nil HM2.out.1]
        rfl
      subst hzV5
      clear hnV5
      go_wp2_with fail
      have hS3 := hS.trans (hbk.mono hS.size)
      clear hbk
      refine hK.out _ _ hS3 (fun hS2 => ?_)
      clear hS3
      clear hK K hS
      have hS := hS2
      clear hS2
      try simp only [Act.put, List.setIfInBounds_toArray, List.set_cons_zero, List.set_cons_succ]
      (refine Org.yes (v := ?_) rfl (by kernel_rfl) (by kernel_rfl) (by kernel_rfl) (by kernel_rfl) (by kernel_rfl) (fun _ _ _ h => h) (by kernel_rfl) (SM.of hS) ?_ ?_; rotate_left; (focus (intro w hSw; (try dsimp only at hSw); refine Pure.val ?_; go_simp; (try with_reducible rfl); done)); try simp only [Act.put, List.setIfInBounds_toArray, List.set_cons_zero, List.set_cons_succ])
      (refine Org.yes (v := ?_) rfl (by kernel_rfl) (by kernel_rfl) (by kernel_rfl) (by kernel_rfl) (by kernel_rfl) (fun _ _ _ h => h) (by kernel_rfl) (SM.of hS) ?_ ?_; rotate_left; (focus (intro w hSw; (try dsimp only at hSw); refine Pure.val ?_; go_simp; (try with_reducible rfl); done)); try simp only [Act.put, List.setIfInBounds_toArray, List.set_cons_zero, List.set_cons_succ])
      (refine Org.yes (v := ?_) rfl (by kernel_rfl) (by kernel_rfl) (by kernel_rfl) (by kernel_rfl) (by kernel_rfl) (fun _ _ _ h => h) (by kernel_rfl) (SM.of hS) ?_ ?_; rotate_left; (focus (intro w hSw; (try dsimp only at hSw); refine Pure.val ?_; go_simp; (try with_reducible rfl); done)); try simp only [Act.put, List.setIfInBounds_toArray, List.set_cons_zero, List.set_cons_succ])
      (refine Org.yes (v := ?_) rfl (by kernel_rfl) (by kernel_rfl) (by kernel_rfl) (by kernel_rfl) (by kernel_rfl) (fun _ _ _ h => h) (by kernel_rfl) (SM.of hS) ?_ ?_; rotate_left; (focus (intro w hSw; (try dsimp only at hSw); refine Pure.val ?_; go_simp; (try with_reducible rfl); done)); try simp only [Act.put, List.setIfInBounds_toArray, List.set_cons_zero, List.set_cons_succ])
      (refine Org.yes (v := ?_) rfl (by kernel_rfl) (by kernel_rfl) (by kernel_rfl) (by kernel_rfl) (by kernel_rfl) (fun _ _ _ h => h) (by kernel_rfl) (SM.of hS) ?_ ?_; rotate_left; (focus (intro w hSw; (try dsimp only at hSw); refine Pure.val ?_; go_simp; (try with_reducible rfl); done)); try simp only [Act.put, List.setIfInBounds_toArray, List.set_cons_zero, List.set_cons_succ])
      refine Org.go rfl (by kernel_rfl) (by kernel_rfl) (fun K hK => ?_)
      go_simp
      go_at_call 10
      refine (wakes19 _).mono ?_
      rintro e V6 ⟨rfl, hbk⟩
      go_wp2_with fail
      have hS3 := hS.trans (hbk.mono hS.size)
      clear hbk
      refine hK.out _ _ hS3 (fun hS2 => ?_)
      clear hS3
      clear hK K hS
      have hS := hS2
      clear hS2
      try simp only [Act.put, List.setIfInBounds_toArray, List.set_cons_zero, List.set_cons_succ]
      (refine Org.yes (v := ?_) rfl (by kernel_rfl) (by kernel_rfl) (by kernel_rfl) (by kernel_rfl) (by kernel_rfl) (fun _ _ _ h => h) (by kernel_rfl) (SM.of hS) ?_ ?_; rotate_left; (focus (intro w hSw; (try dsimp only at hSw); refine Pure.val ?_; go_simp; (try with_reducible rfl); done)); try simp only [Act.put, List.setIfInBounds_toArray, List.set_cons_zero, List.set_cons_succ])
      (refine Org.yes (v := ?_) rfl (by kernel_rfl) (by kernel_rfl) (by kernel_rfl) (by kernel_rfl) (by kernel_rfl) (fun _ _ _ h => h) (by kernel_rfl) (SM.of hS) ?_ ?_; rotate_left; (focus (intro w hSw; (try dsimp only at hSw); refine Pure.val ?_; go_simp; (try with_reducible rfl); done)); try simp only [Act.put, List.setIfInBounds_toArray, List.set_cons_zero, List.set_cons_succ])
      refine Org.done (by kernel_rfl) ?_
      have hbe := HB5.out.trans ((HBF.out.trans (Below.mono hS HBF.out.size)).mono HB5.out.size)
      go_wp2_with fail
      go_ret
      exact ⟨rfl, hbe⟩
end Go.Proofs.Ytceonkohidcdoaa
