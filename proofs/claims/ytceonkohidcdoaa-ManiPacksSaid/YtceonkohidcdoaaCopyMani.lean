/- A manifest in other memory. -/
import Derived.Test.YtceonkohidcdoaaST
import Derived.Test.YtceonkohidcdoaaParse
import Derived.Test.YtceonkohidcdoaaDj
namespace Go.Proofs.Ytceonkohidcdoaa
open Go.RowKit Wells
theorem Sl.fresh4z (w : World) (N : Nat) (cs : List Value) (t : TypeId) (hm : cs.length = 4) (hN : w.heap.size = N) : Sl (w.alloc (.cells cs.toArray t (0, 0))) (N + 1) 4 (some ⟨N, 0, none⟩) 1 cs := by
  subst hN
  exact Sl.fresh4m w cs t hm
theorem ivs_one (l : List Int) : ∀ v ∈ l.map iv, v.oneCell' = true := by
  intro v hv
  obtain ⟨b, _, rfl⟩ := List.mem_map.1 hv
  rfl
/-- the objects' cell made empty -/
theorem ST.first {m : Mani} {w wx : World} {g0 gm : Nat} {Ad : Option Addr} {nd cd : Nat} {ds : List Int} {dv ov : Value}
    (hq : Row wx g0 27 [.int .i64 0, .int .i64 0, .int .i64 0, .int .i64 0, .int .i64 0, .int .i64 0, .slice none 0 0, .slice none 0 0])
    (hx : Row wx gm 27 [.int .i64 m.seq, .int .i64 m.next, .int .i64 m.P.K, .int .i64 m.P.H, .int .i64 m.P.S, .int .i64 m.extra, dv, ov])
    (hd : wx.ownsRow w.heap.size 3 1 (.slice Ad nd cd) nd (ds.map iv)) (hb : Below w.heap.size w wx) (hne : gm ≠ g0) (hgm : w.heap.size ≤ gm) :
    ST w ((wx.setCell ⟨gm, 6, none⟩ (.slice Ad nd cd)).setCell ⟨gm, 7, none⟩ (.slice none 0 0)) g0 gm m.seq m.next m.P m.extra Ad nd cd ds none 0 0 [] [] := by
  have hx6 := hx.set 6 (.slice Ad nd cd)
  have hd6 := hd.far_ hx (by decide) 6 (.slice Ad nd cd)
  have hq6 := hq.far (p := ⟨gm, 6, none⟩) hne.symm (.slice Ad nd cd)
  have hb6 := hb.setCell (p := (⟨gm, 6, none⟩ : Addr)) hgm (.slice Ad nd cd)
  exact ⟨hq6.far (p := ⟨gm, 7, none⟩) hne.symm _, hx6.set 7 _, hd6.far_ hx6 (by decide) 7 _, OEs.nil_ _ _, rfl, hb6.setCell (p := (⟨gm, 7, none⟩ : Addr)) hgm _⟩
def CopyR (w : World) (m : Mani) (e : Ending) (w' : World) : Prop :=
  ∃ (Ad : Option Addr) (nd cd : Nat) (Ao : Option Addr) (no co : Nat) (ts : List Value), e = .returned (m.val (.slice Ad nd cd) (.slice Ao no co)) ∧ OM w.heap.size w' m Ad nd cd Ao no co ts ∧ Dj ts (.slice Ad nd cd) no ∧ Below w.heap.size w w'
set_option maxRecDepth 20000 in
set_option maxHeartbeats 8000000 in
theorem copy_any (m : Mani) (B : Nat) (Ad Ao : Option Addr) (nd cd no co : Nat) (ts : List Value) (w : World) (h : RM w B m Ad nd cd Ao no co ts) (hB : B ≤ w.heap.size) (hnd : nd ≤ 1048576) (hno : no ≤ 1048576) (hnt : ∀ e ∈ m.objs, e.tries.length ≤ 1048576) :
    Calls Try.prog 13 #[m.val (.slice Ad nd cd) (.slice Ao no co)] w (CopyR w m) := by
  obtain ⟨i0, hi, hz0, hz1, hz2⟩ := info_parts infoI2
  obtain ⟨i1, hi', hz0', hz1', hz2'⟩ := info_parts infoE
  have HR := hid h
  have HNT := hid hnt
  have hol := h.o.len
  have HOL := hid hol
  have hx0 := Row.new w 27 #[.int .i64 m.seq, .int .i64 m.next, .int .i64 m.P.K, .int .i64 m.P.H, .int .i64 m.P.S, .int .i64 m.extra, .slice Ad nd cd, .slice Ao no co]
  have hb1 : Below w.heap.size w (w.alloc (maniObj 27 m (.slice Ad nd cd) (.slice Ao no co))) := (Below.refl _ _).alloc (Nat.le_refl _) _
  have hx1 := hx0.alloc (.cells #[.int .i64 0, .int .i64 0, .int .i64 0, .int .i64 0, .int .i64 0, .int .i64 0, .slice none 0 0, .slice none 0 0] 27)
  have hq1 := Row.new (w.alloc (maniObj 27 m (.slice Ad nd cd) (.slice Ao no co))) 27 #[.int .i64 0, .int .i64 0, .int .i64 0, .int .i64 0, .int .i64 0, .int .i64 0, .slice none 0 0, .slice none 0 0]
  have hb2 := hb1.alloc hb1.size (.cells #[.int .i64 0, .int .i64 0, .int .i64 0, .int .i64 0, .int .i64 0, .int .i64 0, .slice none 0 0, .slice none 0 0] 27)
  have hgs : (w.alloc (maniObj 27 m (.slice Ad nd cd) (.slice Ao no co))).heap.size = w.heap.size + 1 := by simp
  rw [hgs] at hq1
  clear hx0 hb1 hgs h hnt hol
  unfold Mani.val
  go_enter Try.func13, Try.ntmps13
  have HD := hid ((HR.out.d.below (hb2.mono hB)))
  have HX1 := hid hx1
  have HQ1 := hid hq1
  have HB2 := hid hb2
  have hbz := hb2.size
  have hdl := HR.out.dl
  have HDLN := hid hdl
  clear hx1 hq1 hb2 hdl
  go_wp2_with (at_builtin; go_must (refine wpl_append rfl (.const (.slice none 0 0)) (.tmp 7) 24 rfl w.heap.size 3 i0 (.int .i64 0) 1 8 Try.underlying24 hi hz0 hz1 hz2 rfl (by omega) _ 0 [] rfl (World.ownsRow_nil _ _ _ _) B Ad nd cd (m.drives.map iv) rfl HD.out (ivs_one _) nd (by omega) (m.drives.map iv) rfl (by omega) (by omega) hbz ?_); intro A3 c3 w3 o3 g3 _; have hx3 := HX1.out.grown g3 (fun e => by cases e); have hq3 := HQ1.out.grown g3 (fun e => by cases e); have hb3 := HB2.out.grown g3 HB2.out.size (fun k hk => by cases hk); have HST3 := hid (ST.first (m := m) hq3 hx3 o3 hb3 (by omega) (Nat.le_refl _)); have f6 := hx3.frozen 6; have k6 := hx3.cell 6; have hx6 := hx3.set 6 (.slice A3 nd c3); have f7 := hx6.frozen 7; have k7 := hx6.cell 7; simp only [List.getElem?_cons_succ, List.getElem?_cons_zero, List.set_cons_succ, List.set_cons_zero] at k6 k7; clear hx3 hq3 hb3 hx6 o3 g3)
  have hbw := HST3.out.be
  go_loopw [15] (fun i wr => ∃ (k : Nat) (A1 : Option Addr) (c1 : Nat) (tvs : List Value), k ≤ no ∧ i = .int .i64 (k : Int) ∧ ST w wr (w.heap.size + 1) w.heap.size m.seq m.next m.P m.extra A3 nd c3 m.drives A1 k c1 tvs (m.objs.take k) ∧ Dj tvs (.slice A3 nd c3) k) (fun i _ => no - (intOf i).toNat)
  case atStart => exact ⟨0, none, 0, [], Nat.zero_le _, rfl, HST3.out, Dj.nil_ _⟩
  case round =>
    obtain ⟨k, A1, c1, tvs, hk, rfl, hst, hdj⟩ := hrel
    have HDJ := hid hdj
    clear hdj
    have hbr := hst.be
    have hzr := hbr.size
    have HST := hid hst
    clear HST3 f6 k6 f7 k7 hst
    by_cases hlt : k < no
    · have hre := HR.out.o.below (hbr.mono hB)
      obtain ⟨bb, o, A', c', rfl, hbb, e0, e1, e2, e3, hc1, hc2, hsl⟩ := hre.get hlt
      have hkl : k < m.objs.length := by rw [HOL.out]; exact hlt
      have hmem : m.objs.getD k default ∈ m.objs := by rw [List.getD_eq_getElem?_getD, List.getElem?_eq_getElem hkl]; exact List.getElem_mem _
      have htk : m.objs.take (k + 1) = m.objs.take k ++ [m.objs.getD k default] := by
        rw [List.take_succ_eq_append_getElem hkl, List.getD_eq_getElem?_getD, List.getElem?_eq_getElem hkl]
        rfl
      have hnx := HNT.out _ hmem
      obtain ⟨x, hx⟩ : ∃ x, m.objs.getD k default = x := ⟨_, rfl⟩
      rw [hx] at e0 e1 e2 e3 hc1 hsl htk hnx
      obtain ⟨nt, hnt⟩ : ∃ n, x.tries.length = n := ⟨_, rfl⟩
      rw [hnt] at e3 hc1 hsl hnx
      have HNT2 := hid hnt
      have HTK := hid htk
      have hxe := Row.new wr 52 #[.string (strB x.name), .int .i64 x.obj, .int .i64 x.len, .slice A' nt c']
      have hbx : Below wr.heap.size wr (wr.alloc (.cells #[.string (strB x.name), .int .i64 x.obj, .int .i64 x.len, .slice A' nt c'] 52)) := (Below.refl _ _).alloc (Nat.le_refl _) _
      have HXE := hid hxe
      have HBX := hid hbx
      have HSLX := hid (hsl.below (hbx.mono (Nat.le_trans hB hzr)))
      have hz9 : w.heap.size ≤ (wr.alloc (.cells #[.string (strB x.name), .int .i64 x.obj, .int .i64 x.len, .slice A' nt c'] 52)).heap.size := Nat.le_trans hzr hbx.size
      have hgm : w.heap.size + 1 < wr.heap.size := HST.out.q.lt
      have HTL := hid (show tvs.length = k from HST.out.o.tl.trans (by rw [List.length_take]; omega))
      have HDLT := hid (fun b hb => (HST.out.d.lt b hb).2)
      have HTLT : Hid (∀ i, i < k → ∀ b, (tvs.getD i undef).ownBlock = some b → b < wr.heap.size) := hid (fun i hi2 b hb2 => by
        obtain ⟨A9, c9, e9, ho9⟩ := HST.out.o.at_ i (by rw [HST.out.ol]; exact hi2)
        rw [e9] at hb2
        exact (ho9.lt b hb2).2)
      clear hre hmem hx hnt htk hsl hxe hbx
      go_wp2_with (first
        | ((with_reducible show wpList _ _ _ (⟨some 21, _, _, _, _, _⟩ :: _) _ _); go_must (refine wpl_append rfl (.const (.slice none 0 0)) (.tmp 20) 24 rfl w.heap.size 3 i0 (.int .i64 0) 1 8 Try.underlying24 hi hz0 hz1 hz2 rfl (by omega) (.slice none 0 0) 0 [] rfl (World.ownsRow_nil _ _ _ _) B A' nt c' (x.tries.map iv) rfl HSLX.out (ivs_one _) nt (by omega) (x.tries.map iv) rfl (by omega) (by omega) hz9 ?_); intro A6 c6 w6 o6 g6 wh6; have HDJ2 := hid (HDJ.out.push (tv := .slice A6 nt c6) (N := wr.heap.size) HTL.out HTLT.out HDLT.out (by rcases wh6 with h6 | h6; exact .inl (h6.trans rfl); exact .inr ⟨_, h6, HBX.out.size⟩)); clear wh6; have hb6 := HBX.out.trans (((Below.refl _ _).grown g6 (Nat.le_refl _) (fun k hk => by cases hk)).mono HBX.out.size); have hx6 := HXE.out.grown g6 (fun e => by cases e); have f3 := hx6.frozen 3; have k3 := hx6.cell 3; have hx7 := hx6.set 3 (.slice A6 nt c6); have HO7 := hid (o6.far_ hx6 (by decide) 3 (.slice A6 nt c6)); have hb7 := hb6.setCell (p := (⟨wr.heap.size, 3, none⟩ : Addr)) (Nat.le_refl _) (.slice A6 nt c6); have HST7 := hid (HST.out.below hb7); have u0 := hx7.cell 0; have u1 := hx7.cell 1; have u2 := hx7.cell 2; have u3 := hx7.cell 3; have u7 := HST7.out.x.cell 7; simp only [List.getElem?_cons_succ, List.getElem?_cons_zero, List.set_cons_succ, List.set_cons_zero] at k3 u0 u1 u2 u3 u7; clear hb6 hx6 hx7 hb7 o6 g6)
        | ((with_reducible show wpList _ _ _ (⟨some 27, _, _, _, _, _⟩ :: _) _ _); have how7 := HST7.out.o.own; rw [HST7.out.ol] at how7; go_must (refine wpl_append rfl (.tmp 24) (.tmp 26) 25 rfl w.heap.size 52 i1 (.agg #[.string ⟨#[]⟩, .int .i64 0, .int .i64 0, .slice none 0 0]) 4 56 Try.underlying25 hi' hz0' hz1' hz2' rfl (by omega) (.slice A1 k c1) k (entsC (m.objs.take k) tvs) rfl (how7.alloc _) _ _ 1 1 [.string (strB x.name), .int .i64 x.obj, .int .i64 x.len, .slice A6 nt c6] rfl (Sl.fresh4z _ _ _ _ rfl (by simp [World.setCell])) (by simp [Value.oneCell']) (k + 1) rfl _ rfl (by omega) (by omega) (HST7.out.alloc _).be.size ?_); intro A8 c8 w8 o8 g8 _; have X8 := HST7.out.pushO (nm := x.name) (ob := x.obj) (ln := x.len) (trs := x.tries) HO7.out (Nat.le_refl _) o8 g8; have fx8 := X8.1.frozen 7; have kx8 := X8.1.cell 7; simp only [List.getElem?_cons_succ, List.getElem?_cons_zero] at kx8; have HX8 := hid (X8.2 (by omega) (Nat.le_refl _)); clear X8 o8 g8 how7))
      go_roundw
      case rel => exact ⟨k + 1, A8, c8, tvs ++ [.slice A6 nt c6], by omega, by go_num, by rw [HTK.out]; exact HX8.out, HDJ2.out⟩
      case measure => simp [intOf]; omega
    · obtain rfl : k = no := by omega
      have hsf := HST.out
      have htake : m.objs.take k = m.objs := List.take_of_length_le (by rw [HOL.out]; exact Nat.le_refl _)
      rw [htake] at hsf
      have c0 := hsf.x.cell 0
      have c1' := hsf.x.cell 1
      have c2 := hsf.x.cell 2
      have c3' := hsf.x.cell 3
      have c4 := hsf.x.cell 4
      have c5 := hsf.x.cell 5
      have c6 := hsf.x.cell 6
      have c7 := hsf.x.cell 7
      have d0 := hsf.q.cell 0
      have d1 := hsf.q.cell 1
      have d2 := hsf.q.cell 2
      have d3 := hsf.q.cell 3
      have d4 := hsf.q.cell 4
      have d5 := hsf.q.cell 5
      have d6 := hsf.q.cell 6
      have d7 := hsf.q.cell 7
      have f0 := hsf.q.frozen 0
      have f1 := hsf.q.frozen 1
      have f2 := hsf.q.frozen 2
      have f3 := hsf.q.frozen 3
      have f4 := hsf.q.frozen 4
      have f5 := hsf.q.frozen 5
      have f6 := hsf.q.frozen 6
      have f7 := hsf.q.frozen 7
      simp only [List.getElem?_cons_succ, List.getElem?_cons_zero] at c0 c1' c2 c3' c4 c5 c6 c7 d0 d1 d2 d3 d4 d5 d6 d7
      have HSF := hid hsf
      have R8 := hid (row8m hsf.q (.int .i64 m.seq) (.int .i64 m.next) (.int .i64 m.P.K) (.int .i64 m.P.H) (.int .i64 m.P.S) (.int .i64 m.extra) (.slice A3 nd c3) (.slice A1 k c1))
      have hg8 := grown8s wr (w.heap.size + 1) (.int .i64 m.seq) (.int .i64 m.next) (.int .i64 m.P.K) (.int .i64 m.P.H) (.int .i64 m.P.S) (.int .i64 m.extra) (.slice A3 nd c3) (.slice A1 k c1)
      have hom : OM w.heap.size wr m A3 nd c3 A1 k c1 tvs := ⟨hsf.d, HDLN.out, hsf.o, hsf.ol⟩
      have HOM := hid (hom.other hg8 hsf.q (by decide) (by decide))
      have HBF := hid (hsf.be.grown hg8 hsf.be.size (fun j hj => by injection hj with hj; omega))
      clear hsf hg8 hom htake
      go_wp2_with fail
      have q0 := R8.out.cell 0
      have q1 := R8.out.cell 1
      have q2 := R8.out.cell 2
      have q3 := R8.out.cell 3
      have q4 := R8.out.cell 4
      have q5 := R8.out.cell 5
      have q6 := R8.out.cell 6
      have q7 := R8.out.cell 7
      simp only [List.getElem?_cons_succ, List.getElem?_cons_zero] at q0 q1 q2 q3 q4 q5 q6 q7
      refine bodyPost_ret (v := m.val (.slice A3 nd c3) (.slice A1 k c1)) ?_ rfl ⟨A3, nd, c3, A1, k, c1, tvs, rfl, HOM.out, HDJ.out, HBF.out⟩
      simp [results, Try.results13, go_sem, q0, q1, q2, q3, q4, q5, q6, q7]
      rfl
end Go.Proofs.Ytceonkohidcdoaa
