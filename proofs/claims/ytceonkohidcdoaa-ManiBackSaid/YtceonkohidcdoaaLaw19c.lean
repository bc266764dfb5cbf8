/- The walk of ManiBack. -/
import Derived.Test.YtceonkohidcdoaaWakes19
import Derived.Test.YtceonkohidcdoaaReadApp
import Derived.Test.YtceonkohidcdoaaPlayMani
import Derived.Test.YtceonkohidcdoaaSameMani
import Derived.Test.YtceonkohidcdoaaFrame
import Derived.Test.YtceonkohidcdoaaKeep
namespace Go.Proofs.Ytceonkohidcdoaa
open Go.RowKit Wells
theorem parse_64 {l : List Byte} {q : Mani} (h : parseL l = some q) : M64 q ∧ ∀ e ∈ q.objs, e.name.length ≤ 1048576 := by
  unfold parseL at h
  split at h
  · injection h with h
    rw [← h]
    exact rdMani_64 _
  · cases h
set_option maxRecDepth 20000 in
set_option maxHeartbeats 4000000 in
theorem walk_ManiBack (A : Option Addr) (n c : Nat) (l : List Int) (at_ : Int) (Ab : Option Addr) (nb cb : Nat) (lb : List Byte) (w : World) (h : IsInts w A n c l) (ha : -9223372036854775808 ≤ at_ ∧ at_ ≤ 9223372036854775807) (hb : IsBytes w Ab nb cb lb) :
    Calls Try.prog 5 #[.slice A n c, .int .i64 at_, .slice Ab nb cb] w fun e w' => e = .returned (.bool true) ∧ Below w.heap.size w w' := by
  obtain ⟨i0, hi, hz0, hz1, hz2⟩ := info_parts infoB
  obtain ⟨hs, hle, hcap, hwf⟩ := h
  obtain ⟨hsb, hleb, hcapb⟩ := hb
  have hlb : lb.length = nb := by have := hsb.len; simpa using this
  have HLB := hid hlb
  clear hlb
  go_enter Try.func5, Try.ntmps5
  go_wp2_with fail
  refine (mani_any w.heap.size A n c l w hs (Nat.le_refl _) (by omega) hwf).mono ?_
  rintro e w1 ⟨m, Ad, nd, cd, Ao, no, co, ts, rfl, hom, hpl, hb1⟩
  have hmay := hpl.may
  have h64 := hpl.m64
  have hrm1 := hom.read
  have hz1w := hb1.size
  clear hom
  unfold Mani.val
  have hx2 := Row.new w1 27 #[.int .i64 m.seq, .int .i64 m.next, .int .i64 m.P.K, .int .i64 m.P.H, .int .i64 m.P.S, .int .i64 m.extra, (.slice Ad nd cd), (.slice Ao no co)]
  have hb12 : Below w1.heap.size w1 (w1.alloc (.cells #[.int .i64 m.seq, .int .i64 m.next, .int .i64 m.P.K, .int .i64 m.P.H, .int .i64 m.P.S, .int .i64 m.extra, (.slice Ad nd cd), (.slice Ao no co)] 27)) := (Below.refl _ _).alloc (Nat.le_refl _) _
  have hrm2 := (hrm1.below hb12).mono hb12.size
  have hb2 := hb1.trans (hb12.mono hz1w)
  clear hrm1 hb12 hb1
  have HX := hid hx2
  have HM := hid hrm2
  have HBB := hid hb2
  have x0 := hx2.cell 0
  have x1 := hx2.cell 1
  have x2 := hx2.cell 2
  have x3 := hx2.cell 3
  have x4 := hx2.cell 4
  have x5 := hx2.cell 5
  have x6 := hx2.cell 6
  have x7 := hx2.cell 7
  simp only [List.getElem?_cons_succ, List.getElem?_cons_zero] at x0 x1 x2 x3 x4 x5 x6 x7
  clear hx2 hrm2 hb2 hz1w
  go_wp2_with fail
  generalize w1.alloc (.cells #[.int .i64 m.seq, .int .i64 m.next, .int .i64 m.P.K, .int .i64 m.P.H, .int .i64 m.P.S, .int .i64 m.extra, (.slice Ad nd cd), (.slice Ao no co)] 27) = w2 at *
  obtain ⟨gm, hgm⟩ : ∃ g, w1.heap.size = g := ⟨_, rfl⟩
  rw [hgm] at HX x0 x1 x2 x3 x4 x5 x6 x7 ⊢
  clear hgm
  refine (pack_any m _ _ _ _ _ _ _ _ w2 HM.out (Nat.le_refl _) h64.1 h64.2).mono ?_
  rintro e w3 ⟨A3, n3, c3, rfl, hn3, hn3', ho3, hb3⟩
  obtain ⟨pk, hpk⟩ : ∃ p, pack m = p := ⟨_, rfl⟩
  rw [hpk] at hn3 ho3
  have HPK := hid hpk
  obtain ⟨A3', c3', e3, hc31, hc32, s3⟩ := ho3.read
  injection e3 with e31 e32 e33
  subst e31 e33
  rw [hn3] at s3 hc31
  have HN3 := hid hn3
  have hz3 := hb3.size
  have HX := hid (HX.out.below hb3 HX.out.lt)
  have HM := hid ((HM.out.below hb3).mono hz3)
  have HBB := hid (HBB.out.trans (hb3.mono HBB.out.size))
  have HS3 := hid s3
  clear hn3 e32 ho3 s3 hb3 hz3 x0 x1 x2 x3 x4 x5 x6 x7 hpk
  have hpar : parseL pk = some m := by rw [← HPK.out]; exact parseL_pack hmay
  have HPAR := hid hpar
  clear hpar
  go_wp2_with fail
  refine (parse_any _ A3 n3 c3 pk w3 HS3.out (Nat.le_refl _) (by omega) hc31 hc32 (some m) HPAR.out).mono ?_
  rintro e w4 ⟨Bd, md, dd, Bo, mo, eo, us, rfl, hom4, hb4⟩
  have hob : (some m).isSome = true := rfl
  have hgd : (some m).getD Mani.zero = m := rfl
  rw [hgd] at hom4 ⊢
  rw [hob]
  clear hob hgd
  unfold Mani.val
  have hz4 := hb4.size
  have hrm4 := hom4.read
  have hX4 := HX.out.below hb4 HX.out.lt
  have hM4 := (HM.out.below hb4).mono hz4
  have hB4 := HBB.out.trans (hb4.mono HBB.out.size)
  have hS4 := (HS3.out.below hb4).mono hz4
  clear hom4 hb4 hz4 HX HM HBB HS3
  have hy5 := Row.new w4 27 #[.int .i64 m.seq, .int .i64 m.next, .int .i64 m.P.K, .int .i64 m.P.H, .int .i64 m.P.S, .int .i64 m.extra, (.slice Bd md dd), (.slice Bo mo eo)]
  have hb5 : Below w4.heap.size w4 (w4.alloc (.cells #[.int .i64 m.seq, .int .i64 m.next, .int .i64 m.P.K, .int .i64 m.P.H, .int .i64 m.P.S, .int .i64 m.extra, (.slice Bd md dd), (.slice Bo mo eo)] 27)) := (Below.refl _ _).alloc (Nat.le_refl _) _
  have hx5 := hX4.below hb5 hX4.lt
  have HX := hid hx5
  have HY := hid hy5
  have HM := hid ((hM4.below hb5).mono hb5.size)
  have HN := hid ((hrm4.below hb5).mono hb5.size)
  have HS3 := hid ((hS4.below hb5).mono hb5.size)
  have HBB := hid (hB4.trans (hb5.mono hB4.size))
  have x0 := hx5.cell 0
  have x1 := hx5.cell 1
  have x2 := hx5.cell 2
  have x3 := hx5.cell 3
  have x4 := hx5.cell 4
  have x5 := hx5.cell 5
  have x6 := hx5.cell 6
  have x7 := hx5.cell 7
  simp only [List.getElem?_cons_succ, List.getElem?_cons_zero] at x0 x1 x2 x3 x4 x5 x6 x7
  clear hx5 hy5 hb5 hX4 hM4 hB4 hS4 hrm4
  go_wp2_with fail
  generalize w4.alloc (.cells #[.int .i64 m.seq, .int .i64 m.next, .int .i64 m.P.K, .int .i64 m.P.H, .int .i64 m.P.S, .int .i64 m.extra, (.slice Bd md dd), (.slice Bo mo eo)] 27) = w5 at *
  obtain ⟨gn, hgn⟩ : ∃ g, w4.heap.size = g := ⟨_, rfl⟩
  rw [hgn] at HY ⊢
  clear hgn
  refine (may_any m _ _ _ _ _ _ _ _ true w5 HM.out (Nat.le_refl _) h64.1 h64.2 hmay).mono ?_
  rintro e w6 ⟨rfl, hb6⟩
  have hz6 := hb6.size
  have HX := hid (HX.out.below hb6 HX.out.lt)
  have HY := hid (HY.out.below hb6 HY.out.lt)
  have HM := hid ((HM.out.below hb6).mono hz6)
  have HN := hid ((HN.out.below hb6).mono hz6)
  have HS3 := hid ((HS3.out.below hb6).mono hz6)
  have HBB := hid (HBB.out.trans (hb6.mono HBB.out.size))
  clear hb6 hz6 x0 x1 x2 x3 x4 x5 x6 x7
  have h14 : 14 ≤ n3 := by
    have := pack_len14 hmay
    rw [HPK.out, HN3.out] at this
    exact this
  have h14i : decide ((n3 : Int) < 14) = false := by simp; omega
  have HMAY := hid hmay
  have H64 := hid h64
  clear hmay h64 hpl
  have x0 := HX.out.cell 0
  have x1 := HX.out.cell 1
  have x2 := HX.out.cell 2
  have x3 := HX.out.cell 3
  have x4 := HX.out.cell 4
  have x5 := HX.out.cell 5
  have x6 := HX.out.cell 6
  have x7 := HX.out.cell 7
  have y0 := HY.out.cell 0
  have y1 := HY.out.cell 1
  have y2 := HY.out.cell 2
  have y3 := HY.out.cell 3
  have y4 := HY.out.cell 4
  have y5 := HY.out.cell 5
  have y6 := HY.out.cell 6
  have y7 := HY.out.cell 7
  simp only [List.getElem?_cons_succ, List.getElem?_cons_zero] at x0 x1 x2 x3 x4 x5 x6 x7 y0 y1 y2 y3 y4 y5 y6 y7
  go_wp2_with fail
  refine (samemani_any m m w6.heap.size _ _ _ _ _ _ _ _ _ _ _ _ _ _ true w6 HN.out HM.out (Nat.le_refl _) (by simp)).mono ?_
  rintro e w7 ⟨rfl, hb7⟩
  have hz7 := hb7.size
  have HM := hid ((HM.out.below hb7).mono hz7)
  have HS3 := hid ((HS3.out.below hb7).mono hz7)
  have HBB := hid (HBB.out.trans (hb7.mono HBB.out.size))
  clear hb7 hz7 x0 x1 x2 x3 x4 x5 x6 x7 y0 y1 y2 y3 y4 y5 y6 y7 HX HY HN HM
  obtain ⟨k, hk⟩ : ∃ k, at_ % (n3 : Int) = k := ⟨_, rfl⟩
  have hk0 : 0 ≤ k := by rw [← hk]; exact Int.emod_nonneg _ (by omega)
  have hk1 : k < (n3 : Int) := by rw [← hk]; exact Int.emod_lt_of_pos _ (by omega)
  have HK := hid hk
  clear hk h14i
  go_wp2_with fail
  refine (within_any at_ n3 w7 ha.1 ha.2 (by omega) (by omega)).mono ?_
  rintro e w8 ⟨rfl, rfl⟩
  rw [HK.out]
  obtain ⟨k, rfl⟩ := Int.eq_ofNat_of_zero_le hk0
  have hk2 : k ≤ n3 := by omega
  have hkc : k ≤ c3 := by omega
  have hless : parseL (pk.take k) = none := by
    rw [← HPK.out]
    exact parse_less HMAY.out (by rw [HPK.out, HN3.out]; omega)
  have HLESS := hid hless
  have hst := HS3.out.take hk2
  rw [Nat.mul_one, ← List.map_take] at hst
  clear hless
  go_wp2_with fail
  refine (parse_any _ _ k c3 (pk.take k) w7 hst (Nat.le_refl _) (by omega) hkc hc32 none HLESS.out).mono ?_
  rintro e w9 ⟨Bd2, md2, dd2, Bo2, mo2, eo2, us2, rfl, _, hb9⟩
  have hob2 : (none : Option Mani).isSome = false := rfl
  have hgd2 : (none : Option Mani).getD Mani.zero = Mani.zero := rfl
  rw [hob2, hgd2]
  clear hob2 hgd2 hst
  unfold Mani.val
  have hz9 := hb9.size
  have HS3 := hid ((HS3.out.below hb9).mono hz9)
  have HBB := hid (HBB.out.trans (hb9.mono HBB.out.size))
  have hb10 : Below w9.heap.size w9 (w9.alloc (.cells #[.int .i64 Mani.zero.seq, .int .i64 Mani.zero.next, .int .i64 Mani.zero.P.K, .int .i64 Mani.zero.P.H, .int .i64 Mani.zero.P.S, .int .i64 Mani.zero.extra, (.slice Bd2 md2 dd2), (.slice Bo2 mo2 eo2)] 27)) := (Below.refl _ _).alloc (Nat.le_refl _) _
  have HS3 := hid ((HS3.out.below hb10).mono hb10.size)
  have HBB := hid (HBB.out.trans (hb10.mono HBB.out.size))
  clear hb10 hb9 hz9
  have hb10m : (w9.alloc (.cells #[.int .i64 Mani.zero.seq, .int .i64 Mani.zero.next, .int .i64 Mani.zero.P.K, .int .i64 Mani.zero.P.H, .int .i64 Mani.zero.P.S, .int .i64 Mani.zero.extra, (.slice Bd2 md2 dd2), (.slice Bo2 mo2 eo2)] 27)).heap.size = w9.heap.size + 1 := by simp
  have hz11 := HBB.out.size
  have hmore : parseL (pk ++ [0#8]) = none := by
    rw [← HPK.out]
    exact parse_more HMAY.out (by simp)
  have HMORE := hid hmore
  clear hmore hb10m
  go_wp2_with (first
    | ((with_reducible show wpList _ _ _ (⟨some 56, _, _, _, _, _⟩ :: _) _ _); go_must (refine wpl_append rfl (.const (.slice none 0 0)) (.tmp 55) 36 rfl w.heap.size 5 i0 (.int .u8 0) 1 1 Try.underlying36 hi hz0 hz1 hz2 rfl (by omega) _ 0 [] rfl (World.ownsRow_nil _ _ _ _) _ A3 n3 c3 (pk.map bv8) rfl HS3.out (u8s_cell _) n3 (by omega) (pk.map bv8) rfl (by omega) (by omega) hz11 ?_); intro A5 c5 w11 o5 g5 _; have HB11 := hid (below_own HBB.out (World.ownsRow_nil _ w.heap.size 5 1) g5 (Nat.le_refl _) HBB.out.size); have HO5 := hid o5; clear o5 g5)
    | ((with_reducible show wpList _ _ _ (⟨some 58, _, _, _, _, _⟩ :: _) _ _); go_must (refine wpl_append rfl (.tmp 56) (.tmp 57) 36 rfl w.heap.size 5 i0 (.int .u8 0) 1 1 Try.underlying36 hi hz0 hz1 hz2 rfl (by omega) (.slice A5 n3 c5) n3 (pk.map bv8) rfl (HO5.out.alloc _) _ _ 1 1 [.int .u8 0] rfl (Sl.fresh _ _ _ _ 1 rfl) (by simp [Value.oneCell']) (n3 + 1) rfl ((pk ++ [0#8]).map bv8) (by simp [bv8]) (by omega) (by omega) (by have := HB11.out.size; simp; omega) ?_); intro A6 c6 w12 o6 g6 _; have HB12 := hid (below_own (HB11.out.alloc HB11.out.size (.cells #[.int .u8 0] 5)) (HO5.out.alloc _) g6 (Nat.le_refl _) (by have := HB11.out.size; simp; omega)); have HO6 := hid o6; clear o6 g6))
  obtain ⟨hc6, hc6'⟩ := own_cap HO6.out
  refine (parse_any _ A6 (n3 + 1) c6 (pk ++ [0#8]) w12 (Sl.own HO6.out) (Nat.le_refl _) (by omega) hc6 hc6' none HMORE.out).mono ?_
  rintro e w13 ⟨Bd3, md3, dd3, Bo3, mo3, eo3, us3, rfl, _, hb13⟩
  have hob2 : (none : Option Mani).isSome = false := rfl
  have hgd2 : (none : Option Mani).getD Mani.zero = Mani.zero := rfl
  rw [hob2, hgd2]
  clear hob2 hgd2
  unfold Mani.val
  have HBB := hid (HB12.out.trans (hb13.mono HB12.out.size))
  have hb14 : Below w13.heap.size w13 (w13.alloc (.cells #[.int .i64 Mani.zero.seq, .int .i64 Mani.zero.next, .int .i64 Mani.zero.P.K, .int .i64 Mani.zero.P.H, .int .i64 Mani.zero.P.S, .int .i64 Mani.zero.extra, (.slice Bd3 md3 dd3), (.slice Bo3 mo3 eo3)] 27)) := (Below.refl _ _).alloc (Nat.le_refl _) _
  have HBB := hid (HBB.out.trans (hb14.mono HBB.out.size))
  clear hb13 hb14 hz11
  go_wp2_with fail
  generalize w13.alloc (.cells #[.int .i64 Mani.zero.seq, .int .i64 Mani.zero.next, .int .i64 Mani.zero.P.K, .int .i64 Mani.zero.P.H, .int .i64 Mani.zero.P.S, .int .i64 Mani.zero.extra, (.slice Bd3 md3 dd3), (.slice Bo3 mo3 eo3)] 27) = w14 at *
  obtain ⟨nq, hnq⟩ : ∃ q, min nb 200 = q := ⟨_, rfl⟩
  have hnq2 : nq ≤ nb := by omega
  have hnq3 : nq ≤ 200 := by omega
  have HNQ := hid hnq
  clear hnq
  have hcut : ∀ W : World, Calls Try.prog 27 #[.slice Ab nb cb, .int .i64 200] W fun e w' => e = .returned (.slice Ab nq cb) ∧ W = w' := fun W => cut_any Ab nb cb nq 200 W (by omega) (by omega) (by omega) hleb (by have := HNQ.out; omega)
  have HCUT := hid hcut
  clear hcut
  refine (HCUT.out w14).mono ?_
  rintro e w15 ⟨rfl, rfl⟩
  have hsq : Sl w14 w14.heap.size 1 Ab nq ((lb.take nq).map bv8) := by
    have := ((hsb.below HBB.out).mono HBB.out.size).take hnq2
    rwa [Nat.mul_one, ← List.map_take] at this
  have HSQ := hid hsq
  clear hsq
  obtain ⟨r, hr⟩ : ∃ r, parseL (lb.take nq) = r := ⟨_, rfl⟩
  have HR := hid hr
  have hql : (lb.take nq).length = nq := by rw [List.length_take, HLB.out]; omega
  have HQL := hid hql
  clear hr hql
  go_wp2_with fail
  refine (parse_any _ Ab nq cb (lb.take nq) w14 HSQ.out (Nat.le_refl _) (by omega) (by omega) hcapb r HR.out).mono ?_
  rintro e w16 ⟨Bd4, md4, dd4, Bo4, mo4, eo4, us4, rfl, hom4, hb16⟩
  have HSQ := hid ((HSQ.out.below hb16).mono hb16.size)
  have HBB := hid (HBB.out.trans (hb16.mono HBB.out.size))
  cases r with
  | none =>
    have hob2 : (none : Option Mani).isSome = false := rfl
    have hgd2 : (none : Option Mani).getD Mani.zero = Mani.zero := rfl
    rw [hob2, hgd2]
    clear hob2 hgd2 hb16 hom4
    unfold Mani.val
    have hb17 : Below w16.heap.size w16 (w16.alloc (.cells #[.int .i64 Mani.zero.seq, .int .i64 Mani.zero.next, .int .i64 Mani.zero.P.K, .int .i64 Mani.zero.P.H, .int .i64 Mani.zero.P.S, .int .i64 Mani.zero.extra, (.slice Bd4 md4 dd4), (.slice Bo4 mo4 eo4)] 27)) := (Below.refl _ _).alloc (Nat.le_refl _) _
    have HBB := hid (HBB.out.trans (hb17.mono HBB.out.size))
    clear hb17
    go_wp2_with fail
    refine (wakes19 _).mono ?_
    rintro e w18 ⟨rfl, hb18⟩
    have hbe := HBB.out.trans (hb18.mono HBB.out.size)
    go_wp2_with fail
    go_ret
    exact ⟨rfl, hbe⟩
  | some q =>
    have hob2 : (some q).isSome = true := rfl
    have hgd2 : (some q).getD Mani.zero = q := rfl
    rw [hgd2] at hom4 ⊢
    rw [hob2]
    obtain ⟨hpq, hqm⟩ := parseL_some HR.out
    have HPQ := hid hpq
    have hq64 := parse_64 HR.out
    have hrm := hom4.read
    have hy := Row.new w16 27 #[.int .i64 q.seq, .int .i64 q.next, .int .i64 q.P.K, .int .i64 q.P.H, .int .i64 q.P.S, .int .i64 q.extra, (.slice Bd4 md4 dd4), (.slice Bo4 mo4 eo4)]
    have hb17 : Below w16.heap.size w16 (w16.alloc (.cells #[.int .i64 q.seq, .int .i64 q.next, .int .i64 q.P.K, .int .i64 q.P.H, .int .i64 q.P.S, .int .i64 q.extra, (.slice Bd4 md4 dd4), (.slice Bo4 mo4 eo4)] 27)) := (Below.refl _ _).alloc (Nat.le_refl _) _
    have HY := hid hy
    have HM := hid ((hrm.below hb17).mono hb17.size)
    have HSQ := hid ((HSQ.out.below hb17).mono hb17.size)
    have HBB := hid (HBB.out.trans (hb17.mono HBB.out.size))
    have y0 := hy.cell 0
    have y1 := hy.cell 1
    have y2 := hy.cell 2
    have y3 := hy.cell 3
    have y4 := hy.cell 4
    have y5 := hy.cell 5
    have y6 := hy.cell 6
    have y7 := hy.cell 7
    simp only [List.getElem?_cons_succ, List.getElem?_cons_zero] at y0 y1 y2 y3 y4 y5 y6 y7
    have HQ64 := hid hq64
    clear hob2 hgd2 hb16 hom4 hrm hy hb17 hpq hqm hq64
    unfold Mani.val
    go_wp2_with fail
    generalize w16.alloc (.cells #[.int .i64 q.seq, .int .i64 q.next, .int .i64 q.P.K, .int .i64 q.P.H, .int .i64 q.P.S, .int .i64 q.extra, (.slice Bd4 md4 dd4), (.slice Bo4 mo4 eo4)] 27) = w17 at *
    refine (pack_any q _ _ _ _ _ _ _ _ w17 HM.out (Nat.le_refl _) HQ64.out.1 HQ64.out.2).mono ?_
    rintro e w18 ⟨A7, n7, c7, rfl, hn7, hn7', ho7, hb18⟩
    have hpe : pack q = lb.take nq := HPQ.out.symm
    rw [hpe] at hn7 ho7
    rw [HQL.out] at hn7
    have hn7s : n7 = nq := hn7.symm
    have HN7 := hid hn7s
    obtain ⟨A7', c7', e7, hc71, hc72, s7⟩ := ho7.read
    injection e7 with e71 e72 e73
    subst e71 e73
    rw [HQL.out] at s7 hc71
    have HS7 := hid s7
    have HSQ := hid ((HSQ.out.below hb18).mono hb18.size)
    have HBB := hid (HBB.out.trans (hb18.mono HBB.out.size))
    rw [HN7.out]
    clear hn7 e72 hn7s ho7 s7 hb18 hpe hn7' y0 y1 y2 y3 y4 y5 y6 y7
    go_wp2_with fail
    refine (HCUT.out w18).mono ?_
    rintro e w19 ⟨rfl, rfl⟩
    go_wp2_with fail
    refine (same_is true w18.heap.size A7 Ab (lb.take nq) (lb.take nq) nq nq c7 cb w18 HS7.out HSQ.out (by omega) (by omega) (decide_eq_true rfl)).mono ?_
    rintro e w20 ⟨rfl, d20, rfl⟩
    have hb20 := below_drewN HBB.out d20
    have HB20 := hid hb20
    clear hb20
    go_wp2_with fail
    refine (wakes19 _).mono ?_
    rintro e w21 ⟨rfl, hb21⟩
    have hbe := HB20.out.trans (hb21.mono HB20.out.size)
    go_wp2_with fail
    go_ret
    exact ⟨rfl, hbe⟩
end Go.Proofs.Ytceonkohidcdoaa
