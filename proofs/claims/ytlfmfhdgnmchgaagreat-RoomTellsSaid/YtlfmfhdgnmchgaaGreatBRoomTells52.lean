/- RefRoom -/
import Derived.Test.YtlfmfhdgnmchgaaGreatBRoomTells36
import Derived.Test.YtlfmfhdgnmchgaaGreatBRoomTells39
import Derived.Test.YtlfmfhdgnmchgaaGreatBRoomTells44
import Derived.Test.YtlfmfhdgnmchgaaGreatBRoomTells50
import Derived.Test.YtlfmfhdgnmchgaaGreatBRoomTells51
set_option maxRecDepth 20000
set_option linter.unusedSimpArgs false
set_option linter.unusedVariables false
namespace Go.Proofs.YtlfmfhdgnmchgaaGreat
open Go.RowKit Wells
theorem RDrvE.widen2 {F : Nat → Prop} {w w1 w2 w' : World} {g pg : Nat} {d : Dr} (h : RDrvE (Ext F w1 w2) w' g pg d) (hs : w.heap.size ≤ w1.heap.size) (h2 : w2.heap.size ≤ w'.heap.size) : RDrvE (Ext F w w') w' g pg d := by
  obtain ⟨_, _, _, _, h⟩ := h
  refine ⟨_, _, _, _, h.more (fun k hk => ?_) (fun k hk => ?_)⟩
  · rcases hk with hk | hk
    · exact .inl hk
    · exact .inr ⟨by omega, by omega⟩
  · rcases hk with hk | hk
    · exact h.lt k (.inl hk)
    · exact hk.2
set_option maxRecDepth 20000 in
set_option maxHeartbeats 4000000 in
theorem refonly_any (G : Nat → Prop) (gr qg : Nat) (d : Dr) (mk : Nat) (m : Mani) (B : Nat) (Ad Ao : Option Addr) (nd cd no co : Nat) (ts : List Value) (w : World) (h : RDrvE G w gr qg d) (hok : DOk mk d) (hm : RM w B m Ad nd cd Ao no co ts) (hB : B ≤ w.heap.size) (hno : no ≤ 9223372036854775807) :
    Calls Tryz.prog 97 #[.pointer (some ⟨gr, 0, none⟩), m.val (.slice Ad nd cd) (.slice Ao no co)] w (CelR w ((recsL m d.L).map putR)) := by
  have hb : Below w.heap.size w (w.alloc (.cells #[.int .i64 m.seq, .int .i64 m.next, .int .i64 m.P.K, .int .i64 m.P.H, .int .i64 m.P.S, .int .i64 m.extra, .slice Ad nd cd, .slice Ao no co] 27)) := (Below.refl _ _).alloc (Nat.le_refl _) _
  have H1 := hid (h.new_ hb)
  have hx := Row.new w 27 #[.int .i64 m.seq, .int .i64 m.next, .int .i64 m.P.K, .int .i64 m.P.H, .int .i64 m.P.S, .int .i64 m.extra, .slice Ad nd cd, .slice Ao no co]
  have HX := hid hx
  have HM := hid (hm.below (hb.mono hB))
  have HBW := hid hb
  have hll := hok.len
  have hrm := hok.room
  have hrl := recsL_len m d.L
  obtain ⟨ibs, hibs, hzb0, hzb1, hzb2⟩ := info_parts infoBs
  have hr := HX.out
  have x0 := hr.cell 0
  have x1 := hr.cell 1
  have x2 := hr.cell 2
  have x3 := hr.cell 3
  have x4 := hr.cell 4
  have x5 := hr.cell 5
  have x6 := hr.cell 6
  have x7 := hr.cell 7
  simp only [List.getElem?_cons_succ, List.getElem?_cons_zero] at x0 x1 x2 x3 x4 x5 x6 x7
  clear hr
  clear hb h hm hx
  unfold Mani.val
  go_enter Tryz.func97, Tryz.ntmps97
  go_wp2_with fail
  generalize w.alloc (.cells #[.int .i64 m.seq, .int .i64 m.next, .int .i64 m.P.K, .int .i64 m.P.H, .int .i64 m.P.S, .int .i64 m.extra, .slice Ad nd cd, .slice Ao no co] 27) = w1 at *
  refine (refrecs_any G gr qg d mk m B Ad Ao nd cd no co ts w1 H1.out hok HM.out (Nat.le_trans hB HBW.out.size) hno).mono ?_
  rintro e w2 ⟨A, n, c, xs, rfl, hn, hnc, ho, hmap, hb2⟩
  have hn512 : n ≤ 512 := by omega
  have HO := hid ho
  have HMAP := hid hmap
  have HXN := hid ho.len
  have HB2 := hid (HBW.out.trans (hb2.mono HBW.out.size))
  clear ho hmap hn hb2 x0 x1 x2 x3 x4 x5 x6 x7
  go_wp2_with fail
  go_loopw [5, 12] (fun v i wr => ∃ (k : Nat) (A2 : Option Addr) (c2 : Nat) (vs : List Value), k ≤ n ∧ v = .slice A2 k c2 ∧ i = .int .i64 (k : Int) ∧ (k ≤ c2 ∧ c2 ≤ 9223372036854775807) ∧ OBs w2.heap.size wr (.slice A2 k c2) vs (((recsL m d.L).map putR).take k) ∧ Below w2.heap.size w2 wr) (fun _ i _ => n - (intOf i).toNat)
  case atStart => exact ⟨0, none, 0, [], Nat.zero_le _, rfl, rfl, by omega, by simpa using OBs.nil_ _ _, Below.refl _ _⟩
  case round =>
    obtain ⟨k, A2, c2, vs, hk, rfl, rfl, hkc, hobs, hbr⟩ := hrel
    have HOBS := hid hobs
    have HBR := hid hbr
    clear hobs hbr
    by_cases hlt : k < n
    · have hlt' : (k : Int) < (n : Int) := by omega
      obtain ⟨bb, o, rfl, hbb, hxm, hcells⟩ := (HO.out.below HBR.out).get hlt
      obtain ⟨x, hx⟩ : ∃ x, xs[k]! = x := ⟨_, rfl⟩
      rw [hx] at hxm hcells
      have hxr : (recsL m d.L)[k]? = some x.r := by
        rw [← HMAP.out, List.getElem?_map, List.getElem?_eq_getElem (by have := HXN.out; omega)]
        rw [← hx, getElem!_pos xs k (by have := HXN.out; omega)]
        rfl
      have htk : ((recsL m d.L).map putR).take (k + 1) = ((recsL m d.L).map putR).take k ++ [putR x.r] := by
        have hl : k < ((recsL m d.L).map putR).length := by rw [List.length_map, ← HMAP.out, List.length_map]; have := HXN.out; omega
        rw [List.take_succ_eq_append_getElem hl]
        congr 2
        have h3 : ((recsL m d.L).map putR)[k]? = some (putR x.r) := by rw [List.getElem?_map, hxr]; rfl
        rw [List.getElem?_eq_getElem hl] at h3
        injection h3
      have hlk : (((recsL m d.L).map putR).take k).length = k := by
        rw [List.length_take, List.length_map, ← HMAP.out, List.length_map]; have := HXN.out; omega
      obtain ⟨r, Ar, nr, cr⟩ := x
      have c0 := hcells 0 _ rfl
      have c1 := hcells 1 _ rfl
      have c2' := hcells 2 _ rfl
      have c3 := hcells 3 _ rfl
      have c4 := hcells 4 _ rfl
      have c5 := hcells 5 _ rfl
      have c6 := hcells 6 _ rfl
      have c7 := hcells 7 _ rfl
      simp only [Nat.add_zero, RD.dv] at c0 c1 c2' c3 c4 c5 c6 c7
      have hdat := (HO.out.below HBR.out).at_ _ hxm
      obtain ⟨Ar', cr', hdv, hd1, hd2, hsl⟩ := hdat
      unfold RD.dv at hdv
      dsimp only at hdv hd1 hsl
      injection hdv with e1 e2 e3
      rw [← e2] at hsl hd1
      rw [← e3] at hd1 hd2
      rw [← e1] at hsl
      have HSLN := hid (hsl.mono HBR.out.size)
      have HTK := hid htk
      have HLK := hid hlk
      clear hcells hxm hx hxr htk hlk hsl e1 e2 e3
      have hb4 : Below wr.heap.size wr (wr.alloc (.cells #[.int .i64 r.O, .int .i64 r.B, .int .i64 r.I, .int .i64 r.P.K, .int .i64 r.P.H, .int .i64 r.P.S, .int .u32 (r.S.toNat : Int), .slice Ar nr cr] 75)) := (Below.refl _ _).alloc (Nat.le_refl _) _
      have HB4 := hid hb4
      clear hb4
      go_wp2_with fail
      generalize wr.alloc (.cells #[.int .i64 r.O, .int .i64 r.B, .int .i64 r.I, .int .i64 r.P.K, .int .i64 r.P.H, .int .i64 r.P.S, .int .u32 (r.S.toNat : Int), .slice Ar nr cr] 75) = w4 at *
      refine (refputrec_any w4.heap.size r Ar nr cr w4 ((HSLN.out.below HB4.out).mono HB4.out.size) (Nat.le_refl _)).mono ?_
      rintro e w5 ⟨vp, rfl, hop, hb5⟩
      obtain ⟨Ap, cp, rfl, hp1, hp2, _⟩ := own_slice hop
      have hb45 := HB4.out.trans (hb5.mono HB4.out.size)
      have HOBS5 := hid (HOBS.out.below hb45)
      have HBR5 := hid (HBR.out.trans (hb45.mono HBR.out.size))
      have HOP := hid (own_base hop (Nat.le_trans HBR.out.size HB4.out.size))
      clear hop hb5 hb45 c0 c1 c2' c3 c4 c5 c6 c7
      go_wp2_with (first
        | ((with_reducible show wpList _ _ _ (⟨some 19, _, _, _, _, _⟩ :: _) _ _); refine wpList_plain rfl (fun K hK => ?_); refine op_build1 29 58 (.tmp 18) (by rfl) _ (by rfl) rfl ibs (.slice none 0 0) Tryz.underlying29 hibs hzb0 hzb1 rfl ?_; rintro w6 g6 hg6 hr6 hb6 hz6; refine hK _ _ ?_; clear hK K; subst hg6; have HR6 := hid hr6; have HOBS6 := hid (HOBS5.out.below hb6); have HBR6 := hid (HBR5.out.trans (hb6.mono HBR5.out.size)); have HOP6 := hid (OB.below HOP.out hb6); have hg6l := hr6.lt; clear hr6 hb6 hz6)
        | ((with_reducible show wpList _ _ _ (⟨some 20, _, _, _, _, _⟩ :: _) _ _); go_must (refine wpl_append rfl (.tmp 16) (.tmp 19) 29 rfl w2.heap.size 58 ibs (.slice none 0 0) 1 24 Tryz.underlying29 hibs hzb0 hzb1 hzb2 rfl (by omega) (.slice A2 k c2) k vs rfl (by have := HOBS6.out.own; rwa [HLK.out] at this) (w5.heap.size + 1) (some ⟨w5.heap.size, 0, none⟩) 1 1 [_] rfl (HR6.out.sl (by omega) (Nat.le_refl _)) (by intro u hu; simp only [List.mem_singleton] at hu; subst hu; rfl) (k + 1) rfl _ rfl (by omega) (by omega) HBR6.out.size ?_); intro A7 c7 w7 ho7 hg7 _))
      have hps := OBs.push HOBS6.out HOP6.out (by rw [HLK.out]; exact ho7) hg7
      rw [← HTK.out] at hps
      have hb7 := below_own HBR6.out HOBS6.out.own hg7 (Nat.le_refl _) HBR6.out.size
      have hc7 := own_cap ho7
      have HPS := hid hps
      have HB7 := hid hb7
      clear hps hb7 ho7 hg7
      go_roundw
      case rel => exact ⟨k + 1, A7, c7, _, by omega, rfl, by go_num, hc7, HPS.out, HB7.out⟩
      case measure => simp [intOf] <;> omega
    · have hlt' : ¬ (k : Int) < (n : Int) := by omega
      obtain rfl : k = n := by omega
      go_wp2_with fail
      go_ret
      have ho := HOBS.out
      have hl : ((recsL m d.L).map putR).length = k := by rw [List.length_map, ← HMAP.out, List.length_map, HXN.out]
      rw [List.take_of_length_le (by omega)] at ho
      exact ⟨A2, k, c2, vs, rfl, hl.symm, ho.base HB2.out.size, HB2.out.trans (HBR.out.mono HB2.out.size)⟩
set_option maxRecDepth 20000 in
set_option maxHeartbeats 4000000 in
theorem refkeep_any (G : Nat → Prop) (gr qg : Nat) (d : Dr) (mk : Nat) (m : Mani) (B : Nat) (Ad Ao : Option Addr) (nd cd no co : Nat) (ts : List Value) (w : World) (h : RDrvE G w gr qg d) (hok : DOk mk d) (hm : RM w B m Ad nd cd Ao no co ts) (hB : B ≤ w.heap.size) (hno : no ≤ 9223372036854775807) (h64 : M64 m) (hnm : ∀ e ∈ m.objs, e.name.length ≤ 1048576) :
    Calls Tryz.prog 67 #[.pointer (some ⟨gr, 0, none⟩), m.val (.slice Ad nd cd) (.slice Ao no co)] w (KeepR m d.L w) := by
  have hb : Below w.heap.size w (w.alloc (.cells #[.int .i64 m.seq, .int .i64 m.next, .int .i64 m.P.K, .int .i64 m.P.H, .int .i64 m.P.S, .int .i64 m.extra, .slice Ad nd cd, .slice Ao no co] 27)) := (Below.refl _ _).alloc (Nat.le_refl _) _
  have H1 := hid (h.new_ hb)
  have hx := Row.new w 27 #[.int .i64 m.seq, .int .i64 m.next, .int .i64 m.P.K, .int .i64 m.P.H, .int .i64 m.P.S, .int .i64 m.extra, .slice Ad nd cd, .slice Ao no co]
  have HX := hid hx
  have HM := hid (hm.below (hb.mono hB))
  have HBW := hid hb
  have hll := hok.len
  have hrm := hok.room
  have hrl := recsL_len m d.L
  have hpl := pages_le m
  have HLEN := hid (show (pagesL m.seq (pack m) ++ (recsL m d.L).map putR).length ≤ 9223372036854775807 ∧ (pagesL m.seq (pack m) ++ (recsL m d.L).map putR).length * 24 ≤ 140737488355328 by rw [List.length_append, List.length_map]; omega)
  obtain ⟨ibs, hibs, hzb0, hzb1, hzb2⟩ := info_parts infoBs
  unfold KeepR keepL
  obtain ⟨NK, hNK⟩ : ∃ NK, (pagesL m.seq (pack m) ++ (recsL m d.L).map putR).length = NK := ⟨_, rfl⟩
  have HNK := hid hNK
  have hlen := HLEN.out
  rw [hNK] at hlen ⊢
  clear HLEN hNK
  clear hb h hm hx hll hrm hrl hpl
  unfold Mani.val
  go_enter Tryz.func67, Tryz.ntmps67
  go_upto_region 1 with fail
  generalize w.alloc (.cells #[.int .i64 m.seq, .int .i64 m.next, .int .i64 m.P.K, .int .i64 m.P.H, .int .i64 m.P.S, .int .i64 m.extra, .slice Ad nd cd, .slice Ao no co] 27) = w1 at *
  refine Org.begin [] (fun w' => Below w1.heap.size w1 w') [0, 2, 3, 1, 4, 5, 6] (by kernel_rfl) (below_drewN (Below.refl _ _) 1) (fun hS => ?_)
  (refine Org.yes (v := ?_) rfl (by kernel_rfl) (by kernel_rfl) (by kernel_rfl) (by kernel_rfl) (by kernel_rfl) (fun _ _ _ h => h) (by kernel_rfl) (SM.of hS) ?_ ?_; rotate_left; (focus (intro w hSw; (try dsimp only at hSw); have hr := HX.out.below hSw HX.out.lt; have x0 := hr.cell 0; have x1 := hr.cell 1; have x2 := hr.cell 2; have x3 := hr.cell 3; have x4 := hr.cell 4; have x5 := hr.cell 5; have x6 := hr.cell 6; have x7 := hr.cell 7; simp only [List.getElem?_cons_succ, List.getElem?_cons_zero] at x0 x1 x2 x3 x4 x5 x6 x7; refine Pure.val ?_; go_simp; (try with_reducible rfl); done)); try simp only [Act.put, List.setIfInBounds_toArray, List.set_cons_zero, List.set_cons_succ])
  (refine Org.yes (v := ?_) rfl (by kernel_rfl) (by kernel_rfl) (by kernel_rfl) (by kernel_rfl) (by kernel_rfl) (fun _ _ _ h => h) (by kernel_rfl) (SM.of hS) ?_ ?_; rotate_left; (focus (intro w hSw; (try dsimp only at hSw); refine Pure.val ?_; go_simp; (try with_reducible rfl); done)); try simp only [Act.put, List.setIfInBounds_toArray, List.set_cons_zero, List.set_cons_succ])
  (refine Org.yes (v := ?_) rfl (by kernel_rfl) (by kernel_rfl) (by kernel_rfl) (by kernel_rfl) (by kernel_rfl) (fun _ _ _ h => h) (by kernel_rfl) (SM.of hS) ?_ ?_; rotate_left; (focus (intro w hSw; (try dsimp only at hSw); have hr := HX.out.below hSw HX.out.lt; have x0 := hr.cell 0; have x1 := hr.cell 1; have x2 := hr.cell 2; have x3 := hr.cell 3; have x4 := hr.cell 4; have x5 := hr.cell 5; have x6 := hr.cell 6; have x7 := hr.cell 7; simp only [List.getElem?_cons_succ, List.getElem?_cons_zero] at x0 x1 x2 x3 x4 x5 x6 x7; refine Pure.val ?_; go_simp; (try with_reducible rfl); done)); try simp only [Act.put, List.setIfInBounds_toArray, List.set_cons_zero, List.set_cons_succ])
  refine Org.go rfl (by kernel_rfl) (by kernel_rfl) (fun K hK => ?_)
  go_simp
  go_at_call 37
  refine (refsplit_any m B Ad Ao nd cd no co ts _ (HM.out.below (hS.mono (Nat.le_trans hB HBW.out.size))) (Nat.le_trans (Nat.le_trans hB HBW.out.size) hS.size) h64 hnm).mono ?_
  rintro e wp ⟨Ap, cp, vsp, rfl, hop, hbp⟩
  have HOP := hid (hop.base hS.size)
  have HBP := hid hbp
  clear hop hbp
  go_wp2_with fail
  refine hK.out _ _ (hS.trans (HBP.out.mono hS.size)) (fun hS2 => ?_)
  clear hK K hS
  have hS := hS2
  clear hS2
  try simp only [Act.put, List.setIfInBounds_toArray, List.set_cons_zero, List.set_cons_succ]
  refine Org.go rfl (by kernel_rfl) (by kernel_rfl) (fun K hK => ?_)
  go_simp
  go_at_call 97
  refine (refonly_any G gr qg d mk m B Ad Ao nd cd no co ts _ (H1.out.new_ (hS.mono (Nat.le_refl _))) hok (HM.out.below (hS.mono (Nat.le_trans hB HBW.out.size))) (Nat.le_trans (Nat.le_trans hB HBW.out.size) hS.size) hno).mono ?_
  rintro e wc ⟨Ac, n, cc, vsc, rfl, hn, hoc, hbc⟩
  have HN := hid hn.symm
  clear hn
  have HOC := hid (hoc.base hS.size)
  have HBC := hid hbc
  clear hoc hbc
  go_wp2_with fail
  refine hK.out _ _ (hS.trans (HBC.out.mono hS.size)) (fun hS2 => ?_)
  clear hK K hS
  have hS := hS2
  clear hS2
  try simp only [Act.put, List.setIfInBounds_toArray, List.set_cons_zero, List.set_cons_succ]
  refine Org.go rfl (by kernel_rfl) (by kernel_rfl) (fun K hK => ?_)
  have HP := hid (by first | exact HOP.out.below HBC.out | exact HOP.out : OBs w1.heap.size _ (.slice Ap (pagesL m.seq (pack m)).length cp) vsp (pagesL m.seq (pack m)))
  have HC := hid (by first | exact HOC.out.below HBP.out | exact HOC.out : OBs w1.heap.size _ (.slice Ac n cc) vsc ((recsL m d.L).map putR))
  have howc := HC.out.own
  rw [HN.out] at howc
  refine op_append (.tmp 6) (.tmp 9) 29 rfl w1.heap.size 58 ibs (.slice none 0 0) 1 24 Tryz.underlying29 hibs hzb0 hzb1 hzb2 rfl (by omega) (.slice Ap (pagesL m.seq (pack m)).length cp) (pagesL m.seq (pack m)).length vsp rfl HP.out.own _ Ac n cc vsc rfl (Sl.own howc) (obs_one HC.out) NK (by rw [← HNK.out, List.length_append, HN.out]) _ rfl hlen.1 hlen.2 hS.size ?_
  rintro A7 c7 w7 ho7 hg7 _
  have hps := OBs.app HP.out HC.out ho7 hg7
  have hb7 := below_own hS HP.out.own hg7 (Nat.le_refl _) hS.size
  have HPS := hid hps
  have HB7 := hid hb7
  clear hps hb7 ho7 hg7 howc
  refine hK.out _ _ HB7.out (fun hS2 => ?_)
  clear hK K hS
  have hS := hS2
  clear hS2
  try simp only [Act.put, List.setIfInBounds_toArray, List.set_cons_zero, List.set_cons_succ]
  (refine Org.yes (v := ?_) rfl (by kernel_rfl) (by kernel_rfl) (by kernel_rfl) (by kernel_rfl) (by kernel_rfl) (fun _ _ _ h => h) (by kernel_rfl) (SM.of hS) ?_ ?_; rotate_left; (focus (intro w hSw; (try dsimp only at hSw); refine Pure.val ?_; go_simp; (try with_reducible rfl); done)); try simp only [Act.put, List.setIfInBounds_toArray, List.set_cons_zero, List.set_cons_succ])
  refine Org.done (by kernel_rfl) ?_
  go_wp2_with fail
  go_ret
  exact ⟨A7, c7, _, rfl, HPS.out.base HBW.out.size, HBW.out.trans (HB7.out.mono HBW.out.size)⟩
set_option maxRecDepth 20000 in
set_option maxHeartbeats 4000000 in
theorem reffits_any (G : Nat → Prop) (gr qg : Nat) (d : Dr) (mk : Nat) (m : Mani) (B : Nat) (Ad Ao : Option Addr) (nd cd no co : Nat) (ts : List Value) (n : Int) (b : Bool) (w : World) (h : RDrvE G w gr qg d) (hok : DOk mk d) (hm : RM w B m Ad nd cd Ao no co ts) (hB : B ≤ w.heap.size) (hno : no ≤ 9223372036854775807) (h64 : M64 m) (hnm : ∀ e ∈ m.objs, e.name.length ≤ 1048576) (hn : -9223372036854775808 ≤ n ∧ n ≤ 9223372036854775807) (hb0 : fitsM m d n = b) :
    Calls Tryz.prog 30 #[.pointer (some ⟨gr, 0, none⟩), m.val (.slice Ad nd cd) (.slice Ao no co), .int .i64 n] w fun e w' => e = .returned (.bool b) ∧ Below w.heap.size w w' := by
  have hb : Below w.heap.size w (w.alloc (.cells #[.int .i64 m.seq, .int .i64 m.next, .int .i64 m.P.K, .int .i64 m.P.H, .int .i64 m.P.S, .int .i64 m.extra, .slice Ad nd cd, .slice Ao no co] 27)) := (Below.refl _ _).alloc (Nat.le_refl _) _
  have H1 := hid (h.new_ hb)
  have hx := Row.new w 27 #[.int .i64 m.seq, .int .i64 m.next, .int .i64 m.P.K, .int .i64 m.P.H, .int .i64 m.P.S, .int .i64 m.extra, .slice Ad nd cd, .slice Ao no co]
  have HX := hid hx
  have HM := hid (hm.below (hb.mono hB))
  have HBW := hid hb
  have hll := hok.len
  have hrm := hok.room
  have hkl := keepL_len m d.L
  have HZ := hid (Nat.le_trans hB hb.size)
  obtain ⟨lv, lvs, bv, bvs, hr⟩ := h.new_ hb
  obtain ⟨Al, cl, rfl, hlc, hlc2⟩ := hr.l.own.form
  obtain ⟨nl, hnl⟩ : ∃ n, d.L.length = n := ⟨_, rfl⟩
  obtain ⟨nk, hnk⟩ : ∃ n, (keepL m d.L).length = n := ⟨_, rfl⟩
  obtain ⟨rm, hrmm⟩ : ∃ n, d.room = n := ⟨_, rfl⟩
  have HNK := hid hnk
  rw [hnl] at hr hlc hll hkl
  rw [hnk] at hkl
  rw [hrmm] at hll hrm
  have hgl := hr.row.lt
  have f0 : (w.alloc (.cells #[.int .i64 m.seq, .int .i64 m.next, .int .i64 m.P.K, .int .i64 m.P.H, .int .i64 m.P.S, .int .i64 m.extra, .slice Ad nd cd, .slice Ao no co] 27)).cell? ⟨gr, 0, none⟩ = some (.int .i64 (rm : Int)) := by rw [← hrmm]; exact hr.row.cell 0
  have f2 : (w.alloc (.cells #[.int .i64 m.seq, .int .i64 m.next, .int .i64 m.P.K, .int .i64 m.P.H, .int .i64 m.P.S, .int .i64 m.extra, .slice Ad nd cd, .slice Ao no co] 27)).cell? ⟨gr, 2, none⟩ = some (.slice Al nl cl) := hr.row.cell 2
  obtain ⟨lo, hlo⟩ : ∃ q, d.lost = q := ⟨_, rfl⟩
  have f6 : (w.alloc (.cells #[.int .i64 m.seq, .int .i64 m.next, .int .i64 m.P.K, .int .i64 m.P.H, .int .i64 m.P.S, .int .i64 m.extra, .slice Ad nd cd, .slice Ao no co] 27)).cell? ⟨gr, 6, none⟩ = some (.bool lo) := by rw [← hlo]; exact hr.row.cell 6
  obtain ⟨y, hy⟩ : ∃ y : Int, max n 0 = y := ⟨_, rfl⟩
  obtain ⟨ra, hra⟩ : ∃ y : Int, (rm : Int) - (nl : Int) = y := ⟨_, rfl⟩
  obtain ⟨rb, hrb⟩ : ∃ y : Int, (rm : Int) - (nk : Int) = y := ⟨_, rfl⟩
  have HV := hid (show (!lo && (decide (y ≤ ra) || decide (y ≤ rb))) = b by rw [← hlo, ← hy, ← hra, ← hrb, ← hrmm, ← hnl, ← hnk]; exact hb0)
  have ea : IntKind.i64.wrap ((rm : Int) - (nl : Int)) = ra := by rw [IntKind.wrap_i64]; omega
  have eb : IntKind.i64.wrap ((rm : Int) - (nk : Int)) = rb := by rw [IntKind.wrap_i64]; omega
  have hyb : y ≤ 9223372036854775807 := by omega
  have hr := HX.out
  have x0 := hr.cell 0
  have x1 := hr.cell 1
  have x2 := hr.cell 2
  have x3 := hr.cell 3
  have x4 := hr.cell 4
  have x5 := hr.cell 5
  have x6 := hr.cell 6
  have x7 := hr.cell 7
  simp only [List.getElem?_cons_succ, List.getElem?_cons_zero] at x0 x1 x2 x3 x4 x5 x6 x7
  clear hr
  clear hb h hm hx hr hb0 hlo hnl hnk hrmm hra hrb
  have HY := hid hy
  clear hy
  unfold Mani.val
  go_enter Tryz.func30, Tryz.ntmps30
  cases lo with
  | true =>
    have hbf : b = false := by rw [← HV.out]; rfl
    subst hbf
    go_wp2_with fail
    go_ret
    exact ⟨rfl, HBW.out⟩
  | false =>
    go_upto_region 4 with fail
    generalize w.alloc (.cells #[.int .i64 m.seq, .int .i64 m.next, .int .i64 m.P.K, .int .i64 m.P.H, .int .i64 m.P.S, .int .i64 m.extra, .slice Ad nd cd, .slice Ao no co] 27) = w1 at *
    rw [HY.out]
    cases hca : decide (y ≤ ra) with
    | true =>
      have HVA := hid (show true = b by rw [← HV.out, hca]; rfl)
      have hya : y ≤ ra := of_decide_eq_true hca
      clear hca
      refine Org.begin [] (fun w' => Below w1.heap.size w1 w') [0, 1, 2, 3, 4, 5, 6, 7, 8, 9, 10, 11, 12, 13, 14, 15, 16, 17, 18, 19, 20, 21, 22, 23, 24, 25] (by kernel_rfl) (below_drewN (Below.refl _ _) 1) (fun hS => ?_)
      (refine Org.yes (v := ?_) rfl (by kernel_rfl) (by kernel_rfl) (by kernel_rfl) (by kernel_rfl) (by kernel_rfl) (fun _ _ _ h => h) (by kernel_rfl) (SM.of hS) ?_ ?_; rotate_left; (focus (intro w hSw; (try dsimp only at hSw); refine Pure.val ?_; go_simp; (try with_reducible rfl); done)); try simp only [Act.put, List.setIfInBounds_toArray, List.set_cons_zero, List.set_cons_succ])
      (refine Org.yes (v := ?_) rfl (by kernel_rfl) (by kernel_rfl) (by kernel_rfl) (by kernel_rfl) (by kernel_rfl) (fun _ _ _ h => h) (by kernel_rfl) (SM.of hS) ?_ ?_; rotate_left; (focus (intro w hSw; (try dsimp only at hSw); refine Pure.val ?_; go_simp; (try with_reducible rfl); done)); try simp only [Act.put, List.setIfInBounds_toArray, List.set_cons_zero, List.set_cons_succ])
      (refine Org.yes (v := ?_) rfl (by kernel_rfl) (by kernel_rfl) (by kernel_rfl) (by kernel_rfl) (by kernel_rfl) (fun _ _ _ h => h) (by kernel_rfl) (SM.of hS) ?_ ?_; rotate_left; (focus (intro w hSw; (try dsimp only at hSw); refine Pure.val ?_; go_simp; (try with_reducible rfl); done)); try simp only [Act.put, List.setIfInBounds_toArray, List.set_cons_zero, List.set_cons_succ])
      (refine Org.yes (v := ?_) rfl (by kernel_rfl) (by kernel_rfl) (by kernel_rfl) (by kernel_rfl) (by kernel_rfl) (fun _ _ _ h => h) (by kernel_rfl) (SM.of hS) ?_ ?_; rotate_left; (focus (intro w hSw; (try dsimp only at hSw); refine Pure.val ?_; go_simp; (try with_reducible rfl); done)); try simp only [Act.put, List.setIfInBounds_toArray, List.set_cons_zero, List.set_cons_succ])
      (refine Org.yes (v := ?_) rfl (by kernel_rfl) (by kernel_rfl) (by kernel_rfl) (by kernel_rfl) (by kernel_rfl) (fun _ _ _ h => h) (by kernel_rfl) (SM.of hS) ?_ ?_; rotate_left; (focus (intro w hSw; (try dsimp only at hSw); have q0 := (hSw.cell (p := ⟨gr, 0, none⟩) hgl).trans f0; refine Pure.val ?_; go_simp; (try with_reducible rfl); done)); try simp only [Act.put, List.setIfInBounds_toArray, List.set_cons_zero, List.set_cons_succ])
      (refine Org.yes (v := ?_) rfl (by kernel_rfl) (by kernel_rfl) (by kernel_rfl) (by kernel_rfl) (by kernel_rfl) (fun _ _ _ h => h) (by kernel_rfl) (SM.of hS) ?_ ?_; rotate_left; (focus (intro w hSw; (try dsimp only at hSw); refine Pure.val ?_; go_simp; (try with_reducible rfl); done)); try simp only [Act.put, List.setIfInBounds_toArray, List.set_cons_zero, List.set_cons_succ])
      (refine Org.yes (v := ?_) rfl (by kernel_rfl) (by kernel_rfl) (by kernel_rfl) (by kernel_rfl) (by kernel_rfl) (fun _ _ _ h => h) (by kernel_rfl) (SM.of hS) ?_ ?_; rotate_left; (focus (intro w hSw; (try dsimp only at hSw); refine Pure.val ?_; go_simp; (try with_reducible rfl); done)); try simp only [Act.put, List.setIfInBounds_toArray, List.set_cons_zero, List.set_cons_succ])
      (refine Org.yes (v := ?_) rfl (by kernel_rfl) (by kernel_rfl) (by kernel_rfl) (by kernel_rfl) (by kernel_rfl) (fun _ _ _ h => h) (by kernel_rfl) (SM.of hS) ?_ ?_; rotate_left; (focus (intro w hSw; (try dsimp only at hSw); refine Pure.val ?_; go_simp; (try with_reducible rfl); done)); try simp only [Act.put, List.setIfInBounds_toArray, List.set_cons_zero, List.set_cons_succ])
      (refine Org.yes (v := ?_) rfl (by kernel_rfl) (by kernel_rfl) (by kernel_rfl) (by kernel_rfl) (by kernel_rfl) (fun _ _ _ h => h) (by kernel_rfl) (SM.of hS) ?_ ?_; rotate_left; (focus (intro w hSw; (try dsimp only at hSw); have q2 := (hSw.cell (p := ⟨gr, 2, none⟩) hgl).trans f2; refine Pure.val ?_; go_simp; (try with_reducible rfl); done)); try simp only [Act.put, List.setIfInBounds_toArray, List.set_cons_zero, List.set_cons_succ])
      (refine Org.yes (v := ?_) rfl (by kernel_rfl) (by kernel_rfl) (by kernel_rfl) (by kernel_rfl) (by kernel_rfl) (fun _ _ _ h => h) (by kernel_rfl) (SM.of hS) ?_ ?_; rotate_left; (focus (intro w hSw; (try dsimp only at hSw); refine Pure.val ?_; go_simp; (try with_reducible rfl); done)); try simp only [Act.put, List.setIfInBounds_toArray, List.set_cons_zero, List.set_cons_succ])
      (refine Org.yes (v := ?_) rfl (by kernel_rfl) (by kernel_rfl) (by kernel_rfl) (by kernel_rfl) (by kernel_rfl) (fun _ _ _ h => h) (by kernel_rfl) (SM.of hS) ?_ ?_; rotate_left; (focus (intro w hSw; (try dsimp only at hSw); refine Pure.val ?_; go_simp; (try with_reducible rfl); done)); try simp only [Act.put, List.setIfInBounds_toArray, List.set_cons_zero, List.set_cons_succ])
      (refine Org.yes (v := ?_) rfl (by kernel_rfl) (by kernel_rfl) (by kernel_rfl) (by kernel_rfl) (by kernel_rfl) (fun _ _ _ h => h) (by kernel_rfl) (SM.of hS) ?_ ?_; rotate_left; (focus (intro w hSw; (try dsimp only at hSw); refine Pure.val ?_; go_simp; (try with_reducible rfl); done)); try simp only [Act.put, List.setIfInBounds_toArray, List.set_cons_zero, List.set_cons_succ])
      (refine Org.yes (v := ?_) rfl (by kernel_rfl) (by kernel_rfl) (by kernel_rfl) (by kernel_rfl) (by kernel_rfl) (fun _ _ _ h => h) (by kernel_rfl) (SM.of hS) ?_ ?_; rotate_left; (focus (intro w hSw; (try dsimp only at hSw); refine Pure.val ?_; go_simp; (try with_reducible rfl); done)); try simp only [Act.put, List.setIfInBounds_toArray, List.set_cons_zero, List.set_cons_succ])
      (refine Org.no rfl (by kernel_rfl) (by kernel_rfl) (by kernel_rfl) (by kernel_rfl) (by kernel_rfl) (fun _ _ _ h => h) (by kernel_rfl) (SM.of hS) ?_; try simp only [Act.put, List.setIfInBounds_toArray, List.set_cons_zero, List.set_cons_succ])
      (refine Org.no rfl (by kernel_rfl) (by kernel_rfl) (by kernel_rfl) (by kernel_rfl) (by kernel_rfl) (fun _ _ _ h => h) (by kernel_rfl) (SM.of hS) ?_; try simp only [Act.put, List.setIfInBounds_toArray, List.set_cons_zero, List.set_cons_succ])
      (refine Org.no rfl (by kernel_rfl) (by kernel_rfl) (by kernel_rfl) (by kernel_rfl) (by kernel_rfl) (fun _ _ _ h => h) (by kernel_rfl) (SM.of hS) ?_; try simp only [Act.put, List.setIfInBounds_toArray, List.set_cons_zero, List.set_cons_succ])
      (refine Org.no rfl (by kernel_rfl) (by kernel_rfl) (by kernel_rfl) (by kernel_rfl) (by kernel_rfl) (fun _ _ _ h => h) (by kernel_rfl) (SM.of hS) ?_; try simp only [Act.put, List.setIfInBounds_toArray, List.set_cons_zero, List.set_cons_succ])
      (refine Org.no rfl (by kernel_rfl) (by kernel_rfl) (by kernel_rfl) (by kernel_rfl) (by kernel_rfl) (fun _ _ _ h => h) (by kernel_rfl) (SM.of hS) ?_; try simp only [Act.put, List.setIfInBounds_toArray, List.set_cons_zero, List.set_cons_succ])
      (refine Org.no rfl (by kernel_rfl) (by kernel_rfl) (by kernel_rfl) (by kernel_rfl) (by kernel_rfl) (fun _ _ _ h => h) (by kernel_rfl) (SM.of hS) ?_; try simp only [Act.put, List.setIfInBounds_toArray, List.set_cons_zero, List.set_cons_succ])
      (refine Org.no rfl (by kernel_rfl) (by kernel_rfl) (by kernel_rfl) (by kernel_rfl) (by kernel_rfl) (fun _ _ _ h => h) (by kernel_rfl) (SM.of hS) ?_; try simp only [Act.put, List.setIfInBounds_toArray, List.set_cons_zero, List.set_cons_succ])
      (refine Org.no rfl (by kernel_rfl) (by kernel_rfl) (by kernel_rfl) (by kernel_rfl) (by kernel_rfl) (fun _ _ _ h => h) (by kernel_rfl) (SM.of hS) ?_; try simp only [Act.put, List.setIfInBounds_toArray, List.set_cons_zero, List.set_cons_succ])
      (refine Org.no rfl (by kernel_rfl) (by kernel_rfl) (by kernel_rfl) (by kernel_rfl) (by kernel_rfl) (fun _ _ _ h => h) (by kernel_rfl) (SM.of hS) ?_; try simp only [Act.put, List.setIfInBounds_toArray, List.set_cons_zero, List.set_cons_succ])
      (refine Org.no rfl (by kernel_rfl) (by kernel_rfl) (by kernel_rfl) (by kernel_rfl) (by kernel_rfl) (fun _ _ _ h => h) (by kernel_rfl) (SM.of hS) ?_; try simp only [Act.put, List.setIfInBounds_toArray, List.set_cons_zero, List.set_cons_succ])
      (refine Org.no rfl (by kernel_rfl) (by kernel_rfl) (by kernel_rfl) (by kernel_rfl) (by kernel_rfl) (fun _ _ _ h => h) (by kernel_rfl) (SM.of hS) ?_; try simp only [Act.put, List.setIfInBounds_toArray, List.set_cons_zero, List.set_cons_succ])
      (refine Org.yes (v := ?_) rfl (by kernel_rfl) (by kernel_rfl) (by kernel_rfl) (by kernel_rfl) (by kernel_rfl) (fun _ _ _ h => h) (by kernel_rfl) (SM.of hS) ?_ ?_; rotate_left; (focus (intro w hSw; (try dsimp only at hSw); refine Pure.val ?_; go_simp; (try with_reducible rfl); done)); try simp only [Act.put, List.setIfInBounds_toArray, List.set_cons_zero, List.set_cons_succ])
      (refine Org.yes (v := ?_) rfl (by kernel_rfl) (by kernel_rfl) (by kernel_rfl) (by kernel_rfl) (by kernel_rfl) (fun _ _ _ h => h) (by kernel_rfl) (SM.of hS) ?_ ?_; rotate_left; (focus (intro w hSw; (try dsimp only at hSw); refine Pure.val ?_; go_simp; (try with_reducible rfl); done)); try simp only [Act.put, List.setIfInBounds_toArray, List.set_cons_zero, List.set_cons_succ])
      refine Org.done (by kernel_rfl) ?_
      go_wp2_with fail
      go_ret
      exact ⟨ret_bool HVA.out, HBW.out.trans (hS.mono HBW.out.size)⟩
    | false =>
      have HVB := hid (show decide (y ≤ rb) = b by rw [← HV.out, hca]; rfl)
      have hya : ¬ y ≤ ra := of_decide_eq_false hca
      clear hca
      refine Org.begin [] (fun w' => Below w1.heap.size w1 w') [0, 1, 2, 3, 4, 5, 6, 7, 8, 9, 10, 11, 12, 13, 14, 15, 16, 17, 18, 19, 20, 21, 22, 23, 24, 25] (by kernel_rfl) (below_drewN (Below.refl _ _) 1) (fun hS => ?_)
      (refine Org.yes (v := ?_) rfl (by kernel_rfl) (by kernel_rfl) (by kernel_rfl) (by kernel_rfl) (by kernel_rfl) (fun _ _ _ h => h) (by kernel_rfl) (SM.of hS) ?_ ?_; rotate_left; (focus (intro w hSw; (try dsimp only at hSw); refine Pure.val ?_; go_simp; (try with_reducible rfl); done)); try simp only [Act.put, List.setIfInBounds_toArray, List.set_cons_zero, List.set_cons_succ])
      (refine Org.yes (v := ?_) rfl (by kernel_rfl) (by kernel_rfl) (by kernel_rfl) (by kernel_rfl) (by kernel_rfl) (fun _ _ _ h => h) (by kernel_rfl) (SM.of hS) ?_ ?_; rotate_left; (focus (intro w hSw; (try dsimp only at hSw); refine Pure.val ?_; go_simp; (try with_reducible rfl); done)); try simp only [Act.put, List.setIfInBounds_toArray, List.set_cons_zero, List.set_cons_succ])
      (refine Org.yes (v := ?_) rfl (by kernel_rfl) (by kernel_rfl) (by kernel_rfl) (by kernel_rfl) (by kernel_rfl) (fun _ _ _ h => h) (by kernel_rfl) (SM.of hS) ?_ ?_; rotate_left; (focus (intro w hSw; (try dsimp only at hSw); refine Pure.val ?_; go_simp; (try with_reducible rfl); done)); try simp only [Act.put, List.setIfInBounds_toArray, List.set_cons_zero, List.set_cons_succ])
      (refine Org.yes (v := ?_) rfl (by kernel_rfl) (by kernel_rfl) (by kernel_rfl) (by kernel_rfl) (by kernel_rfl) (fun _ _ _ h => h) (by kernel_rfl) (SM.of hS) ?_ ?_; rotate_left; (focus (intro w hSw; (try dsimp only at hSw); refine Pure.val ?_; go_simp; (try with_reducible rfl); done)); try simp only [Act.put, List.setIfInBounds_toArray, List.set_cons_zero, List.set_cons_succ])
      (refine Org.yes (v := ?_) rfl (by kernel_rfl) (by kernel_rfl) (by kernel_rfl) (by kernel_rfl) (by kernel_rfl) (fun _ _ _ h => h) (by kernel_rfl) (SM.of hS) ?_ ?_; rotate_left; (focus (intro w hSw; (try dsimp only at hSw); have q0 := (hSw.cell (p := ⟨gr, 0, none⟩) hgl).trans f0; refine Pure.val ?_; go_simp; (try with_reducible rfl); done)); try simp only [Act.put, List.setIfInBounds_toArray, List.set_cons_zero, List.set_cons_succ])
      (refine Org.yes (v := ?_) rfl (by kernel_rfl) (by kernel_rfl) (by kernel_rfl) (by kernel_rfl) (by kernel_rfl) (fun _ _ _ h => h) (by kernel_rfl) (SM.of hS) ?_ ?_; rotate_left; (focus (intro w hSw; (try dsimp only at hSw); refine Pure.val ?_; go_simp; (try with_reducible rfl); done)); try simp only [Act.put, List.setIfInBounds_toArray, List.set_cons_zero, List.set_cons_succ])
      (refine Org.yes (v := ?_) rfl (by kernel_rfl) (by kernel_rfl) (by kernel_rfl) (by kernel_rfl) (by kernel_rfl) (fun _ _ _ h => h) (by kernel_rfl) (SM.of hS) ?_ ?_; rotate_left; (focus (intro w hSw; (try dsimp only at hSw); refine Pure.val ?_; go_simp; (try with_reducible rfl); done)); try simp only [Act.put, List.setIfInBounds_toArray, List.set_cons_zero, List.set_cons_succ])
      (refine Org.yes (v := ?_) rfl (by kernel_rfl) (by kernel_rfl) (by kernel_rfl) (by kernel_rfl) (by kernel_rfl) (fun _ _ _ h => h) (by kernel_rfl) (SM.of hS) ?_ ?_; rotate_left; (focus (intro w hSw; (try dsimp only at hSw); refine Pure.val ?_; go_simp; (try with_reducible rfl); done)); try simp only [Act.put, List.setIfInBounds_toArray, List.set_cons_zero, List.set_cons_succ])
      (refine Org.yes (v := ?_) rfl (by kernel_rfl) (by kernel_rfl) (by kernel_rfl) (by kernel_rfl) (by kernel_rfl) (fun _ _ _ h => h) (by kernel_rfl) (SM.of hS) ?_ ?_; rotate_left; (focus (intro w hSw; (try dsimp only at hSw); have q2 := (hSw.cell (p := ⟨gr, 2, none⟩) hgl).trans f2; refine Pure.val ?_; go_simp; (try with_reducible rfl); done)); try simp only [Act.put, List.setIfInBounds_toArray, List.set_cons_zero, List.set_cons_succ])
      (refine Org.yes (v := ?_) rfl (by kernel_rfl) (by kernel_rfl) (by kernel_rfl) (by kernel_rfl) (by kernel_rfl) (fun _ _ _ h => h) (by kernel_rfl) (SM.of hS) ?_ ?_; rotate_left; (focus (intro w hSw; (try dsimp only at hSw); refine Pure.val ?_; go_simp; (try with_reducible rfl); done)); try simp only [Act.put, List.setIfInBounds_toArray, List.set_cons_zero, List.set_cons_succ])
      (refine Org.yes (v := ?_) rfl (by kernel_rfl) (by kernel_rfl) (by kernel_rfl) (by kernel_rfl) (by kernel_rfl) (fun _ _ _ h => h) (by kernel_rfl) (SM.of hS) ?_ ?_; rotate_left; (focus (intro w hSw; (try dsimp only at hSw); refine Pure.val ?_; go_simp; (try with_reducible rfl); done)); try simp only [Act.put, List.setIfInBounds_toArray, List.set_cons_zero, List.set_cons_succ])
      (refine Org.yes (v := ?_) rfl (by kernel_rfl) (by kernel_rfl) (by kernel_rfl) (by kernel_rfl) (by kernel_rfl) (fun _ _ _ h => h) (by kernel_rfl) (SM.of hS) ?_ ?_; rotate_left; (focus (intro w hSw; (try dsimp only at hSw); refine Pure.val ?_; go_simp; (try with_reducible rfl); done)); try simp only [Act.put, List.setIfInBounds_toArray, List.set_cons_zero, List.set_cons_succ])
      (refine Org.yes (v := ?_) rfl (by kernel_rfl) (by kernel_rfl) (by kernel_rfl) (by kernel_rfl) (by kernel_rfl) (fun _ _ _ h => h) (by kernel_rfl) (SM.of hS) ?_ ?_; rotate_left; (focus (intro w hSw; (try dsimp only at hSw); refine Pure.val ?_; go_simp; (try with_reducible rfl); done)); try simp only [Act.put, List.setIfInBounds_toArray, List.set_cons_zero, List.set_cons_succ])
      (refine Org.yes (v := ?_) rfl (by kernel_rfl) (by kernel_rfl) (by kernel_rfl) (by kernel_rfl) (by kernel_rfl) (fun _ _ _ h => h) (by kernel_rfl) (SM.of hS) ?_ ?_; rotate_left; (focus (intro w hSw; (try dsimp only at hSw); refine Pure.val ?_; go_simp; (try with_reducible rfl); done)); try simp only [Act.put, List.setIfInBounds_toArray, List.set_cons_zero, List.set_cons_succ])
      (refine Org.yes (v := ?_) rfl (by kernel_rfl) (by kernel_rfl) (by kernel_rfl) (by kernel_rfl) (by kernel_rfl) (fun _ _ _ h => h) (by kernel_rfl) (SM.of hS) ?_ ?_; rotate_left; (focus (intro w hSw; (try dsimp only at hSw); refine Pure.val ?_; go_simp; (try with_reducible rfl); done)); try simp only [Act.put, List.setIfInBounds_toArray, List.set_cons_zero, List.set_cons_succ])
      (refine Org.yes (v := ?_) rfl (by kernel_rfl) (by kernel_rfl) (by kernel_rfl) (by kernel_rfl) (by kernel_rfl) (fun _ _ _ h => h) (by kernel_rfl) (SM.of hS) ?_ ?_; rotate_left; (focus (intro w hSw; (try dsimp only at hSw); refine Pure.val ?_; go_simp; (try with_reducible rfl); done)); try simp only [Act.put, List.setIfInBounds_toArray, List.set_cons_zero, List.set_cons_succ])
      (refine Org.yes (v := ?_) rfl (by kernel_rfl) (by kernel_rfl) (by kernel_rfl) (by kernel_rfl) (by kernel_rfl) (fun _ _ _ h => h) (by kernel_rfl) (SM.of hS) ?_ ?_; rotate_left; (focus (intro w hSw; (try dsimp only at hSw); refine Pure.val ?_; go_simp; (try with_reducible rfl); done)); try simp only [Act.put, List.setIfInBounds_toArray, List.set_cons_zero, List.set_cons_succ])
      (refine Org.yes (v := ?_) rfl (by kernel_rfl) (by kernel_rfl) (by kernel_rfl) (by kernel_rfl) (by kernel_rfl) (fun _ _ _ h => h) (by kernel_rfl) (SM.of hS) ?_ ?_; rotate_left; (focus (intro w hSw; (try dsimp only at hSw); have q0 := (hSw.cell (p := ⟨gr, 0, none⟩) hgl).trans f0; refine Pure.val ?_; go_simp; (try with_reducible rfl); done)); try simp only [Act.put, List.setIfInBounds_toArray, List.set_cons_zero, List.set_cons_succ])
      (refine Org.yes (v := ?_) rfl (by kernel_rfl) (by kernel_rfl) (by kernel_rfl) (by kernel_rfl) (by kernel_rfl) (fun _ _ _ h => h) (by kernel_rfl) (SM.of hS) ?_ ?_; rotate_left; (focus (intro w hSw; (try dsimp only at hSw); refine Pure.val ?_; go_simp; (try with_reducible rfl); done)); try simp only [Act.put, List.setIfInBounds_toArray, List.set_cons_zero, List.set_cons_succ])
      (refine Org.yes (v := ?_) rfl (by kernel_rfl) (by kernel_rfl) (by kernel_rfl) (by kernel_rfl) (by kernel_rfl) (fun _ _ _ h => h) (by kernel_rfl) (SM.of hS) ?_ ?_; rotate_left; (focus (intro w hSw; (try dsimp only at hSw); have hr := HX.out.below hSw HX.out.lt; have x0 := hr.cell 0; have x1 := hr.cell 1; have x2 := hr.cell 2; have x3 := hr.cell 3; have x4 := hr.cell 4; have x5 := hr.cell 5; have x6 := hr.cell 6; have x7 := hr.cell 7; simp only [List.getElem?_cons_succ, List.getElem?_cons_zero] at x0 x1 x2 x3 x4 x5 x6 x7; refine Pure.val ?_; go_simp; (try with_reducible rfl); done)); try simp only [Act.put, List.setIfInBounds_toArray, List.set_cons_zero, List.set_cons_succ])
      refine Org.go rfl (by kernel_rfl) (by kernel_rfl) (fun K hK => ?_)
      go_simp
      go_at_call 67
      refine (refkeep_any G gr qg d mk m B Ad Ao nd cd no co ts _ (H1.out.new_ hS) hok (HM.out.below (hS.mono HZ.out)) (Nat.le_trans HZ.out hS.size) hno h64 hnm).mono ?_
      rintro e wk ⟨Ak, ck, vk, rfl, hk, hbk⟩
      rw [HNK.out] at hk ⊢
      have hS3 := hS.trans (hbk.mono hS.size)
      clear hk hbk
      go_wp2_with fail
      refine hK.out _ _ hS3 (fun hS2 => ?_)
      clear hS3
      clear hK K hS
      have hS := hS2
      clear hS2
      try simp only [Act.put, List.setIfInBounds_toArray, List.set_cons_zero, List.set_cons_succ]
      (refine Org.yes (v := ?_) rfl (by kernel_rfl) (by kernel_rfl) (by kernel_rfl) (by kernel_rfl) (by kernel_rfl) (fun _ _ _ h => h) (by kernel_rfl) (SM.of hS) ?_ ?_; rotate_left; (focus (intro w hSw; (try dsimp only at hSw); refine Pure.val ?_; go_simp; (try with_reducible rfl); done)); try simp only [Act.put, List.setIfInBounds_toArray, List.set_cons_zero, List.set_cons_succ])
      (refine Org.yes (v := ?_) rfl (by kernel_rfl) (by kernel_rfl) (by kernel_rfl) (by kernel_rfl) (by kernel_rfl) (fun _ _ _ h => h) (by kernel_rfl) (SM.of hS) ?_ ?_; rotate_left; (focus (intro w hSw; (try dsimp only at hSw); refine Pure.val ?_; go_simp; (try with_reducible rfl); done)); try simp only [Act.put, List.setIfInBounds_toArray, List.set_cons_zero, List.set_cons_succ])
      (refine Org.yes (v := ?_) rfl (by kernel_rfl) (by kernel_rfl) (by kernel_rfl) (by kernel_rfl) (by kernel_rfl) (fun _ _ _ h => h) (by kernel_rfl) (SM.of hS) ?_ ?_; rotate_left; (focus (intro w hSw; (try dsimp only at hSw); refine Pure.val ?_; go_simp; (try with_reducible rfl); done)); try simp only [Act.put, List.setIfInBounds_toArray, List.set_cons_zero, List.set_cons_succ])
      (refine Org.yes (v := ?_) rfl (by kernel_rfl) (by kernel_rfl) (by kernel_rfl) (by kernel_rfl) (by kernel_rfl) (fun _ _ _ h => h) (by kernel_rfl) (SM.of hS) ?_ ?_; rotate_left; (focus (intro w hSw; (try dsimp only at hSw); refine Pure.val ?_; go_simp; (try with_reducible rfl); done)); try simp only [Act.put, List.setIfInBounds_toArray, List.set_cons_zero, List.set_cons_succ])
      (refine Org.yes (v := ?_) rfl (by kernel_rfl) (by kernel_rfl) (by kernel_rfl) (by kernel_rfl) (by kernel_rfl) (fun _ _ _ h => h) (by kernel_rfl) (SM.of hS) ?_ ?_; rotate_left; (focus (intro w hSw; (try dsimp only at hSw); refine Pure.val ?_; go_simp; (try with_reducible rfl); done)); try simp only [Act.put, List.setIfInBounds_toArray, List.set_cons_zero, List.set_cons_succ])
      refine Org.done (by kernel_rfl) ?_
      go_wp2_with fail
      go_ret
      exact ⟨ret_bool HVB.out, HBW.out.trans (hS.mono HBW.out.size)⟩
set_option maxRecDepth 20000 in
set_option maxHeartbeats 4000000 in
theorem refmake_any (G : Nat → Prop) (gr qg : Nat) (d : Dr) (mk : Nat) (m : Mani) (B : Nat) (Ad Ao : Option Addr) (nd cd no co : Nat) (ts : List Value) (n : Int) (w : World) (h : RDrvE G w gr qg d) (hok : DOk mk d) (hm : RM w B m Ad nd cd Ao no co ts) (hB : B ≤ w.heap.size) (hno : no ≤ 9223372036854775807) (h64 : M64 m) (hnm : ∀ e ∈ m.objs, e.name.length ≤ 1048576) (hmk : mk ≤ 1000000) (hn : -9223372036854775808 ≤ n ∧ n ≤ 9223372036854775807) :
    Calls Tryz.prog 31 #[.pointer (some ⟨gr, 0, none⟩), m.val (.slice Ad nd cd) (.slice Ao no co), .int .i64 n] w fun e w' => e = .returned (.int .i64 (makeD m d n).2) ∧ RDrvE (Ext G w w') w' gr qg (makeD m d n).1 ∧ Only G w w' := by
  have hb : Below w.heap.size w (w.alloc (.cells #[.int .i64 m.seq, .int .i64 m.next, .int .i64 m.P.K, .int .i64 m.P.H, .int .i64 m.P.S, .int .i64 m.extra, .slice Ad nd cd, .slice Ao no co] 27)) := (Below.refl _ _).alloc (Nat.le_refl _) _
  have H1 := hid (h.new_ hb)
  have hx := Row.new w 27 #[.int .i64 m.seq, .int .i64 m.next, .int .i64 m.P.K, .int .i64 m.P.H, .int .i64 m.P.S, .int .i64 m.extra, .slice Ad nd cd, .slice Ao no co]
  have HX := hid hx
  have HM := hid (hm.below (hb.mono hB))
  have HBW := hid hb
  have hll := hok.len
  have hrm := hok.room
  have hkl := keepL_len m d.L
  have HZ := hid (Nat.le_trans hB hb.size)
  obtain ⟨lv, lvs, bv, bvs, hr⟩ := h.new_ hb
  obtain ⟨Al, cl, rfl, hlc, hlc2⟩ := hr.l.own.form
  obtain ⟨nl, hnl⟩ : ∃ n, d.L.length = n := ⟨_, rfl⟩
  obtain ⟨rm, hrmm⟩ : ∃ n, d.room = n := ⟨_, rfl⟩
  have HF := hid h.lt_
  rw [hnl] at hr hlc hll hkl
  rw [hrmm] at hll hrm
  have hgl := hr.row.lt
  have f0' : (w.alloc (.cells #[.int .i64 m.seq, .int .i64 m.next, .int .i64 m.P.K, .int .i64 m.P.H, .int .i64 m.P.S, .int .i64 m.extra, .slice Ad nd cd, .slice Ao no co] 27)).cell? ⟨gr, 0, none⟩ = some (.int .i64 (rm : Int)) := by rw [← hrmm]; exact hr.row.cell 0
  have f2' : (w.alloc (.cells #[.int .i64 m.seq, .int .i64 m.next, .int .i64 m.P.K, .int .i64 m.P.H, .int .i64 m.P.S, .int .i64 m.extra, .slice Ad nd cd, .slice Ao no co] 27)).cell? ⟨gr, 2, none⟩ = some (.slice Al nl cl) := hr.row.cell 2
  obtain ⟨lo, hlo⟩ : ∃ q, d.lost = q := ⟨_, rfl⟩
  have f6 : (w.alloc (.cells #[.int .i64 m.seq, .int .i64 m.next, .int .i64 m.P.K, .int .i64 m.P.H, .int .i64 m.P.S, .int .i64 m.extra, .slice Ad nd cd, .slice Ao no co] 27)).cell? ⟨gr, 6, none⟩ = some (.bool lo) := by rw [← hlo]; exact hr.row.cell 6
  obtain ⟨ra, hra⟩ : ∃ y : Int, (rm : Int) - (nl : Int) = y := ⟨_, rfl⟩
  obtain ⟨bf, hbf⟩ : ∃ q, fitsM m d n = q := ⟨_, rfl⟩
  have ea : IntKind.i64.wrap ((rm : Int) - (nl : Int)) = ra := by rw [IntKind.wrap_i64]; omega
  have HBF := hid hbf
  have HMD := hid (show makeD m d n = (if lo then (d, 5) else if bf then (if decide (n ≤ ra) then (d, 0) else d.rewrite (keepL m d.L)) else (d, 7)) by
    have e : behB d d.L.length n = decide (n ≤ ra) := by
      unfold behB
      rw [← hra, ← hnl, ← hrmm]
      congr 1
      apply propext
      have h1 : d.L.length ≤ d.room := hok.len
      constructor <;> intro h2 <;> omega
    unfold makeD; rw [hlo, hbf, e])
  have HFA := hid f0'
  have HFB := hid f2'
  have hr := HX.out
  have x0 := hr.cell 0
  have x1 := hr.cell 1
  have x2 := hr.cell 2
  have x3 := hr.cell 3
  have x4 := hr.cell 4
  have x5 := hr.cell 5
  have x6 := hr.cell 6
  have x7 := hr.cell 7
  simp only [List.getElem?_cons_succ, List.getElem?_cons_zero] at x0 x1 x2 x3 x4 x5 x6 x7
  clear hr
  clear hb h hm hx hr hlo hnl hrmm hra hbf f0' f2'
  rw [HMD.out]
  unfold Mani.val
  go_enter Tryz.func31, Tryz.ntmps31
  cases lo with
  | true =>
    go_wp2_with fail
    go_ret
    exact ⟨rfl, RDrvE.up (F := G) (w := w) H1.out, Only.of_new HBW.out⟩
  | false =>
    go_wp2_with fail
    generalize w.alloc (.cells #[.int .i64 m.seq, .int .i64 m.next, .int .i64 m.P.K, .int .i64 m.P.H, .int .i64 m.P.S, .int .i64 m.extra, .slice Ad nd cd, .slice Ao no co] 27) = w1 at *
    refine (reffits_any G gr qg d mk m B Ad Ao nd cd no co ts n bf w1 H1.out hok HM.out HZ.out hno h64 hnm hn HBF.out).mono ?_
    rintro e w2 ⟨rfl, hb2⟩
    have H2 := hid (H1.out.new_ hb2)
    have HX2 := hid (HX.out.below hb2 HX.out.lt)
    have HM2 := hid (HM.out.below (hb2.mono HZ.out))
    have HZ2 := hid (Nat.le_trans HZ.out hb2.size)
    have HB2 := hid (HBW.out.trans (hb2.mono HBW.out.size))
    have f0 := (hb2.cell (p := ⟨gr, 0, none⟩) hgl).trans HFA.out
    have f2 := (hb2.cell (p := ⟨gr, 2, none⟩) hgl).trans HFB.out
    have hgl2 : gr < w2.heap.size := Nat.lt_of_lt_of_le hgl hb2.size
    clear hgl hb2 f6 x0 x1 x2 x3 x4 x5 x6 x7
    have hgl := hgl2
    clear hgl2
    cases bf with
    | false =>
      go_wp2_with fail
      go_ret
      exact ⟨rfl, RDrvE.up (F := G) (w := w) H2.out, Only.of_new HB2.out⟩
    | true =>
      go_upto_region 5 with fail
      refine Org.begin [] (fun w' => Below w2.heap.size w2 w') [0, 1, 2, 3, 4, 5, 6, 7, 8, 9, 10, 11] (by kernel_rfl) (below_drewN (Below.refl _ _) 1) (fun hS => ?_)
      (refine Org.yes (v := ?_) rfl (by kernel_rfl) (by kernel_rfl) (by kernel_rfl) (by kernel_rfl) (by kernel_rfl) (fun _ _ _ h => h) (by kernel_rfl) (SM.of hS) ?_ ?_; rotate_left; (focus (intro w hSw; (try dsimp only at hSw); refine Pure.val ?_; go_simp; (try with_reducible rfl); done)); try simp only [Act.put, List.setIfInBounds_toArray, List.set_cons_zero, List.set_cons_succ])
      (refine Org.yes (v := ?_) rfl (by kernel_rfl) (by kernel_rfl) (by kernel_rfl) (by kernel_rfl) (by kernel_rfl) (fun _ _ _ h => h) (by kernel_rfl) (SM.of hS) ?_ ?_; rotate_left; (focus (intro w hSw; (try dsimp only at hSw); refine Pure.val ?_; go_simp; (try with_reducible rfl); done)); try simp only [Act.put, List.setIfInBounds_toArray, List.set_cons_zero, List.set_cons_succ])
      (refine Org.yes (v := ?_) rfl (by kernel_rfl) (by kernel_rfl) (by kernel_rfl) (by kernel_rfl) (by kernel_rfl) (fun _ _ _ h => h) (by kernel_rfl) (SM.of hS) ?_ ?_; rotate_left; (focus (intro w hSw; (try dsimp only at hSw); refine Pure.val ?_; go_simp; (try with_reducible rfl); done)); try simp only [Act.put, List.setIfInBounds_toArray, List.set_cons_zero, List.set_cons_succ])
      (refine Org.yes (v := ?_) rfl (by kernel_rfl) (by kernel_rfl) (by kernel_rfl) (by kernel_rfl) (by kernel_rfl) (fun _ _ _ h => h) (by kernel_rfl) (SM.of hS) ?_ ?_; rotate_left; (focus (intro w hSw; (try dsimp only at hSw); refine Pure.val ?_; go_simp; (try with_reducible rfl); done)); try simp only [Act.put, List.setIfInBounds_toArray, List.set_cons_zero, List.set_cons_succ])
      (refine Org.yes (v := ?_) rfl (by kernel_rfl) (by kernel_rfl) (by kernel_rfl) (by kernel_rfl) (by kernel_rfl) (fun _ _ _ h => h) (by kernel_rfl) (SM.of hS) ?_ ?_; rotate_left; (focus (intro w hSw; (try dsimp only at hSw); have q0 := (hSw.cell (p := ⟨gr, 0, none⟩) hgl).trans f0; refine Pure.val ?_; go_simp; (try with_reducible rfl); done)); try simp only [Act.put, List.setIfInBounds_toArray, List.set_cons_zero, List.set_cons_succ])
      (refine Org.yes (v := ?_) rfl (by kernel_rfl) (by kernel_rfl) (by kernel_rfl) (by kernel_rfl) (by kernel_rfl) (fun _ _ _ h => h) (by kernel_rfl) (SM.of hS) ?_ ?_; rotate_left; (focus (intro w hSw; (try dsimp only at hSw); refine Pure.val ?_; go_simp; (try with_reducible rfl); done)); try simp only [Act.put, List.setIfInBounds_toArray, List.set_cons_zero, List.set_cons_succ])
      (refine Org.yes (v := ?_) rfl (by kernel_rfl) (by kernel_rfl) (by kernel_rfl) (by kernel_rfl) (by kernel_rfl) (fun _ _ _ h => h) (by kernel_rfl) (SM.of hS) ?_ ?_; rotate_left; (focus (intro w hSw; (try dsimp only at hSw); refine Pure.val ?_; go_simp; (try with_reducible rfl); done)); try simp only [Act.put, List.setIfInBounds_toArray, List.set_cons_zero, List.set_cons_succ])
      (refine Org.yes (v := ?_) rfl (by kernel_rfl) (by kernel_rfl) (by kernel_rfl) (by kernel_rfl) (by kernel_rfl) (fun _ _ _ h => h) (by kernel_rfl) (SM.of hS) ?_ ?_; rotate_left; (focus (intro w hSw; (try dsimp only at hSw); refine Pure.val ?_; go_simp; (try with_reducible rfl); done)); try simp only [Act.put, List.setIfInBounds_toArray, List.set_cons_zero, List.set_cons_succ])
      (refine Org.yes (v := ?_) rfl (by kernel_rfl) (by kernel_rfl) (by kernel_rfl) (by kernel_rfl) (by kernel_rfl) (fun _ _ _ h => h) (by kernel_rfl) (SM.of hS) ?_ ?_; rotate_left; (focus (intro w hSw; (try dsimp only at hSw); have q2 := (hSw.cell (p := ⟨gr, 2, none⟩) hgl).trans f2; refine Pure.val ?_; go_simp; (try with_reducible rfl); done)); try simp only [Act.put, List.setIfInBounds_toArray, List.set_cons_zero, List.set_cons_succ])
      (refine Org.yes (v := ?_) rfl (by kernel_rfl) (by kernel_rfl) (by kernel_rfl) (by kernel_rfl) (by kernel_rfl) (fun _ _ _ h => h) (by kernel_rfl) (SM.of hS) ?_ ?_; rotate_left; (focus (intro w hSw; (try dsimp only at hSw); refine Pure.val ?_; go_simp; (try with_reducible rfl); done)); try simp only [Act.put, List.setIfInBounds_toArray, List.set_cons_zero, List.set_cons_succ])
      (refine Org.yes (v := ?_) rfl (by kernel_rfl) (by kernel_rfl) (by kernel_rfl) (by kernel_rfl) (by kernel_rfl) (fun _ _ _ h => h) (by kernel_rfl) (SM.of hS) ?_ ?_; rotate_left; (focus (intro w hSw; (try dsimp only at hSw); refine Pure.val ?_; go_simp; (try with_reducible rfl); done)); try simp only [Act.put, List.setIfInBounds_toArray, List.set_cons_zero, List.set_cons_succ])
      (refine Org.yes (v := ?_) rfl (by kernel_rfl) (by kernel_rfl) (by kernel_rfl) (by kernel_rfl) (by kernel_rfl) (fun _ _ _ h => h) (by kernel_rfl) (SM.of hS) ?_ ?_; rotate_left; (focus (intro w hSw; (try dsimp only at hSw); refine Pure.val ?_; go_simp; (try with_reducible rfl); done)); try simp only [Act.put, List.setIfInBounds_toArray, List.set_cons_zero, List.set_cons_succ])
      refine Org.done (by kernel_rfl) ?_
      have HS5 := hid hS
      clear hS
      by_cases hle : n ≤ ra
      · rw [decide_eq_true hle]
        go_wp2_with fail
        go_ret
        exact ⟨rfl, RDrvE.up (F := G) (w := w) (H2.out.new_ HS5.out), Only.of_new (HB2.out.trans (HS5.out.mono HB2.out.size))⟩
      · rw [decide_eq_false hle]
        have H5 := hid (H2.out.new_ HS5.out)
        have HB5 := hid (HB2.out.trans (HS5.out.mono HB2.out.size))
        have HM5 := hid (HM2.out.below (HS5.out.mono HZ2.out))
        have HZ5 := hid (Nat.le_trans HZ2.out HS5.out.size)
        have HX5 := hid (HX2.out.below HS5.out HX2.out.lt)
        clear HS5 f0 f2
        have hr := HX5.out
        have x0 := hr.cell 0
        have x1 := hr.cell 1
        have x2 := hr.cell 2
        have x3 := hr.cell 3
        have x4 := hr.cell 4
        have x5 := hr.cell 5
        have x6 := hr.cell 6
        have x7 := hr.cell 7
        simp only [List.getElem?_cons_succ, List.getElem?_cons_zero] at x0 x1 x2 x3 x4 x5 x6 x7
        clear hr
        go_wp2_with fail
        refine (refkeep_any G gr qg d mk m B Ad Ao nd cd no co ts _ H5.out hok HM5.out HZ5.out hno h64 hnm).mono ?_
        rintro e w6 ⟨Ak, ck, vk, rfl, hk, hbk⟩
        obtain ⟨nk, hnk⟩ : ∃ q, (keepL m d.L).length = q := ⟨_, rfl⟩
        rw [hnk] at hkl hk ⊢
        have HNK := hid hnk
        have HB6 := hid (HB5.out.trans (hbk.mono HB5.out.size))
        have H6 := hid (H5.out.new_ hbk)
        have HL6 := hid (Lst.of_own hk (F := fun k => w.heap.size ≤ k ∧ k < w6.heap.size) (fun k h1 h2 => ⟨Nat.le_trans HB5.out.size h1, h2⟩))
        clear hk hbk hnk x0 x1 x2 x3 x4 x5 x6 x7
        go_wp2_with fail
        refine (rrewrite_any G (fun k => w.heap.size ≤ k ∧ k < w6.heap.size) gr qg d mk Ak (keepL m d.L) vk nk ck w6 H6.out hok hmk HL6.out (fun k hk hf => by have := HF.out k hf; omega) HNK.out (by omega) (keepL_64 m d.L)).mono ?_
        rintro e w7 ⟨rfl, hd7, ho7⟩
        go_wp2_with fail
        go_ret
        exact ⟨rfl, hd7.widen2 HB6.out.size (Nat.le_refl _), (Only.of_new HB6.out).trans ho7 (fun k _ hk => hk)⟩
end Go.Proofs.YtlfmfhdgnmchgaaGreat

