/- ScanKeep -/
import Derived.Test.YtlfmfhdgnmchgaaBRoomLess10
import Derived.Test.YtlfmfhdgnmchgaaBRoomLess19
import Derived.Test.YtlfmfhdgnmchgaaBRoomLess31
import Derived.Test.YtlfmfhdgnmchgaaBRoomLess34
import Derived.Test.YtlfmfhdgnmchgaaBRoomLess42
set_option maxRecDepth 20000
set_option linter.unusedSimpArgs false
set_option linter.unusedVariables false
namespace Go.Proofs.Ytlfmfhdgnmchgaa
open Go.RowKit Wells
theorem OBs.app {base : Nat} {w w' : World} {v v2 v' : Value} {vs vs2 : List Value} {ls ls2 : List (List Byte)} {n : Nat} (h : OBs base w v vs ls) (h2 : OBs base w v2 vs2 ls2)
    (ho : w'.ownsRow base 45 1 v' n (vs ++ vs2)) (hg : w.grownBy w' v.ownBlock) : OBs base w' v' (vs ++ vs2) (ls ++ ls2) := by
  have hlen : vs.length = ls.length := by have := h.own.1; omega
  have hlen2 : vs2.length = ls2.length := by have := h2.own.1; omega
  have hn : n = (ls ++ ls2).length := by have := ho.1; simp only [List.length_append] at this ⊢; omega
  subst hn
  refine ⟨ho, fun i hi => ?_⟩
  rw [List.length_append] at hi
  by_cases hlt : i < ls.length
  · rw [List.getD_eq_getElem?_getD, List.getD_eq_getElem?_getD, List.getElem?_append_left (by omega), List.getElem?_append_left hlt, ← List.getD_eq_getElem?_getD, ← List.getD_eq_getElem?_getD]
    exact (h.at_ i hlt).keep hg (own_other (h.at_ i hlt) h.own (by decide))
  · rw [List.getD_eq_getElem?_getD, List.getD_eq_getElem?_getD, List.getElem?_append_right (by omega), List.getElem?_append_right (by omega), hlen, ← List.getD_eq_getElem?_getD, ← List.getD_eq_getElem?_getD]
    exact (h2.at_ _ (by omega)).keep hg (own_other (h2.at_ _ (by omega)) h.own (by decide))
theorem obs_one {base : Nat} {w : World} {v : Value} {vs : List Value} {ls : List (List Byte)} (h : OBs base w v vs ls) : ∀ u ∈ vs, u.oneCell' = true := by
  intro u hu
  obtain ⟨l, hl⟩ := h.elem hu
  obtain ⟨A, c, rfl, _⟩ := own_slice hl
  rfl
/-- the cells that a drive has to have -/
def keepL (m : Mani) (l : List (List Byte)) : List (List Byte) := pagesL m.seq (pack m) ++ (recsL m l).map putR
def KeepR (m : Mani) (l : List (List Byte)) (w : World) (e : Ending) (w' : World) : Prop :=
  ∃ (A : Option Addr) (c : Nat) (vs : List Value), e = .returned (.slice A (keepL m l).length c) ∧ OBs w.heap.size w' (.slice A (keepL m l).length c) vs (keepL m l) ∧ Below w.heap.size w w'
theorem flat_le {es : List Ent} (h : ∀ e ∈ es, (packE e).length ≤ 26) : (es.flatMap packE).length ≤ 26 * es.length := by
  induction es with
  | nil => exact Nat.le_refl _
  | cons e es ih =>
    have h1 := h e (by simp)
    have h2 := ih (fun x hx => h x (List.mem_cons_of_mem _ hx))
    rw [List.flatMap_cons, List.length_append, List.length_cons]
    omega
theorem pack_max (m : Mani) : (pack m).length ≤ 400 := by
  unfold pack
  split
  · rename_i hm
    have hp := may_p hm
    have h1 := flat_le (es := m.objs) (fun e he => by
      obtain ⟨i, hi, rfl⟩ := List.getElem_of_mem he
      have := ent_at hp hi
      rw [List.getD_eq_getElem?_getD, List.getElem?_eq_getElem hi] at this
      exact packE_len this)
    have h2 := hp.olen
    have h3 := rise_len hp.drives
    unfold packL packH
    simp only [List.length_append, List.length_map, highL_len, List.length_singleton, List.length_cons, List.length_nil]
    omega
  · exact Nat.zero_le _
theorem pages_le (m : Mani) : (pagesL m.seq (pack m)).length ≤ 9 := by
  have := pack_max m
  rw [pagesL_len]; unfold pageN; omega
set_option maxRecDepth 20000 in
set_option maxHeartbeats 4000000 in
theorem keep_any (F : Nat → Prop) (g pg : Nat) (d : Dr) (mk : Nat) (m : Mani) (B : Nat) (Ad Ao : Option Addr) (nd cd no co : Nat) (ts : List Value) (w : World) (h : DrvE F w g pg d) (hok : DOk mk d) (hm : RM w B m Ad nd cd Ao no co ts) (hB : B ≤ w.heap.size) (hno : no ≤ 9223372036854775807) (h64 : M64 m) (hnm : ∀ e ∈ m.objs, e.name.length ≤ 1048576) :
    Calls Try.prog 31 #[.pointer (some ⟨g, 0, none⟩), m.val (.slice Ad nd cd) (.slice Ao no co)] w (KeepR m d.L w) := by
  have hb : Below w.heap.size w (w.alloc (.cells #[.int .i64 m.seq, .int .i64 m.next, .int .i64 m.P.K, .int .i64 m.P.H, .int .i64 m.P.S, .int .i64 m.extra, .slice Ad nd cd, .slice Ao no co] 27)) := (Below.refl _ _).alloc (Nat.le_refl _) _
  have H1 := hid (h.new_ hb)
  have hx := Row.new w 27 #[.int .i64 m.seq, .int .i64 m.next, .int .i64 m.P.K, .int .i64 m.P.H, .int .i64 m.P.S, .int .i64 m.extra, .slice Ad nd cd, .slice Ao no co]
  have HX := hid hx
  have HM := hid (hm.below (hb.mono hB))
  have HBW := hid hb
  have hll := hok.len
  have hrm := hok.room
  have hrl : (recsL m d.L).length ≤ 512 := by
    unfold recsL
    have h1 := cpt_length (lt := ltR) (ssort ltR (cntL m d.L))
    rw [ssort_length] at h1
    have h2 := cntL_length m d.L
    omega
  have hpl := pages_le m
  have HLEN := hid (show (pagesL m.seq (pack m) ++ (recsL m d.L).map putR).length ≤ 9223372036854775807 ∧ (pagesL m.seq (pack m) ++ (recsL m d.L).map putR).length * 24 ≤ 140737488355328 by rw [List.length_append, List.length_map]; omega)
  obtain ⟨ibs, hibs, hzb0, hzb1, hzb2⟩ := info_parts infoBs
  unfold KeepR keepL
  obtain ⟨NK, hNK⟩ : ∃ NK, (pagesL m.seq (pack m) ++ (recsL m d.L).map putR).length = NK := ⟨_, rfl⟩
  have HNK := hid hNK
  have hlen := HLEN.out
  rw [hNK] at hlen ⊢
  clear HLEN hNK
  clear hb h hm hx hll hrm hrl hpl
  unfold Mani.val
  go_enter Try.func31, Try.ntmps31
  go_upto_region 1 with fail
  generalize w.alloc (.cells #[.int .i64 m.seq, .int .i64 m.next, .int .i64 m.P.K, .int .i64 m.P.H, .int .i64 m.P.S, .int .i64 m.extra, .slice Ad nd cd, .slice Ao no co] 27) = w1 at *
  refine Org.begin [] (fun w' => Below w1.heap.size w1 w') [0, 2, 3, 1, 4, 5, 6] (by kernel_rfl) (below_drewN (Below.refl _ _) 1) (fun hS => ?_)
  (refine Org.yes (v := ?_) rfl (by kernel_rfl) (by kernel_rfl) (by kernel_rfl) (by kernel_rfl) (by kernel_rfl) (fun _ _ _ h => h) (by kernel_rfl) (SM.of hS) ?_ ?_; rotate_left; (focus (intro w hSw; (try dsimp only at hSw); have hr := HX.out.below hSw HX.out.lt; have x0 := hr.cell 0; have x1 := hr.cell 1; have x2 := hr.cell 2; have x3 := hr.cell 3; have x4 := hr.cell 4; have x5 := hr.cell 5; have x6 := hr.cell 6; have x7 := hr.cell 7; simp only [List.getElem?_cons_succ, List.getElem?_cons_zero] at x0 x1 x2 x3 x4 x5 x6 x7; refine Pure.val ?_; go_simp; (try with_reducible rfl); done)); try simp only [Act.put, List.setIfInBounds_toArray, List.set_cons_zero, List.set_cons_succ])
  (refine Org.yes (v := ?_) rfl (by kernel_rfl) (by kernel_rfl) (by kernel_rfl) (by kernel_rfl) (by kernel_rfl) (fun _ _ _ h => h) (by kernel_rfl) (SM.of hS) ?_ ?_; rotate_left; (focus (intro w hSw; (try dsimp only at hSw); refine Pure.val ?_; go_simp; (try with_reducible rfl); done)); try simp only [Act.put, List.setIfInBounds_toArray, List.set_cons_zero, List.set_cons_succ])
  (refine Org.yes (v := ?_) rfl (by kernel_rfl) (by kernel_rfl) (by kernel_rfl) (by kernel_rfl) (by kernel_rfl) (fun _ _ _ h => h) (by kernel_rfl) (SM.of hS) ?_ ?_; rotate_left; (focus (intro w hSw; (try dsimp only at hSw); have hr := HX.out.below hSw HX.out.lt; have x0 := hr.cell 0; have x1 := hr.cell 1; have x2 := hr.cell 2; have x3 := hr.cell 3; have x4 := hr.cell 4; have x5 := hr.cell 5; have x6 := hr.cell 6; have x7 := hr.cell 7; simp only [List.getElem?_cons_succ, List.getElem?_cons_zero] at x0 x1 x2 x3 x4 x5 x6 x7; refine Pure.val ?_; go_simp; (try with_reducible rfl); done)); try simp only [Act.put, List.setIfInBounds_toArray, List.set_cons_zero, List.set_cons_succ])
  refine Org.go rfl (by kernel_rfl) (by kernel_rfl) (fun K hK => ?_)
  go_simp
  go_at_call 45
  refine (psplit_any m B Ad Ao nd cd no co ts _ (HM.out.below (hS.mono (Nat.le_trans hB HBW.out.size))) (Nat.le_trans (Nat.le_trans hB HBW.out.size) hS.size) h64 hnm).mono ?_
  rintro e wp ⟨Ap, cp, vsp, rfl, hop, hbp⟩
  have HOP := hid (hop.base hS.size)
  have HBP := hid hbp
  clear hop hbp
  go_wp2_with fail
  refine hK.out _ _ (hS.trans (HBP.out.mono hS.size)) (fun hS2 => ?_)
  clear hK K hS
  have hS := hS2
  clear hS2
  try simp only [Act.put, List.setIfInBounds_toArray, List.set_cons_zero, List.set_cons_succ]
  refine Org.go rfl (by kernel_rfl) (by kernel_rfl) (fun K hK => ?_)
  go_simp
  go_at_call 46
  refine (cells_any F g pg d mk m B Ad Ao nd cd no co ts _ (H1.out.new_ (hS.mono (Nat.le_refl _))) hok (HM.out.below (hS.mono (Nat.le_trans hB HBW.out.size))) (Nat.le_trans (Nat.le_trans hB HBW.out.size) hS.size) hno).mono ?_
  rintro e wc ⟨Ac, n, cc, vsc, rfl, hn, hoc, hbc⟩
  have HN := hid hn.symm
  clear hn
  have HOC := hid (hoc.base hS.size)
  have HBC := hid hbc
  clear hoc hbc
  go_wp2_with fail
  refine hK.out _ _ (hS.trans (HBC.out.mono hS.size)) (fun hS2 => ?_)
  clear hK K hS
  have hS := hS2
  clear hS2
  try simp only [Act.put, List.setIfInBounds_toArray, List.set_cons_zero, List.set_cons_succ]
  refine Org.go rfl (by kernel_rfl) (by kernel_rfl) (fun K hK => ?_)
  have HP := hid (by first | exact HOP.out.below HBC.out | exact HOP.out : OBs w1.heap.size _ (.slice Ap (pagesL m.seq (pack m)).length cp) vsp (pagesL m.seq (pack m)))
  have HC := hid (by first | exact HOC.out.below HBP.out | exact HOC.out : OBs w1.heap.size _ (.slice Ac n cc) vsc ((recsL m d.L).map putR))
  have howc := HC.out.own
  rw [HN.out] at howc
  refine op_append (.tmp 6) (.tmp 9) 29 rfl w1.heap.size 45 ibs (.slice none 0 0) 1 24 Try.underlying29 hibs hzb0 hzb1 hzb2 rfl (by omega) (.slice Ap (pagesL m.seq (pack m)).length cp) (pagesL m.seq (pack m)).length vsp rfl HP.out.own _ Ac n cc vsc rfl (Sl.own howc) (obs_one HC.out) NK (by rw [← HNK.out, List.length_append, HN.out]) _ rfl hlen.1 hlen.2 hS.size ?_
  rintro A7 c7 w7 ho7 hg7 _
  have hps := OBs.app HP.out HC.out ho7 hg7
  have hb7 := below_own hS HP.out.own hg7 (Nat.le_refl _) hS.size
  have HPS := hid hps
  have HB7 := hid hb7
  clear hps hb7 ho7 hg7 howc
  refine hK.out _ _ HB7.out (fun hS2 => ?_)
  clear hK K hS
  have hS := hS2
  clear hS2
  try simp only [Act.put, List.setIfInBounds_toArray, List.set_cons_zero, List.set_cons_succ]
  (refine Org.yes (v := ?_) rfl (by kernel_rfl) (by kernel_rfl) (by kernel_rfl) (by kernel_rfl) (by kernel_rfl) (fun _ _ _ h => h) (by kernel_rfl) (SM.of hS) ?_ ?_; rotate_left; (focus (intro w hSw; (try dsimp only at hSw); refine Pure.val ?_; go_simp; (try with_reducible rfl); done)); try simp only [Act.put, List.setIfInBounds_toArray, List.set_cons_zero, List.set_cons_succ])
  refine Org.done (by kernel_rfl) ?_
  go_wp2_with fail
  go_ret
  exact ⟨A7, c7, _, rfl, HPS.out.base HBW.out.size, HBW.out.trans (HB7.out.mono HBW.out.size)⟩
end Go.Proofs.Ytlfmfhdgnmchgaa

