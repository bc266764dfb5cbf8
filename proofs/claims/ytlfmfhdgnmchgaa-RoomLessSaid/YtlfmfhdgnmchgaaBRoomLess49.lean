/- Room Wakes28 -/
import Derived.Test.YtlfmfhdgnmchgaaBRoomLess11
import Derived.Test.YtlfmfhdgnmchgaaBRoomLess34
import Derived.Test.YtlfmfhdgnmchgaaBRoomLess36
import Derived.Test.YtlfmfhdgnmchgaaBRoomLess43
import Derived.Test.YtlfmfhdgnmchgaaBRoomLess48
set_option maxRecDepth 20000
set_option linter.unusedSimpArgs false
set_option linter.unusedVariables false
namespace Go.Proofs.Ytlfmfhdgnmchgaa
open Go.RowKit Wells
def behB (d : Dr) (t : Nat) (n : Int) : Bool := decide (max n 0 ≤ (d.room : Int) - (t : Int))
def fitsM (m : Mani) (d : Dr) (n : Int) : Bool := !d.lost && (behB d d.L.length n || behB d (keepL m d.L).length n)
def makeD (m : Mani) (d : Dr) (n : Int) : Dr × Int := if d.lost then (d, 5) else if fitsM m d n then (if behB d d.L.length n then (d, 0) else d.rewrite (keepL m d.L)) else (d, 7)
theorem mem_recsL {m : Mani} {l : List (List Byte)} {r : Rec} (h : r ∈ recsL m l) : (∃ c ∈ l, takeR c = some r) ∧ countsM m r = true := by
  unfold recsL cntL at h
  have h1 := mem_ssort.1 (mem_cpt h)
  obtain ⟨h2, h3⟩ := List.mem_filter.1 h1
  obtain ⟨c, hc, hr⟩ := List.mem_filterMap.1 h2
  exact ⟨⟨c, hc, hr⟩, h3⟩
theorem keepL_64 (m : Mani) (l : List (List Byte)) : ∀ x ∈ keepL m l, x.length = 64 := by
  intro x hx
  unfold keepL at hx
  rcases List.mem_append.1 hx with h | h
  · exact pagesL_64 _ _ x h
  · obtain ⟨r, hr, rfl⟩ := List.mem_map.1 h
    obtain ⟨⟨c, _, hc⟩, _⟩ := mem_recsL hr
    exact putR_len (takeR_some hc).1
theorem recsL_len (m : Mani) (l : List (List Byte)) : (recsL m l).length ≤ l.length := by
  unfold recsL
  have h1 := cpt_length (lt := ltR) (ssort ltR (cntL m l))
  rw [ssort_length] at h1
  have h2 := cntL_length m l
  omega
theorem keepL_len (m : Mani) (l : List (List Byte)) : (keepL m l).length ≤ 9 + l.length := by
  unfold keepL
  rw [List.length_append, List.length_map]
  have h1 := pages_le m
  have h2 := recsL_len m l
  omega
theorem behind_any (F : Nat → Prop) (g pg : Nat) (d : Dr) (t : Nat) (n : Int) (b : Bool) (w : World) (h : DrvE F w g pg d) (ht : t ≤ 1000000) (hr : d.room ≤ 512) (hn : -9223372036854775808 ≤ n ∧ n ≤ 9223372036854775807) (hb : behB d t n = b) :
    Calls Try.prog 29 #[.pointer (some ⟨g, 0, none⟩), .int .i64 (t : Int), .int .i64 n] w fun e w' => e = .returned (.bool b) ∧ w = w' := by
  have HH := hid h
  obtain ⟨mx, hmx⟩ : ∃ x, max n 0 = x := ⟨_, rfl⟩
  unfold behB at hb
  rw [hmx] at hb
  have HB := hid hb
  clear h hb
  go_enter Try.func29, Try.ntmps29
  go_wp2_with fail
  refine (droom_any F g pg d w HH.out).mono ?_
  rintro e w' ⟨rfl, rfl⟩
  go_wp2_with fail
  go_ret
  exact ⟨ret_bool HB.out, rfl⟩
set_option maxRecDepth 20000 in
set_option maxHeartbeats 4000000 in
theorem fits_any (F : Nat → Prop) (g pg : Nat) (d : Dr) (mk : Nat) (m : Mani) (B : Nat) (Ad Ao : Option Addr) (nd cd no co : Nat) (ts : List Value) (n : Int) (b : Bool) (w : World) (h : DrvE F w g pg d) (hok : DOk mk d) (hm : RM w B m Ad nd cd Ao no co ts) (hB : B ≤ w.heap.size) (hno : no ≤ 9223372036854775807) (h64 : M64 m) (hnm : ∀ e ∈ m.objs, e.name.length ≤ 1048576) (hn : -9223372036854775808 ≤ n ∧ n ≤ 9223372036854775807) (hb : fitsM m d n = b) :
    Calls Try.prog 8 #[.pointer (some ⟨g, 0, none⟩), m.val (.slice Ad nd cd) (.slice Ao no co), .int .i64 n] w fun e w' => e = .returned (.bool b) ∧ Below w.heap.size w w' := by
  have hbw : Below w.heap.size w (w.alloc (.cells #[.int .i64 m.seq, .int .i64 m.next, .int .i64 m.P.K, .int .i64 m.P.H, .int .i64 m.P.S, .int .i64 m.extra, .slice Ad nd cd, .slice Ao no co] 27)) := (Below.refl _ _).alloc (Nat.le_refl _) _
  have H1 := hid (h.new_ hbw)
  have hx := Row.new w 27 #[.int .i64 m.seq, .int .i64 m.next, .int .i64 m.P.K, .int .i64 m.P.H, .int .i64 m.P.S, .int .i64 m.extra, .slice Ad nd cd, .slice Ao no co]
  have HM := hid (hm.below (hbw.mono hB))
  have HBW := hid hbw
  have hll := hok.len
  have hrm := hok.room
  have hkl := keepL_len m d.L
  have HB := hid hb
  have x0 := hx.cell 0
  have x1 := hx.cell 1
  have x2 := hx.cell 2
  have x3 := hx.cell 3
  have x4 := hx.cell 4
  have x5 := hx.cell 5
  have x6 := hx.cell 6
  have x7 := hx.cell 7
  simp only [List.getElem?_cons_succ, List.getElem?_cons_zero] at x0 x1 x2 x3 x4 x5 x6 x7
  obtain ⟨lo, hlo⟩ : ∃ q, d.lost = q := ⟨_, rfl⟩
  obtain ⟨b1, hb1⟩ : ∃ q, behB d d.L.length n = q := ⟨_, rfl⟩
  obtain ⟨b2, hb2⟩ : ∃ q, behB d (keepL m d.L).length n = q := ⟨_, rfl⟩
  have HZ := hid (Nat.le_trans hB hbw.size)
  have HV := hid (show (!lo && (b1 || b2)) = b by rw [← hlo, ← hb1, ← hb2]; exact hb)
  have HB1 := hid hb1
  have HB2 := hid hb2
  have HLO := hid hlo
  clear h hm hbw hb hx hb1 hb2 hlo
  unfold Mani.val
  go_enter Try.func8, Try.ntmps8
  go_wp2_with fail
  generalize w.alloc (.cells #[.int .i64 m.seq, .int .i64 m.next, .int .i64 m.P.K, .int .i64 m.P.H, .int .i64 m.P.S, .int .i64 m.extra, .slice Ad nd cd, .slice Ao no co] 27) = w1 at *
  refine (dlost_any F g pg d w1 H1.out).mono ?_
  rintro e w' ⟨rfl, rfl⟩
  rw [HLO.out]
  cases lo with
  | true =>
    have hbf : b = false := by rw [← HV.out]; rfl
    subst hbf
    go_wp2_with fail
    go_ret
    exact ⟨rfl, HBW.out⟩
  | false =>
    go_wp2_with fail
    refine (dlen_any F g pg d w1 H1.out).mono ?_
    rintro e w' ⟨rfl, rfl⟩
    obtain ⟨L, hL⟩ : ∃ L, d.L.length = L := ⟨_, rfl⟩
    have HL := hid hL
    rw [hL] at hll hkl ⊢
    clear hL
    go_wp2_with fail
    refine (behind_any F g pg d L n b1 w1 H1.out (by omega) hrm.2 hn (by rw [← HL.out]; exact HB1.out)).mono ?_
    rintro e w' ⟨rfl, rfl⟩
    cases b1 with
    | true =>
      have hbf : b = true := by rw [← HV.out]; rfl
      subst hbf
      go_wp2_with fail
      go_ret
      exact ⟨rfl, HBW.out⟩
    | false =>
      have hbf : b2 = b := by rw [← HV.out]; rfl
      subst hbf
      go_wp2_with fail
      refine (keep_any F g pg d mk m B Ad Ao nd cd no co ts w1 H1.out hok HM.out HZ.out hno h64 hnm).mono ?_
      rintro e w2 ⟨Ak, ck, vk, rfl, hk, hbk⟩
      obtain ⟨nk, hnk⟩ : ∃ q, (keepL m d.L).length = q := ⟨_, rfl⟩
      rw [hnk] at hkl ⊢
      have HNK := hid hnk
      have HB3 := hid (HBW.out.trans (hbk.mono HBW.out.size))
      have H2 := hid (H1.out.new_ hbk)
      clear hk hbk hnk x0 x1 x2 x3 x4 x5 x6 x7
      go_wp2_with fail
      refine (behind_any F g pg d nk n b2 w2 H2.out (by omega) hrm.2 hn (by rw [← HNK.out]; exact HB2.out)).mono ?_
      rintro e w' ⟨rfl, rfl⟩
      go_wp2_with fail
      go_ret
      exact ⟨rfl, HB3.out⟩
def MakeR (m : Mani) (d : Dr) (n : Int) (F : Nat → Prop) (g pg : Nat) (w : World) (e : Ending) (w' : World) : Prop :=
  e = .returned (.int .i64 (makeD m d n).2) ∧ DrvE (Ext F w w') w' g pg (makeD m d n).1 ∧ Only F w w'
set_option maxRecDepth 20000 in
set_option maxHeartbeats 4000000 in
theorem make_any (F : Nat → Prop) (g pg : Nat) (d : Dr) (mk : Nat) (m : Mani) (B : Nat) (Ad Ao : Option Addr) (nd cd no co : Nat) (ts : List Value) (n : Int) (w : World) (h : DrvE F w g pg d) (hok : DOk mk d) (hmk : mk ≤ 1000000) (hm : RM w B m Ad nd cd Ao no co ts) (hB : B ≤ w.heap.size) (hno : no ≤ 9223372036854775807) (h64 : M64 m) (hnm : ∀ e ∈ m.objs, e.name.length ≤ 1048576) (hn : -9223372036854775808 ≤ n ∧ n ≤ 9223372036854775807) :
    Calls Try.prog 10 #[.pointer (some ⟨g, 0, none⟩), m.val (.slice Ad nd cd) (.slice Ao no co), .int .i64 n] w (MakeR m d n F g pg w) := by
  have hbw : Below w.heap.size w (w.alloc (.cells #[.int .i64 m.seq, .int .i64 m.next, .int .i64 m.P.K, .int .i64 m.P.H, .int .i64 m.P.S, .int .i64 m.extra, .slice Ad nd cd, .slice Ao no co] 27)) := (Below.refl _ _).alloc (Nat.le_refl _) _
  have H1 := hid (h.new_ hbw)
  have hx := Row.new w 27 #[.int .i64 m.seq, .int .i64 m.next, .int .i64 m.P.K, .int .i64 m.P.H, .int .i64 m.P.S, .int .i64 m.extra, .slice Ad nd cd, .slice Ao no co]
  have HX := hid hx
  have HM := hid (hm.below (hbw.mono hB))
  have HBW := hid hbw
  have hll := hok.len
  have hrm := hok.room
  have hkl := keepL_len m d.L
  have x0 := hx.cell 0
  have x1 := hx.cell 1
  have x2 := hx.cell 2
  have x3 := hx.cell 3
  have x4 := hx.cell 4
  have x5 := hx.cell 5
  have x6 := hx.cell 6
  have x7 := hx.cell 7
  simp only [List.getElem?_cons_succ, List.getElem?_cons_zero] at x0 x1 x2 x3 x4 x5 x6 x7
  obtain ⟨lo, hlo⟩ : ∃ q, d.lost = q := ⟨_, rfl⟩
  obtain ⟨b1, hb1⟩ : ∃ q, behB d d.L.length n = q := ⟨_, rfl⟩
  obtain ⟨bf, hbf⟩ : ∃ q, fitsM m d n = q := ⟨_, rfl⟩
  have HZ := hid (Nat.le_trans hB hbw.size)
  have HB1 := hid hb1
  have HBF := hid hbf
  have HLO := hid hlo
  have HMD := hid (show makeD m d n = (if lo then (d, 5) else if bf then (if b1 then (d, 0) else d.rewrite (keepL m d.L)) else (d, 7)) by unfold makeD; rw [hlo, hbf, hb1])
  have HF := hid h.ltp
  clear h hm hbw hx hb1 hbf hlo
  unfold MakeR
  rw [HMD.out]
  unfold Mani.val
  go_enter Try.func10, Try.ntmps10
  go_wp2_with fail
  generalize w.alloc (.cells #[.int .i64 m.seq, .int .i64 m.next, .int .i64 m.P.K, .int .i64 m.P.H, .int .i64 m.P.S, .int .i64 m.extra, .slice Ad nd cd, .slice Ao no co] 27) = w1 at *
  refine (dlost_any F g pg d w1 H1.out).mono ?_
  rintro e w' ⟨rfl, rfl⟩
  rw [HLO.out]
  cases lo with
  | true =>
    go_wp2_with fail
    go_ret
    exact ⟨rfl, (DrvE.up H1.out).widen2 (Nat.le_refl _) (Nat.le_refl _) |>.widen2 HBW.out.size (Nat.le_refl _), Only.of_new HBW.out⟩
  | false =>
    go_wp2_with fail
    refine (fits_any F g pg d mk m B Ad Ao nd cd no co ts n bf w1 H1.out hok HM.out HZ.out hno h64 hnm hn HBF.out).mono ?_
    rintro e w2 ⟨rfl, hb2⟩
    have H2 := hid (H1.out.new_ hb2)
    have HM2 := hid (HM.out.below (hb2.mono HZ.out))
    have HZ2 := hid (Nat.le_trans HZ.out hb2.size)
    have HB2 := hid (HBW.out.trans (hb2.mono HBW.out.size))
    have hr2 := HX.out.below hb2 HX.out.lt
    clear x0 x1 x2 x3 x4 x5 x6 x7
    have x0 := hr2.cell 0
    have x1 := hr2.cell 1
    have x2 := hr2.cell 2
    have x3 := hr2.cell 3
    have x4 := hr2.cell 4
    have x5 := hr2.cell 5
    have x6 := hr2.cell 6
    have x7 := hr2.cell 7
    simp only [List.getElem?_cons_succ, List.getElem?_cons_zero] at x0 x1 x2 x3 x4 x5 x6 x7
    clear hb2 hr2
    cases bf with
    | false =>
      go_wp2_with fail
      go_ret
      exact ⟨rfl, (DrvE.up (F := F) (w := w2) H2.out).widen2 HB2.out.size (Nat.le_refl _), Only.of_new HB2.out⟩
    | true =>
      go_wp2_with fail
      refine (dlen_any F g pg d w2 H2.out).mono ?_
      rintro e w' ⟨rfl, rfl⟩
      obtain ⟨L, hL⟩ : ∃ L, d.L.length = L := ⟨_, rfl⟩
      have HL := hid hL
      rw [hL] at hll hkl ⊢
      clear hL
      go_wp2_with fail
      refine (behind_any F g pg d L n b1 w2 H2.out (by omega) hrm.2 hn (by rw [← HL.out]; exact HB1.out)).mono ?_
      rintro e w' ⟨rfl, rfl⟩
      cases b1 with
      | true =>
        go_wp2_with fail
        go_ret
        exact ⟨rfl, (DrvE.up (F := F) (w := w2) H2.out).widen2 HB2.out.size (Nat.le_refl _), Only.of_new HB2.out⟩
      | false =>
        go_wp2_with fail
        refine (keep_any F g pg d mk m B Ad Ao nd cd no co ts w2 H2.out hok HM2.out HZ2.out hno h64 hnm).mono ?_
        rintro e w3 ⟨Ak, ck, vk, rfl, hk, hbk⟩
        obtain ⟨nk, hnk⟩ : ∃ q, (keepL m d.L).length = q := ⟨_, rfl⟩
        rw [hnk] at hkl hk ⊢
        have HNK := hid hnk
        have HB3 := hid (HB2.out.trans (hbk.mono HB2.out.size))
        have H3 := hid (H2.out.new_ hbk)
        have HL3 := hid (Lst.of_own hk (F := fun k => w2.heap.size ≤ k ∧ k < w3.heap.size) (fun k h1 h2 => ⟨h1, h2⟩))
        clear hk hbk hnk x0 x1 x2 x3 x4 x5 x6 x7
        go_wp2_with fail
        refine (drewrite_any F (fun k => w2.heap.size ≤ k ∧ k < w3.heap.size) g pg d mk Ak (keepL m d.L) vk nk ck w3 H3.out hok hmk HL3.out (fun k hk hf => by have := HF.out k hf; have := HB2.out.size; omega) HNK.out (by omega) (keepL_64 m d.L)).mono ?_
        rintro e w4 ⟨rfl, hd4, ho4⟩
        go_wp2_with fail
        go_ret
        exact ⟨rfl, hd4.widen2 HB3.out.size (Nat.le_refl _), (Only.of_new HB3.out).trans ho4 (fun k _ hk => hk)⟩
end Go.Proofs.Ytlfmfhdgnmchgaa

namespace Go.Proofs.Ytlfmfhdgnmchgaa
open Go.RowKit Wells
theorem r28_5 : fitsM mani0 (Dr.new Pw.new 5) 5 = true := by
  unfold fitsM behB
  rw [decide_eq_true (show max (5 : Int) 0 ≤ ((Dr.new Pw.new 5).room : Int) - ((Dr.new Pw.new 5).L.length : Int) by decide)]
  rfl
theorem r28_6 : fitsM mani0 (Dr.new Pw.new 5) 6 = false := by
  unfold fitsM behB
  rw [decide_eq_false (show ¬ max (6 : Int) 0 ≤ ((Dr.new Pw.new 5).room : Int) - ((Dr.new Pw.new 5).L.length : Int) by decide), decide_eq_false]
  · rfl
  · have : ((Dr.new Pw.new 5).room : Int) = 5 := rfl
    omega
theorem r28_2 : (makeD mani0 (Dr.new Pw.new 5) 2).2 = 0 := by
  have h : behB (Dr.new Pw.new 5) (Dr.new Pw.new 5).L.length 2 = true := by unfold behB; decide
  have hf : fitsM mani0 (Dr.new Pw.new 5) 2 = true := by unfold fitsM; rw [h]; rfl
  unfold makeD
  rw [hf, h]
  rfl
set_option maxRecDepth 20000 in
set_option maxHeartbeats 4000000 in
theorem wakes28 (w : World) : Calls Try.prog 11 #[] w fun e w' => e = .returned (.bool true) ∧ Below w.heap.size w w' := by
  have HF5 := hid r28_5
  have HF6 := hid r28_6
  have HMK := hid r28_2
  have hr0 := Row.new w 3 #[.int .i64 3]
  have hb1 : Below w.heap.size w (w.alloc (.cells #[.int .i64 3] 3)) := (Below.refl _ _).alloc (Nat.le_refl _) _
  have hr1 := Row.new (w.alloc (.cells #[.int .i64 3] 3)) 27 #[.int .i64 1, .int .i64 0, .int .i64 1, .int .i64 1, .int .i64 1, .int .i64 0, .slice (some ⟨w.heap.size, 0, none⟩) 1 1, .slice none 0 0]
  have hr0' := hr0.alloc (.cells #[.int .i64 1, .int .i64 0, .int .i64 1, .int .i64 1, .int .i64 1, .int .i64 0, .slice (some ⟨w.heap.size, 0, none⟩) 1 1, .slice none 0 0] 27)
  have hb2 := hb1.alloc hb1.size (.cells #[.int .i64 1, .int .i64 0, .int .i64 1, .int .i64 1, .int .i64 1, .int .i64 0, .slice (some ⟨w.heap.size, 0, none⟩) 1 1, .slice none 0 0] 27)
  have hs0 := hr0'.sl (B := w.heap.size + 1) (m := 1) (by omega) (by simp)
  have hrm := mani0_rm (A := none) (c := 1) hs0 (by omega)
  have hg : (w.alloc (.cells #[.int .i64 3] 3)).heap.size = w.heap.size + 1 := by simp
  have hz2 : w.heap.size + 1 ≤ ((w.alloc (.cells #[.int .i64 3] 3)).alloc (.cells #[.int .i64 1, .int .i64 0, .int .i64 1, .int .i64 1, .int .i64 1, .int .i64 0, .slice (some ⟨w.heap.size, 0, none⟩) 1 1, .slice none 0 0] 27)).heap.size := by simp
  rw [hg] at hr1
  clear hr0 hb1 hr0' hs0 hg
  go_enter Try.func11, Try.ntmps11
  go_wp2_with fail
  generalize (w.alloc (.cells #[.int .i64 3] 3)).alloc (.cells #[.int .i64 1, .int .i64 0, .int .i64 1, .int .i64 1, .int .i64 1, .int .i64 0, .slice (some ⟨w.heap.size, 0, none⟩) 1 1, .slice none 0 0] 27) = w2 at *
  refine (pnew_any w2).mono ?_
  rintro e w3 ⟨pg, rfl, hpg, hp1, hb3⟩
  have hrm3 := hrm.below (hb3.mono hz2)
  have hr3 := hr1.below hb3 hr1.lt
  have hz3 := Nat.le_trans hz2 hb3.size
  have hb03 := hb2.trans (hb3.mono hb2.size)
  clear hrm hr1
  go_wp2_with fail
  refine (dnew_any 5 pg Pw.new w3 (by omega) (by omega) hp1).mono ?_
  rintro e w4 ⟨g, rfl, hg, hd4, hb4⟩
  have HFW := hid (show ∀ k, (k = g ∨ k = pg) → w.heap.size ≤ k from fun k hk => by rcases hk with rfl | rfl <;> omega)
  have HD := hid hd4
  have HM := hid (hrm3.below (hb4.mono hz3))
  have HX := hid (hr3.below hb4 hr3.lt)
  have HZ := hid (Nat.le_trans hz3 hb4.size)
  have HB4 := hid (hb03.trans (hb4.mono hb03.size))
  clear hd4 hrm3 hr3 hb4 hb03 hb3 hb2 hp1 hz2 hz3
  have hr := HX.out
  have x0 := hr.cell 0
  have x1 := hr.cell 1
  have x2 := hr.cell 2
  have x3 := hr.cell 3
  have x4 := hr.cell 4
  have x5 := hr.cell 5
  have x6 := hr.cell 6
  have x7 := hr.cell 7
  simp only [List.getElem?_cons_succ, List.getElem?_cons_zero] at x0 x1 x2 x3 x4 x5 x6 x7
  clear hr
  go_wp2_with fail
  refine (fits_any _ g pg _ 0 mani0 (w.heap.size + 1) _ _ _ _ _ _ _ 5 true w4 HD.out (DOk.new_ (by omega)) HM.out HZ.out (by omega) mani0_64 mani0_nm (by omega) HF5.out).mono ?_
  rintro e wz ⟨rfl, hbq⟩
  have HBwz := hid (hbq)
  clear hbq
  clear x0 x1 x2 x3 x4 x5 x6 x7
  have hr := HX.out.below HBwz.out HX.out.lt
  have x0 := hr.cell 0
  have x1 := hr.cell 1
  have x2 := hr.cell 2
  have x3 := hr.cell 3
  have x4 := hr.cell 4
  have x5 := hr.cell 5
  have x6 := hr.cell 6
  have x7 := hr.cell 7
  simp only [List.getElem?_cons_succ, List.getElem?_cons_zero] at x0 x1 x2 x3 x4 x5 x6 x7
  clear hr
  go_wp2_with fail
  refine (fits_any _ g pg _ 0 mani0 (w.heap.size + 1) _ _ _ _ _ _ _ 6 false wz (HD.out.new_ HBwz.out) (DOk.new_ (by omega)) (HM.out.below (HBwz.out.mono HZ.out)) (Nat.le_trans HZ.out HBwz.out.size) (by omega) mani0_64 mani0_nm (by omega) HF6.out).mono ?_
  rintro e wy ⟨rfl, hbq⟩
  have HBwy := hid (HBwz.out.trans (hbq.mono HBwz.out.size))
  clear hbq
  clear x0 x1 x2 x3 x4 x5 x6 x7
  have hr := HX.out.below HBwy.out HX.out.lt
  have x0 := hr.cell 0
  have x1 := hr.cell 1
  have x2 := hr.cell 2
  have x3 := hr.cell 3
  have x4 := hr.cell 4
  have x5 := hr.cell 5
  have x6 := hr.cell 6
  have x7 := hr.cell 7
  simp only [List.getElem?_cons_succ, List.getElem?_cons_zero] at x0 x1 x2 x3 x4 x5 x6 x7
  clear hr
  go_wp2_with fail
  refine (make_any _ g pg _ 0 mani0 (w.heap.size + 1) _ _ _ _ _ _ _ 2 wy (HD.out.new_ HBwy.out) (DOk.new_ (by omega)) (by omega) (HM.out.below (HBwy.out.mono HZ.out)) (Nat.le_trans HZ.out HBwy.out.size) (by omega) mani0_64 mani0_nm (by omega)).mono ?_
  rintro e wx ⟨rfl, -, ho3⟩
  rw [HMK.out]
  have HB3 := hid ((HB4.out.trans (HBwy.out.mono HB4.out.size)).trans (ho3.below HFW.out (Nat.le_trans HB4.out.size HBwy.out.size)))
  clear ho3
  clear x0 x1 x2 x3 x4 x5 x6 x7
  go_wp2_with fail
  go_ret
  exact ⟨rfl, HB3.out⟩
end Go.Proofs.Ytlfmfhdgnmchgaa

