/- ScanCells -/
import Derived.Test.YtlfmfhdgnmchgaaBRoomLess15
import Derived.Test.YtlfmfhdgnmchgaaBRoomLess41
set_option maxRecDepth 20000
set_option linter.unusedSimpArgs false
set_option linter.unusedVariables false
namespace Wells
open Go Go.RowKit
theorem flat8_get {α : Type} [Inhabited α] {enc : α → List Value} (hk : ∀ x, (enc x).length = 8) : ∀ (l : List α) (i j : Nat), i < l.length → j < 8 → (l.flatMap enc)[i * 8 + j]? = (enc l[i]!)[j]?
  | [], i, _, h, _ => absurd h (by simp)
  | x :: l, 0, j, _, hj => by
    rw [List.flatMap_cons, List.getElem?_append_left (by rw [hk]; omega)]
    simp
  | x :: l, i + 1, j, hi, hj => by
    rw [List.flatMap_cons, List.getElem?_append_right (by rw [hk]; omega), hk, show (i + 1) * 8 + j - 8 = i * 8 + j by omega, flat8_get hk l i j (by simpa using hi) hj]
    simp
end Wells
namespace Go.Proofs.Ytlfmfhdgnmchgaa
open Go.RowKit Wells
theorem ORs.grown {base base' : Nat} {w w' : World} {v u : Value} {ys : List RD} {t : TypeId} {size n : Nat} {xs : List Value} (h : ORs base w v ys) (ho : w.ownsRow base' t size u n xs) (hg : w.grownBy w' u.ownBlock) (h1 : 53 ≠ t) (h2 : 5 ≠ t) : ORs base w' v ys :=
  ⟨h.own.kept hg (own_other h.own ho h1), fun x hx => (h.at_ x hx).keep hg (own_other (h.at_ x hx) ho h2)⟩
theorem ORs.get {base : Nat} {w : World} {A : Option Addr} {n c : Nat} {xs : List RD} (h : ORs base w (.slice A n c) xs) (hn : xs.length = n) {i : Nat} (hi : i < n) :
    ∃ b o, A = some ⟨b, o, none⟩ ∧ b < w.heap.size ∧ xs[i]! ∈ xs ∧ ∀ j v, (encR xs[i]!)[j]? = some v → w.cell? ⟨b, o + i * 8 + j, none⟩ = some v := by
  have ho := h.own
  rw [hn] at ho
  have hs := Sl.own ho
  obtain ⟨b, o, rfl, hb, hc⟩ := hs.at_ (by omega)
  refine ⟨b, o, rfl, hb, ?_, fun j v hv => ?_⟩
  · rw [getElem!_pos xs i (by omega)]; exact List.getElem_mem _
  · have hj : j < 8 := by have := (List.getElem?_eq_some_iff.1 hv).1; rwa [encR_len] at this
    rw [Nat.add_assoc]
    exact hc _ _ (by rw [flat8_get encR_len xs i j (by omega) hj]; exact hv)
/-- what 'Cells' leaves -/
def CelR (w : World) (ls : List (List Byte)) (e : Ending) (w' : World) : Prop :=
  ∃ (A : Option Addr) (n c : Nat) (vs : List Value), e = .returned (.slice A n c) ∧ n = ls.length ∧ OBs w.heap.size w' (.slice A n c) vs ls ∧ Below w.heap.size w w'
set_option maxHeartbeats 4000000 in
theorem cells_any (F : Nat → Prop) (g pg : Nat) (d : Dr) (mk : Nat) (m : Mani) (B : Nat) (Ad Ao : Option Addr) (nd cd no co : Nat) (ts : List Value) (w : World) (h : DrvE F w g pg d) (hok : DOk mk d) (hm : RM w B m Ad nd cd Ao no co ts) (hB : B ≤ w.heap.size) (hno : no ≤ 9223372036854775807) :
    Calls Try.prog 46 #[.pointer (some ⟨g, 0, none⟩), m.val (.slice Ad nd cd) (.slice Ao no co)] w (CelR w ((recsL m d.L).map putR)) := by
  have hb : Below w.heap.size w (w.alloc (.cells #[.int .i64 m.seq, .int .i64 m.next, .int .i64 m.P.K, .int .i64 m.P.H, .int .i64 m.P.S, .int .i64 m.extra, .slice Ad nd cd, .slice Ao no co] 27)) := (Below.refl _ _).alloc (Nat.le_refl _) _
  have H1 := hid (h.new_ hb)
  have hx := Row.new w 27 #[.int .i64 m.seq, .int .i64 m.next, .int .i64 m.P.K, .int .i64 m.P.H, .int .i64 m.P.S, .int .i64 m.extra, .slice Ad nd cd, .slice Ao no co]
  have x0 := hx.cell 0
  have x1 := hx.cell 1
  have x2 := hx.cell 2
  have x3 := hx.cell 3
  have x4 := hx.cell 4
  have x5 := hx.cell 5
  have x6 := hx.cell 6
  have x7 := hx.cell 7
  simp only [List.getElem?_cons_succ, List.getElem?_cons_zero] at x0 x1 x2 x3 x4 x5 x6 x7
  have HM := hid (hm.below (hb.mono hB))
  have HBW := hid hb
  have hll := hok.len
  have hrm := hok.room
  have hrl : (recsL m d.L).length ≤ 512 := by
    unfold recsL
    have h1 := cpt_length (lt := ltR) (ssort ltR (cntL m d.L))
    rw [ssort_length] at h1
    have h2 := cntL_length m d.L
    omega
  obtain ⟨ibs, hibs, hzb0, hzb1, hzb2⟩ := info_parts infoBs
  clear hb h hm hx
  unfold Mani.val
  go_enter Try.func46, Try.ntmps46
  go_wp2_with fail
  generalize w.alloc (.cells #[.int .i64 m.seq, .int .i64 m.next, .int .i64 m.P.K, .int .i64 m.P.H, .int .i64 m.P.S, .int .i64 m.extra, .slice Ad nd cd, .slice Ao no co] 27) = w1 at *
  refine (records_any F g pg d mk m B Ad Ao nd cd no co ts w1 H1.out hok HM.out (Nat.le_trans hB HBW.out.size) hno).mono ?_
  rintro e w2 ⟨A, n, c, xs, rfl, hn, ho, hmap, hb2⟩
  have hxn : xs.length = n := by rw [hn, ← hmap, List.length_map]
  have hn512 : n ≤ 512 := by omega
  have HO := hid ho
  have HMAP := hid hmap
  have HXN := hid hxn
  have HB2 := hid (HBW.out.trans (hb2.mono HBW.out.size))
  clear ho hmap hn hb2 hxn x0 x1 x2 x3 x4 x5 x6 x7
  go_wp2_with fail
  go_loopw [5, 12] (fun v i wr => ∃ (k : Nat) (A2 : Option Addr) (c2 : Nat) (vs : List Value), k ≤ n ∧ v = .slice A2 k c2 ∧ i = .int .i64 (k : Int) ∧ (k ≤ c2 ∧ c2 ≤ 9223372036854775807) ∧ ORs w1.heap.size wr (.slice A n c) xs ∧ OBs w2.heap.size wr (.slice A2 k c2) vs (((recsL m d.L).map putR).take k) ∧ Below w2.heap.size w2 wr) (fun _ i _ => n - (intOf i).toNat)
  case atStart => exact ⟨0, none, 0, [], Nat.zero_le _, rfl, rfl, by omega, HO.out, by simpa using OBs.nil_ _ _, Below.refl _ _⟩
  case round =>
    obtain ⟨k, A2, c2, vs, hk, rfl, rfl, hkc, hors, hobs, hbr⟩ := hrel
    have HORS := hid hors
    have HOBS := hid hobs
    have HBR := hid hbr
    clear hors hobs hbr
    by_cases hlt : k < n
    · have hlt' : (k : Int) < (n : Int) := by omega
      obtain ⟨bb, o, rfl, hbb, hxm, hcells⟩ := HORS.out.get HXN.out hlt
      obtain ⟨x, hx⟩ : ∃ x, xs[k]! = x := ⟨_, rfl⟩
      rw [hx] at hxm hcells
      have hxr : (recsL m d.L)[k]? = some x.r := by
        rw [← HMAP.out, List.getElem?_map, List.getElem?_eq_getElem (by have := HXN.out; omega)]
        rw [← hx, getElem!_pos xs k (by have := HXN.out; omega)]
        rfl
      have htk : ((recsL m d.L).map putR).take (k + 1) = ((recsL m d.L).map putR).take k ++ [putR x.r] := by
        have hl : k < ((recsL m d.L).map putR).length := by rw [List.length_map, ← HMAP.out, List.length_map]; have := HXN.out; omega
        rw [List.take_succ_eq_append_getElem hl]
        congr 2
        have h3 : ((recsL m d.L).map putR)[k]? = some (putR x.r) := by rw [List.getElem?_map, hxr]; rfl
        rw [List.getElem?_eq_getElem hl] at h3
        injection h3
      have hlk : (((recsL m d.L).map putR).take k).length = k := by
        rw [List.length_take, List.length_map, ← HMAP.out, List.length_map]; have := HXN.out; omega
      obtain ⟨r, Ar, nr, cr⟩ := x
      have c0 := hcells 0 _ rfl
      have c1 := hcells 1 _ rfl
      have c2' := hcells 2 _ rfl
      have c3 := hcells 3 _ rfl
      have c4 := hcells 4 _ rfl
      have c5 := hcells 5 _ rfl
      have c6 := hcells 6 _ rfl
      have c7 := hcells 7 _ rfl
      simp only [Nat.add_zero, RD.dv] at c0 c1 c2' c3 c4 c5 c6 c7
      have hdat := (HORS.out.at_ _ hxm)
      have HDAT := hid hdat
      have HTK := hid htk
      have HLK := hid hlk
      have hnrl : nr = r.D.length := by
        obtain ⟨_, _, he, _⟩ := own_slice hdat
        injection he
      have HNR := hid hnrl
      clear hcells hxm hx hxr htk hdat hlk hnrl
      have hb4 : Below wr.heap.size wr (wr.alloc (.cells #[.int .i64 r.O, .int .i64 r.B, .int .i64 r.I, .int .i64 r.P.K, .int .i64 r.P.H, .int .i64 r.P.S, .int .u32 (r.S.toNat : Int), .slice Ar nr cr] 53)) := (Below.refl _ _).alloc (Nat.le_refl _) _
      have HB4 := hid hb4
      clear hb4
      go_wp2_with fail
      generalize wr.alloc (.cells #[.int .i64 r.O, .int .i64 r.B, .int .i64 r.I, .int .i64 r.P.K, .int .i64 r.P.H, .int .i64 r.P.S, .int .u32 (r.S.toNat : Int), .slice Ar nr cr] 53) = w4 at *
      have hd4 := HDAT.out.below HB4.out
      have hsl4 : Sl w4 w4.heap.size 1 Ar nr (r.D.map bv8) := by
        have := hd4
        unfold OB RD.dv at this
        rw [← HNR.out] at this
        exact Sl.own this
      refine (putrec_any w4.heap.size r Ar nr cr w4 hsl4 (Nat.le_refl _)).mono ?_
      rintro e w5 ⟨vp, rfl, hop, hb5⟩
      obtain ⟨Ap, cp, rfl, hp1, hp2, _⟩ := own_slice hop
      have hb45 := HB4.out.trans (hb5.mono HB4.out.size)
      have HORS5 := hid (HORS.out.below hb45)
      have HOBS5 := hid (HOBS.out.below hb45)
      have HBR5 := hid (HBR.out.trans (hb45.mono HBR.out.size))
      have HOP := hid (own_base hop (Nat.le_trans HBR.out.size HB4.out.size))
      clear hd4 hsl4 hop hb5 hb45 c0 c1 c2' c3 c4 c5 c6 c7
      go_wp2_with (first
        | ((with_reducible show wpList _ _ _ (⟨some 19, _, _, _, _, _⟩ :: _) _ _); refine wpList_plain rfl (fun K hK => ?_); refine op_build1 29 45 (.tmp 18) (by rfl) _ (by rfl) rfl ibs (.slice none 0 0) Try.underlying29 hibs hzb0 hzb1 rfl ?_; rintro w6 g6 hg6 hr6 hb6 hz6; refine hK _ _ ?_; clear hK K; subst hg6; have HR6 := hid hr6; have HOBS6 := hid (HOBS5.out.below hb6); have HORS6 := hid (HORS5.out.below hb6); have HBR6 := hid (HBR5.out.trans (hb6.mono HBR5.out.size)); have HOP6 := hid (OB.below HOP.out hb6); have hg6l := hr6.lt; clear hr6 hb6 hz6)
        | ((with_reducible show wpList _ _ _ (⟨some 20, _, _, _, _, _⟩ :: _) _ _); go_must (refine wpl_append rfl (.tmp 16) (.tmp 19) 29 rfl w2.heap.size 45 ibs (.slice none 0 0) 1 24 Try.underlying29 hibs hzb0 hzb1 hzb2 rfl (by omega) (.slice A2 k c2) k vs rfl (by have := HOBS6.out.own; rwa [HLK.out] at this) (w5.heap.size + 1) (some ⟨w5.heap.size, 0, none⟩) 1 1 [_] rfl (HR6.out.sl (by omega) (Nat.le_refl _)) (by intro u hu; simp only [List.mem_singleton] at hu; subst hu; rfl) (k + 1) rfl _ rfl (by omega) (by omega) HBR6.out.size ?_); intro A7 c7 w7 ho7 hg7 _))
      have hps := OBs.push HOBS6.out HOP6.out (by rw [HLK.out]; exact ho7) hg7
      rw [← HTK.out] at hps
      have hr7 := ORs.grown HORS6.out HOBS6.out.own hg7 (by decide) (by decide)
      have hb7 := below_own HBR6.out HOBS6.out.own hg7 (Nat.le_refl _) HBR6.out.size
      have hc7 := own_cap ho7
      have HPS := hid hps
      have HR7 := hid hr7
      have HB7 := hid hb7
      clear hps hr7 hb7 ho7 hg7
      go_roundw
      case rel => exact ⟨k + 1, A7, c7, _, by omega, rfl, by go_num, hc7, HR7.out, HPS.out, HB7.out⟩
      case measure => simp [intOf] <;> omega
    · have hlt' : ¬ (k : Int) < (n : Int) := by omega
      obtain rfl : k = n := by omega
      go_wp2_with fail
      go_ret
      have ho := HOBS.out
      have hl : ((recsL m d.L).map putR).length = k := by rw [List.length_map, ← HMAP.out, List.length_map, HXN.out]
      rw [List.take_of_length_le (by omega)] at ho
      exact ⟨A2, k, c2, vs, rfl, hl.symm, ho.base HB2.out.size, HB2.out.trans (HBR.out.mono HB2.out.size)⟩
end Go.Proofs.Ytlfmfhdgnmchgaa

