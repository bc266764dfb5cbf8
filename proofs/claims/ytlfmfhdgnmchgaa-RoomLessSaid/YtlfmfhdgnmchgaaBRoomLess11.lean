/- DrvRew Law22 -/
import Derived.Test.YtlfmfhdgnmchgaaBRoomLess10
set_option maxRecDepth 20000
set_option linter.unusedSimpArgs false
set_option linter.unusedVariables false
namespace Wells
open Go Go.RowKit
/-- what Rewrite does, of cells of 64 bytes each -/
def Dr.rewrite (d : Dr) (l : List (List Byte)) : Dr × Int :=
  if d.lost then (d, 5) else if d.room < l.length then (d, 7) else if d.s.off then (d, 14)
  else if d.s.goes then ({ d with L := l, wait := 0, s := d.s.step }.went, 0) else ({ d with B := l, has := true, s := d.s.step }, 14)
end Wells
namespace Go.Proofs.Ytlfmfhdgnmchgaa
open Go.RowKit Wells
theorem Drv.fresh_lists {F : Nat → Prop} {w w2 : World} {v : Value} {vs : List Value} {ls : List (List Byte)} (ho : OBs w.heap.size w2 v vs ls) : Lst (Ext F w w2) w2 v vs ls :=
  Lst.of_own (w0 := w) ho (fun k h1 h2 => .inr ⟨h1, h2⟩)
theorem Drv.grow {F : Nat → Prop} {w w2 : World} {g pg : Nat} {lv bv : Value} {lvs bvs : List Value} {d : Dr} (h : Drv F w g pg lv lvs bv bvs d) (hb : Below w.heap.size w w2) : Drv (Ext F w w2) w2 g pg lv lvs bv bvs d :=
  (h.only (Only.of_new (F := fun _ => False) hb) (fun _ _ hf => hf)).more (fun k hk => .inl hk) (fun k hk => by
    rcases hk with hk | hk
    · have := h.lt k hk; have := hb.size; omega
    · exact hk.2)
theorem dist_fresh {w w2 : World} {v : Value} {vs us : List Value} {ls : List (List Byte)} (ho : OBs w.heap.size w2 v vs ls) (hd : Dist vs) (hu : Dist us) (hus : ∀ x ∈ us, ∀ k, x.ownBlock = some k → k < w.heap.size) : Dist (us ++ vs) ∧ Dist (vs ++ us) := by
  unfold Dist at *
  rw [List.pairwise_append, List.pairwise_append]
  refine ⟨⟨hu, hd, fun a ha b hb k hk e => ?_⟩, ⟨hd, hu, fun a ha b hb k hk e => ?_⟩⟩
  · have := hus a ha k hk
    have := ho.lt b hb k e
    omega
  · have := hus b hb k e
    have := ho.lt a ha k hk
    omega
theorem dist_right2 {a b : List Value} (h : Dist (a ++ b)) : Dist b := (List.pairwise_append.1 h).2.1
theorem DrvE.widen2 {F : Nat → Prop} {w w1 wc w5 : World} {g pg : Nat} {d : Dr} (h : DrvE (Ext F w1 wc) w5 g pg d) (hs : w.heap.size ≤ w1.heap.size) (hc : wc.heap.size ≤ w5.heap.size) : DrvE (Ext F w w5) w5 g pg d := by
  obtain ⟨lv, lvs, bv, bvs, h⟩ := h
  refine ⟨lv, lvs, bv, bvs, h.more (fun k hk => ?_) (fun k hk => ?_)⟩
  · rcases hk with hk | ⟨h1, h2⟩
    · exact .inl hk
    · exact .inr ⟨by omega, by omega⟩
  · rcases hk with hk | ⟨_, h2⟩
    · exact h.lt k (.inl hk)
    · exact h2
set_option maxRecDepth 20000 in
set_option maxHeartbeats 4000000 in
theorem drewrite_any (F G : Nat → Prop) (g pg : Nat) (d : Dr) (m : Nat) (A : Option Addr) (ls : List (List Byte)) (vs : List Value) (n c : Nat) (w : World) (h : DrvE F w g pg d) (hok : DOk m d) (hm : m ≤ 1000000) (hl : Lst G w (.slice A n c) vs ls) (hG : ∀ k, G k → ¬ F k) (hln : ls.length = n) (hn : n ≤ 1048576) (hc : ∀ x ∈ ls, x.length = 64) :
    Calls Try.prog 32 #[.pointer (some ⟨g, 0, none⟩), .slice A n c] w fun e w' => e = .returned (.int .i64 (d.rewrite ls).2) ∧ DrvE (Ext F w w') w' g pg (d.rewrite ls).1 ∧ Only F w w' := by
  obtain ⟨lv, lvs, bv, bvs, h⟩ := h
  have HLN := hid hln
  have hb := hl.own.read hln
  have HLL := hid hl
  clear hl
  obtain ⟨S, hS⟩ : ∃ S, d.rewrite ls = S := ⟨_, rfl⟩
  rw [hS]
  have HS := hid hS
  clear hS
  obtain ⟨Al, cl, rfl, hcl1, hcl2⟩ := h.l.own.form
  obtain ⟨Ab, cb, rfl, _, _⟩ := h.b.own.form
  have hroom := hok.room
  have c6 := h.row.cell 6
  have c0 := h.row.cell 0
  have c1 := h.row.cell 1
  have e6 : (drRow pg d (.slice Al d.L.length cl) (.slice Ab d.B.length cb))[6]? = some (.bool d.lost) := rfl
  have e0 : (drRow pg d (.slice Al d.L.length cl) (.slice Ab d.B.length cb))[0]? = some (.pointer (some ⟨pg, 0, none⟩)) := rfl
  have e1 : (drRow pg d (.slice Al d.L.length cl) (.slice Ab d.B.length cb))[1]? = some (.int .i64 (d.room : Int)) := rfl
  rw [e6] at c6
  rw [e0] at c0
  rw [e1] at c1
  clear e6 e0 e1 hln
  have HH := hid h
  have HC := hid hc
  have HOK := hid hok
  clear h hc hok
  go_enter Try.func32, Try.ntmps32
  go_wp2_with fail
  go_loopw [9] (fun i wr => ∃ j : Nat, j ≤ n ∧ i = .int .i64 j ∧ wr = w) (fun i _ => n - (intOf i).toNat)
  case atStart => exact ⟨0, by omega, rfl, rfl⟩
  case round =>
    obtain ⟨j, hj, rfl, rfl⟩ := hrel
    by_cases hlt : j < n
    · obtain ⟨b, o, A1, k1, rfl, hbb, hce, hl1, hc1, sl1⟩ := hb.get hlt
      have h64 : (ls.getD j []).length = 64 := by
        rw [List.getD_eq_getElem?_getD, List.getElem?_eq_getElem (by rw [HLN.out]; exact hlt)]
        exact HC.out _ (List.getElem_mem _)
      rw [h64] at hce
      clear h64 hl1 sl1
      go_wp2_with fail
      go_roundw
      case rel => exact ⟨j + 1, by omega, by go_num, trivial⟩
      case measure => simp [intOf]; omega
    · have h := HH.out
      have hsame : DrvE (Ext F wr wr) wr g pg d := ⟨_, _, _, _, h.more (fun k hk => .inl hk) (fun k hk => by
        rcases hk with hk | hk
        · exact h.lt k hk
        · omega)⟩
      cases hlo : d.lost with
      | true =>
        rw [hlo] at c6
        have hs : S = (d, 5) := by rw [← HS.out]; unfold Dr.rewrite; rw [hlo]; rfl
        subst hs
        clear hlo
        go_wp2_with fail
        go_ret
        exact ⟨rfl, hsame, Only.refl _ _⟩
      | false =>
        rw [hlo] at c6
        have HLO := hid hlo
        clear hlo
        by_cases hfull : d.room < n
        · have hs : S = (d, 7) := by rw [← HS.out]; unfold Dr.rewrite; rw [HLO.out, if_neg (by simp), HLN.out, if_pos hfull]
          subst hs
          go_wp2_with fail
          go_ret
          exact ⟨rfl, hsame, Only.refl _ _⟩
        · go_wp2_with fail
          refine (pon_any pg d.s wr h.pow).mono ?_
          rintro e w1 ⟨rfl, hw1⟩
          rw [← hw1]
          clear hw1 w1
          cases hoff : d.s.off with
          | true =>
            have hs : S = (d, 14) := by rw [← HS.out]; unfold Dr.rewrite; rw [HLO.out, if_neg (by simp), HLN.out, if_neg hfull, if_pos hoff]
            subst hs
            clear hoff
            go_wp2_with fail
            go_ret
            exact ⟨rfl, hsame, Only.refl _ _⟩
          | false =>
            have HOFF := hid hoff
            clear hoff hsame
            have hlft := HOK.out.left
            have ho1 := HOK.out.offs.1
            have ho2 := HOK.out.offs.2
            go_wp2_with fail
            refine (pstep_any pg d.s wr h.pow hlft ⟨ho1, by omega⟩).mono ?_
            rintro e w2 ⟨rfl, hp2, hg2⟩
            have h2 := h.power hp2 hg2
            have o2 : Only F wr w2 := Only.of_grown hg2 (fun k e => by injection e with e; rw [← e]; exact h.fp)
            have l2 := HLL.out.only o2 hG
            have r2 := l2.own.read HLN.out
            have hz2 := hg2.size
            have hlen : ∀ i, i < n → (ls.getD i []).length ≤ 1048576 := fun i hi => by
              rw [List.getD_eq_getElem?_getD, List.getElem?_eq_getElem (by rw [HLN.out]; exact hi)]
              have := HC.out _ (List.getElem_mem (by rw [HLN.out]; exact hi))
              simp only [Option.getD_some]
              omega
            have HLE := hid hlen
            clear hlen h hb
            cases hgo : d.s.goes with
            | false =>
              have hs : S = ({ d with B := ls, has := true, s := d.s.step }, 14) := by rw [← HS.out]; unfold Dr.rewrite; rw [HLO.out, if_neg (by simp), HLN.out, if_neg hfull, HOFF.out, if_neg (by simp), hgo, if_neg (by simp)]
              subst hs
              clear hgo
              go_wp2_with fail
              refine (down_any w2.heap.size A vs ls n c w2 r2 (Nat.le_refl _) hn HLE.out).mono ?_
              rintro e w3 ⟨A3, c3, vs3, rfl, ho3, hd3, hb3⟩
              have h3 := h2.grow hb3
              have hl3 : Lst (Ext F w2 w3) w3 (.slice A3 n c3) vs3 ls := Drv.fresh_lists ho3
              have hz3 := hb3.size
              have hfr : ∀ k, (Value.slice A3 n c3).ownBlock = some k → w2.heap.size ≤ k := fun k hk => (own_lt ho3.own k hk).1
              have hdd := dist_fresh ho3 hd3 (dist_left h2.dist) (fun x hx k hk => h2.lt k (h2.l.is x hx k hk))
              have h4 := (h3.setB hl3 (fun k hk e => by have := hfr k e; have := h2.lt k (h2.l.iv k hk); omega) hdd.1).setHas true
              have o4 : Only F wr ((w3.setCell ⟨g, 4, none⟩ (.slice A3 n c3)).setCell ⟨g, 5, none⟩ (.bool true)) := ((o2.trans (Only.of_new (F := F) hb3) (fun _ _ hk => hk)).set h2.fg 4 _).set h2.fg 5 _
              have f4 := h3.row.frozen 4
              have f5 := h3.row.frozen 5
              have c4 : w3.cell? ⟨g, 4, none⟩ = some (.slice Ab d.B.length cb) := h3.row.cell 4
              have c5 : w3.cell? ⟨g, 5, none⟩ = some (.bool d.has) := h3.row.cell 5
              have hzz : w3.heap.size ≤ ((w3.setCell ⟨g, 4, none⟩ (.slice A3 n c3)).setCell ⟨g, 5, none⟩ (.bool true)).heap.size := by simp [World.setCell]
              clear hfr hdd
              go_wp2_with fail
              go_ret
              exact ⟨rfl, DrvE.widen2 ⟨_, _, _, _, h4⟩ hz2 hzz, o4⟩
            | true =>
              have hs : S = ({ d with L := ls, wait := 0, s := d.s.step }.went, 0) := by rw [← HS.out]; unfold Dr.rewrite; rw [HLO.out, if_neg (by simp), HLN.out, if_neg hfull, HOFF.out, if_neg (by simp), hgo, if_pos rfl]
              subst hs
              clear hgo
              go_wp2_with fail
              refine (down_any w2.heap.size A vs ls n c w2 r2 (Nat.le_refl _) hn HLE.out).mono ?_
              rintro e w3 ⟨A3, c3, vs3, rfl, ho3, hd3, hb3⟩
              have h3 := h2.grow hb3
              have hl3 : Lst (Ext F w2 w3) w3 (.slice A3 n c3) vs3 ls := Drv.fresh_lists ho3
              have hz3 := hb3.size
              have hfr : ∀ k, (Value.slice A3 n c3).ownBlock = some k → w2.heap.size ≤ k := fun k hk => (own_lt ho3.own k hk).1
              have hdd := dist_fresh ho3 hd3 (dist_right2 h2.dist) (fun x hx k hk => h2.lt k (h2.b.is x hx k hk))
              have h4 := (h3.setL hl3 (fun k hk e => by have := hfr k hk; have := h2.lt k (h2.b.iv k e); omega) hdd.2).setWait 0
              have o4 : Only F wr ((w3.setCell ⟨g, 2, none⟩ (.slice A3 n c3)).setCell ⟨g, 3, none⟩ (.int .i64 0)) := ((o2.trans (Only.of_new (F := F) hb3) (fun _ _ hk => hk)).set h2.fg 2 _).set h2.fg 3 _
              have f2 := h3.row.frozen 2
              have f3 := h3.row.frozen 3
              have c2 : w3.cell? ⟨g, 2, none⟩ = some (.slice Al d.L.length cl) := h3.row.cell 2
              have c3' : w3.cell? ⟨g, 3, none⟩ = some (.int .i64 (d.wait : Int)) := h3.row.cell 3
              have hzz : w3.heap.size ≤ ((w3.setCell ⟨g, 2, none⟩ (.slice A3 n c3)).setCell ⟨g, 3, none⟩ (.int .i64 0)).heap.size := by simp [World.setCell]
              have hfg := h2.fg
              clear hfr hdd
              go_wp2_with fail
              refine (dwent_any (Ext F w2 w3) g pg _ _ ⟨_, _, _, _, h4⟩).mono ?_
              rintro e w5 ⟨rfl, h5, o5⟩
              have hz5 : ((w3.setCell ⟨g, 2, none⟩ (.slice A3 n c3)).setCell ⟨g, 3, none⟩ (.int .i64 0)).heap.size ≤ w5.heap.size := o5.size
              go_wp2_with fail
              go_ret
              exact ⟨rfl, h5.widen2 hz2 (by omega), o4.trans o5 (fun k hk hx => by
                rcases hx with hx | hx
                · exact hx
                · omega)⟩
end Go.Proofs.Ytlfmfhdgnmchgaa

namespace Wells
open Go Go.RowKit
theorem Pw.step_ok {s : Pw} {m : Nat} (hl : 0 ≤ s.left ∧ s.left ≤ 9223372036854775807) (ho : 0 ≤ s.offs ∧ s.offs ≤ m) : (0 ≤ s.step.left ∧ s.step.left ≤ 9223372036854775807) ∧ (0 ≤ s.step.offs ∧ s.step.offs ≤ (m + 1 : Nat)) := by
  unfold Pw.step
  split
  · exact ⟨hl, by omega, by omega⟩
  · split
    · split
      · exact ⟨hl, by dsimp only; omega, by dsimp only; omega⟩
      · exact ⟨⟨by dsimp only; omega, by dsimp only; omega⟩, by dsimp only; omega, by dsimp only; omega⟩
    · exact ⟨hl, by omega, by omega⟩
theorem DOk.up {m : Nat} {d : Dr} (h : DOk m d) : DOk (m + 1) d := ⟨h.room, h.len, h.lenB, h.wait, h.cells, h.cellsB, h.left, by have := h.offs; omega⟩
theorem DOk.went {m : Nat} {d : Dr} (h : DOk m d) : DOk m d.went := ⟨h.room, h.len, Nat.zero_le _, h.wait, h.cells, (fun x hx => by cases hx), h.left, h.offs⟩
theorem DOk.append {m : Nat} {d : Dr} {l : List Byte} (h : DOk m d) : DOk (m + 1) (d.append l).1 := by
  unfold Dr.append
  split
  · exact h.up
  · split
    · exact h.up
    · split
      · exact h.up
      · split
        · exact h.up
        · rename_i h64 _ hfull _
          have hs := Pw.step_ok h.left h.offs
          have h1 : DOk (m + 1) { d with L := d.L ++ [l], wait := d.wait + 1, s := d.s.step } :=
            ⟨h.room, by simp; omega, h.lenB, by have := h.wait; simp; omega, fun x hx => by
              rcases List.mem_append.1 hx with hx | hx
              · exact h.cells x hx
              · rw [List.mem_singleton] at hx; subst hx; exact Classical.not_not.1 h64, h.cellsB, hs.1, hs.2⟩
          split
          · exact h1.went
          · exact h1
theorem DOk.new_ {n : Nat} (h : 1 ≤ n ∧ n ≤ 512) : DOk 0 (Dr.new Pw.new n) := ⟨h, Nat.zero_le _, Nat.zero_le _, Nat.le_refl _, (fun x hx => by cases hx), (fun x hx => by cases hx), ⟨Int.le_refl _, by show (0 : Int) ≤ 9223372036854775807; omega⟩, ⟨Int.le_refl _, Int.le_refl _⟩⟩
theorem DOk.sync {m : Nat} {d : Dr} (h : DOk m d) : DOk (m + 1) d.sync.1 := by
  unfold Dr.sync
  split
  · exact h.up
  · have hs := Pw.step_ok h.left h.offs
    split
    · exact DOk.went ⟨h.room, h.len, h.lenB, Nat.zero_le _, h.cells, h.cellsB, hs.1, hs.2⟩
    · exact ⟨h.room, h.len, h.lenB, h.wait, h.cells, h.cellsB, hs.1, hs.2⟩
end Wells
namespace Go.Proofs.Ytlfmfhdgnmchgaa
open Go.RowKit Wells
end Go.Proofs.Ytlfmfhdgnmchgaa

