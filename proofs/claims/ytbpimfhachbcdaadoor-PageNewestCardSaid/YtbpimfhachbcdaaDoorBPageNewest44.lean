/- PageWhole ORs Recs ScanCells ScanKeep PageWhole2 -/
import Derived.Test.YtbpimfhachbcdaaDoorProg
import Derived.BigGuardPart
import Derived.Deep.DeepCutAuto
import Derived.ScopeJumps
import Derived.WalkMore
import Derived.Test.YtbpimfhachbcdaaDoorBPageNewest00
import Derived.Test.YtbpimfhachbcdaaDoorBPageNewest05
import Derived.Test.YtbpimfhachbcdaaDoorBPageNewest06
import Derived.Test.YtbpimfhachbcdaaDoorBPageNewest10
import Derived.Test.YtbpimfhachbcdaaDoorBPageNewest13
import Derived.Test.YtbpimfhachbcdaaDoorBPageNewest14
import Derived.Test.YtbpimfhachbcdaaDoorBPageNewest16
import Derived.Test.YtbpimfhachbcdaaDoorBPageNewest22
import Derived.Test.YtbpimfhachbcdaaDoorBPageNewest23
import Derived.Test.YtbpimfhachbcdaaDoorBPageNewest26
import Derived.Test.YtbpimfhachbcdaaDoorBPageNewest29
import Derived.Test.YtbpimfhachbcdaaDoorBPageNewest39
import Derived.Test.YtbpimfhachbcdaaDoorBPageNewest40
import Derived.Test.YtbpimfhachbcdaaDoorBPageNewest41
import Derived.Test.YtbpimfhachbcdaaDoorBPageNewest43
set_option maxRecDepth 20000
set_option linter.unusedSimpArgs false
set_option linter.unusedVariables false
namespace Go.Proofs.YtbpimfhachbcdaaDoor
open Go.RowKit Wells
theorem parse_m64 {l : List Byte} {q : Mani} (h : parseL l = some q) : M64 q ∧ ∀ e ∈ q.objs, e.name.length ≤ 1048576 := by
  unfold parseL at h
  split at h
  · injection h with h
    rw [← h]
    exact rdMani_64 _
  · cases h
theorem zero_m64 : M64 Mani.zero ∧ ∀ e ∈ Mani.zero.objs, e.name.length ≤ 1048576 :=
  ⟨⟨by unfold i64; decide, by unfold i64; decide, by unfold i64; decide, by unfold i64; decide, by unfold i64; decide, by unfold i64; decide, (fun z h => by cases h), (fun e h => by cases h)⟩, (fun e h => by cases h)⟩
/-- is a cell a page's? -/
theorem weq_any (A Ac : Option Addr) (n c nl cc B : Nat) (l : List Byte) (p : Pg) (dv : Value) (b : Bool) (w : World) (h : Sl w B 1 A n (l.map bv8)) (hsc : Sl w B 1 Ac nl (p.cell.map bv8)) (hB : B ≤ w.heap.size) (hb : decide (l = p.cell) = b) (hd : dv.oneCell' = true) :
    Calls Tryd.prog 63 #[.slice A n c, p.val dv (.slice Ac nl cc)] w fun e w' => e = .returned (.bool b) ∧ Below w.heap.size w w' := by
  have hb1 : Below w.heap.size w (w.alloc (.cells #[.int .i64 p.seq, .int .i64 p.at_, .int .i64 p.of_, dv, .slice Ac nl cc] 70)) := (Below.refl _ _).alloc (Nat.le_refl _) _
  have HA := hid hb1
  have HS := hid (h.below (hb1.mono hB))
  have HC := hid (hsc.below (hb1.mono hB))
  have HB := hid hb
  clear hb1 h hsc hb
  unfold Pg.val
  go_enter Tryd.func63, Tryd.ntmps63
  go_wp2_with fail
  refine (equal_is b B A Ac l p.cell n nl c cc _ HS.out HC.out HB.out).mono ?_
  rintro e w' ⟨rfl, rfl⟩
  go_wp2_with fail
  go_ret
  exact ⟨rfl, HA.out⟩
/-- are cells those of pages? -/
theorem eqcells_any (B : Nat) (A Ap : Option Addr) (n c np cp : Nat) (vs : List Value) (ls : List (List Byte)) (ys : List PD) (b : Bool) (w : World) (h : RBs w B A n vs ls) (hp : RPs w B Ap np ys) (hB : B ≤ w.heap.size) (hn : n ≤ 1048576) (hb : decide (ls = ys.map fun y => y.p.cell) = b) :
    Calls Tryd.prog 62 #[.slice A n c, .slice Ap np cp, .func (Fn.func 63) #[] #[]] w fun e w' => e = .returned (.bool b) ∧ Below w.heap.size w w' := by
  have H := hid h
  have HP := hid hp
  have HL := hid h.len
  have HPL := hid hp.len
  have HBB := hid hb
  clear h hp hb
  go_enter Tryd.func62, Tryd.ntmps62
  by_cases hnn : n = np
  · subst hnn
    go_wp2_with fail
    go_loopw [17] (fun iv wr => ∃ k : Nat, k ≤ n ∧ iv = .int .i64 (k : Int) ∧ Hid (∀ j, j < k → ls.getD j [] = (ys[j]!).p.cell) ∧ Below w.heap.size w wr) (fun iv _ => n - (intOf iv).toNat)
    case atStart => exact ⟨0, Nat.zero_le _, rfl, hid (fun j hj => absurd hj (by omega)), Below.refl _ _⟩
    case round =>
      obtain ⟨k, hk, rfl, HK, hbr⟩ := hrel
      have HBR := hid hbr
      clear hbr
      by_cases hlt : k < n
      · have hlt' : (k : Int) < (n : Int) := by omega
        have hbB := HBR.out.mono hB
        obtain ⟨b1, o1, A1, c1, rfl, hb1, e1, hc1, hc2, hsl⟩ := (H.out.below hbB).get hlt
        obtain ⟨l1, hl1⟩ : ∃ l1, ls.getD k [] = l1 := ⟨_, rfl⟩
        rw [hl1] at e1 hc1 hsl
        obtain ⟨n1, hn1⟩ : ∃ n1, l1.length = n1 := ⟨_, rfl⟩
        rw [hn1] at e1 hc1 hsl
        obtain ⟨bb, o, rfl, hbb, hxm, _, hcells⟩ := (HP.out.below hbB).get hlt
        obtain ⟨x, hx⟩ : ∃ x, ys[k]! = x := ⟨_, rfl⟩
        have HXX := hid hx
        rw [hx] at hxm hcells
        have hpx := (HP.out.below hbB).at_ x hxm
        have q0 := hcells 0 _ rfl
        have q1 := hcells 1 _ rfl
        have q2 := hcells 2 _ rfl
        have q3 := hcells 3 _ rfl
        have q4 := hcells 4 _ rfl
        simp only [Nat.add_zero] at q0 q1 q2 q3 q4
        obtain ⟨⟨Adx, cdx, hxd, _, _, _⟩, ⟨Acx, ccx, hxc, _, _, hsc⟩⟩ := hpx
        obtain ⟨nbx, hnbx⟩ : ∃ q, x.p.bears.length = q := ⟨_, rfl⟩
        obtain ⟨ncx, hncx⟩ : ∃ q, x.p.cell.length = q := ⟨_, rfl⟩
        rw [hnbx] at hxd
        rw [hncx] at hxc hsc
        rw [hxd] at q3
        rw [hxc] at q4
        have hb4 : Below wr.heap.size wr (wr.alloc (.cells #[.int .i64 x.p.seq, .int .i64 x.p.at_, .int .i64 x.p.of_, .slice Adx nbx cdx, .slice Acx ncx ccx] 70)) := (Below.refl _ _).alloc (Nat.le_refl _) _
        have HB4 := hid hb4
        have HSL := hid (hsl.below (hb4.mono (Nat.le_trans hB HBR.out.size)))
        have HPX := hid (hsc.below (hb4.mono (Nat.le_trans hB HBR.out.size)))
        clear hxd hxc hnbx hncx hsc
        have HL1 := hid hl1
        obtain ⟨q, hq⟩ : ∃ q, decide (l1 = x.p.cell) = q := ⟨_, rfl⟩
        have HQ := hid hq
        clear hl1 hn1 hx hcells hb4 hsl hq hxm hbB
        go_wp2_with fail
        refine (weq_any A1 Acx n1 c1 ncx ccx B l1 x.p _ q _ HSL.out HPX.out (Nat.le_trans (Nat.le_trans hB HBR.out.size) HB4.out.size) HQ.out rfl).mono ?_
        rintro e w5 ⟨rfl, hb5⟩
        have HB5 := hid (HBR.out.trans ((HB4.out.trans (hb5.mono HB4.out.size)).mono HBR.out.size))
        clear hb5 q0 q1 q2 q3 q4
        cases q with
        | true =>
          go_wp2_with fail
          go_roundw
          case rel => exact ⟨k + 1, by omega, by go_num, hid (fun j hj => by
            rcases Nat.lt_or_ge j k with h | h
            · exact HK.out j h
            · have e : j = k := by omega
              rw [e, HL1.out, HXX.out]; exact of_decide_eq_true HQ.out), HB5.out⟩
          case measure => simp [intOf]; omega
        | false =>
          have hbf : b = false := by
            rw [← HBB.out, decide_eq_false_iff_not]
            intro hh
            have h1 := of_decide_eq_false HQ.out
            apply h1
            have hky : k < ys.length := by rw [HPL.out]; exact hlt
            rw [← HL1.out, hh, List.getD_eq_getElem?_getD, List.getElem?_map, List.getElem?_eq_getElem hky, ← HXX.out, getElem!_pos ys k hky]
            rfl
          subst hbf
          go_wp2_with fail
          go_ret
          exact ⟨rfl, HB5.out⟩
      · have hlt' : ¬ (k : Int) < (n : Int) := by omega
        obtain rfl : k = n := by omega
        have hbt : b = true := by
          rw [← HBB.out, decide_eq_true_eq]
          apply List.ext_getElem
          · rw [List.length_map, HL.out, HPL.out]
          · intro j h1 h2
            have h3 := HK.out j (by rw [← HL.out]; exact h1)
            rw [List.getD_eq_getElem?_getD, List.getElem?_eq_getElem h1] at h3
            rw [List.getElem_map]
            rw [List.length_map] at h2
            rw [getElem!_pos ys j h2] at h3
            exact h3
        subst hbt
        go_wp2_with fail
        go_ret
        exact ⟨rfl, HBR.out⟩
  · have hnn' : ¬ (n : Int) = (np : Int) := by omega
    have hbf : b = false := by
      rw [← HBB.out, decide_eq_false_iff_not]
      intro hh
      apply hnn
      have := congrArg List.length hh
      rw [List.length_map, HL.out, HPL.out] at this
      exact this
    subst hbf
    go_wp2_with fail
    go_ret
    exact ⟨rfl, Below.refl _ _⟩
end Go.Proofs.YtbpimfhachbcdaaDoor

namespace Wells
open Go Go.RowKit Go.Sort Go.Proofs Go.Lib
/-- a record, and where its data lie -/
structure RD where
  r : Rec
  A : Option Addr
  n : Nat
  c : Nat
instance : Inhabited RD := ⟨⟨Rec.zero, none, 0, 0⟩⟩
def RD.dv (x : RD) : Value := .slice x.A x.n x.c
def encR (x : RD) : List Value := [.int .i64 x.r.O, .int .i64 x.r.B, .int .i64 x.r.I, .int .i64 x.r.P.K, .int .i64 x.r.P.H, .int .i64 x.r.P.S, .int .u32 (x.r.S.toNat : Int), x.dv]
theorem encR_len (x : RD) : (encR x).length = 8 := rfl
def RD.zero : RD := ⟨Rec.zero, none, 0, 0⟩
end Wells
namespace Go.Proofs.YtbpimfhachbcdaaDoor
open Go.RowKit Wells Go.Sort Go.Lib
structure ORs (base : Nat) (w : World) (v : Value) (xs : List RD) : Prop where
  own : w.ownsRow base 64 8 v xs.length (xs.flatMap encR)
  at_ : ∀ x ∈ xs, OB base w x.dv x.r.D
theorem ORs.nil_ (base : Nat) (w : World) : ORs base w (.slice none 0 0) [] := ⟨World.ownsRow_nil _ _ _ _, fun x hx => by cases hx⟩
theorem ORs.below {base : Nat} {w w' : World} {v : Value} {xs : List RD} (h : ORs base w v xs) (hb : Below w.heap.size w w') : ORs base w' v xs :=
  ⟨h.own.kept (grown_of_below hb none) (by cases v.ownBlock <;> simp), fun x hx => (h.at_ x hx).below hb⟩
theorem ORs.base {base base' : Nat} {w : World} {v : Value} {xs : List RD} (h : ORs base w v xs) (hb : base' ≤ base) : ORs base' w v xs := ⟨own_base h.own hb, fun x hx => own_base (h.at_ x hx) hb⟩
theorem ORs.push {base : Nat} {w w' : World} {v v' : Value} {xs : List RD} {x : RD} (h : ORs base w v xs) (hx : OB base w x.dv x.r.D) (ho : w'.ownsRow base 64 8 v' (xs.length + 1) (xs.flatMap encR ++ encR x)) (hg : w.grownBy w' v.ownBlock) : ORs base w' v' (xs ++ [x]) := by
  refine ⟨by simpa using ho, fun y hy => ?_⟩
  rcases List.mem_append.1 hy with hy | hy
  · exact (h.at_ y hy).keep hg (own_other (h.at_ y hy) h.own (by decide))
  · simp only [List.mem_singleton] at hy
    subst hy
    exact hx.keep hg (own_other hx h.own (by decide))
end Go.Proofs.YtbpimfhachbcdaaDoor

namespace Wells
open Go Go.RowKit
end Wells
namespace Go.Proofs.YtbpimfhachbcdaaDoor
open Go.RowKit Wells Go.Sort Go.Lib
theorem OBs.grown {base base' : Nat} {w w' : World} {v u : Value} {vs : List Value} {ls : List (List Byte)} {t : TypeId} {size n : Nat} {xs : List Value} (h : OBs base w v vs ls) (ho : w.ownsRow base' t size u n xs) (hg : w.grownBy w' u.ownBlock) (h1 : 37 ≠ t) (h2 : 5 ≠ t) : OBs base w' v vs ls :=
  ⟨h.own.kept hg (own_other h.own ho h1), fun i hi => (h.at_ i hi).keep hg (own_other (h.at_ i hi) ho h2)⟩
/-- what is known in the midst of the scan: the cells, and the records so far -/
structure RecP (w0 w : World) (Al : Option Addr) (nl cl : Nat) (vs : List Value) (L : List (List Byte)) (vo : Value) (xs : List RD) : Prop where
  l : OBs w0.heap.size w (.slice Al nl cl) vs L
  o : ORs w0.heap.size w vo xs
  be : Below w0.heap.size w0 w
theorem RecP.below {w0 w w' : World} {Al : Option Addr} {nl cl : Nat} {vs : List Value} {L : List (List Byte)} {vo : Value} {xs : List RD} (h : RecP w0 w Al nl cl vs L vo xs) (hb : Below w.heap.size w w') : RecP w0 w' Al nl cl vs L vo xs :=
  ⟨h.l.below hb, h.o.below hb, h.be.trans (hb.mono h.be.size)⟩
end Go.Proofs.YtbpimfhachbcdaaDoor

namespace Wells
open Go Go.RowKit
theorem flat8_get {α : Type} [Inhabited α] {enc : α → List Value} (hk : ∀ x, (enc x).length = 8) : ∀ (l : List α) (i j : Nat), i < l.length → j < 8 → (l.flatMap enc)[i * 8 + j]? = (enc l[i]!)[j]?
  | [], i, _, h, _ => absurd h (by simp)
  | x :: l, 0, j, _, hj => by
    rw [List.flatMap_cons, List.getElem?_append_left (by rw [hk]; omega)]
    simp
  | x :: l, i + 1, j, hi, hj => by
    rw [List.flatMap_cons, List.getElem?_append_right (by rw [hk]; omega), hk, show (i + 1) * 8 + j - 8 = i * 8 + j by omega, flat8_get hk l i j (by simpa using hi) hj]
    simp
end Wells
namespace Go.Proofs.YtbpimfhachbcdaaDoor
open Go.RowKit Wells
theorem ORs.grown {base base' : Nat} {w w' : World} {v u : Value} {ys : List RD} {t : TypeId} {size n : Nat} {xs : List Value} (h : ORs base w v ys) (ho : w.ownsRow base' t size u n xs) (hg : w.grownBy w' u.ownBlock) (h1 : 64 ≠ t) (h2 : 5 ≠ t) : ORs base w' v ys :=
  ⟨h.own.kept hg (own_other h.own ho h1), fun x hx => (h.at_ x hx).keep hg (own_other (h.at_ x hx) ho h2)⟩
theorem ORs.get {base : Nat} {w : World} {A : Option Addr} {n c : Nat} {xs : List RD} (h : ORs base w (.slice A n c) xs) (hn : xs.length = n) {i : Nat} (hi : i < n) :
    ∃ b o, A = some ⟨b, o, none⟩ ∧ b < w.heap.size ∧ xs[i]! ∈ xs ∧ ∀ j v, (encR xs[i]!)[j]? = some v → w.cell? ⟨b, o + i * 8 + j, none⟩ = some v := by
  have ho := h.own
  rw [hn] at ho
  have hs := Sl.own ho
  obtain ⟨b, o, rfl, hb, hc⟩ := hs.at_ (by omega)
  refine ⟨b, o, rfl, hb, ?_, fun j v hv => ?_⟩
  · rw [getElem!_pos xs i (by omega)]; exact List.getElem_mem _
  · have hj : j < 8 := by have := (List.getElem?_eq_some_iff.1 hv).1; rwa [encR_len] at this
    rw [Nat.add_assoc]
    exact hc _ _ (by rw [flat8_get encR_len xs i j (by omega) hj]; exact hv)
end Go.Proofs.YtbpimfhachbcdaaDoor

namespace Go.Proofs.YtbpimfhachbcdaaDoor
open Go.RowKit Wells
theorem obs_one {base : Nat} {w : World} {v : Value} {vs : List Value} {ls : List (List Byte)} (h : OBs base w v vs ls) : ∀ u ∈ vs, u.oneCell' = true := by
  intro u hu
  obtain ⟨l, hl⟩ := h.elem hu
  obtain ⟨A, c, rfl, _⟩ := own_slice hl
  rfl
theorem flat_le {es : List Ent} (h : ∀ e ∈ es, (packE e).length ≤ 26) : (es.flatMap packE).length ≤ 26 * es.length := by
  induction es with
  | nil => exact Nat.le_refl _
  | cons e es ih =>
    have h1 := h e (by simp)
    have h2 := ih (fun x hx => h x (List.mem_cons_of_mem _ hx))
    rw [List.flatMap_cons, List.length_append, List.length_cons]
    omega
theorem pack_max (m : Mani) : (pack m).length ≤ 400 := by
  unfold pack
  split
  · rename_i hm
    have hp := may_p hm
    have h1 := flat_le (es := m.objs) (fun e he => by
      obtain ⟨i, hi, rfl⟩ := List.getElem_of_mem he
      have := ent_at hp hi
      rw [List.getD_eq_getElem?_getD, List.getElem?_eq_getElem hi] at this
      exact packE_len this)
    have h2 := hp.olen
    have h3 := rise_len hp.drives
    unfold packL packH
    simp only [List.length_append, List.length_map, highL_len, List.length_singleton, List.length_cons, List.length_nil]
    omega
  · exact Nat.zero_le _
theorem pages_le (m : Mani) : (pagesL m.seq (pack m)).length ≤ 9 := by
  have := pack_max m
  rw [pagesL_len]; unfold pageN; omega
end Go.Proofs.YtbpimfhachbcdaaDoor

namespace Go.Proofs.YtbpimfhachbcdaaDoor
open Go.RowKit Wells
def WholeR (T : Option Mani) (w : World) (e : Ending) (w' : World) : Prop :=
  ∃ (mm : Mani) (Ad : Option Addr) (nd cd : Nat) (Ao : Option Addr) (no co : Nat) (ts : List Value) (b : Bool), e = .returned (.tuple #[mm.val (.slice Ad nd cd) (.slice Ao no co), .bool b]) ∧ OM w.heap.size w' mm Ad nd cd Ao no co ts ∧ M64 mm ∧ (∀ e ∈ mm.objs, e.name.length ≤ 1048576) ∧ Below w.heap.size w w' ∧ (b = false → T = none) ∧ (b = true → T = some mm)
theorem whole_none {L : List Pg} {l : List Byte} (hl : l = L.flatMap Pg.bears) (hr : parseL l = none) : wholeL L = none := by
  subst hl
  unfold wholeL
  split
  · rename_i m hp
    rw [hp] at hr
    cases hr
  · rfl
theorem whole_some {L : List Pg} {l : List Byte} {m : Mani} {b : Bool} (hl : l = L.flatMap Pg.bears) (hr : parseL l = some m) (hb : decide (pagesL m.seq (pack m) = L.map Pg.cell) = b) : (b = false → wholeL L = none) ∧ (b = true → wholeL L = some m) := by
  subst hl
  unfold wholeL
  split
  · rename_i m' hp
    rw [hp] at hr
    injection hr with hr
    subst hr
    constructor
    · intro h
      rw [h] at hb
      exact if_neg (of_decide_eq_false hb)
    · intro h
      rw [h] at hb
      exact if_pos (of_decide_eq_true hb)
  · rename_i hp
    rw [hp] at hr
    cases hr
theorem OM.zero_ (base : Nat) (w : World) : OM base w Mani.zero none 0 0 none 0 0 [] := ⟨World.ownsRow_nil _ _ _ _, rfl, OEs.nil_ _ _, rfl⟩
theorem OM.base_ {base base' : Nat} {w : World} {m : Mani} {Ad Ao : Option Addr} {nd cd no co : Nat} {ts : List Value} (h : OM base w m Ad nd cd Ao no co ts) (hb : base' ≤ base) : OM base' w m Ad nd cd Ao no co ts :=
  ⟨own_base h.d hb, h.dl, ⟨own_base h.o.own hb, h.o.tl, fun i hi => by
    obtain ⟨A, c, e, ho⟩ := h.o.at_ i hi
    exact ⟨A, c, e, own_base ho hb⟩⟩, h.ol⟩
set_option maxRecDepth 20000 in
set_option maxHeartbeats 4000000 in
theorem pwhole_any (B : Nat) (A : Option Addr) (n c : Nat) (ys : List PD) (w : World) (h : RPs w B A n ys) (hB : B ≤ w.heap.size) (hn : n ≤ 256) (hc : n ≤ c ∧ c ≤ 9223372036854775807) (h48 : ∀ y ∈ ys, y.p.bears.length ≤ 48) :
    Calls Tryd.prog 40 #[.slice A n c] w (WholeR (wholeL (ys.map PD.p)) w) := by
  obtain ⟨TT, hT⟩ : ∃ T, wholeL (ys.map PD.p) = T := ⟨_, rfl⟩
  rw [hT]
  have HT := hid hT
  have hr0 : Row (w.alloc (.cells #[.int .i64 0, .int .i64 0, .int .i64 0, .int .i64 0, .int .i64 0, .int .i64 0, .slice none 0 0, .slice none 0 0] 27)) w.heap.size 27 [.int .i64 0, .int .i64 0, .int .i64 0, .int .i64 0, .int .i64 0, .int .i64 0, .slice none 0 0, .slice none 0 0] := Row.new w 27 #[.int .i64 0, .int .i64 0, .int .i64 0, .int .i64 0, .int .i64 0, .int .i64 0, .slice none 0 0, .slice none 0 0]
  have hb0 : Below w.heap.size w (w.alloc (.cells #[.int .i64 0, .int .i64 0, .int .i64 0, .int .i64 0, .int .i64 0, .int .i64 0, .slice none 0 0, .slice none 0 0] 27)) := (Below.refl _ _).alloc (Nat.le_refl _) _
  have H := hid (h.below (hb0.mono hB))
  have HL := hid h.len
  have HR0 := hid hr0
  have HB0 := hid hb0
  have H48 := hid h48
  obtain ⟨i0, hi, hz0, hz1, hz2⟩ := info_parts infoB
  clear hT hr0 hb0 h h48
  go_enter Tryd.func40, Tryd.ntmps40
  go_upto_region 1 with fail
  generalize w.alloc (.cells #[.int .i64 0, .int .i64 0, .int .i64 0, .int .i64 0, .int .i64 0, .int .i64 0, .slice none 0 0, .slice none 0 0] 27) = w1 at *
  obtain ⟨g0, hg0⟩ : ∃ g, w.heap.size = g := ⟨_, rfl⟩
  have HG0 := hid (show g0 < w1.heap.size by rw [← hg0]; exact HR0.out.lt)
  have HG00 := hid hg0
  rw [hg0] at HR0 ⊢
  clear hg0
  have hB1 : B ≤ w1.heap.size := Nat.le_trans hB HB0.out.size
  go_wp2_with fail
  go_loopw [4, 12] (fun bv iv wr => ∃ (k nb cb : Nat) (Ab : Option Addr) (l : List Byte), k ≤ n ∧ iv = .int .i64 (k : Int) ∧ bv = .slice Ab nb cb ∧ nb ≤ 48 * k ∧ (nb ≤ cb ∧ cb ≤ 9223372036854775807) ∧ l.length = nb ∧ wr.ownsRow w1.heap.size 5 1 (.slice Ab nb cb) nb (l.map bv8) ∧ Hid (l = ((ys.take k).map PD.p).flatMap Pg.bears) ∧ Below w1.heap.size w1 wr) (fun _ iv _ => n - (intOf iv).toNat)
  case atStart => exact ⟨0, 0, 0, none, [], Nat.zero_le _, rfl, rfl, by omega, by omega, rfl, World.ownsRow_nil _ _ _ _, by rfl, Below.refl _ _⟩
  case round =>
    obtain ⟨k, nb, cb, Ab, l, hk, rfl, rfl, hnb, hcb, hll, hown, HF, hbr⟩ := hrel
    have HOWN := hid hown
    have HBR := hid hbr
    have HLL := hid hll
    clear hown hbr hll
    by_cases hlt : k < n
    · have hlt' : (k : Int) < (n : Int) := by omega
      obtain ⟨bb, o, rfl, hbb, hxm, hxg, hcells⟩ := (H.out.below (HBR.out.mono hB1)).get hlt
      obtain ⟨x, hx⟩ : ∃ x, ys[k]! = x := ⟨_, rfl⟩
      rw [hx] at hxm hcells hxg
      have hpx := (H.out.below (HBR.out.mono hB1)).at_ x hxm
      have h48x := H48.out x hxm
      have q0 := hcells 0 _ rfl
      have q1 := hcells 1 _ rfl
      have q2 := hcells 2 _ rfl
      have q3 := hcells 3 _ rfl
      have q4 := hcells 4 _ rfl
      simp only [Nat.add_zero] at q0 q1 q2 q3 q4
      obtain ⟨⟨Adx, cdx, hxd, hd1, hd2, hds⟩, ⟨Acx, ccx, hxc, _, _, _⟩⟩ := hpx
      obtain ⟨nbx, hnbx⟩ : ∃ q, x.p.bears.length = q := ⟨_, rfl⟩
      obtain ⟨ncx, hncx⟩ : ∃ q, x.p.cell.length = q := ⟨_, rfl⟩
      rw [hnbx] at hxd hds h48x
      rw [hncx] at hxc
      rw [hxd] at q3
      rw [hxc] at q4
      have htk : ((ys.take (k + 1)).map PD.p).flatMap Pg.bears = l ++ x.p.bears := by
        have hky : k < ys.length := by rw [HL.out]; exact hlt
        have e : ys[k] = x := by rw [List.getElem?_eq_getElem hky] at hxg; injection hxg
        rw [List.take_succ_eq_append_getElem hky, List.map_append, List.flatMap_append, ← HF.out, e]
        simp
      have HTK := hid htk
      have HNX := hid hnbx
      have hb4 : Below wr.heap.size wr (wr.alloc (.cells #[.int .i64 x.p.seq, .int .i64 x.p.at_, .int .i64 x.p.of_, .slice Adx nbx cdx, .slice Acx ncx ccx] 70)) := (Below.refl _ _).alloc (Nat.le_refl _) _
      have HB4 := hid hb4
      have HDS := hid (hds.below (hb4.mono (Nat.le_trans hB1 HBR.out.size)))
      have hr4 := Row.new wr 70 #[.int .i64 x.p.seq, .int .i64 x.p.at_, .int .i64 x.p.of_, .slice Adx nbx cdx, .slice Acx ncx ccx]
      have d3 := hr4.cell 3
      simp only [List.getElem?_cons_succ, List.getElem?_cons_zero] at d3
      have HOWN4 := hid (HOWN.out.kept (grown_of_below hb4 none) (by cases (Value.slice Ab nb cb).ownBlock <;> simp))
      have hz4 : w1.heap.size ≤ (wr.alloc (.cells #[.int .i64 x.p.seq, .int .i64 x.p.at_, .int .i64 x.p.of_, .slice Adx nbx cdx, .slice Acx ncx ccx] 70)).heap.size := Nat.le_trans HBR.out.size hb4.size
      clear hx hcells hxg hxd hxc hds hnbx hncx htk hb4 hxm hr4
      go_wp2_with (at_builtin; go_must (refine wpl_append rfl (.tmp 16) (.tmp 18) 37 rfl w1.heap.size 5 i0 (.int .u8 0) 1 1 Tryd.underlying37 hi hz0 hz1 hz2 rfl (by omega) (.slice Ab nb cb) nb (l.map bv8) rfl HOWN4.out B Adx nbx cdx (x.p.bears.map bv8) rfl HDS.out (u8s_cell _) (nb + nbx) rfl ((l ++ x.p.bears).map bv8) (by rw [List.map_append]) (by omega) (by omega) hz4 ?_); intro A7 c7 w7 ho7 hg7 _)
      have hb7 := below_own (HBR.out.trans (HB4.out.mono HBR.out.size)) HOWN4.out hg7 (Nat.le_refl _) hz4
      have hc7 := own_cap ho7
      have HO7 := hid ho7
      have HB7 := hid hb7
      clear ho7 hg7 hb7 q0 q1 q2 q3 q4 d3 hz4
      go_roundw
      case rel => exact ⟨k + 1, nb + nbx, c7, A7, l ++ x.p.bears, by omega, by go_num, rfl, by omega, hc7, by rw [List.length_append, HLL.out, HNX.out], HO7.out, HTK.out.symm, HB7.out⟩
      case measure => simp [intOf] <;> omega
    · have hlt' : ¬ (k : Int) < (n : Int) := by omega
      obtain rfl : k = n := by omega
      have hl := HF.out
      rw [List.take_of_length_le (by rw [HL.out]; exact Nat.le_refl _)] at hl
      have HLE := hid hl
      obtain ⟨r, hr⟩ : ∃ r, parseL l = r := ⟨_, rfl⟩
      have HRR := hid hr
      clear hr
      clear hl
      go_wp2_with fail
      refine (parse_any wr.heap.size Ab nb cb l wr (Sl.own HOWN.out) (Nat.le_refl _) (by omega) hcb.1 hcb.2 r HRR.out).mono ?_
      rintro e w2 ⟨Ad, nd, cd, Ao, no, co, ts, rfl, hom, hb2⟩
      have HB2 := hid (HBR.out.trans (hb2.mono HBR.out.size))
      have HOM := hid (hom.base_ HBR.out.size)
      have hr2 := (HR0.out.below HB2.out HG0.out)
      have HR2 := hid hr2
      have HBW2 := hid (HB0.out.trans (HB2.out.mono HB0.out.size))
      clear hom hb2 hr2
      cases r with
      | none =>
        have hTN : TT = none := by rw [← HT.out]; exact whole_none HLE.out HRR.out
        subst hTN
        simp only [Option.getD_none, Option.isSome_none]
        unfold Mani.val Mani.zero
        dsimp only
        have hb3 : Below w2.heap.size w2 (w2.alloc (.cells #[.int .i64 0, .int .i64 0, .int .i64 0, .int .i64 0, .int .i64 0, .int .i64 0, .slice Ad nd cd, .slice Ao no co] 27)) := (Below.refl _ _).alloc (Nat.le_refl _) _
        have HR3 := hid (HR2.out.below hb3 HR2.out.lt)
        have HB3 := hid (HBW2.out.trans (hb3.mono HBW2.out.size))
        clear hb3
        go_upto_region 8 with fail
        generalize w2.alloc (.cells #[.int .i64 0, .int .i64 0, .int .i64 0, .int .i64 0, .int .i64 0, .int .i64 0, .slice Ad nd cd, .slice Ao no co] 27) = w3 at *
        have hr := HR3.out
        have z0 := hr.cell 0
        have z1 := hr.cell 1
        have z2 := hr.cell 2
        have z3 := hr.cell 3
        have z4 := hr.cell 4
        have z5 := hr.cell 5
        have z6 := hr.cell 6
        have z7 := hr.cell 7
        simp only [List.getElem?_cons_succ, List.getElem?_cons_zero] at z0 z1 z2 z3 z4 z5 z6 z7
        clear hr
        have y0 := HR3.out.frozen 0
        have y1 := HR3.out.frozen 1
        have y2 := HR3.out.frozen 2
        have y3 := HR3.out.frozen 3
        have y4 := HR3.out.frozen 4
        have y5 := HR3.out.frozen 5
        have y6 := HR3.out.frozen 6
        have y7 := HR3.out.frozen 7
        go_wp2_with fail
        have R8 := row8 HR3.out (.int .i64 0) (.int .i64 0) (.int .i64 0) (.int .i64 0) (.int .i64 0) (.int .i64 0) (.slice none 0 0) (.slice none 0 0)
        have B8 := below8 (g := g0) HB3.out (Nat.le_of_eq HG00.out) HB3.out.size (.int .i64 0) (.int .i64 0) (.int .i64 0) (.int .i64 0) (.int .i64 0) (.int .i64 0) (.slice none 0 0) (.slice none 0 0)
        have q0 := R8.cell 0
        have q1 := R8.cell 1
        have q2 := R8.cell 2
        have q3 := R8.cell 3
        have q4 := R8.cell 4
        have q5 := R8.cell 5
        have q6 := R8.cell 6
        have q7 := R8.cell 7
        simp only [List.getElem?_cons_succ, List.getElem?_cons_zero] at q0 q1 q2 q3 q4 q5 q6 q7
        refine bodyPost_ret (v := .tuple #[.agg #[.int .i64 0, .int .i64 0, .int .i64 0, .int .i64 0, .int .i64 0, .int .i64 0, .slice none 0 0, .slice none 0 0], .bool false]) ?_ rfl ⟨Mani.zero, none, 0, 0, none, 0, 0, [], false, rfl, OM.zero_ _ _, zero_m64.1, zero_m64.2, B8, fun _ => rfl, fun hh => by cases hh⟩
        · simp [results, Tryd.results40, go_sem, q0, q1, q2, q3, q4, q5, q6, q7]
      | some m =>
        simp only [Option.getD_some, Option.isSome_some] at HOM ⊢
        have hm64 := parse_m64 HRR.out
        unfold Mani.val
        have hb3 : Below w2.heap.size w2 (w2.alloc (.cells #[.int .i64 m.seq, .int .i64 m.next, .int .i64 m.P.K, .int .i64 m.P.H, .int .i64 m.P.S, .int .i64 m.extra, .slice Ad nd cd, .slice Ao no co] 27)) := (Below.refl _ _).alloc (Nat.le_refl _) _
        have hr3 := Row.new w2 27 #[.int .i64 m.seq, .int .i64 m.next, .int .i64 m.P.K, .int .i64 m.P.H, .int .i64 m.P.S, .int .i64 m.extra, .slice Ad nd cd, .slice Ao no co]
        have HR3 := hid (HR2.out.below hb3 HR2.out.lt)
        have HB3 := hid (HBW2.out.trans (hb3.mono HBW2.out.size))
        have HOM3 := hid (HOM.out.below hb3)
        have HX3 := hid hr3
        have H3 := hid ((H.out.below (HB2.out.mono hB1)).below (hb3.mono (Nat.le_trans hB1 HB2.out.size)))
        have hw3 : B ≤ (w2.alloc (.cells #[.int .i64 m.seq, .int .i64 m.next, .int .i64 m.P.K, .int .i64 m.P.H, .int .i64 m.P.S, .int .i64 m.extra, .slice Ad nd cd, .slice Ao no co] 27)).heap.size := Nat.le_trans (Nat.le_trans hB1 HB2.out.size) hb3.size
        clear hb3 hr3
        go_upto_region 8 with fail
        generalize w2.alloc (.cells #[.int .i64 m.seq, .int .i64 m.next, .int .i64 m.P.K, .int .i64 m.P.H, .int .i64 m.P.S, .int .i64 m.extra, .slice Ad nd cd, .slice Ao no co] 27) = w3 at *
        obtain ⟨g3, hg3⟩ : ∃ g, w2.heap.size = g := ⟨_, rfl⟩
        rw [hg3] at HX3 ⊢
        have HNE := hid (show g0 ≠ g3 by have := HR2.out.lt; omega)
        clear hg3
        have hr := HX3.out
        have x0 := hr.cell 0
        have x1 := hr.cell 1
        have x2 := hr.cell 2
        have x3 := hr.cell 3
        have x4 := hr.cell 4
        have x5 := hr.cell 5
        have x6 := hr.cell 6
        have x7 := hr.cell 7
        simp only [List.getElem?_cons_succ, List.getElem?_cons_zero] at x0 x1 x2 x3 x4 x5 x6 x7
        clear hr
        go_wp2_with fail
        refine (psplit_any m w3.heap.size Ad Ao nd cd no co ts w3 HOM3.out.read (Nat.le_refl _) hm64.1 hm64.2).mono ?_
        rintro e w4 ⟨A4, c4, vs4, rfl, ho4, hb4⟩
        obtain ⟨n4, hn4⟩ : ∃ q, (pagesL m.seq (pack m)).length = q := ⟨_, rfl⟩
        rw [hn4] at ho4
        have hrb := ho4.read hn4
        have hn49 : n4 ≤ 1048576 := by rw [← hn4, pagesL_len]; have := pack_max m; unfold pageN; omega
        rw [hn4]
        have HRB := hid hrb
        have HR4 := hid (HR3.out.below hb4 HR3.out.lt)
        have HX4 := hid (HX3.out.below hb4 HX3.out.lt)
        have HB4 := hid (HB3.out.trans (hb4.mono HB3.out.size))
        have HOM4 := hid (HOM3.out.below hb4)
        have H4 := hid ((H3.out.below (hb4.mono hw3)).mono (Nat.le_trans hw3 hb4.size))
        obtain ⟨bq, hbq⟩ : ∃ b, decide (pagesL m.seq (pack m) = ys.map fun y => y.p.cell) = b := ⟨_, rfl⟩
        have HBQ := hid hbq
        have HWS := hid (whole_some (b := bq) HLE.out HRR.out (by
          rw [← hbq, List.map_map]; rfl))
        clear ho4 hrb hn4 hb4 hbq x0 x1 x2 x3 x4 x5 x6 x7
        go_wp2_with fail
        refine (eqcells_any w4.heap.size A4 A n4 c4 k c vs4 (pagesL m.seq (pack m)) ys bq w4 HRB.out H4.out (Nat.le_refl _) hn49 HBQ.out).mono ?_
        rintro e w5 ⟨rfl, hb5⟩
        have HR5 := hid (HR4.out.below hb5 HR4.out.lt)
        have HX5 := hid (HX4.out.below hb5 HX4.out.lt)
        have HB5 := hid (HB4.out.trans (hb5.mono HB4.out.size))
        have HOM5 := hid (HOM4.out.below hb5)
        clear hb5
        have hr := HX5.out
        have x0 := hr.cell 0
        have x1 := hr.cell 1
        have x2 := hr.cell 2
        have x3 := hr.cell 3
        have x4 := hr.cell 4
        have x5 := hr.cell 5
        have x6 := hr.cell 6
        have x7 := hr.cell 7
        simp only [List.getElem?_cons_succ, List.getElem?_cons_zero] at x0 x1 x2 x3 x4 x5 x6 x7
        clear hr
        have hr := HR5.out
        have z0 := hr.cell 0
        have z1 := hr.cell 1
        have z2 := hr.cell 2
        have z3 := hr.cell 3
        have z4 := hr.cell 4
        have z5 := hr.cell 5
        have z6 := hr.cell 6
        have z7 := hr.cell 7
        simp only [List.getElem?_cons_succ, List.getElem?_cons_zero] at z0 z1 z2 z3 z4 z5 z6 z7
        clear hr
        have y0 := HR5.out.frozen 0
        have y1 := HR5.out.frozen 1
        have y2 := HR5.out.frozen 2
        have y3 := HR5.out.frozen 3
        have y4 := HR5.out.frozen 4
        have y5 := HR5.out.frozen 5
        have y6 := HR5.out.frozen 6
        have y7 := HR5.out.frozen 7
        go_wp2_with fail
        have R8 := row8 HR5.out (.int .i64 m.seq) (.int .i64 m.next) (.int .i64 m.P.K) (.int .i64 m.P.H) (.int .i64 m.P.S) (.int .i64 m.extra) (.slice Ad nd cd) (.slice Ao no co)
        have B8 := below8 (g := g0) HB5.out (Nat.le_of_eq HG00.out) HB5.out.size (.int .i64 m.seq) (.int .i64 m.next) (.int .i64 m.P.K) (.int .i64 m.P.H) (.int .i64 m.P.S) (.int .i64 m.extra) (.slice Ad nd cd) (.slice Ao no co)
        have q0 := R8.cell 0
        have q1 := R8.cell 1
        have q2 := R8.cell 2
        have q3 := R8.cell 3
        have q4 := R8.cell 4
        have q5 := R8.cell 5
        have q6 := R8.cell 6
        have q7 := R8.cell 7
        simp only [List.getElem?_cons_succ, List.getElem?_cons_zero] at q0 q1 q2 q3 q4 q5 q6 q7
        refine bodyPost_ret (v := .tuple #[.agg #[.int .i64 m.seq, .int .i64 m.next, .int .i64 m.P.K, .int .i64 m.P.H, .int .i64 m.P.S, .int .i64 m.extra, .slice Ad nd cd, .slice Ao no co], .bool bq]) ?_ rfl ⟨m, Ad, nd, cd, Ao, no, co, ts, bq, rfl, (HOM5.out.other (grown8s _ _ _ _ _ _ _ _ _ _) HR5.out (by decide) (by decide)).base_ HB0.out.size, hm64.1, hm64.2, B8, fun hh => by rw [← HT.out]; exact HWS.out.1 hh, fun hh => by rw [← HT.out]; exact HWS.out.2 hh⟩
        · simp [results, Tryd.results40, go_sem, q0, q1, q2, q3, q4, q5, q6, q7]
end Go.Proofs.YtbpimfhachbcdaaDoor

