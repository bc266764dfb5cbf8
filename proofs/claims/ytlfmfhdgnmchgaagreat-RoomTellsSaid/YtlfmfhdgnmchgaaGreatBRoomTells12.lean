/- Mani3 RdEnt RdEnt2 OwnMani ParseMath ST -/
import Derived.Laws.BytesArg
import Derived.Deep.RegionLaw
import Derived.Deep.AppendLies
import Derived.Test.YtlfmfhdgnmchgaaGreatBRoomTells01
import Derived.Test.YtlfmfhdgnmchgaaGreatBRoomTells02
import Derived.Test.YtlfmfhdgnmchgaaGreatBRoomTells03
import Derived.Test.YtlfmfhdgnmchgaaGreatBRoomTells10
import Derived.Test.YtlfmfhdgnmchgaaGreatBRoomTells11
set_option maxRecDepth 20000
set_option linter.unusedSimpArgs false
set_option linter.unusedVariables false
set_option linter.unusedSectionVars false
namespace Wells
open Go Go.RowKit
/-- an entry in four cells at the head of block g -/
def ECells (w : World) (g : Nat) (x : Ent) (tv : Value) : Prop :=
  w.cell? ⟨g, 0, none⟩ = some (.string (strB x.name)) ∧ w.cell? ⟨g, 1, none⟩ = some (.int .i64 x.obj) ∧ w.cell? ⟨g, 2, none⟩ = some (.int .i64 x.len) ∧ w.cell? ⟨g, 3, none⟩ = some tv
theorem ECells.keep {w w' : World} {g B : Nat} {x : Ent} {tv : Value} (h : ECells w g x tv) (hb : Below B w w') (hg : g < B) : ECells w' g x tv := by
  obtain ⟨h0, h1, h2, h3⟩ := h
  have k : ∀ i, w'.cell? ⟨g, i, none⟩ = w.cell? ⟨g, i, none⟩ := fun i => hb.cell (p := ⟨g, i, none⟩) hg
  exact ⟨(k 0).trans h0, (k 1).trans h1, (k 2).trans h2, (k 3).trans h3⟩
abbrev entObj (t : TypeId) (x : Ent) (tv : Value) : Obj := .cells #[.string (strB x.name), .int .i64 x.obj, .int .i64 x.len, tv] t
theorem ECells.of_row {w : World} {g : Nat} {t : TypeId} {x : Ent} {tv : Value} (h : Row w g t [.string (strB x.name), .int .i64 x.obj, .int .i64 x.len, tv]) : ECells w g x tv :=
  ⟨h.cell 0, h.cell 1, h.cell 2, h.cell 3⟩
theorem ECells.new (w : World) (t : TypeId) (x : Ent) (tv : Value) : ECells (w.alloc (entObj t x tv)) w.heap.size x tv := .of_row (Row.new w t _)
theorem ECells.lt {w : World} {g : Nat} {x : Ent} {tv : Value} (h : ECells w g x tv) : g < w.heap.size := World.block_lt_of_cell? w _ h.1
theorem tries_no {l : List Int} {k : Nat} (hk : k < l.length) (h : decide (0 ≤ l.getD k 0 ∧ l.getD k 0 ≤ 15) = false) : triesOk l = false := by
  unfold triesOk
  rw [List.all_eq_false]
  refine ⟨l.getD k 0, ?_, by rw [h]; simp⟩
  rw [List.getD_eq_getElem?_getD, List.getElem?_eq_getElem hk]; exact List.getElem_mem _
theorem tries_yes {l : List Int} (h : ∀ k, k < l.length → decide (0 ≤ l.getD k 0 ∧ l.getD k 0 ≤ 15) = true) : triesOk l = true := by
  unfold triesOk
  rw [List.all_eq_true]
  intro c hc
  obtain ⟨k, hk, rfl⟩ := List.getElem_of_mem hc
  have := h k hk
  rwa [List.getD_eq_getElem?_getD, List.getElem?_eq_getElem hk] at this
end Wells
namespace Go.Proofs.YtlfmfhdgnmchgaaGreat
open Go.RowKit Wells
theorem idxtry_any (B : Nat) (A : Option Addr) (l : List Int) (n c : Nat) (b : Bool) (w : World) (h : Sl w B 1 A n (l.map iv)) (hn : n ≤ 9223372036854775807) (hb : triesOk l = b) :
    Calls Tryz.prog 117 #[.slice A n c, .func (Fn.func 109) #[] #[]] w fun e w' => (∃ r : Int, e = .returned (.int .i64 r) ∧ decide (0 ≤ r) = !b) ∧ w = w' := by
  have HL := hid (show l.length = n by have := h.len; simpa using this)
  have HB := hid hb
  clear hb
  go_enter Tryz.func117, Tryz.ntmps117
  go_wp2_with fail
  go_loop [8] (fun i => ∃ k : Nat, k ≤ n ∧ i = .int .i64 k ∧ Hid (∀ j, j < k → decide (0 ≤ l.getD j 0 ∧ l.getD j 0 ≤ 15) = true)) (fun i => n - (intOf i).toNat)
  case atStart => exact ⟨0, Nat.zero_le _, rfl, hid (fun j hj => absurd hj (by omega))⟩
  case round =>
    obtain ⟨k, hk, rfl, HK⟩ := hrel
    by_cases hlt : k < n
    · obtain ⟨bb, o, rfl, hbb, hce⟩ := h.get hlt (ivs_get l k (by rw [HL.out]; exact hlt))
      obtain ⟨x, hx⟩ : ∃ x, l.getD k 0 = x := ⟨_, rfl⟩
      have HX := hid hx
      rw [hx] at hce
      clear hx
      obtain ⟨bx, hbx⟩ : ∃ b, decide (0 ≤ x ∧ x ≤ 15) = b := ⟨_, rfl⟩
      have HBX := hid hbx
      cases bx with
      | false =>
        have hno : b = false := by rw [← HB.out]; exact tries_no (k := k) (by rw [HL.out]; exact hlt) (by rw [HX.out]; exact HBX.out)
        subst hno
        clear hbx
        go_wp2_with fail
        refine (try_any x false w HBX.out).mono ?_
        rintro e w3 ⟨rfl, hw3⟩
        rw [← hw3]
        clear hw3 w3
        go_wp2_with fail
        go_ret
        exact ⟨⟨_, rfl, by simp⟩, rfl⟩
      | true =>
        clear hbx
        go_wp2_with fail
        refine (try_any x true w HBX.out).mono ?_
        rintro e w3 ⟨rfl, hw3⟩
        rw [← hw3]
        clear hw3 w3
        go_wp2_with fail
        go_round
        case rel => exact ⟨k + 1, by omega, by go_num, hid (fun j hj => by
          rcases Nat.lt_or_ge j k with h | h
          · exact HK.out j h
          · have e : j = k := by omega
            rw [e, HX.out]; exact HBX.out)⟩
        case measure => simp [intOf]; omega
    · obtain rfl : k = n := by omega
      have hyes : b = true := by rw [← HB.out]; exact tries_yes (fun j hj => HK.out j (by rw [HL.out] at hj; exact hj))
      subst hyes
      go_wp2_with fail
      go_ret
      exact ⟨⟨_, rfl, by simp⟩, rfl⟩
theorem hastry_any (B : Nat) (A : Option Addr) (l : List Int) (n c : Nat) (b : Bool) (w : World) (h : Sl w B 1 A n (l.map iv)) (hn : n ≤ 9223372036854775807) (hb : triesOk l = b) :
    Calls Tryz.prog 108 #[.slice A n c, .func (Fn.func 109) #[] #[]] w fun e w' => e = .returned (.bool (!b)) ∧ w = w' := by
  go_enter Tryz.func108, Tryz.ntmps108
  go_wp2_with fail
  refine (idxtry_any B A l n c b w h hn hb).mono ?_
  rintro e w3 ⟨⟨r, rfl, hr⟩, hw3⟩
  rw [← hw3]
  clear hw3 w3
  have HR := hid hr
  clear hr
  go_wp2_with fail
  go_ret
  exact ⟨ret_bool HR.out, rfl⟩
set_option maxHeartbeats 2000000 in
theorem entry_any (m : Mani) (x : Ent) (B : Nat) (Ad Ao At : Option Addr) (nd cd no co nt ct : Nat) (b : Bool) (w : World) (hs : Sl w B 1 At nt (x.tries.map iv)) (hB : B ≤ w.heap.size) (hnt : x.tries.length = nt) (hnt2 : nt ≤ 9223372036854775807) (hnm : x.name.length ≤ 1048576)
    (hP : m.P.may = true) (hnx : 0 ≤ m.next ∧ m.next ≤ 16777216) (hxl : -9223372036854775808 ≤ x.len ∧ x.len ≤ 9223372036854775807) (hb : entB m x = b) :
    Calls Tryz.prog 92 #[m.val (.slice Ad nd cd) (.slice Ao no co), x.val (.slice At nt ct)] w fun e w' => e = .returned (.bool b) ∧ Below w.heap.size w w' := by
  have hpk := Par.may_ok hP
  obtain ⟨k1, k2, _, _, s1, s2⟩ := hpk
  have hsz := Par.size_le (Par.may_ok hP)
  unfold Par.size at hsz
  obtain ⟨ks, hks⟩ : ∃ q, m.P.K * m.P.S = q := ⟨_, rfl⟩
  rw [hks] at hsz
  have hw8 : IntKind.i64.wrap (ks * 8) = ks * 8 := by rw [IntKind.wrap_i64]; omega
  obtain ⟨b1, hb1⟩ : ∃ q, nameOk x.name = q := ⟨_, rfl⟩
  obtain ⟨b2, hb2⟩ : ∃ q, decide (0 ≤ x.obj ∧ x.obj ≤ m.next - 1) = q := ⟨_, rfl⟩
  obtain ⟨b3, hb3⟩ : ∃ q, decide (0 ≤ x.len ∧ x.len ≤ ks * 8) = q := ⟨_, rfl⟩
  obtain ⟨b4, hb4⟩ : ∃ q, triesOk x.tries = q := ⟨_, rfl⟩
  obtain ⟨cn, hcn⟩ : ∃ q, countP m.P x.len = q := ⟨_, rfl⟩
  have hall : b = (b1 && (b2 && (b3 && (b4 && decide ((nt : Int) = cn))))) := by rw [← hb]; unfold entB; rw [hks, hb1, hb2, hb3, hb4, hcn, hnt]
  have HA := hid hall
  have H1 := hid hb1
  have H2 := hid hb2
  have H3 := hid hb3
  have H4 := hid hb4
  have HC := hid hcn
  have hcm := MCells.new w 27 m (.slice Ad nd cd) (.slice Ao no co)
  have hb01 : Below w.heap.size w (w.alloc (maniObj 27 m (.slice Ad nd cd) (.slice Ao no co))) := (Below.refl _ _).alloc (Nat.le_refl _) _
  have hce := ECells.new (w.alloc (maniObj 27 m (.slice Ad nd cd) (.slice Ao no co))) 69 x (.slice At nt ct)
  have hb02 := hb01.alloc hb01.size (entObj 69 x (.slice At nt ct))
  have hcm2 := hcm.keep ((Below.refl (w.alloc (maniObj 27 m (.slice Ad nd cd) (.slice Ao no co))).heap.size _).alloc (Nat.le_refl _) (entObj 69 x (.slice At nt ct))) (by simp)
  have hgs : (w.alloc (maniObj 27 m (.slice Ad nd cd) (.slice Ao no co))).heap.size = w.heap.size + 1 := by simp
  rw [hgs] at hce
  clear hall hb1 hb2 hb3 hb4 hcn hb hb01 hcm hgs
  unfold Mani.val Ent.val
  go_enter Tryz.func92, Tryz.ntmps92
  obtain ⟨c0, c1, c2, c3, c4, c5, c6, c7⟩ := hcm2
  obtain ⟨e0, e1, e2, e3⟩ := hce
  go_wp2_with fail
  generalize (w.alloc (maniObj 27 m (.slice Ad nd cd) (.slice Ao no co))).alloc (entObj 69 x (.slice At nt ct)) = w2 at *
  have hz2 := hb02.size
  refine (name_any x.name b1 w2 hnm H1.out).mono ?_
  rintro e w3 ⟨rfl, hb3⟩
  have hz3 := hb3.size
  replace c1 := cell_keep hb3 c1
  replace c2 := cell_keep hb3 c2
  replace c3 := cell_keep hb3 c3
  replace c4 := cell_keep hb3 c4
  replace e1 := cell_keep hb3 e1
  replace e2 := cell_keep hb3 e2
  replace e3 := cell_keep hb3 e3
  have hb03 := hb02.trans (hb3.mono hz2)
  clear hb3 hb02 c0 c5 c6 c7 e0
  cases b1 with
  | false =>
    have hb : b = false := by rw [HA.out]; rfl
    subst hb
    go_wp2_with fail
    go_ret
    exact ⟨rfl, hb03⟩
  | true =>
  go_wp2_with fail
  refine (mwithin_any x.obj 0 (m.next - 1) b2 w3 H2.out).mono ?_
  rintro e w4 ⟨rfl, hw4⟩
  rw [← hw4]
  clear hw4 w4
  cases b2 with
  | false =>
    have hb : b = false := by rw [HA.out]; rfl
    subst hb
    go_wp2_with fail
    go_ret
    exact ⟨rfl, hb03⟩
  | true =>
  go_wp2_with fail
  refine (mwithin_any x.len 0 (ks * 8) b3 w3 H3.out).mono ?_
  rintro e w4 ⟨rfl, hw4⟩
  rw [← hw4]
  clear hw4 w4
  cases b3 with
  | false =>
    have hb : b = false := by rw [HA.out]; rfl
    subst hb
    go_wp2_with fail
    go_ret
    exact ⟨rfl, hb03⟩
  | true =>
  have hs3 := hs.below (hb03.mono hB)
  go_wp2_with fail
  refine (hastry_any B At x.tries nt ct b4 w3 hs3 hnt2 H4.out).mono ?_
  rintro e w4 ⟨rfl, hw4⟩
  rw [← hw4]
  clear hw4 w4
  cases b4 with
  | false =>
    have hb : b = false := by rw [HA.out]; rfl
    subst hb
    go_wp2_with fail
    go_quiet (fail)
    go_wp2_with fail
    go_ret
    exact ⟨rfl, below_drewN hb03 _⟩
  | true =>
  have hb : b = decide ((nt : Int) = cn) := by rw [HA.out]; rfl
  have HBB := hid hb
  obtain ⟨P, hPm⟩ : ∃ P, m.P = P := ⟨_, rfl⟩
  have hcn := HC.out
  have hvp : Par.val P = .agg #[.int .i64 m.P.K, .int .i64 m.P.H, .int .i64 m.P.S] := by rw [← hPm]; rfl
  rw [hPm] at hcn
  have HCN := hid hcn
  have HVP := hid hvp
  clear hb hcn hPm hvp
  go_wp2_with fail
  go_region_held3 (fun w' => w'.cell? ⟨w.heap.size, 2, none⟩ = some (.int .i64 m.P.K) ∧ w'.cell? ⟨w.heap.size, 3, none⟩ = some (.int .i64 m.P.H) ∧ w'.cell? ⟨w.heap.size, 4, none⟩ = some (.int .i64 m.P.S) ∧ w'.cell? ⟨w.heap.size + 1, 2, none⟩ = some (.int .i64 x.len) ∧ w'.cell? ⟨w.heap.size + 1, 3, none⟩ = some (.slice At nt ct) ∧ Below w3.heap.size w3 w')
    (first
      | exact H5.drew ⟨c2, c3, c4, e2, e3, Below.refl _ _⟩
      | exact H5.keep hbb (by assumption)
      | exact H5.draws (by assumption) _)
    (first
      | (go_at_call 110; rw [← HVP.out]; refine (count_any P x.len cn _ hxl HCN.out).mono ?_; rintro e w' ⟨rfl, hbb⟩))
  have hh := H5.below ‹_ ∧ _ ∧ _ ∧ _ ∧ _ ∧ Below w3.heap.size w3 _›
  have hbe := hb03.trans (hh.mono (by omega))
  go_wp2_with fail
  go_ret
  exact ⟨ret_bool (by rw [HBB.out]; first | rfl | simp), hbe⟩
end Go.Proofs.YtlfmfhdgnmchgaaGreat

namespace Wells
open Go Go.RowKit
theorem conv_str {P : Program} {w : World} {B n c : Nat} {A : Option Addr} {l : List Byte} (src dst e : TypeId) (hs : P.underlying src = some (.slice e)) (he : P.underlying e = some (.int .u8)) (hd : P.underlying dst = some .string) (h : Sl w B 1 A n (l.map bv8)) :
    (convert src dst (.slice A n c)).run P w = .ok (.string (strB l)) w := by
  have hl : l.length = n := by have := h.len; simpa using this
  rcases A with _ | a
  · have h0 : n = 0 := by
      rcases Nat.eq_zero_or_pos n with h0 | h0
      · exact h0
      · obtain ⟨_, _, hh, _⟩ := h.at_ h0
        cases hh
    subst h0
    have : l = [] := List.eq_nil_of_length_eq_zero hl
    subst this
    exact run_convert_bytes_nil w src e hs he 0 c dst hd
  · rw [run_convert_bytes_string w src dst e (some a) n c hs he hd]
    have hld := run_loadCells_list (P := P) w a ((l.map (fun b : Byte => (b.toNat : Int))).map (Value.int .u8)) (fun j v hj => by
      have hjl : j < l.length := by
        have := (List.getElem?_eq_some_iff.1 hj).1
        simpa using this
      obtain ⟨b, o, hA, _, hc⟩ := h.at_ (by omega)
      injection hA with hA
      subst hA
      rw [addr_add]
      refine hc j v ?_
      rw [← hj, List.map_map]
      rfl)
    simp only [List.length_map] at hld
    rw [hl] at hld
    rw [run_bytesToString w a n c _ hld, foldl_push_bytes]
    congr 2
    unfold strB
    congr 1
    have he0 : ByteArray.empty.data = #[] := rfl
    rw [he0, Array.empty_append, List.map_map]
    congr 1
    apply List.map_congr_left
    intro x _
    apply UInt8.toNat_inj.1
    have := x.isLt
    simp
end Wells

namespace Wells
open Go Go.RowKit
theorem grown_set {w wr : World} {g : Nat} (h : w.grownBy wr (some g)) {k : Nat} (hk : k = g ∨ w.heap.size ≤ k) (j : Nat) (u : Value) : w.grownBy (wr.setCell ⟨k, j, none⟩ u) (some g) :=
  ⟨h.os, h.tape, h.output, by simpa [World.setCell] using h.size, fun i hi hne => (Below.heap_setCell wr ⟨k, j, none⟩ u i (fun e => by
    rcases hk with rfl | hk
    · exact hne (by rw [e])
    · have : i = k := e
      omega)).trans (h.block i hi hne)⟩
theorem grown_new {w w' : World} (h : Below w.heap.size w w') (r : Option Nat) : w.grownBy w' r := ⟨h.os, h.tape, h.output, h.size, fun k hk _ => h.block k hk⟩
theorem row4 {w : World} {g : Nat} {t : TypeId} {z0 z1 z2 z3 : Value} (h : Row w g t [z0, z1, z2, z3]) (a0 a1 a2 a3 : Value) : Row ((((w.setCell ⟨g, 0, none⟩ a0).setCell ⟨g, 1, none⟩ a1).setCell ⟨g, 2, none⟩ a2).setCell ⟨g, 3, none⟩ a3) g t [a0, a1, a2, a3] := (((h.set 0 a0).set 1 a1).set 2 a2).set 3 a3
end Wells
namespace Go.Proofs.YtlfmfhdgnmchgaaGreat
open Go.RowKit Wells
theorem Rd.grown {t : TypeId} {B g k : Nat} {w w' : World} {st : RSt} (h : Rd t B w g st) (hg : w.grownBy w' (some k)) (hk : k ≠ g) (hB : B ≤ k) (hBw : B ≤ w.heap.size) : Rd t B w' g st := by
  obtain ⟨A, n, c, h1, h2, h3, h4, h5, h6⟩ := h
  exact ⟨A, n, c, h1.grown hg (fun e => by injection e with e; exact hk e.symm), h2.below ((Below.refl B w).grown hg hBw (fun q hq => by injection hq with hq; omega)), h3, h4, h5, h6⟩
theorem Rd.lt {t : TypeId} {B g : Nat} {w : World} {st : RSt} (h : Rd t B w g st) : g < w.heap.size ∧ B ≤ g := by
  obtain ⟨A, n, c, h1, h2, h3, h4, h5, h6⟩ := h
  exact ⟨h1.lt, h6⟩
theorem _root_.Go.World.ownsRow.far_ {base size n g : Nat} {w : World} {e t : TypeId} {v : Value} {xs cs : List Value} (h : w.ownsRow base e size v n xs) (hr : Row w g t cs) (hne : e ≠ t) (i : Nat) (x : Value) : (w.setCell ⟨g, i, none⟩ x).ownsRow base e size v n xs :=
  h.kept (row := some g) ⟨rfl, rfl, rfl, by simp [World.setCell], fun k _ hn => Below.heap_setCell w ⟨g, i, none⟩ x k (fun e => hn (by rw [e]))⟩ (by
    rcases own_ne h hr hne with h1 | h1
    · exact .inl h1
    · exact .inr h1)
theorem Rd.drew_ {t : TypeId} {B g : Nat} {w : World} {st : RSt} (h : Rd t B w g st) : Rd t B w.drew g st := by
  obtain ⟨A, n, c, h1, h2, h3, h4, h5, h6⟩ := h
  exact ⟨A, n, c, h1.drew, h2.drew, h3, h4, h5, h6⟩
theorem Rd.appd {t e : TypeId} {B g base size n : Nat} {w w1 : World} {st : RSt} {v : Value} {xs : List Value} (h : Rd t B w g st) (hv : w.ownsRow base e size v n xs) (hg : w.grownBy w1 v.ownBlock) (hne : e ≠ t) (hB : B ≤ base) : Rd t B w1 g st := by
  have hl := h.lt
  obtain ⟨A, m, c, h1, h2, h3, h4, h5, h6⟩ := h
  refine ⟨A, m, c, h1.grown hg ?_, h2.below ((Below.refl B w).grown hg (by omega) (fun k hk => Nat.le_trans hB (hv.lt k hk).1)), h3, h4, h5, h6⟩
  rcases own_ne hv h1 hne with e1 | e1
  · rw [e1]; intro e2; cases e2
  · exact fun e2 => e1 e2.symm
end Go.Proofs.YtlfmfhdgnmchgaaGreat

namespace Go.Proofs.YtlfmfhdgnmchgaaGreat
open Go.RowKit Wells
theorem infoE : (Tryz.prog.info? 69).map (fun i => (i.zero, i.size, i.bytes)) = some (some (.agg #[.string ⟨#[]⟩, .int .i64 0, .int .i64 0, .slice none 0 0]), 4, 56) := by kernel_rfl
/-- entries of the call's own -/
structure OEs (base : Nat) (w : World) (v : Value) (ts : List Value) (es : List Ent) : Prop where
  own : w.ownsRow base 69 4 v es.length (entsC es ts)
  tl : ts.length = es.length
  at_ : ∀ i, i < es.length → ∃ A c, ts.getD i undef = .slice A (es.getD i default).tries.length c ∧ w.ownsRow base 3 1 (.slice A (es.getD i default).tries.length c) (es.getD i default).tries.length ((es.getD i default).tries.map iv)
section
variable {base : Nat} {w w' : World} {v v' : Value} {ts : List Value} {es : List Ent}
theorem OEs.nil_ (base : Nat) (w : World) : OEs base w (.slice none 0 0) [] [] := ⟨World.ownsRow_nil _ _ _ _, rfl, fun i hi => absurd hi (by simp)⟩
theorem OEs.below (h : OEs base w v ts es) (hb : Below w.heap.size w w') : OEs base w' v ts es :=
  ⟨h.own.kept (grown_of_below hb none) (by cases v.ownBlock <;> simp), h.tl, fun i hi => by
    obtain ⟨A, c, e, ho⟩ := h.at_ i hi
    exact ⟨A, c, e, ho.kept (grown_of_below hb none) (by cases (Value.slice A _ c).ownBlock <;> simp)⟩⟩
theorem OEs.other {g : Nat} {t : TypeId} {cs : List Value} (h : OEs base w v ts es) (hg : w.grownBy w' (some g)) (hr : Row w g t cs) (h1 : 69 ≠ t) (h2 : 3 ≠ t) : OEs base w' v ts es :=
  ⟨h.own.kept hg (own_ne h.own hr h1), h.tl, fun i hi => by
    obtain ⟨A, c, e, ho⟩ := h.at_ i hi
    exact ⟨A, c, e, ho.kept hg (own_ne ho hr h2)⟩⟩
theorem OEs.drew_ (h : OEs base w v ts es) : OEs base w.drew v ts es := ⟨h.own, h.tl, h.at_⟩
theorem OEs.form (h : OEs base w v ts es) : ∃ A c, v = .slice A es.length c ∧ es.length ≤ c ∧ c ≤ 9223372036854775807 := by
  obtain ⟨A, c, e, h1, h2, _⟩ := own_slice h.own
  exact ⟨A, c, e, h1, h2⟩
theorem OEs.push {tv : Value} {x : Ent} (h : OEs base w v ts es) {A : Option Addr} {c : Nat} (htv : tv = .slice A x.tries.length c) (hx : w.ownsRow base 3 1 tv x.tries.length (x.tries.map iv))
    (ho : w'.ownsRow base 69 4 v' (es.length + 1) (entsC es ts ++ x.cells tv)) (hg : w.grownBy w' v.ownBlock) : OEs base w' v' (ts ++ [tv]) (es ++ [x]) := by
  refine ⟨by rw [entsC_snoc x tv es ts h.tl.symm]; simpa using ho, by simp [h.tl], fun i hi => ?_⟩
  simp only [List.length_append, List.length_singleton] at hi
  by_cases hlt : i < es.length
  · rw [List.getD_eq_getElem?_getD, List.getD_eq_getElem?_getD, List.getElem?_append_left (by rw [h.tl]; exact hlt), List.getElem?_append_left hlt, ← List.getD_eq_getElem?_getD, ← List.getD_eq_getElem?_getD]
    obtain ⟨A', c', e, ho'⟩ := h.at_ i hlt
    exact ⟨A', c', e, ho'.kept hg (own_other ho' h.own (by decide))⟩
  · have he : i = es.length := by omega
    subst he
    rw [List.getD_eq_getElem?_getD, List.getD_eq_getElem?_getD, List.getElem?_append_right (by rw [h.tl]; exact Nat.le_refl _), List.getElem?_append_right (Nat.le_refl _), h.tl]
    simp only [Nat.sub_self, List.getElem?_cons_zero, Option.getD_some]
    exact ⟨A, c, htv, by rw [← htv]; exact hx.kept hg (own_other hx h.own (by decide))⟩
theorem OEs.read {A : Option Addr} {n c : Nat} (h : OEs base w (.slice A n c) ts es) (hn : es.length = n) : REs w w.heap.size A n ts es := by
  subst hn
  refine ⟨Sl.own h.own, rfl, h.tl, fun i hi => ?_⟩
  obtain ⟨A', c', e, ho⟩ := h.at_ i hi
  have hc := own_cap ho
  exact ⟨A', c', e, hc.1, hc.2, Sl.own ho⟩
end
/-- a manifest's two lists, of the call's own -/
structure OM (base : Nat) (w : World) (m : Mani) (Ad : Option Addr) (nd cd : Nat) (Ao : Option Addr) (no co : Nat) (ts : List Value) : Prop where
  d : w.ownsRow base 3 1 (.slice Ad nd cd) nd (m.drives.map iv)
  dl : m.drives.length = nd
  o : OEs base w (.slice Ao no co) ts m.objs
  ol : m.objs.length = no
theorem OM.read {base : Nat} {w : World} {m : Mani} {Ad Ao : Option Addr} {nd cd no co : Nat} {ts : List Value} (h : OM base w m Ad nd cd Ao no co ts) : RM w w.heap.size m Ad nd cd Ao no co ts := by
  refine ⟨Sl.own h.d, h.dl, own_cap h.d, h.o.read h.ol, ?_⟩
  have := h.o.own
  rw [h.ol] at this
  exact own_cap this
theorem OM.below {base : Nat} {w w' : World} {m : Mani} {Ad Ao : Option Addr} {nd cd no co : Nat} {ts : List Value} (h : OM base w m Ad nd cd Ao no co ts) (hb : Below w.heap.size w w') : OM base w' m Ad nd cd Ao no co ts :=
  ⟨h.d.kept (grown_of_below hb none) (by cases (Value.slice Ad nd cd).ownBlock <;> simp), h.dl, h.o.below hb, h.ol⟩
end Go.Proofs.YtlfmfhdgnmchgaaGreat

namespace Wells
open Go Go.RowKit
def Mani.zero : Mani := ⟨0, 0, ⟨0, 0, 0⟩, 0, [], []⟩
end Wells

namespace Go.Proofs.YtlfmfhdgnmchgaaGreat
open Go.RowKit Wells
/-- what stands while a manifest is made: the result's cell, the manifest's, its two lists -/
structure ST (w wx : World) (g0 gm : Nat) (sq nx : Int) (P : Par) (ex : Int) (Ad : Option Addr) (nd cd : Nat) (ds : List Int) (Ao : Option Addr) (no co : Nat) (ts : List Value) (es : List Ent) : Prop where
  q : Row wx g0 27 [.int .i64 0, .int .i64 0, .int .i64 0, .int .i64 0, .int .i64 0, .int .i64 0, .slice none 0 0, .slice none 0 0]
  x : Row wx gm 27 [.int .i64 sq, .int .i64 nx, .int .i64 P.K, .int .i64 P.H, .int .i64 P.S, .int .i64 ex, .slice Ad nd cd, .slice Ao no co]
  d : wx.ownsRow w.heap.size 3 1 (.slice Ad nd cd) nd (ds.map iv)
  o : OEs w.heap.size wx (.slice Ao no co) ts es
  ol : es.length = no
  be : Below w.heap.size w wx
section
variable {w wx wy : World} {g0 gm : Nat} {sq nx : Int} {P : Par} {ex : Int} {Ad : Option Addr} {nd cd : Nat} {ds : List Int} {Ao : Option Addr} {no co : Nat} {ts : List Value} {es : List Ent}
theorem ST.below (h : ST w wx g0 gm sq nx P ex Ad nd cd ds Ao no co ts es) (hb : Below wx.heap.size wx wy) : ST w wy g0 gm sq nx P ex Ad nd cd ds Ao no co ts es :=
  ⟨h.q.below hb h.q.lt, h.x.below hb h.x.lt, h.d.kept (grown_of_below hb none) (by cases (Value.slice Ad nd cd).ownBlock <;> simp), h.o.below hb, h.ol, h.be.trans (hb.mono h.be.size)⟩
theorem ST.alloc (h : ST w wx g0 gm sq nx P ex Ad nd cd ds Ao no co ts es) (o : Obj) : ST w (wx.alloc o) g0 gm sq nx P ex Ad nd cd ds Ao no co ts es := h.below ((Below.refl _ _).alloc (Nat.le_refl _) o)
theorem ST.drewN (h : ST w wx g0 gm sq nx P ex Ad nd cd ds Ao no co ts es) (n : Nat) : ST w (wx.drewN n) g0 gm sq nx P ex Ad nd cd ds Ao no co ts es := h.below (below_drewN (Below.refl _ _) n)
theorem ST.drew_ (h : ST w wx g0 gm sq nx P ex Ad nd cd ds Ao no co ts es) : ST w wx.drew g0 gm sq nx P ex Ad nd cd ds Ao no co ts es := h.drewN 1
end
theorem own_newR {w0 w : World} (hb : Below w0.heap.size w0 w) (N : Nat) (hN : w.heap.size = N) (cs : List Value) (t : TypeId) (size n : Nat) (hl : cs.length = n * size) (hn : n ≤ maxLen) : (w.alloc (.cells cs.toArray t)).ownsRow w0.heap.size t size (.slice (some ⟨N, 0, none⟩) n n) n cs := by
  subst hN
  exact ⟨hl, .inr ⟨w.heap.size, n, cs.toArray, rfl, hb.size, heap_alloc_new w _, Nat.le_refl _, hn, by simpa using hl, by rw [← hl]; simp⟩⟩
theorem tdiv_bd26 {x : Int} (h : -9223372036854775808 ≤ x ∧ x ≤ 9223372036854775807) : -9223372036854775808 ≤ x.tdiv 26 ∧ x.tdiv 26 ≤ 9223372036854775807 := by
  have e := Int.tdiv_eq_ediv (a := x) (b := 26)
  have e1 : Int.sign 26 = 1 := rfl
  rw [e1] at e
  rw [e]
  split <;> omega
theorem tdiv_bd78 {x : Int} (h : -9223372036854775808 ≤ x ∧ x ≤ 9223372036854775807) : -9223372036854775808 ≤ x.tdiv 78 ∧ x.tdiv 78 ≤ 9223372036854775807 := by
  have e := Int.tdiv_eq_ediv (a := x) (b := 78)
  have e1 : Int.sign 78 = 1 := rfl
  rw [e1] at e
  rw [e]
  split <;> omega
theorem shr_bd {x : Int} (h : -9223372036854775808 ≤ x ∧ x ≤ 9223372036854775807) (k : Nat) : -9223372036854775808 ≤ x / 2 ^ k ∧ x / 2 ^ k ≤ 9223372036854775807 := by
  have hd : (0 : Int) < 2 ^ k := Int.pow_pos (by omega)
  obtain ⟨d, hdd⟩ : ∃ d : Int, 2 ^ k = d := ⟨_, rfl⟩
  rw [hdd] at hd ⊢
  by_cases hx : 0 ≤ x
  · have h1 := Int.ediv_nonneg hx (show (0 : Int) ≤ d by omega)
    have h2 := Int.ediv_le_self d hx
    omega
  · have h1 : x ≤ x / d := (Int.le_ediv_iff_mul_le hd).2 (by
      have := Int.mul_le_mul_of_nonpos_left (show (x : Int) ≤ 0 by omega) (show (1 : Int) ≤ d by omega)
      rw [Int.mul_one] at this
      exact this)
    have h2 := Int.ediv_neg_of_neg_of_pos (show x < 0 by omega) hd
    omega
theorem _root_.Wells.Row.ownx {w w1 : World} {base g size n : Nat} {t e : TypeId} {cs xs : List Value} {v : Value} (h : Row w g t cs) (hv : w.ownsRow base e size v n xs) (hg : w.grownBy w1 v.ownBlock) (hne : e ≠ t) : Row w1 g t cs := by
  refine h.grown hg ?_
  rcases own_ne hv h hne with e1 | e1
  · rw [e1]; intro e2; cases e2
  · exact fun e2 => e1 e2.symm
theorem row_set_grown (w : World) (g j : Nat) (u : Value) : w.grownBy (w.setCell ⟨g, j, none⟩ u) (some g) := grown_set (World.grownBy.refl w _) (.inl rfl) j u
theorem ST.setD {w wx wy : World} {g0 gm : Nat} {sq nx : Int} {P : Par} {ex : Int} {Ad Ad' : Option Addr} {nd cd nd' cd' : Nat} {ds ds' : List Int} {Ao : Option Addr} {no co : Nat} {ts : List Value} {es : List Ent}
    (h : ST w wx g0 gm sq nx P ex Ad nd cd ds Ao no co ts es) (he : OEs w.heap.size wy (.slice Ao no co) ts es) (hg : wx.grownBy wy (Value.slice Ad nd cd).ownBlock) (ho : wy.ownsRow w.heap.size 3 1 (.slice Ad' nd' cd') nd' (ds'.map iv)) (hne : gm ≠ g0) (hgm : w.heap.size ≤ gm) :
    ST w (wy.setCell ⟨gm, 6, none⟩ (.slice Ad' nd' cd')) g0 gm sq nx P ex Ad' nd' cd' ds' Ao no co ts es := by
  have hx := h.x.ownx h.d hg (by decide)
  have hq := h.q.ownx h.d hg (by decide)
  exact ⟨hq.far (p := ⟨gm, 6, none⟩) hne.symm _, hx.set 6 _, ho.far_ hx (by decide) 6 _, he.other (row_set_grown _ _ _ _) hx (by decide) (by decide), h.ol, (below_own h.be h.d hg (Nat.le_refl _) h.be.size).setCell (p := (⟨gm, 6, none⟩ : Addr)) hgm _⟩
theorem Sl.fresh4m (w : World) (cs : List Value) (t : TypeId) (hm : cs.length = 4) : Sl (w.alloc (.cells cs.toArray t (0, 0))) (w.heap.size + 1) 4 (some ⟨w.heap.size, 0, none⟩) 1 cs :=
  ⟨by omega, fun _ => ⟨_, 0, rfl, by omega, fun j u hu => by
    rw [Nat.zero_add, cell_of_row _ _ j cs.toArray t (0, 0) (heap_alloc_new w _)]
    simpa using hu⟩⟩
theorem ST.pushO {w wx wy : World} {B2 g0 gm : Nat} {sq nx : Int} {P : Par} {ex : Int} {Ad : Option Addr} {nd cd : Nat} {ds : List Int} {Ao A8 : Option Addr} {no co c8 : Nat} {ts : List Value} {es : List Ent} {cs : Array Value} {t : TypeId}
    {nm : List Byte} {ob ln : Int} {trs : List Int} {At : Option Addr} {j ct : Nat}
    (h : ST w wx g0 gm sq nx P ex Ad nd cd ds Ao no co ts es) (hot : wx.ownsRow B2 3 1 (.slice At j ct) j (trs.map iv)) (hB : w.heap.size ≤ B2)
    (o8 : wy.ownsRow w.heap.size 69 4 (.slice A8 (no + 1) c8) (no + 1) (entsC es ts ++ [.string (strB nm), .int .i64 ob, .int .i64 ln, .slice At j ct])) (g8 : (wx.alloc (.cells cs t)).grownBy wy (Value.slice Ao no co).ownBlock) :
    Row wy gm 27 [.int .i64 sq, .int .i64 nx, .int .i64 P.K, .int .i64 P.H, .int .i64 P.S, .int .i64 ex, .slice Ad nd cd, .slice Ao no co] ∧
    (gm ≠ g0 → w.heap.size ≤ gm → ST w (wy.setCell ⟨gm, 7, none⟩ (.slice A8 (no + 1) c8)) g0 gm sq nx P ex Ad nd cd ds A8 (no + 1) c8 (ts ++ [.slice At j ct]) (es ++ [⟨nm, ob, ln, trs⟩])) := by
  have ha := h.alloc (.cells cs t)
  have how := ha.o.own
  rw [h.ol] at how
  have hx := ha.x.ownx how g8 (by decide)
  refine ⟨hx, fun hne hgm => ?_⟩
  have hq := ha.q.ownx how g8 (by decide)
  have hd := ha.d.kept g8 (own_other ha.d how (by decide))
  have hta := (hot.alloc (.cells cs t))
  have htl : trs.length = j := by have := hot.1; simpa using this
  subst htl
  have hp := ha.o.push (x := ⟨nm, ob, ln, trs⟩) (tv := .slice At trs.length ct) rfl (own_base hta hB) (by rw [h.ol]; exact o8) g8
  exact ⟨hq.far (p := ⟨gm, 7, none⟩) hne.symm _, hx.set 7 _, hd.far_ hx (by decide) 7 _, hp.other (row_set_grown _ _ _ _) hx (by decide) (by decide), by rw [List.length_append, h.ol]; rfl, (below_own ha.be how g8 (Nat.le_refl _) ha.be.size).setCell (p := (⟨gm, 7, none⟩ : Addr)) hgm _⟩
theorem ST.setN {w wx : World} {g0 gm : Nat} {sq nx nx' : Int} {P : Par} {ex : Int} {Ad : Option Addr} {nd cd : Nat} {ds : List Int} {Ao : Option Addr} {no co : Nat} {ts : List Value} {es : List Ent}
    (h : ST w wx g0 gm sq nx P ex Ad nd cd ds Ao no co ts es) (hne : gm ≠ g0) (hgm : w.heap.size ≤ gm) :
    ST w (wx.setCell ⟨gm, 1, none⟩ (.int .i64 nx')) g0 gm sq nx' P ex Ad nd cd ds Ao no co ts es :=
  ⟨h.q.far (p := ⟨gm, 1, none⟩) hne.symm _, h.x.set 1 _, h.d.far_ h.x (by decide) 1 _, h.o.other (row_set_grown _ _ _ _) h.x (by decide) (by decide), h.ol, h.be.setCell (p := (⟨gm, 1, none⟩ : Addr)) hgm _⟩
theorem ST.setR {w wx : World} {g0 gm : Nat} {sq nx : Int} {P : Par} {ex : Int} {Ad Ad' : Option Addr} {nd cd nd' cd' : Nat} {ds ds' : List Int} {Ao : Option Addr} {no co : Nat} {ts : List Value} {es : List Ent}
    (h : ST w wx g0 gm sq nx P ex Ad nd cd ds Ao no co ts es) (ho : wx.ownsRow w.heap.size 3 1 (.slice Ad' nd' cd') nd' (ds'.map iv)) (hne : gm ≠ g0) (hgm : w.heap.size ≤ gm) :
    ST w (wx.setCell ⟨gm, 6, none⟩ (.slice Ad' nd' cd')) g0 gm sq nx P ex Ad' nd' cd' ds' Ao no co ts es :=
  ⟨h.q.far (p := ⟨gm, 6, none⟩) hne.symm _, h.x.set 6 _, ho.far_ h.x (by decide) 6 _, h.o.other (row_set_grown _ _ _ _) h.x (by decide) (by decide), h.ol, h.be.setCell (p := (⟨gm, 6, none⟩ : Addr)) hgm _⟩
end Go.Proofs.YtlfmfhdgnmchgaaGreat

