/- Reader RdEnt RdEnt2 OwnMani PlayMath ParseMath -/
import Derived.Deep.DeepCutAuto
import Derived.BigGuardPart
import Derived.Laws.BytesArg
import Derived.Deep.RegionLaw
import Derived.Deep.AppendLies
import Derived.Lib.Bytes
import Derived.Test.YtlfmfhdgnmchgaaBRoomLess02
import Derived.Test.YtlfmfhdgnmchgaaBRoomLess04
import Derived.Test.YtlfmfhdgnmchgaaBRoomLess06
import Derived.Test.YtlfmfhdgnmchgaaBRoomLess08
import Derived.Test.YtlfmfhdgnmchgaaBRoomLess18
import Derived.Test.YtlfmfhdgnmchgaaBRoomLess20
import Derived.Test.YtlfmfhdgnmchgaaBRoomLess24
import Derived.Test.YtlfmfhdgnmchgaaBRoomLess25
import Derived.Test.YtlfmfhdgnmchgaaBRoomLess26
set_option maxRecDepth 20000
set_option linter.unusedSimpArgs false
set_option linter.unusedVariables false
set_option linter.unusedSectionVars false
namespace Wells
open Go Go.RowKit
abbrev RSt := List Byte × Bool
end Wells
namespace Go.Proofs.Ytlfmfhdgnmchgaa
open Go.RowKit Wells
/-- a reader at block g: what is left of the bytes (in blocks below B), and whether there were too few -/
def Rd (t : TypeId) (B : Nat) (w : World) (g : Nat) (st : RSt) : Prop :=
  ∃ (A : Option Addr) (n c : Nat), Row w g t [.slice A n c, .bool st.2] ∧ Sl w B 1 A n (st.1.map bv8) ∧ st.1.length = n ∧ n ≤ c ∧ c ≤ 9223372036854775807 ∧ B ≤ g
theorem Rd.keep {t : TypeId} {B g : Nat} {w w' : World} {st : RSt} (h : Rd t B w g st) (hb : Below w.heap.size w w') (hB : B ≤ w.heap.size) : Rd t B w' g st := by
  obtain ⟨A, n, c, h1, h2, h3, h4, h5, h6⟩ := h
  exact ⟨A, n, c, h1.below hb h1.lt, h2.below (hb.mono hB), h3, h4, h5, h6⟩
end Go.Proofs.Ytlfmfhdgnmchgaa

namespace Wells
open Go Go.RowKit
theorem conv_str {P : Program} {w : World} {B n c : Nat} {A : Option Addr} {l : List Byte} (src dst e : TypeId) (hs : P.underlying src = some (.slice e)) (he : P.underlying e = some (.int .u8)) (hd : P.underlying dst = some .string) (h : Sl w B 1 A n (l.map bv8)) :
    (convert src dst (.slice A n c)).run P w = .ok (.string (strB l)) w := by
  have hl : l.length = n := by have := h.len; simpa using this
  rcases A with _ | a
  · have h0 : n = 0 := by
      rcases Nat.eq_zero_or_pos n with h0 | h0
      · exact h0
      · obtain ⟨_, _, hh, _⟩ := h.at_ h0
        cases hh
    subst h0
    have : l = [] := List.eq_nil_of_length_eq_zero hl
    subst this
    exact run_convert_bytes_nil w src e hs he 0 c dst hd
  · rw [run_convert_bytes_string w src dst e (some a) n c hs he hd]
    have hld := run_loadCells_list (P := P) w a ((l.map (fun b : Byte => (b.toNat : Int))).map (Value.int .u8)) (fun j v hj => by
      have hjl : j < l.length := by
        have := (List.getElem?_eq_some_iff.1 hj).1
        simpa using this
      obtain ⟨b, o, hA, _, hc⟩ := h.at_ (by omega)
      injection hA with hA
      subst hA
      rw [addr_add]
      refine hc j v ?_
      rw [← hj, List.map_map]
      rfl)
    simp only [List.length_map] at hld
    rw [hl] at hld
    rw [run_bytesToString w a n c _ hld, foldl_push_bytes]
    congr 2
    unfold strB
    congr 1
    have he0 : ByteArray.empty.data = #[] := rfl
    rw [he0, Array.empty_append, List.map_map]
    congr 1
    apply List.map_congr_left
    intro x _
    apply UInt8.toNat_inj.1
    have := x.isLt
    simp
end Wells

namespace Wells
open Go Go.RowKit
theorem grown_set {w wr : World} {g : Nat} (h : w.grownBy wr (some g)) {k : Nat} (hk : k = g ∨ w.heap.size ≤ k) (j : Nat) (u : Value) : w.grownBy (wr.setCell ⟨k, j, none⟩ u) (some g) :=
  ⟨h.os, h.tape, h.output, by simpa [World.setCell] using h.size, fun i hi hne => (Below.heap_setCell wr ⟨k, j, none⟩ u i (fun e => by
    rcases hk with rfl | hk
    · exact hne (by rw [e])
    · have : i = k := e
      omega)).trans (h.block i hi hne)⟩
theorem grown_new {w w' : World} (h : Below w.heap.size w w') (r : Option Nat) : w.grownBy w' r := ⟨h.os, h.tape, h.output, h.size, fun k hk _ => h.block k hk⟩
theorem row4 {w : World} {g : Nat} {t : TypeId} {z0 z1 z2 z3 : Value} (h : Row w g t [z0, z1, z2, z3]) (a0 a1 a2 a3 : Value) : Row ((((w.setCell ⟨g, 0, none⟩ a0).setCell ⟨g, 1, none⟩ a1).setCell ⟨g, 2, none⟩ a2).setCell ⟨g, 3, none⟩ a3) g t [a0, a1, a2, a3] := (((h.set 0 a0).set 1 a1).set 2 a2).set 3 a3
end Wells
namespace Go.Proofs.Ytlfmfhdgnmchgaa
open Go.RowKit Wells
theorem Rd.grown {t : TypeId} {B g k : Nat} {w w' : World} {st : RSt} (h : Rd t B w g st) (hg : w.grownBy w' (some k)) (hk : k ≠ g) (hB : B ≤ k) (hBw : B ≤ w.heap.size) : Rd t B w' g st := by
  obtain ⟨A, n, c, h1, h2, h3, h4, h5, h6⟩ := h
  exact ⟨A, n, c, h1.grown hg (fun e => by injection e with e; exact hk e.symm), h2.below ((Below.refl B w).grown hg hBw (fun q hq => by injection hq with hq; omega)), h3, h4, h5, h6⟩
theorem Rd.lt {t : TypeId} {B g : Nat} {w : World} {st : RSt} (h : Rd t B w g st) : g < w.heap.size ∧ B ≤ g := by
  obtain ⟨A, n, c, h1, h2, h3, h4, h5, h6⟩ := h
  exact ⟨h1.lt, h6⟩
theorem _root_.Go.World.ownsRow.far_ {base size n g : Nat} {w : World} {e t : TypeId} {v : Value} {xs cs : List Value} (h : w.ownsRow base e size v n xs) (hr : Row w g t cs) (hne : e ≠ t) (i : Nat) (x : Value) : (w.setCell ⟨g, i, none⟩ x).ownsRow base e size v n xs :=
  h.kept (row := some g) ⟨rfl, rfl, rfl, by simp [World.setCell], fun k _ hn => Below.heap_setCell w ⟨g, i, none⟩ x k (fun e => hn (by rw [e]))⟩ (by
    rcases own_ne h hr hne with h1 | h1
    · exact .inl h1
    · exact .inr h1)
theorem Rd.drew_ {t : TypeId} {B g : Nat} {w : World} {st : RSt} (h : Rd t B w g st) : Rd t B w.drew g st := by
  obtain ⟨A, n, c, h1, h2, h3, h4, h5, h6⟩ := h
  exact ⟨A, n, c, h1.drew, h2.drew, h3, h4, h5, h6⟩
theorem Rd.appd {t e : TypeId} {B g base size n : Nat} {w w1 : World} {st : RSt} {v : Value} {xs : List Value} (h : Rd t B w g st) (hv : w.ownsRow base e size v n xs) (hg : w.grownBy w1 v.ownBlock) (hne : e ≠ t) (hB : B ≤ base) : Rd t B w1 g st := by
  have hl := h.lt
  obtain ⟨A, m, c, h1, h2, h3, h4, h5, h6⟩ := h
  refine ⟨A, m, c, h1.grown hg ?_, h2.below ((Below.refl B w).grown hg (by omega) (fun k hk => Nat.le_trans hB (hv.lt k hk).1)), h3, h4, h5, h6⟩
  rcases own_ne hv h1 hne with e1 | e1
  · rw [e1]; intro e2; cases e2
  · exact fun e2 => e1 e2.symm
end Go.Proofs.Ytlfmfhdgnmchgaa

namespace Go.Proofs.Ytlfmfhdgnmchgaa
open Go.RowKit Wells
theorem infoE : (Try.prog.info? 47).map (fun i => (i.zero, i.size, i.bytes)) = some (some (.agg #[.string ⟨#[]⟩, .int .i64 0, .int .i64 0, .slice none 0 0]), 4, 56) := by kernel_rfl
/-- entries of the call's own -/
structure OEs (base : Nat) (w : World) (v : Value) (ts : List Value) (es : List Ent) : Prop where
  own : w.ownsRow base 47 4 v es.length (entsC es ts)
  tl : ts.length = es.length
  at_ : ∀ i, i < es.length → ∃ A c, ts.getD i undef = .slice A (es.getD i default).tries.length c ∧ w.ownsRow base 3 1 (.slice A (es.getD i default).tries.length c) (es.getD i default).tries.length ((es.getD i default).tries.map iv)
section
variable {base : Nat} {w w' : World} {v v' : Value} {ts : List Value} {es : List Ent}
theorem OEs.nil_ (base : Nat) (w : World) : OEs base w (.slice none 0 0) [] [] := ⟨World.ownsRow_nil _ _ _ _, rfl, fun i hi => absurd hi (by simp)⟩
theorem OEs.below (h : OEs base w v ts es) (hb : Below w.heap.size w w') : OEs base w' v ts es :=
  ⟨h.own.kept (grown_of_below hb none) (by cases v.ownBlock <;> simp), h.tl, fun i hi => by
    obtain ⟨A, c, e, ho⟩ := h.at_ i hi
    exact ⟨A, c, e, ho.kept (grown_of_below hb none) (by cases (Value.slice A _ c).ownBlock <;> simp)⟩⟩
theorem OEs.other {g : Nat} {t : TypeId} {cs : List Value} (h : OEs base w v ts es) (hg : w.grownBy w' (some g)) (hr : Row w g t cs) (h1 : 47 ≠ t) (h2 : 3 ≠ t) : OEs base w' v ts es :=
  ⟨h.own.kept hg (own_ne h.own hr h1), h.tl, fun i hi => by
    obtain ⟨A, c, e, ho⟩ := h.at_ i hi
    exact ⟨A, c, e, ho.kept hg (own_ne ho hr h2)⟩⟩
theorem OEs.drew_ (h : OEs base w v ts es) : OEs base w.drew v ts es := ⟨h.own, h.tl, h.at_⟩
theorem OEs.form (h : OEs base w v ts es) : ∃ A c, v = .slice A es.length c ∧ es.length ≤ c ∧ c ≤ 9223372036854775807 := by
  obtain ⟨A, c, e, h1, h2, _⟩ := own_slice h.own
  exact ⟨A, c, e, h1, h2⟩
theorem OEs.push {tv : Value} {x : Ent} (h : OEs base w v ts es) {A : Option Addr} {c : Nat} (htv : tv = .slice A x.tries.length c) (hx : w.ownsRow base 3 1 tv x.tries.length (x.tries.map iv))
    (ho : w'.ownsRow base 47 4 v' (es.length + 1) (entsC es ts ++ x.cells tv)) (hg : w.grownBy w' v.ownBlock) : OEs base w' v' (ts ++ [tv]) (es ++ [x]) := by
  refine ⟨by rw [entsC_snoc x tv es ts h.tl.symm]; simpa using ho, by simp [h.tl], fun i hi => ?_⟩
  simp only [List.length_append, List.length_singleton] at hi
  by_cases hlt : i < es.length
  · rw [List.getD_eq_getElem?_getD, List.getD_eq_getElem?_getD, List.getElem?_append_left (by rw [h.tl]; exact hlt), List.getElem?_append_left hlt, ← List.getD_eq_getElem?_getD, ← List.getD_eq_getElem?_getD]
    obtain ⟨A', c', e, ho'⟩ := h.at_ i hlt
    exact ⟨A', c', e, ho'.kept hg (own_other ho' h.own (by decide))⟩
  · have he : i = es.length := by omega
    subst he
    rw [List.getD_eq_getElem?_getD, List.getD_eq_getElem?_getD, List.getElem?_append_right (by rw [h.tl]; exact Nat.le_refl _), List.getElem?_append_right (Nat.le_refl _), h.tl]
    simp only [Nat.sub_self, List.getElem?_cons_zero, Option.getD_some]
    exact ⟨A, c, htv, by rw [← htv]; exact hx.kept hg (own_other hx h.own (by decide))⟩
theorem OEs.read {A : Option Addr} {n c : Nat} (h : OEs base w (.slice A n c) ts es) (hn : es.length = n) : REs w w.heap.size A n ts es := by
  subst hn
  refine ⟨Sl.own h.own, rfl, h.tl, fun i hi => ?_⟩
  obtain ⟨A', c', e, ho⟩ := h.at_ i hi
  have hc := own_cap ho
  exact ⟨A', c', e, hc.1, hc.2, Sl.own ho⟩
end
/-- a manifest's two lists, of the call's own -/
structure OM (base : Nat) (w : World) (m : Mani) (Ad : Option Addr) (nd cd : Nat) (Ao : Option Addr) (no co : Nat) (ts : List Value) : Prop where
  d : w.ownsRow base 3 1 (.slice Ad nd cd) nd (m.drives.map iv)
  dl : m.drives.length = nd
  o : OEs base w (.slice Ao no co) ts m.objs
  ol : m.objs.length = no
theorem OM.read {base : Nat} {w : World} {m : Mani} {Ad Ao : Option Addr} {nd cd no co : Nat} {ts : List Value} (h : OM base w m Ad nd cd Ao no co ts) : RM w w.heap.size m Ad nd cd Ao no co ts := by
  refine ⟨Sl.own h.d, h.dl, own_cap h.d, h.o.read h.ol, ?_⟩
  have := h.o.own
  rw [h.ol] at this
  exact own_cap this
theorem OM.below {base : Nat} {w w' : World} {m : Mani} {Ad Ao : Option Addr} {nd cd no co : Nat} {ts : List Value} (h : OM base w m Ad nd cd Ao no co ts) (hb : Below w.heap.size w w') : OM base w' m Ad nd cd Ao no co ts :=
  ⟨h.d.kept (grown_of_below hb none) (by cases (Value.slice Ad nd cd).ownBlock <;> simp), h.dl, h.o.below hb, h.ol⟩
end Go.Proofs.Ytlfmfhdgnmchgaa

namespace Wells
open Go Go.RowKit
structure PEnt (P : Par) (i : Nat) (e : Ent) : Prop where
  name : ∃ x : Nat, x < 26 ∧ e.name = [BitVec.ofNat 8 (97 + 2 * i), BitVec.ofNat 8 (97 + x)]
  obj : 3 * (i : Int) ≤ e.obj ∧ e.obj ≤ 3 * (i : Int) + 2
  len : 0 ≤ e.len ∧ e.len ≤ P.K * P.S * 4
  tries : ∀ z ∈ e.tries, 0 ≤ z ∧ z ≤ 15
  count : (e.tries.length : Int) = countP P e.len
structure PlayM (m : Mani) : Prop where
  seq : 1 ≤ m.seq ∧ m.seq ≤ 1000
  next : 20 ≤ m.next ∧ m.next ≤ 119
  P : 1 ≤ m.P.K ∧ m.P.K ≤ 6 ∧ 1 ≤ m.P.H ∧ m.P.H ≤ 3 ∧ 1 ≤ m.P.S ∧ m.P.S ≤ 9
  extra : 0 ≤ m.extra ∧ m.extra ≤ 16
  dlen : m.drives.length ≤ 8
  drives : StrictUp m.drives
  drv : ∀ z ∈ m.drives, 0 ≤ z ∧ z ≤ 56
  olen : m.objs.length ≤ 5
  objs : ∀ i, i < m.objs.length → PEnt m.P i (m.objs.getD i default)
theorem less_first {a b : UInt8} {x y : List UInt8} (h : a < b) : Op.bytesLess (a :: x) (b :: y) = true := by
  simp [Op.bytesLess, h]
theorem strB_toList (l : List Byte) : (strB l).toList = l.map UInt8.ofBitVec := by
  rw [ByteArray.toList_eq]
  unfold strB
  simp
theorem PEnt.less {P : Par} {i : Nat} {e f : Ent} (he : PEnt P i e) (hf : PEnt P (i + 1) f) (hi : i ≤ 10) : lessS e.name f.name = true := by
  obtain ⟨x, _, hx⟩ := he.name
  obtain ⟨y, _, hy⟩ := hf.name
  unfold lessS
  rw [hx, hy, strB_toList, strB_toList]
  simp only [List.map_cons]
  apply less_first
  rw [UInt8.lt_iff_toNat_lt]
  show (BitVec.ofNat 8 (97 + 2 * i)).toNat < (BitVec.ofNat 8 (97 + 2 * (i + 1))).toNat
  rw [BitVec.toNat_ofNat, BitVec.toNat_ofNat]
  omega
theorem PEnt.nameOk {P : Par} {i : Nat} {e : Ent} (he : PEnt P i e) (hi : i ≤ 10) : nameOk e.name = true := by
  obtain ⟨x, hx0, hx⟩ := he.name
  rw [hx]
  unfold Wells.nameOk
  rw [Bool.and_eq_true]
  refine ⟨?_, by simp⟩
  simp only [List.all_cons, List.all_nil, Bool.and_true, Bool.and_eq_true]
  refine ⟨?_, ?_⟩ <;> (unfold nameC; rw [BitVec.toNat_ofNat]; refine decide_eq_true ?_; omega)
theorem PlayM.parOk {m : Mani} (h : PlayM m) : m.P.Ok := by
  obtain ⟨h1, h2, h3, h4, h5, h6⟩ := h.P
  unfold Par.Ok
  omega
theorem PlayM.may {m : Mani} (h : PlayM m) : m.may = true := by
  have hP := Par.ok_may h.parOk
  have h1 := h.seq; have h2 := h.next; have h3 := h.extra; have h4 := h.olen
  refine p_may ⟨by omega, by omega, hP, h3, h.drives.rise (fun z hz => by have := h.drv z hz; omega), by omega, fun i hi => ?_⟩
  have hs := Par.size_le h.parOk
  unfold Par.size at hs
  have he := h.objs i hi
  obtain ⟨q, hq⟩ : ∃ q, m.P.K * m.P.S = q := ⟨_, rfl⟩
  have hE : entB m (m.objs.getD i default) = true := by
    unfold entB
    rw [he.nameOk (by omega), Bool.true_and]
    have ho := he.obj; have hl := he.len
    rw [hq] at hl hs
    rw [hq, decide_eq_true (by omega), decide_eq_true (by omega), Bool.true_and, Bool.true_and, Bool.and_eq_true]
    refine ⟨?_, decide_eq_true he.count⟩
    unfold triesOk
    rw [List.all_eq_true]
    intro z hz
    exact decide_eq_true (he.tries z hz)
  unfold objStep entAt
  rw [hE, Bool.true_and, Bool.and_eq_true]
  refine ⟨?_, ?_⟩
  · by_cases h0 : i = 0
    · simp [h0]
    · obtain ⟨k, rfl⟩ : ∃ k, i = k + 1 := ⟨i - 1, by omega⟩
      rw [Nat.add_sub_cancel, (h.objs k (by omega)).less he (by omega), Bool.or_true]
  · rw [List.all_eq_true]
    intro y hy
    obtain ⟨j, hj, rfl⟩ := List.getElem_of_mem hy
    have hji : j < i := by have := hj; rw [List.length_take] at this; omega
    have hpj := (h.objs j (by omega)).obj
    rw [List.getD_eq_getElem?_getD, List.getElem?_eq_getElem (by omega)] at hpj
    simp only [Option.getD_some] at hpj
    rw [List.getElem_take]
    have hoi := he.obj
    simp only [Bool.not_eq_true', decide_eq_false_iff_not]
    intro e
    rw [e] at hpj
    omega
theorem PlayM.m64 {m : Mani} (h : PlayM m) : M64 m ∧ ∀ e ∈ m.objs, e.name.length ≤ 1048576 := by
  have h1 := h.seq; have h2 := h.next; have h3 := h.extra
  obtain ⟨k1, k2, k3, k4, k5, k6⟩ := h.P
  have hs := Par.size_le h.parOk
  unfold Par.size at hs
  obtain ⟨q, hq⟩ : ∃ q, m.P.K * m.P.S = q := ⟨_, rfl⟩
  rw [hq] at hs
  have hob : ∀ e ∈ m.objs, ∃ i, i < m.objs.length ∧ PEnt m.P i e := fun e he => by
    obtain ⟨i, hi, rfl⟩ := List.getElem_of_mem he
    have := h.objs i hi
    rw [List.getD_eq_getElem?_getD, List.getElem?_eq_getElem hi] at this
    exact ⟨i, hi, this⟩
  refine ⟨⟨by unfold i64; omega, by unfold i64; omega, by unfold i64; omega, by unfold i64; omega, by unfold i64; omega, by unfold i64; omega, fun z hz => ?_, fun e he => ?_⟩, fun e he => ?_⟩
  · have := h.drv z hz; unfold i64; omega
  · obtain ⟨i, hi, hp⟩ := hob e he
    have ho := hp.obj; have hl := hp.len; have h4 := h.olen
    rw [hq] at hl
    refine ⟨by unfold i64; omega, by unfold i64; omega, fun z hz => ?_⟩
    have := hp.tries z hz; unfold i64; omega
  · obtain ⟨i, hi, hp⟩ := hob e he
    obtain ⟨x, _, hx⟩ := hp.name
    rw [hx]
    simp
end Wells

namespace Wells
open Go Go.RowKit
def Mani.zero : Mani := ⟨0, 0, ⟨0, 0, 0⟩, 0, [], []⟩
end Wells

