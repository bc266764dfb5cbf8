/- OpMake PackMath Reader Appd -/
import Derived.Great.BuildSlice
import Derived.Lib.AppendStr
import Derived.Deep.DeepCutAuto
import Derived.BigGuardPart
import Derived.Test.YtnknjeipfjdjoaaBScanCounts00
import Derived.Test.YtnknjeipfjdjoaaBScanCounts02
import Derived.Test.YtnknjeipfjdjoaaBScanCounts03
set_option maxRecDepth 20000
namespace Wells
open Go Go.RowKit
theorem op_make {P : Program} {w : World} {o : Oper} {a : Act} {K : Act → World → Prop} {Q : Exit → Act → World → Prop}
    (l c : Operand) (t : TypeId) (hop : o.op = Op.makeSlice t l c)
    (e : TypeId) (i : TypeInfo) (z : Value) (bytes : Nat) (h1 : P.underlying t = some (.slice e)) (h2 : P.info? e = some i) (h3 : i.zero = some z) (h4 : i.size = 1) (h5 : i.bytes = bytes) (hz : z.cells = #[z])
    (kl kc : IntKind) (L C : Int) (n m : Nat) (hl : a.eval l = .int kl L) (hc : a.eval c = .int kc C) (hL : L = (n : Int)) (hC : C = (m : Int)) (hnm : n ≤ m) (b2 : bytes * m ≤ 281474976710656) (b3 : m ≤ 9223372036854775807)
    (hK : ∀ w', Row w' w.heap.size e (List.replicate m z) → Below w.heap.size w w' → w'.heap.size = w.heap.size + 1 → K (a.put o.dst (.slice (some ⟨w.heap.size, 0, none⟩) n m)) w') :
    Oper.wp P o a w K Q := by
  subst h5 hL hC
  have hbb : (i.bytes : Int) * (m : Int) ≤ 281474976710656 := by
    have h : ((i.bytes * m : Nat) : Int) ≤ 281474976710656 := by omega
    rwa [Int.natCast_mul] at h
  have hrun := run_make (P := P) w t e i z h1 h2 h3 kl kc n m (by omega) (by omega) hbb (by omega)
  simp only [Int.toNat_natCast, h4, Nat.mul_one, hz] at hrun
  unfold Oper.wp
  simp [execOp, hop, hl, hc, hrun, Result.andThen]
  refine hK _ ?_ ((Below.refl _ _).alloc (Nat.le_refl _) _) (by simp)
  have := Row.new w e (madeCells #[z] m)
  rwa [toList_madeCells_one] at this
end Wells
namespace Wells
open Go Go.RowKit
/-- '[]T{x}', as one operation of a region: elements of one cell -/
theorem op_build1 {P : Program} {w : World} {o : Oper} {a : Act} {K : Act → World → Prop} {Q : Exit → Act → World → Prop} (t e : TypeId) (x : Operand) (ho : o.op = .buildSlice t 1 #[(0, x)]) (v : Value) (hx : a.eval x = v) (hv : v.cells = #[v])
    (ie : TypeInfo) (z : Value) (hu : P.underlying t = some (.slice e)) (hie : P.info? e = some ie) (hz : ie.zero = some z) (hs : ie.size = 1) (hzc : z.cells = #[z])
    (h : ∀ w' g, w.heap.size = g → Row w' g e [v] → Below g w w' → w'.heap.size = g + 1 → K (a.put o.dst (.slice (some ⟨g, 0, none⟩) 1 1)) w') : Oper.wp P o a w K Q := by
  refine wp_buildSlice t e 1 _ ho #[v] ie z hu hie hz (by rw [hs]; omega) (by rw [hs]; omega) ?_ ?_
  · rw [hs, hzc]
    simp [hx, Instr.fill, hv]
    apply Array.ext'
    simp [Array.toList_range, List.range_succ]
  · exact h _ _ rfl (Row.new w e #[v]) ((Below.refl _ _).alloc (Nat.le_refl _) _) (by simp)
/-- elements of two cells -/
theorem op_build2 {P : Program} {w : World} {o : Oper} {a : Act} {K : Act → World → Prop} {Q : Exit → Act → World → Prop} (t e : TypeId) (x : Operand) (ho : o.op = .buildSlice t 1 #[(0, x)]) (v1 v2 : Value) (hx : a.eval x = .agg #[v1, v2])
    (ie : TypeInfo) (z1 z2 : Value) (hu : P.underlying t = some (.slice e)) (hie : P.info? e = some ie) (hz : ie.zero = some (.agg #[z1, z2])) (hs : ie.size = 2)
    (h : ∀ w' g, w.heap.size = g → Row w' g e [v1, v2] → Below g w w' → w'.heap.size = g + 1 → K (a.put o.dst (.slice (some ⟨g, 0, none⟩) 1 1)) w') : Oper.wp P o a w K Q := by
  refine wp_buildSlice t e 1 _ ho #[v1, v2] ie _ hu hie hz (by rw [hs]; omega) (by rw [hs]; omega) ?_ ?_
  · rw [hs]
    simp [hx, Instr.fill, Value.cells]
    apply Array.ext'
    simp [Array.toList_range, List.range_succ]
  · exact h _ _ rfl (Row.new w e #[v1, v2]) ((Below.refl _ _).alloc (Nat.le_refl _) _) (by simp)
end Wells
namespace Wells
open Go Go.RowKit
/-- a new variable, as one operation of a region -/
theorem op_alloc {P : Program} {w : World} {o : Oper} {a : Act} {K : Act → World → Prop} {Q : Exit → Act → World → Prop} (t : TypeId) (ho : o.op = .alloc t) (i : TypeInfo) (z : Value) (hi : P.info? t = some i) (hz : i.zero = some z)
    (h : ∀ w' g, w.heap.size = g → Row w' g t z.cells.toList → Below g w w' → w'.heap.size = g + 1 → K (a.put o.dst (.pointer (some ⟨g, 0, none⟩))) w') : Oper.wp P o a w K Q := by
  have key : (Instr.alloc t true (.tuple #[])).run P w = .ok (.pointer (some ⟨w.heap.size, 0, none⟩)) (w.alloc (.cells z.cells t)) := by
    simp [Instr.alloc, zeroValue, typeInfo, hi, hz, newVar, newRow]
  unfold Oper.wp execOp
  simp only [ho, Sem.run_bind, key, Result.andThen_ok]
  exact h _ _ rfl (by simpa using Row.new w t z.cells) ((Below.refl _ _).alloc (Nat.le_refl _) _) (by simp)
end Wells
namespace Wells
open Go Go.RowKit
/-- '[]T{x, y, z}', elements of one cell: the world as it comes to be -/
theorem op_build3 {P : Program} {w : World} {o : Oper} {a : Act} {K : Act → World → Prop} {Q : Exit → Act → World → Prop} (t e : TypeId) (x y z : Operand) (ho : o.op = .buildSlice t 3 #[(0, x), (1, y), (2, z)]) (v1 v2 v3 : Value) (hx : a.eval x = v1) (hy : a.eval y = v2) (hz' : a.eval z = v3)
    (c1 : v1.cells = #[v1]) (c2 : v2.cells = #[v2]) (c3 : v3.cells = #[v3])
    (ie : TypeInfo) (z0 : Value) (hu : P.underlying t = some (.slice e)) (hie : P.info? e = some ie) (hz : ie.zero = some z0) (hs : ie.size = 1) (hzc : z0.cells = #[z0])
    (h : K (a.put o.dst (.slice (some ⟨w.heap.size, 0, none⟩) 3 3)) (w.alloc (.cells #[v1, v2, v3] e))) : Oper.wp P o a w K Q := by
  refine wp_buildSlice t e 3 _ ho #[v1, v2, v3] ie z0 hu hie hz (by rw [hs]; omega) (by rw [hs]; omega) ?_ h
  rw [hs, hzc]
  simp [hx, hy, hz', Instr.fill, c1, c2, c3]
  apply Array.ext'
  simp [Array.toList_range, List.range_succ]
end Wells
namespace Wells
open Go Go.RowKit
/-- '[]T{x}', an element of eight cells -/
theorem op_build8 {P : Program} {w : World} {o : Oper} {a : Act} {K : Act → World → Prop} {Q : Exit → Act → World → Prop} (t e : TypeId) (x : Operand) (ho : o.op = .buildSlice t 1 #[(0, x)]) (v0 v1 v2 v3 v4 v5 v6 v7 : Value) (hx : a.eval x = .agg #[v0, v1, v2, v3, v4, v5, v6, v7])
    (ie : TypeInfo) (z0 z1 z2 z3 z4 z5 z6 z7 : Value) (hu : P.underlying t = some (.slice e)) (hie : P.info? e = some ie) (hz : ie.zero = some (.agg #[z0, z1, z2, z3, z4, z5, z6, z7])) (hs : ie.size = 8)
    (h : ∀ w' g, w.heap.size = g → Row w' g e [v0, v1, v2, v3, v4, v5, v6, v7] → Below g w w' → w'.heap.size = g + 1 → K (a.put o.dst (.slice (some ⟨g, 0, none⟩) 1 1)) w') : Oper.wp P o a w K Q := by
  refine wp_buildSlice t e 1 _ ho #[v0, v1, v2, v3, v4, v5, v6, v7] ie _ hu hie hz (by rw [hs]; omega) (by rw [hs]; omega) ?_ ?_
  · rw [hs]
    simp [hx, Instr.fill, Value.cells]
    apply Array.ext'
    simp [Array.toList_range, List.range_succ]
  · exact h _ _ rfl (Row.new w e #[v0, v1, v2, v3, v4, v5, v6, v7]) ((Below.refl _ _).alloc (Nat.le_refl _) _) (by simp)
end Wells

namespace Wells
open Go Go.RowKit
def b8 (z : Int) : Byte := hiB z 0
theorem b8_val {z : Int} (h : 0 ≤ z ∧ z ≤ 255) : bv8 (b8 z) = .int .u8 z := by
  unfold bv8 b8
  rw [hiB_toNat]
  congr 1
  simp
  omega
def packE (e : Ent) : BL := [b8 e.name.length] ++ e.name ++ highL 3 e.obj ++ highL 2 e.len ++ e.tries.map b8
def packH (m : Mani) : BL := highL 4 m.seq ++ highL 4 m.next ++ [b8 m.P.K, b8 m.P.H, b8 m.P.S, b8 m.extra, b8 m.drives.length]
def packL (m : Mani) : BL := packH m ++ m.drives.map b8 ++ [b8 m.objs.length] ++ m.objs.flatMap packE
def pack (m : Mani) : BL := if m.may then packL m else []
theorem take_b8 {l : List Int} {k : Nat} (h : k < l.length) : (l.take (k + 1)).map b8 = (l.take k).map b8 ++ [b8 (l.getD k 0)] := by
  rw [List.take_succ_eq_append_getElem h, List.map_append]; simp [h]
theorem take_ents {es : List Ent} {k : Nat} (h : k < es.length) : (es.take (k + 1)).flatMap packE = (es.take k).flatMap packE ++ packE (es.getD k default) := by
  rw [List.take_succ_eq_append_getElem h, List.flatMap_append]; simp [h]
theorem rise_ge {l : List Int} {most : Int} (h : riseB l most = true) : ∀ i, i < l.length → (i : Int) ≤ l.getD i 0
  | 0, hi => by
    have := all_range_at h hi
    unfold riseStep at this
    simp only [Bool.and_eq_true, decide_eq_true_eq] at this
    simpa using this.1.1
  | i + 1, hi => by
    have ih := rise_ge h i (by omega)
    have := all_range_at h hi
    unfold riseStep at this
    simp only [Bool.and_eq_true, Bool.or_eq_true, decide_eq_true_eq] at this
    rcases this.2 with h1 | h1
    · omega
    · simp only [Nat.add_sub_cancel] at h1
      omega
theorem rise_at {l : List Int} {most : Int} (h : riseB l most = true) {i : Nat} (hi : i < l.length) : 0 ≤ l.getD i 0 ∧ l.getD i 0 ≤ most := by
  have := all_range_at h hi
  unfold riseStep at this
  simp only [Bool.and_eq_true, decide_eq_true_eq] at this
  exact this.1
theorem rise_len {l : List Int} (h : riseB l 63 = true) : l.length ≤ 64 := by
  rcases Nat.eq_zero_or_pos l.length with h0 | h0
  · omega
  · have h1 := rise_ge h (l.length - 1) (by omega)
    have h2 := rise_at h (i := l.length - 1) (by omega)
    omega
/-- what a manifest that may be keeps to -/
structure MayP (m : Mani) : Prop where
  seq : 1 ≤ m.seq ∧ m.seq ≤ 2147483647
  next : 0 ≤ m.next ∧ m.next ≤ 16777216
  P : m.P.may = true
  extra : 0 ≤ m.extra ∧ m.extra ≤ 16
  drives : riseB m.drives 63 = true
  olen : m.objs.length ≤ 12
  objs : ∀ i, i < m.objs.length → objStep m i = true
theorem may_p {m : Mani} (h : m.may = true) : MayP m := by
  unfold Mani.may preB at h
  simp only [Bool.and_eq_true, decide_eq_true_eq] at h
  obtain ⟨⟨h1, h2, h3, h4⟩, h5, h6, h7⟩ := h
  exact ⟨h1, h2, h3, h4, h5, h6, fun i hi => all_range_at h7 hi⟩
theorem p_may {m : Mani} (h : MayP m) : m.may = true := by
  unfold Mani.may preB
  simp only [Bool.and_eq_true, decide_eq_true_eq]
  exact ⟨⟨h.seq, h.next, h.P, h.extra⟩, h.drives, h.olen, all_range_true h.objs⟩
/-- what an entry that may be keeps to -/
structure EntP (m : Mani) (e : Ent) : Prop where
  name : nameOk e.name = true
  nlen : 1 ≤ e.name.length ∧ e.name.length ≤ 12
  obj : 0 ≤ e.obj ∧ e.obj ≤ m.next - 1
  len : 0 ≤ e.len ∧ e.len ≤ m.P.K * m.P.S * 8
  len2 : e.len ≤ 3072
  tries : triesOk e.tries = true
  count : (e.tries.length : Int) = countP m.P e.len
  tlen : e.tries.length ≤ 8
theorem ent_p {m : Mani} {e : Ent} (hP : m.P.may = true) (h : entB m e = true) : EntP m e := by
  unfold entB at h
  simp only [Bool.and_eq_true, decide_eq_true_eq] at h
  obtain ⟨h1, h2, h3, h4, h5⟩ := h
  have hs := Par.size_le (Par.may_ok hP)
  unfold Par.size at hs
  obtain ⟨q, hq⟩ : ∃ q, m.P.K * m.P.S = q := ⟨_, rfl⟩
  have hn : 1 ≤ e.name.length ∧ e.name.length ≤ 12 := by
    unfold nameOk at h1
    simp only [Bool.and_eq_true, decide_eq_true_eq] at h1
    exact h1.2
  have hl : e.len ≤ 3072 := by rw [hq] at hs h3; omega
  refine ⟨h1, hn, h2, h3, hl, h4, h5, ?_⟩
  unfold countP at h5
  split at h5
  · rename_i hc
    have : (e.len - 1) / m.P.size < 8 := by
      unfold Par.size
      rw [hq] at h3 hs ⊢
      exact Int.ediv_lt_of_lt_mul (by omega) (by omega)
    omega
  · omega
theorem ent_at {m : Mani} (h : MayP m) {i : Nat} (hi : i < m.objs.length) : EntP m (m.objs.getD i default) := by
  have := h.objs i hi
  unfold objStep at this
  simp only [Bool.and_eq_true] at this
  exact ent_p h.P this.1
theorem packE_len {m : Mani} {e : Ent} (h : EntP m e) : (packE e).length ≤ 26 := by
  unfold packE
  simp only [List.length_append, List.length_map, highL_len, List.length_singleton]
  have := h.nlen; have := h.tlen
  omega
theorem tries_at {l : List Int} (h : triesOk l = true) {k : Nat} (hk : k < l.length) : 0 ≤ l.getD k 0 ∧ l.getD k 0 ≤ 15 := by
  unfold triesOk at h
  rw [List.all_eq_true] at h
  have := h (l.getD k 0) (by rw [List.getD_eq_getElem?_getD, List.getElem?_eq_getElem hk]; exact List.getElem_mem _)
  simpa using this
theorem strCells_strB (l : List Byte) : Lib.strCells (strB l) = l.map bv8 := by
  unfold Lib.strCells strB
  simp only [List.map_map]
  apply List.map_congr_left
  intro x _
  rfl
end Wells

namespace Wells
open Go Go.RowKit
abbrev RSt := List Byte × Bool
/-- the next bytes -/
def rdSome (n : Nat) (st : RSt) : List Byte × RSt := if st.1.length < n then ([], (st.1, true)) else (st.1.take n, (st.1.drop n, st.2))
/-- the number of the next bytes -/
def rdNum (k : Nat) (st : RSt) : Int × RSt := (numL (rdSome k st).1, (rdSome k st).2)
theorem rdSome_le (n : Nat) (st : RSt) : (rdSome n st).1.length ≤ n ∧ (rdSome n st).2.1.length ≤ st.1.length ∧ (rdSome n st).1.length ≤ st.1.length := by
  unfold rdSome
  split
  · simp
  · simp
    omega
theorem rdNum_bound (k : Nat) (st : RSt) : 0 ≤ (rdNum k st).1 ∧ (rdNum k st).1 < 256 ^ k := by
  have h1 := numL_bound (rdSome k st).1
  have h2 := (rdSome_le k st).1
  refine ⟨h1.1, Int.lt_of_lt_of_le h1.2 ?_⟩
  have := Nat.pow_le_pow_right (show 0 < 256 by omega) h2
  have e : ∀ a : Nat, (256 : Int) ^ a = ((256 ^ a : Nat) : Int) := fun a => by rw [Int.natCast_pow]; rfl
  rw [e, e]
  exact Int.ofNat_le.2 this
end Wells
namespace Go.Proofs.Ytnknjeipfjdjoaa
open Go.RowKit Wells
/-- a reader at block g: what is left of the bytes (in blocks below B), and whether there were too few -/
def Rd (t : TypeId) (B : Nat) (w : World) (g : Nat) (st : RSt) : Prop :=
  ∃ (A : Option Addr) (n c : Nat), Row w g t [.slice A n c, .bool st.2] ∧ Sl w B 1 A n (st.1.map bv8) ∧ st.1.length = n ∧ n ≤ c ∧ c ≤ 9223372036854775807 ∧ B ≤ g
theorem Rd.keep {t : TypeId} {B g : Nat} {w w' : World} {st : RSt} (h : Rd t B w g st) (hb : Below w.heap.size w w') (hB : B ≤ w.heap.size) : Rd t B w' g st := by
  obtain ⟨A, n, c, h1, h2, h3, h4, h5, h6⟩ := h
  exact ⟨A, n, c, h1.below hb h1.lt, h2.below (hb.mono hB), h3, h4, h5, h6⟩
/-- what 'some' leaves -/
def SomeP (t : TypeId) (B g : Nat) (w : World) (out : List Byte) (st' : RSt) (e : Ending) (w' : World) : Prop :=
  (∃ A' n' c', e = .returned (.slice A' n' c') ∧ out.length = n' ∧ Sl w' B 1 A' n' (out.map bv8)) ∧ Rd t B w' g st' ∧ w.grownBy w' (some g) ∧ w'.heap.size = w.heap.size
/-- what 'number' leaves -/
def NumP (t : TypeId) (B g : Nat) (w : World) (z : Int) (st' : RSt) (e : Ending) (w' : World) : Prop :=
  e = .returned (.int .i64 z) ∧ Rd t B w' g st' ∧ w.grownBy w' (some g) ∧ w'.heap.size = w.heap.size
theorem or_addM (m x : Nat) (hm : m < 16777216) (hx : x < 256) : bits .or .i64 ((m : Int) * 256) (x : Int) = (m : Int) * 256 + (x : Int) := by
  show IntKind.i64.wrap ((BitVec.ofInt 64 ((m : Int) * 256) ||| BitVec.ofInt 64 (x : Int)).toNat : Int) = _
  have e : (m : Int) * 256 = ((m * 256 : Nat) : Int) := by omega
  rw [e, BitVec.ofInt_natCast, BitVec.ofInt_natCast, BitVec.toNat_or, BitVec.toNat_ofNat, BitVec.toNat_ofNat, Nat.mod_eq_of_lt (by omega), Nat.mod_eq_of_lt (by omega)]
  have h := Nat.two_pow_add_eq_or_of_lt (i := 8) (b := x) (by omega) m
  rw [show m * 256 = 2 ^ 8 * m by omega, ← h, IntKind.wrap_i64]
  omega
end Go.Proofs.Ytnknjeipfjdjoaa

namespace Wells
open Go Go.RowKit
/-- w' is w with new blocks and writes to v's row; v' has the cells xs, in v's row or a new one -/
structure Appd (t : TypeId) (base : Nat) (w w' : World) (v v' : Value) (n : Nat) (xs : List Value) : Prop where
  own : w'.ownsRow base t 1 v' n xs
  grow : w.grownBy w' v.ownBlock
  wh : v'.ownBlock = v.ownBlock ∨ ∃ g, v'.ownBlock = some g ∧ w.heap.size ≤ g
theorem grown_trans {w w1 w2 : World} {r r1 : Option Nat} (h : w.grownBy w1 r) (h1 : w1.grownBy w2 r1) (hr : r1 = r ∨ ∃ g, r1 = some g ∧ w.heap.size ≤ g) : w.grownBy w2 r :=
  ⟨h1.os.trans h.os, h1.tape.trans h.tape, h1.output.trans h.output, Nat.le_trans h.size h1.size, fun k hk hne => by
    refine (h1.block k (Nat.lt_of_lt_of_le hk h.size) ?_).trans (h.block k hk hne)
    rcases hr with rfl | ⟨g, rfl, hg⟩
    · exact hne
    · intro e; injection e with e; omega⟩
theorem grown_alloc {w w1 : World} {r : Option Nat} (h : w.grownBy w1 r) (o : Obj) : w.grownBy (w1.alloc o) r :=
  ⟨h.os, h.tape, h.output, by have := h.size; simp; omega, fun k hk hne => (Below.heap_alloc w1 o k (Nat.lt_of_lt_of_le hk h.size)).trans (h.block k hk hne)⟩
theorem grown_below {w w1 w2 : World} {r : Option Nat} (h : w.grownBy w1 r) (hb : Below w1.heap.size w1 w2) : w.grownBy w2 r :=
  ⟨hb.os.trans h.os, hb.tape.trans h.tape, hb.output.trans h.output, Nat.le_trans h.size hb.size, fun k hk hne => (hb.block k (Nat.lt_of_lt_of_le hk h.size)).trans (h.block k hk hne)⟩
theorem Appd.refl {t : TypeId} {base n : Nat} {w : World} {v : Value} {xs : List Value} (h : w.ownsRow base t 1 v n xs) : Appd t base w w v v n xs := ⟨h, ⟨rfl, rfl, rfl, Nat.le_refl _, fun _ _ _ => rfl⟩, .inl rfl⟩
theorem Appd.trans {t : TypeId} {base n n1 : Nat} {w w1 w2 : World} {v v1 v2 : Value} {xs xs1 : List Value} (h : Appd t base w w1 v v1 n xs) (h1 : Appd t base w1 w2 v1 v2 n1 xs1) : Appd t base w w2 v v2 n1 xs1 := by
  refine ⟨h1.own, grown_trans h.grow h1.grow h.wh, ?_⟩
  rcases h1.wh with e | ⟨g, e, hg⟩
  · rw [e]; exact h.wh
  · exact .inr ⟨g, e, Nat.le_trans h.grow.size hg⟩
/-- one append, behind what a block was made for -/
theorem Appd.step {t : TypeId} {base n n1 : Nat} {w w1 w2 : World} {v v1 v2 : Value} {xs xs1 : List Value} (h : Appd t base w w1 v v1 n xs) (o : Obj) (ho : w2.ownsRow base t 1 v2 n1 xs1) (hg : (w1.alloc o).grownBy w2 v1.ownBlock)
    (hw : v2.ownBlock = v1.ownBlock ∨ v2.ownBlock = some (w1.alloc o).heap.size) : Appd t base w w2 v v2 n1 xs1 := by
  have hs := h.grow.size
  refine ⟨ho, grown_trans (grown_alloc h.grow o) hg h.wh, ?_⟩
  rcases hw with e | e
  · rw [e]; exact h.wh
  · exact .inr ⟨_, e, by simp; omega⟩
theorem Appd.step0 {t : TypeId} {base n n1 : Nat} {w w1 w2 : World} {v v1 v2 : Value} {xs xs1 : List Value} (h : Appd t base w w1 v v1 n xs) (ho : w2.ownsRow base t 1 v2 n1 xs1) (hg : w1.grownBy w2 v1.ownBlock)
    (hw : v2.ownBlock = v1.ownBlock ∨ v2.ownBlock = some w1.heap.size) : Appd t base w w2 v v2 n1 xs1 := by
  have hs := h.grow.size
  refine ⟨ho, grown_trans h.grow hg h.wh, ?_⟩
  rcases hw with e | e
  · rw [e]; exact h.wh
  · exact .inr ⟨_, e, by omega⟩
/-- blocks made meanwhile -/
theorem Appd.more {t : TypeId} {base n : Nat} {w w1 w2 : World} {v v1 : Value} {xs : List Value} (h : Appd t base w w1 v v1 n xs) (hb : Below w1.heap.size w1 w2) : Appd t base w w2 v v1 n xs :=
  ⟨h.own.kept (show w1.grownBy w2 none from ⟨hb.os, hb.tape, hb.output, hb.size, fun k hk _ => hb.block k hk⟩) (by cases v1.ownBlock <;> simp), grown_below h.grow hb, h.wh⟩
theorem Appd.below {t : TypeId} {base n : Nat} {w w1 : World} {v v1 : Value} {xs : List Value} (h : Appd t base w w1 v v1 n xs) (hv : ∀ k, v.ownBlock = some k → base ≤ k) (hb : base ≤ w.heap.size) : Below base w w1 :=
  (Below.refl base w).grown h.grow hb hv
/-- a block of another type stays -/
theorem Row.appd {t t' : TypeId} {base n g : Nat} {w w1 : World} {v v1 : Value} {xs cs ys : List Value} {m : Nat} (h : Row w g t' cs) (hv : w.ownsRow base t 1 v m ys) (ha : Appd t base w w1 v v1 n xs) (hne : t ≠ t') : Row w1 g t' cs := by
  refine h.grown ha.grow ?_
  rcases hv.2 with ⟨rfl, _⟩ | ⟨g', cap, cur, rfl, _, hh, _⟩
  · intro e; cases e
  · intro e
    injection e with e
    subst e
    unfold Row at h
    rw [h] at hh
    injection hh with hh
    injection hh with _ e2 _
    exact hne e2.symm
theorem Row.appd1 {t t' : TypeId} {base g n : Nat} {w w1 : World} {v : Value} {cs ys : List Value} (h : Row w g t' cs) (hv : w.ownsRow base t 1 v n ys) (hg : w.grownBy w1 v.ownBlock) (hne : t ≠ t') : Row w1 g t' cs := by
  refine h.grown hg ?_
  rcases hv.2 with ⟨rfl, _⟩ | ⟨g', cap, cur, rfl, _, hh, _⟩
  · intro e; cases e
  · intro e
    injection e with e
    subst e
    unfold Row at h
    rw [h] at hh
    injection hh with hh
    injection hh with _ e2 _
    exact hne e2.symm
theorem _root_.Go.World.ownsRow.drew_ {base size n : Nat} {w : World} {e : TypeId} {v : Value} {xs : List Value} (h : w.ownsRow base e size v n xs) : w.drew.ownsRow base e size v n xs := h
theorem Appd.drew_ {t : TypeId} {base n : Nat} {w w1 : World} {v v1 : Value} {xs : List Value} (h : Appd t base w w1 v v1 n xs) : Appd t base w w1.drew v v1 n xs := ⟨h.own, ⟨h.grow.os, h.grow.tape, h.grow.output, h.grow.size, h.grow.block⟩, h.wh⟩
end Wells
namespace Go.Proofs.Ytnknjeipfjdjoaa
open Go.RowKit Wells
theorem own_byteM {w : World} {base n : Nat} {t : TypeId} {v : Value} {l : List Byte} {E : Int} (h : w.ownsRow base t 1 v n (l.map bv8 ++ [.int .u8 E])) {b : Byte} (hb : (b.toNat : Int) = E) : w.ownsRow base t 1 v n ((l ++ [b]).map bv8) := by
  rw [List.map_append, List.map_cons, List.map_nil, bv8, hb]; exact h
theorem mnumber_any (base : Nat) (A : Option Addr) (n c : Nat) (l : List Byte) (x : Int) (k : Nat) (w : World) (ho : w.ownsRow base 5 1 (.slice A n c) n (l.map bv8)) (hn : n ≤ 1048576) (hb : base ≤ w.heap.size) (hx : -9223372036854775808 ≤ x ∧ x ≤ 9223372036854775807) (hk : k ≤ 7) :
    Calls Try.prog 87 #[.slice A n c, .int .i64 x, .int .i64 k] w fun e w' => ∃ A' c', e = .returned (.slice A' (n + k) c') ∧ Appd 5 base w w' (.slice A n c) (.slice A' (n + k) c') (n + k) ((l ++ highL k x).map bv8) := by
  obtain ⟨i0, hi, hz0, hz1, hz2⟩ := info_parts infoB
  go_enter Try.func87, Try.ntmps87
  go_wp2_with fail
  go_loopw [0, 7] (fun v i wr => ∃ (j : Nat) (A1 : Option Addr) (m c1 : Nat) (l' : List Byte), j ≤ k ∧ m + j = n + k ∧ i = .int .i64 ((j : Int) - 1) ∧ v = .slice A1 m c1 ∧ l' ++ highL j x = l ++ highL k x ∧ Appd 5 base w wr (.slice A n c) (.slice A1 m c1) m (l'.map bv8)) (fun _ i _ => (intOf i + 1).toNat)
  case atStart => exact ⟨k, A, n, c, l, by omega, rfl, rfl, rfl, rfl, .refl ho⟩
  case round =>
    obtain ⟨j, A1, m, c1, l', hj, hm, rfl, rfl, hl, ha⟩ := hrel
    have hsw : base ≤ wr.heap.size := by have := ha.grow.size; omega
    by_cases hlt : 0 < j
    · obtain ⟨i, rfl⟩ : ∃ i, j = i + 1 := ⟨j - 1, by omega⟩
      have hHL := hid hl
      clear hl
      have hji : ((i + 1 : Nat) : Int) - 1 = (i : Int) := by omega
      rw [hji]
      have hbt := hid (hiB_toNat x i)
      have hw8 : IntKind.i64.wrap (8 * (i : Int)) = 8 * (i : Int) := by rw [IntKind.wrap_i64]; omega
      have HA := hid ha
      have ho1 := ha.own
      clear ha
      go_wp2_with (at_builtin; go_must (refine wpl_append rfl (.tmp 14) (.tmp 20) 29 rfl base 5 i0 (.int .u8 0) 1 1 Try.underlying29 hi hz0 hz1 hz2 rfl (by omega) (.slice A1 m c1) m _ rfl (ho1.alloc _) _ _ 1 1 _ rfl (Sl.fresh _ _ _ _ 1 rfl) (by simp [Value.oneCell']) (m + 1) (by omega) _ rfl (by omega) (by omega) (by simp; omega) ?_); intro A2 c2 w2 o2 g2 wh2)
      have ha2 := HA.out.step _ (own_byteM o2 hbt.out) g2 wh2
      go_roundw
      case rel => exact ⟨i, A2, m + 1, c2, l' ++ [hiB x i], by omega, by omega, rfl, rfl, by rw [← hHL.out, List.append_assoc]; rfl, ha2⟩
      case measure => simp [intOf]
    · have hj0 : j = 0 := by omega
      subst hj0
      obtain rfl : m = n + k := by omega
      have hneg : ¬ (0 : Int) ≤ -1 := by omega
      have hl2 : l' = l ++ highL k x := by simpa [highL] using hl
      have HL := hid hl2
      clear hl hl2
      go_wp2_with fail
      go_ret
      exact ⟨A1, c1, rfl, by rw [← List.map_append, ← HL.out]; exact ha⟩
theorem mhigh_any (base : Nat) (A : Option Addr) (n c : Nat) (l : List Byte) (x : Int) (k : Nat) (w : World) (ho : w.ownsRow base 5 1 (.slice A n c) n (l.map bv8)) (hn : n ≤ 1048576) (hb : base ≤ w.heap.size) (hx : -9223372036854775808 ≤ x ∧ x ≤ 9223372036854775807) (hk : k ≤ 7) :
    Calls Try.prog 70 #[.slice A n c, .int .i64 x, .int .i64 k] w fun e w' => ∃ A' c', e = .returned (.slice A' (n + k) c') ∧ Appd 5 base w w' (.slice A n c) (.slice A' (n + k) c') (n + k) ((l ++ highL k x).map bv8) := by
  obtain ⟨i0, hi, hz0, hz1, hz2⟩ := info_parts infoB
  go_enter Try.func70, Try.ntmps70
  go_wp2_with fail
  go_loopw [0, 7] (fun v i wr => ∃ (j : Nat) (A1 : Option Addr) (m c1 : Nat) (l' : List Byte), j ≤ k ∧ m + j = n + k ∧ i = .int .i64 ((j : Int) - 1) ∧ v = .slice A1 m c1 ∧ l' ++ highL j x = l ++ highL k x ∧ Appd 5 base w wr (.slice A n c) (.slice A1 m c1) m (l'.map bv8)) (fun _ i _ => (intOf i + 1).toNat)
  case atStart => exact ⟨k, A, n, c, l, by omega, rfl, rfl, rfl, rfl, .refl ho⟩
  case round =>
    obtain ⟨j, A1, m, c1, l', hj, hm, rfl, rfl, hl, ha⟩ := hrel
    have hsw : base ≤ wr.heap.size := by have := ha.grow.size; omega
    by_cases hlt : 0 < j
    · obtain ⟨i, rfl⟩ : ∃ i, j = i + 1 := ⟨j - 1, by omega⟩
      have hHL := hid hl
      clear hl
      have hji : ((i + 1 : Nat) : Int) - 1 = (i : Int) := by omega
      rw [hji]
      have hbt := hid (hiB_toNat x i)
      have hw8 : IntKind.i64.wrap (8 * (i : Int)) = 8 * (i : Int) := by rw [IntKind.wrap_i64]; omega
      have HA := hid ha
      have ho1 := ha.own
      clear ha
      go_wp2_with (at_builtin; go_must (refine wpl_append rfl (.tmp 14) (.tmp 20) 29 rfl base 5 i0 (.int .u8 0) 1 1 Try.underlying29 hi hz0 hz1 hz2 rfl (by omega) (.slice A1 m c1) m _ rfl (ho1.alloc _) _ _ 1 1 _ rfl (Sl.fresh _ _ _ _ 1 rfl) (by simp [Value.oneCell']) (m + 1) (by omega) _ rfl (by omega) (by omega) (by simp; omega) ?_); intro A2 c2 w2 o2 g2 wh2)
      have ha2 := HA.out.step _ (own_byteM o2 hbt.out) g2 wh2
      go_roundw
      case rel => exact ⟨i, A2, m + 1, c2, l' ++ [hiB x i], by omega, by omega, rfl, rfl, by rw [← hHL.out, List.append_assoc]; rfl, ha2⟩
      case measure => simp [intOf]
    · have hj0 : j = 0 := by omega
      subst hj0
      obtain rfl : m = n + k := by omega
      have hneg : ¬ (0 : Int) ≤ -1 := by omega
      have hl2 : l' = l ++ highL k x := by simpa [highL] using hl
      have HL := hid hl2
      clear hl hl2
      go_wp2_with fail
      go_ret
      exact ⟨A1, c1, rfl, by rw [← List.map_append, ← HL.out]; exact ha⟩
end Go.Proofs.Ytnknjeipfjdjoaa

