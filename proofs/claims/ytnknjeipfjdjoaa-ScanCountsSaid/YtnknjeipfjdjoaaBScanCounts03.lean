/- Lists Iv ManiMath -/
import Derived.Test.YtnknjeipfjdjoaaProg
import Derived.Deep.DeepMust
import Derived.Deep.QuietTactic
import Derived.BigQuiet
import Derived.StillTailTactics
import Derived.Test.YtnknjeipfjdjoaaBScanCounts00
import Derived.Test.YtnknjeipfjdjoaaBScanCounts02
set_option maxRecDepth 20000
namespace Go.Proofs.Ytnknjeipfjdjoaa
open Go.RowKit Wells

theorem infoB : (Try.prog.info? 5).map (fun i => (i.zero, i.size, i.bytes)) = some (some (.int .u8 0), 1, 1) := by kernel_rfl
theorem infoBs : (Try.prog.info? 29).map (fun i => (i.zero, i.size, i.bytes)) = some (some (.slice none 0 0), 1, 24) := by kernel_rfl
theorem u8s_get (l : List Byte) (k : Nat) (h : k < l.length) : (l.map bv8)[k]? = some (bv8 (l.getD k 0)) := by
  rw [List.getElem?_map, List.getElem?_eq_getElem h]; simp [h]
theorem u8s_cell (l : List Byte) : ∀ v ∈ l.map bv8, v.oneCell' = true := by
  intro v hv
  obtain ⟨b, _, rfl⟩ := List.mem_map.1 hv
  rfl
theorem below_drewN {B : Nat} {a w : World} (h : Below B a w) (n : Nat) : Below B a (w.drewN n) := ⟨h.os, h.tape, h.output, h.size, h.block⟩
theorem grown_of_below {w w' : World} (h : Below w.heap.size w w') (row : Option Nat) : w.grownBy w' row := ⟨h.os, h.tape, h.output, h.size, fun k hk _ => h.block k hk⟩

/-- a value is bytes that can be read, below block B -/
def RB (w : World) (B : Nat) (v : Value) (l : List Byte) : Prop := ∃ A c, v = .slice A l.length c ∧ l.length ≤ c ∧ c ≤ 9223372036854775807 ∧ Sl w B 1 A l.length (l.map bv8)
theorem RB.keep {w w' : World} {B : Nat} {v : Value} {l : List Byte} (h : RB w B v l) (hb : Below B w w') : RB w' B v l := by
  obtain ⟨A, c, e, h1, h2, h3⟩ := h
  exact ⟨A, c, e, h1, h2, h3.below hb⟩
theorem RB.mono {w : World} {B B' : Nat} {v : Value} {l : List Byte} (h : RB w B v l) (hb : B ≤ B') : RB w B' v l := by
  obtain ⟨A, c, e, h1, h2, h3⟩ := h
  exact ⟨A, c, e, h1, h2, h3.mono hb⟩
/-- lists of bytes that can be read -/
structure RBs (w : World) (B : Nat) (A : Option Addr) (n : Nat) (vs : List Value) (ls : List (List Byte)) : Prop where
  sl : Sl w B 1 A n vs
  len : ls.length = n
  at_ : ∀ i, i < n → RB w B (vs.getD i undef) (ls.getD i [])
theorem RBs.below {w w' : World} {B n : Nat} {A : Option Addr} {vs : List Value} {ls : List (List Byte)} (h : RBs w B A n vs ls) (hb : Below B w w') : RBs w' B A n vs ls :=
  ⟨h.sl.below hb, h.len, fun i hi => (h.at_ i hi).keep hb⟩
theorem RBs.mono {w : World} {B B' n : Nat} {A : Option Addr} {vs : List Value} {ls : List (List Byte)} (h : RBs w B A n vs ls) (hb : B ≤ B') : RBs w B' A n vs ls :=
  ⟨h.sl.mono hb, h.len, fun i hi => (h.at_ i hi).mono hb⟩
theorem RBs.drewN {w : World} {B n : Nat} {A : Option Addr} {vs : List Value} {ls : List (List Byte)} (h : RBs w B A n vs ls) (d : Nat) : RBs (w.drewN d) B A n vs ls :=
  h.below (below_drewN (Below.refl B w) d)
/-- element k of lists of bytes: its cell, and what it is -/
theorem RBs.get {w : World} {B n : Nat} {A : Option Addr} {vs : List Value} {ls : List (List Byte)} (h : RBs w B A n vs ls) {k : Nat} (hk : k < n) :
    ∃ b o A' c, A = some ⟨b, o, none⟩ ∧ b < B ∧ w.cell? ⟨b, o + k, none⟩ = some (.slice A' (ls.getD k []).length c) ∧ (ls.getD k []).length ≤ c ∧ c ≤ 9223372036854775807 ∧ Sl w B 1 A' (ls.getD k []).length ((ls.getD k []).map bv8) := by
  have hv : k < vs.length := by have := h.sl.len; omega
  obtain ⟨A', c, e, h1, h2, h3⟩ := h.at_ k hk
  obtain ⟨b, o, hA, hb, hc⟩ := h.sl.get hk (List.getElem?_eq_getElem hv)
  rw [List.getD_eq_getElem?_getD, List.getElem?_eq_getElem hv] at e
  exact ⟨b, o, A', c, hA, hb, by rw [hc]; exact congrArg some e, h1, h2, h3⟩

/-- a value is bytes of the call's own, in a block from base on -/
def OB (base : Nat) (w : World) (v : Value) (l : List Byte) : Prop := w.ownsRow base 5 1 v l.length (l.map bv8)
theorem OB.read {base : Nat} {w : World} {v : Value} {l : List Byte} (h : OB base w v l) : RB w w.heap.size v l := own_slice h
theorem OB.keep {base : Nat} {w w' : World} {v : Value} {l : List Byte} {row : Option Nat} (h : OB base w v l) (hg : w.grownBy w' row) (hne : v.ownBlock = none ∨ v.ownBlock ≠ row) : OB base w' v l := h.kept hg hne
theorem OB.below {base : Nat} {w w' : World} {v : Value} {l : List Byte} (h : OB base w v l) (hb : Below w.heap.size w w') : OB base w' v l :=
  h.kept (grown_of_below hb none) (by cases v.ownBlock <;> simp)
/-- a block of another element type isn't this row's -/
theorem own_ne {base : Nat} {w : World} {e t : TypeId} {size n : Nat} {v : Value} {xs : List Value} {g : Nat} {cs : Array Value} {fr : Nat × Nat} (h : w.ownsRow base e size v n xs) (hg : w.heap[g]? = some (.cells cs t fr)) (hne : e ≠ t) : v.ownBlock = none ∨ v.ownBlock ≠ some g := by
  rcases h.2 with ⟨rfl, _⟩ | ⟨g', cap, cur, rfl, _, hh, _⟩
  · exact .inl rfl
  · refine .inr fun he => ?_
    have : g' = g := by simpa [Value.ownBlock] using he
    subst this
    rw [hg] at hh
    injection hh with hh
    injection hh with _ ht
    exact hne ht.symm
theorem own_other {base base' : Nat} {w : World} {e t : TypeId} {size size' n n' : Nat} {v v' : Value} {xs xs' : List Value} (h : w.ownsRow base e size v n xs) (h' : w.ownsRow base' t size' v' n' xs') (hne : e ≠ t) : v.ownBlock = none ∨ v.ownBlock ≠ v'.ownBlock := by
  rcases h'.2 with ⟨rfl, _⟩ | ⟨g', cap, cur, rfl, _, hh, _⟩
  · cases hv : v.ownBlock
    · exact .inl rfl
    · exact .inr (by simp [Value.ownBlock])
  · exact own_ne h hh hne
/-- a value is bytes at the head of a row of the call's own -/
def Seg (base : Nat) (w : World) (v : Value) (l : List Byte) : Prop :=
  ∃ A c, v = .slice A l.length c ∧ l.length ≤ c ∧ c ≤ 9223372036854775807 ∧ (0 < l.length → ∃ g cur, A = some ⟨g, 0, none⟩ ∧ base ≤ g ∧ Row w g 5 cur ∧ cur.take l.length = l.map bv8)
theorem Seg.nil_ (base : Nat) (w : World) : Seg base w (.slice none 0 0) [] := ⟨none, 0, rfl, Nat.le_refl _, by omega, fun h => absurd h (by simp)⟩
theorem Seg.read {base : Nat} {w : World} {v : Value} {l : List Byte} (h : Seg base w v l) : RB w w.heap.size v l := by
  obtain ⟨A, c, rfl, h1, h2, h3⟩ := h
  refine ⟨A, c, rfl, h1, h2, by simp, fun h0 => ?_⟩
  obtain ⟨g, cur, rfl, _, hr, ht⟩ := h3 h0
  refine ⟨g, 0, rfl, hr.lt, fun j u hu => ?_⟩
  rw [Nat.zero_add, hr.cell]
  rw [← ht, List.getElem?_take] at hu
  split at hu
  · exact hu
  · cases hu
theorem OB.seg {base : Nat} {w : World} {v : Value} {l : List Byte} (h : OB base w v l) : Seg base w v l := by
  obtain ⟨A, c, rfl, h1, h2, _⟩ := own_slice h
  refine ⟨A, c, rfl, h1, h2, fun h0 => ?_⟩
  rcases h.2 with ⟨hv, hn⟩ | ⟨g, cap, cur, hv, hb, hg, _, _, _, ht⟩
  · omega
  · injection hv with e1 e2 e3
    exact ⟨g, cur.toList, e1, hb, by simpa [Row] using hg, by simpa using ht⟩
theorem Seg.below {base : Nat} {w w' : World} {v : Value} {l : List Byte} (h : Seg base w v l) (hb : Below w.heap.size w w') : Seg base w' v l := by
  obtain ⟨A, c, e, h1, h2, h3⟩ := h
  refine ⟨A, c, e, h1, h2, fun h0 => ?_⟩
  obtain ⟨g, cur, hA, hg, hr, ht⟩ := h3 h0
  exact ⟨g, cur, hA, hg, hr.below hb hr.lt, ht⟩
theorem Seg.base {base base' : Nat} {w : World} {v : Value} {l : List Byte} (h : Seg base w v l) (hb : base' ≤ base) : Seg base' w v l := by
  obtain ⟨A, c, e, h1, h2, h3⟩ := h
  refine ⟨A, c, e, h1, h2, fun h0 => ?_⟩
  obtain ⟨g, cur, hA, hg, hr, ht⟩ := h3 h0
  exact ⟨g, cur, hA, by omega, hr, ht⟩
/-- the front of bytes of the call's own, its capacity cut or not -/
theorem OB.front {base : Nat} {w : World} {A : Option Addr} {n c m c' : Nat} {l : List Byte} (h : OB base w (.slice A n c) l) (hm : m ≤ l.length) (hc : m ≤ c') (hc' : c' ≤ 9223372036854775807) : Seg base w (.slice A m c') (l.take m) := by
  have hl : (l.take m).length = m := by simp [hm]
  have hs := h.seg
  obtain ⟨A', c', e, h1, h2, h3⟩ := hs
  injection e with e1 e2 e3
  subst e1 e2 e3
  refine ⟨A, _, by rw [hl], by omega, hc', fun h0 => ?_⟩
  rw [hl] at h0
  obtain ⟨g, cur, hA, hg, hr, ht⟩ := h3 (by omega)
  refine ⟨g, cur, hA, hg, hr, ?_⟩
  rw [hl, List.map_take, ← ht, List.take_take, Nat.min_eq_left hm]
/-- lists of bytes of the call's own -/
structure OBs (base : Nat) (w : World) (v : Value) (vs : List Value) (ls : List (List Byte)) : Prop where
  own : w.ownsRow base 29 1 v ls.length vs
  at_ : ∀ i, i < ls.length → OB base w (vs.getD i undef) (ls.getD i [])
theorem OBs.nil_ (base : Nat) (w : World) : OBs base w (.slice none 0 0) [] [] := ⟨World.ownsRow_nil _ _ _ _, fun i hi => absurd hi (by simp)⟩
theorem OBs.below {base : Nat} {w w' : World} {v : Value} {vs : List Value} {ls : List (List Byte)} (h : OBs base w v vs ls) (hb : Below w.heap.size w w') : OBs base w' v vs ls :=
  ⟨h.own.kept (grown_of_below hb none) (by cases v.ownBlock <;> simp), fun i hi => (h.at_ i hi).below hb⟩
theorem OBs.push {base : Nat} {w w' : World} {v v' : Value} {vs : List Value} {ls : List (List Byte)} {xv : Value} {x : List Byte} (h : OBs base w v vs ls) (hx : OB base w xv x)
    (ho : w'.ownsRow base 29 1 v' (ls.length + 1) (vs ++ [xv])) (hg : w.grownBy w' v.ownBlock) : OBs base w' v' (vs ++ [xv]) (ls ++ [x]) := by
  have hlen : vs.length = ls.length := by have := h.own.1; omega
  refine ⟨by simpa using ho, fun i hi => ?_⟩
  simp only [List.length_append, List.length_singleton] at hi
  by_cases hlt : i < ls.length
  · rw [List.getD_eq_getElem?_getD, List.getD_eq_getElem?_getD, List.getElem?_append_left (by omega), List.getElem?_append_left hlt, ← List.getD_eq_getElem?_getD, ← List.getD_eq_getElem?_getD]
    exact (h.at_ i hlt).keep hg (own_other (h.at_ i hlt) h.own (by decide))
  · have he : i = ls.length := by omega
    subst he
    rw [List.getD_eq_getElem?_getD, List.getD_eq_getElem?_getD, List.getElem?_append_right (by omega), List.getElem?_append_right (by omega)]
    simp only [hlen, Nat.sub_self, List.getElem?_cons_zero, Option.getD_some]
    exact hx.keep hg (own_other hx h.own (by decide))
theorem OBs.read {base : Nat} {w : World} {A : Option Addr} {n c : Nat} {vs : List Value} {ls : List (List Byte)} (h : OBs base w (.slice A n c) vs ls) (hn : ls.length = n) : RBs w w.heap.size A n vs ls := by
  subst hn
  exact ⟨Sl.own h.own, rfl, fun i hi => (h.at_ i hi).read⟩
theorem own_base {base base' : Nat} {w : World} {e : TypeId} {size n : Nat} {v : Value} {xs : List Value} (h : w.ownsRow base e size v n xs) (hb : base' ≤ base) : w.ownsRow base' e size v n xs := by
  refine ⟨h.1, ?_⟩
  rcases h.2 with h2 | ⟨g, cap, cur, hv, hg, r⟩
  · exact .inl h2
  · exact .inr ⟨g, cap, cur, hv, by omega, r⟩
theorem OBs.base {base base' : Nat} {w : World} {v : Value} {vs : List Value} {ls : List (List Byte)} (h : OBs base w v vs ls) (hb : base' ≤ base) : OBs base' w v vs ls :=
  ⟨own_base h.own hb, fun i hi => own_base (h.at_ i hi) hb⟩
theorem OBs.form {base : Nat} {w : World} {v : Value} {vs : List Value} {ls : List (List Byte)} (h : OBs base w v vs ls) : ∃ A c, v = .slice A ls.length c ∧ ls.length ≤ c ∧ c ≤ 9223372036854775807 := by
  obtain ⟨A, c, e, h1, h2, _⟩ := own_slice h.own
  exact ⟨A, c, e, h1, h2⟩
end Go.Proofs.Ytnknjeipfjdjoaa

namespace Wells
open Go Go.RowKit
def iv (z : Int) : Value := .int .i64 z
end Wells
namespace Go.Proofs.Ytnknjeipfjdjoaa
open Go.RowKit Wells
theorem infoInt : (Try.prog.info? 3).map (fun i => (i.zero, i.size, i.bytes)) = some (some (.int .i64 0), 1, 8) := by kernel_rfl
theorem ints_cell (l : List Int) : ∀ v ∈ l.map iv, v.oneCell' = true := by
  intro v hv
  obtain ⟨b, _, rfl⟩ := List.mem_map.1 hv
  rfl
theorem ints_get (l : List Int) (k : Nat) (h : k < l.length) : (l.map iv)[k]? = some (.int .i64 (l.getD k 0)) := by
  rw [List.getElem?_map, List.getElem?_eq_getElem h]; simp [h, iv]
end Go.Proofs.Ytnknjeipfjdjoaa

namespace Wells
open Go Go.RowKit
/-- an object of a manifest -/
structure Ent where
  name : List Byte
  obj : Int
  len : Int
  tries : List Int
deriving DecidableEq
instance : Inhabited Ent := ⟨⟨[], 0, 0, []⟩⟩
/-- a manifest -/
structure Mani where
  seq : Int
  next : Int
  P : Par
  extra : Int
  drives : List Int
  objs : List Ent
deriving DecidableEq
/-- a string of bytes -/
def strB (l : List Byte) : ByteArray := ⟨(l.map UInt8.ofBitVec).toArray⟩
def bytesB (s : ByteArray) : List Byte := s.data.toList.map UInt8.toBitVec
theorem strB_bytesB (s : ByteArray) : strB (bytesB s) = s := by
  unfold strB bytesB
  rw [List.map_map]
  have : (UInt8.ofBitVec ∘ UInt8.toBitVec) = id := by funext x; rfl
  rw [this, List.map_id]
theorem bytesB_strB (l : List Byte) : bytesB (strB l) = l := by
  unfold strB bytesB
  simp only [List.map_map]
  have : (UInt8.toBitVec ∘ UInt8.ofBitVec) = id := by funext x; rfl
  rw [this, List.map_id]
theorem strB_inj {a b : List Byte} (h : strB a = strB b) : a = b := by rw [← bytesB_strB a, h, bytesB_strB]
theorem strB_size (l : List Byte) : (strB l).size = l.length := by
  unfold strB
  show (l.map UInt8.ofBitVec).toArray.size = _
  simp
theorem strB_get (l : List Byte) (k : Nat) (h : k < (strB l).size) : (((strB l)[k]'h).toNat : Int) = ((l.getD k 0).toNat : Int) := by
  have hk : k < l.length := by rw [strB_size] at h; exact h
  have : (strB l)[k]'h = UInt8.ofBitVec (l.getD k 0) := by
    rw [List.getD_eq_getElem?_getD, List.getElem?_eq_getElem hk]
    show (l.map UInt8.ofBitVec).toArray[k]'(by simpa using hk) = _
    simp
  rw [this]
  rfl
def Ent.cells (e : Ent) (tv : Value) : List Value := [.string (strB e.name), iv e.obj, iv e.len, tv]
def Ent.val (e : Ent) (tv : Value) : Value := .agg #[.string (strB e.name), .int .i64 e.obj, .int .i64 e.len, tv]
def Mani.val (m : Mani) (dv ov : Value) : Value := .agg #[.int .i64 m.seq, .int .i64 m.next, .int .i64 m.P.K, .int .i64 m.P.H, .int .i64 m.P.S, .int .i64 m.extra, dv, ov]
def Mani.cells (m : Mani) (dv ov : Value) : List Value := [.int .i64 m.seq, .int .i64 m.next, .int .i64 m.P.K, .int .i64 m.P.H, .int .i64 m.P.S, .int .i64 m.extra, dv, ov]
/-- a letter of a name -/
def nameC (c : Byte) : Bool := decide ((97 ≤ c.toNat ∧ c.toNat ≤ 122) ∨ (48 ≤ c.toNat ∧ c.toNat ≤ 57) ∨ c.toNat = 45)
def nameOk (s : List Byte) : Bool := s.all nameC && decide (1 ≤ s.length ∧ s.length ≤ 12)
/-- is one text ahead of another? -/
def lessS (a b : List Byte) : Bool := Op.bytesLess (strB a).toList (strB b).toList
def riseStep (l : List Int) (most : Int) (i : Nat) : Bool := decide (0 ≤ l.getD i 0 ∧ l.getD i 0 ≤ most) && (decide (i = 0) || decide (l.getD (i - 1) 0 < l.getD i 0))
def riseB (l : List Int) (most : Int) : Bool := (List.range l.length).all (riseStep l most)
def triesOk (l : List Int) : Bool := l.all fun z => decide (0 ≤ z ∧ z ≤ 15)
def entB (m : Mani) (x : Ent) : Bool :=
  nameOk x.name && (decide (0 ≤ x.obj ∧ x.obj ≤ m.next - 1) && (decide (0 ≤ x.len ∧ x.len ≤ m.P.K * m.P.S * 8) && (triesOk x.tries && decide ((x.tries.length : Int) = countP m.P x.len))))
def entAt (m : Mani) (i : Nat) : Ent := m.objs.getD i default
def objStep (m : Mani) (i : Nat) : Bool :=
  entB m (entAt m i) && ((decide (i = 0) || lessS (entAt m (i - 1)).name (entAt m i).name) && (m.objs.take i).all fun y => !decide (y.obj = (entAt m i).obj))
def preB (m : Mani) : Bool := decide (1 ≤ m.seq ∧ m.seq ≤ 2147483647) && (decide (0 ≤ m.next ∧ m.next ≤ 16777216) && (m.P.may && (decide (0 ≤ m.extra ∧ m.extra ≤ 16))))
def Mani.may (m : Mani) : Bool := preB m && (riseB m.drives 63 && (decide (m.objs.length ≤ 12) && (List.range m.objs.length).all (objStep m)))
theorem all_range_false {f : Nat → Bool} {n k : Nat} (hk : k < n) (h : f k = false) : (List.range n).all f = false := by
  rw [List.all_eq_false]
  exact ⟨k, List.mem_range.2 hk, by simp [h]⟩
theorem all_range_true {f : Nat → Bool} {n : Nat} (h : ∀ k, k < n → f k = true) : (List.range n).all f = true := by
  rw [List.all_eq_true]
  intro k hk
  exact h k (List.mem_range.1 hk)
theorem all_range_at {f : Nat → Bool} {n k : Nat} (h : (List.range n).all f = true) (hk : k < n) : f k = true := by
  rw [List.all_eq_true] at h
  exact h k (List.mem_range.2 hk)
/-- numbers of the width that Go's int has -/
def i64 (z : Int) : Prop := -9223372036854775808 ≤ z ∧ z ≤ 9223372036854775807
structure M64 (m : Mani) : Prop where
  seq : i64 m.seq
  next : i64 m.next
  K : i64 m.P.K
  H : i64 m.P.H
  S : i64 m.P.S
  extra : i64 m.extra
  drives : ∀ z ∈ m.drives, i64 z
  objs : ∀ e ∈ m.objs, i64 e.obj ∧ i64 e.len ∧ ∀ z ∈ e.tries, i64 z
/-- the cells of a row of entries -/
def entsC : List Ent → List Value → List Value
  | e :: es, t :: ts => e.cells t ++ entsC es ts
  | _, _ => []
theorem entsC_len : ∀ (es : List Ent) (ts : List Value), es.length = ts.length → (entsC es ts).length = es.length * 4
  | [], [], _ => rfl
  | e :: es, t :: ts, h => by
    simp only [entsC, List.length_append, entsC_len es ts (by simpa using h), List.length_cons]
    show 4 + _ = _
    omega
  | [], _ :: _, h => by simp at h
  | _ :: _, [], h => by simp at h
theorem entsC_at : ∀ (es : List Ent) (ts : List Value) (i : Nat), es.length = ts.length → i < es.length → ∀ j, j < 4 → (entsC es ts)[i * 4 + j]? = ((es.getD i default).cells (ts.getD i undef))[j]?
  | e :: es, t :: ts, 0, _, _, j, hj => by
    simp only [entsC, Nat.zero_mul, Nat.zero_add]
    rw [List.getElem?_append_left (by show j < 4; exact hj)]
    rfl
  | e :: es, t :: ts, i + 1, h, hi, j, hj => by
    simp only [entsC]
    rw [List.getElem?_append_right (by show 4 ≤ _; omega)]
    show (entsC es ts)[(i + 1) * 4 + j - 4]? = _
    rw [show (i + 1) * 4 + j - 4 = i * 4 + j by omega, entsC_at es ts i (by simpa using h) (by simpa using hi) j hj]
    rfl
  | [], _, _, _, hi, _, _ => by simp at hi
  | _ :: _, [], _, h, _, _, _ => by simp at h
theorem entsC_snoc (e : Ent) (t : Value) : ∀ (es : List Ent) (ts : List Value), es.length = ts.length → entsC (es ++ [e]) (ts ++ [t]) = entsC es ts ++ e.cells t
  | [], [], _ => by simp [entsC]
  | a :: es, b :: ts, h => by simp only [List.cons_append, entsC, entsC_snoc e t es ts (by simpa using h), List.append_assoc]
  | [], _ :: _, h => by simp at h
  | _ :: _, [], h => by simp at h
theorem entsC_take : ∀ (es : List Ent) (ts : List Value) (k : Nat), es.length = ts.length → (entsC es ts).take (k * 4) = entsC (es.take k) (ts.take k)
  | _, _, 0, _ => by simp [entsC]
  | [], [], k + 1, _ => by simp [entsC]
  | a :: es, b :: ts, k + 1, h => by
    simp only [List.take_succ_cons, entsC]
    rw [List.take_append, List.take_of_length_le (by show 4 ≤ _; omega)]
    show _ ++ (entsC es ts).take ((k + 1) * 4 - 4) = _
    rw [show (k + 1) * 4 - 4 = k * 4 by omega, entsC_take es ts k (by simpa using h)]
  | [], _ :: _, _, h => by simp at h
  | _ :: _, [], _, h => by simp at h
/-- entries that can be read, below block B -/
structure REs (w : World) (B : Nat) (A : Option Addr) (n : Nat) (ts : List Value) (es : List Ent) : Prop where
  sl : Sl w B 4 A n (entsC es ts)
  len : es.length = n
  tlen : ts.length = n
  at_ : ∀ i, i < n → ∃ A' c, ts.getD i undef = .slice A' (es.getD i default).tries.length c ∧ (es.getD i default).tries.length ≤ c ∧ c ≤ 9223372036854775807 ∧ Sl w B 1 A' (es.getD i default).tries.length ((es.getD i default).tries.map iv)
section
variable {w w' : World} {B B' n : Nat} {A : Option Addr} {ts : List Value} {es : List Ent}
theorem REs.below (h : REs w B A n ts es) (hb : Below B w w') : REs w' B A n ts es :=
  ⟨h.sl.below hb, h.len, h.tlen, fun i hi => by
    obtain ⟨A', c, e, h1, h2, h3⟩ := h.at_ i hi
    exact ⟨A', c, e, h1, h2, h3.below hb⟩⟩
theorem REs.mono (h : REs w B A n ts es) (hb : B ≤ B') : REs w B' A n ts es :=
  ⟨h.sl.mono hb, h.len, h.tlen, fun i hi => by
    obtain ⟨A', c, e, h1, h2, h3⟩ := h.at_ i hi
    exact ⟨A', c, e, h1, h2, h3.mono hb⟩⟩
theorem REs.take (h : REs w B A n ts es) {k : Nat} (hk : k ≤ n) : REs w B A k (ts.take k) (es.take k) := by
  refine ⟨?_, by rw [List.length_take, h.len]; omega, by rw [List.length_take, h.tlen]; omega, fun i hi => ?_⟩
  · have := h.sl.take hk
    rwa [entsC_take es ts k (by rw [h.len, h.tlen])] at this
  · have := h.at_ i (by omega)
    rw [List.getD_eq_getElem?_getD, List.getD_eq_getElem?_getD, List.getElem?_take_of_lt hi, List.getElem?_take_of_lt hi, ← List.getD_eq_getElem?_getD, ← List.getD_eq_getElem?_getD]
    exact this
/-- entry k: its four cells, and its tries -/
theorem REs.get (h : REs w B A n ts es) {k : Nat} (hk : k < n) :
    ∃ b o A' c, A = some ⟨b, o, none⟩ ∧ b < B ∧ w.cell? ⟨b, o + k * 4, none⟩ = some (.string (strB (es.getD k default).name)) ∧ w.cell? ⟨b, o + k * 4 + 1, none⟩ = some (.int .i64 (es.getD k default).obj) ∧ w.cell? ⟨b, o + k * 4 + 2, none⟩ = some (.int .i64 (es.getD k default).len) ∧
      w.cell? ⟨b, o + k * 4 + 3, none⟩ = some (.slice A' (es.getD k default).tries.length c) ∧ (es.getD k default).tries.length ≤ c ∧ c ≤ 9223372036854775807 ∧ Sl w B 1 A' (es.getD k default).tries.length ((es.getD k default).tries.map iv) := by
  obtain ⟨A', c, e, h1, h2, h3⟩ := h.at_ k hk
  obtain ⟨b, o, hA, hb, hc⟩ := h.sl.at_ (by omega)
  have ht := entsC_at es ts k (by rw [h.len, h.tlen]) (by rw [h.len]; exact hk)
  refine ⟨b, o, A', c, hA, hb, ?_, ?_, ?_, ?_, h1, h2, h3⟩
  · exact hc _ _ (ht 0 (by omega))
  · have := hc _ _ (ht 1 (by omega))
    exact this
  · have := hc _ _ (ht 2 (by omega))
    exact this
  · have := hc _ _ (ht 3 (by omega))
    rw [show o + k * 4 + 3 = o + (k * 4 + 3) by omega, this, e]
end
/-- a manifest's two lists, as they can be read -/
structure RM (w : World) (B : Nat) (m : Mani) (Ad : Option Addr) (nd cd : Nat) (Ao : Option Addr) (no co : Nat) (ts : List Value) : Prop where
  d : Sl w B 1 Ad nd (m.drives.map iv)
  dl : m.drives.length = nd
  dc : nd ≤ cd ∧ cd ≤ 9223372036854775807
  o : REs w B Ao no ts m.objs
  oc : no ≤ co ∧ co ≤ 9223372036854775807
theorem RM.below {w w' : World} {B : Nat} {m : Mani} {Ad Ao : Option Addr} {nd cd no co : Nat} {ts : List Value} (h : RM w B m Ad nd cd Ao no co ts) (hb : Below B w w') : RM w' B m Ad nd cd Ao no co ts := ⟨h.d.below hb, h.dl, h.dc, h.o.below hb, h.oc⟩
theorem RM.mono {w : World} {B B' : Nat} {m : Mani} {Ad Ao : Option Addr} {nd cd no co : Nat} {ts : List Value} (h : RM w B m Ad nd cd Ao no co ts) (hb : B ≤ B') : RM w B' m Ad nd cd Ao no co ts := ⟨h.d.mono hb, h.dl, h.dc, h.o.mono hb, h.oc⟩
/-- a manifest in eight cells at the head of block g -/
def MCells (w : World) (g : Nat) (m : Mani) (dv ov : Value) : Prop :=
  w.cell? ⟨g, 0, none⟩ = some (.int .i64 m.seq) ∧ w.cell? ⟨g, 1, none⟩ = some (.int .i64 m.next) ∧ w.cell? ⟨g, 2, none⟩ = some (.int .i64 m.P.K) ∧ w.cell? ⟨g, 3, none⟩ = some (.int .i64 m.P.H) ∧ w.cell? ⟨g, 4, none⟩ = some (.int .i64 m.P.S) ∧ w.cell? ⟨g, 5, none⟩ = some (.int .i64 m.extra) ∧ w.cell? ⟨g, 6, none⟩ = some dv ∧ w.cell? ⟨g, 7, none⟩ = some ov
theorem MCells.keep {w w' : World} {g B : Nat} {m : Mani} {dv ov : Value} (h : MCells w g m dv ov) (hb : Below B w w') (hg : g < B) : MCells w' g m dv ov := by
  obtain ⟨h0, h1, h2, h3, h4, h5, h6, h7⟩ := h
  have k : ∀ i, w'.cell? ⟨g, i, none⟩ = w.cell? ⟨g, i, none⟩ := fun i => hb.cell (p := ⟨g, i, none⟩) hg
  exact ⟨(k 0).trans h0, (k 1).trans h1, (k 2).trans h2, (k 3).trans h3, (k 4).trans h4, (k 5).trans h5, (k 6).trans h6, (k 7).trans h7⟩
theorem MCells.of_row {w : World} {g : Nat} {t : TypeId} {m : Mani} {dv ov : Value} (h : Row w g t (m.cells dv ov)) : MCells w g m dv ov :=
  ⟨h.cell 0, h.cell 1, h.cell 2, h.cell 3, h.cell 4, h.cell 5, h.cell 6, h.cell 7⟩
theorem MCells.lt {w : World} {g : Nat} {m : Mani} {dv ov : Value} (h : MCells w g m dv ov) : g < w.heap.size := World.block_lt_of_cell? w _ h.1
abbrev maniObj (t : TypeId) (m : Mani) (dv ov : Value) : Obj := .cells #[.int .i64 m.seq, .int .i64 m.next, .int .i64 m.P.K, .int .i64 m.P.H, .int .i64 m.P.S, .int .i64 m.extra, dv, ov] t
theorem MCells.new (w : World) (t : TypeId) (m : Mani) (dv ov : Value) : MCells (w.alloc (maniObj t m dv ov)) w.heap.size m dv ov := .of_row (Row.new w t _)
end Wells

