/- Bytes and lists of bytes: as they are read, and as a call's own. No conditions. -/
import Derived.Test.YtmefbbpcfphciaaDoorProg
import Derived.Test.YtmefbbpcfphciaaDoorWords
import Derived.Deep.DeepMust
import Derived.Deep.QuietTactic
import Derived.BigQuiet
import Derived.StillTailTactics
namespace Go.Proofs.YtmefbbpcfphciaaDoor
open Go.RowKit Wells

theorem infoB : (Tryd.prog.info? 5).map (fun i => (i.zero, i.size, i.bytes)) = some (some (.int .u8 0), 1, 1) := by kernel_rfl
theorem infoBs : (Tryd.prog.info? 24).map (fun i => (i.zero, i.size, i.bytes)) = some (some (.slice none 0 0), 1, 24) := by kernel_rfl
theorem u8s_get (l : List Byte) (k : Nat) (h : k < l.length) : (l.map bv8)[k]? = some (bv8 (l.getD k 0)) := by
  rw [List.getElem?_map, List.getElem?_eq_getElem h]; simp [h]
theorem u8s_cell (l : List Byte) : ∀ v ∈ l.map bv8, v.oneCell' = true := by
  intro v hv
  obtain ⟨b, _, rfl⟩ := List.mem_map.1 hv
  rfl
theorem below_drewN {B : Nat} {a w : World} (h : Below B a w) (n : Nat) : Below B a (w.drewN n) := ⟨h.os, h.tape, h.output, h.size, h.block⟩
theorem grown_of_below {w w' : World} (h : Below w.heap.size w w') (row : Option Nat) : w.grownBy w' row := ⟨h.os, h.tape, h.output, h.size, fun k hk _ => h.block k hk⟩

/-- a value is bytes that can be read, below block B -/
def RB (w : World) (B : Nat) (v : Value) (l : List Byte) : Prop := ∃ A c, v = .slice A l.length c ∧ l.length ≤ c ∧ c ≤ 9223372036854775807 ∧ Sl w B 1 A l.length (l.map bv8)
theorem RB.keep {w w' : World} {B : Nat} {v : Value} {l : List Byte} (h : RB w B v l) (hb : Below B w w') : RB w' B v l := by
  obtain ⟨A, c, e, h1, h2, h3⟩ := h
  exact ⟨A, c, e, h1, h2, h3.below hb⟩
theorem RB.mono {w : World} {B B' : Nat} {v : Value} {l : List Byte} (h : RB w B v l) (hb : B ≤ B') : RB w B' v l := by
  obtain ⟨A, c, e, h1, h2, h3⟩ := h
  exact ⟨A, c, e, h1, h2, h3.mono hb⟩
/-- lists of bytes that can be read -/
structure RBs (w : World) (B : Nat) (A : Option Addr) (n : Nat) (vs : List Value) (ls : List (List Byte)) : Prop where
  sl : Sl w B 1 A n vs
  len : ls.length = n
  at_ : ∀ i, i < n → RB w B (vs.getD i undef) (ls.getD i [])
theorem RBs.below {w w' : World} {B n : Nat} {A : Option Addr} {vs : List Value} {ls : List (List Byte)} (h : RBs w B A n vs ls) (hb : Below B w w') : RBs w' B A n vs ls :=
  ⟨h.sl.below hb, h.len, fun i hi => (h.at_ i hi).keep hb⟩
theorem RBs.mono {w : World} {B B' n : Nat} {A : Option Addr} {vs : List Value} {ls : List (List Byte)} (h : RBs w B A n vs ls) (hb : B ≤ B') : RBs w B' A n vs ls :=
  ⟨h.sl.mono hb, h.len, fun i hi => (h.at_ i hi).mono hb⟩
theorem RBs.drewN {w : World} {B n : Nat} {A : Option Addr} {vs : List Value} {ls : List (List Byte)} (h : RBs w B A n vs ls) (d : Nat) : RBs (w.drewN d) B A n vs ls :=
  h.below (below_drewN (Below.refl B w) d)
/-- element k of lists of bytes: its cell, and what it is -/
theorem RBs.get {w : World} {B n : Nat} {A : Option Addr} {vs : List Value} {ls : List (List Byte)} (h : RBs w B A n vs ls) {k : Nat} (hk : k < n) :
    ∃ b o A' c, A = some ⟨b, o, none⟩ ∧ b < B ∧ w.cell? ⟨b, o + k, none⟩ = some (.slice A' (ls.getD k []).length c) ∧ (ls.getD k []).length ≤ c ∧ c ≤ 9223372036854775807 ∧ Sl w B 1 A' (ls.getD k []).length ((ls.getD k []).map bv8) := by
  have hv : k < vs.length := by have := h.sl.len; omega
  obtain ⟨A', c, e, h1, h2, h3⟩ := h.at_ k hk
  obtain ⟨b, o, hA, hb, hc⟩ := h.sl.get hk (List.getElem?_eq_getElem hv)
  rw [List.getD_eq_getElem?_getD, List.getElem?_eq_getElem hv] at e
  exact ⟨b, o, A', c, hA, hb, by rw [hc]; exact congrArg some e, h1, h2, h3⟩

/-- a value is bytes of the call's own, in a block from base on -/
def OB (base : Nat) (w : World) (v : Value) (l : List Byte) : Prop := w.ownsRow base 5 1 v l.length (l.map bv8)
theorem OB.read {base : Nat} {w : World} {v : Value} {l : List Byte} (h : OB base w v l) : RB w w.heap.size v l := own_slice h
theorem OB.keep {base : Nat} {w w' : World} {v : Value} {l : List Byte} {row : Option Nat} (h : OB base w v l) (hg : w.grownBy w' row) (hne : v.ownBlock = none ∨ v.ownBlock ≠ row) : OB base w' v l := h.kept hg hne
theorem OB.below {base : Nat} {w w' : World} {v : Value} {l : List Byte} (h : OB base w v l) (hb : Below w.heap.size w w') : OB base w' v l :=
  h.kept (grown_of_below hb none) (by cases v.ownBlock <;> simp)
/-- a block of another element type isn't this row's -/
theorem own_ne {base : Nat} {w : World} {e t : TypeId} {size n : Nat} {v : Value} {xs : List Value} {g : Nat} {cs : Array Value} {fr : Nat × Nat} (h : w.ownsRow base e size v n xs) (hg : w.heap[g]? = some (.cells cs t fr)) (hne : e ≠ t) : v.ownBlock = none ∨ v.ownBlock ≠ some g := by
  rcases h.2 with ⟨rfl, _⟩ | ⟨g', cap, cur, rfl, _, hh, _⟩
  · exact .inl rfl
  · refine .inr fun he => ?_
    have : g' = g := by simpa [Value.ownBlock] using he
    subst this
    rw [hg] at hh
    injection hh with hh
    injection hh with _ ht
    exact hne ht.symm
theorem own_other {base base' : Nat} {w : World} {e t : TypeId} {size size' n n' : Nat} {v v' : Value} {xs xs' : List Value} (h : w.ownsRow base e size v n xs) (h' : w.ownsRow base' t size' v' n' xs') (hne : e ≠ t) : v.ownBlock = none ∨ v.ownBlock ≠ v'.ownBlock := by
  rcases h'.2 with ⟨rfl, _⟩ | ⟨g', cap, cur, rfl, _, hh, _⟩
  · cases hv : v.ownBlock
    · exact .inl rfl
    · exact .inr (by simp [Value.ownBlock])
  · exact own_ne h hh hne
/-- a value is bytes at the head of a row of the call's own -/
def Seg (base : Nat) (w : World) (v : Value) (l : List Byte) : Prop :=
  ∃ A c, v = .slice A l.length c ∧ l.length ≤ c ∧ c ≤ 9223372036854775807 ∧ (0 < l.length → ∃ g cur, A = some ⟨g, 0, none⟩ ∧ base ≤ g ∧ Row w g 5 cur ∧ cur.take l.length = l.map bv8)
theorem Seg.nil_ (base : Nat) (w : World) : Seg base w (.slice none 0 0) [] := ⟨none, 0, rfl, Nat.le_refl _, by omega, fun h => absurd h (by simp)⟩
theorem Seg.read {base : Nat} {w : World} {v : Value} {l : List Byte} (h : Seg base w v l) : RB w w.heap.size v l := by
  obtain ⟨A, c, rfl, h1, h2, h3⟩ := h
  refine ⟨A, c, rfl, h1, h2, by simp, fun h0 => ?_⟩
  obtain ⟨g, cur, rfl, _, hr, ht⟩ := h3 h0
  refine ⟨g, 0, rfl, hr.lt, fun j u hu => ?_⟩
  rw [Nat.zero_add, hr.cell]
  rw [← ht, List.getElem?_take] at hu
  split at hu
  · exact hu
  · cases hu
theorem OB.seg {base : Nat} {w : World} {v : Value} {l : List Byte} (h : OB base w v l) : Seg base w v l := by
  obtain ⟨A, c, rfl, h1, h2, _⟩ := own_slice h
  refine ⟨A, c, rfl, h1, h2, fun h0 => ?_⟩
  rcases h.2 with ⟨hv, hn⟩ | ⟨g, cap, cur, hv, hb, hg, _, _, _, ht⟩
  · omega
  · injection hv with e1 e2 e3
    exact ⟨g, cur.toList, e1, hb, by simpa [Row] using hg, by simpa using ht⟩
theorem Seg.below {base : Nat} {w w' : World} {v : Value} {l : List Byte} (h : Seg base w v l) (hb : Below w.heap.size w w') : Seg base w' v l := by
  obtain ⟨A, c, e, h1, h2, h3⟩ := h
  refine ⟨A, c, e, h1, h2, fun h0 => ?_⟩
  obtain ⟨g, cur, hA, hg, hr, ht⟩ := h3 h0
  exact ⟨g, cur, hA, hg, hr.below hb hr.lt, ht⟩
theorem Seg.base {base base' : Nat} {w : World} {v : Value} {l : List Byte} (h : Seg base w v l) (hb : base' ≤ base) : Seg base' w v l := by
  obtain ⟨A, c, e, h1, h2, h3⟩ := h
  refine ⟨A, c, e, h1, h2, fun h0 => ?_⟩
  obtain ⟨g, cur, hA, hg, hr, ht⟩ := h3 h0
  exact ⟨g, cur, hA, by omega, hr, ht⟩
/-- the front of bytes of the call's own, its capacity cut or not -/
theorem OB.front {base : Nat} {w : World} {A : Option Addr} {n c m c' : Nat} {l : List Byte} (h : OB base w (.slice A n c) l) (hm : m ≤ l.length) (hc : m ≤ c') (hc' : c' ≤ 9223372036854775807) : Seg base w (.slice A m c') (l.take m) := by
  have hl : (l.take m).length = m := by simp [hm]
  have hs := h.seg
  obtain ⟨A', c', e, h1, h2, h3⟩ := hs
  injection e with e1 e2 e3
  subst e1 e2 e3
  refine ⟨A, _, by rw [hl], by omega, hc', fun h0 => ?_⟩
  rw [hl] at h0
  obtain ⟨g, cur, hA, hg, hr, ht⟩ := h3 (by omega)
  refine ⟨g, cur, hA, hg, hr, ?_⟩
  rw [hl, List.map_take, ← ht, List.take_take, Nat.min_eq_left hm]
/-- lists of bytes of the call's own -/
structure OBs (base : Nat) (w : World) (v : Value) (vs : List Value) (ls : List (List Byte)) : Prop where
  own : w.ownsRow base 24 1 v ls.length vs
  at_ : ∀ i, i < ls.length → OB base w (vs.getD i undef) (ls.getD i [])
theorem OBs.nil_ (base : Nat) (w : World) : OBs base w (.slice none 0 0) [] [] := ⟨World.ownsRow_nil _ _ _ _, fun i hi => absurd hi (by simp)⟩
theorem OBs.below {base : Nat} {w w' : World} {v : Value} {vs : List Value} {ls : List (List Byte)} (h : OBs base w v vs ls) (hb : Below w.heap.size w w') : OBs base w' v vs ls :=
  ⟨h.own.kept (grown_of_below hb none) (by cases v.ownBlock <;> simp), fun i hi => (h.at_ i hi).below hb⟩
theorem OBs.push {base : Nat} {w w' : World} {v v' : Value} {vs : List Value} {ls : List (List Byte)} {xv : Value} {x : List Byte} (h : OBs base w v vs ls) (hx : OB base w xv x)
    (ho : w'.ownsRow base 24 1 v' (ls.length + 1) (vs ++ [xv])) (hg : w.grownBy w' v.ownBlock) : OBs base w' v' (vs ++ [xv]) (ls ++ [x]) := by
  have hlen : vs.length = ls.length := by have := h.own.1; omega
  refine ⟨by simpa using ho, fun i hi => ?_⟩
  simp only [List.length_append, List.length_singleton] at hi
  by_cases hlt : i < ls.length
  · rw [List.getD_eq_getElem?_getD, List.getD_eq_getElem?_getD, List.getElem?_append_left (by omega), List.getElem?_append_left hlt, ← List.getD_eq_getElem?_getD, ← List.getD_eq_getElem?_getD]
    exact (h.at_ i hlt).keep hg (own_other (h.at_ i hlt) h.own (by decide))
  · have he : i = ls.length := by omega
    subst he
    rw [List.getD_eq_getElem?_getD, List.getD_eq_getElem?_getD, List.getElem?_append_right (by omega), List.getElem?_append_right (by omega)]
    simp only [hlen, Nat.sub_self, List.getElem?_cons_zero, Option.getD_some]
    exact hx.keep hg (own_other hx h.own (by decide))
theorem OBs.read {base : Nat} {w : World} {A : Option Addr} {n c : Nat} {vs : List Value} {ls : List (List Byte)} (h : OBs base w (.slice A n c) vs ls) (hn : ls.length = n) : RBs w w.heap.size A n vs ls := by
  subst hn
  exact ⟨Sl.own h.own, rfl, fun i hi => (h.at_ i hi).read⟩
theorem own_base {base base' : Nat} {w : World} {e : TypeId} {size n : Nat} {v : Value} {xs : List Value} (h : w.ownsRow base e size v n xs) (hb : base' ≤ base) : w.ownsRow base' e size v n xs := by
  refine ⟨h.1, ?_⟩
  rcases h.2 with h2 | ⟨g, cap, cur, hv, hg, r⟩
  · exact .inl h2
  · exact .inr ⟨g, cap, cur, hv, by omega, r⟩
theorem OBs.base {base base' : Nat} {w : World} {v : Value} {vs : List Value} {ls : List (List Byte)} (h : OBs base w v vs ls) (hb : base' ≤ base) : OBs base' w v vs ls :=
  ⟨own_base h.own hb, fun i hi => own_base (h.at_ i hi) hb⟩
theorem OBs.form {base : Nat} {w : World} {v : Value} {vs : List Value} {ls : List (List Byte)} (h : OBs base w v vs ls) : ∃ A c, v = .slice A ls.length c ∧ ls.length ≤ c ∧ c ≤ 9223372036854775807 := by
  obtain ⟨A, c, e, h1, h2, _⟩ := own_slice h.own
  exact ⟨A, c, e, h1, h2⟩
end Go.Proofs.YtmefbbpcfphciaaDoor
