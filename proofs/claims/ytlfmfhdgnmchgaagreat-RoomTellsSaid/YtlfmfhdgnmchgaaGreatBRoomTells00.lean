/- Words Frame Lists CrcMath CellMath Iv -/
import Derived.WalkKit
import Derived.Laws.CopyOwn
import Derived.Deep.Draws
import Derived.OwnWalk
import Derived.Maps.AppendAt
import Derived.Deep.AppendLies
import Derived.ProofKit
import Derived.OpenShut
import Derived.ShutString
import Derived.ChangeOld
import Derived.Test.YtlfmfhdgnmchgaaGreatProg
import Derived.Deep.DeepMust
import Derived.Deep.QuietTactic
import Derived.BigQuiet
import Derived.StillTailTactics
set_option maxRecDepth 20000
set_option linter.unusedSimpArgs false
set_option linter.unusedVariables false
set_option linter.unusedSectionVars false
namespace Wells
open Go Go.RowKit
theorem hid {p : Prop} (h : p) : Hid p := h
abbrev Byte := BitVec 8
def bv8 (b : Byte) : Value := .int .u8 (b.toNat : Int)

theorem addr_add (b o k : Nat) : (⟨b, o, none⟩ : Addr).add k = ⟨b, o + k, none⟩ := by
  unfold Addr.add
  split
  · rename_i h; subst h; rfl
  · rfl

/-- a slice of n elements, of 'size' cells each, has the cells xs, in a block below B -/
structure Sl (w : World) (B size : Nat) (A : Option Addr) (n : Nat) (xs : List Value) : Prop where
  len : xs.length = n * size
  at_ : 0 < n → ∃ b o, A = some ⟨b, o, none⟩ ∧ b < B ∧ ∀ j u, xs[j]? = some u → w.cell? ⟨b, o + j, none⟩ = some u

section
variable {w w' : World} {B B' size n : Nat} {A : Option Addr} {xs : List Value}
theorem Sl.nil_ : Sl w B size A 0 [] := ⟨by simp, fun h => absurd h (by omega)⟩
theorem Sl.keep (h : Sl w B size A n xs) (hk : ∀ b o, b < B → w'.cell? ⟨b, o, none⟩ = w.cell? ⟨b, o, none⟩) : Sl w' B size A n xs :=
  ⟨h.len, fun hn => by
    obtain ⟨b, o, e, hb, hc⟩ := h.at_ hn
    exact ⟨b, o, e, hb, fun j u hu => (hk _ _ hb).trans (hc j u hu)⟩⟩
theorem Sl.mono (h : Sl w B size A n xs) (hB : B ≤ B') : Sl w B' size A n xs :=
  ⟨h.len, fun hn => by
    obtain ⟨b, o, e, hb, hc⟩ := h.at_ hn
    exact ⟨b, o, e, by omega, hc⟩⟩
theorem Sl.below (h : Sl w B size A n xs) (hb : Below B w w') : Sl w' B size A n xs := h.keep fun b o hp => hb.cell (p := ⟨b, o, none⟩) hp
theorem Sl.drew (h : Sl w B size A n xs) : Sl w.drew B size A n xs := h.keep fun _ _ _ => rfl
theorem Sl.drewN (h : Sl w B size A n xs) (d : Nat) : Sl (w.drewN d) B size A n xs := h.keep fun _ _ _ => rfl
theorem Sl.get (h : Sl w B 1 A n xs) {k : Nat} (hk : k < n) {u : Value} (hu : xs[k]? = some u) : ∃ b o, A = some ⟨b, o, none⟩ ∧ b < B ∧ w.cell? ⟨b, o + k, none⟩ = some u := by
  obtain ⟨b, o, e, hb, hc⟩ := h.at_ (by omega)
  exact ⟨b, o, e, hb, hc k u hu⟩
/-- 's[k:m]' -/
theorem Sl.cut (h : Sl w B size A n xs) {k m c : Nat} (hkm : k ≤ m) (hm : m ≤ n) (hc : m ≤ c) :
    Sl w B size (if c = k then A else A.map (·.add (k * size))) (m - k) ((xs.drop (k * size)).take ((m - k) * size)) := by
  have hl := h.len
  have h1 : (m - k) * size = m * size - k * size := Nat.sub_mul _ _ _
  have h2 : m * size ≤ n * size := Nat.mul_le_mul_right _ hm
  refine ⟨by rw [List.length_take, List.length_drop]; omega, fun hn => ?_⟩
  obtain ⟨b, o, rfl, hb, hcell⟩ := h.at_ (by omega)
  rw [if_neg (by omega)]
  refine ⟨b, o + k * size, by simp [addr_add], hb, fun j u hu => ?_⟩
  rw [List.getElem?_take] at hu
  split at hu
  · rw [List.getElem?_drop] at hu
    have := hcell _ u hu
    rwa [show o + k * size + j = o + (k * size + j) by omega]
  · cases hu
theorem Sl.take (h : Sl w B size A n xs) {m : Nat} (hm : m ≤ n) : Sl w B size A m (xs.take (m * size)) := by
  have hl := h.len
  have h2 : m * size ≤ n * size := Nat.mul_le_mul_right _ hm
  refine ⟨by rw [List.length_take]; omega, fun hn => ?_⟩
  obtain ⟨b, o, rfl, hb, hcell⟩ := h.at_ (by omega)
  refine ⟨b, o, rfl, hb, fun j u hu => ?_⟩
  rw [List.getElem?_take] at hu
  split at hu
  · exact hcell _ u hu
  · cases hu
end

/-- block g is just the cells cs of the element type t, none frozen -/
def Row (w : World) (g : Nat) (t : TypeId) (cs : List Value) : Prop := w.heap[g]? = some (.cells cs.toArray t (0, 0))
section
variable {w w' : World} {g : Nat} {t : TypeId} {cs : List Value}
theorem Row.lt (h : Row w g t cs) : g < w.heap.size := by
  rcases Nat.lt_or_ge g w.heap.size with hlt | hge
  · exact hlt
  · unfold Row at h; rw [Array.getElem?_eq_none hge] at h; cases h
theorem Row.cell (h : Row w g t cs) (i : Nat) : w.cell? ⟨g, i, none⟩ = cs[i]? := by
  have := cell_of_row w g i cs.toArray t (0, 0) h
  simpa using this
theorem Row.frozen (h : Row w g t cs) (i : Nat) : w.frozen? ⟨g, i, none⟩ = false := by
  unfold Row at h
  simp [World.frozen?, h]
theorem Row.drew (h : Row w g t cs) : Row w.drew g t cs := h
theorem Row.drewN (h : Row w g t cs) (n : Nat) : Row (w.drewN n) g t cs := h
theorem Row.alloc (h : Row w g t cs) (o : Obj) : Row (w.alloc o) g t cs := (Below.heap_alloc w o g h.lt).trans h
theorem Row.new (w : World) (t : TypeId) (cs : Array Value) : Row (w.alloc (.cells cs t)) w.heap.size t cs.toList := by
  unfold Row; exact heap_alloc_new w _
theorem Row.set (h : Row w g t cs) (i : Nat) (u : Value) : Row (w.setCell ⟨g, i, none⟩ u) g t (cs.set i u) := by
  unfold Row at h ⊢
  simp [World.setCell, Array.getElem?_modify, h]
theorem Row.far (h : Row w g t cs) {p : Addr} (hp : g ≠ p.block) (u : Value) : Row (w.setCell p u) g t cs := (Below.heap_setCell w p u g hp).trans h
theorem Row.below {B : Nat} (h : Row w g t cs) (hb : Below B w w') (hg : g < B) : Row w' g t cs := (hb.block g hg).trans h
theorem Row.grown {row : Option Nat} (h : Row w g t cs) (hb : w.grownBy w' row) (hg : some g ≠ row) : Row w' g t cs := (hb.block g h.lt hg).trans h
theorem Row.to {cs' : List Value} (h : Row w g t cs) (e : cs = cs') : Row w g t cs' := e ▸ h
theorem Row.sl (h : Row w g t cs) {B m : Nat} (hB : g < B) (hm : m ≤ cs.length) : Sl w B 1 (some ⟨g, 0, none⟩) m (cs.take m) :=
  ⟨by simp [hm], fun _ => ⟨g, 0, rfl, hB, fun j u hu => by
    rw [Nat.zero_add, h.cell]
    rw [List.getElem?_take] at hu
    split at hu
    · exact hu
    · cases hu⟩⟩
theorem Row.own {base size n cap : Nat} (h : Row w g t cs) (hb : base ≤ g) (hn : n ≤ cap) (hc : cap ≤ maxLen) (hs : cs.length = cap * size) :
    w.ownsRow base t size (.slice (some ⟨g, 0, none⟩) n cap) n (cs.take (n * size)) := by
  refine ⟨?_, .inr ⟨g, cap, cs.toArray, rfl, hb, h, hn, hc, by simpa using hs, by simp⟩⟩
  rw [List.length_take, hs]
  have := Nat.mul_le_mul_right size hn
  omega
end
theorem Sl.fresh (w : World) (cs : List Value) (t : TypeId) (fr : Nat × Nat) (m : Nat) (hm : cs.length = m) : Sl (w.alloc (.cells cs.toArray t fr)) (w.heap.size + 1) 1 (some ⟨w.heap.size, 0, none⟩) m cs :=
  ⟨by omega, fun _ => ⟨_, 0, rfl, by omega, fun j u hu => by
    rw [Nat.zero_add, cell_of_row _ _ j cs.toArray t fr (heap_alloc_new w _)]
    simpa using hu⟩⟩
theorem below_only {w w' : World} {g B : Nat} {w0 : World} (h : Below B w0 w) (hg : w.grownBy w' (some g)) (hB : B ≤ g) (hs : B ≤ w.heap.size) : Below B w0 w' :=
  h.grown hg hs (fun k hk => by injection hk with hk; omega)

theorem ret_int {k : IntKind} {a b : Int} (h : a = b) : Ending.returned (.int k a) = .returned (.int k b) := by rw [h]
theorem ret_bool {a b : Bool} (h : a = b) : Ending.returned (.bool a) = .returned (.bool b) := by rw [h]
/-- 'make([]T, l, c)': elements of one cell; the world behind it is a variable -/
theorem wpl_make {P : Program} (w : World) {ops : Array Oper} {rest : List Oper} {o : Oper} {a : Act} {Q : Exit → Act → World → Prop}
    (hg : o.guard = none) (l c : Operand) (t : TypeId) (hop : o.op = Op.makeSlice t l c)
    (e : TypeId) (i : TypeInfo) (z : Value) (bytes : Nat) (h1 : P.underlying t = some (.slice e)) (h2 : P.info? e = some i) (h3 : i.zero = some z) (h4 : i.size = 1) (h5 : i.bytes = bytes) (hz : z.cells = #[z])
    (kl kc : IntKind) (L C : Int) (n m : Nat) (hl : a.eval l = .int kl L) (hc : a.eval c = .int kc C) (hL : L = (n : Int)) (hC : C = (m : Int)) (hnm : n ≤ m) (b2 : bytes * m ≤ 281474976710656) (b3 : m ≤ 9223372036854775807)
    (hK : ∀ w', Row w' w.heap.size e (List.replicate m z) → Below w.heap.size w w' → w'.heap.size = w.heap.size + 1 → wpList P ops Q rest (a.put o.dst (.slice (some ⟨w.heap.size, 0, none⟩) n m)) w') :
    wpList P ops Q (o :: rest) a w := by
  refine wpList_plain hg fun K hK' => ?_
  subst h5 hL hC
  have hbb : (i.bytes : Int) * (m : Int) ≤ 281474976710656 := by
    have h : ((i.bytes * m : Nat) : Int) ≤ 281474976710656 := by omega
    rwa [Int.natCast_mul] at h
  have hrun := run_make (P := P) w t e i z h1 h2 h3 kl kc n m (by omega) (by omega) hbb (by omega)
  simp only [Int.toNat_natCast, h4, Nat.mul_one, hz] at hrun
  unfold Oper.wp
  simp [execOp, hop, hl, hc, hrun, Result.andThen]
  refine hK' _ _ (hK _ ?_ ((Below.refl _ _).alloc (Nat.le_refl _) _) (by simp))
  have := Row.new w e (madeCells #[z] m)
  rwa [toList_madeCells_one] at this
/-- 'copy(dst, src)' into a row that is known whole -/
theorem wpl_copy {P : Program} {w : World} {ops : Array Oper} {rest : List Oper} {o : Oper} {a : Act} {Q : Exit → Act → World → Prop} (hgd : o.guard = none) (d s : Operand) (dT sT : TypeId)
    (ho : o.op = .call { callee := .builtin .copy, args := #[d, s], argTypes := #[dT, sT] }) (elem : TypeId) (hu : P.underlying dT = some (.slice elem)) (hsz : (P.info? elem).map (·.size) = some 1)
    (dp A : Option Addr) (dLen dCap n sCap : Nat) (hd : a.eval d = .slice dp dLen dCap) (hs : a.eval s = .slice A n sCap)
    (g off : Nat) (cur : List Value) (t : TypeId) (hg : Row w g t cur) (B : Nat) (xs : List Value) (hx : Sl w B 1 A n xs)
    (hpos : 0 < min n dLen → dp = some ⟨g, off, none⟩) (hfit : off + min n dLen ≤ cur.length) (h1 : ∀ v ∈ xs, v.oneCell' = true)
    (h : ∀ w', Row w' g t (splice cur off (xs.take dLen)) → w.grownBy w' (some g) → wpList P ops Q rest (a.put o.dst (goInt ((min n dLen : Nat) : Int))) w') :
    wpList P ops Q (o :: rest) a w := by
  have hl : (xs.take dLen).length = min n dLen := by rw [List.length_take, hx.len]; omega
  by_cases h0 : min n dLen = 0
  · refine wpList_copy_nothing hgd d s dT sT ho elem hu hsz dp A dLen dCap n sCap hd hs (by show min n dLen = 0; exact h0) ?_
    have he : xs.take dLen = [] := List.eq_nil_of_length_eq_zero (by rw [hl, h0])
    rw [he] at h
    have := h w (by simpa [splice] using hg) (World.grownBy.refl w _)
    rwa [h0] at this
  · have hxs := hx.at_ (by omega)
    obtain ⟨b, o', rfl, _, hc⟩ := hxs
    have hdp := hpos (by omega)
    subst hdp
    refine wpList_copy_own hgd d s dT sT ho elem hu hsz g off dLen dCap ⟨b, o', none⟩ n sCap hd hs cur.toArray t hg (xs.take dLen) (by rw [hl]) ?_ (by rw [hl]; exact hfit) (fun v hv => h1 v (List.mem_of_mem_take hv)) ?_
    · intro j v hv
      rw [addr_add]
      rw [List.getElem?_take] at hv
      split at hv
      · exact hc j v hv
      · cases hv
    · rw [hl]
      refine h _ ?_ ?_
      · have := setRow_heap w g cur.toArray (splice cur off (xs.take dLen)).toArray t _ hg
        simpa [splice, hl, Row] using this
      · exact ⟨rfl, rfl, rfl, by simp [World.setRow], fun k hk hne => setRow_other w g k _ (fun e => hne (by rw [e]))⟩

theorem own_slice {w : World} {base : Nat} {e : TypeId} {size n : Nat} {v : Value} {xs : List Value} (h : w.ownsRow base e size v n xs) :
    ∃ A c, v = .slice A n c ∧ n ≤ c ∧ c ≤ 9223372036854775807 ∧ Sl w w.heap.size size A n xs := by
  have hl := h.1
  rcases h.2 with ⟨rfl, rfl⟩ | ⟨g, cap, cur, rfl, hb, hg, hn, hc, hs, ht⟩
  · have : xs = [] := List.eq_nil_of_length_eq_zero (by simpa using hl)
    subst this
    exact ⟨none, 0, rfl, Nat.le_refl _, by omega, Sl.nil_⟩
  · refine ⟨_, cap, rfl, hn, by unfold maxLen at hc; omega, hl, fun h0 => ⟨g, 0, rfl, (Array.getElem?_eq_some_iff.1 hg).1, fun j u hu => ?_⟩⟩
    rw [Nat.zero_add, cell_of_row w g j cur e (0, 0) hg]
    rw [← ht, List.getElem?_take] at hu
    split at hu
    · simpa using hu
    · cases hu
theorem Sl.own {w : World} {base : Nat} {e : TypeId} {size n c : Nat} {A : Option Addr} {xs : List Value} (h : w.ownsRow base e size (.slice A n c) n xs) : Sl w w.heap.size size A n xs := by
  obtain ⟨A', c', he, _, _, hs⟩ := own_slice h
  injection he with e1 _ e2
  subst e1
  exact hs
theorem own_cap {w : World} {base : Nat} {e : TypeId} {size n c : Nat} {A : Option Addr} {xs : List Value} (h : w.ownsRow base e size (.slice A n c) n xs) : n ≤ c ∧ c ≤ 9223372036854775807 := by
  obtain ⟨A', c', he, h1, h2, _⟩ := own_slice h
  injection he with e1 _ e2
  subst e2
  exact ⟨h1, h2⟩
theorem own_form {w : World} {base : Nat} {e : TypeId} {size n c : Nat} {A : Option Addr} {xs : List Value} (h : w.ownsRow base e size (.slice A n c) n xs) :
    (A = none ∧ n = 0 ∧ c = 0) ∨ ∃ g, A = some ⟨g, 0, none⟩ ∧ base ≤ g ∧ g < w.heap.size := by
  rcases h.2 with ⟨hv, h0⟩ | ⟨g, cap, cur, hv, hb, hg, _⟩
  · injection hv with e1 e2 e3
    exact .inl ⟨e1, e2, e3⟩
  · injection hv with e1 e2 e3
    exact .inr ⟨g, e1, hb, (Array.getElem?_eq_some_iff.1 hg).1⟩
theorem own_lt {w : World} {base : Nat} {e : TypeId} {size n : Nat} {v : Value} {xs : List Value} (h : w.ownsRow base e size v n xs) : ∀ k, v.ownBlock = some k → base ≤ k ∧ k < w.heap.size := h.lt
/-- below the base nothing turns while an owned row grows -/
theorem below_own {B base : Nat} {w0 w w' : World} {e : TypeId} {size n : Nat} {v : Value} {xs : List Value} (hb : Below B w0 w) (h : w.ownsRow base e size v n xs) (hg : w.grownBy w' v.ownBlock) (hB : B ≤ base) (hs : B ≤ w.heap.size) : Below B w0 w' :=
  hb.grown hg hs fun k hk => Nat.le_trans hB (h.lt k hk).1
theorem run_append_nil {P : Program} (w : World) {base : Nat} (t ty e : TypeId) (i : TypeInfo) {size : Nat} (ht : P.underlying t = some (.slice e)) (hi : P.info? e = some i)
    {v : Value} {n : Nat} {xs : List Value} (hown : w.ownsRow base e size v n xs) (c : Nat) : (Builtin.append_ #[t, t] ty #[v, .slice none 0 c]).run P w = .ok v w := by
  rcases hown.2 with ⟨rfl, rfl⟩ | ⟨g, cap, cur, rfl, _, _, hnc, _⟩
  · simp [Builtin.append_, run_underlying ht, Go.sizeOf, typeInfo, hi, Builtin.lenOf, Builtin.firstCells]
  · simp [Builtin.append_, run_underlying ht, Go.sizeOf, typeInfo, hi, Builtin.lenOf, Builtin.firstCells, hnc, storeCells]
/-- 'out = append(out, xs...)': out nil or the call's own; the source a slice that reads, nil or not -/
theorem wpl_append {P : Program} {w : World} {ops : Array Oper} {rest : List Oper} {o : Oper} {a : Act} {Q : Exit → Act → World → Prop} (hgd : o.guard = none) (s x : Operand) (t : TypeId)
    (ho : o.op = .call { callee := .builtin .append, args := #[s, x], argTypes := #[t, t] })
    (base : Nat) (e : TypeId) (i : TypeInfo) (z : Value) (size bytes : Nat) (ht : P.underlying t = some (.slice e)) (hi : P.info? e = some i) (hz : i.zero = some z)
    (hsize : i.size = size) (hby : i.bytes = bytes) (hzs : z.cells.size = size) (hsz : 0 < size)
    (v : Value) (n : Nat) (xs : List Value) (hs : a.eval s = v) (hown : w.ownsRow base e size v n xs)
    (B : Nat) (A : Option Addr) (m c : Nat) (news : List Value) (hx : a.eval x = .slice A m c) (hr : Sl w B size A m news) (h1 : ∀ u ∈ news, u.oneCell' = true)
    (N : Nat) (hN : n + m = N) (ys : List Value) (hys : xs ++ news = ys) (h63 : N ≤ 9223372036854775807) (hbytes : N * bytes ≤ 140737488355328) (hbase : base ≤ w.heap.size)
    (h : ∀ A' c' w', w'.ownsRow base e size (.slice A' N c') N ys → w.grownBy w' v.ownBlock → ((Value.slice A' N c').ownBlock = v.ownBlock ∨ (Value.slice A' N c').ownBlock = some w.heap.size) →
      wpList P ops Q rest (a.put o.dst (.slice A' N c')) w') : wpList P ops Q (o :: rest) a w := by
  subst hN hys
  have key : ∃ v' w', (Builtin.append_ #[t, t] o.type #[v, .slice A m c]).run P w = .ok v' w' ∧ w'.ownsRow base e size v' (n + m) (xs ++ news) ∧ w.grownBy w' v.ownBlock ∧ (v'.ownBlock = v.ownBlock ∨ v'.ownBlock = some w.heap.size) := by
    rcases A with _ | ad
    · have hm : m = 0 := by
        rcases Nat.eq_zero_or_pos m with h0 | h0
        · exact h0
        · obtain ⟨_, _, hh, _⟩ := hr.at_ h0
          cases hh
      subst hm
      have hn : news = [] := List.eq_nil_of_length_eq_zero (by simpa using hr.len)
      subst hn
      exact ⟨v, w, run_append_nil w t o.type e i ht hi hown c, by simpa using hown, World.grownBy.refl w _, .inl rfl⟩
    · have hcells : ∀ j u, news[j]? = some u → w.cell? (ad.add j) = some u := by
        intro j u hu
        rcases Nat.eq_zero_or_pos m with h0 | h0
        · subst h0
          have hn : news = [] := List.eq_nil_of_length_eq_zero (by simpa using hr.len)
          subst hn
          simp at hu
        · obtain ⟨b, o', hh, _, hc⟩ := hr.at_ h0
          injection hh with hh
          subst hh
          rw [addr_add]
          exact hc j u hu
      obtain ⟨v', w', hrun, h2, h3, _, h5⟩ := run_append_own_at (P := P) w base t o.type e i z size bytes ht hi hz hsize hby hzs hsz v n xs hown ad m c news hr.len hcells h1 (by unfold maxLen; omega) hbytes hbase
      exact ⟨v', w', hrun, h2, h3, h5⟩
  obtain ⟨v', w', hrun, h2, h3, h4⟩ := key
  obtain ⟨A', c', rfl, _⟩ := own_slice h2
  refine wpList_plain hgd fun K hK => ?_
  unfold Oper.wp execOp
  simp only [ho, resolve, invoke, builtin, Sem.run_bind, Sem.run_pure, Result.andThen_ok, List.map_toArray, List.map_cons, List.map_nil, hs, hx, hrun]
  exact hK _ _ (h A' c' w' h2 h3 h4)
end Wells

namespace Wells
open Go Go.RowKit Go.ChangeShapes Go.WideShapes Go.ChangeAt
/-- numbers that came in -/
structure IsInts (w : World) (A : Option Addr) (n c : Nat) (l : List Int) : Prop where
  sl : Sl w w.heap.size 1 A n (l.map (Value.int .i64))
  le : n ≤ c
  cap : c ≤ 9223372036854775807
  wf : ∀ z ∈ l, -9223372036854775808 ≤ z ∧ z ≤ 9223372036854775807
theorem sl_of_cells {w : World} {x : Addr} {n : Nat} {vs : List Value} (hn : vs.length = n) (h : ∀ i, i < n → w.cell? (x.add i) = vs[i]?) : Sl w w.heap.size 1 (some x) n vs := by
  refine ⟨by omega, fun h0 => ?_⟩
  obtain ⟨b, off, spot⟩ := x
  have hv : vs[0]? = some (vs[0]'(by omega)) := List.getElem?_eq_getElem (by omega)
  have h0c := (h 0 h0).trans hv
  have hspot : spot = none := by simpa [Addr.add] using World.cell?_spot h0c
  subst hspot
  rw [addr_add] at h0c
  refine ⟨b, off, rfl, World.block_lt_of_cell? w _ h0c, fun j u hu => ?_⟩
  have hj : j < n := by
    rcases Nat.lt_or_ge j vs.length with hj | hj
    · omega
    · rw [List.getElem?_eq_none hj] at hu; cases hu
  have := h j hj
  rw [addr_add] at this
  rw [this, hu]
theorem byte_of_int {z : Int} (h0 : 0 ≤ z) (h1 : z ≤ 255) : bv8 (BitVec.ofNat 8 z.toNat) = .int .u8 z := by
  unfold bv8
  rw [BitVec.toNat_ofNat, Nat.mod_eq_of_lt (by omega)]
  congr 1
  omega
theorem isInts_open {H : Type} {enc : TypeId × Value → H} {P : Program} {w : World} {base : Nat} {sp : Nat → Bool} {held : Bool} {A : Option Addr} {n c t e fuel : Nat} {x : DataW H × List MemPlace}
    (ht : P.underlying t = some (.slice e)) (he : P.underlying e = some (.int .i64)) (hc : P.cellsOf e = 1) (hf : DataW.trod enc P w base sp held fuel t [.slice A n c] = some x) : ∃ l, IsInts w A n c l := by
  rcases open_ints ht he hc hf with ⟨hcs, _⟩ | ⟨a, len, cap, zs, hcs, _, hl, hm, hz, _, hcell, hwz⟩
  · simp at hcs
    obtain ⟨rfl, rfl, rfl⟩ := hcs
    exact ⟨[], Sl.nil_, by omega, by omega, by simp⟩
  · simp at hcs
    obtain ⟨rfl, rfl, rfl⟩ := hcs
    have hlen : n ≤ zs.length := by rw [hz]; split <;> omega
    refine ⟨zs.take n, ?_, hl, by unfold maxLen at hm; omega, fun z hz => bounds_i64 (hwz z (List.mem_of_mem_take hz))⟩
    refine sl_of_cells (by simp [hlen]) fun i hi => ?_
    rw [hcell i (by omega), List.getElem?_map, List.getElem?_take, if_pos hi, List.getElem?_eq_getElem (by omega)]
    rw [List.getD_eq_getElem?_getD, List.getElem?_eq_getElem (by omega)]
    rfl
end Wells

namespace Go.Proofs.YtlfmfhdgnmchgaaGreat
open Go.RowKit Wells

theorem infoB : (Tryz.prog.info? 5).map (fun i => (i.zero, i.size, i.bytes)) = some (some (.int .u8 0), 1, 1) := by kernel_rfl
theorem infoBs : (Tryz.prog.info? 58).map (fun i => (i.zero, i.size, i.bytes)) = some (some (.slice none 0 0), 1, 24) := by kernel_rfl
theorem u8s_get (l : List Byte) (k : Nat) (h : k < l.length) : (l.map bv8)[k]? = some (bv8 (l.getD k 0)) := by
  rw [List.getElem?_map, List.getElem?_eq_getElem h]; simp [h]
theorem u8s_cell (l : List Byte) : ∀ v ∈ l.map bv8, v.oneCell' = true := by
  intro v hv
  obtain ⟨b, _, rfl⟩ := List.mem_map.1 hv
  rfl
theorem below_drewN {B : Nat} {a w : World} (h : Below B a w) (n : Nat) : Below B a (w.drewN n) := ⟨h.os, h.tape, h.output, h.size, h.block⟩
theorem grown_of_below {w w' : World} (h : Below w.heap.size w w') (row : Option Nat) : w.grownBy w' row := ⟨h.os, h.tape, h.output, h.size, fun k hk _ => h.block k hk⟩

/-- a value is bytes that can be read, below block B -/
def RB (w : World) (B : Nat) (v : Value) (l : List Byte) : Prop := ∃ A c, v = .slice A l.length c ∧ l.length ≤ c ∧ c ≤ 9223372036854775807 ∧ Sl w B 1 A l.length (l.map bv8)
theorem RB.keep {w w' : World} {B : Nat} {v : Value} {l : List Byte} (h : RB w B v l) (hb : Below B w w') : RB w' B v l := by
  obtain ⟨A, c, e, h1, h2, h3⟩ := h
  exact ⟨A, c, e, h1, h2, h3.below hb⟩
theorem RB.mono {w : World} {B B' : Nat} {v : Value} {l : List Byte} (h : RB w B v l) (hb : B ≤ B') : RB w B' v l := by
  obtain ⟨A, c, e, h1, h2, h3⟩ := h
  exact ⟨A, c, e, h1, h2, h3.mono hb⟩
/-- lists of bytes that can be read -/
structure RBs (w : World) (B : Nat) (A : Option Addr) (n : Nat) (vs : List Value) (ls : List (List Byte)) : Prop where
  sl : Sl w B 1 A n vs
  len : ls.length = n
  at_ : ∀ i, i < n → RB w B (vs.getD i undef) (ls.getD i [])
theorem RBs.below {w w' : World} {B n : Nat} {A : Option Addr} {vs : List Value} {ls : List (List Byte)} (h : RBs w B A n vs ls) (hb : Below B w w') : RBs w' B A n vs ls :=
  ⟨h.sl.below hb, h.len, fun i hi => (h.at_ i hi).keep hb⟩
theorem RBs.mono {w : World} {B B' n : Nat} {A : Option Addr} {vs : List Value} {ls : List (List Byte)} (h : RBs w B A n vs ls) (hb : B ≤ B') : RBs w B' A n vs ls :=
  ⟨h.sl.mono hb, h.len, fun i hi => (h.at_ i hi).mono hb⟩
theorem RBs.drewN {w : World} {B n : Nat} {A : Option Addr} {vs : List Value} {ls : List (List Byte)} (h : RBs w B A n vs ls) (d : Nat) : RBs (w.drewN d) B A n vs ls :=
  h.below (below_drewN (Below.refl B w) d)
/-- element k of lists of bytes: its cell, and what it is -/
theorem RBs.get {w : World} {B n : Nat} {A : Option Addr} {vs : List Value} {ls : List (List Byte)} (h : RBs w B A n vs ls) {k : Nat} (hk : k < n) :
    ∃ b o A' c, A = some ⟨b, o, none⟩ ∧ b < B ∧ w.cell? ⟨b, o + k, none⟩ = some (.slice A' (ls.getD k []).length c) ∧ (ls.getD k []).length ≤ c ∧ c ≤ 9223372036854775807 ∧ Sl w B 1 A' (ls.getD k []).length ((ls.getD k []).map bv8) := by
  have hv : k < vs.length := by have := h.sl.len; omega
  obtain ⟨A', c, e, h1, h2, h3⟩ := h.at_ k hk
  obtain ⟨b, o, hA, hb, hc⟩ := h.sl.get hk (List.getElem?_eq_getElem hv)
  rw [List.getD_eq_getElem?_getD, List.getElem?_eq_getElem hv] at e
  exact ⟨b, o, A', c, hA, hb, by rw [hc]; exact congrArg some e, h1, h2, h3⟩

/-- a value is bytes of the call's own, in a block from base on -/
def OB (base : Nat) (w : World) (v : Value) (l : List Byte) : Prop := w.ownsRow base 5 1 v l.length (l.map bv8)
theorem OB.read {base : Nat} {w : World} {v : Value} {l : List Byte} (h : OB base w v l) : RB w w.heap.size v l := own_slice h
theorem OB.keep {base : Nat} {w w' : World} {v : Value} {l : List Byte} {row : Option Nat} (h : OB base w v l) (hg : w.grownBy w' row) (hne : v.ownBlock = none ∨ v.ownBlock ≠ row) : OB base w' v l := h.kept hg hne
theorem OB.below {base : Nat} {w w' : World} {v : Value} {l : List Byte} (h : OB base w v l) (hb : Below w.heap.size w w') : OB base w' v l :=
  h.kept (grown_of_below hb none) (by cases v.ownBlock <;> simp)
/-- a block of another element type isn't this row's -/
theorem own_ne {base : Nat} {w : World} {e t : TypeId} {size n : Nat} {v : Value} {xs : List Value} {g : Nat} {cs : Array Value} {fr : Nat × Nat} (h : w.ownsRow base e size v n xs) (hg : w.heap[g]? = some (.cells cs t fr)) (hne : e ≠ t) : v.ownBlock = none ∨ v.ownBlock ≠ some g := by
  rcases h.2 with ⟨rfl, _⟩ | ⟨g', cap, cur, rfl, _, hh, _⟩
  · exact .inl rfl
  · refine .inr fun he => ?_
    have : g' = g := by simpa [Value.ownBlock] using he
    subst this
    rw [hg] at hh
    injection hh with hh
    injection hh with _ ht
    exact hne ht.symm
theorem own_other {base base' : Nat} {w : World} {e t : TypeId} {size size' n n' : Nat} {v v' : Value} {xs xs' : List Value} (h : w.ownsRow base e size v n xs) (h' : w.ownsRow base' t size' v' n' xs') (hne : e ≠ t) : v.ownBlock = none ∨ v.ownBlock ≠ v'.ownBlock := by
  rcases h'.2 with ⟨rfl, _⟩ | ⟨g', cap, cur, rfl, _, hh, _⟩
  · cases hv : v.ownBlock
    · exact .inl rfl
    · exact .inr (by simp [Value.ownBlock])
  · exact own_ne h hh hne
/-- a value is bytes at the head of a row of the call's own -/
def Seg (base : Nat) (w : World) (v : Value) (l : List Byte) : Prop :=
  ∃ A c, v = .slice A l.length c ∧ l.length ≤ c ∧ c ≤ 9223372036854775807 ∧ (0 < l.length → ∃ g cur, A = some ⟨g, 0, none⟩ ∧ base ≤ g ∧ Row w g 5 cur ∧ cur.take l.length = l.map bv8)
theorem Seg.nil_ (base : Nat) (w : World) : Seg base w (.slice none 0 0) [] := ⟨none, 0, rfl, Nat.le_refl _, by omega, fun h => absurd h (by simp)⟩
theorem Seg.read {base : Nat} {w : World} {v : Value} {l : List Byte} (h : Seg base w v l) : RB w w.heap.size v l := by
  obtain ⟨A, c, rfl, h1, h2, h3⟩ := h
  refine ⟨A, c, rfl, h1, h2, by simp, fun h0 => ?_⟩
  obtain ⟨g, cur, rfl, _, hr, ht⟩ := h3 h0
  refine ⟨g, 0, rfl, hr.lt, fun j u hu => ?_⟩
  rw [Nat.zero_add, hr.cell]
  rw [← ht, List.getElem?_take] at hu
  split at hu
  · exact hu
  · cases hu
theorem OB.seg {base : Nat} {w : World} {v : Value} {l : List Byte} (h : OB base w v l) : Seg base w v l := by
  obtain ⟨A, c, rfl, h1, h2, _⟩ := own_slice h
  refine ⟨A, c, rfl, h1, h2, fun h0 => ?_⟩
  rcases h.2 with ⟨hv, hn⟩ | ⟨g, cap, cur, hv, hb, hg, _, _, _, ht⟩
  · omega
  · injection hv with e1 e2 e3
    exact ⟨g, cur.toList, e1, hb, by simpa [Row] using hg, by simpa using ht⟩
theorem Seg.below {base : Nat} {w w' : World} {v : Value} {l : List Byte} (h : Seg base w v l) (hb : Below w.heap.size w w') : Seg base w' v l := by
  obtain ⟨A, c, e, h1, h2, h3⟩ := h
  refine ⟨A, c, e, h1, h2, fun h0 => ?_⟩
  obtain ⟨g, cur, hA, hg, hr, ht⟩ := h3 h0
  exact ⟨g, cur, hA, hg, hr.below hb hr.lt, ht⟩
theorem Seg.base {base base' : Nat} {w : World} {v : Value} {l : List Byte} (h : Seg base w v l) (hb : base' ≤ base) : Seg base' w v l := by
  obtain ⟨A, c, e, h1, h2, h3⟩ := h
  refine ⟨A, c, e, h1, h2, fun h0 => ?_⟩
  obtain ⟨g, cur, hA, hg, hr, ht⟩ := h3 h0
  exact ⟨g, cur, hA, by omega, hr, ht⟩
/-- the front of bytes of the call's own, its capacity cut or not -/
theorem OB.front {base : Nat} {w : World} {A : Option Addr} {n c m c' : Nat} {l : List Byte} (h : OB base w (.slice A n c) l) (hm : m ≤ l.length) (hc : m ≤ c') (hc' : c' ≤ 9223372036854775807) : Seg base w (.slice A m c') (l.take m) := by
  have hl : (l.take m).length = m := by simp [hm]
  have hs := h.seg
  obtain ⟨A', c', e, h1, h2, h3⟩ := hs
  injection e with e1 e2 e3
  subst e1 e2 e3
  refine ⟨A, _, by rw [hl], by omega, hc', fun h0 => ?_⟩
  rw [hl] at h0
  obtain ⟨g, cur, hA, hg, hr, ht⟩ := h3 (by omega)
  refine ⟨g, cur, hA, hg, hr, ?_⟩
  rw [hl, List.map_take, ← ht, List.take_take, Nat.min_eq_left hm]
/-- lists of bytes of the call's own -/
structure OBs (base : Nat) (w : World) (v : Value) (vs : List Value) (ls : List (List Byte)) : Prop where
  own : w.ownsRow base 58 1 v ls.length vs
  at_ : ∀ i, i < ls.length → OB base w (vs.getD i undef) (ls.getD i [])
theorem OBs.nil_ (base : Nat) (w : World) : OBs base w (.slice none 0 0) [] [] := ⟨World.ownsRow_nil _ _ _ _, fun i hi => absurd hi (by simp)⟩
theorem OBs.below {base : Nat} {w w' : World} {v : Value} {vs : List Value} {ls : List (List Byte)} (h : OBs base w v vs ls) (hb : Below w.heap.size w w') : OBs base w' v vs ls :=
  ⟨h.own.kept (grown_of_below hb none) (by cases v.ownBlock <;> simp), fun i hi => (h.at_ i hi).below hb⟩
theorem OBs.push {base : Nat} {w w' : World} {v v' : Value} {vs : List Value} {ls : List (List Byte)} {xv : Value} {x : List Byte} (h : OBs base w v vs ls) (hx : OB base w xv x)
    (ho : w'.ownsRow base 58 1 v' (ls.length + 1) (vs ++ [xv])) (hg : w.grownBy w' v.ownBlock) : OBs base w' v' (vs ++ [xv]) (ls ++ [x]) := by
  have hlen : vs.length = ls.length := by have := h.own.1; omega
  refine ⟨by simpa using ho, fun i hi => ?_⟩
  simp only [List.length_append, List.length_singleton] at hi
  by_cases hlt : i < ls.length
  · rw [List.getD_eq_getElem?_getD, List.getD_eq_getElem?_getD, List.getElem?_append_left (by omega), List.getElem?_append_left hlt, ← List.getD_eq_getElem?_getD, ← List.getD_eq_getElem?_getD]
    exact (h.at_ i hlt).keep hg (own_other (h.at_ i hlt) h.own (by decide))
  · have he : i = ls.length := by omega
    subst he
    rw [List.getD_eq_getElem?_getD, List.getD_eq_getElem?_getD, List.getElem?_append_right (by omega), List.getElem?_append_right (by omega)]
    simp only [hlen, Nat.sub_self, List.getElem?_cons_zero, Option.getD_some]
    exact hx.keep hg (own_other hx h.own (by decide))
theorem OBs.read {base : Nat} {w : World} {A : Option Addr} {n c : Nat} {vs : List Value} {ls : List (List Byte)} (h : OBs base w (.slice A n c) vs ls) (hn : ls.length = n) : RBs w w.heap.size A n vs ls := by
  subst hn
  exact ⟨Sl.own h.own, rfl, fun i hi => (h.at_ i hi).read⟩
theorem own_base {base base' : Nat} {w : World} {e : TypeId} {size n : Nat} {v : Value} {xs : List Value} (h : w.ownsRow base e size v n xs) (hb : base' ≤ base) : w.ownsRow base' e size v n xs := by
  refine ⟨h.1, ?_⟩
  rcases h.2 with h2 | ⟨g, cap, cur, hv, hg, r⟩
  · exact .inl h2
  · exact .inr ⟨g, cap, cur, hv, by omega, r⟩
theorem OBs.base {base base' : Nat} {w : World} {v : Value} {vs : List Value} {ls : List (List Byte)} (h : OBs base w v vs ls) (hb : base' ≤ base) : OBs base' w v vs ls :=
  ⟨own_base h.own hb, fun i hi => own_base (h.at_ i hi) hb⟩
theorem OBs.form {base : Nat} {w : World} {v : Value} {vs : List Value} {ls : List (List Byte)} (h : OBs base w v vs ls) : ∃ A c, v = .slice A ls.length c ∧ ls.length ≤ c ∧ c ≤ 9223372036854775807 := by
  obtain ⟨A, c, e, h1, h2, _⟩ := own_slice h.own
  exact ⟨A, c, e, h1, h2⟩
end Go.Proofs.YtlfmfhdgnmchgaaGreat

namespace Wells
/-- One bit of the sum's register. -/
def tb (s : BitVec 32) : BitVec 32 := (s >>> 1) ^^^ (if s.getLsbD 0 then 0xedb88320#32 else 0#32)
def tn : Nat → BitVec 32 → BitVec 32
  | 0, s => s
  | n + 1, s => tn n (tb s)
def by8 (s : BitVec 32) (b : BitVec 8) : BitVec 32 := tn 8 (s ^^^ b.setWidth 32)
def crcS (s : BitVec 32) (l : List (BitVec 8)) : BitVec 32 := l.foldl by8 s
def crc (l : List (BitVec 8)) : BitVec 32 := ~~~ (crcS (~~~ 0#32) l)

theorem tn_add (m : Nat) : ∀ (n : Nat) (s : BitVec 32), tn (m + n) s = tn n (tn m s) := by
  induction m with
  | zero => intro n s; rw [Nat.zero_add]; rfl
  | succ m ih => intro n s; rw [Nat.succ_add]; exact ih n (tb s)
/-- the number that bits are, the lowest first -/
def wd : List Bool → BitVec 32
  | [] => 0#32
  | b :: l => (if b then 1#32 else 0#32) ^^^ (wd l <<< 1)
/-- the four bytes of a sum, the lowest first -/
def le4 (c : BitVec 32) : List (BitVec 8) := [c.setWidth 8, (c >>> 8).setWidth 8, (c >>> 16).setWidth 8, (c >>> 24).setWidth 8]
end Wells

namespace Wells
abbrev BL := List (BitVec 8)
def pad (b : BL) : BL := b ++ List.replicate (55 - b.length) 0#8
def front (k : BitVec 8) (b : BL) : BL := [0x57#8, 0x73#8, 1#8, k] ++ pad b
def frame (k : BitVec 8) (b : BL) : BL := front k b ++ le4 (crc (front k b)) ++ [0xa5#8]
def cellL (kind : Int) (b : BL) : BL := if 1 ≤ kind ∧ kind ≤ 255 ∧ b.length ≤ 55 then frame (BitVec.ofNat 8 kind.toNat) b else []
def takeP (b : BL) : Option (BitVec 8 × BL) :=
  if b.length = 64 ∧ cellL ((b.getD 3 0).toNat) ((b.drop 4).take 55) = b then some (b.getD 3 0, (b.drop 4).take 55) else none
theorem pad_len {b : BL} (h : b.length ≤ 55) : (pad b).length = 55 := by unfold pad; simp; omega
theorem le4_len (c : BitVec 32) : (le4 c).length = 4 := rfl
theorem front_len {k : BitVec 8} {b : BL} (h : b.length ≤ 55) : (front k b).length = 59 := by unfold front; rw [List.length_append, pad_len h]; rfl
theorem frame_len {k : BitVec 8} {b : BL} (h : b.length ≤ 55) : (frame k b).length = 64 := by unfold frame; rw [List.length_append, List.length_append, front_len h, le4_len]; rfl
theorem cellL_yes {kind : Int} {b : BL} (h : 1 ≤ kind ∧ kind ≤ 255 ∧ b.length ≤ 55) : cellL kind b = frame (BitVec.ofNat 8 kind.toNat) b := if_pos h
theorem cellL_no {kind : Int} {b : BL} (h : ¬ (1 ≤ kind ∧ kind ≤ 255 ∧ b.length ≤ 55)) : cellL kind b = [] := if_neg h
theorem cellL_len (kind : Int) (b : BL) : (cellL kind b).length = if 1 ≤ kind ∧ kind ≤ 255 ∧ b.length ≤ 55 then 64 else 0 := by
  unfold cellL; split
  · exact frame_len (by omega)
  · rfl
theorem ofNat_toNat8 (k : BitVec 8) : BitVec.ofNat 8 ((k.toNat : Int)).toNat = k := by simp
theorem take_some {b : BL} {k : BitVec 8} {x : BL} (h : takeP b = some (k, x)) : k ≠ 0#8 ∧ x.length = 55 ∧ b = frame k x := by
  unfold takeP at h
  split at h
  · rename_i hc
    injection h with h
    injection h with h1 h2
    obtain ⟨hl, he⟩ := hc
    rw [h1, h2] at he
    have hx : x.length = 55 := by rw [← h2]; simp [hl]
    by_cases hk : 1 ≤ (k.toNat : Int) ∧ (k.toNat : Int) ≤ 255 ∧ x.length ≤ 55
    · rw [cellL_yes hk, ofNat_toNat8] at he
      exact ⟨by rintro rfl; simp at hk, hx, he.symm⟩
    · rw [cellL_no hk] at he
      rw [← he] at hl
      simp at hl
  · cases h
end Wells

namespace Wells
open Go Go.RowKit
def iv (z : Int) : Value := .int .i64 z
end Wells
namespace Go.Proofs.YtlfmfhdgnmchgaaGreat
open Go.RowKit Wells
theorem ints_get (l : List Int) (k : Nat) (h : k < l.length) : (l.map iv)[k]? = some (.int .i64 (l.getD k 0)) := by
  rw [List.getElem?_map, List.getElem?_eq_getElem h]; simp [h, iv]
end Go.Proofs.YtlfmfhdgnmchgaaGreat

