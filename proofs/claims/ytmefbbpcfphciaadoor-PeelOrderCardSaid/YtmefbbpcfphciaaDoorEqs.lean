/- Rows of equations in memory: to be read, and of the call's own. -/
import Derived.Test.YtmefbbpcfphciaaDoorIv
import Derived.Test.YtmefbbpcfphciaaDoorPeelMath
namespace Go.Proofs.YtmefbbpcfphciaaDoor
open Go.RowKit Wells
theorem infoEq : (Tryd.prog.info? 27).map (fun i => (i.zero, i.size, i.bytes)) = some (some (.agg #[.slice none 0 0, .slice none 0 0]), 2, 48) := by kernel_rfl
theorem infoBool : (Tryd.prog.info? 4).map (fun i => (i.zero, i.size, i.bytes)) = some (some (.bool false), 1, 1) := by kernel_rfl
/-- a value is numbers that can be read -/
def RI (w : World) (B : Nat) (v : Value) (l : List Int) : Prop := ∃ A c, v = .slice A l.length c ∧ l.length ≤ c ∧ c ≤ 9223372036854775807 ∧ Sl w B 1 A l.length (l.map iv)
theorem RI.keep {w w' : World} {B : Nat} {v : Value} {l : List Int} (h : RI w B v l) (hb : Below B w w') : RI w' B v l := by
  obtain ⟨A, c, e, h1, h2, h3⟩ := h
  exact ⟨A, c, e, h1, h2, h3.below hb⟩
theorem RI.mono {w : World} {B B' : Nat} {v : Value} {l : List Int} (h : RI w B v l) (hb : B ≤ B') : RI w B' v l := by
  obtain ⟨A, c, e, h1, h2, h3⟩ := h
  exact ⟨A, c, e, h1, h2, h3.mono hb⟩
/-- a value is numbers of the call's own -/
def OI (base : Nat) (w : World) (v : Value) (l : List Int) : Prop := w.ownsRow base 3 1 v l.length (l.map iv)
theorem OI.read {base : Nat} {w : World} {v : Value} {l : List Int} (h : OI base w v l) : RI w w.heap.size v l := own_slice h
theorem OI.below {base : Nat} {w w' : World} {v : Value} {l : List Int} (h : OI base w v l) (hb : Below w.heap.size w w') : OI base w' v l :=
  h.kept (grown_of_below hb none) (by cases v.ownBlock <;> simp)
/-- the cells of rows -/
def eqC (ps : List (Value × Value)) : List Value := ps.flatMap fun p => [p.1, p.2]
theorem eqC_len : ∀ ps : List (Value × Value), (eqC ps).length = ps.length * 2
  | [] => rfl
  | p :: ps => by unfold eqC; rw [List.flatMap_cons, List.length_append]; have := eqC_len ps; unfold eqC at this; rw [this]; simp; omega
theorem eqC_app (a b : List (Value × Value)) : eqC (a ++ b) = eqC a ++ eqC b := by unfold eqC; rw [List.flatMap_append]
theorem eqC_get : ∀ (ps : List (Value × Value)) (k : Nat), k < ps.length → (eqC ps)[k * 2]? = some (ps.getD k (undef, undef)).1 ∧ (eqC ps)[k * 2 + 1]? = some (ps.getD k (undef, undef)).2
  | [], k, h => absurd h (by simp)
  | p :: ps, 0, _ => ⟨rfl, rfl⟩
  | p :: ps, k + 1, h => by
    have := eqC_get ps k (by simpa using h)
    unfold eqC at this ⊢
    rw [List.flatMap_cons, show (k + 1) * 2 = k * 2 + 2 by omega, show k * 2 + 2 + 1 = (k * 2 + 1) + 2 by omega]
    exact ⟨by rw [List.getElem?_append_right (by simp)]; simpa using this.1, by rw [List.getElem?_append_right (by simp)]; simpa using this.2⟩
/-- a row's two values, to be read -/
def EqV (w : World) (B : Nat) (p : Value × Value) (q : Eqn) : Prop := RI w B p.1 q.cols ∧ RB w B p.2 q.data
/-- rows that can be read -/
structure REqs (w : World) (B : Nat) (A : Option Addr) (n : Nat) (ps : List (Value × Value)) (rows : List Eqn) : Prop where
  sl : Sl w B 2 A n (eqC ps)
  pl : ps.length = n
  len : rows.length = n
  at_ : ∀ i, i < n → EqV w B (ps.getD i (undef, undef)) (rows.getD i default)
section
variable {w w' : World} {B B' n : Nat} {A : Option Addr} {ps : List (Value × Value)} {rows : List Eqn}
theorem EqV.keep {p : Value × Value} {q : Eqn} (h : EqV w B p q) (hb : Below B w w') : EqV w' B p q := ⟨h.1.keep hb, h.2.keep hb⟩
theorem EqV.mono {p : Value × Value} {q : Eqn} (h : EqV w B p q) (hb : B ≤ B') : EqV w B' p q := ⟨h.1.mono hb, h.2.mono hb⟩
theorem REqs.below (h : REqs w B A n ps rows) (hb : Below B w w') : REqs w' B A n ps rows := ⟨h.sl.below hb, h.pl, h.len, fun i hi => (h.at_ i hi).keep hb⟩
theorem REqs.mono (h : REqs w B A n ps rows) (hb : B ≤ B') : REqs w B' A n ps rows := ⟨h.sl.mono hb, h.pl, h.len, fun i hi => (h.at_ i hi).mono hb⟩
theorem REqs.nil_ : REqs w B A 0 [] [] := ⟨⟨rfl, fun h => absurd h (by omega)⟩, rfl, rfl, fun i hi => absurd hi (by omega)⟩
/-- row k: its cells, and what they are -/
theorem REqs.get (h : REqs w B A n ps rows) {k : Nat} (hk : k < n) :
    ∃ b o A1 c1 A2 c2, A = some ⟨b, o, none⟩ ∧ b < B ∧ w.cell? ⟨b, o + k * 2, none⟩ = some (.slice A1 (rows.getD k default).cols.length c1) ∧ w.cell? ⟨b, o + k * 2 + 1, none⟩ = some (.slice A2 (rows.getD k default).data.length c2) ∧
      (rows.getD k default).cols.length ≤ c1 ∧ c1 ≤ 9223372036854775807 ∧ Sl w B 1 A1 (rows.getD k default).cols.length ((rows.getD k default).cols.map iv) ∧
      (rows.getD k default).data.length ≤ c2 ∧ c2 ≤ 9223372036854775807 ∧ Sl w B 1 A2 (rows.getD k default).data.length ((rows.getD k default).data.map bv8) := by
  obtain ⟨b, o, hA, hb, hc⟩ := h.sl.at_ (by omega)
  obtain ⟨g1, g2⟩ := eqC_get ps k (by rw [h.pl]; exact hk)
  obtain ⟨⟨A1, c1, e1, h1, h2, h3⟩, A2, c2, e2, h4, h5, h6⟩ := h.at_ k hk
  exact ⟨b, o, A1, c1, A2, c2, hA, hb, by rw [← e1]; exact hc _ _ g1, by rw [← e2, Nat.add_assoc]; exact hc _ _ g2, h1, h2, h3, h4, h5, h6⟩
end
/-- numbers below the base, or of the call's own -/
def KI (base : Nat) (w : World) (v : Value) (l : List Int) : Prop := RI w base v l ∨ OI base w v l
def KB (base : Nat) (w : World) (v : Value) (l : List Byte) : Prop := RB w base v l ∨ OB base w v l
/-- rows of the call's own -/
structure OEqs (base : Nat) (w : World) (v : Value) (ps : List (Value × Value)) (rows : List Eqn) : Prop where
  own : w.ownsRow base 27 2 v rows.length (eqC ps)
  pl : ps.length = rows.length
  at_ : ∀ i, i < rows.length → KI base w (ps.getD i (undef, undef)).1 (rows.getD i default).cols ∧ KB base w (ps.getD i (undef, undef)).2 (rows.getD i default).data
section
variable {base : Nat} {w w' : World} {v v' : Value} {ps : List (Value × Value)} {rows : List Eqn} {l : List Int} {s : List Byte}
theorem KI.below (h : KI base w v l) (hb : Below w.heap.size w w') (hs : base ≤ w.heap.size) : KI base w' v l := h.elim (fun h => .inl (h.keep (hb.mono hs))) (fun h => .inr (h.below hb))
theorem KB.below (h : KB base w v s) (hb : Below w.heap.size w w') (hs : base ≤ w.heap.size) : KB base w' v s := h.elim (fun h => .inl (h.keep (hb.mono hs))) (fun h => .inr (h.below hb))
theorem KI.read (h : KI base w v l) (hs : base ≤ w.heap.size) : RI w w.heap.size v l := h.elim (fun h => h.mono hs) (fun h => h.read)
theorem KB.read (h : KB base w v s) (hs : base ≤ w.heap.size) : RB w w.heap.size v s := h.elim (fun h => h.mono hs) (fun h => h.read)
/-- what is written: one block from the base on, of another type -/
theorem KI.grown {row : Option Nat} (h : KI base w v l) (hg : w.grownBy w' row) (hr : ∀ k, row = some k → base ≤ k) (hs : base ≤ w.heap.size) (hne : ∀ h : OI base w v l, v.ownBlock = none ∨ v.ownBlock ≠ row) : KI base w' v l :=
  h.elim (fun h => .inl (h.keep ((Below.refl _ _).grown hg hs hr))) (fun h => .inr (World.ownsRow.kept h hg (hne h)))
theorem KB.grown {row : Option Nat} (h : KB base w v s) (hg : w.grownBy w' row) (hr : ∀ k, row = some k → base ≤ k) (hs : base ≤ w.heap.size) (hne : ∀ h : OB base w v s, v.ownBlock = none ∨ v.ownBlock ≠ row) : KB base w' v s :=
  h.elim (fun h => .inl (h.keep ((Below.refl _ _).grown hg hs hr))) (fun h => .inr (World.ownsRow.kept h hg (hne h)))
theorem OEqs.nil_ (base : Nat) (w : World) : OEqs base w (.slice none 0 0) [] [] := ⟨World.ownsRow_nil _ _ _ _, rfl, fun i hi => absurd hi (by simp)⟩
theorem OEqs.below (h : OEqs base w v ps rows) (hb : Below w.heap.size w w') (hs : base ≤ w.heap.size) : OEqs base w' v ps rows :=
  ⟨h.own.kept (grown_of_below hb none) (by cases v.ownBlock <;> simp), h.pl, fun i hi => ⟨(h.at_ i hi).1.below hb hs, (h.at_ i hi).2.below hb hs⟩⟩
theorem OEqs.form (h : OEqs base w v ps rows) : ∃ A c, v = .slice A rows.length c ∧ rows.length ≤ c ∧ c ≤ 9223372036854775807 := by
  obtain ⟨A, c, e, h1, h2, _⟩ := own_slice h.own
  exact ⟨A, c, e, h1, h2⟩
theorem OEqs.read {A : Option Addr} {n c : Nat} (h : OEqs base w (.slice A n c) ps rows) (hn : rows.length = n) (hs : base ≤ w.heap.size) : REqs w w.heap.size A n ps rows := by
  subst hn
  exact ⟨Sl.own h.own, h.pl, rfl, fun i hi => ⟨(h.at_ i hi).1.read hs, (h.at_ i hi).2.read hs⟩⟩
/-- the rows, more behind them -/
theorem OEqs.app {ps2 : List (Value × Value)} {rows2 : List Eqn} (h : OEqs base w v ps rows) (hl2 : ps2.length = rows2.length) (h2 : ∀ i, i < rows2.length → KI base w (ps2.getD i (undef, undef)).1 (rows2.getD i default).cols ∧ KB base w (ps2.getD i (undef, undef)).2 (rows2.getD i default).data)
    (ho : w'.ownsRow base 27 2 v' (rows.length + rows2.length) (eqC ps ++ eqC ps2)) (hg : w.grownBy w' v.ownBlock) (hs : base ≤ w.heap.size) : OEqs base w' v' (ps ++ ps2) (rows ++ rows2) := by
  have key : ∀ (v0 : Value) (l : List Int), KI base w v0 l → KI base w' v0 l := fun v0 l hk => hk.grown hg (fun k e => (h.own.lt k e).1) hs (fun h0 => own_other h0 h.own (by decide))
  have key2 : ∀ (v0 : Value) (l : List Byte), KB base w v0 l → KB base w' v0 l := fun v0 l hk => hk.grown hg (fun k e => (h.own.lt k e).1) hs (fun h0 => own_other h0 h.own (by decide))
  refine ⟨by rw [eqC_app, List.length_append]; exact ho, by simp [h.pl, hl2], fun i hi => ?_⟩
  simp only [List.length_append] at hi
  simp only [List.getD_eq_getElem?_getD]
  by_cases hlt : i < rows.length
  · rw [List.getElem?_append_left (by rw [h.pl]; exact hlt), List.getElem?_append_left hlt]
    simp only [← List.getD_eq_getElem?_getD]
    exact ⟨key _ _ (h.at_ i hlt).1, key2 _ _ (h.at_ i hlt).2⟩
  · rw [List.getElem?_append_right (by rw [h.pl]; omega), List.getElem?_append_right (by omega), h.pl]
    simp only [← List.getD_eq_getElem?_getD]
    exact ⟨key _ _ (h2 _ (by omega)).1, key2 _ _ (h2 _ (by omega)).2⟩
/-- what other rows' blocks are written to -/
theorem OEqs.other {g : Nat} {t : TypeId} {cs : List Value} (h : OEqs base w v ps rows) (hg : w.grownBy w' (some g)) (hr : Row w g t cs) (hb : base ≤ g) (hs : base ≤ w.heap.size) (h1 : 27 ≠ t) (h2 : 3 ≠ t) (h3 : 5 ≠ t) : OEqs base w' v ps rows :=
  ⟨h.own.kept hg (own_ne h.own hr h1), h.pl, fun i hi => ⟨(h.at_ i hi).1.grown hg (fun k e => by injection e with e; omega) hs (fun h0 => own_ne h0 hr h2), (h.at_ i hi).2.grown hg (fun k e => by injection e with e; omega) hs (fun h0 => own_ne h0 hr h3)⟩⟩
end
end Go.Proofs.YtmefbbpcfphciaaDoor
