/- OpMake Scope2 ST -/
import Derived.Great.BuildSlice
import Derived.ScopeJumps
import Derived.WalkMore
import Derived.Test.YtlfmfhdgnmchgaaGreatBRoomMade00
import Derived.Test.YtlfmfhdgnmchgaaGreatBRoomMade03
import Derived.Test.YtlfmfhdgnmchgaaGreatBRoomMade09
import Derived.Test.YtlfmfhdgnmchgaaGreatBRoomMade10
set_option maxRecDepth 20000
set_option linter.unusedSimpArgs false
set_option linter.unusedVariables false
set_option linter.unusedSectionVars false
namespace Wells
open Go Go.RowKit
end Wells
namespace Wells
open Go Go.RowKit
/-- '[]T{x}', as one operation of a region: elements of one cell -/
theorem op_build1 {P : Program} {w : World} {o : Oper} {a : Act} {K : Act → World → Prop} {Q : Exit → Act → World → Prop} (t e : TypeId) (x : Operand) (ho : o.op = .buildSlice t 1 #[(0, x)]) (v : Value) (hx : a.eval x = v) (hv : v.cells = #[v])
    (ie : TypeInfo) (z : Value) (hu : P.underlying t = some (.slice e)) (hie : P.info? e = some ie) (hz : ie.zero = some z) (hs : ie.size = 1) (hzc : z.cells = #[z])
    (h : ∀ w' g, w.heap.size = g → Row w' g e [v] → Below g w w' → w'.heap.size = g + 1 → K (a.put o.dst (.slice (some ⟨g, 0, none⟩) 1 1)) w') : Oper.wp P o a w K Q := by
  refine wp_buildSlice t e 1 _ ho #[v] ie z hu hie hz (by rw [hs]; omega) (by rw [hs]; omega) ?_ ?_
  · rw [hs, hzc]
    simp [hx, Instr.fill, hv]
    apply Array.ext'
    simp [Array.toList_range, List.range_succ]
  · exact h _ _ rfl (Row.new w e #[v]) ((Below.refl _ _).alloc (Nat.le_refl _) _) (by simp)
end Wells
namespace Wells
open Go Go.RowKit
/-- a new variable, as one operation of a region -/
theorem op_alloc {P : Program} {w : World} {o : Oper} {a : Act} {K : Act → World → Prop} {Q : Exit → Act → World → Prop} (t : TypeId) (ho : o.op = .alloc t) (i : TypeInfo) (z : Value) (hi : P.info? t = some i) (hz : i.zero = some z)
    (h : ∀ w' g, w.heap.size = g → Row w' g t z.cells.toList → Below g w w' → w'.heap.size = g + 1 → K (a.put o.dst (.pointer (some ⟨g, 0, none⟩))) w') : Oper.wp P o a w K Q := by
  have key : (Instr.alloc t true (.tuple #[])).run P w = .ok (.pointer (some ⟨w.heap.size, 0, none⟩)) (w.alloc (.cells z.cells t)) := by
    simp [Instr.alloc, zeroValue, typeInfo, hi, hz, newVar, newRow]
  unfold Oper.wp execOp
  simp only [ho, Sem.run_bind, key, Result.andThen_ok]
  exact h _ _ rfl (by simpa using Row.new w t z.cells) ((Below.refl _ _).alloc (Nat.le_refl _) _) (by simp)
end Wells
namespace Wells
open Go Go.RowKit
/-- '[]T{x, y, z}', elements of one cell: the world as it comes to be -/
theorem op_build3 {P : Program} {w : World} {o : Oper} {a : Act} {K : Act → World → Prop} {Q : Exit → Act → World → Prop} (t e : TypeId) (x y z : Operand) (ho : o.op = .buildSlice t 3 #[(0, x), (1, y), (2, z)]) (v1 v2 v3 : Value) (hx : a.eval x = v1) (hy : a.eval y = v2) (hz' : a.eval z = v3)
    (c1 : v1.cells = #[v1]) (c2 : v2.cells = #[v2]) (c3 : v3.cells = #[v3])
    (ie : TypeInfo) (z0 : Value) (hu : P.underlying t = some (.slice e)) (hie : P.info? e = some ie) (hz : ie.zero = some z0) (hs : ie.size = 1) (hzc : z0.cells = #[z0])
    (h : K (a.put o.dst (.slice (some ⟨w.heap.size, 0, none⟩) 3 3)) (w.alloc (.cells #[v1, v2, v3] e))) : Oper.wp P o a w K Q := by
  refine wp_buildSlice t e 3 _ ho #[v1, v2, v3] ie z0 hu hie hz (by rw [hs]; omega) (by rw [hs]; omega) ?_ h
  rw [hs, hzc]
  simp [hx, hy, hz', Instr.fill, c1, c2, c3]
  apply Array.ext'
  simp [Array.toList_range, List.range_succ]
end Wells
namespace Wells
open Go Go.RowKit
/-- '[]T{x}', an element of eight cells -/
theorem op_build8 {P : Program} {w : World} {o : Oper} {a : Act} {K : Act → World → Prop} {Q : Exit → Act → World → Prop} (t e : TypeId) (x : Operand) (ho : o.op = .buildSlice t 1 #[(0, x)]) (v0 v1 v2 v3 v4 v5 v6 v7 : Value) (hx : a.eval x = .agg #[v0, v1, v2, v3, v4, v5, v6, v7])
    (ie : TypeInfo) (z0 z1 z2 z3 z4 z5 z6 z7 : Value) (hu : P.underlying t = some (.slice e)) (hie : P.info? e = some ie) (hz : ie.zero = some (.agg #[z0, z1, z2, z3, z4, z5, z6, z7])) (hs : ie.size = 8)
    (h : ∀ w' g, w.heap.size = g → Row w' g e [v0, v1, v2, v3, v4, v5, v6, v7] → Below g w w' → w'.heap.size = g + 1 → K (a.put o.dst (.slice (some ⟨g, 0, none⟩) 1 1)) w') : Oper.wp P o a w K Q := by
  refine wp_buildSlice t e 1 _ ho #[v0, v1, v2, v3, v4, v5, v6, v7] ie _ hu hie hz (by rw [hs]; omega) (by rw [hs]; omega) ?_ ?_
  · rw [hs]
    simp [hx, Instr.fill, Value.cells]
    apply Array.ext'
    simp [Array.toList_range, List.range_succ]
  · exact h _ _ rfl (Row.new w e #[v0, v1, v2, v3, v4, v5, v6, v7]) ((Below.refl _ _).alloc (Nat.le_refl _) _) (by simp)
end Wells

namespace Wells
open Go Go.RowKit
/-- as Q; by a goto to l1: J1, to l2: J2 -/
def jump2 (l1 l2 : Nat) (J1 J2 : Act → World → Prop) (Q : Exit → Act → World → Prop) : Exit → Act → World → Prop
  | .goto l', a, w => (l' = l1 ∧ J1 a w) ∨ (l' = l2 ∧ J2 a w)
  | e, a, w => Q e a w
theorem jump2_mono {l1 l2 : Nat} {J1 J1' J2 : Act → World → Prop} {Q : Exit → Act → World → Prop} (h : ∀ a w, J1 a w → J1' a w) : ∀ e a w, jump2 l1 l2 J1 J2 Q e a w → jump2 l1 l2 J1' J2 Q e a w := fun e a w hj => by
  cases e <;> first | exact hj | exact hj.elim (fun x => .inl ⟨x.1, h _ _ x.2⟩) .inr
section
variable {P : Program} {a : Act} {w : World} {Q : Exit → Act → World → Prop}
theorem wp_scope_two {c X Y : Code} (l1 l2 : Nat) (J1 J2 : Act → World → Prop) (μ : Act → World → Nat) (hf1 : findLabel c l1 = some (Code.skip.seq X)) (hf2 : findLabel c l2 = some (Code.skip.seq Y))
    (first : (∀ a w, J1 a w → X.wp P (jump2 l1 l2 J1 J2 Q) a w) → c.wp P (jump2 l1 l2 J1 J2 Q) a w)
    (pass1 : ∀ a w, J1 a w → X.wp P (jump2 l1 l2 (fun a' w' => J1 a' w' ∧ μ a' w' < μ a w) J2 Q) a w)
    (pass2 : ∀ a w, J2 a w → Y.wp P (jump2 l1 l2 (fun _ _ => False) (fun _ _ => False) Q) a w) : (Code.scope c).wp P Q a w := by
  have first' := first fun a w h => wp_mono (pass1 a w h) fun e a' w' => jump2_mono (fun _ _ h => h.1) e a' w'
  clear first
  have p1 : ∀ a w, J1 a w → (Code.skip.seq X).wp P (jump2 l1 l2 (fun a' w' => J1 a' w' ∧ μ a' w' < μ a w) J2 Q) a w := fun a w h => wp_seq (wp_skip (pass1 a w h))
  have p2 : ∀ a w, J2 a w → (Code.skip.seq Y).wp P (jump2 l1 l2 (fun _ _ => False) (fun _ _ => False) Q) a w := fun a w h => wp_seq (wp_skip (pass2 a w h))
  intro b k cs
  have hg1 : gotoIn l1 (.inScope c :: k) = some (.code (Code.skip.seq X) :: .inScope c :: k) := by simp [gotoIn, hf1]
  have hg2 : gotoIn l2 (.inScope c :: k) = some (.code (Code.skip.seq Y) :: .inScope c :: k) := by simp [gotoIn, hf2]
  have key2 : ∀ a w, J2 a w → ∃ e a' w', Q e a' w' ∧ Arrives P (lone (b.at a (.code (Code.skip.seq Y) :: .inScope c :: k)) cs w) b k cs e a' w' := by
    intro a w hJ
    obtain ⟨e, a₁, w₁, hq, harr⟩ := p2 a w hJ b (.inScope c :: k) cs
    cases e with
    | normal => exact ⟨.normal, a₁, w₁, hq, Steps.trans harr (.one step_inScope)⟩
    | exit id => exact ⟨.exit id, a₁, w₁, hq, fun k' hk => harr k' (by simp [exitTo, hk])⟩
    | goto l' => rcases hq with ⟨_, h⟩ | ⟨_, h⟩ <;> exact h.elim
    | ret => exact ⟨_, a₁, w₁, hq, harr⟩
    | panic ch => exact ⟨_, a₁, w₁, hq, harr⟩
    | outgrown => exact ⟨_, a₁, w₁, hq, harr⟩
  have key : ∀ n a w, μ a w = n → J1 a w → ∃ e a' w', Q e a' w' ∧ Arrives P (lone (b.at a (.code (Code.skip.seq X) :: .inScope c :: k)) cs w) b k cs e a' w' := by
    intro n
    induction n using Nat.strongRecOn with
    | _ n ih =>
      intro a w hn hJ
      obtain ⟨e, a₁, w₁, hq, harr⟩ := p1 a w hJ b (.inScope c :: k) cs
      cases e with
      | normal => exact ⟨.normal, a₁, w₁, hq, Steps.trans harr (.one step_inScope)⟩
      | exit id => exact ⟨.exit id, a₁, w₁, hq, fun k' hk => harr k' (by simp [exitTo, hk])⟩
      | goto l' =>
        rcases hq with ⟨rfl, hJ', hlt⟩ | ⟨rfl, hJ'⟩
        · obtain ⟨e₂, a₂, w₂, hq₂, harr₂⟩ := ih _ (by omega) a₁ w₁ rfl hJ'
          exact ⟨e₂, a₂, w₂, hq₂, .of_steps (harr _ hg1) harr₂⟩
        · obtain ⟨e₂, a₂, w₂, hq₂, harr₂⟩ := key2 a₁ w₁ hJ'
          exact ⟨e₂, a₂, w₂, hq₂, .of_steps (harr _ hg2) harr₂⟩
      | ret => exact ⟨_, a₁, w₁, hq, harr⟩
      | panic ch => exact ⟨_, a₁, w₁, hq, harr⟩
      | outgrown => exact ⟨_, a₁, w₁, hq, harr⟩
  obtain ⟨e, a₁, w₁, hq, harr⟩ := first' b (.inScope c :: k) cs
  cases e with
  | normal => exact ⟨.normal, a₁, w₁, hq, .head step_scope (Steps.trans harr (.one step_inScope))⟩
  | exit id => exact ⟨.exit id, a₁, w₁, hq, fun k' hk => .head step_scope (harr k' (by simp [exitTo, hk]))⟩
  | goto l' =>
    rcases hq with ⟨rfl, hJ'⟩ | ⟨rfl, hJ'⟩
    · obtain ⟨e₂, a₂, w₂, hq₂, harr₂⟩ := key _ a₁ w₁ rfl hJ'
      exact ⟨e₂, a₂, w₂, hq₂, .of_steps (.head step_scope (harr _ hg1)) harr₂⟩
    · obtain ⟨e₂, a₂, w₂, hq₂, harr₂⟩ := key2 a₁ w₁ hJ'
      exact ⟨e₂, a₂, w₂, hq₂, .of_steps (.head step_scope (harr _ hg2)) harr₂⟩
  | ret => exact ⟨_, a₁, w₁, hq, .of_steps (.one step_scope) harr⟩
  | panic ch => exact ⟨_, a₁, w₁, hq, .of_steps (.one step_scope) harr⟩
  | outgrown => exact ⟨_, a₁, w₁, hq, .of_steps (.one step_scope) harr⟩
end
end Wells

namespace Go.Proofs.YtlfmfhdgnmchgaaGreat
open Go.RowKit Wells
/-- what stands while a manifest is made: the result's cell, the manifest's, its two lists -/
structure ST (w wx : World) (g0 gm : Nat) (sq nx : Int) (P : Par) (ex : Int) (Ad : Option Addr) (nd cd : Nat) (ds : List Int) (Ao : Option Addr) (no co : Nat) (ts : List Value) (es : List Ent) : Prop where
  q : Row wx g0 27 [.int .i64 0, .int .i64 0, .int .i64 0, .int .i64 0, .int .i64 0, .int .i64 0, .slice none 0 0, .slice none 0 0]
  x : Row wx gm 27 [.int .i64 sq, .int .i64 nx, .int .i64 P.K, .int .i64 P.H, .int .i64 P.S, .int .i64 ex, .slice Ad nd cd, .slice Ao no co]
  d : wx.ownsRow w.heap.size 3 1 (.slice Ad nd cd) nd (ds.map iv)
  o : OEs w.heap.size wx (.slice Ao no co) ts es
  ol : es.length = no
  be : Below w.heap.size w wx
section
variable {w wx wy : World} {g0 gm : Nat} {sq nx : Int} {P : Par} {ex : Int} {Ad : Option Addr} {nd cd : Nat} {ds : List Int} {Ao : Option Addr} {no co : Nat} {ts : List Value} {es : List Ent}
theorem ST.below (h : ST w wx g0 gm sq nx P ex Ad nd cd ds Ao no co ts es) (hb : Below wx.heap.size wx wy) : ST w wy g0 gm sq nx P ex Ad nd cd ds Ao no co ts es :=
  ⟨h.q.below hb h.q.lt, h.x.below hb h.x.lt, h.d.kept (grown_of_below hb none) (by cases (Value.slice Ad nd cd).ownBlock <;> simp), h.o.below hb, h.ol, h.be.trans (hb.mono h.be.size)⟩
theorem ST.alloc (h : ST w wx g0 gm sq nx P ex Ad nd cd ds Ao no co ts es) (o : Obj) : ST w (wx.alloc o) g0 gm sq nx P ex Ad nd cd ds Ao no co ts es := h.below ((Below.refl _ _).alloc (Nat.le_refl _) o)
theorem ST.drewN (h : ST w wx g0 gm sq nx P ex Ad nd cd ds Ao no co ts es) (n : Nat) : ST w (wx.drewN n) g0 gm sq nx P ex Ad nd cd ds Ao no co ts es := h.below (below_drewN (Below.refl _ _) n)
theorem ST.drew_ (h : ST w wx g0 gm sq nx P ex Ad nd cd ds Ao no co ts es) : ST w wx.drew g0 gm sq nx P ex Ad nd cd ds Ao no co ts es := h.drewN 1
end
theorem own_newR {w0 w : World} (hb : Below w0.heap.size w0 w) (N : Nat) (hN : w.heap.size = N) (cs : List Value) (t : TypeId) (size n : Nat) (hl : cs.length = n * size) (hn : n ≤ maxLen) : (w.alloc (.cells cs.toArray t)).ownsRow w0.heap.size t size (.slice (some ⟨N, 0, none⟩) n n) n cs := by
  subst hN
  exact ⟨hl, .inr ⟨w.heap.size, n, cs.toArray, rfl, hb.size, heap_alloc_new w _, Nat.le_refl _, hn, by simpa using hl, by rw [← hl]; simp⟩⟩
theorem tdiv_bd26 {x : Int} (h : -9223372036854775808 ≤ x ∧ x ≤ 9223372036854775807) : -9223372036854775808 ≤ x.tdiv 26 ∧ x.tdiv 26 ≤ 9223372036854775807 := by
  have e := Int.tdiv_eq_ediv (a := x) (b := 26)
  have e1 : Int.sign 26 = 1 := rfl
  rw [e1] at e
  rw [e]
  split <;> omega
theorem tdiv_bd78 {x : Int} (h : -9223372036854775808 ≤ x ∧ x ≤ 9223372036854775807) : -9223372036854775808 ≤ x.tdiv 78 ∧ x.tdiv 78 ≤ 9223372036854775807 := by
  have e := Int.tdiv_eq_ediv (a := x) (b := 78)
  have e1 : Int.sign 78 = 1 := rfl
  rw [e1] at e
  rw [e]
  split <;> omega
theorem shr_bd {x : Int} (h : -9223372036854775808 ≤ x ∧ x ≤ 9223372036854775807) (k : Nat) : -9223372036854775808 ≤ x / 2 ^ k ∧ x / 2 ^ k ≤ 9223372036854775807 := by
  have hd : (0 : Int) < 2 ^ k := Int.pow_pos (by omega)
  obtain ⟨d, hdd⟩ : ∃ d : Int, 2 ^ k = d := ⟨_, rfl⟩
  rw [hdd] at hd ⊢
  by_cases hx : 0 ≤ x
  · have h1 := Int.ediv_nonneg hx (show (0 : Int) ≤ d by omega)
    have h2 := Int.ediv_le_self d hx
    omega
  · have h1 : x ≤ x / d := (Int.le_ediv_iff_mul_le hd).2 (by
      have := Int.mul_le_mul_of_nonpos_left (show (x : Int) ≤ 0 by omega) (show (1 : Int) ≤ d by omega)
      rw [Int.mul_one] at this
      exact this)
    have h2 := Int.ediv_neg_of_neg_of_pos (show x < 0 by omega) hd
    omega
theorem _root_.Wells.Row.ownx {w w1 : World} {base g size n : Nat} {t e : TypeId} {cs xs : List Value} {v : Value} (h : Row w g t cs) (hv : w.ownsRow base e size v n xs) (hg : w.grownBy w1 v.ownBlock) (hne : e ≠ t) : Row w1 g t cs := by
  refine h.grown hg ?_
  rcases own_ne hv h hne with e1 | e1
  · rw [e1]; intro e2; cases e2
  · exact fun e2 => e1 e2.symm
theorem row_set_grown (w : World) (g j : Nat) (u : Value) : w.grownBy (w.setCell ⟨g, j, none⟩ u) (some g) := grown_set (World.grownBy.refl w _) (.inl rfl) j u
theorem ST.setD {w wx wy : World} {g0 gm : Nat} {sq nx : Int} {P : Par} {ex : Int} {Ad Ad' : Option Addr} {nd cd nd' cd' : Nat} {ds ds' : List Int} {Ao : Option Addr} {no co : Nat} {ts : List Value} {es : List Ent}
    (h : ST w wx g0 gm sq nx P ex Ad nd cd ds Ao no co ts es) (he : OEs w.heap.size wy (.slice Ao no co) ts es) (hg : wx.grownBy wy (Value.slice Ad nd cd).ownBlock) (ho : wy.ownsRow w.heap.size 3 1 (.slice Ad' nd' cd') nd' (ds'.map iv)) (hne : gm ≠ g0) (hgm : w.heap.size ≤ gm) :
    ST w (wy.setCell ⟨gm, 6, none⟩ (.slice Ad' nd' cd')) g0 gm sq nx P ex Ad' nd' cd' ds' Ao no co ts es := by
  have hx := h.x.ownx h.d hg (by decide)
  have hq := h.q.ownx h.d hg (by decide)
  exact ⟨hq.far (p := ⟨gm, 6, none⟩) hne.symm _, hx.set 6 _, ho.far_ hx (by decide) 6 _, he.other (row_set_grown _ _ _ _) hx (by decide) (by decide), h.ol, (below_own h.be h.d hg (Nat.le_refl _) h.be.size).setCell (p := (⟨gm, 6, none⟩ : Addr)) hgm _⟩
theorem Sl.fresh4m (w : World) (cs : List Value) (t : TypeId) (hm : cs.length = 4) : Sl (w.alloc (.cells cs.toArray t (0, 0))) (w.heap.size + 1) 4 (some ⟨w.heap.size, 0, none⟩) 1 cs :=
  ⟨by omega, fun _ => ⟨_, 0, rfl, by omega, fun j u hu => by
    rw [Nat.zero_add, cell_of_row _ _ j cs.toArray t (0, 0) (heap_alloc_new w _)]
    simpa using hu⟩⟩
theorem ST.pushO {w wx wy : World} {B2 g0 gm : Nat} {sq nx : Int} {P : Par} {ex : Int} {Ad : Option Addr} {nd cd : Nat} {ds : List Int} {Ao A8 : Option Addr} {no co c8 : Nat} {ts : List Value} {es : List Ent} {cs : Array Value} {t : TypeId}
    {nm : List Byte} {ob ln : Int} {trs : List Int} {At : Option Addr} {j ct : Nat}
    (h : ST w wx g0 gm sq nx P ex Ad nd cd ds Ao no co ts es) (hot : wx.ownsRow B2 3 1 (.slice At j ct) j (trs.map iv)) (hB : w.heap.size ≤ B2)
    (o8 : wy.ownsRow w.heap.size 69 4 (.slice A8 (no + 1) c8) (no + 1) (entsC es ts ++ [.string (strB nm), .int .i64 ob, .int .i64 ln, .slice At j ct])) (g8 : (wx.alloc (.cells cs t)).grownBy wy (Value.slice Ao no co).ownBlock) :
    Row wy gm 27 [.int .i64 sq, .int .i64 nx, .int .i64 P.K, .int .i64 P.H, .int .i64 P.S, .int .i64 ex, .slice Ad nd cd, .slice Ao no co] ∧
    (gm ≠ g0 → w.heap.size ≤ gm → ST w (wy.setCell ⟨gm, 7, none⟩ (.slice A8 (no + 1) c8)) g0 gm sq nx P ex Ad nd cd ds A8 (no + 1) c8 (ts ++ [.slice At j ct]) (es ++ [⟨nm, ob, ln, trs⟩])) := by
  have ha := h.alloc (.cells cs t)
  have how := ha.o.own
  rw [h.ol] at how
  have hx := ha.x.ownx how g8 (by decide)
  refine ⟨hx, fun hne hgm => ?_⟩
  have hq := ha.q.ownx how g8 (by decide)
  have hd := ha.d.kept g8 (own_other ha.d how (by decide))
  have hta := (hot.alloc (.cells cs t))
  have htl : trs.length = j := by have := hot.1; simpa using this
  subst htl
  have hp := ha.o.push (x := ⟨nm, ob, ln, trs⟩) (tv := .slice At trs.length ct) rfl (own_base hta hB) (by rw [h.ol]; exact o8) g8
  exact ⟨hq.far (p := ⟨gm, 7, none⟩) hne.symm _, hx.set 7 _, hd.far_ hx (by decide) 7 _, hp.other (row_set_grown _ _ _ _) hx (by decide) (by decide), by rw [List.length_append, h.ol]; rfl, (below_own ha.be how g8 (Nat.le_refl _) ha.be.size).setCell (p := (⟨gm, 7, none⟩ : Addr)) hgm _⟩
theorem ST.setN {w wx : World} {g0 gm : Nat} {sq nx nx' : Int} {P : Par} {ex : Int} {Ad : Option Addr} {nd cd : Nat} {ds : List Int} {Ao : Option Addr} {no co : Nat} {ts : List Value} {es : List Ent}
    (h : ST w wx g0 gm sq nx P ex Ad nd cd ds Ao no co ts es) (hne : gm ≠ g0) (hgm : w.heap.size ≤ gm) :
    ST w (wx.setCell ⟨gm, 1, none⟩ (.int .i64 nx')) g0 gm sq nx' P ex Ad nd cd ds Ao no co ts es :=
  ⟨h.q.far (p := ⟨gm, 1, none⟩) hne.symm _, h.x.set 1 _, h.d.far_ h.x (by decide) 1 _, h.o.other (row_set_grown _ _ _ _) h.x (by decide) (by decide), h.ol, h.be.setCell (p := (⟨gm, 1, none⟩ : Addr)) hgm _⟩
theorem ST.setR {w wx : World} {g0 gm : Nat} {sq nx : Int} {P : Par} {ex : Int} {Ad Ad' : Option Addr} {nd cd nd' cd' : Nat} {ds ds' : List Int} {Ao : Option Addr} {no co : Nat} {ts : List Value} {es : List Ent}
    (h : ST w wx g0 gm sq nx P ex Ad nd cd ds Ao no co ts es) (ho : wx.ownsRow w.heap.size 3 1 (.slice Ad' nd' cd') nd' (ds'.map iv)) (hne : gm ≠ g0) (hgm : w.heap.size ≤ gm) :
    ST w (wx.setCell ⟨gm, 6, none⟩ (.slice Ad' nd' cd')) g0 gm sq nx P ex Ad' nd' cd' ds' Ao no co ts es :=
  ⟨h.q.far (p := ⟨gm, 6, none⟩) hne.symm _, h.x.set 6 _, ho.far_ h.x (by decide) 6 _, h.o.other (row_set_grown _ _ _ _) h.x (by decide) (by decide), h.ol, h.be.setCell (p := (⟨gm, 6, none⟩ : Addr)) hgm _⟩
end Go.Proofs.YtlfmfhdgnmchgaaGreat

