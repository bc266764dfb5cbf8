/- ORs -/
import Derived.Test.YtlfmfhdgnmchgaaGreatBRoomTells00
import Derived.Test.YtlfmfhdgnmchgaaGreatBRoomTells05
import Derived.Test.YtlfmfhdgnmchgaaGreatBRoomTells13
import Derived.Test.YtlfmfhdgnmchgaaGreatBRoomTells26
import Derived.Test.YtlfmfhdgnmchgaaGreatBRoomTells27
set_option maxRecDepth 20000
set_option linter.unusedSimpArgs false
set_option linter.unusedVariables false
namespace Wells
open Go Go.RowKit Go.Sort Go.Proofs Go.Lib
/-- a record, and where its data lie -/
structure RD where
  r : Rec
  A : Option Addr
  n : Nat
  c : Nat
instance : Inhabited RD := ⟨⟨Rec.zero, none, 0, 0⟩⟩
def RD.dv (x : RD) : Value := .slice x.A x.n x.c
def encR (x : RD) : List Value := [.int .i64 x.r.O, .int .i64 x.r.B, .int .i64 x.r.I, .int .i64 x.r.P.K, .int .i64 x.r.P.H, .int .i64 x.r.P.S, .int .u32 (x.r.S.toNat : Int), x.dv]
theorem encR_len (x : RD) : (encR x).length = 8 := rfl
theorem encR_one (x : RD) : ∀ v ∈ encR x, v.oneCell' = true := by
  intro v hv
  simp only [encR, RD.dv, List.mem_cons, List.not_mem_nil, or_false] at hv
  rcases hv with rfl | rfl | rfl | rfl | rfl | rfl | rfl | rfl <;> rfl
def ltD (a b : RD) : Bool := ltR a.r b.r
def cfD (a b : RD) : Int := ordI a.r b.r
theorem cfD_lt (a b : RD) : decide (cfD a b < 0) = ltD a b := ordI_lt _ _
theorem cfD_fun : (fun x y => decide (cfD x y < 0)) = ltD := by funext a b; exact cfD_lt a b
theorem ltD_ord : SOrd ltD := ⟨ltR_ord.asym, ltR_ord.tr, ltR_ord.tr', ltR_ord.le⟩
def RD.zero : RD := ⟨Rec.zero, none, 0, 0⟩
end Wells
namespace Go.Proofs.YtlfmfhdgnmchgaaGreat
open Go.RowKit Wells Go.Sort Go.Lib
structure ORs (base : Nat) (w : World) (v : Value) (xs : List RD) : Prop where
  own : w.ownsRow base 75 8 v xs.length (xs.flatMap encR)
  at_ : ∀ x ∈ xs, OB base w x.dv x.r.D
theorem ORs.nil_ (base : Nat) (w : World) : ORs base w (.slice none 0 0) [] := ⟨World.ownsRow_nil _ _ _ _, fun x hx => by cases hx⟩
theorem ORs.below {base : Nat} {w w' : World} {v : Value} {xs : List RD} (h : ORs base w v xs) (hb : Below w.heap.size w w') : ORs base w' v xs :=
  ⟨h.own.kept (grown_of_below hb none) (by cases v.ownBlock <;> simp), fun x hx => (h.at_ x hx).below hb⟩
theorem ORs.base {base base' : Nat} {w : World} {v : Value} {xs : List RD} (h : ORs base w v xs) (hb : base' ≤ base) : ORs base' w v xs := ⟨own_base h.own hb, fun x hx => own_base (h.at_ x hx) hb⟩
theorem ORs.push {base : Nat} {w w' : World} {v v' : Value} {xs : List RD} {x : RD} (h : ORs base w v xs) (hx : OB base w x.dv x.r.D) (ho : w'.ownsRow base 75 8 v' (xs.length + 1) (xs.flatMap encR ++ encR x)) (hg : w.grownBy w' v.ownBlock) : ORs base w' v' (xs ++ [x]) := by
  refine ⟨by simpa using ho, fun y hy => ?_⟩
  rcases List.mem_append.1 hy with hy | hy
  · exact (h.at_ y hy).keep hg (own_other (h.at_ y hy) h.own (by decide))
  · simp only [List.mem_singleton] at hy
    subst hy
    exact hx.keep hg (own_other hx h.own (by decide))
theorem recordT : (∃ d, Tryz.prog.underlying 75 = some d ∧ d.isRow = true) ∧ (Tryz.prog.info? 75).map (·.size) = some 8 := ⟨⟨_, rfl, rfl⟩, rfl⟩
theorem order_enters (args : Array Value) (w : World) : (callFunc 47 args).run Tryz.prog w = .ok (.enter 47 args) w := rfl
theorem order_lays (blk off N : Nat) (w : World) : CmpLays Tryz.prog 47 #[] encR 8 cfD blk off N w := by
  intro m os dk _ x y
  refine (order_any x.r y.r x.dv y.dv _).mono ?_
  rintro e w' ⟨rfl, n, os', rfl⟩
  exact ⟨rfl, n, os', rfl⟩
theorem recsort_any (base : Nat) (xs : List RD) (A : Option Addr) (n c : Nat) (w : World) (h : ORs base w (.slice A n c) xs) (hn : xs.length = n) (hN : n ≤ 1048576) :
    Calls Tryz.prog 46 #[.slice A n c, .func (.func 47) #[] #[]] w fun e w' => e = .returned (.tuple #[]) ∧ ORs base w' (.slice A n c) (ssort ltD xs) ∧ w.grownBy w' (Value.slice A n c).ownBlock := by
  have ho := h.own
  rw [hn] at ho
  cases A with
  | none =>
    have h0 : n = 0 := by
      rcases own_form ho with ⟨_, h0, _⟩ | ⟨_, h0, _⟩
      · exact h0
      · cases h0
    subst h0
    have hx : xs = [] := List.eq_nil_of_length_eq_zero hn
    subst hx
    refine (sortstable_nil none c _ w).mono ?_
    rintro e w' ⟨rfl, rfl⟩
    exact ⟨rfl, h, World.grownBy.refl _ _⟩
  | some ad =>
    obtain ⟨g, cur, rfl, hb, hg, hnc, hcm, hcs, hs, R⟩ := SWL.start encR_len encR_one ho hn recordT.1 recordT.2
    have hk := sstableR_any (cap := c) (by rw [cfD_fun]; exact ltD_ord) R hN encR_one order_enters (order_lays g 0 n w) hs
    refine hk.mono ?_
    rintro e w' ⟨rfl, hs2⟩
    rw [cfD_fun] at hs2
    obtain ⟨o2, g2⟩ := hs2.back encR_len hg hb hcs (Nat.le_refl n) hnc hcm
    have hl2 : (ssort ltD xs).length = n := by rw [ssort_length, hn]
    rw [List.take_of_length_le (by omega)] at o2
    refine ⟨rfl, ⟨by rw [hl2]; exact o2, fun x hx => ?_⟩, g2⟩
    have hx' := h.at_ x (mem_ssort.1 hx)
    exact hx'.keep g2 (own_ne hx' hg (by decide))
set_option maxHeartbeats 1000000 in
theorem eqrec_any (r q : Rec) (d e : Value) (w : World) : Calls Tryz.prog 49 #[r.val d, q.val e] w fun en w' => en = .returned (.bool (eqv ltR r q)) ∧ ∃ n os, w' = grow (w.drewN n) os := by
  obtain ⟨b, hb⟩ : ∃ b, eqv ltR r q = b := ⟨_, rfl⟩
  have hb2 : (ordI r q == 0) = b := by rw [ordI_eq, hb]
  obtain ⟨A1, hA1⟩ : ∃ o : Obj, o = .cells #[.int .i64 r.O, .int .i64 r.B, .int .i64 r.I, .int .i64 r.P.K, .int .i64 r.P.H, .int .i64 r.P.S, .int .u32 (r.S.toNat : Int), d] 75 := ⟨_, rfl⟩
  obtain ⟨A2, hA2⟩ : ∃ o : Obj, o = .cells #[.int .i64 q.O, .int .i64 q.B, .int .i64 q.I, .int .i64 q.P.K, .int .i64 q.P.H, .int .i64 q.P.S, .int .u32 (q.S.toNat : Int), e] 75 := ⟨_, rfl⟩
  rw [hb]
  clear hb
  unfold Rec.val
  go_enter Tryz.func49, Tryz.ntmps49
  go_wp2_with fail
  refine (order_any r q d e _).mono ?_
  rintro en w' ⟨rfl, n, os, rfl⟩
  go_wp2_with fail
  go_ret
  refine ⟨rfl, n, #[A1, A2] ++ os, ?_⟩
  rw [hA1, hA2, alloc_eq_grow, alloc_eq_grow]
  show grow (grow (grow (w.drewN n) _) _) os = _
  rw [grow_grow, grow_grow, ← Array.append_assoc]
  rfl
theorem eqrec_enters (args : Array Value) (w : World) : (callFunc 49 args).run Tryz.prog w = .ok (.enter 49 args) w := rfl
theorem eqrec_lays (w0 : World) (blk off N : Nat) : EqL Tryz.prog 49 encR ltD w0 blk off N := by
  intro l W hs x y
  refine (eqrec_any x.r y.r x.dv y.dv W).mono ?_
  rintro e w' ⟨rfl, n, os, rfl⟩
  exact ⟨rfl, hs.grown n os⟩
theorem record_zero (w : World) : (zeroValue 75).run Tryz.prog w = .ok (.agg (encR RD.zero).toArray) w := rfl
def RcptR (base : Nat) (xs : List RD) (w : World) (v : Value) (e : Ending) (w' : World) : Prop :=
  ∃ (A' : Option Addr) (n' c' : Nat), e = .returned (.slice A' n' c') ∧ n' = (cpt ltD xs).length ∧ ORs base w' (.slice A' n' c') (cpt ltD xs) ∧ w.grownBy w' v.ownBlock
theorem reccpt_any (base : Nat) (xs : List RD) (A : Option Addr) (n c : Nat) (w : World) (h : ORs base w (.slice A n c) xs) (hn : xs.length = n) (hN : n ≤ 1048576) :
    Calls Tryz.prog 48 #[.slice A n c, .func (.func 49) #[] #[]] w (RcptR base xs w (.slice A n c)) := by
  have ho := h.own
  rw [hn] at ho
  by_cases h0 : n = 0
  · subst h0
    have hx : xs = [] := List.eq_nil_of_length_eq_zero hn
    subst hx
    refine (compact_nil A c _ w).mono ?_
    rintro e w' ⟨rfl, rfl⟩
    exact ⟨A, 0, c, rfl, rfl, h, World.grownBy.refl _ _⟩
  cases A with
  | none =>
    rcases own_form ho with ⟨_, h1, _⟩ | ⟨_, h1, _⟩
    · exact absurd h1 h0
    · cases h1
  | some ad =>
    obtain ⟨g, cur, rfl, hb, hg, hnc, hcm, hcs, hs, R⟩ := SWL.start encR_len encR_one ho hn recordT.1 recordT.2
    have hk := scptR_any (cap := c) R hN encR_one eqrec_enters (eqrec_lays w g 0 n) RD.zero _ record_zero rfl (by omega) hnc (by unfold maxLen at hcm; omega) hs
    refine hk.mono ?_
    rintro e w' ⟨l', n', rfl, hs2, h1, h2, h3⟩
    obtain ⟨o2, g2⟩ := hs2.back encR_len hg hb hcs h3 hnc hcm
    rw [h2] at o2
    refine ⟨_, n', c, rfl, h1, ⟨by rw [← h1]; exact o2, fun x hx => ?_⟩, g2⟩
    have hx' := h.at_ x (mem_cpt hx)
    exact hx'.keep g2 (own_ne hx' hg (by decide))
end Go.Proofs.YtlfmfhdgnmchgaaGreat

