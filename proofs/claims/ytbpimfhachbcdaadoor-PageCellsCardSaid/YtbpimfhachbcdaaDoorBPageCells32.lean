/- ST STR -/
import Derived.Test.YtbpimfhachbcdaaDoorBPageCells08
import Derived.Test.YtbpimfhachbcdaaDoorBPageCells15
import Derived.Test.YtbpimfhachbcdaaDoorBPageCells24
import Derived.Test.YtbpimfhachbcdaaDoorBPageCells29
set_option maxRecDepth 20000
set_option linter.unusedSimpArgs false
set_option linter.unusedVariables false
set_option linter.unusedSectionVars false
namespace Go.Proofs.YtbpimfhachbcdaaDoor
open Go.RowKit Wells
/-- what stands while a manifest is made: the result's cell, the manifest's, its two lists -/
structure ST (w wx : World) (g0 gm : Nat) (sq nx : Int) (P : Par) (ex : Int) (Ad : Option Addr) (nd cd : Nat) (ds : List Int) (Ao : Option Addr) (no co : Nat) (ts : List Value) (es : List Ent) : Prop where
  q : Row wx g0 27 [.int .i64 0, .int .i64 0, .int .i64 0, .int .i64 0, .int .i64 0, .int .i64 0, .slice none 0 0, .slice none 0 0]
  x : Row wx gm 27 [.int .i64 sq, .int .i64 nx, .int .i64 P.K, .int .i64 P.H, .int .i64 P.S, .int .i64 ex, .slice Ad nd cd, .slice Ao no co]
  d : wx.ownsRow w.heap.size 3 1 (.slice Ad nd cd) nd (ds.map iv)
  o : OEs w.heap.size wx (.slice Ao no co) ts es
  ol : es.length = no
  be : Below w.heap.size w wx
section
variable {w wx wy : World} {g0 gm : Nat} {sq nx : Int} {P : Par} {ex : Int} {Ad : Option Addr} {nd cd : Nat} {ds : List Int} {Ao : Option Addr} {no co : Nat} {ts : List Value} {es : List Ent}
theorem ST.below (h : ST w wx g0 gm sq nx P ex Ad nd cd ds Ao no co ts es) (hb : Below wx.heap.size wx wy) : ST w wy g0 gm sq nx P ex Ad nd cd ds Ao no co ts es :=
  ⟨h.q.below hb h.q.lt, h.x.below hb h.x.lt, h.d.kept (grown_of_below hb none) (by cases (Value.slice Ad nd cd).ownBlock <;> simp), h.o.below hb, h.ol, h.be.trans (hb.mono h.be.size)⟩
theorem ST.alloc (h : ST w wx g0 gm sq nx P ex Ad nd cd ds Ao no co ts es) (o : Obj) : ST w (wx.alloc o) g0 gm sq nx P ex Ad nd cd ds Ao no co ts es := h.below ((Below.refl _ _).alloc (Nat.le_refl _) o)
theorem ST.drewN (h : ST w wx g0 gm sq nx P ex Ad nd cd ds Ao no co ts es) (n : Nat) : ST w (wx.drewN n) g0 gm sq nx P ex Ad nd cd ds Ao no co ts es := h.below (below_drewN (Below.refl _ _) n)
theorem ST.drew_ (h : ST w wx g0 gm sq nx P ex Ad nd cd ds Ao no co ts es) : ST w wx.drew g0 gm sq nx P ex Ad nd cd ds Ao no co ts es := h.drewN 1
end
theorem own_newR {w0 w : World} (hb : Below w0.heap.size w0 w) (N : Nat) (hN : w.heap.size = N) (cs : List Value) (t : TypeId) (size n : Nat) (hl : cs.length = n * size) (hn : n ≤ maxLen) : (w.alloc (.cells cs.toArray t)).ownsRow w0.heap.size t size (.slice (some ⟨N, 0, none⟩) n n) n cs := by
  subst hN
  exact ⟨hl, .inr ⟨w.heap.size, n, cs.toArray, rfl, hb.size, heap_alloc_new w _, Nat.le_refl _, hn, by simpa using hl, by rw [← hl]; simp⟩⟩
theorem tdiv_bd26 {x : Int} (h : -9223372036854775808 ≤ x ∧ x ≤ 9223372036854775807) : -9223372036854775808 ≤ x.tdiv 26 ∧ x.tdiv 26 ≤ 9223372036854775807 := by
  have e := Int.tdiv_eq_ediv (a := x) (b := 26)
  have e1 : Int.sign 26 = 1 := rfl
  rw [e1] at e
  rw [e]
  split <;> omega
theorem tdiv_bd78 {x : Int} (h : -9223372036854775808 ≤ x ∧ x ≤ 9223372036854775807) : -9223372036854775808 ≤ x.tdiv 78 ∧ x.tdiv 78 ≤ 9223372036854775807 := by
  have e := Int.tdiv_eq_ediv (a := x) (b := 78)
  have e1 : Int.sign 78 = 1 := rfl
  rw [e1] at e
  rw [e]
  split <;> omega
theorem shr_bd {x : Int} (h : -9223372036854775808 ≤ x ∧ x ≤ 9223372036854775807) (k : Nat) : -9223372036854775808 ≤ x / 2 ^ k ∧ x / 2 ^ k ≤ 9223372036854775807 := by
  have hd : (0 : Int) < 2 ^ k := Int.pow_pos (by omega)
  obtain ⟨d, hdd⟩ : ∃ d : Int, 2 ^ k = d := ⟨_, rfl⟩
  rw [hdd] at hd ⊢
  by_cases hx : 0 ≤ x
  · have h1 := Int.ediv_nonneg hx (show (0 : Int) ≤ d by omega)
    have h2 := Int.ediv_le_self d hx
    omega
  · have h1 : x ≤ x / d := (Int.le_ediv_iff_mul_le hd).2 (by
      have := Int.mul_le_mul_of_nonpos_left (show (x : Int) ≤ 0 by omega) (show (1 : Int) ≤ d by omega)
      rw [Int.mul_one] at this
      exact this)
    have h2 := Int.ediv_neg_of_neg_of_pos (show x < 0 by omega) hd
    omega
theorem _root_.Wells.Row.ownx {w w1 : World} {base g size n : Nat} {t e : TypeId} {cs xs : List Value} {v : Value} (h : Row w g t cs) (hv : w.ownsRow base e size v n xs) (hg : w.grownBy w1 v.ownBlock) (hne : e ≠ t) : Row w1 g t cs := by
  refine h.grown hg ?_
  rcases own_ne hv h hne with e1 | e1
  · rw [e1]; intro e2; cases e2
  · exact fun e2 => e1 e2.symm
theorem row_set_grown (w : World) (g j : Nat) (u : Value) : w.grownBy (w.setCell ⟨g, j, none⟩ u) (some g) := grown_set (World.grownBy.refl w _) (.inl rfl) j u
theorem ST.setD {w wx wy : World} {g0 gm : Nat} {sq nx : Int} {P : Par} {ex : Int} {Ad Ad' : Option Addr} {nd cd nd' cd' : Nat} {ds ds' : List Int} {Ao : Option Addr} {no co : Nat} {ts : List Value} {es : List Ent}
    (h : ST w wx g0 gm sq nx P ex Ad nd cd ds Ao no co ts es) (he : OEs w.heap.size wy (.slice Ao no co) ts es) (hg : wx.grownBy wy (Value.slice Ad nd cd).ownBlock) (ho : wy.ownsRow w.heap.size 3 1 (.slice Ad' nd' cd') nd' (ds'.map iv)) (hne : gm ≠ g0) (hgm : w.heap.size ≤ gm) :
    ST w (wy.setCell ⟨gm, 6, none⟩ (.slice Ad' nd' cd')) g0 gm sq nx P ex Ad' nd' cd' ds' Ao no co ts es := by
  have hx := h.x.ownx h.d hg (by decide)
  have hq := h.q.ownx h.d hg (by decide)
  exact ⟨hq.far (p := ⟨gm, 6, none⟩) hne.symm _, hx.set 6 _, ho.far_ hx (by decide) 6 _, he.other (row_set_grown _ _ _ _) hx (by decide) (by decide), h.ol, (below_own h.be h.d hg (Nat.le_refl _) h.be.size).setCell (p := (⟨gm, 6, none⟩ : Addr)) hgm _⟩
theorem Sl.fresh4m (w : World) (cs : List Value) (t : TypeId) (hm : cs.length = 4) : Sl (w.alloc (.cells cs.toArray t (0, 0))) (w.heap.size + 1) 4 (some ⟨w.heap.size, 0, none⟩) 1 cs :=
  ⟨by omega, fun _ => ⟨_, 0, rfl, by omega, fun j u hu => by
    rw [Nat.zero_add, cell_of_row _ _ j cs.toArray t (0, 0) (heap_alloc_new w _)]
    simpa using hu⟩⟩
theorem ST.pushO {w wx wy : World} {B2 g0 gm : Nat} {sq nx : Int} {P : Par} {ex : Int} {Ad : Option Addr} {nd cd : Nat} {ds : List Int} {Ao A8 : Option Addr} {no co c8 : Nat} {ts : List Value} {es : List Ent} {cs : Array Value} {t : TypeId}
    {nm : List Byte} {ob ln : Int} {trs : List Int} {At : Option Addr} {j ct : Nat}
    (h : ST w wx g0 gm sq nx P ex Ad nd cd ds Ao no co ts es) (hot : wx.ownsRow B2 3 1 (.slice At j ct) j (trs.map iv)) (hB : w.heap.size ≤ B2)
    (o8 : wy.ownsRow w.heap.size 53 4 (.slice A8 (no + 1) c8) (no + 1) (entsC es ts ++ [.string (strB nm), .int .i64 ob, .int .i64 ln, .slice At j ct])) (g8 : (wx.alloc (.cells cs t)).grownBy wy (Value.slice Ao no co).ownBlock) :
    Row wy gm 27 [.int .i64 sq, .int .i64 nx, .int .i64 P.K, .int .i64 P.H, .int .i64 P.S, .int .i64 ex, .slice Ad nd cd, .slice Ao no co] ∧
    (gm ≠ g0 → w.heap.size ≤ gm → ST w (wy.setCell ⟨gm, 7, none⟩ (.slice A8 (no + 1) c8)) g0 gm sq nx P ex Ad nd cd ds A8 (no + 1) c8 (ts ++ [.slice At j ct]) (es ++ [⟨nm, ob, ln, trs⟩])) := by
  have ha := h.alloc (.cells cs t)
  have how := ha.o.own
  rw [h.ol] at how
  have hx := ha.x.ownx how g8 (by decide)
  refine ⟨hx, fun hne hgm => ?_⟩
  have hq := ha.q.ownx how g8 (by decide)
  have hd := ha.d.kept g8 (own_other ha.d how (by decide))
  have hta := (hot.alloc (.cells cs t))
  have htl : trs.length = j := by have := hot.1; simpa using this
  subst htl
  have hp := ha.o.push (x := ⟨nm, ob, ln, trs⟩) (tv := .slice At trs.length ct) rfl (own_base hta hB) (by rw [h.ol]; exact o8) g8
  exact ⟨hq.far (p := ⟨gm, 7, none⟩) hne.symm _, hx.set 7 _, hd.far_ hx (by decide) 7 _, hp.other (row_set_grown _ _ _ _) hx (by decide) (by decide), by rw [List.length_append, h.ol]; rfl, (below_own ha.be how g8 (Nat.le_refl _) ha.be.size).setCell (p := (⟨gm, 7, none⟩ : Addr)) hgm _⟩
theorem ST.setN {w wx : World} {g0 gm : Nat} {sq nx nx' : Int} {P : Par} {ex : Int} {Ad : Option Addr} {nd cd : Nat} {ds : List Int} {Ao : Option Addr} {no co : Nat} {ts : List Value} {es : List Ent}
    (h : ST w wx g0 gm sq nx P ex Ad nd cd ds Ao no co ts es) (hne : gm ≠ g0) (hgm : w.heap.size ≤ gm) :
    ST w (wx.setCell ⟨gm, 1, none⟩ (.int .i64 nx')) g0 gm sq nx' P ex Ad nd cd ds Ao no co ts es :=
  ⟨h.q.far (p := ⟨gm, 1, none⟩) hne.symm _, h.x.set 1 _, h.d.far_ h.x (by decide) 1 _, h.o.other (row_set_grown _ _ _ _) h.x (by decide) (by decide), h.ol, h.be.setCell (p := (⟨gm, 1, none⟩ : Addr)) hgm _⟩
theorem ST.setR {w wx : World} {g0 gm : Nat} {sq nx : Int} {P : Par} {ex : Int} {Ad Ad' : Option Addr} {nd cd nd' cd' : Nat} {ds ds' : List Int} {Ao : Option Addr} {no co : Nat} {ts : List Value} {es : List Ent}
    (h : ST w wx g0 gm sq nx P ex Ad nd cd ds Ao no co ts es) (ho : wx.ownsRow w.heap.size 3 1 (.slice Ad' nd' cd') nd' (ds'.map iv)) (hne : gm ≠ g0) (hgm : w.heap.size ≤ gm) :
    ST w (wx.setCell ⟨gm, 6, none⟩ (.slice Ad' nd' cd')) g0 gm sq nx P ex Ad' nd' cd' ds' Ao no co ts es :=
  ⟨h.q.far (p := ⟨gm, 6, none⟩) hne.symm _, h.x.set 6 _, ho.far_ h.x (by decide) 6 _, h.o.other (row_set_grown _ _ _ _) h.x (by decide) (by decide), h.ol, h.be.setCell (p := (⟨gm, 6, none⟩ : Addr)) hgm _⟩
end Go.Proofs.YtbpimfhachbcdaaDoor

namespace Go.Proofs.YtbpimfhachbcdaaDoor
open Go.RowKit Wells
theorem _root_.Wells.Row.ne_ {w : World} {g g' : Nat} {t t' : TypeId} {cs cs' : List Value} (h : Row w g t cs) (h' : Row w g' t' cs') (hne : t ≠ t') : g ≠ g' := by
  rintro rfl
  unfold Row at h h'
  rw [h] at h'
  injection h' with h'
  injection h' with _ e _
  exact hne e
structure SR (w wx : World) (B g0 gm gr : Nat) (sq nx : Int) (P : Par) (ex : Int) (Ad : Option Addr) (nd cd : Nat) (ds : List Int) (Ao : Option Addr) (no co : Nat) (ts : List Value) (es : List Ent) (st : RSt) : Prop where
  s : ST w wx g0 gm sq nx P ex Ad nd cd ds Ao no co ts es
  r : Rd 101 B wx gr st
  b : B ≤ w.heap.size
  gr_ : w.heap.size ≤ gr
  gm_ : w.heap.size ≤ gm
  g0_ : w.heap.size ≤ g0
  ne : gm ≠ g0
/-- all that stands lies below block N -/
structure SRlt (N g0 gm gr : Nat) (dv ov : Value) (ts : List Value) (n : Nat) : Prop where
  a : g0 < N
  b : gm < N
  c : gr < N
  d : ∀ b, dv.ownBlock = some b → b < N
  o : ∀ b, ov.ownBlock = some b → b < N
  t : ∀ i, i < n → ∀ b, (ts.getD i undef).ownBlock = some b → b < N
section
variable {w wx wy : World} {B g0 gm gr : Nat} {sq nx : Int} {P : Par} {ex : Int} {Ad : Option Addr} {nd cd : Nat} {ds : List Int} {Ao : Option Addr} {no co : Nat} {ts : List Value} {es : List Ent} {st st' : RSt}
theorem SR.below (h : SR w wx B g0 gm gr sq nx P ex Ad nd cd ds Ao no co ts es st) (hb : Below wx.heap.size wx wy) : SR w wy B g0 gm gr sq nx P ex Ad nd cd ds Ao no co ts es st :=
  ⟨h.s.below hb, h.r.keep hb (Nat.le_trans h.b h.s.be.size), h.b, h.gr_, h.gm_, h.g0_, h.ne⟩
theorem SR.gmr (h : SR w wx B g0 gm gr sq nx P ex Ad nd cd ds Ao no co ts es st) : gm ≠ gr := by
  obtain ⟨_, _, _, h1, _⟩ := h.r
  exact h.s.x.ne_ h1 (by decide)
theorem SR.lt (h : SR w wx B g0 gm gr sq nx P ex Ad nd cd ds Ao no co ts es st) : SRlt wx.heap.size g0 gm gr (.slice Ad nd cd) (.slice Ao no co) ts no :=
  ⟨h.s.q.lt, h.s.x.lt, h.r.lt.1, fun b hb => (h.s.d.lt b hb).2, fun b hb => (h.s.o.own.lt b hb).2, fun i hi b hb => by
    obtain ⟨A', c', e, ho⟩ := h.s.o.at_ i (by rw [h.s.ol]; exact hi)
    rw [e] at hb
    exact (ho.lt b hb).2⟩
theorem kept_up {base size n N : Nat} {e : TypeId} {v : Value} {xs : List Value} {r : Option Nat} (h : wx.ownsRow base e size v n xs) (hv : ∀ b, v.ownBlock = some b → b < N) (hg : wx.grownBy wy r) (hr : ∀ b, r = some b → N ≤ b) : wy.ownsRow base e size v n xs := by
  refine h.kept hg ?_
  cases hvb : v.ownBlock with
  | none => exact .inl rfl
  | some b =>
    refine .inr fun e2 => ?_
    have h1 := hv b hvb
    have h2 := hr b e2.symm
    omega
theorem row_up {g N : Nat} {t : TypeId} {cs : List Value} {r : Option Nat} (h : Row wx g t cs) (hv : g < N) (hg : wx.grownBy wy r) (hr : ∀ b, r = some b → N ≤ b) : Row wy g t cs :=
  h.grown hg (fun e => by have := hr g e.symm; omega)
theorem SR.up {N : Nat} {r : Option Nat} (h : SR w wx B g0 gm gr sq nx P ex Ad nd cd ds Ao no co ts es st) (hl : SRlt N g0 gm gr (.slice Ad nd cd) (.slice Ao no co) ts no) (hN : w.heap.size ≤ N) (hg : wx.grownBy wy r) (hr : ∀ b, r = some b → N ≤ b) : SR w wy B g0 gm gr sq nx P ex Ad nd cd ds Ao no co ts es st := by
  refine ⟨⟨row_up h.s.q hl.a hg hr, row_up h.s.x hl.b hg hr, kept_up h.s.d hl.d hg hr, ⟨kept_up h.s.o.own hl.o hg hr, h.s.o.tl, fun i hi => ?_⟩, h.s.ol, h.s.be.grown hg h.s.be.size (fun k hk => by have := hr k hk; omega)⟩, ?_, h.b, h.gr_, h.gm_, h.g0_, h.ne⟩
  · obtain ⟨A', c', e, ho⟩ := h.s.o.at_ i hi
    exact ⟨A', c', e, kept_up ho (fun b hb => hl.t i (by rw [← h.s.ol]; exact hi) b (by rw [e]; exact hb)) hg hr⟩
  · obtain ⟨A, n, c, h1, h2, h3, h4, h5, h6⟩ := h.r
    exact ⟨A, n, c, row_up h1 hl.c hg hr, h2.below ((Below.refl B wx).grown hg (Nat.le_trans h.b h.s.be.size) (fun k hk => by have := hr k hk; have := h.b; omega)), h3, h4, h5, h6⟩
end
/-- an entry that is read, beside it all -/
structure SE (N : Nat) (w wx : World) (B g0 gm gr : Nat) (sq nx : Int) (P : Par) (ex : Int) (Ad : Option Addr) (nd cd : Nat) (ds : List Int) (Ao : Option Addr) (no co : Nat) (ts : List Value) (es : List Ent) (st : RSt) (ge : Nat) (nm : List Byte) (ob ln : Int) (At : Option Addr) (nt ct : Nat) (trs : List Int) : Prop where
  s : SR w wx B g0 gm gr sq nx P ex Ad nd cd ds Ao no co ts es st
  re : Row wx ge 53 [.string (strB nm), .int .i64 ob, .int .i64 ln, .slice At nt ct]
  ot : wx.ownsRow N 3 1 (.slice At nt ct) nt (trs.map iv)
  tl : trs.length = nt
  hi : SRlt N g0 gm gr (.slice Ad nd cd) (.slice Ao no co) ts no
  N_ : w.heap.size ≤ N
  Nx : N ≤ wx.heap.size
  ge_ : N ≤ ge
section
variable {N : Nat} {w wx wy : World} {B g0 gm gr : Nat} {sq nx : Int} {P : Par} {ex : Int} {Ad : Option Addr} {nd cd : Nat} {ds : List Int} {Ao : Option Addr} {no co : Nat} {ts : List Value} {es : List Ent} {st st' : RSt} {ge : Nat} {nm nm' : List Byte} {ob ob' ln ln' : Int} {At At' : Option Addr} {nt ct nt' ct' : Nat} {trs trs' : List Int}
theorem SE.below (h : SE N w wx B g0 gm gr sq nx P ex Ad nd cd ds Ao no co ts es st ge nm ob ln At nt ct trs) (hb : Below wx.heap.size wx wy) : SE N w wy B g0 gm gr sq nx P ex Ad nd cd ds Ao no co ts es st ge nm ob ln At nt ct trs :=
  ⟨h.s.below hb, h.re.below hb h.re.lt, h.ot.kept (grown_of_below hb none) (by cases (Value.slice At nt ct).ownBlock <;> simp), h.tl, h.hi, h.N_, Nat.le_trans h.Nx hb.size, h.ge_⟩
theorem SE.push (h : SE N w wx B g0 gm gr sq nx P ex Ad nd cd ds Ao no co ts es st ge nm ob ln At nt ct trs) (hg : wx.grownBy wy (Value.slice At nt ct).ownBlock) (ho : wy.ownsRow N 3 1 (.slice At' nt' ct') nt' (trs'.map iv)) :
    Row wy ge 53 [.string (strB nm), .int .i64 ob, .int .i64 ln, .slice At nt ct] ∧ SE N w (wy.setCell ⟨ge, 3, none⟩ (.slice At' nt' ct')) B g0 gm gr sq nx P ex Ad nd cd ds Ao no co ts es st ge nm ob ln At' nt' ct' trs' := by
  have hre := h.re.ownx h.ot hg (by decide)
  refine ⟨hre, ?_⟩
  have hs := h.s.up h.hi h.N_ hg (fun b hb => (h.ot.lt b hb).1)
  exact ⟨hs.up h.hi h.N_ (row_set_grown wy ge 3 _) (fun b hb => by injection hb with hb; have := h.ge_; omega), hre.set 3 _, ho.far_ hre (by decide) 3 _, by have := ho.1; simpa using this, h.hi, h.N_, by have := h.Nx; have := hg.size; simp [World.setCell]; omega, h.ge_⟩
end
end Go.Proofs.YtbpimfhachbcdaaDoor
namespace Go.Proofs.YtbpimfhachbcdaaDoor
open Go.RowKit Wells
section
variable {w wx wy : World} {B g0 gm gr : Nat} {sq nx : Int} {P : Par} {ex : Int} {Ad : Option Addr} {nd cd : Nat} {ds : List Int} {Ao : Option Addr} {no co : Nat} {ts : List Value} {es : List Ent} {st st' : RSt}
theorem SR.drew_ (h : SR w wx B g0 gm gr sq nx P ex Ad nd cd ds Ao no co ts es st) : SR w wx.drew B g0 gm gr sq nx P ex Ad nd cd ds Ao no co ts es st := h.below (below_drewN (Below.refl _ _) 1)
theorem SR.alloc (h : SR w wx B g0 gm gr sq nx P ex Ad nd cd ds Ao no co ts es st) (o : Obj) : SR w (wx.alloc o) B g0 gm gr sq nx P ex Ad nd cd ds Ao no co ts es st := h.below ((Below.refl _ _).alloc (Nat.le_refl _) o)
theorem SR.pushO {A8 : Option Addr} {c8 B2 : Nat} {cs : Array Value} {t : TypeId} {nm : List Byte} {ob ln : Int} {trs : List Int} {At : Option Addr} {j ct : Nat}
    (h : SR w wx B g0 gm gr sq nx P ex Ad nd cd ds Ao no co ts es st) (hot : wx.ownsRow B2 3 1 (.slice At j ct) j (trs.map iv)) (hB : w.heap.size ≤ B2)
    (o8 : wy.ownsRow w.heap.size 53 4 (.slice A8 (no + 1) c8) (no + 1) (entsC es ts ++ [.string (strB nm), .int .i64 ob, .int .i64 ln, .slice At j ct])) (g8 : (wx.alloc (.cells cs t)).grownBy wy (Value.slice Ao no co).ownBlock) :
    Row wy gm 27 [.int .i64 sq, .int .i64 nx, .int .i64 P.K, .int .i64 P.H, .int .i64 P.S, .int .i64 ex, .slice Ad nd cd, .slice Ao no co] ∧ SR w (wy.setCell ⟨gm, 7, none⟩ (.slice A8 (no + 1) c8)) B g0 gm gr sq nx P ex Ad nd cd ds A8 (no + 1) c8 (ts ++ [.slice At j ct]) (es ++ [⟨nm, ob, ln, trs⟩]) st := by
  have h1 := h.s.pushO (nm := nm) (ob := ob) (ln := ln) (trs := trs) hot hB o8 g8
  have how := (h.alloc (.cells cs t)).s.o.own
  rw [h.s.ol] at how
  exact ⟨h1.1, ⟨h1.2 h.ne h.gm_, ((h.alloc (.cells cs t)).r.appd how g8 (by decide) h.b).put_ h.gmr (Nat.le_trans h.b h.gm_) 7 _, h.b, h.gr_, h.gm_, h.g0_, h.ne⟩⟩
theorem SR.begin (h : SR w wx B g0 gm gr sq nx P ex Ad nd cd ds Ao no co ts es st) : SE wx.heap.size w (wx.alloc (.cells #[.string ⟨#[]⟩, .int .i64 0, .int .i64 0, .slice none 0 0] 53)) B g0 gm gr sq nx P ex Ad nd cd ds Ao no co ts es st wx.heap.size [] 0 0 none 0 0 [] :=
  ⟨h.alloc _, Row.new wx 53 _, World.ownsRow_nil _ _ _ _, rfl, h.lt, h.s.be.size, by simp, Nat.le_refl _⟩
end
section
variable {N : Nat} {w wx wy : World} {B g0 gm gr : Nat} {sq nx : Int} {P : Par} {ex : Int} {Ad : Option Addr} {nd cd : Nat} {ds : List Int} {Ao : Option Addr} {no co : Nat} {ts : List Value} {es : List Ent} {st st' : RSt} {ge : Nat} {nm nm' : List Byte} {ob ob' ln ln' : Int} {At At' : Option Addr} {nt ct nt' ct' : Nat} {trs trs' : List Int}
theorem SE.drew_ (h : SE N w wx B g0 gm gr sq nx P ex Ad nd cd ds Ao no co ts es st ge nm ob ln At nt ct trs) : SE N w wx.drew B g0 gm gr sq nx P ex Ad nd cd ds Ao no co ts es st ge nm ob ln At nt ct trs := h.below (below_drewN (Below.refl _ _) 1)
theorem SE.alloc (h : SE N w wx B g0 gm gr sq nx P ex Ad nd cd ds Ao no co ts es st ge nm ob ln At nt ct trs) (o : Obj) : SE N w (wx.alloc o) B g0 gm gr sq nx P ex Ad nd cd ds Ao no co ts es st ge nm ob ln At nt ct trs := h.below ((Below.refl _ _).alloc (Nat.le_refl _) o)
end
end Go.Proofs.YtbpimfhachbcdaaDoor

