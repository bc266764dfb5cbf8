/- ST STR Wakes19 Dj CopyMani ManiEdit BentS -/
import Derived.Test.YtbpimfhachbcdaaDoorBPageSplits08
import Derived.Test.YtbpimfhachbcdaaDoorBPageSplits14
import Derived.Test.YtbpimfhachbcdaaDoorBPageSplits21
import Derived.Test.YtbpimfhachbcdaaDoorBPageSplits24
import Derived.Test.YtbpimfhachbcdaaDoorBPageSplits28
import Derived.Test.YtbpimfhachbcdaaDoorBPageSplits29
set_option maxRecDepth 20000
set_option linter.unusedSimpArgs false
set_option linter.unusedVariables false
set_option linter.unusedSectionVars false
namespace Go.Proofs.YtbpimfhachbcdaaDoor
open Go.RowKit Wells
/-- what stands while a manifest is made: the result's cell, the manifest's, its two lists -/
structure ST (w wx : World) (g0 gm : Nat) (sq nx : Int) (P : Par) (ex : Int) (Ad : Option Addr) (nd cd : Nat) (ds : List Int) (Ao : Option Addr) (no co : Nat) (ts : List Value) (es : List Ent) : Prop where
  q : Row wx g0 27 [.int .i64 0, .int .i64 0, .int .i64 0, .int .i64 0, .int .i64 0, .int .i64 0, .slice none 0 0, .slice none 0 0]
  x : Row wx gm 27 [.int .i64 sq, .int .i64 nx, .int .i64 P.K, .int .i64 P.H, .int .i64 P.S, .int .i64 ex, .slice Ad nd cd, .slice Ao no co]
  d : wx.ownsRow w.heap.size 3 1 (.slice Ad nd cd) nd (ds.map iv)
  o : OEs w.heap.size wx (.slice Ao no co) ts es
  ol : es.length = no
  be : Below w.heap.size w wx
section
variable {w wx wy : World} {g0 gm : Nat} {sq nx : Int} {P : Par} {ex : Int} {Ad : Option Addr} {nd cd : Nat} {ds : List Int} {Ao : Option Addr} {no co : Nat} {ts : List Value} {es : List Ent}
theorem ST.below (h : ST w wx g0 gm sq nx P ex Ad nd cd ds Ao no co ts es) (hb : Below wx.heap.size wx wy) : ST w wy g0 gm sq nx P ex Ad nd cd ds Ao no co ts es :=
  ⟨h.q.below hb h.q.lt, h.x.below hb h.x.lt, h.d.kept (grown_of_below hb none) (by cases (Value.slice Ad nd cd).ownBlock <;> simp), h.o.below hb, h.ol, h.be.trans (hb.mono h.be.size)⟩
theorem ST.alloc (h : ST w wx g0 gm sq nx P ex Ad nd cd ds Ao no co ts es) (o : Obj) : ST w (wx.alloc o) g0 gm sq nx P ex Ad nd cd ds Ao no co ts es := h.below ((Below.refl _ _).alloc (Nat.le_refl _) o)
theorem ST.drewN (h : ST w wx g0 gm sq nx P ex Ad nd cd ds Ao no co ts es) (n : Nat) : ST w (wx.drewN n) g0 gm sq nx P ex Ad nd cd ds Ao no co ts es := h.below (below_drewN (Below.refl _ _) n)
theorem ST.drew_ (h : ST w wx g0 gm sq nx P ex Ad nd cd ds Ao no co ts es) : ST w wx.drew g0 gm sq nx P ex Ad nd cd ds Ao no co ts es := h.drewN 1
end
theorem own_newR {w0 w : World} (hb : Below w0.heap.size w0 w) (N : Nat) (hN : w.heap.size = N) (cs : List Value) (t : TypeId) (size n : Nat) (hl : cs.length = n * size) (hn : n ≤ maxLen) : (w.alloc (.cells cs.toArray t)).ownsRow w0.heap.size t size (.slice (some ⟨N, 0, none⟩) n n) n cs := by
  subst hN
  exact ⟨hl, .inr ⟨w.heap.size, n, cs.toArray, rfl, hb.size, heap_alloc_new w _, Nat.le_refl _, hn, by simpa using hl, by rw [← hl]; simp⟩⟩
theorem tdiv_bd26 {x : Int} (h : -9223372036854775808 ≤ x ∧ x ≤ 9223372036854775807) : -9223372036854775808 ≤ x.tdiv 26 ∧ x.tdiv 26 ≤ 9223372036854775807 := by
  have e := Int.tdiv_eq_ediv (a := x) (b := 26)
  have e1 : Int.sign 26 = 1 := rfl
  rw [e1] at e
  rw [e]
  split <;> omega
theorem tdiv_bd78 {x : Int} (h : -9223372036854775808 ≤ x ∧ x ≤ 9223372036854775807) : -9223372036854775808 ≤ x.tdiv 78 ∧ x.tdiv 78 ≤ 9223372036854775807 := by
  have e := Int.tdiv_eq_ediv (a := x) (b := 78)
  have e1 : Int.sign 78 = 1 := rfl
  rw [e1] at e
  rw [e]
  split <;> omega
theorem shr_bd {x : Int} (h : -9223372036854775808 ≤ x ∧ x ≤ 9223372036854775807) (k : Nat) : -9223372036854775808 ≤ x / 2 ^ k ∧ x / 2 ^ k ≤ 9223372036854775807 := by
  have hd : (0 : Int) < 2 ^ k := Int.pow_pos (by omega)
  obtain ⟨d, hdd⟩ : ∃ d : Int, 2 ^ k = d := ⟨_, rfl⟩
  rw [hdd] at hd ⊢
  by_cases hx : 0 ≤ x
  · have h1 := Int.ediv_nonneg hx (show (0 : Int) ≤ d by omega)
    have h2 := Int.ediv_le_self d hx
    omega
  · have h1 : x ≤ x / d := (Int.le_ediv_iff_mul_le hd).2 (by
      have := Int.mul_le_mul_of_nonpos_left (show (x : Int) ≤ 0 by omega) (show (1 : Int) ≤ d by omega)
      rw [Int.mul_one] at this
      exact this)
    have h2 := Int.ediv_neg_of_neg_of_pos (show x < 0 by omega) hd
    omega
theorem _root_.Wells.Row.ownx {w w1 : World} {base g size n : Nat} {t e : TypeId} {cs xs : List Value} {v : Value} (h : Row w g t cs) (hv : w.ownsRow base e size v n xs) (hg : w.grownBy w1 v.ownBlock) (hne : e ≠ t) : Row w1 g t cs := by
  refine h.grown hg ?_
  rcases own_ne hv h hne with e1 | e1
  · rw [e1]; intro e2; cases e2
  · exact fun e2 => e1 e2.symm
theorem row_set_grown (w : World) (g j : Nat) (u : Value) : w.grownBy (w.setCell ⟨g, j, none⟩ u) (some g) := grown_set (World.grownBy.refl w _) (.inl rfl) j u
theorem ST.setD {w wx wy : World} {g0 gm : Nat} {sq nx : Int} {P : Par} {ex : Int} {Ad Ad' : Option Addr} {nd cd nd' cd' : Nat} {ds ds' : List Int} {Ao : Option Addr} {no co : Nat} {ts : List Value} {es : List Ent}
    (h : ST w wx g0 gm sq nx P ex Ad nd cd ds Ao no co ts es) (he : OEs w.heap.size wy (.slice Ao no co) ts es) (hg : wx.grownBy wy (Value.slice Ad nd cd).ownBlock) (ho : wy.ownsRow w.heap.size 3 1 (.slice Ad' nd' cd') nd' (ds'.map iv)) (hne : gm ≠ g0) (hgm : w.heap.size ≤ gm) :
    ST w (wy.setCell ⟨gm, 6, none⟩ (.slice Ad' nd' cd')) g0 gm sq nx P ex Ad' nd' cd' ds' Ao no co ts es := by
  have hx := h.x.ownx h.d hg (by decide)
  have hq := h.q.ownx h.d hg (by decide)
  exact ⟨hq.far (p := ⟨gm, 6, none⟩) hne.symm _, hx.set 6 _, ho.far_ hx (by decide) 6 _, he.other (row_set_grown _ _ _ _) hx (by decide) (by decide), h.ol, (below_own h.be h.d hg (Nat.le_refl _) h.be.size).setCell (p := (⟨gm, 6, none⟩ : Addr)) hgm _⟩
theorem Sl.fresh4m (w : World) (cs : List Value) (t : TypeId) (hm : cs.length = 4) : Sl (w.alloc (.cells cs.toArray t (0, 0))) (w.heap.size + 1) 4 (some ⟨w.heap.size, 0, none⟩) 1 cs :=
  ⟨by omega, fun _ => ⟨_, 0, rfl, by omega, fun j u hu => by
    rw [Nat.zero_add, cell_of_row _ _ j cs.toArray t (0, 0) (heap_alloc_new w _)]
    simpa using hu⟩⟩
theorem ST.pushO {w wx wy : World} {B2 g0 gm : Nat} {sq nx : Int} {P : Par} {ex : Int} {Ad : Option Addr} {nd cd : Nat} {ds : List Int} {Ao A8 : Option Addr} {no co c8 : Nat} {ts : List Value} {es : List Ent} {cs : Array Value} {t : TypeId}
    {nm : List Byte} {ob ln : Int} {trs : List Int} {At : Option Addr} {j ct : Nat}
    (h : ST w wx g0 gm sq nx P ex Ad nd cd ds Ao no co ts es) (hot : wx.ownsRow B2 3 1 (.slice At j ct) j (trs.map iv)) (hB : w.heap.size ≤ B2)
    (o8 : wy.ownsRow w.heap.size 53 4 (.slice A8 (no + 1) c8) (no + 1) (entsC es ts ++ [.string (strB nm), .int .i64 ob, .int .i64 ln, .slice At j ct])) (g8 : (wx.alloc (.cells cs t)).grownBy wy (Value.slice Ao no co).ownBlock) :
    Row wy gm 27 [.int .i64 sq, .int .i64 nx, .int .i64 P.K, .int .i64 P.H, .int .i64 P.S, .int .i64 ex, .slice Ad nd cd, .slice Ao no co] ∧
    (gm ≠ g0 → w.heap.size ≤ gm → ST w (wy.setCell ⟨gm, 7, none⟩ (.slice A8 (no + 1) c8)) g0 gm sq nx P ex Ad nd cd ds A8 (no + 1) c8 (ts ++ [.slice At j ct]) (es ++ [⟨nm, ob, ln, trs⟩])) := by
  have ha := h.alloc (.cells cs t)
  have how := ha.o.own
  rw [h.ol] at how
  have hx := ha.x.ownx how g8 (by decide)
  refine ⟨hx, fun hne hgm => ?_⟩
  have hq := ha.q.ownx how g8 (by decide)
  have hd := ha.d.kept g8 (own_other ha.d how (by decide))
  have hta := (hot.alloc (.cells cs t))
  have htl : trs.length = j := by have := hot.1; simpa using this
  subst htl
  have hp := ha.o.push (x := ⟨nm, ob, ln, trs⟩) (tv := .slice At trs.length ct) rfl (own_base hta hB) (by rw [h.ol]; exact o8) g8
  exact ⟨hq.far (p := ⟨gm, 7, none⟩) hne.symm _, hx.set 7 _, hd.far_ hx (by decide) 7 _, hp.other (row_set_grown _ _ _ _) hx (by decide) (by decide), by rw [List.length_append, h.ol]; rfl, (below_own ha.be how g8 (Nat.le_refl _) ha.be.size).setCell (p := (⟨gm, 7, none⟩ : Addr)) hgm _⟩
theorem ST.setN {w wx : World} {g0 gm : Nat} {sq nx nx' : Int} {P : Par} {ex : Int} {Ad : Option Addr} {nd cd : Nat} {ds : List Int} {Ao : Option Addr} {no co : Nat} {ts : List Value} {es : List Ent}
    (h : ST w wx g0 gm sq nx P ex Ad nd cd ds Ao no co ts es) (hne : gm ≠ g0) (hgm : w.heap.size ≤ gm) :
    ST w (wx.setCell ⟨gm, 1, none⟩ (.int .i64 nx')) g0 gm sq nx' P ex Ad nd cd ds Ao no co ts es :=
  ⟨h.q.far (p := ⟨gm, 1, none⟩) hne.symm _, h.x.set 1 _, h.d.far_ h.x (by decide) 1 _, h.o.other (row_set_grown _ _ _ _) h.x (by decide) (by decide), h.ol, h.be.setCell (p := (⟨gm, 1, none⟩ : Addr)) hgm _⟩
theorem ST.setR {w wx : World} {g0 gm : Nat} {sq nx : Int} {P : Par} {ex : Int} {Ad Ad' : Option Addr} {nd cd nd' cd' : Nat} {ds ds' : List Int} {Ao : Option Addr} {no co : Nat} {ts : List Value} {es : List Ent}
    (h : ST w wx g0 gm sq nx P ex Ad nd cd ds Ao no co ts es) (ho : wx.ownsRow w.heap.size 3 1 (.slice Ad' nd' cd') nd' (ds'.map iv)) (hne : gm ≠ g0) (hgm : w.heap.size ≤ gm) :
    ST w (wx.setCell ⟨gm, 6, none⟩ (.slice Ad' nd' cd')) g0 gm sq nx P ex Ad' nd' cd' ds' Ao no co ts es :=
  ⟨h.q.far (p := ⟨gm, 6, none⟩) hne.symm _, h.x.set 6 _, ho.far_ h.x (by decide) 6 _, h.o.other (row_set_grown _ _ _ _) h.x (by decide) (by decide), h.ol, h.be.setCell (p := (⟨gm, 6, none⟩ : Addr)) hgm _⟩
end Go.Proofs.YtbpimfhachbcdaaDoor

namespace Go.Proofs.YtbpimfhachbcdaaDoor
open Go.RowKit Wells
theorem _root_.Wells.Row.ne_ {w : World} {g g' : Nat} {t t' : TypeId} {cs cs' : List Value} (h : Row w g t cs) (h' : Row w g' t' cs') (hne : t ≠ t') : g ≠ g' := by
  rintro rfl
  unfold Row at h h'
  rw [h] at h'
  injection h' with h'
  injection h' with _ e _
  exact hne e
structure SR (w wx : World) (B g0 gm gr : Nat) (sq nx : Int) (P : Par) (ex : Int) (Ad : Option Addr) (nd cd : Nat) (ds : List Int) (Ao : Option Addr) (no co : Nat) (ts : List Value) (es : List Ent) (st : RSt) : Prop where
  s : ST w wx g0 gm sq nx P ex Ad nd cd ds Ao no co ts es
  r : Rd 101 B wx gr st
  b : B ≤ w.heap.size
  gr_ : w.heap.size ≤ gr
  gm_ : w.heap.size ≤ gm
  g0_ : w.heap.size ≤ g0
  ne : gm ≠ g0
/-- all that stands lies below block N -/
structure SRlt (N g0 gm gr : Nat) (dv ov : Value) (ts : List Value) (n : Nat) : Prop where
  a : g0 < N
  b : gm < N
  c : gr < N
  d : ∀ b, dv.ownBlock = some b → b < N
  o : ∀ b, ov.ownBlock = some b → b < N
  t : ∀ i, i < n → ∀ b, (ts.getD i undef).ownBlock = some b → b < N
section
variable {w wx wy : World} {B g0 gm gr : Nat} {sq nx : Int} {P : Par} {ex : Int} {Ad : Option Addr} {nd cd : Nat} {ds : List Int} {Ao : Option Addr} {no co : Nat} {ts : List Value} {es : List Ent} {st st' : RSt}
theorem SR.below (h : SR w wx B g0 gm gr sq nx P ex Ad nd cd ds Ao no co ts es st) (hb : Below wx.heap.size wx wy) : SR w wy B g0 gm gr sq nx P ex Ad nd cd ds Ao no co ts es st :=
  ⟨h.s.below hb, h.r.keep hb (Nat.le_trans h.b h.s.be.size), h.b, h.gr_, h.gm_, h.g0_, h.ne⟩
theorem SR.gmr (h : SR w wx B g0 gm gr sq nx P ex Ad nd cd ds Ao no co ts es st) : gm ≠ gr := by
  obtain ⟨_, _, _, h1, _⟩ := h.r
  exact h.s.x.ne_ h1 (by decide)
theorem SR.lt (h : SR w wx B g0 gm gr sq nx P ex Ad nd cd ds Ao no co ts es st) : SRlt wx.heap.size g0 gm gr (.slice Ad nd cd) (.slice Ao no co) ts no :=
  ⟨h.s.q.lt, h.s.x.lt, h.r.lt.1, fun b hb => (h.s.d.lt b hb).2, fun b hb => (h.s.o.own.lt b hb).2, fun i hi b hb => by
    obtain ⟨A', c', e, ho⟩ := h.s.o.at_ i (by rw [h.s.ol]; exact hi)
    rw [e] at hb
    exact (ho.lt b hb).2⟩
theorem kept_up {base size n N : Nat} {e : TypeId} {v : Value} {xs : List Value} {r : Option Nat} (h : wx.ownsRow base e size v n xs) (hv : ∀ b, v.ownBlock = some b → b < N) (hg : wx.grownBy wy r) (hr : ∀ b, r = some b → N ≤ b) : wy.ownsRow base e size v n xs := by
  refine h.kept hg ?_
  cases hvb : v.ownBlock with
  | none => exact .inl rfl
  | some b =>
    refine .inr fun e2 => ?_
    have h1 := hv b hvb
    have h2 := hr b e2.symm
    omega
theorem row_up {g N : Nat} {t : TypeId} {cs : List Value} {r : Option Nat} (h : Row wx g t cs) (hv : g < N) (hg : wx.grownBy wy r) (hr : ∀ b, r = some b → N ≤ b) : Row wy g t cs :=
  h.grown hg (fun e => by have := hr g e.symm; omega)
theorem SR.up {N : Nat} {r : Option Nat} (h : SR w wx B g0 gm gr sq nx P ex Ad nd cd ds Ao no co ts es st) (hl : SRlt N g0 gm gr (.slice Ad nd cd) (.slice Ao no co) ts no) (hN : w.heap.size ≤ N) (hg : wx.grownBy wy r) (hr : ∀ b, r = some b → N ≤ b) : SR w wy B g0 gm gr sq nx P ex Ad nd cd ds Ao no co ts es st := by
  refine ⟨⟨row_up h.s.q hl.a hg hr, row_up h.s.x hl.b hg hr, kept_up h.s.d hl.d hg hr, ⟨kept_up h.s.o.own hl.o hg hr, h.s.o.tl, fun i hi => ?_⟩, h.s.ol, h.s.be.grown hg h.s.be.size (fun k hk => by have := hr k hk; omega)⟩, ?_, h.b, h.gr_, h.gm_, h.g0_, h.ne⟩
  · obtain ⟨A', c', e, ho⟩ := h.s.o.at_ i hi
    exact ⟨A', c', e, kept_up ho (fun b hb => hl.t i (by rw [← h.s.ol]; exact hi) b (by rw [e]; exact hb)) hg hr⟩
  · obtain ⟨A, n, c, h1, h2, h3, h4, h5, h6⟩ := h.r
    exact ⟨A, n, c, row_up h1 hl.c hg hr, h2.below ((Below.refl B wx).grown hg (Nat.le_trans h.b h.s.be.size) (fun k hk => by have := hr k hk; have := h.b; omega)), h3, h4, h5, h6⟩
end
/-- an entry that is read, beside it all -/
structure SE (N : Nat) (w wx : World) (B g0 gm gr : Nat) (sq nx : Int) (P : Par) (ex : Int) (Ad : Option Addr) (nd cd : Nat) (ds : List Int) (Ao : Option Addr) (no co : Nat) (ts : List Value) (es : List Ent) (st : RSt) (ge : Nat) (nm : List Byte) (ob ln : Int) (At : Option Addr) (nt ct : Nat) (trs : List Int) : Prop where
  s : SR w wx B g0 gm gr sq nx P ex Ad nd cd ds Ao no co ts es st
  re : Row wx ge 53 [.string (strB nm), .int .i64 ob, .int .i64 ln, .slice At nt ct]
  ot : wx.ownsRow N 3 1 (.slice At nt ct) nt (trs.map iv)
  tl : trs.length = nt
  hi : SRlt N g0 gm gr (.slice Ad nd cd) (.slice Ao no co) ts no
  N_ : w.heap.size ≤ N
  Nx : N ≤ wx.heap.size
  ge_ : N ≤ ge
section
variable {N : Nat} {w wx wy : World} {B g0 gm gr : Nat} {sq nx : Int} {P : Par} {ex : Int} {Ad : Option Addr} {nd cd : Nat} {ds : List Int} {Ao : Option Addr} {no co : Nat} {ts : List Value} {es : List Ent} {st st' : RSt} {ge : Nat} {nm nm' : List Byte} {ob ob' ln ln' : Int} {At At' : Option Addr} {nt ct nt' ct' : Nat} {trs trs' : List Int}
theorem SE.below (h : SE N w wx B g0 gm gr sq nx P ex Ad nd cd ds Ao no co ts es st ge nm ob ln At nt ct trs) (hb : Below wx.heap.size wx wy) : SE N w wy B g0 gm gr sq nx P ex Ad nd cd ds Ao no co ts es st ge nm ob ln At nt ct trs :=
  ⟨h.s.below hb, h.re.below hb h.re.lt, h.ot.kept (grown_of_below hb none) (by cases (Value.slice At nt ct).ownBlock <;> simp), h.tl, h.hi, h.N_, Nat.le_trans h.Nx hb.size, h.ge_⟩
theorem SE.setE (h : SE N w wx B g0 gm gr sq nx P ex Ad nd cd ds Ao no co ts es st ge nm ob ln At nt ct trs) (i : Nat) (u : Value) (e : ([.string (strB nm), .int .i64 ob, .int .i64 ln, .slice At nt ct] : List Value).set i u = [.string (strB nm'), .int .i64 ob', .int .i64 ln', .slice At nt ct]) :
    SE N w (wx.setCell ⟨ge, i, none⟩ u) B g0 gm gr sq nx P ex Ad nd cd ds Ao no co ts es st ge nm' ob' ln' At nt ct trs := by
  have hx := h.re.set i u
  rw [e] at hx
  exact ⟨h.s.up h.hi h.N_ (row_set_grown wx ge i u) (fun b hb => by injection hb with hb; have := h.ge_; omega), hx, h.ot.far_ h.re (by decide) i u, h.tl, h.hi, h.N_, by have := h.Nx; simpa [World.setCell] using this, h.ge_⟩
theorem SE.push (h : SE N w wx B g0 gm gr sq nx P ex Ad nd cd ds Ao no co ts es st ge nm ob ln At nt ct trs) (hg : wx.grownBy wy (Value.slice At nt ct).ownBlock) (ho : wy.ownsRow N 3 1 (.slice At' nt' ct') nt' (trs'.map iv)) :
    Row wy ge 53 [.string (strB nm), .int .i64 ob, .int .i64 ln, .slice At nt ct] ∧ SE N w (wy.setCell ⟨ge, 3, none⟩ (.slice At' nt' ct')) B g0 gm gr sq nx P ex Ad nd cd ds Ao no co ts es st ge nm ob ln At' nt' ct' trs' := by
  have hre := h.re.ownx h.ot hg (by decide)
  refine ⟨hre, ?_⟩
  have hs := h.s.up h.hi h.N_ hg (fun b hb => (h.ot.lt b hb).1)
  exact ⟨hs.up h.hi h.N_ (row_set_grown wy ge 3 _) (fun b hb => by injection hb with hb; have := h.ge_; omega), hre.set 3 _, ho.far_ hre (by decide) 3 _, by have := ho.1; simpa using this, h.hi, h.N_, by have := h.Nx; have := hg.size; simp [World.setCell]; omega, h.ge_⟩
end
end Go.Proofs.YtbpimfhachbcdaaDoor
namespace Go.Proofs.YtbpimfhachbcdaaDoor
open Go.RowKit Wells
section
variable {w wx wy : World} {B g0 gm gr : Nat} {sq nx : Int} {P : Par} {ex : Int} {Ad : Option Addr} {nd cd : Nat} {ds : List Int} {Ao : Option Addr} {no co : Nat} {ts : List Value} {es : List Ent} {st st' : RSt}
theorem SR.drew_ (h : SR w wx B g0 gm gr sq nx P ex Ad nd cd ds Ao no co ts es st) : SR w wx.drew B g0 gm gr sq nx P ex Ad nd cd ds Ao no co ts es st := h.below (below_drewN (Below.refl _ _) 1)
theorem SR.alloc (h : SR w wx B g0 gm gr sq nx P ex Ad nd cd ds Ao no co ts es st) (o : Obj) : SR w (wx.alloc o) B g0 gm gr sq nx P ex Ad nd cd ds Ao no co ts es st := h.below ((Below.refl _ _).alloc (Nat.le_refl _) o)
theorem SR.pushO {A8 : Option Addr} {c8 B2 : Nat} {cs : Array Value} {t : TypeId} {nm : List Byte} {ob ln : Int} {trs : List Int} {At : Option Addr} {j ct : Nat}
    (h : SR w wx B g0 gm gr sq nx P ex Ad nd cd ds Ao no co ts es st) (hot : wx.ownsRow B2 3 1 (.slice At j ct) j (trs.map iv)) (hB : w.heap.size ≤ B2)
    (o8 : wy.ownsRow w.heap.size 53 4 (.slice A8 (no + 1) c8) (no + 1) (entsC es ts ++ [.string (strB nm), .int .i64 ob, .int .i64 ln, .slice At j ct])) (g8 : (wx.alloc (.cells cs t)).grownBy wy (Value.slice Ao no co).ownBlock) :
    Row wy gm 27 [.int .i64 sq, .int .i64 nx, .int .i64 P.K, .int .i64 P.H, .int .i64 P.S, .int .i64 ex, .slice Ad nd cd, .slice Ao no co] ∧ SR w (wy.setCell ⟨gm, 7, none⟩ (.slice A8 (no + 1) c8)) B g0 gm gr sq nx P ex Ad nd cd ds A8 (no + 1) c8 (ts ++ [.slice At j ct]) (es ++ [⟨nm, ob, ln, trs⟩]) st := by
  have h1 := h.s.pushO (nm := nm) (ob := ob) (ln := ln) (trs := trs) hot hB o8 g8
  have how := (h.alloc (.cells cs t)).s.o.own
  rw [h.s.ol] at how
  exact ⟨h1.1, ⟨h1.2 h.ne h.gm_, ((h.alloc (.cells cs t)).r.appd how g8 (by decide) h.b).put_ h.gmr (Nat.le_trans h.b h.gm_) 7 _, h.b, h.gr_, h.gm_, h.g0_, h.ne⟩⟩
theorem SR.begin (h : SR w wx B g0 gm gr sq nx P ex Ad nd cd ds Ao no co ts es st) : SE wx.heap.size w (wx.alloc (.cells #[.string ⟨#[]⟩, .int .i64 0, .int .i64 0, .slice none 0 0] 53)) B g0 gm gr sq nx P ex Ad nd cd ds Ao no co ts es st wx.heap.size [] 0 0 none 0 0 [] :=
  ⟨h.alloc _, Row.new wx 53 _, World.ownsRow_nil _ _ _ _, rfl, h.lt, h.s.be.size, by simp, Nat.le_refl _⟩
end
section
variable {N : Nat} {w wx wy : World} {B g0 gm gr : Nat} {sq nx : Int} {P : Par} {ex : Int} {Ad : Option Addr} {nd cd : Nat} {ds : List Int} {Ao : Option Addr} {no co : Nat} {ts : List Value} {es : List Ent} {st st' : RSt} {ge : Nat} {nm nm' : List Byte} {ob ob' ln ln' : Int} {At At' : Option Addr} {nt ct nt' ct' : Nat} {trs trs' : List Int}
theorem SE.drew_ (h : SE N w wx B g0 gm gr sq nx P ex Ad nd cd ds Ao no co ts es st ge nm ob ln At nt ct trs) : SE N w wx.drew B g0 gm gr sq nx P ex Ad nd cd ds Ao no co ts es st ge nm ob ln At nt ct trs := h.below (below_drewN (Below.refl _ _) 1)
theorem SE.alloc (h : SE N w wx B g0 gm gr sq nx P ex Ad nd cd ds Ao no co ts es st ge nm ob ln At nt ct trs) (o : Obj) : SE N w (wx.alloc o) B g0 gm gr sq nx P ex Ad nd cd ds Ao no co ts es st ge nm ob ln At nt ct trs := h.below ((Below.refl _ _).alloc (Nat.le_refl _) o)
end
end Go.Proofs.YtbpimfhachbcdaaDoor

namespace Wells
open Go Go.RowKit
def mani0 : Mani := ⟨1, 0, ⟨1, 1, 1⟩, 0, [3], []⟩
theorem mani0_may : mani0.may = true := by decide +kernel
theorem mani0_len : (pack mani0).length = 15 := by decide +kernel
theorem mani0_64 : M64 mani0 := ⟨by unfold i64; decide, by unfold i64; decide, by unfold i64; decide, by unfold i64; decide, by unfold i64; decide, by unfold i64; decide, fun z h => by unfold i64; simp [mani0] at h; omega, fun e h => by cases h⟩
theorem mani0_nm : ∀ e ∈ mani0.objs, e.name.length ≤ 1048576 := fun e h => by cases h
theorem REs.nil_ (w : World) (B : Nat) (A : Option Addr) : REs w B A 0 [] [] := ⟨Sl.nil_, rfl, rfl, fun i hi => absurd hi (by omega)⟩
theorem mani0_rm {w : World} {B g c : Nat} {A : Option Addr} (h : Sl w B 1 (some ⟨g, 0, none⟩) 1 [.int .i64 3]) (hc : 1 ≤ c ∧ c ≤ 9223372036854775807) : RM w B mani0 (some ⟨g, 0, none⟩) 1 c A 0 0 [] :=
  ⟨h, rfl, hc, REs.nil_ _ _ _, by omega⟩
end Wells
namespace Go.Proofs.YtbpimfhachbcdaaDoor
open Go.RowKit Wells
end Go.Proofs.YtbpimfhachbcdaaDoor

namespace Wells
open Go Go.RowKit
/-- two lists that do not lie in one block -/
def Apart (v v' : Value) : Prop := v.ownBlock = none ∨ v.ownBlock ≠ v'.ownBlock
theorem Apart.symm {v v' : Value} (h : Apart v v') : Apart v' v := by
  unfold Apart at *
  cases hv : v'.ownBlock with
  | none => exact .inl rfl
  | some b =>
    right
    rcases h with h | h
    · rw [h]; simp
    · rw [hv] at h; exact fun e => h e.symm
theorem Apart.of_lt {v v' : Value} {N : Nat} (h : ∀ b, v.ownBlock = some b → b < N) (h' : v'.ownBlock = none ∨ ∃ b, v'.ownBlock = some b ∧ N ≤ b) : Apart v v' := by
  unfold Apart
  cases hv : v.ownBlock with
  | none => exact .inl rfl
  | some b =>
    right
    have h1 := h b hv
    rcases h' with h2 | ⟨b', h2, h3⟩
    · rw [h2]; simp
    · rw [h2]; intro e; injection e with e; omega
structure Dj (ts : List Value) (dv : Value) (n : Nat) : Prop where
  d : ∀ i, i < n → Apart (ts.getD i undef) dv
  t : ∀ i j, j < n → i < j → Apart (ts.getD i undef) (ts.getD j undef)
theorem Dj.nil_ (dv : Value) : Dj [] dv 0 := ⟨fun i hi => absurd hi (by omega), fun i j hj => absurd hj (by omega)⟩
theorem getD_appV {ts : List Value} {tv : Value} {n i : Nat} (hl : ts.length = n) : (ts ++ [tv]).getD i undef = if i < n then ts.getD i undef else if i = n then tv else undef := by
  subst hl
  simp only [List.getD_eq_getElem?_getD, List.getElem?_append]
  split
  · rfl
  · split
    · rename_i h; subst h; simp
    · rw [List.getElem?_eq_none (by simp; omega)]; rfl
theorem Dj.push {ts : List Value} {dv tv : Value} {n N : Nat} (h : Dj ts dv n) (hl : ts.length = n) (hlt : ∀ i, i < n → ∀ b, (ts.getD i undef).ownBlock = some b → b < N) (hd : ∀ b, dv.ownBlock = some b → b < N) (ht : tv.ownBlock = none ∨ ∃ b, tv.ownBlock = some b ∧ N ≤ b) : Dj (ts ++ [tv]) dv (n + 1) := by
  refine ⟨fun i hi => ?_, fun i j hj hij => ?_⟩
  · rw [getD_appV hl]
    by_cases h1 : i < n
    · rw [if_pos h1]; exact h.d i h1
    · rw [if_neg h1, if_pos (by omega)]
      exact (Apart.of_lt hd ht).symm
  · rw [getD_appV hl, getD_appV hl, if_pos (by omega)]
    by_cases h1 : j < n
    · rw [if_pos h1]; exact h.t i j h1 hij
    · rw [if_neg h1, if_pos (by omega)]
      exact Apart.of_lt (hlt i (by omega)) ht
theorem getD_setV {ts : List Value} {tv : Value} {k i : Nat} (hk : k < ts.length) : (ts.set k tv).getD i undef = if i = k then tv else ts.getD i undef := by
  simp only [List.getD_eq_getElem?_getD]
  split
  · rename_i h; subst h; simp [hk]
  · rename_i h; rw [List.getElem?_set_ne (fun e => h e.symm)]
theorem getD_setE {es : List Ent} {e : Ent} {k i : Nat} (hk : k < es.length) : (es.set k e).getD i default = if i = k then e else es.getD i default := by
  simp only [List.getD_eq_getElem?_getD]
  split
  · rename_i h; subst h; simp [hk]
  · rename_i h; rw [List.getElem?_set_ne (fun e => h e.symm)]
/-- one entry's tries are another list, in the same block or a new one -/
theorem Dj.swap {ts : List Value} {dv tv : Value} {n k N : Nat} (h : Dj ts dv n) (hl : ts.length = n) (hk : k < n) (hlt : ∀ i, i < n → ∀ b, (ts.getD i undef).ownBlock = some b → b < N) (hd : ∀ b, dv.ownBlock = some b → b < N)
    (ht : tv.ownBlock = (ts.getD k undef).ownBlock ∨ tv.ownBlock = none ∨ ∃ b, tv.ownBlock = some b ∧ N ≤ b) : Dj (ts.set k tv) dv n := by
  have key : ∀ v, (∀ b, v.ownBlock = some b → b < N) → Apart v (ts.getD k undef) → Apart v tv := fun v hv ha => by
    rcases ht with h1 | h1
    · unfold Apart at *; rw [h1]; exact ha
    · exact Apart.of_lt hv h1
  refine ⟨fun i hi => ?_, fun i j hj hij => ?_⟩
  · rw [getD_setV (by omega)]
    split
    · exact (key dv hd (h.d k hk).symm).symm
    · exact h.d i hi
  · rw [getD_setV (by omega), getD_setV (by omega)]
    by_cases h1 : i = k
    · rw [if_pos h1, if_neg (by omega)]
      exact (key _ (hlt j hj) (by subst h1; exact (h.t i j hj hij).symm)).symm
    · rw [if_neg h1]
      by_cases h2 : j = k
      · rw [if_pos h2]
        exact key _ (hlt i (by omega)) (by subst h2; exact h.t i j hj hij)
      · rw [if_neg h2]
        exact h.t i j hj hij
end Wells

namespace Go.Proofs.YtbpimfhachbcdaaDoor
open Go.RowKit Wells
theorem Sl.fresh4z (w : World) (N : Nat) (cs : List Value) (t : TypeId) (hm : cs.length = 4) (hN : w.heap.size = N) : Sl (w.alloc (.cells cs.toArray t (0, 0))) (N + 1) 4 (some ⟨N, 0, none⟩) 1 cs := by
  subst hN
  exact Sl.fresh4m w cs t hm
theorem ivs_one (l : List Int) : ∀ v ∈ l.map iv, v.oneCell' = true := by
  intro v hv
  obtain ⟨b, _, rfl⟩ := List.mem_map.1 hv
  rfl
/-- the objects' cell made empty -/
theorem ST.first {m : Mani} {w wx : World} {g0 gm : Nat} {Ad : Option Addr} {nd cd : Nat} {ds : List Int} {dv ov : Value}
    (hq : Row wx g0 27 [.int .i64 0, .int .i64 0, .int .i64 0, .int .i64 0, .int .i64 0, .int .i64 0, .slice none 0 0, .slice none 0 0])
    (hx : Row wx gm 27 [.int .i64 m.seq, .int .i64 m.next, .int .i64 m.P.K, .int .i64 m.P.H, .int .i64 m.P.S, .int .i64 m.extra, dv, ov])
    (hd : wx.ownsRow w.heap.size 3 1 (.slice Ad nd cd) nd (ds.map iv)) (hb : Below w.heap.size w wx) (hne : gm ≠ g0) (hgm : w.heap.size ≤ gm) :
    ST w ((wx.setCell ⟨gm, 6, none⟩ (.slice Ad nd cd)).setCell ⟨gm, 7, none⟩ (.slice none 0 0)) g0 gm m.seq m.next m.P m.extra Ad nd cd ds none 0 0 [] [] := by
  have hx6 := hx.set 6 (.slice Ad nd cd)
  have hd6 := hd.far_ hx (by decide) 6 (.slice Ad nd cd)
  have hq6 := hq.far (p := ⟨gm, 6, none⟩) hne.symm (.slice Ad nd cd)
  have hb6 := hb.setCell (p := (⟨gm, 6, none⟩ : Addr)) hgm (.slice Ad nd cd)
  exact ⟨hq6.far (p := ⟨gm, 7, none⟩) hne.symm _, hx6.set 7 _, hd6.far_ hx6 (by decide) 7 _, OEs.nil_ _ _, rfl, hb6.setCell (p := (⟨gm, 7, none⟩ : Addr)) hgm _⟩
def CopyR (w : World) (m : Mani) (e : Ending) (w' : World) : Prop :=
  ∃ (Ad : Option Addr) (nd cd : Nat) (Ao : Option Addr) (no co : Nat) (ts : List Value), e = .returned (m.val (.slice Ad nd cd) (.slice Ao no co)) ∧ OM w.heap.size w' m Ad nd cd Ao no co ts ∧ Dj ts (.slice Ad nd cd) no ∧ Below w.heap.size w w'
set_option maxRecDepth 20000 in
set_option maxHeartbeats 8000000 in
theorem copy_any (m : Mani) (B : Nat) (Ad Ao : Option Addr) (nd cd no co : Nat) (ts : List Value) (w : World) (h : RM w B m Ad nd cd Ao no co ts) (hB : B ≤ w.heap.size) (hnd : nd ≤ 1048576) (hno : no ≤ 1048576) (hnt : ∀ e ∈ m.objs, e.tries.length ≤ 1048576) :
    Calls Tryd.prog 16 #[m.val (.slice Ad nd cd) (.slice Ao no co)] w (CopyR w m) := by
  obtain ⟨i0, hi, hz0, hz1, hz2⟩ := info_parts infoI2
  obtain ⟨i1, hi', hz0', hz1', hz2'⟩ := info_parts infoE
  have HR := hid h
  have HNT := hid hnt
  have hol := h.o.len
  have HOL := hid hol
  have hx0 := Row.new w 27 #[.int .i64 m.seq, .int .i64 m.next, .int .i64 m.P.K, .int .i64 m.P.H, .int .i64 m.P.S, .int .i64 m.extra, .slice Ad nd cd, .slice Ao no co]
  have hb1 : Below w.heap.size w (w.alloc (maniObj 27 m (.slice Ad nd cd) (.slice Ao no co))) := (Below.refl _ _).alloc (Nat.le_refl _) _
  have hx1 := hx0.alloc (.cells #[.int .i64 0, .int .i64 0, .int .i64 0, .int .i64 0, .int .i64 0, .int .i64 0, .slice none 0 0, .slice none 0 0] 27)
  have hq1 := Row.new (w.alloc (maniObj 27 m (.slice Ad nd cd) (.slice Ao no co))) 27 #[.int .i64 0, .int .i64 0, .int .i64 0, .int .i64 0, .int .i64 0, .int .i64 0, .slice none 0 0, .slice none 0 0]
  have hb2 := hb1.alloc hb1.size (.cells #[.int .i64 0, .int .i64 0, .int .i64 0, .int .i64 0, .int .i64 0, .int .i64 0, .slice none 0 0, .slice none 0 0] 27)
  have hgs : (w.alloc (maniObj 27 m (.slice Ad nd cd) (.slice Ao no co))).heap.size = w.heap.size + 1 := by simp
  rw [hgs] at hq1
  clear hx0 hb1 hgs h hnt hol
  unfold Mani.val
  go_enter Tryd.func16, Tryd.ntmps16
  have HD := hid ((HR.out.d.below (hb2.mono hB)))
  have HX1 := hid hx1
  have HQ1 := hid hq1
  have HB2 := hid hb2
  have hbz := hb2.size
  have hdl := HR.out.dl
  have HDLN := hid hdl
  clear hx1 hq1 hb2 hdl
  go_wp2_with (at_builtin; go_must (refine wpl_append rfl (.const (.slice none 0 0)) (.tmp 7) 24 rfl w.heap.size 3 i0 (.int .i64 0) 1 8 Tryd.underlying24 hi hz0 hz1 hz2 rfl (by omega) _ 0 [] rfl (World.ownsRow_nil _ _ _ _) B Ad nd cd (m.drives.map iv) rfl HD.out (ivs_one _) nd (by omega) (m.drives.map iv) rfl (by omega) (by omega) hbz ?_); intro A3 c3 w3 o3 g3 _; have hx3 := HX1.out.grown g3 (fun e => by cases e); have hq3 := HQ1.out.grown g3 (fun e => by cases e); have hb3 := HB2.out.grown g3 HB2.out.size (fun k hk => by cases hk); have HST3 := hid (ST.first (m := m) hq3 hx3 o3 hb3 (by omega) (Nat.le_refl _)); have f6 := hx3.frozen 6; have k6 := hx3.cell 6; have hx6 := hx3.set 6 (.slice A3 nd c3); have f7 := hx6.frozen 7; have k7 := hx6.cell 7; simp only [List.getElem?_cons_succ, List.getElem?_cons_zero, List.set_cons_succ, List.set_cons_zero] at k6 k7; clear hx3 hq3 hb3 hx6 o3 g3)
  have hbw := HST3.out.be
  go_loopw [15] (fun i wr => ∃ (k : Nat) (A1 : Option Addr) (c1 : Nat) (tvs : List Value), k ≤ no ∧ i = .int .i64 (k : Int) ∧ ST w wr (w.heap.size + 1) w.heap.size m.seq m.next m.P m.extra A3 nd c3 m.drives A1 k c1 tvs (m.objs.take k) ∧ Dj tvs (.slice A3 nd c3) k) (fun i _ => no - (intOf i).toNat)
  case atStart => exact ⟨0, none, 0, [], Nat.zero_le _, rfl, HST3.out, Dj.nil_ _⟩
  case round =>
    obtain ⟨k, A1, c1, tvs, hk, rfl, hst, hdj⟩ := hrel
    have HDJ := hid hdj
    clear hdj
    have hbr := hst.be
    have hzr := hbr.size
    have HST := hid hst
    clear HST3 f6 k6 f7 k7 hst
    by_cases hlt : k < no
    · have hre := HR.out.o.below (hbr.mono hB)
      obtain ⟨bb, o, A', c', rfl, hbb, e0, e1, e2, e3, hc1, hc2, hsl⟩ := hre.get hlt
      have hkl : k < m.objs.length := by rw [HOL.out]; exact hlt
      have hmem : m.objs.getD k default ∈ m.objs := by rw [List.getD_eq_getElem?_getD, List.getElem?_eq_getElem hkl]; exact List.getElem_mem _
      have htk : m.objs.take (k + 1) = m.objs.take k ++ [m.objs.getD k default] := by
        rw [List.take_succ_eq_append_getElem hkl, List.getD_eq_getElem?_getD, List.getElem?_eq_getElem hkl]
        rfl
      have hnx := HNT.out _ hmem
      obtain ⟨x, hx⟩ : ∃ x, m.objs.getD k default = x := ⟨_, rfl⟩
      rw [hx] at e0 e1 e2 e3 hc1 hsl htk hnx
      obtain ⟨nt, hnt⟩ : ∃ n, x.tries.length = n := ⟨_, rfl⟩
      rw [hnt] at e3 hc1 hsl hnx
      have HNT2 := hid hnt
      have HTK := hid htk
      have hxe := Row.new wr 53 #[.string (strB x.name), .int .i64 x.obj, .int .i64 x.len, .slice A' nt c']
      have hbx : Below wr.heap.size wr (wr.alloc (.cells #[.string (strB x.name), .int .i64 x.obj, .int .i64 x.len, .slice A' nt c'] 53)) := (Below.refl _ _).alloc (Nat.le_refl _) _
      have HXE := hid hxe
      have HBX := hid hbx
      have HSLX := hid (hsl.below (hbx.mono (Nat.le_trans hB hzr)))
      have hz9 : w.heap.size ≤ (wr.alloc (.cells #[.string (strB x.name), .int .i64 x.obj, .int .i64 x.len, .slice A' nt c'] 53)).heap.size := Nat.le_trans hzr hbx.size
      have hgm : w.heap.size + 1 < wr.heap.size := HST.out.q.lt
      have HTL := hid (show tvs.length = k from HST.out.o.tl.trans (by rw [List.length_take]; omega))
      have HDLT := hid (fun b hb => (HST.out.d.lt b hb).2)
      have HTLT : Hid (∀ i, i < k → ∀ b, (tvs.getD i undef).ownBlock = some b → b < wr.heap.size) := hid (fun i hi2 b hb2 => by
        obtain ⟨A9, c9, e9, ho9⟩ := HST.out.o.at_ i (by rw [HST.out.ol]; exact hi2)
        rw [e9] at hb2
        exact (ho9.lt b hb2).2)
      clear hre hmem hx hnt htk hsl hxe hbx
      go_wp2_with (first
        | ((with_reducible show wpList _ _ _ (⟨some 21, _, _, _, _, _⟩ :: _) _ _); go_must (refine wpl_append rfl (.const (.slice none 0 0)) (.tmp 20) 24 rfl w.heap.size 3 i0 (.int .i64 0) 1 8 Tryd.underlying24 hi hz0 hz1 hz2 rfl (by omega) (.slice none 0 0) 0 [] rfl (World.ownsRow_nil _ _ _ _) B A' nt c' (x.tries.map iv) rfl HSLX.out (ivs_one _) nt (by omega) (x.tries.map iv) rfl (by omega) (by omega) hz9 ?_); intro A6 c6 w6 o6 g6 wh6; have HDJ2 := hid (HDJ.out.push (tv := .slice A6 nt c6) (N := wr.heap.size) HTL.out HTLT.out HDLT.out (by rcases wh6 with h6 | h6; exact .inl (h6.trans rfl); exact .inr ⟨_, h6, HBX.out.size⟩)); clear wh6; have hb6 := HBX.out.trans (((Below.refl _ _).grown g6 (Nat.le_refl _) (fun k hk => by cases hk)).mono HBX.out.size); have hx6 := HXE.out.grown g6 (fun e => by cases e); have f3 := hx6.frozen 3; have k3 := hx6.cell 3; have hx7 := hx6.set 3 (.slice A6 nt c6); have HO7 := hid (o6.far_ hx6 (by decide) 3 (.slice A6 nt c6)); have hb7 := hb6.setCell (p := (⟨wr.heap.size, 3, none⟩ : Addr)) (Nat.le_refl _) (.slice A6 nt c6); have HST7 := hid (HST.out.below hb7); have u0 := hx7.cell 0; have u1 := hx7.cell 1; have u2 := hx7.cell 2; have u3 := hx7.cell 3; have u7 := HST7.out.x.cell 7; simp only [List.getElem?_cons_succ, List.getElem?_cons_zero, List.set_cons_succ, List.set_cons_zero] at k3 u0 u1 u2 u3 u7; clear hb6 hx6 hx7 hb7 o6 g6)
        | ((with_reducible show wpList _ _ _ (⟨some 27, _, _, _, _, _⟩ :: _) _ _); have how7 := HST7.out.o.own; rw [HST7.out.ol] at how7; go_must (refine wpl_append rfl (.tmp 24) (.tmp 26) 25 rfl w.heap.size 53 i1 (.agg #[.string ⟨#[]⟩, .int .i64 0, .int .i64 0, .slice none 0 0]) 4 56 Tryd.underlying25 hi' hz0' hz1' hz2' rfl (by omega) (.slice A1 k c1) k (entsC (m.objs.take k) tvs) rfl (how7.alloc _) _ _ 1 1 [.string (strB x.name), .int .i64 x.obj, .int .i64 x.len, .slice A6 nt c6] rfl (Sl.fresh4z _ _ _ _ rfl (by simp [World.setCell])) (by simp [Value.oneCell']) (k + 1) rfl _ rfl (by omega) (by omega) (HST7.out.alloc _).be.size ?_); intro A8 c8 w8 o8 g8 _; have X8 := HST7.out.pushO (nm := x.name) (ob := x.obj) (ln := x.len) (trs := x.tries) HO7.out (Nat.le_refl _) o8 g8; have fx8 := X8.1.frozen 7; have kx8 := X8.1.cell 7; simp only [List.getElem?_cons_succ, List.getElem?_cons_zero] at kx8; have HX8 := hid (X8.2 (by omega) (Nat.le_refl _)); clear X8 o8 g8 how7))
      go_roundw
      case rel => exact ⟨k + 1, A8, c8, tvs ++ [.slice A6 nt c6], by omega, by go_num, by rw [HTK.out]; exact HX8.out, HDJ2.out⟩
      case measure => simp [intOf]; omega
    · obtain rfl : k = no := by omega
      have hsf := HST.out
      have htake : m.objs.take k = m.objs := List.take_of_length_le (by rw [HOL.out]; exact Nat.le_refl _)
      rw [htake] at hsf
      have c0 := hsf.x.cell 0
      have c1' := hsf.x.cell 1
      have c2 := hsf.x.cell 2
      have c3' := hsf.x.cell 3
      have c4 := hsf.x.cell 4
      have c5 := hsf.x.cell 5
      have c6 := hsf.x.cell 6
      have c7 := hsf.x.cell 7
      have d0 := hsf.q.cell 0
      have d1 := hsf.q.cell 1
      have d2 := hsf.q.cell 2
      have d3 := hsf.q.cell 3
      have d4 := hsf.q.cell 4
      have d5 := hsf.q.cell 5
      have d6 := hsf.q.cell 6
      have d7 := hsf.q.cell 7
      have f0 := hsf.q.frozen 0
      have f1 := hsf.q.frozen 1
      have f2 := hsf.q.frozen 2
      have f3 := hsf.q.frozen 3
      have f4 := hsf.q.frozen 4
      have f5 := hsf.q.frozen 5
      have f6 := hsf.q.frozen 6
      have f7 := hsf.q.frozen 7
      simp only [List.getElem?_cons_succ, List.getElem?_cons_zero] at c0 c1' c2 c3' c4 c5 c6 c7 d0 d1 d2 d3 d4 d5 d6 d7
      have HSF := hid hsf
      have R8 := hid (row8m hsf.q (.int .i64 m.seq) (.int .i64 m.next) (.int .i64 m.P.K) (.int .i64 m.P.H) (.int .i64 m.P.S) (.int .i64 m.extra) (.slice A3 nd c3) (.slice A1 k c1))
      have hg8 := grown8s wr (w.heap.size + 1) (.int .i64 m.seq) (.int .i64 m.next) (.int .i64 m.P.K) (.int .i64 m.P.H) (.int .i64 m.P.S) (.int .i64 m.extra) (.slice A3 nd c3) (.slice A1 k c1)
      have hom : OM w.heap.size wr m A3 nd c3 A1 k c1 tvs := ⟨hsf.d, HDLN.out, hsf.o, hsf.ol⟩
      have HOM := hid (hom.other hg8 hsf.q (by decide) (by decide))
      have HBF := hid (hsf.be.grown hg8 hsf.be.size (fun j hj => by injection hj with hj; omega))
      clear hsf hg8 hom htake
      go_wp2_with fail
      have q0 := R8.out.cell 0
      have q1 := R8.out.cell 1
      have q2 := R8.out.cell 2
      have q3 := R8.out.cell 3
      have q4 := R8.out.cell 4
      have q5 := R8.out.cell 5
      have q6 := R8.out.cell 6
      have q7 := R8.out.cell 7
      simp only [List.getElem?_cons_succ, List.getElem?_cons_zero] at q0 q1 q2 q3 q4 q5 q6 q7
      refine bodyPost_ret (v := m.val (.slice A3 nd c3) (.slice A1 k c1)) ?_ rfl ⟨A3, nd, c3, A1, k, c1, tvs, rfl, HOM.out, HDJ.out, HBF.out⟩
      simp [results, Tryd.results16, go_sem, q0, q1, q2, q3, q4, q5, q6, q7]
      rfl
end Go.Proofs.YtbpimfhachbcdaaDoor

namespace Wells
open Go Go.RowKit
theorem entsC_set : ∀ (es : List Ent) (ts : List Value) (k j : Nat) (u : Value) (e' : Ent) (tv' : Value), es.length = ts.length → k < es.length → j < 4 → e'.cells tv' = ((es.getD k default).cells (ts.getD k undef)).set j u → entsC (es.set k e') (ts.set k tv') = (entsC es ts).set (k * 4 + j) u
  | e :: es, t :: ts, 0, j, u, e', tv', _, _, hj, h => by
    simp only [List.set_cons_zero, entsC, Nat.zero_mul, Nat.zero_add]
    rw [List.set_append_left _ _ (by show j < 4; exact hj), h]
    rfl
  | e :: es, t :: ts, k + 1, j, u, e', tv', hl, hk, hj, h => by
    simp only [List.set_cons_succ, entsC]
    rw [entsC_set es ts k j u e' tv' (by simpa using hl) (by simpa using hk) hj h, List.set_append_right _ _ (by show 4 ≤ _; omega)]
    show _ = _ ++ (entsC es ts).set ((k + 1) * 4 + j - 4) u
    rw [show (k + 1) * 4 + j - 4 = k * 4 + j by omega]
  | [], _, _, _, _, _, _, _, hk, _, _ => by simp at hk
  | _ :: _, [], _, _, _, _, _, hl, _, _, _ => by simp at hl
theorem own_rowS {w : World} {base size n : Nat} {t : TypeId} {v : Value} {xs : List Value} (h : w.ownsRow base t size v n xs) (hn : 0 < n) :
    ∃ g c cur, v = .slice (some ⟨g, 0, none⟩) n c ∧ base ≤ g ∧ Row w g t cur ∧ cur.length = c * size ∧ cur.take (n * size) = xs ∧ n ≤ c ∧ c ≤ maxLen := by
  rcases h.2 with ⟨hv, h0⟩ | ⟨g, cap, cur, hv, hb, hg, hn', hc, hs, ht⟩
  · omega
  · exact ⟨g, cap, cur.toList, hv, hb, by simpa [Row] using hg, by simpa using hs, by simpa using ht, hn', hc⟩
theorem own_setS {w : World} {base size n c g i : Nat} {t : TypeId} {xs : List Value} (h : w.ownsRow base t size (.slice (some ⟨g, 0, none⟩) n c) n xs) (hn : 0 < n) (u : Value) :
    (w.setCell ⟨g, i, none⟩ u).ownsRow base t size (.slice (some ⟨g, 0, none⟩) n c) n (xs.set i u) := by
  obtain ⟨g', c', cur, e, hb, hr, hcl, hct, hnc, hcm⟩ := own_rowS h hn
  injection e with e e2 e3
  injection e with e
  injection e with e _ _
  subst e e3
  refine ⟨by rw [List.length_set]; exact h.1, .inr ⟨g, c, (cur.set i u).toArray, rfl, hb, hr.set i _, hnc, hcm, by simpa using hcl, ?_⟩⟩
  rw [← hct]
  simp only [List.toList_toArray, List.take_set]
end Wells
namespace Go.Proofs.YtbpimfhachbcdaaDoor
open Go.RowKit Wells
/-- one cell of one entry is written; that entry's tries may be others by then -/
theorem OEs.edit {base : Nat} {w : World} {gO n c : Nat} {ts : List Value} {es : List Ent} {k j : Nat} (u : Value) (e' : Ent) (tv' : Value)
    (ho : w.ownsRow base 53 4 (.slice (some ⟨gO, 0, none⟩) n c) n (entsC es ts)) (hl : es.length = n) (htl : ts.length = n)
    (hat : ∀ i, i < n → i ≠ k → ∃ A c, ts.getD i undef = .slice A (es.getD i default).tries.length c ∧ w.ownsRow base 3 1 (.slice A (es.getD i default).tries.length c) (es.getD i default).tries.length ((es.getD i default).tries.map iv))
    (hk : k < n) (hj : j < 4)
    (hcs : e'.cells tv' = ((es.getD k default).cells (ts.getD k undef)).set j u) (hto : ∃ A c', tv' = .slice A e'.tries.length c' ∧ w.ownsRow base 3 1 tv' e'.tries.length (e'.tries.map iv)) :
    OEs base (w.setCell ⟨gO, k * 4 + j, none⟩ u) (.slice (some ⟨gO, 0, none⟩) n c) (ts.set k tv') (es.set k e') := by
  obtain ⟨g', c', cur, e, hb, hr, _⟩ := own_rowS ho (by omega)
  injection e with e _ _
  injection e with e
  injection e with e _ _
  subst e
  refine ⟨?_, by simp [hl, htl], fun i hi => ?_⟩
  · rw [entsC_set es ts k j u e' tv' (by omega) (by omega) hj hcs, List.length_set, hl]
    exact own_setS ho (by omega) u
  · rw [List.length_set] at hi
    rw [getD_setV (by omega), getD_setE (by omega)]
    split
    · obtain ⟨A, c2, e1, e2⟩ := hto
      exact ⟨A, c2, e1, by rw [← e1]; exact e2.far_ hr (by decide) _ u⟩
    · rename_i hik
      obtain ⟨A, c2, e1, e2⟩ := hat i (by omega) hik
      exact ⟨A, c2, e1, e2.far_ hr (by decide) _ u⟩
theorem OEs.blk {base : Nat} {w : World} {gO n c : Nat} {ts : List Value} {es : List Ent} (h : OEs base w (.slice (some ⟨gO, 0, none⟩) n c) ts es) (hn : es.length = n) (h0 : 0 < n) : ∃ cur, Row w gO 53 cur ∧ base ≤ gO := by
  have ho := h.own
  rw [hn] at ho
  obtain ⟨g', c', cur, e, hb, hr, _⟩ := own_rowS ho h0
  injection e with e _ _
  injection e with e
  injection e with e _ _
  subst e
  exact ⟨cur, hr, hb⟩
/-- the entries stay while the tries of the k-th grow -/
theorem OEs.keptT {base : Nat} {w w' : World} {v : Value} {ts : List Value} {es : List Ent} {dv : Value} (h : OEs base w v ts es) (hdj : Dj ts dv es.length) {k : Nat} (hk : k < es.length) (hg : w.grownBy w' (ts.getD k undef).ownBlock) :
    w'.ownsRow base 53 4 v es.length (entsC es ts) ∧ ∀ i, i < es.length → i ≠ k → ∃ A c, ts.getD i undef = .slice A (es.getD i default).tries.length c ∧ w'.ownsRow base 3 1 (.slice A (es.getD i default).tries.length c) (es.getD i default).tries.length ((es.getD i default).tries.map iv) := by
  obtain ⟨Ak, ck, ek, hok⟩ := h.at_ k hk
  refine ⟨h.own.kept hg (by rw [ek]; exact own_other h.own hok (by decide)), fun i hi hne => ?_⟩
  obtain ⟨A, c, e, ho⟩ := h.at_ i hi
  refine ⟨A, c, e, ho.kept hg ?_⟩
  rw [← e]
  rcases Nat.lt_or_gt_of_ne hne with hlt | hgt
  · exact hdj.t i k hk hlt
  · exact (hdj.t k i hi hgt).symm
theorem _root_.Wells.Row.neT {w : World} {g g' : Nat} {t t' : TypeId} {cs cs' : List Value} (h : Row w g t cs) (h' : Row w g' t' cs') (hne : t ≠ t') : g ≠ g' := by
  rintro rfl
  unfold Row at h h'
  rw [h] at h'
  injection h' with h'
  injection h' with _ e _
  exact hne e
/-- a manifest in a cell of its own, its lists in blocks from base on, and apart -/
structure EM (base : Nat) (w : World) (g : Nat) (m : Mani) (Ad : Option Addr) (nd cd : Nat) (Ao : Option Addr) (no co : Nat) (ts : List Value) : Prop where
  x : Row w g 27 [.int .i64 m.seq, .int .i64 m.next, .int .i64 m.P.K, .int .i64 m.P.H, .int .i64 m.P.S, .int .i64 m.extra, .slice Ad nd cd, .slice Ao no co]
  o : OM base w m Ad nd cd Ao no co ts
  dj : Dj ts (.slice Ad nd cd) no
section
variable {base : Nat} {w w' : World} {g : Nat} {m : Mani} {Ad Ao : Option Addr} {nd cd no co : Nat} {ts : List Value}
theorem EM.below (h : EM base w g m Ad nd cd Ao no co ts) (hb : Below w.heap.size w w') : EM base w' g m Ad nd cd Ao no co ts := ⟨h.x.below hb h.x.lt, h.o.below hb, h.dj⟩
theorem EM.ts_len (h : EM base w g m Ad nd cd Ao no co ts) : ts.length = no := h.o.o.tl.trans h.o.ol
/-- where the entries lie -/
theorem EM.gO (h : EM base w g m Ad nd cd Ao no co ts) (h0 : 0 < no) : ∃ (gO : Nat) (cur : List Value), Ao = some ⟨gO, 0, none⟩ ∧ base ≤ gO ∧ Row w gO 53 cur ∧ no ≤ co ∧ co ≤ maxLen ∧ ∀ i, i < no → ∀ j, j < 4 → cur[i * 4 + j]? = ((m.objs.getD i default).cells (ts.getD i undef))[j]? := by
  have ho := h.o.o.own
  rw [h.o.ol] at ho
  obtain ⟨g', c', cur, e, hb, hr, hcl, hct, hnc, hcm⟩ := own_rowS ho h0
  injection e with e e2 e3
  subst e e3
  refine ⟨g', cur, rfl, hb, hr, hnc, hcm, fun i hi j hj => ?_⟩
  rw [← entsC_at m.objs ts i h.o.o.tl.symm (by rw [h.o.ol]; exact hi) j hj, ← hct, List.getElem?_take_of_lt (by omega)]
theorem EM.tries (h : EM base w g m Ad nd cd Ao no co ts) {k : Nat} (hk : k < no) : ∃ A c, ts.getD k undef = .slice A (m.objs.getD k default).tries.length c ∧ w.ownsRow base 3 1 (.slice A (m.objs.getD k default).tries.length c) (m.objs.getD k default).tries.length ((m.objs.getD k default).tries.map iv) := h.o.o.at_ k (by rw [h.o.ol]; exact hk)
theorem EM.lt (h : EM base w g m Ad nd cd Ao no co ts) : (∀ i, i < no → ∀ b, (ts.getD i undef).ownBlock = some b → b < w.heap.size) ∧ (∀ b, (Value.slice Ad nd cd).ownBlock = some b → b < w.heap.size) ∧ (∀ b, (Value.slice Ao no co).ownBlock = some b → b < w.heap.size) :=
  ⟨fun i hi b hb => by
    obtain ⟨A, c, e, ho⟩ := h.tries hi
    rw [e] at hb
    exact (ho.lt b hb).2, fun b hb => (h.o.d.lt b hb).2, fun b hb => (h.o.o.own.lt b hb).2⟩
/-- one cell of one entry is written -/
theorem EM.setE {gO k j : Nat} (h : EM base w g m Ad nd cd (some ⟨gO, 0, none⟩) no co ts) (hk : k < no) (hj : j < 4) (u : Value) (e' : Ent) (tv' : Value)
    (hcs : e'.cells tv' = ((m.objs.getD k default).cells (ts.getD k undef)).set j u) (hto : ∃ A c', tv' = .slice A e'.tries.length c' ∧ w.ownsRow base 3 1 tv' e'.tries.length (e'.tries.map iv))
    (htb : tv'.ownBlock = (ts.getD k undef).ownBlock ∨ tv'.ownBlock = none) :
    EM base (w.setCell ⟨gO, k * 4 + j, none⟩ u) g { m with objs := m.objs.set k e' } Ad nd cd (some ⟨gO, 0, none⟩) no co (ts.set k tv') := by
  have ho := h.o.o.own
  rw [h.o.ol] at ho
  obtain ⟨_, cur, e, hb, hr, _⟩ := h.gO (by omega)
  injection e with e
  injection e with e _ _
  subst e
  have hed := OEs.edit (k := k) (j := j) u e' tv' ho h.o.ol h.ts_len (fun i hi _ => h.tries hi) hk hj hcs hto
  refine ⟨h.x.far (p := ⟨gO, k * 4 + j, none⟩) (h.x.neT hr (by decide)) u, ⟨h.o.d.far_ hr (by decide) _ u, h.o.dl, hed, by simp [h.o.ol]⟩, ?_⟩
  have hl := h.lt
  exact h.dj.swap h.ts_len hk hl.1 hl.2.1 (htb.imp id .inl)
/-- the tries of one entry grow -/
theorem EM.growT {gO k : Nat} {tv8 : Value} {z : List Int} (h : EM base w g m Ad nd cd (some ⟨gO, 0, none⟩) no co ts) (hk : k < no)
    (hg : w.grownBy w' (ts.getD k undef).ownBlock) (h8 : ∃ A8 c8, tv8 = .slice A8 z.length c8 ∧ w'.ownsRow base 3 1 tv8 z.length (z.map iv)) (wh : tv8.ownBlock = (ts.getD k undef).ownBlock ∨ tv8.ownBlock = some w.heap.size) :
    (∃ cur, Row w' gO 53 cur ∧ cur[k * 4 + 3]? = some (ts.getD k undef)) ∧ Row w' g 27 [.int .i64 m.seq, .int .i64 m.next, .int .i64 m.P.K, .int .i64 m.P.H, .int .i64 m.P.S, .int .i64 m.extra, .slice Ad nd cd, .slice (some ⟨gO, 0, none⟩) no co] ∧
    EM base (w'.setCell ⟨gO, k * 4 + 3, none⟩ tv8) g { m with objs := m.objs.set k { m.objs.getD k default with tries := z } } Ad nd cd (some ⟨gO, 0, none⟩) no co (ts.set k tv8) := by
  obtain ⟨_, cur, e, hb, hr, hnc, _, hcur⟩ := h.gO (by omega)
  injection e with e
  injection e with e _ _
  subst e
  obtain ⟨Ak, ck, ek, hok⟩ := h.tries hk
  have hg' := hg
  rw [ek] at hg'
  have hkt := h.o.o.keptT (dv := .slice Ad nd cd) (by rw [h.o.ol]; exact h.dj) (by rw [h.o.ol]; exact hk) hg
  have ho := hkt.1
  rw [h.o.ol] at ho
  have hr' := hr.ownx hok hg' (by decide)
  have hx' := h.x.ownx hok hg' (by decide)
  have hd' := h.o.d.kept hg (h.dj.d k hk).symm
  have hed := OEs.edit (k := k) (j := 3) tv8 { m.objs.getD k default with tries := z } tv8 ho h.o.ol h.ts_len (fun i hi hne => hkt.2 i (by rw [h.o.ol]; exact hi) hne) hk (by omega) rfl h8
  refine ⟨⟨cur, hr', ?_⟩, hx', ⟨hx'.far (p := ⟨gO, k * 4 + 3, none⟩) (hx'.neT hr' (by decide)) tv8, ⟨hd'.far_ hr' (by decide) _ tv8, h.o.dl, hed, by simp [h.o.ol]⟩, ?_⟩⟩
  · rw [hcur k hk 3 (by omega)]; rfl
  · have hl := h.lt
    exact h.dj.swap h.ts_len hk hl.1 hl.2.1 (wh.imp id (fun e => .inr ⟨_, e, Nat.le_refl _⟩))
end
end Go.Proofs.YtbpimfhachbcdaaDoor

namespace Wells
open Go Go.RowKit
/-- a manifest that is not too long -/
structure Lt (N : Nat) (m : Mani) : Prop where
  m64 : M64 m
  nm : ∀ e ∈ m.objs, e.name.length ≤ N
  tr : ∀ e ∈ m.objs, e.tries.length ≤ N
  dl : m.drives.length ≤ N
  ol : m.objs.length ≤ N
theorem Lt.more {N N' : Nat} {m : Mani} (h : Lt N m) (hn : N ≤ N') : Lt N' m := ⟨h.m64, fun e he => Nat.le_trans (h.nm e he) hn, fun e he => Nat.le_trans (h.tr e he) hn, Nat.le_trans h.dl hn, Nat.le_trans h.ol hn⟩
theorem getD_memE {es : List Ent} {k : Nat} (h : k < es.length) : es.getD k default ∈ es := by
  rw [List.getD_eq_getElem?_getD, List.getElem?_eq_getElem h, Option.getD_some]
  exact List.getElem_mem _
theorem Lt.setE {m : Mani} {k : Nat} {e' : Ent} (h : Lt 1000 m) (h' : i64 e'.obj ∧ i64 e'.len ∧ ∀ z ∈ e'.tries, i64 z) (hn : e'.name.length ≤ 2000) (ht : e'.tries.length ≤ 2000) : Lt 2000 { m with objs := m.objs.set k e' } := by
  have key : ∀ e ∈ m.objs.set k e', e ∈ m.objs ∨ e = e' := fun e he => List.mem_or_eq_of_mem_set he
  refine ⟨⟨h.m64.seq, h.m64.next, h.m64.K, h.m64.H, h.m64.S, h.m64.extra, h.m64.drives, fun e he => ?_⟩, fun e he => ?_, fun e he => ?_, Nat.le_trans h.dl (by omega), by show (m.objs.set k e').length ≤ 2000; rw [List.length_set]; exact Nat.le_trans h.ol (by omega)⟩
  · rcases key e he with h1 | rfl
    · exact h.m64.objs e h1
    · exact h'
  · rcases key e he with h1 | rfl
    · exact Nat.le_trans (h.nm e h1) (by omega)
    · exact hn
  · rcases key e he with h1 | rfl
    · exact Nat.le_trans (h.tr e h1) (by omega)
    · exact ht
theorem Lt.pushE {m : Mani} {e' : Ent} (h : Lt 1000 m) (h' : i64 e'.obj ∧ i64 e'.len ∧ ∀ z ∈ e'.tries, i64 z) (hn : e'.name.length ≤ 2000) (ht : e'.tries.length ≤ 2000) : Lt 2000 { m with objs := m.objs ++ [e'] } := by
  have key : ∀ e ∈ m.objs ++ [e'], e ∈ m.objs ∨ e = e' := fun e he => by
    rcases List.mem_append.1 he with h1 | h1
    · exact .inl h1
    · exact .inr (List.mem_singleton.1 h1)
  refine ⟨⟨h.m64.seq, h.m64.next, h.m64.K, h.m64.H, h.m64.S, h.m64.extra, h.m64.drives, fun e he => ?_⟩, fun e he => ?_, fun e he => ?_, Nat.le_trans h.dl (by omega), by show (m.objs ++ [e']).length ≤ 2000; rw [List.length_append]; have := h.ol; show _ + 1 ≤ 2000; omega⟩
  · rcases key e he with h1 | rfl
    · exact h.m64.objs e h1
    · exact h'
  · rcases key e he with h1 | rfl
    · exact Nat.le_trans (h.nm e h1) (by omega)
    · exact hn
  · rcases key e he with h1 | rfl
    · exact Nat.le_trans (h.tr e h1) (by omega)
    · exact ht
theorem Lt.growD {m : Mani} {z : Int} (h : Lt 1000 m) (hz : i64 z) : Lt 2000 { m with drives := m.drives ++ [z] } := by
  refine ⟨⟨h.m64.seq, h.m64.next, h.m64.K, h.m64.H, h.m64.S, h.m64.extra, fun x hx => ?_, h.m64.objs⟩, fun e he => Nat.le_trans (h.nm e he) (by omega), fun e he => Nat.le_trans (h.tr e he) (by omega), by show (m.drives ++ [z]).length ≤ 2000; rw [List.length_append]; have := h.dl; show _ + 1 ≤ 2000; omega, Nat.le_trans h.ol (by omega)⟩
  rcases List.mem_append.1 hx with h1 | h1
  · exact h.m64.drives x h1
  · rw [List.mem_singleton.1 h1]; exact hz
theorem entsC_same : ∀ (es : List Ent) (ts : List Value) (k : Nat) (e' : Ent), (∀ v, e'.cells v = (es.getD k default).cells v) → entsC (es.set k e') ts = entsC es ts
  | e :: es, t :: ts, 0, e', h => by
    simp only [List.set_cons_zero, entsC]
    have := h t
    simp only [List.getD_eq_getElem?_getD, List.getElem?_cons_zero, Option.getD_some] at this
    rw [this]
  | e :: es, t :: ts, k + 1, e', h => by
    simp only [List.set_cons_succ, entsC]
    rw [entsC_same es ts k e' (fun v => by have := h v; simpa using this)]
  | [], _, _, _, _ => rfl
  | _ :: _, [], 0, _, _ => rfl
  | _ :: _, [], _ + 1, _, _ => rfl
end Wells
namespace Go.Proofs.YtbpimfhachbcdaaDoor
open Go.RowKit Wells
theorem own_bel {base size n : Nat} {w w' : World} {e : TypeId} {v : Value} {xs : List Value} (h : w.ownsRow base e size v n xs) (hb : Below w.heap.size w w') : w'.ownsRow base e size v n xs := h.kept (grown_of_below hb none) (by cases v.ownBlock <;> simp)
theorem OM.base {base base' : Nat} {w : World} {m : Mani} {Ad Ao : Option Addr} {nd cd no co : Nat} {ts : List Value} (h : OM base w m Ad nd cd Ao no co ts) (hb : base' ≤ base) : OM base' w m Ad nd cd Ao no co ts :=
  ⟨own_base h.d hb, h.dl, ⟨own_base h.o.own hb, h.o.tl, fun i hi => by
    obtain ⟨A, c, e, ho⟩ := h.o.at_ i hi
    exact ⟨A, c, e, own_base ho hb⟩⟩, h.ol⟩
/-- behind the turn -/
structure BS (w0 wx : World) (g3 g6 : Nat) (m : Mani) (Ad : Option Addr) (nd cd : Nat) (Ao : Option Addr) (no co : Nat) (ts : List Value) : Prop where
  x : Row wx g3 27 [.int .i64 m.seq, .int .i64 m.next, .int .i64 m.P.K, .int .i64 m.P.H, .int .i64 m.P.S, .int .i64 m.extra, .slice Ad nd cd, .slice Ao no co]
  o : OM w0.heap.size wx m Ad nd cd Ao no co ts
  z : Row wx g6 27 [.int .i64 0, .int .i64 0, .int .i64 0, .int .i64 0, .int .i64 0, .int .i64 0, .slice none 0 0, .slice none 0 0]
  be : Below w0.heap.size w0 wx
  lt : Lt 2000 m
/-- ahead of it -/
structure EB (w0 wx : World) (g3 g6 N : Nat) (m : Mani) (Ad : Option Addr) (nd cd : Nat) (Ao : Option Addr) (no co : Nat) (ts : List Value) : Prop where
  em : EM N wx g3 m Ad nd cd Ao no co ts
  z : Row wx g6 27 [.int .i64 0, .int .i64 0, .int .i64 0, .int .i64 0, .int .i64 0, .int .i64 0, .slice none 0 0, .slice none 0 0]
  be : Below w0.heap.size w0 wx
  hN : w0.heap.size ≤ N
  hg : w0.heap.size ≤ g3
  ne : g3 ≠ g6
  lt : Lt 1000 m
section
variable {w0 wx wA wy : World} {g3 g6 N : Nat} {m : Mani} {Ad Ao : Option Addr} {nd cd no co : Nat} {ts : List Value}
theorem EB.below (h : EB w0 wx g3 g6 N m Ad nd cd Ao no co ts) (hb : Below wx.heap.size wx wA) : EB w0 wA g3 g6 N m Ad nd cd Ao no co ts := ⟨h.em.below hb, h.z.below hb h.z.lt, h.be.trans (hb.mono h.be.size), h.hN, h.hg, h.ne, h.lt⟩
theorem EB.done (h : EB w0 wx g3 g6 N m Ad nd cd Ao no co ts) : BS w0 wx g3 g6 m Ad nd cd Ao no co ts := ⟨h.em.x, h.em.o.base h.hN, h.z, h.be, h.lt.more (by omega)⟩
/-- a number of the manifest is written -/
theorem EB.setM (h : EB w0 wx g3 g6 N m Ad nd cd Ao no co ts) (i : Nat) (u : Value) (m' : Mani)
    (hc : [.int .i64 m'.seq, .int .i64 m'.next, .int .i64 m'.P.K, .int .i64 m'.P.H, .int .i64 m'.P.S, .int .i64 m'.extra, .slice Ad nd cd, .slice Ao no co] = ([.int .i64 m.seq, .int .i64 m.next, .int .i64 m.P.K, .int .i64 m.P.H, .int .i64 m.P.S, .int .i64 m.extra, .slice Ad nd cd, .slice Ao no co] : List Value).set i u)
    (hd : m'.drives = m.drives) (ho : m'.objs = m.objs) (h6 : i64 m'.seq ∧ i64 m'.next ∧ i64 m'.P.K ∧ i64 m'.P.H ∧ i64 m'.P.S ∧ i64 m'.extra) : BS w0 (wx.setCell ⟨g3, i, none⟩ u) g3 g6 m' Ad nd cd Ao no co ts := by
  have hx := h.em.x.set i u
  rw [← hc] at hx
  have hom := h.em.o.base h.hN
  refine ⟨hx, ⟨by rw [hd]; exact hom.d.far_ h.em.x (by decide) i u, by rw [hd]; exact hom.dl, ?_, by rw [ho]; exact hom.ol⟩, h.z.far (p := ⟨g3, i, none⟩) h.ne.symm u, h.be.setCell (p := (⟨g3, i, none⟩ : Addr)) h.hg u, ?_⟩
  · rw [ho]
    exact hom.o.other (row_set_grown _ _ _ _) h.em.x (by decide) (by decide)
  · exact ⟨⟨h6.1, h6.2.1, h6.2.2.1, h6.2.2.2.1, h6.2.2.2.2.1, h6.2.2.2.2.2, by rw [hd]; exact h.lt.m64.drives, by rw [ho]; exact h.lt.m64.objs⟩, by rw [ho]; exact fun e he => Nat.le_trans (h.lt.nm e he) (by omega), by rw [ho]; exact fun e he => Nat.le_trans (h.lt.tr e he) (by omega), by rw [hd]; exact Nat.le_trans h.lt.dl (by omega), by rw [ho]; exact Nat.le_trans h.lt.ol (by omega)⟩
/-- a cell of an entry is written -/
theorem EB.setE {gO k j : Nat} (h : EB w0 wx g3 g6 N m Ad nd cd (some ⟨gO, 0, none⟩) no co ts) (hk : k < no) (hj : j < 4) (u : Value) (e' : Ent) (tv' : Value)
    (hcs : e'.cells tv' = ((m.objs.getD k default).cells (ts.getD k undef)).set j u) (hto : ∃ A c', tv' = .slice A e'.tries.length c' ∧ wx.ownsRow N 3 1 tv' e'.tries.length (e'.tries.map iv))
    (htb : tv'.ownBlock = (ts.getD k undef).ownBlock ∨ tv'.ownBlock = none) (h' : i64 e'.obj ∧ i64 e'.len ∧ ∀ z ∈ e'.tries, i64 z) (hn : e'.name.length ≤ 2000) (ht : e'.tries.length ≤ 2000) :
    BS w0 (wx.setCell ⟨gO, k * 4 + j, none⟩ u) g3 g6 { m with objs := m.objs.set k e' } Ad nd cd (some ⟨gO, 0, none⟩) no co (ts.set k tv') := by
  have he := h.em.setE hk hj u e' tv' hcs hto htb
  obtain ⟨_, cur, e, hb, hr, _⟩ := h.em.gO (by omega)
  injection e with e
  injection e with e _ _
  subst e
  exact ⟨he.x, he.o.base h.hN, h.z.far (p := ⟨gO, k * 4 + j, none⟩) (h.z.neT hr (by decide)) u, h.be.setCell (p := (⟨gO, k * 4 + j, none⟩ : Addr)) (Nat.le_trans h.hN hb) u, h.lt.setE h' hn ht⟩
/-- the tries of one entry grow -/
theorem EB.growT {gO k : Nat} {tv8 : Value} {z : List Int} (h0 : EB w0 wx g3 g6 N m Ad nd cd (some ⟨gO, 0, none⟩) no co ts) (hb : Below wx.heap.size wx wA) (hk : k < no)
    (hg : wA.grownBy wy (ts.getD k undef).ownBlock) (h8 : ∃ A8 c8, tv8 = .slice A8 z.length c8 ∧ wy.ownsRow N 3 1 tv8 z.length (z.map iv)) (wh : tv8.ownBlock = (ts.getD k undef).ownBlock ∨ tv8.ownBlock = some wA.heap.size) (hz : ∀ x ∈ z, i64 x) (hzl : z.length ≤ 2000) :
    (∃ cur, Row wy gO 53 cur ∧ cur[k * 4 + 3]? = some (ts.getD k undef)) ∧ Row wy g3 27 [.int .i64 m.seq, .int .i64 m.next, .int .i64 m.P.K, .int .i64 m.P.H, .int .i64 m.P.S, .int .i64 m.extra, .slice Ad nd cd, .slice (some ⟨gO, 0, none⟩) no co] ∧
    BS w0 (wy.setCell ⟨gO, k * 4 + 3, none⟩ tv8) g3 g6 { m with objs := m.objs.set k { m.objs.getD k default with tries := z } } Ad nd cd (some ⟨gO, 0, none⟩) no co (ts.set k tv8) := by
  have h := h0.below hb
  obtain ⟨h1, h2, h3⟩ := h.em.growT hk hg h8 wh
  obtain ⟨_, cur, e, hbO, hr, _⟩ := h.em.gO (by omega)
  injection e with e
  injection e with e _ _
  subst e
  obtain ⟨cur', hr', hc'⟩ := h1
  obtain ⟨Ak, ck, ek, hok⟩ := h.em.tries hk
  have hg' := hg
  rw [ek] at hg'
  have hz' := h.z.ownx hok hg' (by decide)
  have hmem := getD_memE (es := m.objs) (k := k) (by rw [h.em.o.ol]; exact hk)
  have h64 := h.lt.m64.objs _ hmem
  exact ⟨⟨cur', hr', hc'⟩, h2, h3.x, h3.o.base h.hN, hz'.far (p := ⟨gO, k * 4 + 3, none⟩) (hz'.neT hr' (by decide)) tv8,
    (below_own h.be hok hg' h.hN h.be.size).setCell (p := (⟨gO, k * 4 + 3, none⟩ : Addr)) (Nat.le_trans h.hN hbO) tv8, h.lt.setE ⟨h64.1, h64.2.1, hz⟩ (show (m.objs.getD k default).name.length ≤ 2000 from Nat.le_trans (h.lt.nm _ hmem) (by omega)) hzl⟩
/-- the drives grow -/
theorem EB.growD {A8 : Option Addr} {c8 : Nat} {z : Int} (h0 : EB w0 wx g3 g6 N m Ad nd cd Ao no co ts) (hb : Below wx.heap.size wx wA) (hg : wA.grownBy wy (Value.slice Ad nd cd).ownBlock)
    (o8 : wy.ownsRow N 3 1 (.slice A8 (nd + 1) c8) (nd + 1) ((m.drives ++ [z]).map iv)) (hz : i64 z) :
    Row wy g3 27 [.int .i64 m.seq, .int .i64 m.next, .int .i64 m.P.K, .int .i64 m.P.H, .int .i64 m.P.S, .int .i64 m.extra, .slice Ad nd cd, .slice Ao no co] ∧
    BS w0 (wy.setCell ⟨g3, 6, none⟩ (.slice A8 (nd + 1) c8)) g3 g6 { m with drives := m.drives ++ [z] } A8 (nd + 1) c8 Ao no co ts := by
  have h := h0.below hb
  have hx := h.em.x.ownx h.em.o.d hg (by decide)
  have hq := h.z.ownx h.em.o.d hg (by decide)
  have hoe : OEs N wy (.slice Ao no co) ts m.objs := ⟨h.em.o.o.own.kept hg (own_other h.em.o.o.own h.em.o.d (by decide)), h.em.o.o.tl, fun i hi => by
    obtain ⟨A, c, e, ho⟩ := h.em.o.o.at_ i hi
    refine ⟨A, c, e, ho.kept hg ?_⟩
    have := h.em.dj.d i (by rw [← h.em.o.ol]; exact hi)
    rw [e] at this
    exact this⟩
  have hom : OM N (wy.setCell ⟨g3, 6, none⟩ (.slice A8 (nd + 1) c8)) { m with drives := m.drives ++ [z] } A8 (nd + 1) c8 Ao no co ts :=
    ⟨o8.far_ hx (by decide) 6 _, by show (m.drives ++ [z]).length = nd + 1; rw [List.length_append, h.em.o.dl]; rfl, hoe.other (row_set_grown _ _ _ _) hx (by decide) (by decide), h.em.o.ol⟩
  exact ⟨hx, hx.set 6 _, hom.base h.hN, hq.far (p := ⟨g3, 6, none⟩) h.ne.symm _, (below_own h.be h.em.o.d hg h.hN h.be.size).setCell (p := (⟨g3, 6, none⟩ : Addr)) h.hg _, h.lt.growD hz⟩
/-- an entry comes behind -/
theorem EB.pushE {A8 : Option Addr} {c8 : Nat} {x : Ent} {At : Option Addr} {ct : Nat} (h0 : EB w0 wx g3 g6 N m Ad nd cd Ao no co ts) (hb : Below wx.heap.size wx wA) (hg : wA.grownBy wy (Value.slice Ao no co).ownBlock)
    (o8 : wy.ownsRow N 53 4 (.slice A8 (no + 1) c8) (no + 1) (entsC m.objs ts ++ x.cells (.slice At x.tries.length ct))) (hxo : wx.ownsRow N 3 1 (.slice At x.tries.length ct) x.tries.length (x.tries.map iv))
    (h' : i64 x.obj ∧ i64 x.len ∧ ∀ z ∈ x.tries, i64 z) (hn : x.name.length ≤ 2000) (ht : x.tries.length ≤ 2000) :
    Row wy g3 27 [.int .i64 m.seq, .int .i64 m.next, .int .i64 m.P.K, .int .i64 m.P.H, .int .i64 m.P.S, .int .i64 m.extra, .slice Ad nd cd, .slice Ao no co] ∧
    BS w0 (wy.setCell ⟨g3, 7, none⟩ (.slice A8 (no + 1) c8)) g3 g6 { m with objs := m.objs ++ [x] } Ad nd cd A8 (no + 1) c8 (ts ++ [.slice At x.tries.length ct]) := by
  have h := h0.below hb
  have hxA : wA.ownsRow N 3 1 (.slice At x.tries.length ct) x.tries.length (x.tries.map iv) := hxo.kept (grown_of_below hb none) (by cases (Value.slice At x.tries.length ct).ownBlock <;> simp)
  have how := h.em.o.o.own
  rw [h.em.o.ol] at how
  have hx := h.em.x.ownx how hg (by decide)
  have hq := h.z.ownx how hg (by decide)
  have hd := h.em.o.d.kept hg (own_other h.em.o.d how (by decide))
  have hp := h.em.o.o.push (x := x) (tv := .slice At x.tries.length ct) rfl hxA (by rw [h.em.o.ol]; exact o8) hg
  have hom : OM N (wy.setCell ⟨g3, 7, none⟩ (.slice A8 (no + 1) c8)) { m with objs := m.objs ++ [x] } Ad nd cd A8 (no + 1) c8 (ts ++ [.slice At x.tries.length ct]) :=
    ⟨hd.far_ hx (by decide) 7 _, h.em.o.dl, hp.other (row_set_grown _ _ _ _) hx (by decide) (by decide), by show (m.objs ++ [x]).length = no + 1; rw [List.length_append, h.em.o.ol]; rfl⟩
  exact ⟨hx, hx.set 7 _, hom.base h.hN, hq.far (p := ⟨g3, 7, none⟩) h.ne.symm _, (below_own h.be how hg h.hN h.be.size).setCell (p := (⟨g3, 7, none⟩ : Addr)) h.hg _, h.lt.pushE h' hn ht⟩
/-- the first try of an entry is written -/
theorem EB.setT {gT k nt ct : Nat} {v : Int} (h : EB w0 wx g3 g6 N m Ad nd cd Ao no co ts) (hk : k < no) (hat : ts.getD k undef = .slice (some ⟨gT, 0, none⟩) nt ct) (hnt : (m.objs.getD k default).tries.length = nt) (h0 : 0 < nt) (hv : i64 v) :
    BS w0 (wx.setCell ⟨gT, 0, none⟩ (iv v)) g3 g6 { m with objs := m.objs.set k { m.objs.getD k default with tries := (m.objs.getD k default).tries.set 0 v } } Ad nd cd Ao no co ts := by
  obtain ⟨Ak, ck, ek, hok⟩ := h.em.tries hk
  rw [hat] at ek
  injection ek with e1 _ e2
  subst e1 e2
  rw [hnt] at hok
  obtain ⟨g', c', cur, e, hb, hr, _, _, _, _⟩ := own_rowS hok h0
  injection e with e _ _
  injection e with e
  injection e with e _ _
  subst e
  have hset := own_setS (i := 0) hok h0 (iv v)
  have hgr := row_set_grown wx gT 0 (iv v)
  have hap : ∀ u : Value, Apart u (.slice (some ⟨gT, 0, none⟩) nt ct) → u.ownBlock = none ∨ u.ownBlock ≠ some gT := fun u hu => hu
  have hd : (wx.setCell ⟨gT, 0, none⟩ (iv v)).ownsRow N 3 1 (.slice Ad nd cd) nd (m.drives.map iv) := h.em.o.d.kept hgr (hap _ (by rw [← hat]; exact (h.em.dj.d k hk).symm))
  have hol : m.objs.length = no := h.em.o.ol
  have hoe : OEs N (wx.setCell ⟨gT, 0, none⟩ (iv v)) (.slice Ao no co) ts (m.objs.set k { m.objs.getD k default with tries := (m.objs.getD k default).tries.set 0 v }) := by
    refine ⟨?_, by rw [List.length_set]; exact h.em.o.o.tl, fun i hi => ?_⟩
    · rw [entsC_same m.objs ts k { m.objs.getD k default with tries := (m.objs.getD k default).tries.set 0 v } (fun v => rfl), List.length_set]
      exact h.em.o.o.own.far_ hr (by decide) 0 (iv v)
    · rw [List.length_set] at hi
      rw [getD_setE (by omega)]
      split
      · rename_i hik
        subst hik
        refine ⟨some ⟨gT, 0, none⟩, ct, ?_, ?_⟩
        · show ts.getD i undef = .slice (some ⟨gT, 0, none⟩) ((m.objs.getD i default).tries.set 0 v).length ct
          rw [hat, List.length_set, hnt]
        · show (wx.setCell ⟨gT, 0, none⟩ (iv v)).ownsRow N 3 1 (.slice (some ⟨gT, 0, none⟩) ((m.objs.getD i default).tries.set 0 v).length ct) ((m.objs.getD i default).tries.set 0 v).length (((m.objs.getD i default).tries.set 0 v).map iv)
          rw [List.length_set, hnt, List.map_set]
          exact hset
      · rename_i hik
        obtain ⟨A, c2, e1, e2⟩ := h.em.tries (k := i) (by omega)
        refine ⟨A, c2, e1, e2.kept hgr (hap _ ?_)⟩
        rw [← e1, ← hat]
        rcases Nat.lt_or_gt_of_ne hik with hlt | hgt
        · exact h.em.dj.t i k hk hlt
        · exact (h.em.dj.t k i (by omega) hgt).symm
  have hmem := getD_memE (es := m.objs) (k := k) (by rw [hol]; exact hk)
  have h64 := h.lt.m64.objs _ hmem
  have hom : OM N (wx.setCell ⟨gT, 0, none⟩ (iv v)) { m with objs := m.objs.set k { m.objs.getD k default with tries := (m.objs.getD k default).tries.set 0 v } } Ad nd cd Ao no co ts := ⟨hd, h.em.o.dl, hoe, by show (m.objs.set k _).length = no; rw [List.length_set]; exact hol⟩
  exact ⟨h.em.x.far (p := ⟨gT, 0, none⟩) (h.em.x.neT hr (by decide)) _, hom.base h.hN, h.z.far (p := ⟨gT, 0, none⟩) (h.z.neT hr (by decide)) _, h.be.setCell (p := (⟨gT, 0, none⟩ : Addr)) (Nat.le_trans h.hN hb) _,
    h.lt.setE ⟨h64.1, h64.2.1, fun z hz => by rcases List.mem_or_eq_of_mem_set hz with h1 | rfl; exact h64.2.2 z h1; exact hv⟩ (show (m.objs.getD k default).name.length ≤ 2000 from Nat.le_trans (h.lt.nm _ hmem) (by omega)) (by show ((m.objs.getD k default).tries.set 0 v).length ≤ 2000; rw [List.length_set]; exact Nat.le_trans (h.lt.tr _ hmem) (by omega))⟩
end
end Go.Proofs.YtbpimfhachbcdaaDoor

