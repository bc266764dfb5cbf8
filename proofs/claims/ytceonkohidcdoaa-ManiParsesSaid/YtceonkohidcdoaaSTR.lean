/- What stands while a manifest is read. -/
import Derived.Test.YtceonkohidcdoaaST
import Derived.Test.YtceonkohidcdoaaRefReader
namespace Go.Proofs.Ytceonkohidcdoaa
open Go.RowKit Wells
theorem _root_.Wells.Row.ne_ {w : World} {g g' : Nat} {t t' : TypeId} {cs cs' : List Value} (h : Row w g t cs) (h' : Row w g' t' cs') (hne : t ≠ t') : g ≠ g' := by
  rintro rfl
  unfold Row at h h'
  rw [h] at h'
  injection h' with h'
  injection h' with _ e _
  exact hne e
structure SR (w wx : World) (B g0 gm gr : Nat) (sq nx : Int) (P : Par) (ex : Int) (Ad : Option Addr) (nd cd : Nat) (ds : List Int) (Ao : Option Addr) (no co : Nat) (ts : List Value) (es : List Ent) (st : RSt) : Prop where
  s : ST w wx g0 gm sq nx P ex Ad nd cd ds Ao no co ts es
  r : Rd 80 B wx gr st
  b : B ≤ w.heap.size
  gr_ : w.heap.size ≤ gr
  gm_ : w.heap.size ≤ gm
  g0_ : w.heap.size ≤ g0
  ne : gm ≠ g0
/-- all that stands lies below block N -/
structure SRlt (N g0 gm gr : Nat) (dv ov : Value) (ts : List Value) (n : Nat) : Prop where
  a : g0 < N
  b : gm < N
  c : gr < N
  d : ∀ b, dv.ownBlock = some b → b < N
  o : ∀ b, ov.ownBlock = some b → b < N
  t : ∀ i, i < n → ∀ b, (ts.getD i undef).ownBlock = some b → b < N
section
variable {w wx wy : World} {B g0 gm gr : Nat} {sq nx : Int} {P : Par} {ex : Int} {Ad : Option Addr} {nd cd : Nat} {ds : List Int} {Ao : Option Addr} {no co : Nat} {ts : List Value} {es : List Ent} {st st' : RSt}
theorem SR.num (h : SR w wx B g0 gm gr sq nx P ex Ad nd cd ds Ao no co ts es st) (hr : Rd 80 B wy gr st') (hg : wx.grownBy wy (some gr)) : SR w wy B g0 gm gr sq nx P ex Ad nd cd ds Ao no co ts es st' := by
  obtain ⟨_, _, _, h1, _⟩ := h.r
  refine ⟨⟨h.s.q.grown hg (fun e => ?_), h.s.x.grown hg (fun e => ?_), h.s.d.kept hg (own_far h.s.d h.r), h.s.o.other hg h1 (by decide) (by decide), h.s.ol, h.s.be.grown hg h.s.be.size (fun k hk => by injection hk with hk; have := h.gr_; omega)⟩, hr, h.b, h.gr_, h.gm_, h.g0_, h.ne⟩
  · injection e with e
    exact h.s.q.ne_ h1 (by decide) e
  · injection e with e
    exact h.s.x.ne_ h1 (by decide) e
theorem SR.below (h : SR w wx B g0 gm gr sq nx P ex Ad nd cd ds Ao no co ts es st) (hb : Below wx.heap.size wx wy) : SR w wy B g0 gm gr sq nx P ex Ad nd cd ds Ao no co ts es st :=
  ⟨h.s.below hb, h.r.keep hb (Nat.le_trans h.b h.s.be.size), h.b, h.gr_, h.gm_, h.g0_, h.ne⟩
theorem SR.gmr (h : SR w wx B g0 gm gr sq nx P ex Ad nd cd ds Ao no co ts es st) : gm ≠ gr := by
  obtain ⟨_, _, _, h1, _⟩ := h.r
  exact h.s.x.ne_ h1 (by decide)
theorem SR.setI {sq' nx' : Int} {P' : Par} {ex' : Int} (h : SR w wx B g0 gm gr sq nx P ex Ad nd cd ds Ao no co ts es st) (i : Nat) (u : Value)
    (e : ([.int .i64 sq, .int .i64 nx, .int .i64 P.K, .int .i64 P.H, .int .i64 P.S, .int .i64 ex, .slice Ad nd cd, .slice Ao no co] : List Value).set i u = [.int .i64 sq', .int .i64 nx', .int .i64 P'.K, .int .i64 P'.H, .int .i64 P'.S, .int .i64 ex', .slice Ad nd cd, .slice Ao no co]) :
    SR w (wx.setCell ⟨gm, i, none⟩ u) B g0 gm gr sq' nx' P' ex' Ad nd cd ds Ao no co ts es st := by
  have hx := h.s.x.set i u
  rw [e] at hx
  exact ⟨⟨h.s.q.far (p := ⟨gm, i, none⟩) h.ne.symm _, hx, h.s.d.far_ h.s.x (by decide) i _, h.s.o.other (row_set_grown _ _ _ _) h.s.x (by decide) (by decide), h.s.ol, h.s.be.setCell (p := (⟨gm, i, none⟩ : Addr)) h.gm_ _⟩, h.r.put_ h.gmr (Nat.le_trans h.b h.gm_) i u, h.b, h.gr_, h.gm_, h.g0_, h.ne⟩
theorem SR.lt (h : SR w wx B g0 gm gr sq nx P ex Ad nd cd ds Ao no co ts es st) : SRlt wx.heap.size g0 gm gr (.slice Ad nd cd) (.slice Ao no co) ts no :=
  ⟨h.s.q.lt, h.s.x.lt, h.r.lt.1, fun b hb => (h.s.d.lt b hb).2, fun b hb => (h.s.o.own.lt b hb).2, fun i hi b hb => by
    obtain ⟨A', c', e, ho⟩ := h.s.o.at_ i (by rw [h.s.ol]; exact hi)
    rw [e] at hb
    exact (ho.lt b hb).2⟩
theorem kept_up {base size n N : Nat} {e : TypeId} {v : Value} {xs : List Value} {r : Option Nat} (h : wx.ownsRow base e size v n xs) (hv : ∀ b, v.ownBlock = some b → b < N) (hg : wx.grownBy wy r) (hr : ∀ b, r = some b → N ≤ b) : wy.ownsRow base e size v n xs := by
  refine h.kept hg ?_
  cases hvb : v.ownBlock with
  | none => exact .inl rfl
  | some b =>
    refine .inr fun e2 => ?_
    have h1 := hv b hvb
    have h2 := hr b e2.symm
    omega
theorem row_up {g N : Nat} {t : TypeId} {cs : List Value} {r : Option Nat} (h : Row wx g t cs) (hv : g < N) (hg : wx.grownBy wy r) (hr : ∀ b, r = some b → N ≤ b) : Row wy g t cs :=
  h.grown hg (fun e => by have := hr g e.symm; omega)
theorem SR.up {N : Nat} {r : Option Nat} (h : SR w wx B g0 gm gr sq nx P ex Ad nd cd ds Ao no co ts es st) (hl : SRlt N g0 gm gr (.slice Ad nd cd) (.slice Ao no co) ts no) (hN : w.heap.size ≤ N) (hg : wx.grownBy wy r) (hr : ∀ b, r = some b → N ≤ b) : SR w wy B g0 gm gr sq nx P ex Ad nd cd ds Ao no co ts es st := by
  refine ⟨⟨row_up h.s.q hl.a hg hr, row_up h.s.x hl.b hg hr, kept_up h.s.d hl.d hg hr, ⟨kept_up h.s.o.own hl.o hg hr, h.s.o.tl, fun i hi => ?_⟩, h.s.ol, h.s.be.grown hg h.s.be.size (fun k hk => by have := hr k hk; omega)⟩, ?_, h.b, h.gr_, h.gm_, h.g0_, h.ne⟩
  · obtain ⟨A', c', e, ho⟩ := h.s.o.at_ i hi
    exact ⟨A', c', e, kept_up ho (fun b hb => hl.t i (by rw [← h.s.ol]; exact hi) b (by rw [e]; exact hb)) hg hr⟩
  · obtain ⟨A, n, c, h1, h2, h3, h4, h5, h6⟩ := h.r
    exact ⟨A, n, c, row_up h1 hl.c hg hr, h2.below ((Below.refl B wx).grown hg (Nat.le_trans h.b h.s.be.size) (fun k hk => by have := hr k hk; have := h.b; omega)), h3, h4, h5, h6⟩
end
/-- an entry that is read, beside it all -/
structure SE (N : Nat) (w wx : World) (B g0 gm gr : Nat) (sq nx : Int) (P : Par) (ex : Int) (Ad : Option Addr) (nd cd : Nat) (ds : List Int) (Ao : Option Addr) (no co : Nat) (ts : List Value) (es : List Ent) (st : RSt) (ge : Nat) (nm : List Byte) (ob ln : Int) (At : Option Addr) (nt ct : Nat) (trs : List Int) : Prop where
  s : SR w wx B g0 gm gr sq nx P ex Ad nd cd ds Ao no co ts es st
  re : Row wx ge 52 [.string (strB nm), .int .i64 ob, .int .i64 ln, .slice At nt ct]
  ot : wx.ownsRow N 3 1 (.slice At nt ct) nt (trs.map iv)
  tl : trs.length = nt
  hi : SRlt N g0 gm gr (.slice Ad nd cd) (.slice Ao no co) ts no
  N_ : w.heap.size ≤ N
  Nx : N ≤ wx.heap.size
  ge_ : N ≤ ge
section
variable {N : Nat} {w wx wy : World} {B g0 gm gr : Nat} {sq nx : Int} {P : Par} {ex : Int} {Ad : Option Addr} {nd cd : Nat} {ds : List Int} {Ao : Option Addr} {no co : Nat} {ts : List Value} {es : List Ent} {st st' : RSt} {ge : Nat} {nm nm' : List Byte} {ob ob' ln ln' : Int} {At At' : Option Addr} {nt ct nt' ct' : Nat} {trs trs' : List Int}
theorem SE.num (h : SE N w wx B g0 gm gr sq nx P ex Ad nd cd ds Ao no co ts es st ge nm ob ln At nt ct trs) (hr : Rd 80 B wy gr st') (hg : wx.grownBy wy (some gr)) : SE N w wy B g0 gm gr sq nx P ex Ad nd cd ds Ao no co ts es st' ge nm ob ln At nt ct trs := by
  obtain ⟨_, _, _, h1, _⟩ := h.s.r
  exact ⟨h.s.num hr hg, h.re.grown hg (fun e => by injection e with e; exact h.re.ne_ h1 (by decide) e), h.ot.kept hg (own_far h.ot h.s.r), h.tl, h.hi, h.N_, Nat.le_trans h.Nx hg.size, h.ge_⟩
theorem SE.below (h : SE N w wx B g0 gm gr sq nx P ex Ad nd cd ds Ao no co ts es st ge nm ob ln At nt ct trs) (hb : Below wx.heap.size wx wy) : SE N w wy B g0 gm gr sq nx P ex Ad nd cd ds Ao no co ts es st ge nm ob ln At nt ct trs :=
  ⟨h.s.below hb, h.re.below hb h.re.lt, h.ot.kept (grown_of_below hb none) (by cases (Value.slice At nt ct).ownBlock <;> simp), h.tl, h.hi, h.N_, Nat.le_trans h.Nx hb.size, h.ge_⟩
theorem SE.setE (h : SE N w wx B g0 gm gr sq nx P ex Ad nd cd ds Ao no co ts es st ge nm ob ln At nt ct trs) (i : Nat) (u : Value) (e : ([.string (strB nm), .int .i64 ob, .int .i64 ln, .slice At nt ct] : List Value).set i u = [.string (strB nm'), .int .i64 ob', .int .i64 ln', .slice At nt ct]) :
    SE N w (wx.setCell ⟨ge, i, none⟩ u) B g0 gm gr sq nx P ex Ad nd cd ds Ao no co ts es st ge nm' ob' ln' At nt ct trs := by
  have hx := h.re.set i u
  rw [e] at hx
  exact ⟨h.s.up h.hi h.N_ (row_set_grown wx ge i u) (fun b hb => by injection hb with hb; have := h.ge_; omega), hx, h.ot.far_ h.re (by decide) i u, h.tl, h.hi, h.N_, by have := h.Nx; simpa [World.setCell] using this, h.ge_⟩
theorem SE.push (h : SE N w wx B g0 gm gr sq nx P ex Ad nd cd ds Ao no co ts es st ge nm ob ln At nt ct trs) (hg : wx.grownBy wy (Value.slice At nt ct).ownBlock) (ho : wy.ownsRow N 3 1 (.slice At' nt' ct') nt' (trs'.map iv)) :
    Row wy ge 52 [.string (strB nm), .int .i64 ob, .int .i64 ln, .slice At nt ct] ∧ SE N w (wy.setCell ⟨ge, 3, none⟩ (.slice At' nt' ct')) B g0 gm gr sq nx P ex Ad nd cd ds Ao no co ts es st ge nm ob ln At' nt' ct' trs' := by
  have hre := h.re.ownx h.ot hg (by decide)
  refine ⟨hre, ?_⟩
  have hs := h.s.up h.hi h.N_ hg (fun b hb => (h.ot.lt b hb).1)
  exact ⟨hs.up h.hi h.N_ (row_set_grown wy ge 3 _) (fun b hb => by injection hb with hb; have := h.ge_; omega), hre.set 3 _, ho.far_ hre (by decide) 3 _, by have := ho.1; simpa using this, h.hi, h.N_, by have := h.Nx; have := hg.size; simp [World.setCell]; omega, h.ge_⟩
end
end Go.Proofs.Ytceonkohidcdoaa
namespace Go.Proofs.Ytceonkohidcdoaa
open Go.RowKit Wells
theorem Rd.bad_ {t : TypeId} {B g : Nat} {w : World} {st : RSt} (h : Rd t B w g st) : w.cell? ⟨g, 1, none⟩ = some (.bool st.2) := by
  obtain ⟨A, n, c, h1, _⟩ := h
  exact h1.cell 1
section
variable {w wx wy : World} {B g0 gm gr : Nat} {sq nx : Int} {P : Par} {ex : Int} {Ad : Option Addr} {nd cd : Nat} {ds : List Int} {Ao : Option Addr} {no co : Nat} {ts : List Value} {es : List Ent} {st st' : RSt}
theorem SR.drew_ (h : SR w wx B g0 gm gr sq nx P ex Ad nd cd ds Ao no co ts es st) : SR w wx.drew B g0 gm gr sq nx P ex Ad nd cd ds Ao no co ts es st := h.below (below_drewN (Below.refl _ _) 1)
theorem SR.alloc (h : SR w wx B g0 gm gr sq nx P ex Ad nd cd ds Ao no co ts es st) (o : Obj) : SR w (wx.alloc o) B g0 gm gr sq nx P ex Ad nd cd ds Ao no co ts es st := h.below ((Below.refl _ _).alloc (Nat.le_refl _) o)
theorem SR.pushD {Ad' : Option Addr} {nd' cd' : Nat} {ds' : List Int} (h : SR w wx B g0 gm gr sq nx P ex Ad nd cd ds none 0 0 [] [] st) (hg : wx.grownBy wy (Value.slice Ad nd cd).ownBlock) (ho : wy.ownsRow w.heap.size 3 1 (.slice Ad' nd' cd') nd' (ds'.map iv)) :
    Row wy gm 27 [.int .i64 sq, .int .i64 nx, .int .i64 P.K, .int .i64 P.H, .int .i64 P.S, .int .i64 ex, .slice Ad nd cd, .slice none 0 0] ∧ SR w (wy.setCell ⟨gm, 6, none⟩ (.slice Ad' nd' cd')) B g0 gm gr sq nx P ex Ad' nd' cd' ds' none 0 0 [] [] st :=
  ⟨h.s.x.ownx h.s.d hg (by decide), ⟨h.s.setD (OEs.nil_ _ _) hg ho h.ne h.gm_, (h.r.appd h.s.d hg (by decide) h.b).put_ h.gmr (Nat.le_trans h.b h.gm_) 6 _, h.b, h.gr_, h.gm_, h.g0_, h.ne⟩⟩
theorem SR.pushO {A8 : Option Addr} {c8 B2 : Nat} {cs : Array Value} {t : TypeId} {nm : List Byte} {ob ln : Int} {trs : List Int} {At : Option Addr} {j ct : Nat}
    (h : SR w wx B g0 gm gr sq nx P ex Ad nd cd ds Ao no co ts es st) (hot : wx.ownsRow B2 3 1 (.slice At j ct) j (trs.map iv)) (hB : w.heap.size ≤ B2)
    (o8 : wy.ownsRow w.heap.size 52 4 (.slice A8 (no + 1) c8) (no + 1) (entsC es ts ++ [.string (strB nm), .int .i64 ob, .int .i64 ln, .slice At j ct])) (g8 : (wx.alloc (.cells cs t)).grownBy wy (Value.slice Ao no co).ownBlock) :
    Row wy gm 27 [.int .i64 sq, .int .i64 nx, .int .i64 P.K, .int .i64 P.H, .int .i64 P.S, .int .i64 ex, .slice Ad nd cd, .slice Ao no co] ∧ SR w (wy.setCell ⟨gm, 7, none⟩ (.slice A8 (no + 1) c8)) B g0 gm gr sq nx P ex Ad nd cd ds A8 (no + 1) c8 (ts ++ [.slice At j ct]) (es ++ [⟨nm, ob, ln, trs⟩]) st := by
  have h1 := h.s.pushO (nm := nm) (ob := ob) (ln := ln) (trs := trs) hot hB o8 g8
  have how := (h.alloc (.cells cs t)).s.o.own
  rw [h.s.ol] at how
  exact ⟨h1.1, ⟨h1.2 h.ne h.gm_, ((h.alloc (.cells cs t)).r.appd how g8 (by decide) h.b).put_ h.gmr (Nat.le_trans h.b h.gm_) 7 _, h.b, h.gr_, h.gm_, h.g0_, h.ne⟩⟩
theorem SR.begin (h : SR w wx B g0 gm gr sq nx P ex Ad nd cd ds Ao no co ts es st) : SE wx.heap.size w (wx.alloc (.cells #[.string ⟨#[]⟩, .int .i64 0, .int .i64 0, .slice none 0 0] 52)) B g0 gm gr sq nx P ex Ad nd cd ds Ao no co ts es st wx.heap.size [] 0 0 none 0 0 [] :=
  ⟨h.alloc _, Row.new wx 52 _, World.ownsRow_nil _ _ _ _, rfl, h.lt, h.s.be.size, by simp, Nat.le_refl _⟩
end
section
variable {N : Nat} {w wx wy : World} {B g0 gm gr : Nat} {sq nx : Int} {P : Par} {ex : Int} {Ad : Option Addr} {nd cd : Nat} {ds : List Int} {Ao : Option Addr} {no co : Nat} {ts : List Value} {es : List Ent} {st st' : RSt} {ge : Nat} {nm nm' : List Byte} {ob ob' ln ln' : Int} {At At' : Option Addr} {nt ct nt' ct' : Nat} {trs trs' : List Int}
theorem SE.drew_ (h : SE N w wx B g0 gm gr sq nx P ex Ad nd cd ds Ao no co ts es st ge nm ob ln At nt ct trs) : SE N w wx.drew B g0 gm gr sq nx P ex Ad nd cd ds Ao no co ts es st ge nm ob ln At nt ct trs := h.below (below_drewN (Below.refl _ _) 1)
theorem SE.alloc (h : SE N w wx B g0 gm gr sq nx P ex Ad nd cd ds Ao no co ts es st ge nm ob ln At nt ct trs) (o : Obj) : SE N w (wx.alloc o) B g0 gm gr sq nx P ex Ad nd cd ds Ao no co ts es st ge nm ob ln At nt ct trs := h.below ((Below.refl _ _).alloc (Nat.le_refl _) o)
end
end Go.Proofs.Ytceonkohidcdoaa
