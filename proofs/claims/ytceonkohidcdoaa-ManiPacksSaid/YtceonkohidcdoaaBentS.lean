/- A copy of a manifest, of which one part is turned. -/
import Derived.Test.YtceonkohidcdoaaManiEdit
namespace Wells
open Go Go.RowKit
/-- a manifest that is not too long -/
structure Lt (N : Nat) (m : Mani) : Prop where
  m64 : M64 m
  nm : ∀ e ∈ m.objs, e.name.length ≤ N
  tr : ∀ e ∈ m.objs, e.tries.length ≤ N
  dl : m.drives.length ≤ N
  ol : m.objs.length ≤ N
theorem Lt.more {N N' : Nat} {m : Mani} (h : Lt N m) (hn : N ≤ N') : Lt N' m := ⟨h.m64, fun e he => Nat.le_trans (h.nm e he) hn, fun e he => Nat.le_trans (h.tr e he) hn, Nat.le_trans h.dl hn, Nat.le_trans h.ol hn⟩
theorem getD_memE {es : List Ent} {k : Nat} (h : k < es.length) : es.getD k default ∈ es := by
  rw [List.getD_eq_getElem?_getD, List.getElem?_eq_getElem h, Option.getD_some]
  exact List.getElem_mem _
theorem Lt.setE {m : Mani} {k : Nat} {e' : Ent} (h : Lt 1000 m) (h' : i64 e'.obj ∧ i64 e'.len ∧ ∀ z ∈ e'.tries, i64 z) (hn : e'.name.length ≤ 2000) (ht : e'.tries.length ≤ 2000) : Lt 2000 { m with objs := m.objs.set k e' } := by
  have key : ∀ e ∈ m.objs.set k e', e ∈ m.objs ∨ e = e' := fun e he => List.mem_or_eq_of_mem_set he
  refine ⟨⟨h.m64.seq, h.m64.next, h.m64.K, h.m64.H, h.m64.S, h.m64.extra, h.m64.drives, fun e he => ?_⟩, fun e he => ?_, fun e he => ?_, Nat.le_trans h.dl (by omega), by show (m.objs.set k e').length ≤ 2000; rw [List.length_set]; exact Nat.le_trans h.ol (by omega)⟩
  · rcases key e he with h1 | rfl
    · exact h.m64.objs e h1
    · exact h'
  · rcases key e he with h1 | rfl
    · exact Nat.le_trans (h.nm e h1) (by omega)
    · exact hn
  · rcases key e he with h1 | rfl
    · exact Nat.le_trans (h.tr e h1) (by omega)
    · exact ht
theorem Lt.pushE {m : Mani} {e' : Ent} (h : Lt 1000 m) (h' : i64 e'.obj ∧ i64 e'.len ∧ ∀ z ∈ e'.tries, i64 z) (hn : e'.name.length ≤ 2000) (ht : e'.tries.length ≤ 2000) : Lt 2000 { m with objs := m.objs ++ [e'] } := by
  have key : ∀ e ∈ m.objs ++ [e'], e ∈ m.objs ∨ e = e' := fun e he => by
    rcases List.mem_append.1 he with h1 | h1
    · exact .inl h1
    · exact .inr (List.mem_singleton.1 h1)
  refine ⟨⟨h.m64.seq, h.m64.next, h.m64.K, h.m64.H, h.m64.S, h.m64.extra, h.m64.drives, fun e he => ?_⟩, fun e he => ?_, fun e he => ?_, Nat.le_trans h.dl (by omega), by show (m.objs ++ [e']).length ≤ 2000; rw [List.length_append]; have := h.ol; show _ + 1 ≤ 2000; omega⟩
  · rcases key e he with h1 | rfl
    · exact h.m64.objs e h1
    · exact h'
  · rcases key e he with h1 | rfl
    · exact Nat.le_trans (h.nm e h1) (by omega)
    · exact hn
  · rcases key e he with h1 | rfl
    · exact Nat.le_trans (h.tr e h1) (by omega)
    · exact ht
theorem Lt.growD {m : Mani} {z : Int} (h : Lt 1000 m) (hz : i64 z) : Lt 2000 { m with drives := m.drives ++ [z] } := by
  refine ⟨⟨h.m64.seq, h.m64.next, h.m64.K, h.m64.H, h.m64.S, h.m64.extra, fun x hx => ?_, h.m64.objs⟩, fun e he => Nat.le_trans (h.nm e he) (by omega), fun e he => Nat.le_trans (h.tr e he) (by omega), by show (m.drives ++ [z]).length ≤ 2000; rw [List.length_append]; have := h.dl; show _ + 1 ≤ 2000; omega, Nat.le_trans h.ol (by omega)⟩
  rcases List.mem_append.1 hx with h1 | h1
  · exact h.m64.drives x h1
  · rw [List.mem_singleton.1 h1]; exact hz
theorem entsC_same : ∀ (es : List Ent) (ts : List Value) (k : Nat) (e' : Ent), (∀ v, e'.cells v = (es.getD k default).cells v) → entsC (es.set k e') ts = entsC es ts
  | e :: es, t :: ts, 0, e', h => by
    simp only [List.set_cons_zero, entsC]
    have := h t
    simp only [List.getD_eq_getElem?_getD, List.getElem?_cons_zero, Option.getD_some] at this
    rw [this]
  | e :: es, t :: ts, k + 1, e', h => by
    simp only [List.set_cons_succ, entsC]
    rw [entsC_same es ts k e' (fun v => by have := h v; simpa using this)]
  | [], _, _, _, _ => rfl
  | _ :: _, [], 0, _, _ => rfl
  | _ :: _, [], _ + 1, _, _ => rfl
end Wells
namespace Go.Proofs.Ytceonkohidcdoaa
open Go.RowKit Wells
theorem own_bel {base size n : Nat} {w w' : World} {e : TypeId} {v : Value} {xs : List Value} (h : w.ownsRow base e size v n xs) (hb : Below w.heap.size w w') : w'.ownsRow base e size v n xs := h.kept (grown_of_below hb none) (by cases v.ownBlock <;> simp)
theorem OM.base {base base' : Nat} {w : World} {m : Mani} {Ad Ao : Option Addr} {nd cd no co : Nat} {ts : List Value} (h : OM base w m Ad nd cd Ao no co ts) (hb : base' ≤ base) : OM base' w m Ad nd cd Ao no co ts :=
  ⟨own_base h.d hb, h.dl, ⟨own_base h.o.own hb, h.o.tl, fun i hi => by
    obtain ⟨A, c, e, ho⟩ := h.o.at_ i hi
    exact ⟨A, c, e, own_base ho hb⟩⟩, h.ol⟩
/-- behind the turn -/
structure BS (w0 wx : World) (g3 g6 : Nat) (m : Mani) (Ad : Option Addr) (nd cd : Nat) (Ao : Option Addr) (no co : Nat) (ts : List Value) : Prop where
  x : Row wx g3 27 [.int .i64 m.seq, .int .i64 m.next, .int .i64 m.P.K, .int .i64 m.P.H, .int .i64 m.P.S, .int .i64 m.extra, .slice Ad nd cd, .slice Ao no co]
  o : OM w0.heap.size wx m Ad nd cd Ao no co ts
  z : Row wx g6 27 [.int .i64 0, .int .i64 0, .int .i64 0, .int .i64 0, .int .i64 0, .int .i64 0, .slice none 0 0, .slice none 0 0]
  be : Below w0.heap.size w0 wx
  lt : Lt 2000 m
/-- ahead of it -/
structure EB (w0 wx : World) (g3 g6 N : Nat) (m : Mani) (Ad : Option Addr) (nd cd : Nat) (Ao : Option Addr) (no co : Nat) (ts : List Value) : Prop where
  em : EM N wx g3 m Ad nd cd Ao no co ts
  z : Row wx g6 27 [.int .i64 0, .int .i64 0, .int .i64 0, .int .i64 0, .int .i64 0, .int .i64 0, .slice none 0 0, .slice none 0 0]
  be : Below w0.heap.size w0 wx
  hN : w0.heap.size ≤ N
  hg : w0.heap.size ≤ g3
  ne : g3 ≠ g6
  lt : Lt 1000 m
section
variable {w0 wx wA wy : World} {g3 g6 N : Nat} {m : Mani} {Ad Ao : Option Addr} {nd cd no co : Nat} {ts : List Value}
theorem EB.below (h : EB w0 wx g3 g6 N m Ad nd cd Ao no co ts) (hb : Below wx.heap.size wx wA) : EB w0 wA g3 g6 N m Ad nd cd Ao no co ts := ⟨h.em.below hb, h.z.below hb h.z.lt, h.be.trans (hb.mono h.be.size), h.hN, h.hg, h.ne, h.lt⟩
theorem EB.done (h : EB w0 wx g3 g6 N m Ad nd cd Ao no co ts) : BS w0 wx g3 g6 m Ad nd cd Ao no co ts := ⟨h.em.x, h.em.o.base h.hN, h.z, h.be, h.lt.more (by omega)⟩
/-- a number of the manifest is written -/
theorem EB.setM (h : EB w0 wx g3 g6 N m Ad nd cd Ao no co ts) (i : Nat) (u : Value) (m' : Mani)
    (hc : [.int .i64 m'.seq, .int .i64 m'.next, .int .i64 m'.P.K, .int .i64 m'.P.H, .int .i64 m'.P.S, .int .i64 m'.extra, .slice Ad nd cd, .slice Ao no co] = ([.int .i64 m.seq, .int .i64 m.next, .int .i64 m.P.K, .int .i64 m.P.H, .int .i64 m.P.S, .int .i64 m.extra, .slice Ad nd cd, .slice Ao no co] : List Value).set i u)
    (hd : m'.drives = m.drives) (ho : m'.objs = m.objs) (h6 : i64 m'.seq ∧ i64 m'.next ∧ i64 m'.P.K ∧ i64 m'.P.H ∧ i64 m'.P.S ∧ i64 m'.extra) : BS w0 (wx.setCell ⟨g3, i, none⟩ u) g3 g6 m' Ad nd cd Ao no co ts := by
  have hx := h.em.x.set i u
  rw [← hc] at hx
  have hom := h.em.o.base h.hN
  refine ⟨hx, ⟨by rw [hd]; exact hom.d.far_ h.em.x (by decide) i u, by rw [hd]; exact hom.dl, ?_, by rw [ho]; exact hom.ol⟩, h.z.far (p := ⟨g3, i, none⟩) h.ne.symm u, h.be.setCell (p := (⟨g3, i, none⟩ : Addr)) h.hg u, ?_⟩
  · rw [ho]
    exact hom.o.other (row_set_grown _ _ _ _) h.em.x (by decide) (by decide)
  · exact ⟨⟨h6.1, h6.2.1, h6.2.2.1, h6.2.2.2.1, h6.2.2.2.2.1, h6.2.2.2.2.2, by rw [hd]; exact h.lt.m64.drives, by rw [ho]; exact h.lt.m64.objs⟩, by rw [ho]; exact fun e he => Nat.le_trans (h.lt.nm e he) (by omega), by rw [ho]; exact fun e he => Nat.le_trans (h.lt.tr e he) (by omega), by rw [hd]; exact Nat.le_trans h.lt.dl (by omega), by rw [ho]; exact Nat.le_trans h.lt.ol (by omega)⟩
/-- a cell of an entry is written -/
theorem EB.setE {gO k j : Nat} (h : EB w0 wx g3 g6 N m Ad nd cd (some ⟨gO, 0, none⟩) no co ts) (hk : k < no) (hj : j < 4) (u : Value) (e' : Ent) (tv' : Value)
    (hcs : e'.cells tv' = ((m.objs.getD k default).cells (ts.getD k undef)).set j u) (hto : ∃ A c', tv' = .slice A e'.tries.length c' ∧ wx.ownsRow N 3 1 tv' e'.tries.length (e'.tries.map iv))
    (htb : tv'.ownBlock = (ts.getD k undef).ownBlock ∨ tv'.ownBlock = none) (h' : i64 e'.obj ∧ i64 e'.len ∧ ∀ z ∈ e'.tries, i64 z) (hn : e'.name.length ≤ 2000) (ht : e'.tries.length ≤ 2000) :
    BS w0 (wx.setCell ⟨gO, k * 4 + j, none⟩ u) g3 g6 { m with objs := m.objs.set k e' } Ad nd cd (some ⟨gO, 0, none⟩) no co (ts.set k tv') := by
  have he := h.em.setE hk hj u e' tv' hcs hto htb
  obtain ⟨_, cur, e, hb, hr, _⟩ := h.em.gO (by omega)
  injection e with e
  injection e with e _ _
  subst e
  exact ⟨he.x, he.o.base h.hN, h.z.far (p := ⟨gO, k * 4 + j, none⟩) (h.z.neT hr (by decide)) u, h.be.setCell (p := (⟨gO, k * 4 + j, none⟩ : Addr)) (Nat.le_trans h.hN hb) u, h.lt.setE h' hn ht⟩
/-- the tries of one entry grow -/
theorem EB.growT {gO k : Nat} {tv8 : Value} {z : List Int} (h0 : EB w0 wx g3 g6 N m Ad nd cd (some ⟨gO, 0, none⟩) no co ts) (hb : Below wx.heap.size wx wA) (hk : k < no)
    (hg : wA.grownBy wy (ts.getD k undef).ownBlock) (h8 : ∃ A8 c8, tv8 = .slice A8 z.length c8 ∧ wy.ownsRow N 3 1 tv8 z.length (z.map iv)) (wh : tv8.ownBlock = (ts.getD k undef).ownBlock ∨ tv8.ownBlock = some wA.heap.size) (hz : ∀ x ∈ z, i64 x) (hzl : z.length ≤ 2000) :
    (∃ cur, Row wy gO 52 cur ∧ cur[k * 4 + 3]? = some (ts.getD k undef)) ∧ Row wy g3 27 [.int .i64 m.seq, .int .i64 m.next, .int .i64 m.P.K, .int .i64 m.P.H, .int .i64 m.P.S, .int .i64 m.extra, .slice Ad nd cd, .slice (some ⟨gO, 0, none⟩) no co] ∧
    BS w0 (wy.setCell ⟨gO, k * 4 + 3, none⟩ tv8) g3 g6 { m with objs := m.objs.set k { m.objs.getD k default with tries := z } } Ad nd cd (some ⟨gO, 0, none⟩) no co (ts.set k tv8) := by
  have h := h0.below hb
  obtain ⟨h1, h2, h3⟩ := h.em.growT hk hg h8 wh
  obtain ⟨_, cur, e, hbO, hr, _⟩ := h.em.gO (by omega)
  injection e with e
  injection e with e _ _
  subst e
  obtain ⟨cur', hr', hc'⟩ := h1
  obtain ⟨Ak, ck, ek, hok⟩ := h.em.tries hk
  have hg' := hg
  rw [ek] at hg'
  have hz' := h.z.ownx hok hg' (by decide)
  have hmem := getD_memE (es := m.objs) (k := k) (by rw [h.em.o.ol]; exact hk)
  have h64 := h.lt.m64.objs _ hmem
  exact ⟨⟨cur', hr', hc'⟩, h2, h3.x, h3.o.base h.hN, hz'.far (p := ⟨gO, k * 4 + 3, none⟩) (hz'.neT hr' (by decide)) tv8,
    (below_own h.be hok hg' h.hN h.be.size).setCell (p := (⟨gO, k * 4 + 3, none⟩ : Addr)) (Nat.le_trans h.hN hbO) tv8, h.lt.setE ⟨h64.1, h64.2.1, hz⟩ (show (m.objs.getD k default).name.length ≤ 2000 from Nat.le_trans (h.lt.nm _ hmem) (by omega)) hzl⟩
/-- the drives grow -/
theorem EB.growD {A8 : Option Addr} {c8 : Nat} {z : Int} (h0 : EB w0 wx g3 g6 N m Ad nd cd Ao no co ts) (hb : Below wx.heap.size wx wA) (hg : wA.grownBy wy (Value.slice Ad nd cd).ownBlock)
    (o8 : wy.ownsRow N 3 1 (.slice A8 (nd + 1) c8) (nd + 1) ((m.drives ++ [z]).map iv)) (hz : i64 z) :
    Row wy g3 27 [.int .i64 m.seq, .int .i64 m.next, .int .i64 m.P.K, .int .i64 m.P.H, .int .i64 m.P.S, .int .i64 m.extra, .slice Ad nd cd, .slice Ao no co] ∧
    BS w0 (wy.setCell ⟨g3, 6, none⟩ (.slice A8 (nd + 1) c8)) g3 g6 { m with drives := m.drives ++ [z] } A8 (nd + 1) c8 Ao no co ts := by
  have h := h0.below hb
  have hx := h.em.x.ownx h.em.o.d hg (by decide)
  have hq := h.z.ownx h.em.o.d hg (by decide)
  have hoe : OEs N wy (.slice Ao no co) ts m.objs := ⟨h.em.o.o.own.kept hg (own_other h.em.o.o.own h.em.o.d (by decide)), h.em.o.o.tl, fun i hi => by
    obtain ⟨A, c, e, ho⟩ := h.em.o.o.at_ i hi
    refine ⟨A, c, e, ho.kept hg ?_⟩
    have := h.em.dj.d i (by rw [← h.em.o.ol]; exact hi)
    rw [e] at this
    exact this⟩
  have hom : OM N (wy.setCell ⟨g3, 6, none⟩ (.slice A8 (nd + 1) c8)) { m with drives := m.drives ++ [z] } A8 (nd + 1) c8 Ao no co ts :=
    ⟨o8.far_ hx (by decide) 6 _, by show (m.drives ++ [z]).length = nd + 1; rw [List.length_append, h.em.o.dl]; rfl, hoe.other (row_set_grown _ _ _ _) hx (by decide) (by decide), h.em.o.ol⟩
  exact ⟨hx, hx.set 6 _, hom.base h.hN, hq.far (p := ⟨g3, 6, none⟩) h.ne.symm _, (below_own h.be h.em.o.d hg h.hN h.be.size).setCell (p := (⟨g3, 6, none⟩ : Addr)) h.hg _, h.lt.growD hz⟩
/-- an entry comes behind -/
theorem EB.pushE {A8 : Option Addr} {c8 : Nat} {x : Ent} {At : Option Addr} {ct : Nat} (h0 : EB w0 wx g3 g6 N m Ad nd cd Ao no co ts) (hb : Below wx.heap.size wx wA) (hg : wA.grownBy wy (Value.slice Ao no co).ownBlock)
    (o8 : wy.ownsRow N 52 4 (.slice A8 (no + 1) c8) (no + 1) (entsC m.objs ts ++ x.cells (.slice At x.tries.length ct))) (hxo : wx.ownsRow N 3 1 (.slice At x.tries.length ct) x.tries.length (x.tries.map iv))
    (h' : i64 x.obj ∧ i64 x.len ∧ ∀ z ∈ x.tries, i64 z) (hn : x.name.length ≤ 2000) (ht : x.tries.length ≤ 2000) :
    Row wy g3 27 [.int .i64 m.seq, .int .i64 m.next, .int .i64 m.P.K, .int .i64 m.P.H, .int .i64 m.P.S, .int .i64 m.extra, .slice Ad nd cd, .slice Ao no co] ∧
    BS w0 (wy.setCell ⟨g3, 7, none⟩ (.slice A8 (no + 1) c8)) g3 g6 { m with objs := m.objs ++ [x] } Ad nd cd A8 (no + 1) c8 (ts ++ [.slice At x.tries.length ct]) := by
  have h := h0.below hb
  have hxA : wA.ownsRow N 3 1 (.slice At x.tries.length ct) x.tries.length (x.tries.map iv) := hxo.kept (grown_of_below hb none) (by cases (Value.slice At x.tries.length ct).ownBlock <;> simp)
  have how := h.em.o.o.own
  rw [h.em.o.ol] at how
  have hx := h.em.x.ownx how hg (by decide)
  have hq := h.z.ownx how hg (by decide)
  have hd := h.em.o.d.kept hg (own_other h.em.o.d how (by decide))
  have hp := h.em.o.o.push (x := x) (tv := .slice At x.tries.length ct) rfl hxA (by rw [h.em.o.ol]; exact o8) hg
  have hom : OM N (wy.setCell ⟨g3, 7, none⟩ (.slice A8 (no + 1) c8)) { m with objs := m.objs ++ [x] } Ad nd cd A8 (no + 1) c8 (ts ++ [.slice At x.tries.length ct]) :=
    ⟨hd.far_ hx (by decide) 7 _, h.em.o.dl, hp.other (row_set_grown _ _ _ _) hx (by decide) (by decide), by show (m.objs ++ [x]).length = no + 1; rw [List.length_append, h.em.o.ol]; rfl⟩
  exact ⟨hx, hx.set 7 _, hom.base h.hN, hq.far (p := ⟨g3, 7, none⟩) h.ne.symm _, (below_own h.be how hg h.hN h.be.size).setCell (p := (⟨g3, 7, none⟩ : Addr)) h.hg _, h.lt.pushE h' hn ht⟩
/-- the first try of an entry is written -/
theorem EB.setT {gT k nt ct : Nat} {v : Int} (h : EB w0 wx g3 g6 N m Ad nd cd Ao no co ts) (hk : k < no) (hat : ts.getD k undef = .slice (some ⟨gT, 0, none⟩) nt ct) (hnt : (m.objs.getD k default).tries.length = nt) (h0 : 0 < nt) (hv : i64 v) :
    BS w0 (wx.setCell ⟨gT, 0, none⟩ (iv v)) g3 g6 { m with objs := m.objs.set k { m.objs.getD k default with tries := (m.objs.getD k default).tries.set 0 v } } Ad nd cd Ao no co ts := by
  obtain ⟨Ak, ck, ek, hok⟩ := h.em.tries hk
  rw [hat] at ek
  injection ek with e1 _ e2
  subst e1 e2
  rw [hnt] at hok
  obtain ⟨g', c', cur, e, hb, hr, _, _, _, _⟩ := own_rowS hok h0
  injection e with e _ _
  injection e with e
  injection e with e _ _
  subst e
  have hset := own_setS (i := 0) hok h0 (iv v)
  have hgr := row_set_grown wx gT 0 (iv v)
  have hap : ∀ u : Value, Apart u (.slice (some ⟨gT, 0, none⟩) nt ct) → u.ownBlock = none ∨ u.ownBlock ≠ some gT := fun u hu => hu
  have hd : (wx.setCell ⟨gT, 0, none⟩ (iv v)).ownsRow N 3 1 (.slice Ad nd cd) nd (m.drives.map iv) := h.em.o.d.kept hgr (hap _ (by rw [← hat]; exact (h.em.dj.d k hk).symm))
  have hol : m.objs.length = no := h.em.o.ol
  have hoe : OEs N (wx.setCell ⟨gT, 0, none⟩ (iv v)) (.slice Ao no co) ts (m.objs.set k { m.objs.getD k default with tries := (m.objs.getD k default).tries.set 0 v }) := by
    refine ⟨?_, by rw [List.length_set]; exact h.em.o.o.tl, fun i hi => ?_⟩
    · rw [entsC_same m.objs ts k { m.objs.getD k default with tries := (m.objs.getD k default).tries.set 0 v } (fun v => rfl), List.length_set]
      exact h.em.o.o.own.far_ hr (by decide) 0 (iv v)
    · rw [List.length_set] at hi
      rw [getD_setE (by omega)]
      split
      · rename_i hik
        subst hik
        refine ⟨some ⟨gT, 0, none⟩, ct, ?_, ?_⟩
        · show ts.getD i undef = .slice (some ⟨gT, 0, none⟩) ((m.objs.getD i default).tries.set 0 v).length ct
          rw [hat, List.length_set, hnt]
        · show (wx.setCell ⟨gT, 0, none⟩ (iv v)).ownsRow N 3 1 (.slice (some ⟨gT, 0, none⟩) ((m.objs.getD i default).tries.set 0 v).length ct) ((m.objs.getD i default).tries.set 0 v).length (((m.objs.getD i default).tries.set 0 v).map iv)
          rw [List.length_set, hnt, List.map_set]
          exact hset
      · rename_i hik
        obtain ⟨A, c2, e1, e2⟩ := h.em.tries (k := i) (by omega)
        refine ⟨A, c2, e1, e2.kept hgr (hap _ ?_)⟩
        rw [← e1, ← hat]
        rcases Nat.lt_or_gt_of_ne hik with hlt | hgt
        · exact h.em.dj.t i k hk hlt
        · exact (h.em.dj.t k i (by omega) hgt).symm
  have hmem := getD_memE (es := m.objs) (k := k) (by rw [hol]; exact hk)
  have h64 := h.lt.m64.objs _ hmem
  have hom : OM N (wx.setCell ⟨gT, 0, none⟩ (iv v)) { m with objs := m.objs.set k { m.objs.getD k default with tries := (m.objs.getD k default).tries.set 0 v } } Ad nd cd Ao no co ts := ⟨hd, h.em.o.dl, hoe, by show (m.objs.set k _).length = no; rw [List.length_set]; exact hol⟩
  exact ⟨h.em.x.far (p := ⟨gT, 0, none⟩) (h.em.x.neT hr (by decide)) _, hom.base h.hN, h.z.far (p := ⟨gT, 0, none⟩) (h.z.neT hr (by decide)) _, h.be.setCell (p := (⟨gT, 0, none⟩ : Addr)) (Nat.le_trans h.hN hb) _,
    h.lt.setE ⟨h64.1, h64.2.1, fun z hz => by rcases List.mem_or_eq_of_mem_set hz with h1 | rfl; exact h64.2.2 z h1; exact hv⟩ (show (m.objs.getD k default).name.length ≤ 2000 from Nat.le_trans (h.lt.nm _ hmem) (by omega)) (by show ((m.objs.getD k default).tries.set 0 v).length ≤ 2000; rw [List.length_set]; exact Nat.le_trans (h.lt.tr _ hmem) (by omega))⟩
end
end Go.Proofs.Ytceonkohidcdoaa
