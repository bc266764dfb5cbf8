/- A manifest of one's own, of which one part is changed. -/
import Derived.Test.YtceonkohidcdoaaCopyMani
namespace Wells
open Go Go.RowKit
theorem entsC_set : ∀ (es : List Ent) (ts : List Value) (k j : Nat) (u : Value) (e' : Ent) (tv' : Value), es.length = ts.length → k < es.length → j < 4 → e'.cells tv' = ((es.getD k default).cells (ts.getD k undef)).set j u → entsC (es.set k e') (ts.set k tv') = (entsC es ts).set (k * 4 + j) u
  | e :: es, t :: ts, 0, j, u, e', tv', _, _, hj, h => by
    simp only [List.set_cons_zero, entsC, Nat.zero_mul, Nat.zero_add]
    rw [List.set_append_left _ _ (by show j < 4; exact hj), h]
    rfl
  | e :: es, t :: ts, k + 1, j, u, e', tv', hl, hk, hj, h => by
    simp only [List.set_cons_succ, entsC]
    rw [entsC_set es ts k j u e' tv' (by simpa using hl) (by simpa using hk) hj h, List.set_append_right _ _ (by show 4 ≤ _; omega)]
    show _ = _ ++ (entsC es ts).set ((k + 1) * 4 + j - 4) u
    rw [show (k + 1) * 4 + j - 4 = k * 4 + j by omega]
  | [], _, _, _, _, _, _, _, hk, _, _ => by simp at hk
  | _ :: _, [], _, _, _, _, _, hl, _, _, _ => by simp at hl
theorem own_rowS {w : World} {base size n : Nat} {t : TypeId} {v : Value} {xs : List Value} (h : w.ownsRow base t size v n xs) (hn : 0 < n) :
    ∃ g c cur, v = .slice (some ⟨g, 0, none⟩) n c ∧ base ≤ g ∧ Row w g t cur ∧ cur.length = c * size ∧ cur.take (n * size) = xs ∧ n ≤ c ∧ c ≤ maxLen := by
  rcases h.2 with ⟨hv, h0⟩ | ⟨g, cap, cur, hv, hb, hg, hn', hc, hs, ht⟩
  · omega
  · exact ⟨g, cap, cur.toList, hv, hb, by simpa [Row] using hg, by simpa using hs, by simpa using ht, hn', hc⟩
theorem own_setS {w : World} {base size n c g i : Nat} {t : TypeId} {xs : List Value} (h : w.ownsRow base t size (.slice (some ⟨g, 0, none⟩) n c) n xs) (hn : 0 < n) (u : Value) :
    (w.setCell ⟨g, i, none⟩ u).ownsRow base t size (.slice (some ⟨g, 0, none⟩) n c) n (xs.set i u) := by
  obtain ⟨g', c', cur, e, hb, hr, hcl, hct, hnc, hcm⟩ := own_rowS h hn
  injection e with e e2 e3
  injection e with e
  injection e with e _ _
  subst e e3
  refine ⟨by rw [List.length_set]; exact h.1, .inr ⟨g, c, (cur.set i u).toArray, rfl, hb, hr.set i _, hnc, hcm, by simpa using hcl, ?_⟩⟩
  rw [← hct]
  simp only [List.toList_toArray, List.take_set]
/-- the front of a list of one's own -/
theorem own_front {w : World} {base n c m : Nat} {A : Option Addr} {t : TypeId} {xs : List Value} (h : w.ownsRow base t 1 (.slice A n c) n xs) (hm : m ≤ n) (h0 : 0 < n) : w.ownsRow base t 1 (.slice A m c) m (xs.take m) := by
  obtain ⟨g', c', cur, e, hb, hr, hcl, hct, hnc, hcm⟩ := own_rowS h h0
  injection e with e e2 e3
  subst e e3
  have hl := h.1
  refine ⟨by rw [List.length_take]; omega, .inr ⟨g', c, cur.toArray, rfl, hb, hr, by omega, hcm, by simpa using hcl, ?_⟩⟩
  rw [← hct]
  simp only [List.toList_toArray, Nat.mul_one, List.take_take]
  rw [Nat.min_eq_left hm]
end Wells
namespace Go.Proofs.Ytceonkohidcdoaa
open Go.RowKit Wells
/-- one cell of one entry is written; that entry's tries may be others by then -/
theorem OEs.edit {base : Nat} {w : World} {gO n c : Nat} {ts : List Value} {es : List Ent} {k j : Nat} (u : Value) (e' : Ent) (tv' : Value)
    (ho : w.ownsRow base 52 4 (.slice (some ⟨gO, 0, none⟩) n c) n (entsC es ts)) (hl : es.length = n) (htl : ts.length = n)
    (hat : ∀ i, i < n → i ≠ k → ∃ A c, ts.getD i undef = .slice A (es.getD i default).tries.length c ∧ w.ownsRow base 3 1 (.slice A (es.getD i default).tries.length c) (es.getD i default).tries.length ((es.getD i default).tries.map iv))
    (hk : k < n) (hj : j < 4)
    (hcs : e'.cells tv' = ((es.getD k default).cells (ts.getD k undef)).set j u) (hto : ∃ A c', tv' = .slice A e'.tries.length c' ∧ w.ownsRow base 3 1 tv' e'.tries.length (e'.tries.map iv)) :
    OEs base (w.setCell ⟨gO, k * 4 + j, none⟩ u) (.slice (some ⟨gO, 0, none⟩) n c) (ts.set k tv') (es.set k e') := by
  obtain ⟨g', c', cur, e, hb, hr, _⟩ := own_rowS ho (by omega)
  injection e with e _ _
  injection e with e
  injection e with e _ _
  subst e
  refine ⟨?_, by simp [hl, htl], fun i hi => ?_⟩
  · rw [entsC_set es ts k j u e' tv' (by omega) (by omega) hj hcs, List.length_set, hl]
    exact own_setS ho (by omega) u
  · rw [List.length_set] at hi
    rw [getD_setV (by omega), getD_setE (by omega)]
    split
    · obtain ⟨A, c2, e1, e2⟩ := hto
      exact ⟨A, c2, e1, by rw [← e1]; exact e2.far_ hr (by decide) _ u⟩
    · rename_i hik
      obtain ⟨A, c2, e1, e2⟩ := hat i (by omega) hik
      exact ⟨A, c2, e1, e2.far_ hr (by decide) _ u⟩
theorem OEs.blk {base : Nat} {w : World} {gO n c : Nat} {ts : List Value} {es : List Ent} (h : OEs base w (.slice (some ⟨gO, 0, none⟩) n c) ts es) (hn : es.length = n) (h0 : 0 < n) : ∃ cur, Row w gO 52 cur ∧ base ≤ gO := by
  have ho := h.own
  rw [hn] at ho
  obtain ⟨g', c', cur, e, hb, hr, _⟩ := own_rowS ho h0
  injection e with e _ _
  injection e with e
  injection e with e _ _
  subst e
  exact ⟨cur, hr, hb⟩
/-- the entries stay while the tries of the k-th grow -/
theorem OEs.keptT {base : Nat} {w w' : World} {v : Value} {ts : List Value} {es : List Ent} {dv : Value} (h : OEs base w v ts es) (hdj : Dj ts dv es.length) {k : Nat} (hk : k < es.length) (hg : w.grownBy w' (ts.getD k undef).ownBlock) :
    w'.ownsRow base 52 4 v es.length (entsC es ts) ∧ ∀ i, i < es.length → i ≠ k → ∃ A c, ts.getD i undef = .slice A (es.getD i default).tries.length c ∧ w'.ownsRow base 3 1 (.slice A (es.getD i default).tries.length c) (es.getD i default).tries.length ((es.getD i default).tries.map iv) := by
  obtain ⟨Ak, ck, ek, hok⟩ := h.at_ k hk
  refine ⟨h.own.kept hg (by rw [ek]; exact own_other h.own hok (by decide)), fun i hi hne => ?_⟩
  obtain ⟨A, c, e, ho⟩ := h.at_ i hi
  refine ⟨A, c, e, ho.kept hg ?_⟩
  rw [← e]
  rcases Nat.lt_or_gt_of_ne hne with hlt | hgt
  · exact hdj.t i k hk hlt
  · exact (hdj.t k i hi hgt).symm
theorem _root_.Wells.Row.neT {w : World} {g g' : Nat} {t t' : TypeId} {cs cs' : List Value} (h : Row w g t cs) (h' : Row w g' t' cs') (hne : t ≠ t') : g ≠ g' := by
  rintro rfl
  unfold Row at h h'
  rw [h] at h'
  injection h' with h'
  injection h' with _ e _
  exact hne e
/-- a manifest in a cell of its own, its lists in blocks from base on, and apart -/
structure EM (base : Nat) (w : World) (g : Nat) (m : Mani) (Ad : Option Addr) (nd cd : Nat) (Ao : Option Addr) (no co : Nat) (ts : List Value) : Prop where
  x : Row w g 27 [.int .i64 m.seq, .int .i64 m.next, .int .i64 m.P.K, .int .i64 m.P.H, .int .i64 m.P.S, .int .i64 m.extra, .slice Ad nd cd, .slice Ao no co]
  o : OM base w m Ad nd cd Ao no co ts
  dj : Dj ts (.slice Ad nd cd) no
section
variable {base : Nat} {w w' : World} {g : Nat} {m : Mani} {Ad Ao : Option Addr} {nd cd no co : Nat} {ts : List Value}
theorem EM.below (h : EM base w g m Ad nd cd Ao no co ts) (hb : Below w.heap.size w w') : EM base w' g m Ad nd cd Ao no co ts := ⟨h.x.below hb h.x.lt, h.o.below hb, h.dj⟩
/-- what is written lies in blocks below it all -/
theorem EM.away {r : Option Nat} (h : EM base w g m Ad nd cd Ao no co ts) (hg : w.grownBy w' r) (hr : ∀ b, r = some b → b < base ∧ b ≠ g) : EM base w' g m Ad nd cd Ao no co ts := by
  have key : ∀ {e : TypeId} {size n : Nat} {v : Value} {xs : List Value}, w.ownsRow base e size v n xs → w'.ownsRow base e size v n xs := fun ho => ho.kept hg (by
    rename_i v _
    cases hv : v.ownBlock with
    | none => exact .inl rfl
    | some b =>
      right
      intro e
      have := (ho.lt b hv).1
      have := (hr b e.symm).1
      omega)
  refine ⟨h.x.grown hg (fun e => (hr g e.symm).2 rfl), ⟨key h.o.d, h.o.dl, ⟨key h.o.o.own, h.o.o.tl, fun i hi => ?_⟩, h.o.ol⟩, h.dj⟩
  obtain ⟨A, c, e, ho⟩ := h.o.o.at_ i hi
  exact ⟨A, c, e, key ho⟩
theorem EM.ts_len (h : EM base w g m Ad nd cd Ao no co ts) : ts.length = no := h.o.o.tl.trans h.o.ol
/-- where the entries lie -/
theorem EM.gO (h : EM base w g m Ad nd cd Ao no co ts) (h0 : 0 < no) : ∃ (gO : Nat) (cur : List Value), Ao = some ⟨gO, 0, none⟩ ∧ base ≤ gO ∧ Row w gO 52 cur ∧ no ≤ co ∧ co ≤ maxLen ∧ ∀ i, i < no → ∀ j, j < 4 → cur[i * 4 + j]? = ((m.objs.getD i default).cells (ts.getD i undef))[j]? := by
  have ho := h.o.o.own
  rw [h.o.ol] at ho
  obtain ⟨g', c', cur, e, hb, hr, hcl, hct, hnc, hcm⟩ := own_rowS ho h0
  injection e with e e2 e3
  subst e e3
  refine ⟨g', cur, rfl, hb, hr, hnc, hcm, fun i hi j hj => ?_⟩
  rw [← entsC_at m.objs ts i h.o.o.tl.symm (by rw [h.o.ol]; exact hi) j hj, ← hct, List.getElem?_take_of_lt (by omega)]
theorem EM.tries (h : EM base w g m Ad nd cd Ao no co ts) {k : Nat} (hk : k < no) : ∃ A c, ts.getD k undef = .slice A (m.objs.getD k default).tries.length c ∧ w.ownsRow base 3 1 (.slice A (m.objs.getD k default).tries.length c) (m.objs.getD k default).tries.length ((m.objs.getD k default).tries.map iv) := h.o.o.at_ k (by rw [h.o.ol]; exact hk)
theorem EM.lt (h : EM base w g m Ad nd cd Ao no co ts) : (∀ i, i < no → ∀ b, (ts.getD i undef).ownBlock = some b → b < w.heap.size) ∧ (∀ b, (Value.slice Ad nd cd).ownBlock = some b → b < w.heap.size) ∧ (∀ b, (Value.slice Ao no co).ownBlock = some b → b < w.heap.size) :=
  ⟨fun i hi b hb => by
    obtain ⟨A, c, e, ho⟩ := h.tries hi
    rw [e] at hb
    exact (ho.lt b hb).2, fun b hb => (h.o.d.lt b hb).2, fun b hb => (h.o.o.own.lt b hb).2⟩
/-- one cell of one entry is written -/
theorem EM.setE {gO k j : Nat} (h : EM base w g m Ad nd cd (some ⟨gO, 0, none⟩) no co ts) (hk : k < no) (hj : j < 4) (u : Value) (e' : Ent) (tv' : Value)
    (hcs : e'.cells tv' = ((m.objs.getD k default).cells (ts.getD k undef)).set j u) (hto : ∃ A c', tv' = .slice A e'.tries.length c' ∧ w.ownsRow base 3 1 tv' e'.tries.length (e'.tries.map iv))
    (htb : tv'.ownBlock = (ts.getD k undef).ownBlock ∨ tv'.ownBlock = none) :
    EM base (w.setCell ⟨gO, k * 4 + j, none⟩ u) g { m with objs := m.objs.set k e' } Ad nd cd (some ⟨gO, 0, none⟩) no co (ts.set k tv') := by
  have ho := h.o.o.own
  rw [h.o.ol] at ho
  obtain ⟨_, cur, e, hb, hr, _⟩ := h.gO (by omega)
  injection e with e
  injection e with e _ _
  subst e
  have hed := OEs.edit (k := k) (j := j) u e' tv' ho h.o.ol h.ts_len (fun i hi _ => h.tries hi) hk hj hcs hto
  refine ⟨h.x.far (p := ⟨gO, k * 4 + j, none⟩) (h.x.neT hr (by decide)) u, ⟨h.o.d.far_ hr (by decide) _ u, h.o.dl, hed, by simp [h.o.ol]⟩, ?_⟩
  have hl := h.lt
  exact h.dj.swap h.ts_len hk hl.1 hl.2.1 (htb.imp id .inl)
/-- the tries of one entry grow -/
theorem EM.growT {gO k : Nat} {tv8 : Value} {z : List Int} (h : EM base w g m Ad nd cd (some ⟨gO, 0, none⟩) no co ts) (hk : k < no)
    (hg : w.grownBy w' (ts.getD k undef).ownBlock) (h8 : ∃ A8 c8, tv8 = .slice A8 z.length c8 ∧ w'.ownsRow base 3 1 tv8 z.length (z.map iv)) (wh : tv8.ownBlock = (ts.getD k undef).ownBlock ∨ tv8.ownBlock = some w.heap.size) :
    (∃ cur, Row w' gO 52 cur ∧ cur[k * 4 + 3]? = some (ts.getD k undef)) ∧ Row w' g 27 [.int .i64 m.seq, .int .i64 m.next, .int .i64 m.P.K, .int .i64 m.P.H, .int .i64 m.P.S, .int .i64 m.extra, .slice Ad nd cd, .slice (some ⟨gO, 0, none⟩) no co] ∧
    EM base (w'.setCell ⟨gO, k * 4 + 3, none⟩ tv8) g { m with objs := m.objs.set k { m.objs.getD k default with tries := z } } Ad nd cd (some ⟨gO, 0, none⟩) no co (ts.set k tv8) := by
  obtain ⟨_, cur, e, hb, hr, hnc, _, hcur⟩ := h.gO (by omega)
  injection e with e
  injection e with e _ _
  subst e
  obtain ⟨Ak, ck, ek, hok⟩ := h.tries hk
  have hg' := hg
  rw [ek] at hg'
  have hkt := h.o.o.keptT (dv := .slice Ad nd cd) (by rw [h.o.ol]; exact h.dj) (by rw [h.o.ol]; exact hk) hg
  have ho := hkt.1
  rw [h.o.ol] at ho
  have hr' := hr.ownx hok hg' (by decide)
  have hx' := h.x.ownx hok hg' (by decide)
  have hd' := h.o.d.kept hg (h.dj.d k hk).symm
  have hed := OEs.edit (k := k) (j := 3) tv8 { m.objs.getD k default with tries := z } tv8 ho h.o.ol h.ts_len (fun i hi hne => hkt.2 i (by rw [h.o.ol]; exact hi) hne) hk (by omega) rfl h8
  refine ⟨⟨cur, hr', ?_⟩, hx', ⟨hx'.far (p := ⟨gO, k * 4 + 3, none⟩) (hx'.neT hr' (by decide)) tv8, ⟨hd'.far_ hr' (by decide) _ tv8, h.o.dl, hed, by simp [h.o.ol]⟩, ?_⟩⟩
  · rw [hcur k hk 3 (by omega)]; rfl
  · have hl := h.lt
    exact h.dj.swap h.ts_len hk hl.1 hl.2.1 (wh.imp id (fun e => .inr ⟨_, e, Nat.le_refl _⟩))
/-- an entry of another manifest is written -/
theorem EM.otherE {gO2 : Nat} {cur : List Value} (h : EM base w g m Ad nd cd Ao no co ts) (hr : Row w gO2 52 cur) (hne : ∀ b, (Value.slice Ao no co).ownBlock = some b → b ≠ gO2) (i : Nat) (u : Value) : EM base (w.setCell ⟨gO2, i, none⟩ u) g m Ad nd cd Ao no co ts := by
  refine ⟨h.x.far (p := ⟨gO2, i, none⟩) (h.x.neT hr (by decide)) u, ⟨h.o.d.far_ hr (by decide) i u, h.o.dl, ⟨?_, h.o.o.tl, fun j hj => ?_⟩, h.o.ol⟩, h.dj⟩
  · refine h.o.o.own.kept (row_set_grown w gO2 i u) ?_
    cases hv : (Value.slice Ao no co).ownBlock with
    | none => exact .inl rfl
    | some b => exact .inr (fun e => by injection e with e; exact hne b hv e)
  · obtain ⟨A, c, e, ho⟩ := h.o.o.at_ j hj
    exact ⟨A, c, e, ho.far_ hr (by decide) i u⟩
end
end Go.Proofs.Ytceonkohidcdoaa
