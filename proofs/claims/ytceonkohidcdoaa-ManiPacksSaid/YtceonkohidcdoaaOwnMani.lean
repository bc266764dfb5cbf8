/- Entries and manifests of one's own. -/
import Derived.Test.YtceonkohidcdoaaRdEnt2
namespace Go.Proofs.Ytceonkohidcdoaa
open Go.RowKit Wells
theorem infoE : (Try.prog.info? 52).map (fun i => (i.zero, i.size, i.bytes)) = some (some (.agg #[.string ⟨#[]⟩, .int .i64 0, .int .i64 0, .slice none 0 0]), 4, 56) := by kernel_rfl
/-- entries of the call's own -/
structure OEs (base : Nat) (w : World) (v : Value) (ts : List Value) (es : List Ent) : Prop where
  own : w.ownsRow base 52 4 v es.length (entsC es ts)
  tl : ts.length = es.length
  at_ : ∀ i, i < es.length → ∃ A c, ts.getD i undef = .slice A (es.getD i default).tries.length c ∧ w.ownsRow base 3 1 (.slice A (es.getD i default).tries.length c) (es.getD i default).tries.length ((es.getD i default).tries.map iv)
section
variable {base : Nat} {w w' : World} {v v' : Value} {ts : List Value} {es : List Ent}
theorem OEs.nil_ (base : Nat) (w : World) : OEs base w (.slice none 0 0) [] [] := ⟨World.ownsRow_nil _ _ _ _, rfl, fun i hi => absurd hi (by simp)⟩
theorem OEs.below (h : OEs base w v ts es) (hb : Below w.heap.size w w') : OEs base w' v ts es :=
  ⟨h.own.kept (grown_of_below hb none) (by cases v.ownBlock <;> simp), h.tl, fun i hi => by
    obtain ⟨A, c, e, ho⟩ := h.at_ i hi
    exact ⟨A, c, e, ho.kept (grown_of_below hb none) (by cases (Value.slice A _ c).ownBlock <;> simp)⟩⟩
theorem OEs.other {g : Nat} {t : TypeId} {cs : List Value} (h : OEs base w v ts es) (hg : w.grownBy w' (some g)) (hr : Row w g t cs) (h1 : 52 ≠ t) (h2 : 3 ≠ t) : OEs base w' v ts es :=
  ⟨h.own.kept hg (own_ne h.own hr h1), h.tl, fun i hi => by
    obtain ⟨A, c, e, ho⟩ := h.at_ i hi
    exact ⟨A, c, e, ho.kept hg (own_ne ho hr h2)⟩⟩
theorem OEs.drew_ (h : OEs base w v ts es) : OEs base w.drew v ts es := ⟨h.own, h.tl, h.at_⟩
theorem OEs.form (h : OEs base w v ts es) : ∃ A c, v = .slice A es.length c ∧ es.length ≤ c ∧ c ≤ 9223372036854775807 := by
  obtain ⟨A, c, e, h1, h2, _⟩ := own_slice h.own
  exact ⟨A, c, e, h1, h2⟩
theorem OEs.push {tv : Value} {x : Ent} (h : OEs base w v ts es) {A : Option Addr} {c : Nat} (htv : tv = .slice A x.tries.length c) (hx : w.ownsRow base 3 1 tv x.tries.length (x.tries.map iv))
    (ho : w'.ownsRow base 52 4 v' (es.length + 1) (entsC es ts ++ x.cells tv)) (hg : w.grownBy w' v.ownBlock) : OEs base w' v' (ts ++ [tv]) (es ++ [x]) := by
  refine ⟨by rw [entsC_snoc x tv es ts h.tl.symm]; simpa using ho, by simp [h.tl], fun i hi => ?_⟩
  simp only [List.length_append, List.length_singleton] at hi
  by_cases hlt : i < es.length
  · rw [List.getD_eq_getElem?_getD, List.getD_eq_getElem?_getD, List.getElem?_append_left (by rw [h.tl]; exact hlt), List.getElem?_append_left hlt, ← List.getD_eq_getElem?_getD, ← List.getD_eq_getElem?_getD]
    obtain ⟨A', c', e, ho'⟩ := h.at_ i hlt
    exact ⟨A', c', e, ho'.kept hg (own_other ho' h.own (by decide))⟩
  · have he : i = es.length := by omega
    subst he
    rw [List.getD_eq_getElem?_getD, List.getD_eq_getElem?_getD, List.getElem?_append_right (by rw [h.tl]; exact Nat.le_refl _), List.getElem?_append_right (Nat.le_refl _), h.tl]
    simp only [Nat.sub_self, List.getElem?_cons_zero, Option.getD_some]
    exact ⟨A, c, htv, by rw [← htv]; exact hx.kept hg (own_other hx h.own (by decide))⟩
theorem OEs.read {A : Option Addr} {n c : Nat} (h : OEs base w (.slice A n c) ts es) (hn : es.length = n) : REs w w.heap.size A n ts es := by
  subst hn
  refine ⟨Sl.own h.own, rfl, h.tl, fun i hi => ?_⟩
  obtain ⟨A', c', e, ho⟩ := h.at_ i hi
  have hc := own_cap ho
  exact ⟨A', c', e, hc.1, hc.2, Sl.own ho⟩
end
/-- a manifest's two lists, of the call's own -/
structure OM (base : Nat) (w : World) (m : Mani) (Ad : Option Addr) (nd cd : Nat) (Ao : Option Addr) (no co : Nat) (ts : List Value) : Prop where
  d : w.ownsRow base 3 1 (.slice Ad nd cd) nd (m.drives.map iv)
  dl : m.drives.length = nd
  o : OEs base w (.slice Ao no co) ts m.objs
  ol : m.objs.length = no
theorem OM.read {base : Nat} {w : World} {m : Mani} {Ad Ao : Option Addr} {nd cd no co : Nat} {ts : List Value} (h : OM base w m Ad nd cd Ao no co ts) : RM w w.heap.size m Ad nd cd Ao no co ts := by
  refine ⟨Sl.own h.d, h.dl, own_cap h.d, h.o.read h.ol, ?_⟩
  have := h.o.own
  rw [h.ol] at this
  exact own_cap this
theorem OM.below {base : Nat} {w w' : World} {m : Mani} {Ad Ao : Option Addr} {nd cd no co : Nat} {ts : List Value} (h : OM base w m Ad nd cd Ao no co ts) (hb : Below w.heap.size w w') : OM base w' m Ad nd cd Ao no co ts :=
  ⟨h.d.kept (grown_of_below hb none) (by cases (Value.slice Ad nd cd).ownBlock <;> simp), h.dl, h.o.below hb, h.ol⟩
end Go.Proofs.Ytceonkohidcdoaa
