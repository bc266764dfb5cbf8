/- A region that draws its order, walked in an order of one's own: what only reads is taken first, wanted or not; a call where nothing else may come up. -/
import Derived.Test.YtceonkohidcdoaaHeldN
namespace Wells
open Go Go.RowKit
section
variable {P : Program} {md : Region.Mode} {ops : Array Oper} {Q : Exit → Act → World → Prop} {S : World → Prop}
/-- what is left of a region, and the order in which it is walked -/
def Ord (P : Program) (md : Region.Mode) (ops : Array Oper) (Q : Exit → Act → World → Prop) (S : World → Prop) (_order : List Nat) (fuel : Nat) (listed : Array Bool) (a : Act) (w : World) : Prop := wpAnyH P md ops Q S fuel listed a w
theorem Ord.begin {id : Nat} {a : Act} {w : World} (order : List Nat) (hm : P.follows .mixedOrders = true) (hS : S w.drew)
    (h : S w.drew → Ord P .any ops Q S order ops.size (Array.replicate ops.size false) a w.drew) : (Code.region id ops true).wp P Q a w := wp_region_held_drew hm hS h
theorem Ord.no {i fuel : Nat} {order : List Nat} {listed : Array Bool} {a : Act} {w : World} {oi : Oper} (hi : ops.toList[i]? = some oi)
    (hs : Region.noSelect ops = true) (hf : Region.free md ops listed i = true) (hr : (Region.ready md ops listed).contains i = true)
    (hQ : ∀ c a w, Q (.panic c) (a.put oi.dst undef) w → Q (.panic c) a w) (hw : Region.wanted oi (yielded ops a.tmps) = false) (hS : S w)
    (h : Ord P md ops Q S order fuel (listed.setIfInBounds i true) (a.put oi.dst undef) w) : Ord P md ops Q S (i :: order) (fuel + 1) listed a w :=
  wpAnyH_take (by simpa using hi) hs hf hr hQ (Or.inr ⟨hw, rfl⟩) hS h
theorem Ord.yes {i fuel : Nat} {order : List Nat} {listed : Array Bool} {a : Act} {w : World} {oi : Oper} {v : Value} (hi : ops.toList[i]? = some oi)
    (hs : Region.noSelect ops = true) (hf : Region.free md ops listed i = true) (hr : (Region.ready md ops listed).contains i = true)
    (hQ : ∀ c a w, Q (.panic c) (a.put oi.dst v) w → Q (.panic c) a w) (hw : Region.wanted oi (yielded ops a.tmps) = true) (hS : S w) (hy : ∀ w, S w → (execOp a.eval oi).run P w = .ok (.value v) w)
    (h : Ord P md ops Q S order fuel (listed.setIfInBounds i true) (a.put oi.dst v) w) : Ord P md ops Q S (i :: order) (fuel + 1) listed a w :=
  wpAnyH_take (by simpa using hi) hs hf hr hQ (Or.inl ⟨hw, hy⟩) hS h
theorem Ord.go {i fuel : Nat} {order : List Nat} {listed : Array Bool} {a : Act} {w : World} {oi : Oper} (hi : ops.toList[i]? = some oi) (hr : Region.ready md ops listed = [i]) (hw : Region.wanted oi (yielded ops a.tmps) = true)
    (h : ∀ K' : Act → World → Prop, Shut (∀ a w, S w → (S w → Ord P md ops Q S order fuel (listed.setIfInBounds i true) a w) → K' a w) → Oper.wp P oi a w K' Q) : Ord P md ops Q S (i :: order) (fuel + 1) listed a w :=
  wpAnyH_ready hr (by simp) (AllReadyH.cons (by simpa using hi) (fun K' hK => by rw [if_pos hw]; exact h K' hK) AllReadyH.nil)
theorem Ord.done {fuel : Nat} {listed : Array Bool} {a : Act} {w : World} (hr : Region.ready md ops listed = []) (h : Q .normal a w) : Ord P md ops Q S [] fuel listed a w := wpAnyH_done hr h fuel
end
end Wells
