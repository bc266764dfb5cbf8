/- Do two answers of Peel tell the same? -/
import Derived.Test.YtmefbbpcfphciaaDoorSameEqs
namespace Wells
open Go Go.RowKit
/-- two ends of the same rows: both sound or both not -/
theorem both_sound {n D : Nat} {rows : List Eqn} {S T : PSt} (hr : Right n D rows) (hS : Wells.Reach n rows S) (hT : Wells.Reach n rows T) (fS : Final rows S) (fT : Final rows T) (h : Sound rows T) : S = T := vals_eq hr hS hT fS fT h
end Wells
namespace Go.Proofs.YtmefbbpcfphciaaDoor
open Go.RowKit Wells
theorem same12_is (k : List Bool) (u : List (List Byte)) (q : List Eqn) (vs1 vs2 : List Value) (ps1 ps2 : List (Value × Value)) (B : Nat) (A1 A2 A3 A4 A5 A6 : Option Addr) (n m p c1 c2 c3 c4 c5 c6 : Nat) (w : World) (h1 : Sl w B 1 A1 n (k.map Value.bool)) (h2 : Sl w B 1 A2 n (k.map Value.bool)) (h3 : RBs w B A3 m vs1 u) (h4 : RBs w B A4 m vs2 u) (h5 : REqs w B A5 p ps1 q) (h6 : REqs w B A6 p ps2 q)
    (hn : n ≤ 9223372036854775807) (hm : m ≤ 9223372036854775807) (hp : p ≤ 9223372036854775807) :
    Calls Tryd.prog 15 #[.slice A1 n c1, .slice A2 n c2, .slice A3 m c3, .slice A4 m c4, .slice A5 p c5, .slice A6 p c6] w fun e w' => e = .returned (.bool true) ∧ ∃ d, w' = w.drewN d := by
  have H1 := hid h1
  have H2 := hid h2
  have H3 := hid h3
  have H4 := hid h4
  have H5 := hid h5
  have H6 := hid h6
  clear h1 h2 h3 h4 h5 h6
  go_enter Tryd.func15, Tryd.ntmps15
  go_wp2_with fail
  refine (sameB_is true B A1 A2 k k n n c1 c2 w H1.out H2.out hn hn (decide_eq_true rfl)).mono ?_
  rintro e w1 ⟨rfl, d1, rfl⟩
  go_wp2_with fail
  refine (rows_is true B A3 A4 vs1 vs2 u u m m c3 c4 _ (H3.out.drewN d1) (H4.out.drewN d1) hm hm (decide_eq_true rfl)).mono ?_
  rintro e w2 ⟨rfl, d2, rfl⟩
  go_wp2_with fail
  refine (sameE_is true B A5 A6 ps1 ps2 q q p p c5 c6 _ (H5.out.below (below_drewN (Below.refl _ _) (d1 + d2))) (H6.out.below (below_drewN (Below.refl _ _) (d1 + d2))) hp hp (decide_eq_true rfl)).mono ?_
  rintro e w3 ⟨rfl, d3, rfl⟩
  go_wp2_with fail
  go_ret
  exact ⟨rfl, _, rfl⟩
end Go.Proofs.YtmefbbpcfphciaaDoor
