/- The program's drive and the document's, side by side. -/
import Derived.Test.YtcklnkilldeamaaRDrvSpoil
import Derived.Test.YtcklnkilldeamaaLaw22
import Derived.Test.YtcklnkilldeamaaDrvClone
namespace Wells
open Go Go.RowKit
theorem Pw.rarm_eq {s : Pw} {n : Int} (hn : 0 ≤ n) : s.rarm n = s.arm n := by
  unfold Pw.rarm Pw.arm
  split
  · rfl
  · rw [show max n 0 = n by omega]
theorem DOk.more {m m' : Nat} {d : Dr} (h : DOk m d) (hm : m ≤ m') : DOk m' d := ⟨h.room, h.len, h.lenB, h.wait, h.cells, h.cellsB, h.left, by have := h.offs; omega⟩
theorem DOk.rewrite {m : Nat} {d : Dr} {l : List (List Byte)} (h : DOk m d) (hl : l.length ≤ d.room) (hc : ∀ x ∈ l, x.length = 64) : DOk (m + 1) (d.rewrite l).1 := by
  have hs := Pw.step_ok h.left h.offs
  unfold Dr.rewrite
  split
  · exact h.up
  split
  · exact h.up
  split
  · exact h.up
  split
  · exact ⟨h.room, hl, Nat.zero_le _, Nat.zero_le _, hc, (fun x hx => by cases hx), hs.1, hs.2⟩
  · exact ⟨h.room, h.len, hl, h.wait, h.cells, hc, hs.1, hs.2⟩
theorem DOk.rewrite2 {m : Nat} {d : Dr} {l : List (List Byte)} (h : DOk m d) (hc : ∀ x ∈ l, x.length = 64) : DOk (m + 1) (d.rewrite l).1 := by
  by_cases hl : l.length ≤ d.room
  · exact h.rewrite hl hc
  · have : (d.rewrite l).1 = d := by
      unfold Dr.rewrite
      split
      · rfl
      · rw [if_pos (by omega)]
    rw [this]
    exact h.up
theorem DOk.lose {m : Nat} {d : Dr} (h : DOk m d) : DOk m d.lose := ⟨h.room, Nat.zero_le _, Nat.zero_le _, Nat.zero_le _, (fun x hx => by cases hx), (fun x hx => by cases hx), h.left, h.offs⟩
theorem DOk.spoil {m : Nat} {d : Dr} {i a k : Int} (h : DOk m d) : DOk m (d.spoil i a k).1 := by
  unfold Dr.spoil
  split
  · rename_i hc
    have hi : i.toNat < d.L.length := by omega
    refine ⟨h.room, (by show (d.L.set _ _).length ≤ d.room; rw [List.length_set]; exact h.len), h.lenB, (by show d.wait ≤ (d.L.set _ _).length; rw [List.length_set]; exact h.wait), fun x hx => ?_, h.cellsB, h.left, h.offs⟩
    rcases List.mem_or_eq_of_mem_set hx with h1 | rfl
    · exact h.cells x h1
    · rw [spoilL_len, List.getD_eq_getElem?_getD, List.getElem?_eq_getElem hi]
      exact h.cells _ (List.getElem_mem hi)
  · exact h
theorem fallen_len {d : Dr} {keep torn : Int} {m : Nat} (h : DOk m d) : (d.fallen keep torn).length ≤ d.room ∧ ∀ x ∈ d.fallen keep torn, x.length = 64 := by
  have hl := h.len
  have hw := h.wait
  have ht : ∀ n, ∀ x ∈ d.L.take n, x.length = 64 := fun n x hx => h.cells x (List.mem_of_mem_take hx)
  unfold Dr.fallen
  split
  · split
    · exact ⟨h.lenB, h.cellsB⟩
    · exact ⟨by rw [List.length_take]; omega, ht _⟩
  · split
    · rename_i hc
      refine ⟨by rw [List.length_append, List.length_take]; show _ + 1 ≤ _; omega, fun x hx => ?_⟩
      rcases List.mem_append.1 hx with h1 | h1
      · exact ht _ x h1
      · rw [List.mem_singleton.1 h1]
        unfold tornL
        have : (d.L.getD (d.L.length - d.wait + min keep.toNat d.wait) []).length = 64 := by
          rw [List.getD_eq_getElem?_getD, List.getElem?_eq_getElem (by omega)]
          exact h.cells _ (List.getElem_mem _)
        rw [List.length_append, List.length_take, List.length_replicate, this]
        omega
    · exact ⟨by rw [List.length_take]; omega, ht _⟩
theorem DOk.crash {m : Nat} {d : Dr} {k t : Int} (h : DOk m d) : DOk m (d.crash k t) :=
  ⟨h.room, (fallen_len h).1, Nat.zero_le _, Nat.zero_le _, (fallen_len h).2, (fun x hx => by cases hx), h.left, h.offs⟩
theorem DOk.arm {m : Nat} {d : Dr} {n : Int} (h : DOk m d) (hn : 0 ≤ n ∧ n ≤ 100) : DOk m { d with s := d.s.arm n } := by
  refine ⟨h.room, h.len, h.lenB, h.wait, h.cells, h.cellsB, ?_, ?_⟩
  · show 0 ≤ (d.s.arm n).left ∧ (d.s.arm n).left ≤ 9223372036854775807
    unfold Pw.arm
    split
    · exact h.left
    · show 0 ≤ max n 0 ∧ max n 0 ≤ 9223372036854775807
      omega
  · show 0 ≤ (d.s.arm n).offs ∧ (d.s.arm n).offs ≤ (m : Int)
    unfold Pw.arm
    split
    · exact h.offs
    · exact h.offs
theorem DOk.again {m : Nat} {d : Dr} (h : DOk m d) : DOk m { d with s := d.s.again } := ⟨h.room, h.len, h.lenB, h.wait, h.cells, h.cellsB, ⟨Int.le_refl _, (by show (0 : Int) ≤ 9223372036854775807; omega)⟩, h.offs⟩
end Wells
namespace Go.Proofs.Ytcklnkilldeamaa
open Go.RowKit Wells
theorem DrvE.ltp {F : Nat → Prop} {w : World} {g pg : Nat} {d : Dr} (h : DrvE F w g pg d) : ∀ k, F k → k < w.heap.size := by obtain ⟨_, _, _, _, h⟩ := h; exact h.lt
theorem DrvE.up {F : Nat → Prop} {w w1 : World} {g pg : Nat} {d : Dr} (h : DrvE F w1 g pg d) : DrvE (Ext F w w1) w1 g pg d := by
  obtain ⟨_, _, _, _, h⟩ := h
  exact ⟨_, _, _, _, h.more (fun k hk => .inl hk) (fun k hk => by rcases hk with hk | hk; exact h.lt k hk; exact hk.2)⟩
theorem RDrvE.up {F : Nat → Prop} {w w1 : World} {g pg : Nat} {d : Dr} (h : RDrvE F w1 g pg d) : RDrvE (Ext F w w1) w1 g pg d := by
  obtain ⟨_, _, _, _, h⟩ := h
  exact ⟨_, _, _, _, h.more (fun k hk => .inl hk) (fun k hk => by rcases hk with hk | hk; exact h.lt k hk; exact hk.2)⟩
theorem DrvE.powerp {F : Nat → Prop} {w w' : World} {g pg : Nat} {d : Dr} {s' : Pw} (h : DrvE F w g pg d) (hr : Row w' pg 58 (pw s')) (hg : w.grownBy w' (some pg)) : DrvE F w' g pg { d with s := s' } ∧ Only F w w' := by
  obtain ⟨_, _, _, _, h⟩ := h
  exact ⟨⟨_, _, _, _, h.power hr hg⟩, Only.of_grown hg (fun k e => by injection e with e; rw [← e]; exact h.fp)⟩
theorem RDrvE.powerp {F : Nat → Prop} {w w' : World} {g pg : Nat} {d : Dr} {s' : Pw} (h : RDrvE F w g pg d) (hr : Row w' pg 51 (pw s')) (hg : w.grownBy w' (some pg)) : RDrvE F w' g pg { d with s := s' } ∧ Only F w w' := by
  obtain ⟨_, _, _, _, h⟩ := h
  exact ⟨⟨_, _, _, _, h.power hr hg⟩, Only.of_grown hg (fun k e => by injection e with e; rw [← e]; exact h.fp)⟩
theorem DrvE.powp {F : Nat → Prop} {w : World} {g pg : Nat} {d : Dr} (h : DrvE F w g pg d) : Row w pg 58 (pw d.s) := by obtain ⟨_, _, _, _, h⟩ := h; exact h.pow
/-- the two, apart from one another, in new memory -/
structure HS (w0 w : World) (F G : Nat → Prop) (g pg gr qg : Nat) (d r : Dr) (m : Nat) : Prop where
  d_ : DrvE F w g pg d
  r_ : RDrvE G w gr qg r
  dj : ∀ k, F k → ¬ G k
  hF : ∀ k, F k → w0.heap.size ≤ k
  hG : ∀ k, G k → w0.heap.size ≤ k
  be : Below w0.heap.size w0 w
  okd : DOk m d
  okr : DOk m r
section
variable {w0 w w1 : World} {F G : Nat → Prop} {g pg gr qg : Nat} {d d' r r' : Dr} {m m' : Nat}
theorem HS.new_ (h : HS w0 w F G g pg gr qg d r m) (hb : Below w.heap.size w w1) : HS w0 w1 F G g pg gr qg d r m := ⟨h.d_.new_ hb, h.r_.new_ hb, h.dj, h.hF, h.hG, h.be.trans (hb.mono h.be.size), h.okd, h.okr⟩
theorem HS.prog (h : HS w0 w F G g pg gr qg d r m) (ho : Only F w w1) (hd : DrvE (Ext F w w1) w1 g pg d') (hok : DOk m' d') (hm : m ≤ m') : HS w0 w1 (Ext F w w1) G g pg gr qg d' r m' :=
  ⟨hd, h.r_.only ho (fun k hg hf => h.dj k hf hg), fun k hf hg => by
    rcases hf with hf | hf
    · exact h.dj k hf hg
    · have := h.r_.lt_ k hg; omega, fun k hf => by
    rcases hf with hf | hf
    · exact h.hF k hf
    · have := h.be.size; omega, h.hG, h.be.trans (ho.below h.hF h.be.size), hok, h.okr.more hm⟩
theorem HS.doc (h : HS w0 w F G g pg gr qg d r m) (ho : Only G w w1) (hr : RDrvE (Ext G w w1) w1 gr qg r') (hok : DOk m' r') (hm : m ≤ m') : HS w0 w1 F (Ext G w w1) g pg gr qg d r' m' :=
  ⟨h.d_.only ho (fun k hf hg => h.dj k hf hg), hr, fun k hf hg => by
    rcases hg with hg | hg
    · exact h.dj k hf hg
    · have := h.d_.ltp k hf; omega, h.hF, fun k hg => by
    rcases hg with hg | hg
    · exact h.hG k hg
    · have := h.be.size; omega, h.be.trans (ho.below h.hG h.be.size), h.okd.more hm, hok⟩
end
end Go.Proofs.Ytcklnkilldeamaa
