/- Parameters: which may be; the size of a block; how many blocks. -/
import Derived.Test.YtceonkohidcdoaaWithin
import Derived.BigGuardPart
namespace Wells
open Go Go.RowKit
/-- parameters of a code -/
structure Par where
  K : Int
  H : Int
  S : Int
def Par.val (p : Par) : Value := .agg #[.int .i64 p.K, .int .i64 p.H, .int .i64 p.S]
def Par.Ok (p : Par) : Prop := 1 ≤ p.K ∧ p.K ≤ 16 ∧ 1 ≤ p.H ∧ p.H ≤ 4 ∧ 1 ≤ p.S ∧ p.S ≤ 24
def Par.may (p : Par) : Bool := decide (1 ≤ p.K ∧ p.K ≤ 16 ∧ 1 ≤ p.H ∧ p.H ≤ 4 ∧ 1 ≤ p.S ∧ p.S ≤ 24)
theorem Par.may_ok {p : Par} (h : p.may = true) : p.Ok := by unfold Par.may at h; unfold Par.Ok; exact of_decide_eq_true h
theorem Par.ok_may {p : Par} (h : p.Ok) : p.may = true := by unfold Par.Ok at h; unfold Par.may; exact decide_eq_true h
def Par.size (p : Par) : Int := p.K * p.S
theorem Par.size_le {p : Par} (h : p.Ok) : 1 ≤ p.size ∧ p.size ≤ 384 := by
  obtain ⟨h1, h2, _, _, h5, h6⟩ := h
  unfold Par.size
  constructor
  · have := Int.mul_le_mul h1 h5 (by omega) (by omega)
    omega
  · have := Int.mul_le_mul h2 h6 (by omega) (by omega)
    omega
/-- how many blocks hold n bytes -/
def countP (p : Par) (n : Int) : Int := if p.may = true ∧ 0 < n then (n - 1) / p.size + 1 else 0
theorem countP_no {p : Par} {n : Int} (h : ¬ (p.may = true ∧ 0 < n)) : countP p n = 0 := if_neg h
theorem countP_yes {p : Par} {n : Int} (h : p.may = true) (hn : 0 < n) : countP p n = (n - 1) / p.size + 1 := if_pos ⟨h, hn⟩
theorem countP_le (p : Par) (n : Int) : 0 ≤ countP p n ∧ (0 ≤ n → countP p n ≤ n) := by
  unfold countP
  split
  · rename_i h
    have := (Par.size_le (Par.may_ok h.1)).1
    have h1 : 0 ≤ (n - 1) / p.size := Int.ediv_nonneg (by omega) (by omega)
    have h2 : (n - 1) / p.size ≤ n - 1 := Int.ediv_le_self _ (by omega)
    omega
  · omega
/-- parameters in three cells at the head of block g -/
def PCells (w : World) (g : Nat) (p : Par) : Prop := w.cell? ⟨g, 0, none⟩ = some (.int .i64 p.K) ∧ w.cell? ⟨g, 1, none⟩ = some (.int .i64 p.H) ∧ w.cell? ⟨g, 2, none⟩ = some (.int .i64 p.S)
theorem PCells.keep {w w' : World} {g B : Nat} {p : Par} (h : PCells w g p) (hb : Below B w w') (hg : g < B) : PCells w' g p :=
  ⟨(hb.cell (p := ⟨g, 0, none⟩) hg).trans h.1, (hb.cell (p := ⟨g, 1, none⟩) hg).trans h.2.1, (hb.cell (p := ⟨g, 2, none⟩) hg).trans h.2.2⟩
theorem PCells.new (w : World) (p : Par) (t : TypeId) : PCells (w.alloc (.cells #[.int .i64 p.K, .int .i64 p.H, .int .i64 p.S] t)) w.heap.size p :=
  ⟨World.cell?_alloc_at _ _ _ _ rfl, World.cell?_alloc_at _ _ _ _ rfl, World.cell?_alloc_at _ _ _ _ rfl⟩
theorem PCells.lt {w : World} {g : Nat} {p : Par} (h : PCells w g p) : g < w.heap.size := World.block_lt_of_cell? w _ h.1
end Wells
namespace Go.Proofs.Ytceonkohidcdoaa
open Go.RowKit Wells
theorem premay_any (p : Par) (r : Bool) (w : World) (hr : p.may = r) : Calls Try.prog 39 #[p.val] w fun e w' => e = .returned (.bool r) ∧ Below w.heap.size w w' := by
  obtain ⟨K, H, S⟩ := p
  unfold Par.val
  have HR := hid hr
  clear hr
  go_enter Try.func39, Try.ntmps39
  go_wp2
  all_goals (go_ret; exact ⟨ret_bool (by rw [← HR.out]; unfold Par.may; dsimp only; first | (refine decide_eq_decide.2 ?_; omega) | (refine (decide_eq_false ?_).symm; omega)), (Below.refl _ _).alloc (Nat.le_refl _) _⟩)
theorem refmay_any (p : Par) (r : Bool) (w : World) (hr : p.may = r) : Calls Try.prog 44 #[p.val] w fun e w' => e = .returned (.bool r) ∧ Below w.heap.size w w' := by
  obtain ⟨K, H, S⟩ := p
  unfold Par.val
  have HR := hid hr
  clear hr
  go_enter Try.func44, Try.ntmps44
  go_wp2
  all_goals (go_ret; exact ⟨ret_bool (by rw [← HR.out]; unfold Par.may; dsimp only; first | (refine decide_eq_decide.2 ?_; omega) | (refine (decide_eq_false ?_).symm; omega)), (Below.refl _ _).alloc (Nat.le_refl _) _⟩)
end Go.Proofs.Ytceonkohidcdoaa
