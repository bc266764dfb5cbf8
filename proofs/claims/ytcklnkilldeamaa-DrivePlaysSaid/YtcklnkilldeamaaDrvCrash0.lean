/- Crash: what it comes to. -/
import Derived.Test.YtcklnkilldeamaaDrvApp2
import Derived.ArgAppend
namespace Wells
open Go Go.RowKit
def tornL (c : List Byte) (torn : Int) : List Byte := c.take (min torn.toNat 64) ++ List.replicate (64 - min torn.toNat 64) 0#8
def Dr.fallen (d : Dr) (keep torn : Int) : List (List Byte) :=
  if d.has = true then (if 0 < keep then d.B else d.L.take (d.L.length - d.wait))
  else if min keep.toNat d.wait < d.wait ∧ 0 < torn then d.L.take (d.L.length - d.wait + min keep.toNat d.wait) ++ [tornL (d.L.getD (d.L.length - d.wait + min keep.toNat d.wait) []) torn]
  else d.L.take (d.L.length - d.wait + min keep.toNat d.wait)
def Dr.crash (d : Dr) (keep torn : Int) : Dr := { d with L := d.fallen keep torn, wait := 0, B := [], has := false }
end Wells
namespace Go.Proofs.Ytcklnkilldeamaa
open Go.RowKit Wells
theorem OBs.take_ {base : Nat} {w : World} {A : Option Addr} {n c m : Nat} {vs : List Value} {ls : List (List Byte)} (h : OBs base w (.slice A n c) vs ls) (hn : ls.length = n) (hm : m ≤ n) : OBs base w (.slice A m c) (vs.take m) (ls.take m) := by
  have hl : vs.length = n := by have := h.own.1; omega
  have hlt : (ls.take m).length = m := by simp; omega
  refine ⟨?_, fun i hi => ?_⟩
  · rw [hlt]
    refine ⟨by simp; omega, ?_⟩
    rcases h.own.2 with ⟨hv, h0⟩ | ⟨g, cap, cur, hv, hg, hh, h1, h2, h3, h4⟩
    · injection hv with e1 e2 e3
      subst e1 e2 e3
      have : m = 0 := by omega
      subst this
      exact .inl ⟨rfl, rfl⟩
    · injection hv with e1 e2 e3
      subst e1 e3
      refine .inr ⟨g, c, cur, rfl, hg, hh, by omega, h2, h3, ?_⟩
      rw [← h4]
      simp only [Nat.mul_one]
      rw [List.take_take, hn]
      congr 1
      omega
  · rw [hlt] at hi
    have := h.at_ i (by omega)
    rw [List.getD_eq_getElem?_getD, List.getD_eq_getElem?_getD] at this ⊢
    rw [List.getElem?_take, List.getElem?_take, if_pos hi, if_pos hi]
    exact this
theorem Lst.take_ {F : Nat → Prop} {w : World} {A : Option Addr} {n c m : Nat} {vs : List Value} {ls : List (List Byte)} (h : Lst F w (.slice A n c) vs ls) (hn : ls.length = n) (hm : m ≤ n) : Lst F w (.slice A m c) (vs.take m) (ls.take m) :=
  ⟨h.own.take_ hn hm, fun k hk => h.iv k (by cases A <;> exact hk), fun x hx => h.is x (List.mem_of_mem_take hx)⟩
theorem dist_take {a b : List Value} (h : Dist (a ++ b)) (m : Nat) : Dist (a.take m) := (dist_left h).sublist (List.take_sublist m a)
theorem dist_right {a b : List Value} (h : Dist (a ++ b)) : Dist b := (List.pairwise_append.1 h).2.1
/-- the four stores at the end of a fall -/
theorem crash_end {F : Nat → Prop} {w : World} {g pg : Nat} {lv bv lv' : Value} {lvs' : List Value} {d : Dr} {L' : List (List Byte)} (row : Row w g 60 (drRow pg d lv bv)) (pow : Row w pg 58 (pw d.s)) (fg : F g) (fp : F pg) (lt : ∀ k, F k → k < w.heap.size) (hl : Lst F w lv' lvs' L') (hd : Dist lvs') :
    Drv F ((((w.setCell ⟨g, 2, none⟩ lv').setCell ⟨g, 3, none⟩ (.int .i64 0)).setCell ⟨g, 4, none⟩ (.slice none 0 0)).setCell ⟨g, 5, none⟩ (.bool false)) g pg lv' lvs' (.slice none 0 0) [] { d with L := L', wait := 0, B := [], has := false } := by
  have hne : pg ≠ g := fun e => row_ne row pow (by decide) e.symm
  have r2 := row.set 2 lv'
  have r3 := r2.set 3 (.int .i64 0)
  have r4 := r3.set 4 (.slice none 0 0)
  have r5 := r4.set 5 (.bool false)
  exact ⟨r5, (((pow.far hne _).far hne _).far hne _).far hne _, fg, fp, fun k hk => by simpa [World.setCell] using lt k hk, (((hl.far row (by decide) (by decide) _ _).far r2 (by decide) (by decide) _ _).far r3 (by decide) (by decide) _ _).far r4 (by decide) (by decide) _ _, Lst.nil_ _ _, (fun k _ e => by cases e), by rw [List.append_nil]; exact hd⟩
theorem OBs.snoc_new {base : Nat} {w w' : World} {v v' xv : Value} {vs : List Value} {ls : List (List Byte)} {x : List Byte} (h : OBs base w v vs ls) (hb : Below w.heap.size w w') (ho : w'.ownsRow base 28 1 v' (ls.length + 1) (vs ++ [xv])) (hx : OB base w' xv x) : OBs base w' v' (vs ++ [xv]) (ls ++ [x]) := by
  have hlen : vs.length = ls.length := by have := h.own.1; omega
  refine ⟨by simpa using ho, fun i hi => ?_⟩
  simp only [List.length_append, List.length_singleton] at hi
  by_cases hlt : i < ls.length
  · rw [List.getD_eq_getElem?_getD, List.getD_eq_getElem?_getD, List.getElem?_append_left (by omega), List.getElem?_append_left hlt, ← List.getD_eq_getElem?_getD, ← List.getD_eq_getElem?_getD]
    exact (h.at_ i hlt).below hb
  · have he : i = ls.length := by omega
    subst he
    rw [List.getD_eq_getElem?_getD, List.getD_eq_getElem?_getD, List.getElem?_append_right (by omega), List.getElem?_append_right (by omega)]
    simp only [hlen, Nat.sub_self, List.getElem?_cons_zero, Option.getD_some]
    exact hx
theorem torn_row {x : List Byte} (hx : x.length = 64) {torn : Int} {tn : Nat} (ht : min torn.toNat 64 = tn) : splice (List.replicate 64 (Value.int .u8 0)) 0 (((x.take tn).map bv8).take 64) = (tornL x torn).map bv8 := by
  unfold tornL splice
  rw [ht, List.map_append, List.map_replicate]
  have hl : ((x.take tn).map bv8).length = tn := by simp; omega
  rw [show ((x.take tn).map bv8).take 64 = (x.take tn).map bv8 from List.take_of_length_le (by rw [hl]; omega), hl]
  simp only [List.take_zero, List.nil_append, Nat.zero_add, List.drop_replicate]
  rfl
theorem torn_len {x : List Byte} (hx : x.length = 64) (torn : Int) : (tornL x torn).length = 64 := by unfold tornL; simp; omega
theorem crash_out {F : Nat → Prop} {w : World} {g pg : Nat} {lv bv : Value} {lvs bvs : List Value} {d : Dr} {a2 a3 a4 a5 : Addr} {v2 v3 v4 v5 : Value} (h : Drv F ((((w.setCell a2 v2).setCell a3 v3).setCell a4 v4).setCell a5 v5) g pg lv lvs bv bvs d) (hlt : ∀ k, F k → k < w.heap.size) : DrvE (Ext F w ((((w.setCell a2 v2).setCell a3 v3).setCell a4 v4).setCell a5 v5).drew) ((((w.setCell a2 v2).setCell a3 v3).setCell a4 v4).setCell a5 v5).drew g pg d :=
  ⟨_, _, _, _, h.drew_.more (fun k hk => .inl hk) (fun k hk => by
    rcases hk with hk | ⟨_, h2⟩
    · exact h.drew_.lt k hk
    · exact h2)⟩
end Go.Proofs.Ytcklnkilldeamaa
