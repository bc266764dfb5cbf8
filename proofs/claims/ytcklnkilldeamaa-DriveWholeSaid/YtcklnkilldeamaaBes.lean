/- Lists of bytes beside a drive: the blocks of the one are not the blocks of the other. -/
import Derived.Test.YtcklnkilldeamaaLaw22b
namespace Wells
open Go Go.RowKit
theorem ext_size {F : Nat → Prop} {w w' : World} (h : ∀ k, F k → k < w.heap.size) (hs : w.heap.size ≤ w'.heap.size) : ∀ k, Ext F w w' k → k < w'.heap.size := fun k hk => by
  rcases hk with hk | hk
  · have := h k hk; omega
  · exact hk.2
theorem ext_base {F : Nat → Prop} {w w' : World} {base : Nat} (h : ∀ k, F k → base ≤ k) (hs : base ≤ w.heap.size) : ∀ k, Ext F w w' k → base ≤ k := fun k hk => by
  rcases hk with hk | hk
  · exact h k hk
  · omega
end Wells
namespace Go.Proofs.Ytcklnkilldeamaa
open Go.RowKit Wells
/-- a list of lists of bytes, in blocks from base on that are none of F -/
def Bes (base : Nat) (F : Nat → Prop) (w : World) (v : Value) (ls : List (List Byte)) : Prop :=
  ∃ (FA : Nat → Prop) (vs : List Value), Lst FA w v vs ls ∧ ∀ k, FA k → ¬ F k ∧ base ≤ k ∧ k < w.heap.size
section
variable {base : Nat} {F : Nat → Prop} {w w' : World} {v : Value} {ls : List (List Byte)}
theorem Bes.nil_ (base : Nat) (F : Nat → Prop) (w : World) : Bes base F w (.slice none 0 0) [] := ⟨fun _ => False, [], Lst.nil_ _ _, fun _ hk => hk.elim⟩
theorem Bes.only (h : Bes base F w v ls) (ho : Only F w w') : Bes base (Ext F w w') w' v ls := by
  obtain ⟨FA, vs, hl, hf⟩ := h
  refine ⟨FA, vs, hl.only ho (fun k hk => (hf k hk).1), fun k hk => ⟨fun he => ?_, (hf k hk).2.1, Nat.lt_of_lt_of_le (hf k hk).2.2 ho.size⟩⟩
  rcases he with he | he
  · exact (hf k hk).1 he
  · have := (hf k hk).2.2; omega
theorem Bes.onlyF (h : Bes base F w v ls) (ho : Only F w w') : Bes base F w' v ls := by
  obtain ⟨FA, vs, hl, hf⟩ := h
  exact ⟨FA, vs, hl.only ho (fun k hk => (hf k hk).1), fun k hk => ⟨(hf k hk).1, (hf k hk).2.1, Nat.lt_of_lt_of_le (hf k hk).2.2 ho.size⟩⟩
theorem Bes.new_ (h : Bes base F w v ls) (hb : Below w.heap.size w w') : Bes base F w' v ls := by
  obtain ⟨FA, vs, hl, hf⟩ := h
  exact ⟨FA, vs, hl.only (Only.of_new (F := fun _ => False) hb) (fun _ _ hf => hf), fun k hk => ⟨(hf k hk).1, (hf k hk).2.1, Nat.lt_of_lt_of_le (hf k hk).2.2 hb.size⟩⟩
theorem Bes.read {A : Option Addr} {n c : Nat} (h : Bes base F w (.slice A n c) ls) (hn : ls.length = n) : ∃ vs, RBs w w.heap.size A n vs ls := by
  obtain ⟨FA, vs, hl, hf⟩ := h
  exact ⟨vs, hl.own.read hn⟩
theorem Bes.form (h : Bes base F w v ls) : ∃ A c, v = .slice A ls.length c ∧ ls.length ≤ c ∧ c ≤ 9223372036854775807 := by
  obtain ⟨FA, vs, hl, hf⟩ := h
  exact hl.own.form
/-- one behind: the drive's blocks stay as they are -/
theorem Bes.pushed {w2 w3 : World} {v' xv : Value} {vs : List Value} {x : List Byte} {FA : Nat → Prop} (h : Lst FA w v vs ls) (hf : ∀ k, FA k → ¬ F k ∧ base ≤ k ∧ k < w.heap.size) (hF : ∀ k, F k → k < w.heap.size) (hbase : base ≤ w.heap.size) (hb2 : Below w.heap.size w w2) (hx : OB w.heap.size w2 xv x) (o : Obj)
    (ho3 : w3.ownsRow 0 28 1 v' (ls.length + 1) (vs ++ [xv])) (gr3 : (w2.alloc o).grownBy w3 v.ownBlock) (hwh : v'.ownBlock = v.ownBlock ∨ v'.ownBlock = some (w2.alloc o).heap.size) :
    Bes base F w3 v' (ls ++ [x]) ∧ (∃ G : Nat → Prop, Only G w w3 ∧ (∀ k, F k → ¬ G k) ∧ ∀ k, G k → base ≤ k) ∧ OB w.heap.size w3 xv x := by
  obtain ⟨h1, h2, h3⟩ := h.pushed hb2 hx o ho3 gr3 hwh
  have hs := h2.size
  refine ⟨⟨_, _, h1, fun k hk => ?_⟩, ⟨FA, h2, fun k hk hg => (hf k hg).1 hk, fun k hk => (hf k hk).2.1⟩, h3⟩
  rcases hk with hk | hk
  · have := hf k hk
    exact ⟨this.1, this.2.1, by omega⟩
  · exact ⟨fun he => by have := hF k he; omega, by omega, hk.2⟩
end
end Go.Proofs.Ytcklnkilldeamaa
