/- Within Sep Bits Power OpApp OpCut RefPower -/
import Derived.Test.YtlfmfhdgnmchgaaGreatProg
import Derived.WalkKit
import Derived.Laws.BitsAllLaws
import Derived.Deep.AppendSrc
import Derived.Lib.AppendStr
import Derived.ArgAppend
import Derived.Test.YtlfmfhdgnmchgaaGreatBRoomTells00
set_option maxRecDepth 20000
set_option linter.unusedSimpArgs false
set_option linter.unusedVariables false
set_option linter.unusedSectionVars false
namespace Go.Proofs.YtlfmfhdgnmchgaaGreat
open Go.RowKit Wells

theorem tmod_neg (x n : Int) (hx : x < 0) (hn : 1 ≤ n) : (x.tmod n < 0 → x.tmod n + n = x % n) ∧ (¬ x.tmod n < 0 → x.tmod n = x % n) ∧ -n < x.tmod n ∧ x.tmod n ≤ 0 := by
  have h1 := Int.emod_nonneg x (show n ≠ 0 by omega)
  have h2 := Int.emod_lt_of_pos x (show 0 < n by omega)
  have h3 : (n.natAbs : Int) = n := by omega
  rw [Int.tmod_eq_emod]
  by_cases hd : n ∣ x
  · have h5 : x % n = 0 := Int.emod_eq_zero_of_dvd hd
    simp [hd, h5]; omega
  · have h6 : x % n ≠ 0 := fun h => hd (Int.dvd_of_emod_eq_zero h)
    rw [if_neg (by simp [hd]; omega)]
    omega
theorem within_any (x n : Int) (w : World) (h1 : -9223372036854775808 ≤ x) (h2 : x ≤ 9223372036854775807) (h3 : 1 ≤ n) (h4 : n ≤ 4611686018427387904) :
    Calls Tryz.prog 8 #[.int .i64 x, .int .i64 n] w fun e w' => e = .returned (.int .i64 (x % n)) ∧ w = w' := by
  have hr := Int.emod_nonneg x (show n ≠ 0 by omega)
  have hr2 := Int.emod_lt_of_pos x (show 0 < n by omega)
  by_cases hx : 0 ≤ x
  · go_enter Tryz.func8, Tryz.ntmps8
    go_wp2
    go_ret
    exact ⟨rfl, rfl⟩
  · obtain ⟨t1, t2, t3, t4⟩ := tmod_neg x n (by omega) h3
    by_cases ht : x.tmod n < 0
    · have T1 := hid (t1 ht)
      clear t1 t2
      go_enter Tryz.func8, Tryz.ntmps8
      go_wp2
      go_ret
      exact ⟨ret_int T1.out, rfl⟩
    · have T2 := hid (t2 ht)
      clear t1 t2
      go_enter Tryz.func8, Tryz.ntmps8
      go_wp2
      go_ret
      exact ⟨ret_int T2.out, rfl⟩

end Go.Proofs.YtlfmfhdgnmchgaaGreat

namespace Wells
open Go Go.RowKit
/-- between w and w' only the blocks of F have changed, and new ones came -/
structure Only (F : Nat → Prop) (w w' : World) : Prop where
  os : w'.os = w.os
  tape : w'.tape = w.tape
  output : w'.output = w.output
  size : w.heap.size ≤ w'.heap.size
  block : ∀ k, k < w.heap.size → ¬ F k → w'.heap[k]? = w.heap[k]?
section
variable {F G : Nat → Prop} {w w' w'' : World}
theorem Only.refl (F : Nat → Prop) (w : World) : Only F w w := ⟨rfl, rfl, rfl, Nat.le_refl _, fun _ _ _ => rfl⟩
theorem Only.trans (h : Only F w w') (h' : Only G w' w'') (hs : ∀ k, k < w.heap.size → G k → F k) : Only F w w'' :=
  ⟨h'.os.trans h.os, h'.tape.trans h.tape, h'.output.trans h.output, Nat.le_trans h.size h'.size, fun k hk hn =>
    (h'.block k (Nat.lt_of_lt_of_le hk h.size) (fun hg => hn (hs k hk hg))).trans (h.block k hk hn)⟩
theorem Only.mono (h : Only F w w') (hs : ∀ k, F k → G k) : Only G w w' := ⟨h.os, h.tape, h.output, h.size, fun k hk hn => h.block k hk (fun hf => hn (hs k hf))⟩
theorem Only.of_new (h : Below w.heap.size w w') : Only F w w' := ⟨h.os, h.tape, h.output, h.size, fun k hk _ => h.block k hk⟩
theorem Only.of_grown {row : Option Nat} (h : w.grownBy w' row) (hr : ∀ k, row = some k → F k) : Only F w w' :=
  ⟨h.os, h.tape, h.output, h.size, fun k hk hn => h.block k hk (fun e => hn (hr k e.symm))⟩
theorem Only.below {B : Nat} (h : Only F w w') (hF : ∀ k, F k → B ≤ k) (hB : B ≤ w.heap.size) : Below B w w' :=
  ⟨h.os, h.tape, h.output, h.size, fun k hk => h.block k (by omega) (fun hf => by have := hF k hf; omega)⟩
theorem Only.set {g : Nat} (h : Only F w w') (hg : F g) (i : Nat) (v : Value) : Only F w (w'.setCell ⟨g, i, none⟩ v) :=
  ⟨h.os, h.tape, h.output, by simpa [World.setCell] using h.size, fun k hk hn => (Below.heap_setCell w' ⟨g, i, none⟩ v k (fun e => hn (by rw [e]; exact hg))).trans (h.block k hk hn)⟩
theorem Only.drewN (h : Only F w w') (n : Nat) : Only F w (w'.drewN n) := ⟨h.os, h.tape, h.output, h.size, h.block⟩
theorem Only.drew (h : Only F w w') : Only F w w'.drew := ⟨h.os, h.tape, h.output, h.size, h.block⟩
/-- the blocks of F, and what came between w and w' -/
def Ext (F : Nat → Prop) (w w' : World) : Nat → Prop := fun k => F k ∨ (w.heap.size ≤ k ∧ k < w'.heap.size)
theorem Only.next (h : Only F w w') (h' : Only (Ext F w w') w' w'') : Only F w w'' :=
  h.trans h' fun k hk hg => by
    rcases hg with hg | hg
    · exact hg
    · omega
/-- what a slice's row is, lies in F -/
def In (v : Value) (F : Nat → Prop) : Prop := ∀ k, v.ownBlock = some k → F k
theorem In.mono {v : Value} (h : In v F) (hs : ∀ k, F k → G k) : In v G := fun k hk => hs k (h k hk)
theorem in_nil (F : Nat → Prop) : In (.slice none 0 0) F := fun k h => by cases h
end
theorem own_only {G : Nat → Prop} {w w' : World} {base n size : Nat} {e : TypeId} {v : Value} {xs : List Value} (h : w.ownsRow base e size v n xs) (ho : Only G w w') (hd : ∀ k, v.ownBlock = some k → ¬ G k) : w'.ownsRow base e size v n xs := by
  refine ⟨h.1, ?_⟩
  rcases h.2 with h2 | ⟨g, cap, cur, hv, hg, hh, r⟩
  · exact .inl h2
  · have hlt : g < w.heap.size := by
      rcases Nat.lt_or_ge g w.heap.size with hlt | hge
      · exact hlt
      · rw [Array.getElem?_eq_none hge] at hh; cases hh
    exact .inr ⟨g, cap, cur, hv, hg, (ho.block g hlt (hd g (by rw [hv]; rfl))).trans hh, r⟩
theorem Row.only {G : Nat → Prop} {w w' : World} {g : Nat} {t : TypeId} {cs : List Value} (h : Row w g t cs) (ho : Only G w w') (hd : ¬ G g) : Row w' g t cs := (ho.block g h.lt hd).trans h
end Wells
namespace Go.Proofs.YtlfmfhdgnmchgaaGreat
open Go.RowKit Wells
theorem OBs.only {G : Nat → Prop} {w w' : World} {base : Nat} {v : Value} {vs : List Value} {ls : List (List Byte)} (h : OBs base w v vs ls) (ho : Only G w w') (hd : ∀ k, v.ownBlock = some k → ¬ G k) (hds : ∀ x ∈ vs, ∀ k, x.ownBlock = some k → ¬ G k) : OBs base w' v vs ls :=
  ⟨own_only h.own ho hd, fun i hi => own_only (h.at_ i hi) ho (by
    have hl : vs.length = ls.length := by have := h.own.1; omega
    rw [List.getD_eq_getElem?_getD, List.getElem?_eq_getElem (by omega)]
    exact hds _ (List.getElem_mem _))⟩
/-- lists of bytes whose rows all lie in F -/
structure Lst (F : Nat → Prop) (w : World) (v : Value) (vs : List Value) (ls : List (List Byte)) : Prop where
  own : OBs 0 w v vs ls
  iv : In v F
  is : ∀ x ∈ vs, In x F
theorem Lst.nil_ (F : Nat → Prop) (w : World) : Lst F w (.slice none 0 0) [] [] := ⟨OBs.nil_ _ _, in_nil F, fun x hx => by cases hx⟩
theorem Lst.mono {F G : Nat → Prop} {w : World} {v : Value} {vs : List Value} {ls : List (List Byte)} (h : Lst F w v vs ls) (hs : ∀ k, F k → G k) : Lst G w v vs ls :=
  ⟨h.own, h.iv.mono hs, fun x hx => (h.is x hx).mono hs⟩
theorem Lst.only {F G : Nat → Prop} {w w' : World} {v : Value} {vs : List Value} {ls : List (List Byte)} (h : Lst F w v vs ls) (ho : Only G w w') (hd : ∀ k, F k → ¬ G k) : Lst F w' v vs ls :=
  ⟨h.own.only ho (fun k hk => hd k (h.iv k hk)) (fun x hx k hk => hd k (h.is x hx k hk)), h.iv, h.is⟩
theorem Lst.len {F : Nat → Prop} {w : World} {v : Value} {vs : List Value} {ls : List (List Byte)} (h : Lst F w v vs ls) : vs.length = ls.length := by have := h.own.own.1; omega
/-- a list of one's own, made between w0 and w -/
theorem Lst.of_own {w0 w : World} {v : Value} {vs : List Value} {ls : List (List Byte)} (h : OBs w0.heap.size w v vs ls) {F : Nat → Prop} (hF : ∀ k, w0.heap.size ≤ k → k < w.heap.size → F k) : Lst F w v vs ls :=
  ⟨h.base (Nat.zero_le _), fun k hk => by have := own_lt h.own k hk; exact hF k this.1 this.2, fun x hx k hk => by
    have hl : vs.length = ls.length := by have := h.own.1; omega
    obtain ⟨i, hi, rfl⟩ := List.getElem_of_mem hx
    have := h.at_ i (by omega)
    rw [List.getD_eq_getElem?_getD, List.getElem?_eq_getElem hi] at this
    have := own_lt this k hk
    exact hF k this.1 this.2⟩
/-- no two rows share a block -/
def Dist (vs : List Value) : Prop := vs.Pairwise fun a b => ∀ k, a.ownBlock = some k → b.ownBlock ≠ some k
end Go.Proofs.YtlfmfhdgnmchgaaGreat

namespace Wells
open Go Go.RowKit
theorem x32 (a b : BitVec 32) : bits .xor .u32 (a.toNat : Int) (b.toNat : Int) = ((a ^^^ b).toNat : Int) := by
  rw [u32_xor_nat _ _ a.isLt b.isLt, BitVec.toNat_xor]
theorem x32b (a : BitVec 32) (b : BitVec 8) : bits .xor .u32 (a.toNat : Int) (b.toNat : Int) = ((a ^^^ b.setWidth 32).toNat : Int) := by
  have := x32 a (b.setWidth 32)
  rw [BitVec.toNat_setWidth, Nat.mod_eq_of_lt (by have := b.isLt; omega)] at this
  exact this
theorem and1 (t : BitVec 32) : bits .and .u32 (t.toNat : Int) 1 = (t.toNat % 2 : Int) := by
  have := u32_and_nat t.toNat 1 t.isLt (by omega)
  rw [Nat.and_one_is_mod] at this
  simpa using this
theorem lsb_of (t : BitVec 32) : t.getLsbD 0 = decide (t.toNat % 2 = 1) := by
  rw [BitVec.getLsbD, Nat.testBit_zero]
theorem tb_one (t : BitVec 32) (h : (bits .and .u32 (t.toNat : Int) 1 == 1) = true) : bits .xor .u32 ((t.toNat : Int) / 2) 3988292384 = ((tb t).toNat : Int) := by
  rw [and1] at h
  have h1 : t.getLsbD 0 = true := by rw [lsb_of]; simp at h ⊢; omega
  have e : (t.toNat : Int) / (2 : Int) = ((t >>> 1).toNat : Int) := by rw [BitVec.toNat_ushiftRight, Nat.shiftRight_eq_div_pow]; omega
  have e2 : (3988292384 : Int) = ((0xedb88320#32).toNat : Int) := rfl
  rw [e, e2, x32]
  unfold tb
  rw [h1]; rfl
theorem tb_nought (t : BitVec 32) (h : (bits .and .u32 (t.toNat : Int) 1 == 1) = false) : ((t.toNat : Int) / 2) = ((tb t).toNat : Int) := by
  rw [and1] at h
  have h1 : t.getLsbD 0 = false := by rw [lsb_of]; simp at h ⊢; omega
  have e : (t.toNat : Int) / (2 : Int) = ((t >>> 1).toNat : Int) := by rw [BitVec.toNat_ushiftRight, Nat.shiftRight_eq_div_pow]; omega
  rw [e]
  unfold tb
  rw [h1]; simp
theorem tn_succ (j : Nat) (s : BitVec 32) : tn (j + 1) s = tb (tn j s) := tn_add j 1 s
theorem crcS_take (s : BitVec 32) (l : List Byte) (k : Nat) (h : k < l.length) : crcS s (l.take (k + 1)) = tn 8 (crcS s (l.take k) ^^^ (l.getD k 0).setWidth 32) := by
  rw [List.take_succ_eq_append_getElem h]
  unfold crcS
  rw [List.foldl_append]
  simp [by8, h]
end Wells

namespace Wells
open Go Go.RowKit
/-- a Power: off, armed, how many steps go, how often it went off -/
structure Pw where
  off : Bool
  armed : Bool
  left : Int
  offs : Int
def pw (s : Pw) : List Value := [.bool s.off, .bool s.armed, .int .i64 s.left, .int .i64 s.offs]
def Pw.new : Pw := ⟨false, false, 0, 0⟩
def Pw.arm (s : Pw) (n : Int) : Pw := if s.off then s else { s with armed := decide (0 ≤ n), left := max n 0 }
def Pw.step (s : Pw) : Pw := if s.off then s else if s.armed then (if s.left = 0 then { s with off := true, offs := s.offs + 1 } else { s with left := s.left - 1 }) else s
def Pw.goes (s : Pw) : Bool := !s.off && (!s.armed || !decide (s.left = 0))
theorem only_set {w wr : World} {g : Nat} (h : w.grownBy wr (some g)) (j : Nat) (u : Value) : w.grownBy (wr.setCell ⟨g, j, none⟩ u) (some g) :=
  ⟨h.os, h.tape, h.output, by simpa [World.setCell] using h.size, fun i hi hne => (Below.heap_setCell wr ⟨g, j, none⟩ u i (fun e => hne (by rw [e]))).trans (h.block i hi hne)⟩
end Wells
namespace Go.Proofs.YtlfmfhdgnmchgaaGreat
open Go.RowKit Wells

theorem pnew_any (w : World) : Calls Tryz.prog 21 #[] w fun e w' => ∃ g, e = .returned (.pointer (some ⟨g, 0, none⟩)) ∧ w.heap.size ≤ g ∧ Row w' g 96 (pw Pw.new) ∧ Below w.heap.size w w' := by
  go_enter Tryz.func21, Tryz.ntmps21
  go_wp2
  go_ret
  refine ⟨_, rfl, Nat.le_refl _, Row.new w _ _, (Below.refl _ _).alloc (Nat.le_refl _) _⟩

theorem pon_any (g : Nat) (s : Pw) (w : World) (h : Row w g 96 (pw s)) : Calls Tryz.prog 62 #[.pointer (some ⟨g, 0, none⟩)] w fun e w' => e = .returned (.bool (!s.off)) ∧ w = w' := by
  have h0 : w.cell? ⟨g, 0, none⟩ = some (.bool s.off) := h.cell 0
  go_enter Tryz.func62, Tryz.ntmps62
  go_wp2
  go_ret
  exact ⟨rfl, rfl⟩
theorem parm_any (g : Nat) (s : Pw) (n : Int) (w : World) (h : Row w g 96 (pw s)) : Calls Tryz.prog 28 #[.pointer (some ⟨g, 0, none⟩), .int .i64 n] w fun e w' => e = .returned (.tuple #[]) ∧ Row w' g 96 (pw (s.arm n)) ∧ w.grownBy w' (some g) := by
  obtain ⟨off, armed, left, offs⟩ := s
  have h1 : w.cell? ⟨g, 1, none⟩ = some (.bool armed) := h.cell 1
  have h2 : w.cell? ⟨g, 2, none⟩ = some (.int .i64 left) := h.cell 2
  have f1 := h.frozen 1
  have f2 := h.frozen 2
  have H := hid h
  clear h
  cases off
  · by_cases hn : 0 ≤ n
    · go_enter Tryz.func28, Tryz.ntmps28
      go_wp2_with fail
      refine (pon_any g _ _ H.out).mono ?_
      rintro e w1 ⟨rfl, rfl⟩
      go_wp2
      go_end0
      refine ⟨rfl, ((H.out.set 1 _).set 2 _).to ?_, only_set (only_set (World.grownBy.refl w _) _ _) _ _⟩
      simp [pw, Pw.arm, hn]; omega
    · have hn' : decide (0 ≤ n) = false := by simp; omega
      go_enter Tryz.func28, Tryz.ntmps28
      go_wp2_with fail
      refine (pon_any g _ _ H.out).mono ?_
      rintro e w1 ⟨rfl, rfl⟩
      go_wp2
      go_end0
      refine ⟨rfl, ((H.out.set 1 _).set 2 _).to ?_, only_set (only_set (World.grownBy.refl w _) _ _) _ _⟩
      simp [pw, Pw.arm, hn]; omega
  · go_enter Tryz.func28, Tryz.ntmps28
    go_wp2_with fail
    refine (pon_any g _ _ H.out).mono ?_
    rintro e w1 ⟨rfl, rfl⟩
    go_wp2
    refine bodyPost_ret (results_none rfl _ _ _) rfl ?_
    exact ⟨rfl, H.out, World.grownBy.refl w _⟩
theorem pstep_any (g : Nat) (s : Pw) (w : World) (h : Row w g 96 (pw s)) (hl : 0 ≤ s.left ∧ s.left ≤ 9223372036854775807) (ho : 0 ≤ s.offs ∧ s.offs < 4611686018427387904) :
    Calls Tryz.prog 64 #[.pointer (some ⟨g, 0, none⟩)] w fun e w' => e = .returned (.bool s.goes) ∧ Row w' g 96 (pw s.step) ∧ w.grownBy w' (some g) := by
  obtain ⟨off, armed, left, offs⟩ := s
  obtain ⟨l1, l2⟩ := hl
  obtain ⟨o1, o2⟩ := ho
  dsimp only at l1 l2 o1 o2
  have h0 : w.cell? ⟨g, 0, none⟩ = some (.bool off) := h.cell 0
  have h1 : w.cell? ⟨g, 1, none⟩ = some (.bool armed) := h.cell 1
  have h2 : w.cell? ⟨g, 2, none⟩ = some (.int .i64 left) := h.cell 2
  have h3 : w.cell? ⟨g, 3, none⟩ = some (.int .i64 offs) := h.cell 3
  have f0 := h.frozen 0
  have f1 := h.frozen 1
  have f2 := h.frozen 2
  have f3 := h.frozen 3
  have H := hid h
  clear h
  cases off
  · cases armed
    · go_enter Tryz.func64, Tryz.ntmps64
      go_wp2_with fail
      refine (pon_any g _ _ H.out).mono ?_
      rintro e w1 ⟨rfl, rfl⟩
      go_wp2
      go_ret
      exact ⟨rfl, H.out, World.grownBy.refl w _⟩
    · by_cases hz : left = 0
      · subst hz
        go_enter Tryz.func64, Tryz.ntmps64
        go_wp2_with fail
        refine (pon_any g _ _ H.out).mono ?_
        rintro e w1 ⟨rfl, rfl⟩
        go_wp2
        go_ret
        refine ⟨rfl, ((H.out.set 0 _).set 3 _).to ?_, only_set (only_set (World.grownBy.refl w _) _ _) _ _⟩
        simp [pw, Pw.step]
      · have hb : (left == 0) = false := by simp [hz]
        go_enter Tryz.func64, Tryz.ntmps64
        go_wp2_with fail
        refine (pon_any g _ _ H.out).mono ?_
        rintro e w1 ⟨rfl, rfl⟩
        go_wp2
        go_ret
        refine ⟨ret_bool (by simp [Pw.goes, hz]), (H.out.set 2 _).to ?_, only_set (World.grownBy.refl w _) _ _⟩
        simp [pw, Pw.step, hz]
  · go_enter Tryz.func64, Tryz.ntmps64
    go_wp2_with fail
    refine (pon_any g _ _ H.out).mono ?_
    rintro e w1 ⟨rfl, rfl⟩
    go_wp2
    go_ret
    exact ⟨rfl, H.out, World.grownBy.refl w _⟩
end Go.Proofs.YtlfmfhdgnmchgaaGreat

namespace Wells
open Go Go.RowKit
theorem run_append_str {P : Program} (w : World) (base : Nat) (t u ty e : TypeId) (i : TypeInfo) (ht : P.underlying t = some (.slice e)) (hu : P.underlying u = some .string) (hi : P.info? e = some i) (hz : i.zero = some (.int .u8 0)) (hsize : i.size = 1) (hby : i.bytes = 1)
    (v : Value) (n : Nat) (xs : List Value) (hown : w.ownsRow base e 1 v n xs) (s : ByteArray) (h63 : n + s.size ≤ maxLen) (hbytes : n + s.size ≤ 140737488355328) (hbase : base ≤ w.heap.size) :
    ∃ v' w', (Builtin.append_ #[t, u] ty #[v, .string s]).run P w = .ok v' w' ∧ w'.ownsRow base e 1 v' (n + s.size) (xs ++ Lib.strCells s) ∧ w.grownBy w' v.ownBlock ∧ (v'.ownBlock = v.ownBlock ∨ v'.ownBlock = some w.heap.size) := by
  obtain ⟨v', w', hrun, h2, h3, _⟩ := Lib.run_append_own_string (P := P) (w := w) base t u ty e i ht hu hi hz hsize hby v n xs hown s h63 hbytes hbase
  refine ⟨v', w', hrun, h2, h3, ?_⟩
  have hs := Src.ofString (P := P) w (tx := u) hu s
  rw [← hsize] at hs
  unfold maxLen at h63
  have hl : (byteCells s).length = s.size := byteCells_length s
  rcases hown.2 with ⟨rfl, rfl⟩ | ⟨g, cap, cur, rfl, hb, hg, hnc, hcm, hcs, htk⟩
  · have hx0 : xs = [] := List.eq_nil_of_length_eq_zero (by simpa using hown.1)
    subst hx0
    by_cases hm : s.size = 0
    · rcases h2.2 with ⟨rfl, _⟩ | ⟨g', cap', cur', rfl, hb', hg', _⟩
      · exact .inl rfl
      · exfalso
        have h4 := Lib.run_append_own_string (P := P) (w := w) base t u ty e i ht hu hi hz hsize hby (.slice none 0 0) 0 [] hown s h63 hbytes hbase
        obtain ⟨v2, w2, hr2, _, _, h5⟩ := h4
        rw [hrun] at hr2
        injection hr2 with e1 e2
        have := h5.2 ⟨rfl, hm⟩
        rw [← e1] at this
        cases this
    · have := run_append_grow_src (P := P) w t u ty e i (.int .u8 0) ht hi hz none 0 0 [] (by rfl) (.string s) s.size _ hs (by omega) (by omega) (by
        have := growslice_fits (old := 0) (need := 0 + s.size) (bytes := i.bytes) (by omega) (by rw [hby]; omega)
        omega)
      rw [hrun] at this
      injection this with e1 _
      exact .inr (by rw [e1]; rfl)
  · by_cases hroom : n + s.size ≤ cap
    · have hcell : ∀ j, w.cell? ⟨g, j, none⟩ = cur[j]? := fun j => cell_of_row w g j cur e (0, 0) hg
      have hfz : ∀ j, w.frozen? ⟨g, j, none⟩ = false := fun j => by simp [World.frozen?, hg]
      have := run_append_room_src (P := P) w t u ty e i ht hi g 0 n cap (.string s) s.size _ hs hroom (fun j hj => by
        rw [hcell, hsize]
        rw [hl] at hj
        simp only [Option.isSome_iff_exists]
        exact ⟨_, Array.getElem?_eq_getElem (by omega)⟩) (fun j hj => hfz _)
      rw [hrun] at this
      injection this with e1 _
      exact .inl (by rw [e1]; rfl)
    · have holds : ∀ j u, xs[j]? = some u → w.cell? ((⟨g, 0, none⟩ : Addr).add j) = some u := hown.cells (g := g) rfl
      have hfo := run_firstCells_some (P := P) w.drew 1 n ⟨g, 0, none⟩ n cap xs (by have := hown.1; omega) (by simpa using holds)
      have := run_append_grow_src (P := P) w t u ty e i (.int .u8 0) ht hi hz (some ⟨g, 0, none⟩) n cap xs (by rw [hsize]; exact hfo) (.string s) s.size _ hs (by omega) (by omega) (by
        have := growslice_fits (old := cap) (need := n + s.size) (bytes := i.bytes) (by omega) (by rw [hby]; omega)
        omega)
      rw [hrun] at this
      injection this with e1 _
      exact .inr (by rw [e1]; rfl)
theorem run_append_sl {P : Program} (w : World) (t ty : TypeId) (base : Nat) (e : TypeId) (i : TypeInfo) (z : Value) (size bytes : Nat) (ht : P.underlying t = some (.slice e)) (hi : P.info? e = some i) (hz : i.zero = some z)
    (hsize : i.size = size) (hby : i.bytes = bytes) (hzs : z.cells.size = size) (hsz : 0 < size)
    (v : Value) (n : Nat) (xs : List Value) (hown : w.ownsRow base e size v n xs)
    (B : Nat) (A : Option Addr) (m c : Nat) (news : List Value) (hr : Sl w B size A m news) (h1 : ∀ u ∈ news, u.oneCell' = true)
    (h63 : n + m ≤ 9223372036854775807) (hbytes : (n + m) * bytes ≤ 140737488355328) (hbase : base ≤ w.heap.size) :
    ∃ v' w', (Builtin.append_ #[t, t] ty #[v, .slice A m c]).run P w = .ok v' w' ∧ w'.ownsRow base e size v' (n + m) (xs ++ news) ∧ w.grownBy w' v.ownBlock ∧ (v'.ownBlock = v.ownBlock ∨ v'.ownBlock = some w.heap.size) := by
  rcases A with _ | ad
  · have hm : m = 0 := by
      rcases Nat.eq_zero_or_pos m with h0 | h0
      · exact h0
      · obtain ⟨_, _, hh, _⟩ := hr.at_ h0
        cases hh
    subst hm
    have hn : news = [] := List.eq_nil_of_length_eq_zero (by simpa using hr.len)
    subst hn
    exact ⟨v, w, run_append_nil w t ty e i ht hi hown c, by simpa using hown, World.grownBy.refl w _, .inl rfl⟩
  · have hcells : ∀ j u, news[j]? = some u → w.cell? (ad.add j) = some u := by
      intro j u hu
      rcases Nat.eq_zero_or_pos m with h0 | h0
      · subst h0
        have hn : news = [] := List.eq_nil_of_length_eq_zero (by simpa using hr.len)
        subst hn
        simp at hu
      · obtain ⟨b, o', hh, _, hc⟩ := hr.at_ h0
        injection hh with hh
        subst hh
        rw [addr_add]
        exact hc j u hu
    obtain ⟨v', w', hrun, h2, h3, _, h5⟩ := run_append_own_at (P := P) w base t ty e i z size bytes ht hi hz hsize hby hzs hsz v n xs hown ad m c news hr.len hcells h1 (by unfold maxLen; omega) hbytes hbase
    exact ⟨v', w', hrun, h2, h3, h5⟩
/-- 'append(s, x...)', x a string -/
theorem op_append_str {P : Program} {w : World} {o : Oper} {a : Act} {K : Act → World → Prop} {Q : Exit → Act → World → Prop} (s x : Operand) (t u : TypeId)
    (ho : o.op = .call { callee := .builtin .append, args := #[s, x], argTypes := #[t, u] })
    (base : Nat) (e : TypeId) (i : TypeInfo) (ht : P.underlying t = some (.slice e)) (hu : P.underlying u = some .string) (hi : P.info? e = some i) (hz : i.zero = some (.int .u8 0)) (hsize : i.size = 1) (hby : i.bytes = 1)
    (v : Value) (n : Nat) (xs : List Value) (hs : a.eval s = v) (hown : w.ownsRow base e 1 v n xs) (b : ByteArray) (hx : a.eval x = .string b)
    (N : Nat) (hN : n + b.size = N) (ys : List Value) (hys : xs ++ Lib.strCells b = ys) (hbytes : N ≤ 140737488355328) (hbase : base ≤ w.heap.size)
    (h : ∀ A' c' w', w'.ownsRow base e 1 (.slice A' N c') N ys → w.grownBy w' v.ownBlock → ((Value.slice A' N c').ownBlock = v.ownBlock ∨ (Value.slice A' N c').ownBlock = some w.heap.size) → K (a.put o.dst (.slice A' N c')) w') : Oper.wp P o a w K Q := by
  subst hN hys
  obtain ⟨v', w', hrun, h2, h3, h4⟩ := run_append_str (P := P) w base t u o.type e i ht hu hi hz hsize hby v n xs hown b (by unfold maxLen; omega) hbytes hbase
  obtain ⟨A', c', rfl, _⟩ := own_slice h2
  unfold Oper.wp execOp
  simp only [ho, resolve, invoke, builtin, Sem.run_bind, Sem.run_pure, Result.andThen_ok, List.map_toArray, List.map_cons, List.map_nil, hs, hx, hrun]
  exact h A' c' w' h2 h3 h4
/-- 'append(s, x...)', x a slice -/
theorem op_append {P : Program} {w : World} {o : Oper} {a : Act} {K : Act → World → Prop} {Q : Exit → Act → World → Prop} (s x : Operand) (t : TypeId)
    (ho : o.op = .call { callee := .builtin .append, args := #[s, x], argTypes := #[t, t] })
    (base : Nat) (e : TypeId) (i : TypeInfo) (z : Value) (size bytes : Nat) (ht : P.underlying t = some (.slice e)) (hi : P.info? e = some i) (hz : i.zero = some z)
    (hsize : i.size = size) (hby : i.bytes = bytes) (hzs : z.cells.size = size) (hsz : 0 < size)
    (v : Value) (n : Nat) (xs : List Value) (hs : a.eval s = v) (hown : w.ownsRow base e size v n xs)
    (B : Nat) (A : Option Addr) (m c : Nat) (news : List Value) (hx : a.eval x = .slice A m c) (hr : Sl w B size A m news) (h1 : ∀ u ∈ news, u.oneCell' = true)
    (N : Nat) (hN : n + m = N) (ys : List Value) (hys : xs ++ news = ys) (h63 : N ≤ 9223372036854775807) (hbytes : N * bytes ≤ 140737488355328) (hbase : base ≤ w.heap.size)
    (h : ∀ A' c' w', w'.ownsRow base e size (.slice A' N c') N ys → w.grownBy w' v.ownBlock → ((Value.slice A' N c').ownBlock = v.ownBlock ∨ (Value.slice A' N c').ownBlock = some w.heap.size) → K (a.put o.dst (.slice A' N c')) w') : Oper.wp P o a w K Q := by
  subst hN hys
  obtain ⟨v', w', hrun, h2, h3, h4⟩ := run_append_sl (P := P) w t o.type base e i z size bytes ht hi hz hsize hby hzs hsz v n xs hown B A m c news hr h1 h63 hbytes hbase
  obtain ⟨A', c', rfl, _⟩ := own_slice h2
  unfold Oper.wp execOp
  simp only [ho, resolve, invoke, builtin, Sem.run_bind, Sem.run_pure, Result.andThen_ok, List.map_toArray, List.map_cons, List.map_nil, hs, hx, hrun]
  exact h A' c' w' h2 h3 h4
end Wells

namespace Wells
open Go Go.RowKit
theorem run_append_cut {P : Program} (w : World) (t ty : TypeId) (e : TypeId) (i : TypeInfo) (z : Value) (size bytes : Nat) (ht : P.underlying t = some (.slice e)) (hi : P.info? e = some i) (hz : i.zero = some z)
    (hsize : i.size = size) (hby : i.bytes = bytes) (hzs : z.cells.size = size) (hsz : 0 < size)
    (Bo : Nat) (Ao : Option Addr) (n : Nat) (olds : List Value) (ho : Sl w Bo size Ao n olds)
    (B : Nat) (A : Option Addr) (m c : Nat) (news : List Value) (hr : Sl w B size A m news) (h1 : ∀ u ∈ news, u.oneCell' = true) (hm : 0 < m)
    (h63 : n + m ≤ 9223372036854775807) (hbytes : (n + m) * bytes ≤ 140737488355328) :
    ∃ v' w', (Builtin.append_ #[t, t] ty #[.slice Ao n n, .slice A m c]).run P w = .ok v' w' ∧ w'.ownsRow w.heap.size e size v' (n + m) (olds ++ news) ∧ w.grownBy w' none := by
  obtain ⟨b, o, rfl, _, hc⟩ := hr.at_ hm
  have hc' : ∀ j u, news[j]? = some u → w.cell? ((⟨b, o, none⟩ : Addr).add j) = some u := fun j u hu => by rw [addr_add]; exact hc j u hu
  cases Ao with
  | some ad =>
    have ho' : ∀ j u, olds[j]? = some u → w.cell? (ad.add j) = some u := by
      intro j u hu
      rcases Nat.eq_zero_or_pos n with h0 | h0
      · subst h0
        have hn : olds = [] := List.eq_nil_of_length_eq_zero (by simpa using ho.len)
        subst hn
        simp at hu
      · obtain ⟨b2, o2, hh, _, hc2⟩ := ho.at_ h0
        injection hh with hh
        subst hh
        rw [addr_add]
        exact hc2 j u hu
    exact run_append_arg_grows (P := P) w t ty e i z size bytes ht hi hz hsize hby hzs hsz ad n n olds ho.len ho' ⟨b, o, none⟩ m c news hr.len hc' (by omega) (by unfold maxLen; omega) hbytes
  | none =>
    have h0 : n = 0 := by
      rcases Nat.eq_zero_or_pos n with h0 | h0
      · exact h0
      · obtain ⟨_, _, hh, _⟩ := ho.at_ h0
        cases hh
    subst h0
    have hn : olds = [] := List.eq_nil_of_length_eq_zero (by simpa using ho.len)
    subst hn
    obtain ⟨v', w', hrun, r1, r2, _⟩ := run_append_own (P := P) w w.heap.size t ty e i z size bytes ht hi hz hsize hby hzs hsz (.slice none 0 0) 0 [] (World.ownsRow_nil w _ e size) ⟨b, o, none⟩ m c news hr.len hc' h1 (by unfold maxLen; omega) hbytes (Nat.le_refl _)
    exact ⟨v', w', hrun, r1, r2⟩
theorem op_append_cut {P : Program} {w : World} {o : Oper} {a : Act} {K : Act → World → Prop} {Q : Exit → Act → World → Prop} (s x : Operand) (t : TypeId)
    (ho : o.op = .call { callee := .builtin .append, args := #[s, x], argTypes := #[t, t] })
    (e : TypeId) (i : TypeInfo) (z : Value) (size bytes : Nat) (ht : P.underlying t = some (.slice e)) (hi : P.info? e = some i) (hz : i.zero = some z)
    (hsize : i.size = size) (hby : i.bytes = bytes) (hzs : z.cells.size = size) (hsz : 0 < size)
    (Bo : Nat) (Ao : Option Addr) (n : Nat) (olds : List Value) (hs : a.eval s = .slice Ao n n) (hso : Sl w Bo size Ao n olds)
    (B : Nat) (A : Option Addr) (m c : Nat) (news : List Value) (hx : a.eval x = .slice A m c) (hr : Sl w B size A m news) (h1 : ∀ u ∈ news, u.oneCell' = true) (hm : 0 < m)
    (N : Nat) (hN : n + m = N) (ys : List Value) (hys : olds ++ news = ys) (h63 : N ≤ 9223372036854775807) (hbytes : N * bytes ≤ 140737488355328)
    (h : ∀ A' c' w', w'.ownsRow w.heap.size e size (.slice A' N c') N ys → Below w.heap.size w w' → K (a.put o.dst (.slice A' N c')) w') : Oper.wp P o a w K Q := by
  subst hN hys
  obtain ⟨v', w', hrun, h2, h3⟩ := run_append_cut (P := P) w t o.type e i z size bytes ht hi hz hsize hby hzs hsz Bo Ao n olds hso B A m c news hr h1 hm h63 hbytes
  obtain ⟨A', c', rfl, _⟩ := own_slice h2
  unfold Oper.wp execOp
  simp only [ho, resolve, invoke, builtin, Sem.run_bind, Sem.run_pure, Result.andThen_ok, List.map_toArray, List.map_cons, List.map_nil, hs, hx, hrun]
  exact h A' c' w' h2 ⟨h3.os, h3.tape, h3.output, h3.size, fun k hk => h3.block k hk (by simp)⟩
end Wells

namespace Wells
open Go Go.RowKit
def Pw.rarm (s : Pw) (n : Int) : Pw := if s.off then s else { s with armed := decide (0 ≤ n), left := n }
/-- the program's and the document's, alike -/
structure PwRel (s r : Pw) : Prop where
  off : r.off = s.off
  armed : r.armed = s.armed
  offs : r.offs = s.offs
  left : s.armed = true → r.left = s.left
  lo : 0 ≤ s.left
  hi : s.left ≤ 9223372036854775807
  pos : 0 ≤ s.offs
theorem PwRel.new : PwRel Pw.new Pw.new := ⟨rfl, rfl, rfl, fun _ => rfl, by decide, by decide, by decide⟩
theorem PwRel.arm {s r : Pw} (h : PwRel s r) (n : Int) (hn : n ≤ 9223372036854775807) : PwRel (s.arm n) (r.rarm n) := by
  obtain ⟨h1, h2, h3, h4, h5, h6, h7⟩ := h
  unfold Pw.arm Pw.rarm
  rw [h1]
  split
  · exact ⟨h1, h2, h3, h4, h5, h6, h7⟩
  · rename_i ho
    have ho' : s.off = false := by simpa using ho
    refine ⟨?_, rfl, h3, fun hh => ?_, ?_, ?_, h7⟩
    · simp [ho']
    · simp at hh ⊢; omega
    · simp; omega
    · simp; omega
theorem PwRel.step {s r : Pw} (h : PwRel s r) : PwRel s.step r.step ∧ r.goes = s.goes ∧ s.step.offs ≤ s.offs + 1 := by
  obtain ⟨off, armed, left, offs⟩ := s
  obtain ⟨off', armed', left', offs'⟩ := r
  obtain ⟨h1, h2, h3, h4, h5, h6, h7⟩ := h
  dsimp only at h1 h2 h3 h4 h5 h6 h7
  subst h1 h2 h3
  cases off'
  · cases armed'
    · exact ⟨⟨rfl, rfl, rfl, h4, h5, h6, h7⟩, rfl, by simp [Pw.step]; omega⟩
    · have := h4 rfl
      subst this
      by_cases hz : left' = 0
      · subst hz
        exact ⟨⟨rfl, rfl, rfl, fun _ => rfl, by simp [Pw.step], by simp [Pw.step], by simp [Pw.step]; omega⟩, rfl, by simp [Pw.step]⟩
      · refine ⟨⟨?_, ?_, ?_, ?_, ?_, ?_, ?_⟩, rfl, ?_⟩ <;> simp [Pw.step, hz] <;> omega
  · exact ⟨⟨rfl, rfl, rfl, h4, h5, h6, h7⟩, rfl, by simp [Pw.step]; omega⟩
end Wells
namespace Go.Proofs.YtlfmfhdgnmchgaaGreat
open Go.RowKit Wells
theorem rarm_any (g : Nat) (s : Pw) (n : Int) (w : World) (h : Row w g 55 (pw s)) : Calls Tryz.prog 29 #[.pointer (some ⟨g, 0, none⟩), .int .i64 n] w fun e w' => e = .returned (.tuple #[]) ∧ Row w' g 55 (pw (s.rarm n)) ∧ w.grownBy w' (some g) := by
  obtain ⟨off, armed, left, offs⟩ := s
  have h0 : w.cell? ⟨g, 0, none⟩ = some (.bool off) := h.cell 0
  have h1 : w.cell? ⟨g, 1, none⟩ = some (.bool armed) := h.cell 1
  have h2 : w.cell? ⟨g, 2, none⟩ = some (.int .i64 left) := h.cell 2
  have f1 := h.frozen 1
  have f2 := h.frozen 2
  have H := hid h
  clear h
  cases off
  · by_cases hn : 0 ≤ n
    · go_enter Tryz.func29, Tryz.ntmps29
      go_wp2
      go_end0
      refine ⟨rfl, ((H.out.set 1 _).set 2 _).to ?_, only_set (only_set (World.grownBy.refl w _) _ _) _ _⟩
      simp [pw, Pw.rarm, hn]
    · have hn' : decide (0 ≤ n) = false := by simp; omega
      go_enter Tryz.func29, Tryz.ntmps29
      go_wp2
      go_end0
      refine ⟨rfl, ((H.out.set 1 _).set 2 _).to ?_, only_set (only_set (World.grownBy.refl w _) _ _) _ _⟩
      simp [pw, Pw.rarm, hn]
  · go_enter Tryz.func29, Tryz.ntmps29
    go_wp2
    go_end0
    exact ⟨rfl, H.out, World.grownBy.refl w _⟩
theorem rstep_any (g : Nat) (s : Pw) (w : World) (h : Row w g 55 (pw s)) (hl : s.armed = true → 0 ≤ s.left ∧ s.left ≤ 9223372036854775807) (ho : 0 ≤ s.offs ∧ s.offs < 4611686018427387904) :
    Calls Tryz.prog 66 #[.pointer (some ⟨g, 0, none⟩)] w fun e w' => e = .returned (.bool s.goes) ∧ Row w' g 55 (pw s.step) ∧ w.grownBy w' (some g) := by
  obtain ⟨off, armed, left, offs⟩ := s
  obtain ⟨o1, o2⟩ := ho
  dsimp only at hl o1 o2
  have h0 : w.cell? ⟨g, 0, none⟩ = some (.bool off) := h.cell 0
  have h1 : w.cell? ⟨g, 1, none⟩ = some (.bool armed) := h.cell 1
  have h2 : w.cell? ⟨g, 2, none⟩ = some (.int .i64 left) := h.cell 2
  have h3 : w.cell? ⟨g, 3, none⟩ = some (.int .i64 offs) := h.cell 3
  have f0 := h.frozen 0
  have f1 := h.frozen 1
  have f2 := h.frozen 2
  have f3 := h.frozen 3
  have H := hid h
  clear h
  cases off
  · cases armed
    · clear hl
      go_enter Tryz.func66, Tryz.ntmps66
      go_wp2
      go_ret
      exact ⟨rfl, H.out, World.grownBy.refl w _⟩
    · obtain ⟨l1, l2⟩ := hl rfl
      clear hl
      by_cases hz : left = 0
      · subst hz
        go_enter Tryz.func66, Tryz.ntmps66
        go_wp2
        go_ret
        refine ⟨rfl, ((H.out.set 0 _).set 3 _).to ?_, only_set (only_set (World.grownBy.refl w _) _ _) _ _⟩
        simp [pw, Pw.step]
      · have hb : (left == 0) = false := by simp [hz]
        go_enter Tryz.func66, Tryz.ntmps66
        go_wp2
        go_ret
        refine ⟨ret_bool (by simp [Pw.goes, hz]), (H.out.set 2 _).to ?_, only_set (World.grownBy.refl w _) _ _⟩
        simp [pw, Pw.step, hz]
  · clear hl
    go_enter Tryz.func66, Tryz.ntmps66
    go_wp2
    go_ret
    exact ⟨rfl, H.out, World.grownBy.refl w _⟩
end Go.Proofs.YtlfmfhdgnmchgaaGreat

