/- Pre RecMath ManiMath PackMath Reader Params -/
import Derived.BigGuardPart
import Derived.Lib.AppendStr
import Derived.Deep.DeepCutAuto
import Derived.Test.YtlfmfhdgnmchgaaGreatBRoomTells00
import Derived.Test.YtlfmfhdgnmchgaaGreatBRoomTells01
set_option maxRecDepth 20000
set_option linter.unusedSimpArgs false
set_option linter.unusedVariables false
set_option linter.unusedSectionVars false
namespace Wells
open Go Go.RowKit
/-- parameters of a code -/
structure Par where
  K : Int
  H : Int
  S : Int
def Par.val (p : Par) : Value := .agg #[.int .i64 p.K, .int .i64 p.H, .int .i64 p.S]
def Par.Ok (p : Par) : Prop := 1 ≤ p.K ∧ p.K ≤ 16 ∧ 1 ≤ p.H ∧ p.H ≤ 4 ∧ 1 ≤ p.S ∧ p.S ≤ 24
def Par.may (p : Par) : Bool := decide (1 ≤ p.K ∧ p.K ≤ 16 ∧ 1 ≤ p.H ∧ p.H ≤ 4 ∧ 1 ≤ p.S ∧ p.S ≤ 24)
theorem Par.may_ok {p : Par} (h : p.may = true) : p.Ok := by unfold Par.may at h; unfold Par.Ok; exact of_decide_eq_true h
theorem Par.ok_may {p : Par} (h : p.Ok) : p.may = true := by unfold Par.Ok at h; unfold Par.may; exact decide_eq_true h
def Par.size (p : Par) : Int := p.K * p.S
theorem Par.size_le {p : Par} (h : p.Ok) : 1 ≤ p.size ∧ p.size ≤ 384 := by
  obtain ⟨h1, h2, _, _, h5, h6⟩ := h
  unfold Par.size
  constructor
  · have := Int.mul_le_mul h1 h5 (by omega) (by omega)
    omega
  · have := Int.mul_le_mul h2 h6 (by omega) (by omega)
    omega
/-- how many blocks hold n bytes -/
def countP (p : Par) (n : Int) : Int := if p.may = true ∧ 0 < n then (n - 1) / p.size + 1 else 0
theorem countP_no {p : Par} {n : Int} (h : ¬ (p.may = true ∧ 0 < n)) : countP p n = 0 := if_neg h
theorem countP_yes {p : Par} {n : Int} (h : p.may = true) (hn : 0 < n) : countP p n = (n - 1) / p.size + 1 := if_pos ⟨h, hn⟩
/-- parameters in three cells at the head of block g -/
def PCells (w : World) (g : Nat) (p : Par) : Prop := w.cell? ⟨g, 0, none⟩ = some (.int .i64 p.K) ∧ w.cell? ⟨g, 1, none⟩ = some (.int .i64 p.H) ∧ w.cell? ⟨g, 2, none⟩ = some (.int .i64 p.S)
theorem PCells.keep {w w' : World} {g B : Nat} {p : Par} (h : PCells w g p) (hb : Below B w w') (hg : g < B) : PCells w' g p :=
  ⟨(hb.cell (p := ⟨g, 0, none⟩) hg).trans h.1, (hb.cell (p := ⟨g, 1, none⟩) hg).trans h.2.1, (hb.cell (p := ⟨g, 2, none⟩) hg).trans h.2.2⟩
theorem PCells.new (w : World) (p : Par) (t : TypeId) : PCells (w.alloc (.cells #[.int .i64 p.K, .int .i64 p.H, .int .i64 p.S] t)) w.heap.size p :=
  ⟨World.cell?_alloc_at _ _ _ _ rfl, World.cell?_alloc_at _ _ _ _ rfl, World.cell?_alloc_at _ _ _ _ rfl⟩
theorem PCells.lt {w : World} {g : Nat} {p : Par} (h : PCells w g p) : g < w.heap.size := World.block_lt_of_cell? w _ h.1
end Wells
namespace Go.Proofs.YtlfmfhdgnmchgaaGreat
open Go.RowKit Wells
theorem premay_any (p : Par) (r : Bool) (w : World) (hr : p.may = r) : Calls Tryz.prog 81 #[p.val] w fun e w' => e = .returned (.bool r) ∧ Below w.heap.size w w' := by
  obtain ⟨K, H, S⟩ := p
  unfold Par.val
  have HR := hid hr
  clear hr
  go_enter Tryz.func81, Tryz.ntmps81
  go_wp2
  all_goals (go_ret; exact ⟨ret_bool (by rw [← HR.out]; unfold Par.may; dsimp only; first | (refine decide_eq_decide.2 ?_; omega) | (refine (decide_eq_false ?_).symm; omega)), (Below.refl _ _).alloc (Nat.le_refl _) _⟩)
theorem refmay_any (p : Par) (r : Bool) (w : World) (hr : p.may = r) : Calls Tryz.prog 73 #[p.val] w fun e w' => e = .returned (.bool r) ∧ Below w.heap.size w w' := by
  obtain ⟨K, H, S⟩ := p
  unfold Par.val
  have HR := hid hr
  clear hr
  go_enter Tryz.func73, Tryz.ntmps73
  go_wp2
  all_goals (go_ret; exact ⟨ret_bool (by rw [← HR.out]; unfold Par.may; dsimp only; first | (refine decide_eq_decide.2 ?_; omega) | (refine (decide_eq_false ?_).symm; omega)), (Below.refl _ _).alloc (Nat.le_refl _) _⟩)
end Go.Proofs.YtlfmfhdgnmchgaaGreat

namespace Wells
open Go Go.RowKit
/-- byte i of a number, the lowest is byte 0 -/
def hiB (x : Int) (i : Nat) : Byte := BitVec.ofNat 8 (x / 2 ^ (8 * i) % 256).toNat
/-- the lowest n bytes of a number, the highest first -/
def highL : Nat → Int → BL
  | 0, _ => []
  | n + 1, x => hiB x n :: highL n x
theorem highL_len (n : Nat) (x : Int) : (highL n x).length = n := by
  induction n with
  | zero => rfl
  | succ n ih => simp [highL, ih]
def numL (l : BL) : Int := l.foldl (fun n b => n * 256 + (b.toNat : Int)) 0
theorem numL_push (l : BL) (b : Byte) : numL (l ++ [b]) = numL l * 256 + (b.toNat : Int) := by simp [numL]
theorem foldl_bound (l : BL) (n : Int) (h : 0 ≤ n) : 0 ≤ l.foldl (fun n (b : Byte) => n * 256 + (b.toNat : Int)) n ∧ l.foldl (fun n (b : Byte) => n * 256 + (b.toNat : Int)) n < (n + 1) * 256 ^ l.length := by
  induction l generalizing n with
  | nil => simp; omega
  | cons b l ih =>
    have hb := b.isLt
    obtain ⟨h1, h2⟩ := ih (n * 256 + (b.toNat : Int)) (by omega)
    rw [List.foldl_cons, List.length_cons, Int.pow_succ, Int.mul_comm (256 ^ l.length) 256, ← Int.mul_assoc]
    refine ⟨h1, Int.lt_of_lt_of_le h2 ?_⟩
    exact Int.mul_le_mul_of_nonneg_right (by omega) (Int.pow_nonneg (by omega))
theorem numL_bound (l : BL) : 0 ≤ numL l ∧ numL l < 256 ^ l.length := by
  have := foldl_bound l 0 (by omega)
  simpa [numL] using this
theorem hiB_toNat (x : Int) (i : Nat) : ((hiB x i).toNat : Int) = x / 2 ^ (8 * i) % 256 := by
  unfold hiB
  rw [BitVec.toNat_ofNat]
  omega
deriving instance DecidableEq for Par
/-- a record -/
structure Rec where
  O : Int
  B : Int
  I : Int
  P : Par
  S : BitVec 32
  D : BL
deriving DecidableEq
def Rec.zero : Rec := ⟨0, 0, 0, ⟨0, 0, 0⟩, 0, []⟩
/-- its value, the bytes being those of that slice -/
def Rec.val (r : Rec) (d : Value) : Value := .agg #[.int .i64 r.O, .int .i64 r.B, .int .i64 r.I, .int .i64 r.P.K, .int .i64 r.P.H, .int .i64 r.P.S, .int .u32 (r.S.toNat : Int), d]
def Rec.may (r : Rec) : Bool := decide (0 ≤ r.O ∧ r.O ≤ 16777215 ∧ 0 ≤ r.B ∧ r.B < 8 ∧ 0 ≤ r.I ∧ r.I ≤ 65535 ∧ r.P.may = true ∧ (r.D.length : Int) = r.P.S)
def recB (r : Rec) : BL := highL 3 r.O ++ highL 1 r.B ++ highL 2 r.I ++ [hiB r.P.K 0, hiB r.P.H 0, hiB r.P.S 0] ++ highL 4 (r.S.toNat : Int) ++ r.D
theorem recB_len (r : Rec) : (recB r).length = 13 + r.D.length := by unfold recB; simp [highL_len]; omega
def putR (r : Rec) : BL := if r.may then cellL 1 (recB r) else []
def byteI (l : BL) (i : Nat) : Int := ((l.getD i 0).toNat : Int)
def parseP (x : BL) : Par := ⟨byteI x 6, byteI x 7, byteI x 8⟩
def parseR (x : BL) : Rec := ⟨numL (x.take 3), numL ((x.drop 3).take 1), numL ((x.drop 4).take 2), parseP x, BitVec.ofNat 32 (numL ((x.drop 9).take 4)).toNat, (x.drop 13).take (byteI x 8).toNat⟩
/-- what bytes say -/
def takeR (b : BL) : Option Rec :=
  match takeP b with
  | none => none
  | some (k, x) => if k = 1#8 ∧ (parseP x).may = true ∧ putR (parseR x) = b then some (parseR x) else none
theorem may_open {r : Rec} (h : r.may = true) : 0 ≤ r.O ∧ r.O ≤ 16777215 ∧ 0 ≤ r.B ∧ r.B < 8 ∧ 0 ≤ r.I ∧ r.I ≤ 65535 ∧ r.P.may = true ∧ (r.D.length : Int) = r.P.S := by
  unfold Rec.may at h
  exact of_decide_eq_true h
theorem putR_yes {r : Rec} (h : r.may = true) : putR r = cellL 1 (recB r) := if_pos h
theorem rec_short {r : Rec} (h : r.may = true) : (recB r).length ≤ 55 := by
  obtain ⟨_, _, _, _, _, _, h7, h8⟩ := may_open h
  have hp := Par.may_ok h7
  obtain ⟨p1, p2, p3, p4, p5, p6⟩ := hp
  rw [recB_len]
  omega
theorem putR_frame {r : Rec} (h : r.may = true) : putR r = frame 1#8 (recB r) := by
  rw [putR_yes h, cellL_yes ⟨by omega, by omega, rec_short h⟩]; rfl
theorem putR_len {r : Rec} (h : r.may = true) : (putR r).length = 64 := by rw [putR_frame h, frame_len (rec_short h)]
theorem takeR_some {b : BL} {r : Rec} (h : takeR b = some r) : r.may = true ∧ putR r = b := by
  unfold takeR at h
  split at h
  · cases h
  · rename_i k x hk
    split at h
    · rename_i hc
      injection h with h
      subst h
      refine ⟨?_, hc.2.2⟩
      cases hm : (parseR x).may with
      | true => rfl
      | false =>
        have := hc.2.2
        unfold putR at this
        rw [hm] at this
        simp at this
        subst this
        have := (take_some hk).2.2
        have h2 := congrArg List.length this
        rw [frame_len (by have := (take_some hk).2.1; omega)] at h2
        cases h2
    · cases h
end Wells

namespace Wells
open Go Go.RowKit
/-- an object of a manifest -/
structure Ent where
  name : List Byte
  obj : Int
  len : Int
  tries : List Int
deriving DecidableEq
instance : Inhabited Ent := ⟨⟨[], 0, 0, []⟩⟩
/-- a manifest -/
structure Mani where
  seq : Int
  next : Int
  P : Par
  extra : Int
  drives : List Int
  objs : List Ent
deriving DecidableEq
/-- a string of bytes -/
def strB (l : List Byte) : ByteArray := ⟨(l.map UInt8.ofBitVec).toArray⟩
def bytesB (s : ByteArray) : List Byte := s.data.toList.map UInt8.toBitVec
theorem strB_bytesB (s : ByteArray) : strB (bytesB s) = s := by
  unfold strB bytesB
  rw [List.map_map]
  have : (UInt8.ofBitVec ∘ UInt8.toBitVec) = id := by funext x; rfl
  rw [this, List.map_id]
theorem strB_size (l : List Byte) : (strB l).size = l.length := by
  unfold strB
  show (l.map UInt8.ofBitVec).toArray.size = _
  simp
theorem strB_get (l : List Byte) (k : Nat) (h : k < (strB l).size) : (((strB l)[k]'h).toNat : Int) = ((l.getD k 0).toNat : Int) := by
  have hk : k < l.length := by rw [strB_size] at h; exact h
  have : (strB l)[k]'h = UInt8.ofBitVec (l.getD k 0) := by
    rw [List.getD_eq_getElem?_getD, List.getElem?_eq_getElem hk]
    show (l.map UInt8.ofBitVec).toArray[k]'(by simpa using hk) = _
    simp
  rw [this]
  rfl
def Ent.cells (e : Ent) (tv : Value) : List Value := [.string (strB e.name), iv e.obj, iv e.len, tv]
def Ent.val (e : Ent) (tv : Value) : Value := .agg #[.string (strB e.name), .int .i64 e.obj, .int .i64 e.len, tv]
def Mani.val (m : Mani) (dv ov : Value) : Value := .agg #[.int .i64 m.seq, .int .i64 m.next, .int .i64 m.P.K, .int .i64 m.P.H, .int .i64 m.P.S, .int .i64 m.extra, dv, ov]
def Mani.cells (m : Mani) (dv ov : Value) : List Value := [.int .i64 m.seq, .int .i64 m.next, .int .i64 m.P.K, .int .i64 m.P.H, .int .i64 m.P.S, .int .i64 m.extra, dv, ov]
/-- a letter of a name -/
def nameC (c : Byte) : Bool := decide ((97 ≤ c.toNat ∧ c.toNat ≤ 122) ∨ (48 ≤ c.toNat ∧ c.toNat ≤ 57) ∨ c.toNat = 45)
def nameOk (s : List Byte) : Bool := s.all nameC && decide (1 ≤ s.length ∧ s.length ≤ 12)
/-- is one text ahead of another? -/
def lessS (a b : List Byte) : Bool := Op.bytesLess (strB a).toList (strB b).toList
def riseStep (l : List Int) (most : Int) (i : Nat) : Bool := decide (0 ≤ l.getD i 0 ∧ l.getD i 0 ≤ most) && (decide (i = 0) || decide (l.getD (i - 1) 0 < l.getD i 0))
def riseB (l : List Int) (most : Int) : Bool := (List.range l.length).all (riseStep l most)
def triesOk (l : List Int) : Bool := l.all fun z => decide (0 ≤ z ∧ z ≤ 15)
def entB (m : Mani) (x : Ent) : Bool :=
  nameOk x.name && (decide (0 ≤ x.obj ∧ x.obj ≤ m.next - 1) && (decide (0 ≤ x.len ∧ x.len ≤ m.P.K * m.P.S * 8) && (triesOk x.tries && decide ((x.tries.length : Int) = countP m.P x.len))))
def entAt (m : Mani) (i : Nat) : Ent := m.objs.getD i default
def objStep (m : Mani) (i : Nat) : Bool :=
  entB m (entAt m i) && ((decide (i = 0) || lessS (entAt m (i - 1)).name (entAt m i).name) && (m.objs.take i).all fun y => !decide (y.obj = (entAt m i).obj))
def preB (m : Mani) : Bool := decide (1 ≤ m.seq ∧ m.seq ≤ 2147483647) && (decide (0 ≤ m.next ∧ m.next ≤ 16777216) && (m.P.may && (decide (0 ≤ m.extra ∧ m.extra ≤ 16))))
def Mani.may (m : Mani) : Bool := preB m && (riseB m.drives 63 && (decide (m.objs.length ≤ 12) && (List.range m.objs.length).all (objStep m)))
theorem all_range_false {f : Nat → Bool} {n k : Nat} (hk : k < n) (h : f k = false) : (List.range n).all f = false := by
  rw [List.all_eq_false]
  exact ⟨k, List.mem_range.2 hk, by simp [h]⟩
theorem all_range_true {f : Nat → Bool} {n : Nat} (h : ∀ k, k < n → f k = true) : (List.range n).all f = true := by
  rw [List.all_eq_true]
  intro k hk
  exact h k (List.mem_range.1 hk)
theorem all_range_at {f : Nat → Bool} {n k : Nat} (h : (List.range n).all f = true) (hk : k < n) : f k = true := by
  rw [List.all_eq_true] at h
  exact h k (List.mem_range.2 hk)
/-- numbers of the width that Go's int has -/
def i64 (z : Int) : Prop := -9223372036854775808 ≤ z ∧ z ≤ 9223372036854775807
structure M64 (m : Mani) : Prop where
  seq : i64 m.seq
  next : i64 m.next
  K : i64 m.P.K
  H : i64 m.P.H
  S : i64 m.P.S
  extra : i64 m.extra
  drives : ∀ z ∈ m.drives, i64 z
  objs : ∀ e ∈ m.objs, i64 e.obj ∧ i64 e.len ∧ ∀ z ∈ e.tries, i64 z
/-- the cells of a row of entries -/
def entsC : List Ent → List Value → List Value
  | e :: es, t :: ts => e.cells t ++ entsC es ts
  | _, _ => []
theorem entsC_len : ∀ (es : List Ent) (ts : List Value), es.length = ts.length → (entsC es ts).length = es.length * 4
  | [], [], _ => rfl
  | e :: es, t :: ts, h => by
    simp only [entsC, List.length_append, entsC_len es ts (by simpa using h), List.length_cons]
    show 4 + _ = _
    omega
  | [], _ :: _, h => by simp at h
  | _ :: _, [], h => by simp at h
theorem entsC_at : ∀ (es : List Ent) (ts : List Value) (i : Nat), es.length = ts.length → i < es.length → ∀ j, j < 4 → (entsC es ts)[i * 4 + j]? = ((es.getD i default).cells (ts.getD i undef))[j]?
  | e :: es, t :: ts, 0, _, _, j, hj => by
    simp only [entsC, Nat.zero_mul, Nat.zero_add]
    rw [List.getElem?_append_left (by show j < 4; exact hj)]
    rfl
  | e :: es, t :: ts, i + 1, h, hi, j, hj => by
    simp only [entsC]
    rw [List.getElem?_append_right (by show 4 ≤ _; omega)]
    show (entsC es ts)[(i + 1) * 4 + j - 4]? = _
    rw [show (i + 1) * 4 + j - 4 = i * 4 + j by omega, entsC_at es ts i (by simpa using h) (by simpa using hi) j hj]
    rfl
  | [], _, _, _, hi, _, _ => by simp at hi
  | _ :: _, [], _, h, _, _, _ => by simp at h
theorem entsC_snoc (e : Ent) (t : Value) : ∀ (es : List Ent) (ts : List Value), es.length = ts.length → entsC (es ++ [e]) (ts ++ [t]) = entsC es ts ++ e.cells t
  | [], [], _ => by simp [entsC]
  | a :: es, b :: ts, h => by simp only [List.cons_append, entsC, entsC_snoc e t es ts (by simpa using h), List.append_assoc]
  | [], _ :: _, h => by simp at h
  | _ :: _, [], h => by simp at h
theorem entsC_take : ∀ (es : List Ent) (ts : List Value) (k : Nat), es.length = ts.length → (entsC es ts).take (k * 4) = entsC (es.take k) (ts.take k)
  | _, _, 0, _ => by simp [entsC]
  | [], [], k + 1, _ => by simp [entsC]
  | a :: es, b :: ts, k + 1, h => by
    simp only [List.take_succ_cons, entsC]
    rw [List.take_append, List.take_of_length_le (by show 4 ≤ _; omega)]
    show _ ++ (entsC es ts).take ((k + 1) * 4 - 4) = _
    rw [show (k + 1) * 4 - 4 = k * 4 by omega, entsC_take es ts k (by simpa using h)]
  | [], _ :: _, _, h => by simp at h
  | _ :: _, [], _, h => by simp at h
/-- entries that can be read, below block B -/
structure REs (w : World) (B : Nat) (A : Option Addr) (n : Nat) (ts : List Value) (es : List Ent) : Prop where
  sl : Sl w B 4 A n (entsC es ts)
  len : es.length = n
  tlen : ts.length = n
  at_ : ∀ i, i < n → ∃ A' c, ts.getD i undef = .slice A' (es.getD i default).tries.length c ∧ (es.getD i default).tries.length ≤ c ∧ c ≤ 9223372036854775807 ∧ Sl w B 1 A' (es.getD i default).tries.length ((es.getD i default).tries.map iv)
section
variable {w w' : World} {B B' n : Nat} {A : Option Addr} {ts : List Value} {es : List Ent}
theorem REs.below (h : REs w B A n ts es) (hb : Below B w w') : REs w' B A n ts es :=
  ⟨h.sl.below hb, h.len, h.tlen, fun i hi => by
    obtain ⟨A', c, e, h1, h2, h3⟩ := h.at_ i hi
    exact ⟨A', c, e, h1, h2, h3.below hb⟩⟩
theorem REs.mono (h : REs w B A n ts es) (hb : B ≤ B') : REs w B' A n ts es :=
  ⟨h.sl.mono hb, h.len, h.tlen, fun i hi => by
    obtain ⟨A', c, e, h1, h2, h3⟩ := h.at_ i hi
    exact ⟨A', c, e, h1, h2, h3.mono hb⟩⟩
theorem REs.take (h : REs w B A n ts es) {k : Nat} (hk : k ≤ n) : REs w B A k (ts.take k) (es.take k) := by
  refine ⟨?_, by rw [List.length_take, h.len]; omega, by rw [List.length_take, h.tlen]; omega, fun i hi => ?_⟩
  · have := h.sl.take hk
    rwa [entsC_take es ts k (by rw [h.len, h.tlen])] at this
  · have := h.at_ i (by omega)
    rw [List.getD_eq_getElem?_getD, List.getD_eq_getElem?_getD, List.getElem?_take_of_lt hi, List.getElem?_take_of_lt hi, ← List.getD_eq_getElem?_getD, ← List.getD_eq_getElem?_getD]
    exact this
/-- entry k: its four cells, and its tries -/
theorem REs.get (h : REs w B A n ts es) {k : Nat} (hk : k < n) :
    ∃ b o A' c, A = some ⟨b, o, none⟩ ∧ b < B ∧ w.cell? ⟨b, o + k * 4, none⟩ = some (.string (strB (es.getD k default).name)) ∧ w.cell? ⟨b, o + k * 4 + 1, none⟩ = some (.int .i64 (es.getD k default).obj) ∧ w.cell? ⟨b, o + k * 4 + 2, none⟩ = some (.int .i64 (es.getD k default).len) ∧
      w.cell? ⟨b, o + k * 4 + 3, none⟩ = some (.slice A' (es.getD k default).tries.length c) ∧ (es.getD k default).tries.length ≤ c ∧ c ≤ 9223372036854775807 ∧ Sl w B 1 A' (es.getD k default).tries.length ((es.getD k default).tries.map iv) := by
  obtain ⟨A', c, e, h1, h2, h3⟩ := h.at_ k hk
  obtain ⟨b, o, hA, hb, hc⟩ := h.sl.at_ (by omega)
  have ht := entsC_at es ts k (by rw [h.len, h.tlen]) (by rw [h.len]; exact hk)
  refine ⟨b, o, A', c, hA, hb, ?_, ?_, ?_, ?_, h1, h2, h3⟩
  · exact hc _ _ (ht 0 (by omega))
  · have := hc _ _ (ht 1 (by omega))
    exact this
  · have := hc _ _ (ht 2 (by omega))
    exact this
  · have := hc _ _ (ht 3 (by omega))
    rw [show o + k * 4 + 3 = o + (k * 4 + 3) by omega, this, e]
end
/-- a manifest's two lists, as they can be read -/
structure RM (w : World) (B : Nat) (m : Mani) (Ad : Option Addr) (nd cd : Nat) (Ao : Option Addr) (no co : Nat) (ts : List Value) : Prop where
  d : Sl w B 1 Ad nd (m.drives.map iv)
  dl : m.drives.length = nd
  dc : nd ≤ cd ∧ cd ≤ 9223372036854775807
  o : REs w B Ao no ts m.objs
  oc : no ≤ co ∧ co ≤ 9223372036854775807
theorem RM.below {w w' : World} {B : Nat} {m : Mani} {Ad Ao : Option Addr} {nd cd no co : Nat} {ts : List Value} (h : RM w B m Ad nd cd Ao no co ts) (hb : Below B w w') : RM w' B m Ad nd cd Ao no co ts := ⟨h.d.below hb, h.dl, h.dc, h.o.below hb, h.oc⟩
theorem RM.mono {w : World} {B B' : Nat} {m : Mani} {Ad Ao : Option Addr} {nd cd no co : Nat} {ts : List Value} (h : RM w B m Ad nd cd Ao no co ts) (hb : B ≤ B') : RM w B' m Ad nd cd Ao no co ts := ⟨h.d.mono hb, h.dl, h.dc, h.o.mono hb, h.oc⟩
/-- a manifest in eight cells at the head of block g -/
def MCells (w : World) (g : Nat) (m : Mani) (dv ov : Value) : Prop :=
  w.cell? ⟨g, 0, none⟩ = some (.int .i64 m.seq) ∧ w.cell? ⟨g, 1, none⟩ = some (.int .i64 m.next) ∧ w.cell? ⟨g, 2, none⟩ = some (.int .i64 m.P.K) ∧ w.cell? ⟨g, 3, none⟩ = some (.int .i64 m.P.H) ∧ w.cell? ⟨g, 4, none⟩ = some (.int .i64 m.P.S) ∧ w.cell? ⟨g, 5, none⟩ = some (.int .i64 m.extra) ∧ w.cell? ⟨g, 6, none⟩ = some dv ∧ w.cell? ⟨g, 7, none⟩ = some ov
theorem MCells.keep {w w' : World} {g B : Nat} {m : Mani} {dv ov : Value} (h : MCells w g m dv ov) (hb : Below B w w') (hg : g < B) : MCells w' g m dv ov := by
  obtain ⟨h0, h1, h2, h3, h4, h5, h6, h7⟩ := h
  have k : ∀ i, w'.cell? ⟨g, i, none⟩ = w.cell? ⟨g, i, none⟩ := fun i => hb.cell (p := ⟨g, i, none⟩) hg
  exact ⟨(k 0).trans h0, (k 1).trans h1, (k 2).trans h2, (k 3).trans h3, (k 4).trans h4, (k 5).trans h5, (k 6).trans h6, (k 7).trans h7⟩
theorem MCells.of_row {w : World} {g : Nat} {t : TypeId} {m : Mani} {dv ov : Value} (h : Row w g t (m.cells dv ov)) : MCells w g m dv ov :=
  ⟨h.cell 0, h.cell 1, h.cell 2, h.cell 3, h.cell 4, h.cell 5, h.cell 6, h.cell 7⟩
theorem MCells.lt {w : World} {g : Nat} {m : Mani} {dv ov : Value} (h : MCells w g m dv ov) : g < w.heap.size := World.block_lt_of_cell? w _ h.1
abbrev maniObj (t : TypeId) (m : Mani) (dv ov : Value) : Obj := .cells #[.int .i64 m.seq, .int .i64 m.next, .int .i64 m.P.K, .int .i64 m.P.H, .int .i64 m.P.S, .int .i64 m.extra, dv, ov] t
theorem MCells.new (w : World) (t : TypeId) (m : Mani) (dv ov : Value) : MCells (w.alloc (maniObj t m dv ov)) w.heap.size m dv ov := .of_row (Row.new w t _)
end Wells

namespace Wells
open Go Go.RowKit
def b8 (z : Int) : Byte := hiB z 0
theorem b8_val {z : Int} (h : 0 ≤ z ∧ z ≤ 255) : bv8 (b8 z) = .int .u8 z := by
  unfold bv8 b8
  rw [hiB_toNat]
  congr 1
  simp
  omega
def packE (e : Ent) : BL := [b8 e.name.length] ++ e.name ++ highL 3 e.obj ++ highL 2 e.len ++ e.tries.map b8
def packH (m : Mani) : BL := highL 4 m.seq ++ highL 4 m.next ++ [b8 m.P.K, b8 m.P.H, b8 m.P.S, b8 m.extra, b8 m.drives.length]
def packL (m : Mani) : BL := packH m ++ m.drives.map b8 ++ [b8 m.objs.length] ++ m.objs.flatMap packE
def pack (m : Mani) : BL := if m.may then packL m else []
theorem take_b8 {l : List Int} {k : Nat} (h : k < l.length) : (l.take (k + 1)).map b8 = (l.take k).map b8 ++ [b8 (l.getD k 0)] := by
  rw [List.take_succ_eq_append_getElem h, List.map_append]; simp [h]
theorem take_ents {es : List Ent} {k : Nat} (h : k < es.length) : (es.take (k + 1)).flatMap packE = (es.take k).flatMap packE ++ packE (es.getD k default) := by
  rw [List.take_succ_eq_append_getElem h, List.flatMap_append]; simp [h]
theorem rise_ge {l : List Int} {most : Int} (h : riseB l most = true) : ∀ i, i < l.length → (i : Int) ≤ l.getD i 0
  | 0, hi => by
    have := all_range_at h hi
    unfold riseStep at this
    simp only [Bool.and_eq_true, decide_eq_true_eq] at this
    simpa using this.1.1
  | i + 1, hi => by
    have ih := rise_ge h i (by omega)
    have := all_range_at h hi
    unfold riseStep at this
    simp only [Bool.and_eq_true, Bool.or_eq_true, decide_eq_true_eq] at this
    rcases this.2 with h1 | h1
    · omega
    · simp only [Nat.add_sub_cancel] at h1
      omega
theorem rise_at {l : List Int} {most : Int} (h : riseB l most = true) {i : Nat} (hi : i < l.length) : 0 ≤ l.getD i 0 ∧ l.getD i 0 ≤ most := by
  have := all_range_at h hi
  unfold riseStep at this
  simp only [Bool.and_eq_true, decide_eq_true_eq] at this
  exact this.1
theorem rise_len {l : List Int} (h : riseB l 63 = true) : l.length ≤ 64 := by
  rcases Nat.eq_zero_or_pos l.length with h0 | h0
  · omega
  · have h1 := rise_ge h (l.length - 1) (by omega)
    have h2 := rise_at h (i := l.length - 1) (by omega)
    omega
/-- what a manifest that may be keeps to -/
structure MayP (m : Mani) : Prop where
  seq : 1 ≤ m.seq ∧ m.seq ≤ 2147483647
  next : 0 ≤ m.next ∧ m.next ≤ 16777216
  P : m.P.may = true
  extra : 0 ≤ m.extra ∧ m.extra ≤ 16
  drives : riseB m.drives 63 = true
  olen : m.objs.length ≤ 12
  objs : ∀ i, i < m.objs.length → objStep m i = true
theorem may_p {m : Mani} (h : m.may = true) : MayP m := by
  unfold Mani.may preB at h
  simp only [Bool.and_eq_true, decide_eq_true_eq] at h
  obtain ⟨⟨h1, h2, h3, h4⟩, h5, h6, h7⟩ := h
  exact ⟨h1, h2, h3, h4, h5, h6, fun i hi => all_range_at h7 hi⟩
theorem p_may {m : Mani} (h : MayP m) : m.may = true := by
  unfold Mani.may preB
  simp only [Bool.and_eq_true, decide_eq_true_eq]
  exact ⟨⟨h.seq, h.next, h.P, h.extra⟩, h.drives, h.olen, all_range_true h.objs⟩
/-- what an entry that may be keeps to -/
structure EntP (m : Mani) (e : Ent) : Prop where
  name : nameOk e.name = true
  nlen : 1 ≤ e.name.length ∧ e.name.length ≤ 12
  obj : 0 ≤ e.obj ∧ e.obj ≤ m.next - 1
  len : 0 ≤ e.len ∧ e.len ≤ m.P.K * m.P.S * 8
  len2 : e.len ≤ 3072
  tries : triesOk e.tries = true
  count : (e.tries.length : Int) = countP m.P e.len
  tlen : e.tries.length ≤ 8
theorem ent_p {m : Mani} {e : Ent} (hP : m.P.may = true) (h : entB m e = true) : EntP m e := by
  unfold entB at h
  simp only [Bool.and_eq_true, decide_eq_true_eq] at h
  obtain ⟨h1, h2, h3, h4, h5⟩ := h
  have hs := Par.size_le (Par.may_ok hP)
  unfold Par.size at hs
  obtain ⟨q, hq⟩ : ∃ q, m.P.K * m.P.S = q := ⟨_, rfl⟩
  have hn : 1 ≤ e.name.length ∧ e.name.length ≤ 12 := by
    unfold nameOk at h1
    simp only [Bool.and_eq_true, decide_eq_true_eq] at h1
    exact h1.2
  have hl : e.len ≤ 3072 := by rw [hq] at hs h3; omega
  refine ⟨h1, hn, h2, h3, hl, h4, h5, ?_⟩
  unfold countP at h5
  split at h5
  · rename_i hc
    have : (e.len - 1) / m.P.size < 8 := by
      unfold Par.size
      rw [hq] at h3 hs ⊢
      exact Int.ediv_lt_of_lt_mul (by omega) (by omega)
    omega
  · omega
theorem ent_at {m : Mani} (h : MayP m) {i : Nat} (hi : i < m.objs.length) : EntP m (m.objs.getD i default) := by
  have := h.objs i hi
  unfold objStep at this
  simp only [Bool.and_eq_true] at this
  exact ent_p h.P this.1
theorem packE_len {m : Mani} {e : Ent} (h : EntP m e) : (packE e).length ≤ 26 := by
  unfold packE
  simp only [List.length_append, List.length_map, highL_len, List.length_singleton]
  have := h.nlen; have := h.tlen
  omega
theorem tries_at {l : List Int} (h : triesOk l = true) {k : Nat} (hk : k < l.length) : 0 ≤ l.getD k 0 ∧ l.getD k 0 ≤ 15 := by
  unfold triesOk at h
  rw [List.all_eq_true] at h
  have := h (l.getD k 0) (by rw [List.getD_eq_getElem?_getD, List.getElem?_eq_getElem hk]; exact List.getElem_mem _)
  simpa using this
theorem strCells_strB (l : List Byte) : Lib.strCells (strB l) = l.map bv8 := by
  unfold Lib.strCells strB
  simp only [List.map_map]
  apply List.map_congr_left
  intro x _
  rfl
end Wells

namespace Wells
open Go Go.RowKit
abbrev RSt := List Byte × Bool
end Wells
namespace Go.Proofs.YtlfmfhdgnmchgaaGreat
open Go.RowKit Wells
/-- a reader at block g: what is left of the bytes (in blocks below B), and whether there were too few -/
def Rd (t : TypeId) (B : Nat) (w : World) (g : Nat) (st : RSt) : Prop :=
  ∃ (A : Option Addr) (n c : Nat), Row w g t [.slice A n c, .bool st.2] ∧ Sl w B 1 A n (st.1.map bv8) ∧ st.1.length = n ∧ n ≤ c ∧ c ≤ 9223372036854775807 ∧ B ≤ g
theorem Rd.keep {t : TypeId} {B g : Nat} {w w' : World} {st : RSt} (h : Rd t B w g st) (hb : Below w.heap.size w w') (hB : B ≤ w.heap.size) : Rd t B w' g st := by
  obtain ⟨A, n, c, h1, h2, h3, h4, h5, h6⟩ := h
  exact ⟨A, n, c, h1.below hb h1.lt, h2.below (hb.mono hB), h3, h4, h5, h6⟩
end Go.Proofs.YtlfmfhdgnmchgaaGreat

namespace Wells
open Go Go.RowKit
def smallOf (a b c : Int) : Par := ⟨1 + a % 6, 1 + b % 3, 1 + c % 9⟩
end Wells
namespace Go.Proofs.YtlfmfhdgnmchgaaGreat
open Go.RowKit Wells
theorem small_any (p : Par) (a b c : Int) (w : World) (ha : -9223372036854775808 ≤ a ∧ a ≤ 9223372036854775807) (hb : -9223372036854775808 ≤ b ∧ b ≤ 9223372036854775807) (hc : -9223372036854775808 ≤ c ∧ c ≤ 9223372036854775807) (hp : smallOf a b c = p) :
    Calls Tryz.prog 34 #[.int .i64 a, .int .i64 b, .int .i64 c] w fun e w' => e = .returned (.agg #[.int .i64 p.K, .int .i64 p.H, .int .i64 p.S]) ∧ Below w.heap.size w w' := by
  subst hp
  obtain ⟨x, hx⟩ : ∃ x, a % 6 = x := ⟨_, rfl⟩
  obtain ⟨y, hy⟩ : ∃ y, b % 3 = y := ⟨_, rfl⟩
  obtain ⟨z, hz⟩ : ∃ z, c % 9 = z := ⟨_, rfl⟩
  have h1 : 0 ≤ x ∧ x ≤ 5 := by omega
  have h2 : 0 ≤ y ∧ y ≤ 2 := by omega
  have h3 : 0 ≤ z ∧ z ≤ 8 := by omega
  obtain ⟨h1, h1'⟩ := h1
  obtain ⟨h2, h2'⟩ := h2
  obtain ⟨h3, h3'⟩ := h3
  have HX := hid hx
  have HY := hid hy
  have HZ := hid hz
  clear hx hy hz
  go_enter Tryz.func34, Tryz.ntmps34
  go_wp2_with fail
  refine (within_any a 6 _ ha.1 ha.2 (by omega) (by omega)).mono ?_
  rintro e w1 ⟨rfl, rfl⟩
  rw [HX.out]
  go_wp2_with fail
  refine (within_any b 3 _ hb.1 hb.2 (by omega) (by omega)).mono ?_
  rintro e w1 ⟨rfl, rfl⟩
  rw [HY.out]
  go_wp2_with fail
  refine (within_any c 9 _ hc.1 hc.2 (by omega) (by omega)).mono ?_
  rintro e w1 ⟨rfl, rfl⟩
  rw [HZ.out]
  go_wp2
  refine bodyPost_ret (v := .agg #[.int .i64 (1 + x), .int .i64 (1 + y), .int .i64 (1 + z)]) (by simp [results, Tryz.results34, go_sem]) rfl ⟨?_, (Below.refl _ _).alloc (Nat.le_refl _) _⟩
  rw [← HX.out, ← HY.out, ← HZ.out]
  rfl
end Go.Proofs.YtlfmfhdgnmchgaaGreat

