/- ManiMath Mani1 Mani2 -/
import Derived.BigGuardPart
import Derived.Laws.IdiomStrings
import Derived.Deep.QuietTactic
import Derived.BigQuiet
import Derived.Test.YtlfmfhdgnmchgaaBRoomLess02
import Derived.Test.YtlfmfhdgnmchgaaBRoomLess06
set_option maxRecDepth 20000
set_option linter.unusedSimpArgs false
set_option linter.unusedVariables false
set_option linter.unusedSectionVars false
namespace Wells
open Go Go.RowKit
/-- an object of a manifest -/
structure Ent where
  name : List Byte
  obj : Int
  len : Int
  tries : List Int
deriving DecidableEq
instance : Inhabited Ent := ⟨⟨[], 0, 0, []⟩⟩
/-- a manifest -/
structure Mani where
  seq : Int
  next : Int
  P : Par
  extra : Int
  drives : List Int
  objs : List Ent
deriving DecidableEq
/-- a string of bytes -/
def strB (l : List Byte) : ByteArray := ⟨(l.map UInt8.ofBitVec).toArray⟩
theorem strB_size (l : List Byte) : (strB l).size = l.length := by
  unfold strB
  show (l.map UInt8.ofBitVec).toArray.size = _
  simp
theorem strB_get (l : List Byte) (k : Nat) (h : k < (strB l).size) : (((strB l)[k]'h).toNat : Int) = ((l.getD k 0).toNat : Int) := by
  have hk : k < l.length := by rw [strB_size] at h; exact h
  have : (strB l)[k]'h = UInt8.ofBitVec (l.getD k 0) := by
    rw [List.getD_eq_getElem?_getD, List.getElem?_eq_getElem hk]
    show (l.map UInt8.ofBitVec).toArray[k]'(by simpa using hk) = _
    simp
  rw [this]
  rfl
def Ent.cells (e : Ent) (tv : Value) : List Value := [.string (strB e.name), iv e.obj, iv e.len, tv]
def Ent.val (e : Ent) (tv : Value) : Value := .agg #[.string (strB e.name), .int .i64 e.obj, .int .i64 e.len, tv]
def Mani.val (m : Mani) (dv ov : Value) : Value := .agg #[.int .i64 m.seq, .int .i64 m.next, .int .i64 m.P.K, .int .i64 m.P.H, .int .i64 m.P.S, .int .i64 m.extra, dv, ov]
def Mani.cells (m : Mani) (dv ov : Value) : List Value := [.int .i64 m.seq, .int .i64 m.next, .int .i64 m.P.K, .int .i64 m.P.H, .int .i64 m.P.S, .int .i64 m.extra, dv, ov]
/-- a letter of a name -/
def nameC (c : Byte) : Bool := decide ((97 ≤ c.toNat ∧ c.toNat ≤ 122) ∨ (48 ≤ c.toNat ∧ c.toNat ≤ 57) ∨ c.toNat = 45)
def nameOk (s : List Byte) : Bool := s.all nameC && decide (1 ≤ s.length ∧ s.length ≤ 12)
/-- is one text ahead of another? -/
def lessS (a b : List Byte) : Bool := Op.bytesLess (strB a).toList (strB b).toList
def riseStep (l : List Int) (most : Int) (i : Nat) : Bool := decide (0 ≤ l.getD i 0 ∧ l.getD i 0 ≤ most) && (decide (i = 0) || decide (l.getD (i - 1) 0 < l.getD i 0))
def riseB (l : List Int) (most : Int) : Bool := (List.range l.length).all (riseStep l most)
def triesOk (l : List Int) : Bool := l.all fun z => decide (0 ≤ z ∧ z ≤ 15)
def entB (m : Mani) (x : Ent) : Bool :=
  nameOk x.name && (decide (0 ≤ x.obj ∧ x.obj ≤ m.next - 1) && (decide (0 ≤ x.len ∧ x.len ≤ m.P.K * m.P.S * 8) && (triesOk x.tries && decide ((x.tries.length : Int) = countP m.P x.len))))
def entAt (m : Mani) (i : Nat) : Ent := m.objs.getD i default
def objStep (m : Mani) (i : Nat) : Bool :=
  entB m (entAt m i) && ((decide (i = 0) || lessS (entAt m (i - 1)).name (entAt m i).name) && (m.objs.take i).all fun y => !decide (y.obj = (entAt m i).obj))
def preB (m : Mani) : Bool := decide (1 ≤ m.seq ∧ m.seq ≤ 2147483647) && (decide (0 ≤ m.next ∧ m.next ≤ 16777216) && (m.P.may && (decide (0 ≤ m.extra ∧ m.extra ≤ 16))))
def Mani.may (m : Mani) : Bool := preB m && (riseB m.drives 63 && (decide (m.objs.length ≤ 12) && (List.range m.objs.length).all (objStep m)))
theorem all_range_false {f : Nat → Bool} {n k : Nat} (hk : k < n) (h : f k = false) : (List.range n).all f = false := by
  rw [List.all_eq_false]
  exact ⟨k, List.mem_range.2 hk, by simp [h]⟩
theorem all_range_true {f : Nat → Bool} {n : Nat} (h : ∀ k, k < n → f k = true) : (List.range n).all f = true := by
  rw [List.all_eq_true]
  intro k hk
  exact h k (List.mem_range.1 hk)
theorem all_range_at {f : Nat → Bool} {n k : Nat} (h : (List.range n).all f = true) (hk : k < n) : f k = true := by
  rw [List.all_eq_true] at h
  exact h k (List.mem_range.2 hk)
/-- numbers of the width that Go's int has -/
def i64 (z : Int) : Prop := -9223372036854775808 ≤ z ∧ z ≤ 9223372036854775807
structure M64 (m : Mani) : Prop where
  seq : i64 m.seq
  next : i64 m.next
  K : i64 m.P.K
  H : i64 m.P.H
  S : i64 m.P.S
  extra : i64 m.extra
  drives : ∀ z ∈ m.drives, i64 z
  objs : ∀ e ∈ m.objs, i64 e.obj ∧ i64 e.len ∧ ∀ z ∈ e.tries, i64 z
/-- the cells of a row of entries -/
def entsC : List Ent → List Value → List Value
  | e :: es, t :: ts => e.cells t ++ entsC es ts
  | _, _ => []
theorem entsC_at : ∀ (es : List Ent) (ts : List Value) (i : Nat), es.length = ts.length → i < es.length → ∀ j, j < 4 → (entsC es ts)[i * 4 + j]? = ((es.getD i default).cells (ts.getD i undef))[j]?
  | e :: es, t :: ts, 0, _, _, j, hj => by
    simp only [entsC, Nat.zero_mul, Nat.zero_add]
    rw [List.getElem?_append_left (by show j < 4; exact hj)]
    rfl
  | e :: es, t :: ts, i + 1, h, hi, j, hj => by
    simp only [entsC]
    rw [List.getElem?_append_right (by show 4 ≤ _; omega)]
    show (entsC es ts)[(i + 1) * 4 + j - 4]? = _
    rw [show (i + 1) * 4 + j - 4 = i * 4 + j by omega, entsC_at es ts i (by simpa using h) (by simpa using hi) j hj]
    rfl
  | [], _, _, _, hi, _, _ => by simp at hi
  | _ :: _, [], _, h, _, _, _ => by simp at h
theorem entsC_snoc (e : Ent) (t : Value) : ∀ (es : List Ent) (ts : List Value), es.length = ts.length → entsC (es ++ [e]) (ts ++ [t]) = entsC es ts ++ e.cells t
  | [], [], _ => by simp [entsC]
  | a :: es, b :: ts, h => by simp only [List.cons_append, entsC, entsC_snoc e t es ts (by simpa using h), List.append_assoc]
  | [], _ :: _, h => by simp at h
  | _ :: _, [], h => by simp at h
theorem entsC_take : ∀ (es : List Ent) (ts : List Value) (k : Nat), es.length = ts.length → (entsC es ts).take (k * 4) = entsC (es.take k) (ts.take k)
  | _, _, 0, _ => by simp [entsC]
  | [], [], k + 1, _ => by simp [entsC]
  | a :: es, b :: ts, k + 1, h => by
    simp only [List.take_succ_cons, entsC]
    rw [List.take_append, List.take_of_length_le (by show 4 ≤ _; omega)]
    show _ ++ (entsC es ts).take ((k + 1) * 4 - 4) = _
    rw [show (k + 1) * 4 - 4 = k * 4 by omega, entsC_take es ts k (by simpa using h)]
  | [], _ :: _, _, h => by simp at h
  | _ :: _, [], _, h => by simp at h
/-- entries that can be read, below block B -/
structure REs (w : World) (B : Nat) (A : Option Addr) (n : Nat) (ts : List Value) (es : List Ent) : Prop where
  sl : Sl w B 4 A n (entsC es ts)
  len : es.length = n
  tlen : ts.length = n
  at_ : ∀ i, i < n → ∃ A' c, ts.getD i undef = .slice A' (es.getD i default).tries.length c ∧ (es.getD i default).tries.length ≤ c ∧ c ≤ 9223372036854775807 ∧ Sl w B 1 A' (es.getD i default).tries.length ((es.getD i default).tries.map iv)
section
variable {w w' : World} {B B' n : Nat} {A : Option Addr} {ts : List Value} {es : List Ent}
theorem REs.below (h : REs w B A n ts es) (hb : Below B w w') : REs w' B A n ts es :=
  ⟨h.sl.below hb, h.len, h.tlen, fun i hi => by
    obtain ⟨A', c, e, h1, h2, h3⟩ := h.at_ i hi
    exact ⟨A', c, e, h1, h2, h3.below hb⟩⟩
theorem REs.mono (h : REs w B A n ts es) (hb : B ≤ B') : REs w B' A n ts es :=
  ⟨h.sl.mono hb, h.len, h.tlen, fun i hi => by
    obtain ⟨A', c, e, h1, h2, h3⟩ := h.at_ i hi
    exact ⟨A', c, e, h1, h2, h3.mono hb⟩⟩
theorem REs.take (h : REs w B A n ts es) {k : Nat} (hk : k ≤ n) : REs w B A k (ts.take k) (es.take k) := by
  refine ⟨?_, by rw [List.length_take, h.len]; omega, by rw [List.length_take, h.tlen]; omega, fun i hi => ?_⟩
  · have := h.sl.take hk
    rwa [entsC_take es ts k (by rw [h.len, h.tlen])] at this
  · have := h.at_ i (by omega)
    rw [List.getD_eq_getElem?_getD, List.getD_eq_getElem?_getD, List.getElem?_take_of_lt hi, List.getElem?_take_of_lt hi, ← List.getD_eq_getElem?_getD, ← List.getD_eq_getElem?_getD]
    exact this
/-- entry k: its four cells, and its tries -/
theorem REs.get (h : REs w B A n ts es) {k : Nat} (hk : k < n) :
    ∃ b o A' c, A = some ⟨b, o, none⟩ ∧ b < B ∧ w.cell? ⟨b, o + k * 4, none⟩ = some (.string (strB (es.getD k default).name)) ∧ w.cell? ⟨b, o + k * 4 + 1, none⟩ = some (.int .i64 (es.getD k default).obj) ∧ w.cell? ⟨b, o + k * 4 + 2, none⟩ = some (.int .i64 (es.getD k default).len) ∧
      w.cell? ⟨b, o + k * 4 + 3, none⟩ = some (.slice A' (es.getD k default).tries.length c) ∧ (es.getD k default).tries.length ≤ c ∧ c ≤ 9223372036854775807 ∧ Sl w B 1 A' (es.getD k default).tries.length ((es.getD k default).tries.map iv) := by
  obtain ⟨A', c, e, h1, h2, h3⟩ := h.at_ k hk
  obtain ⟨b, o, hA, hb, hc⟩ := h.sl.at_ (by omega)
  have ht := entsC_at es ts k (by rw [h.len, h.tlen]) (by rw [h.len]; exact hk)
  refine ⟨b, o, A', c, hA, hb, ?_, ?_, ?_, ?_, h1, h2, h3⟩
  · exact hc _ _ (ht 0 (by omega))
  · have := hc _ _ (ht 1 (by omega))
    exact this
  · have := hc _ _ (ht 2 (by omega))
    exact this
  · have := hc _ _ (ht 3 (by omega))
    rw [show o + k * 4 + 3 = o + (k * 4 + 3) by omega, this, e]
end
/-- a manifest's two lists, as they can be read -/
structure RM (w : World) (B : Nat) (m : Mani) (Ad : Option Addr) (nd cd : Nat) (Ao : Option Addr) (no co : Nat) (ts : List Value) : Prop where
  d : Sl w B 1 Ad nd (m.drives.map iv)
  dl : m.drives.length = nd
  dc : nd ≤ cd ∧ cd ≤ 9223372036854775807
  o : REs w B Ao no ts m.objs
  oc : no ≤ co ∧ co ≤ 9223372036854775807
theorem RM.below {w w' : World} {B : Nat} {m : Mani} {Ad Ao : Option Addr} {nd cd no co : Nat} {ts : List Value} (h : RM w B m Ad nd cd Ao no co ts) (hb : Below B w w') : RM w' B m Ad nd cd Ao no co ts := ⟨h.d.below hb, h.dl, h.dc, h.o.below hb, h.oc⟩
theorem RM.mono {w : World} {B B' : Nat} {m : Mani} {Ad Ao : Option Addr} {nd cd no co : Nat} {ts : List Value} (h : RM w B m Ad nd cd Ao no co ts) (hb : B ≤ B') : RM w B' m Ad nd cd Ao no co ts := ⟨h.d.mono hb, h.dl, h.dc, h.o.mono hb, h.oc⟩
/-- a manifest in eight cells at the head of block g -/
def MCells (w : World) (g : Nat) (m : Mani) (dv ov : Value) : Prop :=
  w.cell? ⟨g, 0, none⟩ = some (.int .i64 m.seq) ∧ w.cell? ⟨g, 1, none⟩ = some (.int .i64 m.next) ∧ w.cell? ⟨g, 2, none⟩ = some (.int .i64 m.P.K) ∧ w.cell? ⟨g, 3, none⟩ = some (.int .i64 m.P.H) ∧ w.cell? ⟨g, 4, none⟩ = some (.int .i64 m.P.S) ∧ w.cell? ⟨g, 5, none⟩ = some (.int .i64 m.extra) ∧ w.cell? ⟨g, 6, none⟩ = some dv ∧ w.cell? ⟨g, 7, none⟩ = some ov
theorem MCells.keep {w w' : World} {g B : Nat} {m : Mani} {dv ov : Value} (h : MCells w g m dv ov) (hb : Below B w w') (hg : g < B) : MCells w' g m dv ov := by
  obtain ⟨h0, h1, h2, h3, h4, h5, h6, h7⟩ := h
  have k : ∀ i, w'.cell? ⟨g, i, none⟩ = w.cell? ⟨g, i, none⟩ := fun i => hb.cell (p := ⟨g, i, none⟩) hg
  exact ⟨(k 0).trans h0, (k 1).trans h1, (k 2).trans h2, (k 3).trans h3, (k 4).trans h4, (k 5).trans h5, (k 6).trans h6, (k 7).trans h7⟩
theorem MCells.of_row {w : World} {g : Nat} {t : TypeId} {m : Mani} {dv ov : Value} (h : Row w g t (m.cells dv ov)) : MCells w g m dv ov :=
  ⟨h.cell 0, h.cell 1, h.cell 2, h.cell 3, h.cell 4, h.cell 5, h.cell 6, h.cell 7⟩
theorem MCells.lt {w : World} {g : Nat} {m : Mani} {dv ov : Value} (h : MCells w g m dv ov) : g < w.heap.size := World.block_lt_of_cell? w _ h.1
abbrev maniObj (t : TypeId) (m : Mani) (dv ov : Value) : Obj := .cells #[.int .i64 m.seq, .int .i64 m.next, .int .i64 m.P.K, .int .i64 m.P.H, .int .i64 m.P.S, .int .i64 m.extra, dv, ov] t
theorem MCells.new (w : World) (t : TypeId) (m : Mani) (dv ov : Value) : MCells (w.alloc (maniObj t m dv ov)) w.heap.size m dv ov := .of_row (Row.new w t _)
end Wells

namespace Wells
open Go Go.RowKit
/-- a block's seed -/
def seedL (o b t : Int) : BitVec 32 := BitVec.ofInt 32 (128 * o + 16 * b + t)
theorem seed_val (o b t : Int) : ((seedL o b t).toNat : Int) = (128 * o + 16 * b + t) % 4294967296 := by
  unfold seedL
  rw [BitVec.toNat_ofInt]
  omega
end Wells
namespace Go.Proofs.Ytlfmfhdgnmchgaa
open Go.RowKit Wells
theorem mwithin_any (n least most : Int) (b : Bool) (w : World) (hb : decide (least ≤ n ∧ n ≤ most) = b) : Calls Try.prog 67 #[.int .i64 n, .int .i64 least, .int .i64 most] w fun e w' => e = .returned (.bool b) ∧ w = w' := by
  have HB := hid hb
  clear hb
  go_enter Try.func67, Try.ntmps67
  go_wp2_with fail
  all_goals (go_ret; exact ⟨ret_bool (by rw [← HB.out]; first | (refine decide_eq_decide.2 ?_; omega) | (refine (decide_eq_false ?_).symm; omega)), rfl⟩)
theorem mseed_any (o b t : Int) (w : World) : Calls Try.prog 78 #[.int .i64 o, .int .i64 b, .int .i64 t] w fun e w' => e = .returned (.int .u32 ((seedL o b t).toNat : Int)) ∧ w = w' := by
  have hs := hid (seed_val o b t)
  go_enter Try.func78, Try.ntmps78
  go_wp2_with fail
  go_ret
  refine ⟨ret_int ?_, rfl⟩
  rw [hs.out]
  omega
theorem refseed_any (o b t : Int) (w : World) : Calls Try.prog 38 #[.int .i64 o, .int .i64 b, .int .i64 t] w fun e w' => e = .returned (.int .u32 ((seedL o b t).toNat : Int)) ∧ w = w' := by
  have hs := hid (seed_val o b t)
  go_enter Try.func38, Try.ntmps38
  go_wp2_with fail
  go_ret
  refine ⟨ret_int ?_, rfl⟩
  rw [hs.out]
  omega
theorem name_no {l : List Byte} {k : Nat} (hk : k < l.length) (h : nameC (l.getD k 0) = false) : nameOk l = false := by
  unfold nameOk
  have : l.all nameC = false := by
    rw [List.all_eq_false]
    exact ⟨l.getD k 0, by rw [List.getD_eq_getElem?_getD, List.getElem?_eq_getElem hk]; exact List.getElem_mem _, by rw [h]; simp⟩
  rw [this, Bool.false_and]
theorem name_yes {l : List Byte} (h : ∀ k, k < l.length → nameC (l.getD k 0) = true) : nameOk l = decide (1 ≤ l.length ∧ l.length ≤ 12) := by
  unfold nameOk
  have : l.all nameC = true := by
    rw [List.all_eq_true]
    intro c hc
    obtain ⟨k, hk, rfl⟩ := List.getElem_of_mem hc
    have := h k hk
    rwa [List.getD_eq_getElem?_getD, List.getElem?_eq_getElem hk] at this
  rw [this, Bool.true_and]
theorem refname_any (l : List Byte) (b : Bool) (w : World) (hl : l.length ≤ 1048576) (hb : nameOk l = b) : Calls Try.prog 54 #[.string (strB l)] w fun e w' => e = .returned (.bool b) ∧ w = w' := by
  have HB := hid hb
  have hsz := strB_size l
  have HG := hid (strB_get l)
  obtain ⟨s, hs⟩ : ∃ s, strB l = s := ⟨_, rfl⟩
  rw [hs] at hsz HG ⊢
  obtain ⟨n, hn⟩ : ∃ n, s.size = n := ⟨_, rfl⟩
  have HN := hid hn
  have HL := hid (show l.length = n by omega)
  have hn1 : n ≤ 1048576 := by omega
  have hsm : s.size ≤ 1048576 := by omega
  clear hb hs hsz hn hl
  go_enter Try.func54, Try.ntmps54
  go_wp2_with fail
  go_loop [3] (fun i => ∃ k : Nat, k ≤ s.size ∧ i = .int .i64 k ∧ Hid (∀ j, j < k → nameC (l.getD j 0) = true)) (fun i => s.size - (intOf i).toNat)
  case atStart => exact ⟨0, Nat.zero_le _, rfl, hid (fun j hj => absurd hj (by omega))⟩
  case round =>
    obtain ⟨k, hk, rfl, HK⟩ := hrel
    by_cases hlt : k < s.size
    · have hg := HG.out k hlt
      have hc255 := (l.getD k 0).isLt
      obtain ⟨x, hx⟩ : ∃ x : Nat, (l.getD k 0).toNat = x := ⟨_, rfl⟩
      have HX := hid hx
      rw [hx] at hg hc255
      have HG' := hid hg
      have e2 : ((s[k]'hlt).toNat : Int) = (x : Int) := hg
      clear hx hg
      by_cases hc : (97 ≤ x ∧ x ≤ 122) ∨ (48 ≤ x ∧ x ≤ 57) ∨ x = 45
      · have hcb : nameC (l.getD k 0) = true := by unfold nameC; rw [HX.out]; exact decide_eq_true hc
        have HCB := hid hcb
        clear hcb
        rcases hc with ⟨c1, c2⟩ | ⟨c1, c2⟩ | c1
        · have x1 : (97 : Int) ≤ (x : Int) := by omega
          have x2 : (x : Int) ≤ 122 := by omega
          go_wp2_with fail
          all_goals
            go_round
            case rel => exact ⟨k + 1, by omega, by go_num, hid (fun j hj => by
              rcases Nat.lt_or_ge j k with h | h
              · exact HK.out j h
              · obtain rfl : j = k := by omega
                exact HCB.out)⟩
            case measure => simp [intOf]; omega
        · have x1 : (48 : Int) ≤ (x : Int) := by omega
          have x2 : (x : Int) ≤ 57 := by omega
          have x3 : ¬ (97 : Int) ≤ (x : Int) := by omega
          go_wp2_with fail
          all_goals
            go_round
            case rel => exact ⟨k + 1, by omega, by go_num, hid (fun j hj => by
              rcases Nat.lt_or_ge j k with h | h
              · exact HK.out j h
              · obtain rfl : j = k := by omega
                exact HCB.out)⟩
            case measure => simp [intOf]; omega
        · subst c1
          go_wp2_with fail
          all_goals
            go_round
            case rel => exact ⟨k + 1, by omega, by go_num, hid (fun j hj => by
              rcases Nat.lt_or_ge j k with h | h
              · exact HK.out j h
              · obtain rfl : j = k := by omega
                exact HCB.out)⟩
            case measure => simp [intOf]; omega
      · have hno : nameOk l = false := name_no (k := k) (by rw [HL.out]; have := HN.out; omega) (by unfold nameC; rw [HX.out]; exact decide_eq_false hc)
        have hb2 : b = false := by rw [← HB.out, hno]
        subst hb2
        have x0 : x ≠ 45 := by omega
        have x1 : ((x : Int) == 45) = false := by simp; omega
        clear hno
        go_wp2_with fail
        all_goals first | (exfalso; omega) | (go_ret; exact ⟨rfl, rfl⟩)
    · have hkn : k = n := by have := HN.out; omega
      have hyes := name_yes (l := l) (fun j hj => HK.out j (by rw [HL.out] at hj; omega))
      have HY := hid hyes
      have hsn := HN.out
      clear hyes
      go_wp2_with fail
      all_goals (go_ret; exact ⟨ret_bool (by rw [← HB.out, HY.out, HL.out]; first | (refine decide_eq_decide.2 ?_; omega) | (refine (decide_eq_false ?_).symm; omega)), rfl⟩)
end Go.Proofs.Ytlfmfhdgnmchgaa

namespace Go.Proofs.Ytlfmfhdgnmchgaa
open Go.RowKit Wells
theorem name_any (l : List Byte) (b : Bool) (w : World) (hl : l.length ≤ 1048576) (hb : nameOk l = b) : Calls Try.prog 82 #[.string (strB l)] w fun e w' => e = .returned (.bool b) ∧ Below w.heap.size w w' := by
  have HB := hid hb
  have hsz := strB_size l
  have HG := hid (strB_get l)
  obtain ⟨s, hs⟩ : ∃ s, strB l = s := ⟨_, rfl⟩
  rw [hs] at hsz HG ⊢
  obtain ⟨n, hn⟩ : ∃ n, s.size = n := ⟨_, rfl⟩
  have HN := hid hn
  have HL := hid (show l.length = n by omega)
  have hn1 : n ≤ 1048576 := by omega
  have hsm : s.size ≤ 1048576 := by omega
  have hconv := run_bytes_of_string (P := Try.prog) w 9 45 5 s Try.underlying9 Try.underlying45 Try.underlying5
  obtain ⟨cap, hcap⟩ : ∃ c, grownCap w s.size 0 5 = c := ⟨_, rfl⟩
  rw [hcap] at hconv
  obtain ⟨w2, hw2⟩ : ∃ w2, w2 = w.drew.alloc (.cells (bytesRow s cap) 5 ((bytesRow s cap).size, (bytesRow s cap).size + 1)) := ⟨_, rfl⟩
  rw [← hw2] at hconv
  have hbl : Below w.heap.size w w2 := by rw [hw2]; exact ((Below.refl _ _).drew).alloc (Nat.le_refl _) _
  have hcell : ∀ k, k < s.size → w2.cell? ⟨w.heap.size, k, none⟩ = some (.int .u8 ((l.getD k 0).toNat : Int)) := fun k hk => by
    rw [hw2]
    rw [← HG.out k hk]
    have := World.cell?_alloc_mark w.drew (bytesRow s cap) 5 ((bytesRow s cap).size, (bytesRow s cap).size + 1) k
    refine this.trans ?_
    exact bytesRow_at s cap k hk
  have HCELL := hid hcell
  clear hb hs hsz hn hl hcap hw2 hcell
  go_enter Try.func82, Try.ntmps82
  go_wp2_with fail
  go_loop [8] (fun i => ∃ k : Nat, k ≤ s.size ∧ i = .int .i64 k ∧ Hid (∀ j, j < k → nameC (l.getD j 0) = true)) (fun i => s.size - (intOf i).toNat)
  case atStart => exact ⟨0, Nat.zero_le _, rfl, hid (fun j hj => absurd hj (by omega))⟩
  case round =>
    obtain ⟨k, hk, rfl, HK⟩ := hrel
    by_cases hlt : k < s.size
    · have hce := HCELL.out k hlt
      have hc255 := (l.getD k 0).isLt
      obtain ⟨x, hx⟩ : ∃ x : Nat, (l.getD k 0).toNat = x := ⟨_, rfl⟩
      have HX := hid hx
      rw [hx] at hce hc255
      clear hx
      by_cases hc : (97 ≤ x ∧ x ≤ 122) ∨ (48 ≤ x ∧ x ≤ 57) ∨ x = 45
      · have hcb : nameC (l.getD k 0) = true := by unfold nameC; rw [HX.out]; exact decide_eq_true hc
        have HCB := hid hcb
        clear hcb
        rcases hc with ⟨c1, c2⟩ | ⟨c1, c2⟩ | c1
        · have x1 : ¬ (x : Int) < 97 := by omega
          have x2 : ¬ 122 < (x : Int) := by omega
          go_wp2_with fail
          all_goals
            go_round
            case rel => exact ⟨k + 1, by omega, by go_num, hid (fun j hj => by
              rcases Nat.lt_or_ge j k with h | h
              · exact HK.out j h
              · obtain rfl : j = k := by omega
                exact HCB.out)⟩
            case measure => simp [intOf]; omega
        · have x1 : ¬ (x : Int) < 48 := by omega
          have x2 : ¬ 57 < (x : Int) := by omega
          have x3 : (x : Int) < 97 := by omega
          go_wp2_with fail
          all_goals
            go_round
            case rel => exact ⟨k + 1, by omega, by go_num, hid (fun j hj => by
              rcases Nat.lt_or_ge j k with h | h
              · exact HK.out j h
              · obtain rfl : j = k := by omega
                exact HCB.out)⟩
            case measure => simp [intOf]; omega
        · subst c1
          go_wp2_with fail
          all_goals
            go_round
            case rel => exact ⟨k + 1, by omega, by go_num, hid (fun j hj => by
              rcases Nat.lt_or_ge j k with h | h
              · exact HK.out j h
              · obtain rfl : j = k := by omega
                exact HCB.out)⟩
            case measure => simp [intOf]; omega
      · have hno : nameOk l = false := name_no (k := k) (by rw [HL.out]; have := HN.out; omega) (by unfold nameC; rw [HX.out]; exact decide_eq_false hc)
        have hb2 : b = false := by rw [← HB.out, hno]
        subst hb2
        have x1 : ((x : Int) != 45) = true := by simp; omega
        clear hno
        go_wp2_with fail
        all_goals first | (exfalso; omega) | (go_ret; exact ⟨rfl, hbl⟩)
    · have hkn : k = n := by have := HN.out; omega
      have hyes := name_yes (l := l) (fun j hj => HK.out j (by rw [HL.out] at hj; omega))
      have HY := hid hyes
      have hsn := HN.out
      clear hyes
      go_wp2_with fail
      all_goals (go_ret; exact ⟨ret_bool (by rw [← HB.out, HY.out, HL.out]; first | (refine decide_eq_decide.2 ?_; omega) | (refine (decide_eq_false ?_).symm; omega)), hbl⟩)
theorem ivs_get (l : List Int) (k : Nat) (h : k < l.length) : (l.map iv)[k]? = some (.int .i64 (l.getD k 0)) := by
  rw [List.getElem?_map, List.getElem?_eq_getElem h]; simp [h, iv]
theorem rise_any (B : Nat) (A : Option Addr) (l : List Int) (n c : Nat) (most : Int) (b : Bool) (w : World) (h : Sl w B 1 A n (l.map iv)) (hn : n ≤ 9223372036854775807) (hb : riseB l most = b) :
    Calls Try.prog 69 #[.slice A n c, .int .i64 most] w fun e w' => e = .returned (.bool b) ∧ ∃ d, w' = w.drewN d := by
  have HL := hid (show l.length = n by have := h.len; simpa using this)
  have HB := hid hb
  clear hb
  go_enter Try.func69, Try.ntmps69
  go_wp2_with fail
  go_loopw [9] (fun i wr => ∃ k d : Nat, k ≤ n ∧ i = .int .i64 k ∧ wr = w.drewN d ∧ Hid (∀ j, j < k → riseStep l most j = true)) (fun i _ => n - (intOf i).toNat)
  case atStart => exact ⟨0, 0, Nat.zero_le _, rfl, rfl, hid (fun j hj => absurd hj (by omega))⟩
  case round =>
    obtain ⟨k, d, hk, rfl, rfl, HK⟩ := hrel
    by_cases hlt : k < n
    · obtain ⟨bb, o, rfl, hbb, hce⟩ := h.get hlt (ivs_get l k (by rw [HL.out]; exact hlt))
      have hcp : 0 < k → w.cell? ⟨bb, o + (k - 1), none⟩ = some (.int .i64 (l.getD (k - 1) 0)) := fun h0 => by
        obtain ⟨b2, o2, e, _, h2⟩ := h.get (k := k - 1) (by omega) (ivs_get l (k - 1) (by rw [HL.out]; omega))
        injection e with e; injection e with e1 e2; subst e1 e2
        exact h2
      obtain ⟨x, hx⟩ : ∃ x, l.getD k 0 = x := ⟨_, rfl⟩
      obtain ⟨y, hy⟩ : ∃ y, l.getD (k - 1) 0 = y := ⟨_, rfl⟩
      have HX := hid hx
      have HY := hid hy
      rw [hx] at hce
      simp only [hy] at hcp
      clear hx hy
      have hst : riseStep l most k = (decide (0 ≤ x ∧ x ≤ most) && (decide (k = 0) || decide (y < x))) := by unfold riseStep; rw [HX.out, HY.out]
      have HST := hid hst
      clear hst
      cases hw1 : decide (0 ≤ x ∧ x ≤ most) with
      | false =>
        have hno : b = false := by rw [← HB.out]; exact all_range_false (k := k) (by rw [HL.out]; exact hlt) (by rw [HST.out, hw1, Bool.false_and])
        subst hno
        have HW1 := hid hw1
        clear hw1 hcp
        go_wp2_with fail
        refine (mwithin_any x 0 most false _ HW1.out).mono ?_
        rintro e w3 ⟨rfl, hw3⟩
        rw [← hw3]
        clear hw3 w3
        go_wp2_with fail
        go_ret
        exact ⟨rfl, _, rfl⟩
      | true =>
        have HW1 := hid hw1
        by_cases hk0 : k = 0
        · subst hk0
          have hs : riseStep l most 0 = true := by rw [HST.out, hw1]; rfl
          have HS := hid hs
          have hce0 : w.cell? ⟨bb, o, none⟩ = some (.int .i64 x) := hce
          clear hw1 hcp hs
          go_wp2_with fail
          refine (mwithin_any x 0 most true _ HW1.out).mono ?_
          rintro e w3 ⟨rfl, hw3⟩
          rw [← hw3]
          clear hw3 w3
          go_wp2_with fail
          go_roundw
          case rel => exact ⟨1, d, by omega, by first | rfl | go_num, rfl, hid (fun j hj => (show j = 0 by omega) ▸ HS.out)⟩
          case measure => simp [intOf]; omega
        · have hcp' := hcp (by omega)
          have hk1 : (0 : Int) < (k : Int) := by omega
          have hk1n : 0 < k := by omega
          have hkc : ((k : Int) - 1) = ((k - 1 : Nat) : Int) := by omega
          have hk2 : (0 : Int) ≤ (k : Int) - 1 := by omega
          have hk3 : (k : Int) - 1 < (n : Int) := by omega
          clear hcp hkc
          by_cases hyx : y < x
          · have hs : riseStep l most k = true := by rw [HST.out, hw1]; simp [hyx]
            have HS := hid hs
            clear hw1 hs
            go_wp2_with fail
            refine (mwithin_any x 0 most true _ HW1.out).mono ?_
            rintro e w3 ⟨rfl, hw3⟩
            rw [← hw3]
            clear hw3 w3
            go_wp2_with fail
            go_roundw
            case rel => exact ⟨k + 1, d, by omega, by go_num, rfl, hid (fun j hj => by
              rcases Nat.lt_or_ge j k with h | h
              · exact HK.out j h
              · obtain rfl : j = k := by omega
                exact HS.out)⟩
            case measure => simp [intOf]; omega
          · have hno : b = false := by rw [← HB.out]; exact all_range_false (k := k) (by rw [HL.out]; exact hlt) (by rw [HST.out, hw1]; simp [hyx, hk0])
            subst hno
            clear hw1
            go_wp2_with fail
            refine (mwithin_any x 0 most true _ HW1.out).mono ?_
            rintro e w3 ⟨rfl, hw3⟩
            rw [← hw3]
            clear hw3 w3
            go_wp2_with fail
            go_ret
            exact ⟨rfl, _, rfl⟩
    · obtain rfl : k = n := by omega
      have hyes : b = true := by rw [← HB.out]; exact all_range_true (fun j hj => HK.out j (by rw [HL.out] at hj; exact hj))
      subst hyes
      go_wp2_with fail
      go_ret
      exact ⟨rfl, _, rfl⟩
theorem try_any (x : Int) (b : Bool) (w : World) (hb : decide (0 ≤ x ∧ x ≤ 15) = b) : Calls Try.prog 84 #[.int .i64 x] w fun e w' => e = .returned (.bool (!b)) ∧ w = w' := by
  go_enter Try.func84, Try.ntmps84
  go_wp2_with fail
  refine (mwithin_any x 0 15 b _ hb).mono ?_
  rintro e w3 ⟨rfl, hw3⟩
  rw [← hw3]
  clear hw3 w3
  go_wp2_with fail
  go_ret
  exact ⟨rfl, rfl⟩
end Go.Proofs.Ytlfmfhdgnmchgaa

