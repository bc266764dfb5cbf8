/- A deed: the same to both drives. -/
import Derived.Test.YtcklnkilldeamaaCells22
import Derived.Test.YtcklnkilldeamaaCopy
import Derived.Test.YtcklnkilldeamaaWithin
import Derived.Deep.DeepCutAuto
namespace Go.Proofs.Ytcklnkilldeamaa
open Go.RowKit Wells
def DeedR (w0 : World) (g pg gr qg m : Nat) (e : Ending) (w' : World) : Prop := e = .returned (.bool true) ∧ ∃ (F' G' : Nat → Prop) (d' : Dr), HS w0 w' F' G' g pg gr qg d' d' (m + 1)
theorem HS.more_ {w0 w : World} {F G : Nat → Prop} {g pg gr qg : Nat} {d r : Dr} {m m' : Nat} (h : HS w0 w F G g pg gr qg d r m) (hm : m ≤ m') : HS w0 w F G g pg gr qg d r m' := ⟨h.d_, h.r_, h.dj, h.hF, h.hG, h.be, h.okd.more hm, h.okr.more hm⟩
theorem RDrvE.len_ {F : Nat → Prop} {w : World} {g pg : Nat} {d : Dr} (h : RDrvE F w g pg d) : ∃ A c, w.cell? ⟨g, 2, none⟩ = some (.slice A d.L.length c) ∧ d.L.length ≤ c ∧ c ≤ 9223372036854775807 := by
  obtain ⟨lv, lvs, bv, bvs, h⟩ := h
  obtain ⟨Al, cl, rfl, h1, h2⟩ := h.l.own.form
  exact ⟨Al, cl, h.row.cell 2, h1, h2⟩
theorem HS.only_ {w0 w w1 : World} {F G R : Nat → Prop} {g pg gr qg : Nat} {d r : Dr} {m : Nat} (h : HS w0 w F G g pg gr qg d r m) (ho : Only R w w1) (hF : ∀ k, F k → ¬ R k) (hG : ∀ k, G k → ¬ R k) (hR : ∀ k, R k → w0.heap.size ≤ k) : HS w0 w1 F G g pg gr qg d r m :=
  ⟨h.d_.only ho hF, h.r_.only ho hG, h.dj, h.hF, h.hG, h.be.trans (ho.below hR h.be.size), h.okd, h.okr⟩
theorem u32_bd (x : Int) : 0 ≤ x % 4294967296 ∧ x % 4294967296 ≤ 4294967295 := by
  have h1 := Int.emod_nonneg x (show (4294967296 : Int) ≠ 0 by decide)
  have h2 := Int.emod_lt_of_pos x (show (0 : Int) < 4294967296 by decide)
  omega
theorem _root_.Go.World.ownsRow.far_b {base size n g : Nat} {w : World} {e t : TypeId} {v : Value} {xs cs : List Value} (h : w.ownsRow base e size v n xs) (hr : Row w g t cs) (hne : e ≠ t) (i : Nat) (x : Value) : (w.setCell ⟨g, i, none⟩ x).ownsRow base e size v n xs :=
  own_only h (Only.set (F := fun q => q = g) (Only.refl _ w) (show g = g from rfl) i x) (fun q hq e1 => own_row_ne h hr hne q hq e1)
/-- a row of bytes, of which one is made more -/
theorem row_inc {w : World} {g k n : Nat} {cur : List Value} {l : List Byte} (hr : Row w g 5 cur) (ht : cur.take n = l.map bv8) (hk : k < n) (hl : l.length = n) : ∃ b : Byte, w.cell? ⟨g, k, none⟩ = some (.int .u8 (b.toNat : Int)) ∧ w.frozen? ⟨g, k, none⟩ = false ∧
    ∀ b' : Byte, Row (w.setCell ⟨g, k, none⟩ (bv8 b')) g 5 (cur.set k (bv8 b')) ∧ (cur.set k (bv8 b')).take n = (l.set k b').map bv8 ∧ (l.set k b').length = n := by
  refine ⟨l.getD k 0, ?_, hr.frozen k, fun b' => ⟨hr.set k _, by rw [List.take_set, ht, List.map_set], by rw [List.length_set]; exact hl⟩⟩
  rw [hr.cell, ← List.getElem?_take_of_lt hk, ht, List.getElem?_map, List.getD_eq_getElem?_getD, List.getElem?_eq_getElem (by omega)]
  rfl
set_option maxRecDepth 20000 in
set_option maxHeartbeats 2000000 in
theorem deed_any (w0 : World) (F G : Nat → Prop) (g pg gr qg : Nat) (d : Dr) (m : Nat) (k a b : Int) (w : World) (h : HS w0 w F G g pg gr qg d d m) (hm : m ≤ 1000) (hk : -9223372036854775808 ≤ k ∧ k ≤ 9223372036854775807) (ha : -9223372036854775808 ≤ a ∧ a ≤ 9223372036854775807) (hb : -9223372036854775808 ≤ b ∧ b ≤ 9223372036854775807) :
    Calls Try.prog 28 #[.pointer (some ⟨g, 0, none⟩), .pointer (some ⟨gr, 0, none⟩), .pointer (some ⟨pg, 0, none⟩), .pointer (some ⟨qg, 0, none⟩), .int .i64 k, .int .i64 a, .int .i64 b] w (DeedR w0 g pg gr qg m) := by
  have HH := hid h
  clear h
  obtain ⟨q, hq⟩ : ∃ q, k % 12 = q := ⟨_, rfl⟩
  have hqb : 0 ≤ q ∧ q < 12 := by omega
  go_enter Try.func28, Try.ntmps28
  go_wp2_with fail
  refine (within_any k 12 _ hk.1 hk.2 (by omega) (by omega)).mono ?_
  rintro e w1 ⟨rfl, rfl⟩
  rw [hq]
  clear hq
  have hq12 : q = 0 ∨ q = 1 ∨ q = 2 ∨ q = 3 ∨ q = 4 ∨ q = 5 ∨ q = 6 ∨ q = 7 ∨ q = 8 ∨ q = 9 ∨ q = 10 ∨ q = 11 := by omega
  clear hqb
  rcases hq12 with rfl | rfl | rfl | rfl | rfl | rfl | rfl | rfl | rfl | rfl | rfl | rfl
  · skip
    obtain ⟨r, hr⟩ : ∃ r, a % 25 = r := ⟨_, rfl⟩
    have hrb : 0 ≤ r ∧ r ≤ 24 := by omega
    have HR := hid hr
    clear hr
    go_upto_region 11 with fail
    go_cut [15] (fun s15 wx => ∃ (A1 : Option Addr) (n c1 : Nat) (l : List Byte), s15 = .slice A1 n c1 ∧ l.length = n ∧ n ≤ 64 ∧ OB w.heap.size wx (.slice A1 n c1) l ∧ Below w.heap.size w wx)
    case first =>
      have e45 : IntKind.i64.wrap (r - 22) = r - 22 := by rw [IntKind.wrap_i64]; omega
      by_cases h23 : r = 23
      · subst h23
        go_wp2_with fail
        refine (within_any a 25 _ ha.1 ha.2 (by omega) (by omega)).mono ?_
        rintro e w1 ⟨rfl, rfl⟩
        rw [HR.out]
        go_wp2_with fail
        refine (data_any 63 b w (by omega) hb).mono ?_
        rintro e w1 ⟨A1, c1, l1, rfl, hl1, ho1, hb1⟩
        go_wp2_with fail
        go_meet
        exact ⟨A1, 63, c1, l1, rfl, hl1, by omega, ho1, hb1⟩
      by_cases h24 : r = 24
      · subst h24
        go_wp2_with fail
        refine (within_any a 25 _ ha.1 ha.2 (by omega) (by omega)).mono ?_
        rintro e w1 ⟨rfl, rfl⟩
        rw [HR.out]
        go_wp2_with fail
        refine (data_any 62 b w (by omega) hb).mono ?_
        rintro e w1 ⟨A1, c1, l1, rfl, hl1, ho1, hb1⟩
        go_wp2_with fail
        go_meet
        exact ⟨A1, 62, c1, l1, rfl, hl1, by omega, ho1, hb1⟩
      have h22 : r ≤ 22 := by omega
      have h22b : r - 22 ≤ 0 := by omega
      go_wp2_with fail
      refine (within_any a 25 _ ha.1 ha.2 (by omega) (by omega)).mono ?_
      rintro e w1 ⟨rfl, rfl⟩
      rw [HR.out]
      go_wp2_with fail
      refine (data_any 64 b w (by omega) hb).mono ?_
      rintro e w1 ⟨A1, c1, l1, rfl, hl1, ho1, hb1⟩
      go_wp2_with fail
      go_meet
      exact ⟨A1, 64, c1, l1, rfl, hl1, by omega, ho1, hb1⟩
    case rest =>
    obtain ⟨A1, n, c1, l, rfl, hln, hn64, ho1, hb1⟩ := hcut
    have hz1 := hb1.size
    have H1 := hid (HH.out.new_ hb1)
    have HO1 := hid ho1
    have HLN := hid hln
    have HFL := hid HH.out.d_.ltp
    have HGL := hid HH.out.r_.lt_
    clear ho1 hb1 hln
    obtain ⟨w1, hw1⟩ : ∃ x, wc = x := ⟨_, rfl⟩
    rw [hw1] at hz1 H1 HO1 ⊢
    clear hw1
    obtain ⟨_, _, ec, _, _, hs1⟩ := HO1.out.read
    injection ec with ec1 ec2 ec3
    subst ec1 ec3
    rw [HLN.out] at hs1
    have HS1 := hid hs1
    clear ec2 hs1
    go_wp2_with fail
    refine (copy_any w1.heap.size A1 l n c1 w1 HS1.out (Nat.le_refl _) (by omega)).mono ?_
    rintro e w2 ⟨A2, c2, rfl, ho2, hb2⟩
    have hz2 := hb2.size
    have H2 := hid (H1.out.new_ hb2)
    have HO1b := hid (HO1.out.below hb2)
    have HO2 := hid ho2
    obtain ⟨_, _, ec, _, _, hs2⟩ := ho2.read
    injection ec with ec1 ec2 ec3
    subst ec1 ec3
    rw [HLN.out] at hs2
    have HS2 := hid hs2
    clear ec2 hs2 ho2 hb2
    go_wp2_with fail
    refine (dappend_any F g pg d m w2.heap.size A2 l n c2 w2 H2.out.d_ H2.out.okd (by omega) HS2.out (Nat.le_refl _) (by omega)).mono ?_
    rintro e w3 ⟨rfl, hd3, hO3⟩
    have hz3 := hO3.size
    have H3 := hid (H2.out.prog hO3 hd3 H2.out.okd.append (Nat.le_succ m))
    have HO1c := hid (own_only HO1b.out hO3 (fun k hk hf => by have := (own_lt HO1.out k hk).1; have := HFL.out k hf; omega))
    have ho2c := own_only HO2.out hO3 (fun k hk hf => by have := (own_lt HO2.out k hk).1; have := HFL.out k hf; omega)
    rw [HLN.out] at ho2c
    have HO2c := hid ho2c
    clear hd3 hO3 ho2c
    go_wp2_with fail
    go_loopw [57] (fun i wr => ∃ (j : Nat) (lb : List Byte), j ≤ n ∧ i = .int .i64 (j : Int) ∧ Only (fun k => w1.heap.size ≤ k ∧ k < w2.heap.size) w3 wr ∧ wr.ownsRow w1.heap.size 5 1 (.slice A2 n c2) n (lb.map bv8)) (fun i _ => n - (intOf i).toNat)
    case atStart => exact ⟨0, l, by omega, rfl, Only.refl _ _, HO2c.out⟩
    case round =>
      clear HO2c
      obtain ⟨j, lb, hj, rfl, hon, how⟩ := hrel
      by_cases hjn : j < n
      · have hjn2 : (j : Int) < (n : Int) := by omega
        have hlb : lb.length = n := by have := how.1; simpa using this
        obtain ⟨gx, cx, cur, ex, hgx, hrx, _, hcx, _, _⟩ := ownrow_ how (by omega)
        injection ex with ex _ ex2
        subst ex
        clear ex2
        have hgx2 : gx < w2.heap.size := (own_lt HO2.out gx rfl).2
        have kb : wr.cell? ⟨gx, j, none⟩ = some (.int .u8 ((lb.getD j 0).toNat : Int)) := by
          rw [hrx.cell, ← List.getElem?_take_of_lt (show j < n * 1 by omega), hcx, List.getElem?_map, List.getD_eq_getElem?_getD, List.getElem?_eq_getElem (by omega)]
          rfl
        have fb := hrx.frozen j
        obtain ⟨b0, hb0⟩ : ∃ x, lb.getD j 0 = x := ⟨_, rfl⟩
        rw [hb0] at kb
        obtain ⟨b1, hb1⟩ : ∃ b : Byte, ((b0.toNat : Int) + 1) % 256 = (b.toNat : Int) := ⟨BitVec.ofNat 8 (b0.toNat + 1), by rw [BitVec.toNat_ofNat]; omega⟩
        have HON2 := hid (hon.set (show w1.heap.size ≤ gx ∧ gx < w2.heap.size from ⟨hgx, hgx2⟩) j (bv8 b1))
        have hset := ownset_ (i := j) how (by omega) (bv8 b1)
        rw [← List.map_set] at hset
        have HSET := hid hset
        clear hset hon how hrx hcx hb0 hlb
        go_wp2_with fail
        go_roundw
        case rel => exact ⟨j + 1, lb.set j b1, by omega, by go_num, HON2.out, HSET.out⟩
        case measure => simp [intOf]; omega
      · have hjn2 : j = n := by omega
        subst hjn2
        have H4 := hid (H3.out.only_ hon (fun k hf hr => by
          rcases hf with hf | hf
          · have := HFL.out k hf; omega
          · omega) (fun k hg hr => by have := HGL.out k hg; omega) (fun k hr => by have := HH.out.be.size; omega))
        have ho4 := own_only HO1c.out hon (fun k hk hr => by have := (own_lt HO1.out k hk).2; omega)
        have HSL := hid (show ∀ w', Only G wr w' → Sl w' w'.heap.size 1 A1 j (l.map bv8) from fun w' hg => by
          have h1 : OB w.heap.size w' (.slice A1 j c1) l := own_only ho4 hg (fun k hk hf => by have := (own_lt HO1.out k hk).1; have := HGL.out k hf; omega)
          obtain ⟨_, _, ec, _, _, hs⟩ := h1.read
          injection ec with ec1 _ _
          subst ec1
          rw [HLN.out] at hs
          exact hs)
        clear hon how ho4
        go_wp2_with fail
        refine (rappend_any G gr qg d (m + 1) A1 l j c1 wr H4.out.r_ H4.out.okr (by omega) HSL.out (by omega)).mono ?_
        rintro e w5 ⟨rfl, hr5, hO5⟩
        have H5 := hid (H4.out.doc hO5 hr5 HH.out.okr.append (Nat.le_refl _))
        clear hr5 hO5
        go_wp2_with fail
        go_ret
        exact ⟨by simp, _, _, _, H5.out⟩
  · skip
    obtain ⟨r, hr⟩ : ∃ r, a % 25 = r := ⟨_, rfl⟩
    have hrb : 0 ≤ r ∧ r ≤ 24 := by omega
    have HR := hid hr
    clear hr
    go_upto_region 11 with fail
    go_cut [15] (fun s15 wx => ∃ (A1 : Option Addr) (n c1 : Nat) (l : List Byte), s15 = .slice A1 n c1 ∧ l.length = n ∧ n ≤ 64 ∧ OB w.heap.size wx (.slice A1 n c1) l ∧ Below w.heap.size w wx)
    case first =>
      have e45 : IntKind.i64.wrap (r - 22) = r - 22 := by rw [IntKind.wrap_i64]; omega
      by_cases h23 : r = 23
      · subst h23
        go_wp2_with fail
        refine (within_any a 25 _ ha.1 ha.2 (by omega) (by omega)).mono ?_
        rintro e w1 ⟨rfl, rfl⟩
        rw [HR.out]
        go_wp2_with fail
        refine (data_any 63 b w (by omega) hb).mono ?_
        rintro e w1 ⟨A1, c1, l1, rfl, hl1, ho1, hb1⟩
        go_wp2_with fail
        go_meet
        exact ⟨A1, 63, c1, l1, rfl, hl1, by omega, ho1, hb1⟩
      by_cases h24 : r = 24
      · subst h24
        go_wp2_with fail
        refine (within_any a 25 _ ha.1 ha.2 (by omega) (by omega)).mono ?_
        rintro e w1 ⟨rfl, rfl⟩
        rw [HR.out]
        go_wp2_with fail
        refine (data_any 62 b w (by omega) hb).mono ?_
        rintro e w1 ⟨A1, c1, l1, rfl, hl1, ho1, hb1⟩
        go_wp2_with fail
        go_meet
        exact ⟨A1, 62, c1, l1, rfl, hl1, by omega, ho1, hb1⟩
      have h22 : r ≤ 22 := by omega
      have h22b : r - 22 ≤ 0 := by omega
      go_wp2_with fail
      refine (within_any a 25 _ ha.1 ha.2 (by omega) (by omega)).mono ?_
      rintro e w1 ⟨rfl, rfl⟩
      rw [HR.out]
      go_wp2_with fail
      refine (data_any 64 b w (by omega) hb).mono ?_
      rintro e w1 ⟨A1, c1, l1, rfl, hl1, ho1, hb1⟩
      go_wp2_with fail
      go_meet
      exact ⟨A1, 64, c1, l1, rfl, hl1, by omega, ho1, hb1⟩
    case rest =>
    obtain ⟨A1, n, c1, l, rfl, hln, hn64, ho1, hb1⟩ := hcut
    have hz1 := hb1.size
    have H1 := hid (HH.out.new_ hb1)
    have HO1 := hid ho1
    have HLN := hid hln
    have HFL := hid HH.out.d_.ltp
    have HGL := hid HH.out.r_.lt_
    clear ho1 hb1 hln
    obtain ⟨w1, hw1⟩ : ∃ x, wc = x := ⟨_, rfl⟩
    rw [hw1] at hz1 H1 HO1 ⊢
    clear hw1
    obtain ⟨_, _, ec, _, _, hs1⟩ := HO1.out.read
    injection ec with ec1 ec2 ec3
    subst ec1 ec3
    rw [HLN.out] at hs1
    have HS1 := hid hs1
    clear ec2 hs1
    go_wp2_with fail
    refine (copy_any w1.heap.size A1 l n c1 w1 HS1.out (Nat.le_refl _) (by omega)).mono ?_
    rintro e w2 ⟨A2, c2, rfl, ho2, hb2⟩
    have hz2 := hb2.size
    have H2 := hid (H1.out.new_ hb2)
    have HO1b := hid (HO1.out.below hb2)
    have HO2 := hid ho2
    obtain ⟨_, _, ec, _, _, hs2⟩ := ho2.read
    injection ec with ec1 ec2 ec3
    subst ec1 ec3
    rw [HLN.out] at hs2
    have HS2 := hid hs2
    clear ec2 hs2 ho2 hb2
    go_wp2_with fail
    refine (dappend_any F g pg d m w2.heap.size A2 l n c2 w2 H2.out.d_ H2.out.okd (by omega) HS2.out (Nat.le_refl _) (by omega)).mono ?_
    rintro e w3 ⟨rfl, hd3, hO3⟩
    have hz3 := hO3.size
    have H3 := hid (H2.out.prog hO3 hd3 H2.out.okd.append (Nat.le_succ m))
    have HO1c := hid (own_only HO1b.out hO3 (fun k hk hf => by have := (own_lt HO1.out k hk).1; have := HFL.out k hf; omega))
    have ho2c := own_only HO2.out hO3 (fun k hk hf => by have := (own_lt HO2.out k hk).1; have := HFL.out k hf; omega)
    rw [HLN.out] at ho2c
    have HO2c := hid ho2c
    clear hd3 hO3 ho2c
    go_wp2_with fail
    go_loopw [57] (fun i wr => ∃ (j : Nat) (lb : List Byte), j ≤ n ∧ i = .int .i64 (j : Int) ∧ Only (fun k => w1.heap.size ≤ k ∧ k < w2.heap.size) w3 wr ∧ wr.ownsRow w1.heap.size 5 1 (.slice A2 n c2) n (lb.map bv8)) (fun i _ => n - (intOf i).toNat)
    case atStart => exact ⟨0, l, by omega, rfl, Only.refl _ _, HO2c.out⟩
    case round =>
      clear HO2c
      obtain ⟨j, lb, hj, rfl, hon, how⟩ := hrel
      by_cases hjn : j < n
      · have hjn2 : (j : Int) < (n : Int) := by omega
        have hlb : lb.length = n := by have := how.1; simpa using this
        obtain ⟨gx, cx, cur, ex, hgx, hrx, _, hcx, _, _⟩ := ownrow_ how (by omega)
        injection ex with ex _ ex2
        subst ex
        clear ex2
        have hgx2 : gx < w2.heap.size := (own_lt HO2.out gx rfl).2
        have kb : wr.cell? ⟨gx, j, none⟩ = some (.int .u8 ((lb.getD j 0).toNat : Int)) := by
          rw [hrx.cell, ← List.getElem?_take_of_lt (show j < n * 1 by omega), hcx, List.getElem?_map, List.getD_eq_getElem?_getD, List.getElem?_eq_getElem (by omega)]
          rfl
        have fb := hrx.frozen j
        obtain ⟨b0, hb0⟩ : ∃ x, lb.getD j 0 = x := ⟨_, rfl⟩
        rw [hb0] at kb
        obtain ⟨b1, hb1⟩ : ∃ b : Byte, ((b0.toNat : Int) + 1) % 256 = (b.toNat : Int) := ⟨BitVec.ofNat 8 (b0.toNat + 1), by rw [BitVec.toNat_ofNat]; omega⟩
        have HON2 := hid (hon.set (show w1.heap.size ≤ gx ∧ gx < w2.heap.size from ⟨hgx, hgx2⟩) j (bv8 b1))
        have hset := ownset_ (i := j) how (by omega) (bv8 b1)
        rw [← List.map_set] at hset
        have HSET := hid hset
        clear hset hon how hrx hcx hb0 hlb
        go_wp2_with fail
        go_roundw
        case rel => exact ⟨j + 1, lb.set j b1, by omega, by go_num, HON2.out, HSET.out⟩
        case measure => simp [intOf]; omega
      · have hjn2 : j = n := by omega
        subst hjn2
        have H4 := hid (H3.out.only_ hon (fun k hf hr => by
          rcases hf with hf | hf
          · have := HFL.out k hf; omega
          · omega) (fun k hg hr => by have := HGL.out k hg; omega) (fun k hr => by have := HH.out.be.size; omega))
        have ho4 := own_only HO1c.out hon (fun k hk hr => by have := (own_lt HO1.out k hk).2; omega)
        have HSL := hid (show ∀ w', Only G wr w' → Sl w' w'.heap.size 1 A1 j (l.map bv8) from fun w' hg => by
          have h1 : OB w.heap.size w' (.slice A1 j c1) l := own_only ho4 hg (fun k hk hf => by have := (own_lt HO1.out k hk).1; have := HGL.out k hf; omega)
          obtain ⟨_, _, ec, _, _, hs⟩ := h1.read
          injection ec with ec1 _ _
          subst ec1
          rw [HLN.out] at hs
          exact hs)
        clear hon how ho4
        go_wp2_with fail
        refine (rappend_any G gr qg d (m + 1) A1 l j c1 wr H4.out.r_ H4.out.okr (by omega) HSL.out (by omega)).mono ?_
        rintro e w5 ⟨rfl, hr5, hO5⟩
        have H5 := hid (H4.out.doc hO5 hr5 HH.out.okr.append (Nat.le_refl _))
        clear hr5 hO5
        go_wp2_with fail
        go_ret
        exact ⟨by simp, _, _, _, H5.out⟩
  · skip
    obtain ⟨r, hr⟩ : ∃ r, a % 25 = r := ⟨_, rfl⟩
    have hrb : 0 ≤ r ∧ r ≤ 24 := by omega
    have HR := hid hr
    clear hr
    go_upto_region 11 with fail
    go_cut [15] (fun s15 wx => ∃ (A1 : Option Addr) (n c1 : Nat) (l : List Byte), s15 = .slice A1 n c1 ∧ l.length = n ∧ n ≤ 64 ∧ OB w.heap.size wx (.slice A1 n c1) l ∧ Below w.heap.size w wx)
    case first =>
      have e45 : IntKind.i64.wrap (r - 22) = r - 22 := by rw [IntKind.wrap_i64]; omega
      by_cases h23 : r = 23
      · subst h23
        go_wp2_with fail
        refine (within_any a 25 _ ha.1 ha.2 (by omega) (by omega)).mono ?_
        rintro e w1 ⟨rfl, rfl⟩
        rw [HR.out]
        go_wp2_with fail
        refine (data_any 63 b w (by omega) hb).mono ?_
        rintro e w1 ⟨A1, c1, l1, rfl, hl1, ho1, hb1⟩
        go_wp2_with fail
        go_meet
        exact ⟨A1, 63, c1, l1, rfl, hl1, by omega, ho1, hb1⟩
      by_cases h24 : r = 24
      · subst h24
        go_wp2_with fail
        refine (within_any a 25 _ ha.1 ha.2 (by omega) (by omega)).mono ?_
        rintro e w1 ⟨rfl, rfl⟩
        rw [HR.out]
        go_wp2_with fail
        refine (data_any 62 b w (by omega) hb).mono ?_
        rintro e w1 ⟨A1, c1, l1, rfl, hl1, ho1, hb1⟩
        go_wp2_with fail
        go_meet
        exact ⟨A1, 62, c1, l1, rfl, hl1, by omega, ho1, hb1⟩
      have h22 : r ≤ 22 := by omega
      have h22b : r - 22 ≤ 0 := by omega
      go_wp2_with fail
      refine (within_any a 25 _ ha.1 ha.2 (by omega) (by omega)).mono ?_
      rintro e w1 ⟨rfl, rfl⟩
      rw [HR.out]
      go_wp2_with fail
      refine (data_any 64 b w (by omega) hb).mono ?_
      rintro e w1 ⟨A1, c1, l1, rfl, hl1, ho1, hb1⟩
      go_wp2_with fail
      go_meet
      exact ⟨A1, 64, c1, l1, rfl, hl1, by omega, ho1, hb1⟩
    case rest =>
    obtain ⟨A1, n, c1, l, rfl, hln, hn64, ho1, hb1⟩ := hcut
    have hz1 := hb1.size
    have H1 := hid (HH.out.new_ hb1)
    have HO1 := hid ho1
    have HLN := hid hln
    have HFL := hid HH.out.d_.ltp
    have HGL := hid HH.out.r_.lt_
    clear ho1 hb1 hln
    obtain ⟨w1, hw1⟩ : ∃ x, wc = x := ⟨_, rfl⟩
    rw [hw1] at hz1 H1 HO1 ⊢
    clear hw1
    obtain ⟨_, _, ec, _, _, hs1⟩ := HO1.out.read
    injection ec with ec1 ec2 ec3
    subst ec1 ec3
    rw [HLN.out] at hs1
    have HS1 := hid hs1
    clear ec2 hs1
    go_wp2_with fail
    refine (copy_any w1.heap.size A1 l n c1 w1 HS1.out (Nat.le_refl _) (by omega)).mono ?_
    rintro e w2 ⟨A2, c2, rfl, ho2, hb2⟩
    have hz2 := hb2.size
    have H2 := hid (H1.out.new_ hb2)
    have HO1b := hid (HO1.out.below hb2)
    have HO2 := hid ho2
    obtain ⟨_, _, ec, _, _, hs2⟩ := ho2.read
    injection ec with ec1 ec2 ec3
    subst ec1 ec3
    rw [HLN.out] at hs2
    have HS2 := hid hs2
    clear ec2 hs2 ho2 hb2
    go_wp2_with fail
    refine (dappend_any F g pg d m w2.heap.size A2 l n c2 w2 H2.out.d_ H2.out.okd (by omega) HS2.out (Nat.le_refl _) (by omega)).mono ?_
    rintro e w3 ⟨rfl, hd3, hO3⟩
    have hz3 := hO3.size
    have H3 := hid (H2.out.prog hO3 hd3 H2.out.okd.append (Nat.le_succ m))
    have HO1c := hid (own_only HO1b.out hO3 (fun k hk hf => by have := (own_lt HO1.out k hk).1; have := HFL.out k hf; omega))
    have ho2c := own_only HO2.out hO3 (fun k hk hf => by have := (own_lt HO2.out k hk).1; have := HFL.out k hf; omega)
    rw [HLN.out] at ho2c
    have HO2c := hid ho2c
    clear hd3 hO3 ho2c
    go_wp2_with fail
    go_loopw [57] (fun i wr => ∃ (j : Nat) (lb : List Byte), j ≤ n ∧ i = .int .i64 (j : Int) ∧ Only (fun k => w1.heap.size ≤ k ∧ k < w2.heap.size) w3 wr ∧ wr.ownsRow w1.heap.size 5 1 (.slice A2 n c2) n (lb.map bv8)) (fun i _ => n - (intOf i).toNat)
    case atStart => exact ⟨0, l, by omega, rfl, Only.refl _ _, HO2c.out⟩
    case round =>
      clear HO2c
      obtain ⟨j, lb, hj, rfl, hon, how⟩ := hrel
      by_cases hjn : j < n
      · have hjn2 : (j : Int) < (n : Int) := by omega
        have hlb : lb.length = n := by have := how.1; simpa using this
        obtain ⟨gx, cx, cur, ex, hgx, hrx, _, hcx, _, _⟩ := ownrow_ how (by omega)
        injection ex with ex _ ex2
        subst ex
        clear ex2
        have hgx2 : gx < w2.heap.size := (own_lt HO2.out gx rfl).2
        have kb : wr.cell? ⟨gx, j, none⟩ = some (.int .u8 ((lb.getD j 0).toNat : Int)) := by
          rw [hrx.cell, ← List.getElem?_take_of_lt (show j < n * 1 by omega), hcx, List.getElem?_map, List.getD_eq_getElem?_getD, List.getElem?_eq_getElem (by omega)]
          rfl
        have fb := hrx.frozen j
        obtain ⟨b0, hb0⟩ : ∃ x, lb.getD j 0 = x := ⟨_, rfl⟩
        rw [hb0] at kb
        obtain ⟨b1, hb1⟩ : ∃ b : Byte, ((b0.toNat : Int) + 1) % 256 = (b.toNat : Int) := ⟨BitVec.ofNat 8 (b0.toNat + 1), by rw [BitVec.toNat_ofNat]; omega⟩
        have HON2 := hid (hon.set (show w1.heap.size ≤ gx ∧ gx < w2.heap.size from ⟨hgx, hgx2⟩) j (bv8 b1))
        have hset := ownset_ (i := j) how (by omega) (bv8 b1)
        rw [← List.map_set] at hset
        have HSET := hid hset
        clear hset hon how hrx hcx hb0 hlb
        go_wp2_with fail
        go_roundw
        case rel => exact ⟨j + 1, lb.set j b1, by omega, by go_num, HON2.out, HSET.out⟩
        case measure => simp [intOf]; omega
      · have hjn2 : j = n := by omega
        subst hjn2
        have H4 := hid (H3.out.only_ hon (fun k hf hr => by
          rcases hf with hf | hf
          · have := HFL.out k hf; omega
          · omega) (fun k hg hr => by have := HGL.out k hg; omega) (fun k hr => by have := HH.out.be.size; omega))
        have ho4 := own_only HO1c.out hon (fun k hk hr => by have := (own_lt HO1.out k hk).2; omega)
        have HSL := hid (show ∀ w', Only G wr w' → Sl w' w'.heap.size 1 A1 j (l.map bv8) from fun w' hg => by
          have h1 : OB w.heap.size w' (.slice A1 j c1) l := own_only ho4 hg (fun k hk hf => by have := (own_lt HO1.out k hk).1; have := HGL.out k hf; omega)
          obtain ⟨_, _, ec, _, _, hs⟩ := h1.read
          injection ec with ec1 _ _
          subst ec1
          rw [HLN.out] at hs
          exact hs)
        clear hon how ho4
        go_wp2_with fail
        refine (rappend_any G gr qg d (m + 1) A1 l j c1 wr H4.out.r_ H4.out.okr (by omega) HSL.out (by omega)).mono ?_
        rintro e w5 ⟨rfl, hr5, hO5⟩
        have H5 := hid (H4.out.doc hO5 hr5 HH.out.okr.append (Nat.le_refl _))
        clear hr5 hO5
        go_wp2_with fail
        go_ret
        exact ⟨by simp, _, _, _, H5.out⟩
  · skip
    obtain ⟨r, hr⟩ : ∃ r, a % 25 = r := ⟨_, rfl⟩
    have hrb : 0 ≤ r ∧ r ≤ 24 := by omega
    have HR := hid hr
    clear hr
    go_upto_region 11 with fail
    go_cut [15] (fun s15 wx => ∃ (A1 : Option Addr) (n c1 : Nat) (l : List Byte), s15 = .slice A1 n c1 ∧ l.length = n ∧ n ≤ 64 ∧ OB w.heap.size wx (.slice A1 n c1) l ∧ Below w.heap.size w wx)
    case first =>
      have e45 : IntKind.i64.wrap (r - 22) = r - 22 := by rw [IntKind.wrap_i64]; omega
      by_cases h23 : r = 23
      · subst h23
        go_wp2_with fail
        refine (within_any a 25 _ ha.1 ha.2 (by omega) (by omega)).mono ?_
        rintro e w1 ⟨rfl, rfl⟩
        rw [HR.out]
        go_wp2_with fail
        refine (data_any 63 b w (by omega) hb).mono ?_
        rintro e w1 ⟨A1, c1, l1, rfl, hl1, ho1, hb1⟩
        go_wp2_with fail
        go_meet
        exact ⟨A1, 63, c1, l1, rfl, hl1, by omega, ho1, hb1⟩
      by_cases h24 : r = 24
      · subst h24
        go_wp2_with fail
        refine (within_any a 25 _ ha.1 ha.2 (by omega) (by omega)).mono ?_
        rintro e w1 ⟨rfl, rfl⟩
        rw [HR.out]
        go_wp2_with fail
        refine (data_any 62 b w (by omega) hb).mono ?_
        rintro e w1 ⟨A1, c1, l1, rfl, hl1, ho1, hb1⟩
        go_wp2_with fail
        go_meet
        exact ⟨A1, 62, c1, l1, rfl, hl1, by omega, ho1, hb1⟩
      have h22 : r ≤ 22 := by omega
      have h22b : r - 22 ≤ 0 := by omega
      go_wp2_with fail
      refine (within_any a 25 _ ha.1 ha.2 (by omega) (by omega)).mono ?_
      rintro e w1 ⟨rfl, rfl⟩
      rw [HR.out]
      go_wp2_with fail
      refine (data_any 64 b w (by omega) hb).mono ?_
      rintro e w1 ⟨A1, c1, l1, rfl, hl1, ho1, hb1⟩
      go_wp2_with fail
      go_meet
      exact ⟨A1, 64, c1, l1, rfl, hl1, by omega, ho1, hb1⟩
    case rest =>
    obtain ⟨A1, n, c1, l, rfl, hln, hn64, ho1, hb1⟩ := hcut
    have hz1 := hb1.size
    have H1 := hid (HH.out.new_ hb1)
    have HO1 := hid ho1
    have HLN := hid hln
    have HFL := hid HH.out.d_.ltp
    have HGL := hid HH.out.r_.lt_
    clear ho1 hb1 hln
    obtain ⟨w1, hw1⟩ : ∃ x, wc = x := ⟨_, rfl⟩
    rw [hw1] at hz1 H1 HO1 ⊢
    clear hw1
    obtain ⟨_, _, ec, _, _, hs1⟩ := HO1.out.read
    injection ec with ec1 ec2 ec3
    subst ec1 ec3
    rw [HLN.out] at hs1
    have HS1 := hid hs1
    clear ec2 hs1
    go_wp2_with fail
    refine (copy_any w1.heap.size A1 l n c1 w1 HS1.out (Nat.le_refl _) (by omega)).mono ?_
    rintro e w2 ⟨A2, c2, rfl, ho2, hb2⟩
    have hz2 := hb2.size
    have H2 := hid (H1.out.new_ hb2)
    have HO1b := hid (HO1.out.below hb2)
    have HO2 := hid ho2
    obtain ⟨_, _, ec, _, _, hs2⟩ := ho2.read
    injection ec with ec1 ec2 ec3
    subst ec1 ec3
    rw [HLN.out] at hs2
    have HS2 := hid hs2
    clear ec2 hs2 ho2 hb2
    go_wp2_with fail
    refine (dappend_any F g pg d m w2.heap.size A2 l n c2 w2 H2.out.d_ H2.out.okd (by omega) HS2.out (Nat.le_refl _) (by omega)).mono ?_
    rintro e w3 ⟨rfl, hd3, hO3⟩
    have hz3 := hO3.size
    have H3 := hid (H2.out.prog hO3 hd3 H2.out.okd.append (Nat.le_succ m))
    have HO1c := hid (own_only HO1b.out hO3 (fun k hk hf => by have := (own_lt HO1.out k hk).1; have := HFL.out k hf; omega))
    have ho2c := own_only HO2.out hO3 (fun k hk hf => by have := (own_lt HO2.out k hk).1; have := HFL.out k hf; omega)
    rw [HLN.out] at ho2c
    have HO2c := hid ho2c
    clear hd3 hO3 ho2c
    go_wp2_with fail
    go_loopw [57] (fun i wr => ∃ (j : Nat) (lb : List Byte), j ≤ n ∧ i = .int .i64 (j : Int) ∧ Only (fun k => w1.heap.size ≤ k ∧ k < w2.heap.size) w3 wr ∧ wr.ownsRow w1.heap.size 5 1 (.slice A2 n c2) n (lb.map bv8)) (fun i _ => n - (intOf i).toNat)
    case atStart => exact ⟨0, l, by omega, rfl, Only.refl _ _, HO2c.out⟩
    case round =>
      clear HO2c
      obtain ⟨j, lb, hj, rfl, hon, how⟩ := hrel
      by_cases hjn : j < n
      · have hjn2 : (j : Int) < (n : Int) := by omega
        have hlb : lb.length = n := by have := how.1; simpa using this
        obtain ⟨gx, cx, cur, ex, hgx, hrx, _, hcx, _, _⟩ := ownrow_ how (by omega)
        injection ex with ex _ ex2
        subst ex
        clear ex2
        have hgx2 : gx < w2.heap.size := (own_lt HO2.out gx rfl).2
        have kb : wr.cell? ⟨gx, j, none⟩ = some (.int .u8 ((lb.getD j 0).toNat : Int)) := by
          rw [hrx.cell, ← List.getElem?_take_of_lt (show j < n * 1 by omega), hcx, List.getElem?_map, List.getD_eq_getElem?_getD, List.getElem?_eq_getElem (by omega)]
          rfl
        have fb := hrx.frozen j
        obtain ⟨b0, hb0⟩ : ∃ x, lb.getD j 0 = x := ⟨_, rfl⟩
        rw [hb0] at kb
        obtain ⟨b1, hb1⟩ : ∃ b : Byte, ((b0.toNat : Int) + 1) % 256 = (b.toNat : Int) := ⟨BitVec.ofNat 8 (b0.toNat + 1), by rw [BitVec.toNat_ofNat]; omega⟩
        have HON2 := hid (hon.set (show w1.heap.size ≤ gx ∧ gx < w2.heap.size from ⟨hgx, hgx2⟩) j (bv8 b1))
        have hset := ownset_ (i := j) how (by omega) (bv8 b1)
        rw [← List.map_set] at hset
        have HSET := hid hset
        clear hset hon how hrx hcx hb0 hlb
        go_wp2_with fail
        go_roundw
        case rel => exact ⟨j + 1, lb.set j b1, by omega, by go_num, HON2.out, HSET.out⟩
        case measure => simp [intOf]; omega
      · have hjn2 : j = n := by omega
        subst hjn2
        have H4 := hid (H3.out.only_ hon (fun k hf hr => by
          rcases hf with hf | hf
          · have := HFL.out k hf; omega
          · omega) (fun k hg hr => by have := HGL.out k hg; omega) (fun k hr => by have := HH.out.be.size; omega))
        have ho4 := own_only HO1c.out hon (fun k hk hr => by have := (own_lt HO1.out k hk).2; omega)
        have HSL := hid (show ∀ w', Only G wr w' → Sl w' w'.heap.size 1 A1 j (l.map bv8) from fun w' hg => by
          have h1 : OB w.heap.size w' (.slice A1 j c1) l := own_only ho4 hg (fun k hk hf => by have := (own_lt HO1.out k hk).1; have := HGL.out k hf; omega)
          obtain ⟨_, _, ec, _, _, hs⟩ := h1.read
          injection ec with ec1 _ _
          subst ec1
          rw [HLN.out] at hs
          exact hs)
        clear hon how ho4
        go_wp2_with fail
        refine (rappend_any G gr qg d (m + 1) A1 l j c1 wr H4.out.r_ H4.out.okr (by omega) HSL.out (by omega)).mono ?_
        rintro e w5 ⟨rfl, hr5, hO5⟩
        have H5 := hid (H4.out.doc hO5 hr5 HH.out.okr.append (Nat.le_refl _))
        clear hr5 hO5
        go_wp2_with fail
        go_ret
        exact ⟨by simp, _, _, _, H5.out⟩
  · skip
    go_wp2_with fail
    refine (dsync_any F g pg d m w HH.out.d_ HH.out.okd (by omega)).mono ?_
    rintro e w1 ⟨rfl, hd1, ho1⟩
    have H1 := hid (HH.out.prog ho1 hd1.up HH.out.okd.sync (Nat.le_succ m))
    clear hd1 ho1
    go_wp2_with fail
    refine (rsync_any G gr qg d (m + 1) w1 H1.out.r_ H1.out.okr (by omega)).mono ?_
    rintro e w2 ⟨rfl, hr2, ho2⟩
    have H2 := hid (H1.out.doc ho2 hr2.up (HH.out.okr.sync) (Nat.le_refl _))
    clear hr2 ho2
    go_wp2_with fail
    go_ret
    exact ⟨by simp, _, _, _, H2.out⟩
  · skip
    go_wp2_with fail
    refine (dsync_any F g pg d m w HH.out.d_ HH.out.okd (by omega)).mono ?_
    rintro e w1 ⟨rfl, hd1, ho1⟩
    have H1 := hid (HH.out.prog ho1 hd1.up HH.out.okd.sync (Nat.le_succ m))
    clear hd1 ho1
    go_wp2_with fail
    refine (rsync_any G gr qg d (m + 1) w1 H1.out.r_ H1.out.okr (by omega)).mono ?_
    rintro e w2 ⟨rfl, hr2, ho2⟩
    have H2 := hid (H1.out.doc ho2 hr2.up (HH.out.okr.sync) (Nat.le_refl _))
    clear hr2 ho2
    go_wp2_with fail
    go_ret
    exact ⟨by simp, _, _, _, H2.out⟩
  · skip
    go_wp2_with fail
    refine (cells22_any a b w ha hb).mono ?_
    rintro e w1 ⟨A1, kk, c1, v1, ls, rfl, hlk, hk6, hls, ho1, hb1⟩
    have hz1 := hb1.size
    have H1 := hid (HH.out.new_ hb1)
    have HO1 := hid ho1
    have HLK := hid hlk
    have HLS := hid hls
    have HFL := hid HH.out.d_.ltp
    have HGL := hid HH.out.r_.lt_
    clear ho1 hb1 hlk hls
    go_wp2_with fail
    refine (copies_any _ A1 v1 ls kk c1 w1 (HO1.out.read HLK.out) (Nat.le_refl _) (by omega) (fun i hi => by
      have h1 := HLK.out
      rw [List.getD_eq_getElem?_getD, List.getElem?_eq_getElem (by omega)]
      have := HLS.out _ (List.getElem_mem (show i < ls.length by omega))
      simp only [Option.getD_some]
      omega)).mono ?_
    rintro e w2 ⟨A2, c2, v2, rfl, ho2, hb2⟩
    have hz2 := hb2.size
    have H2 := hid (H1.out.new_ hb2)
    have HO1b := hid (HO1.out.below hb2)
    have HO2 := hid ho2
    clear ho2 hb2
    go_wp2_with fail
    refine (drewr_any F (fun k => w1.heap.size ≤ k ∧ k < w2.heap.size) g pg d m A2 ls v2 kk c2 w2 H2.out.d_ H2.out.okd (by omega) (Lst.of_own (w0 := w1) HO2.out (fun k h1 h2 => ⟨h1, h2⟩)) (fun k hk hf => by have := HFL.out k hf; omega) HLK.out (by omega)).mono ?_
    rintro e w3 ⟨rfl, hd3, hO3⟩
    have hz3 := hO3.size
    have H3 := hid (H2.out.prog hO3 hd3 H2.out.okd.rewr (Nat.le_succ m))
    have HO1c := hid (HO1b.out.only hO3 (fun k hk hf => by have := (own_lt HO1b.out.own k hk).1; have := HFL.out k hf; omega) (fun x hx k hk hf => by have := (HO1b.out.lt x hx k hk).1; have := HFL.out k hf; omega))
    have HO2c := hid (HO2.out.only hO3 (fun k hk hf => by have := (own_lt HO2.out.own k hk).1; have := HFL.out k hf; omega) (fun x hx k hk hf => by have := (HO2.out.lt x hx k hk).1; have := HFL.out k hf; omega))
    have HO2L := hid HO2.out.lt
    have hrow : ∀ q, q < kk → ∃ (gq cq lq : Nat) (cur : List Value) (b : Byte), v2.getD q undef = .slice (some ⟨gq, 0, none⟩) lq cq ∧ 0 < lq ∧ w1.heap.size ≤ gq ∧ gq < w2.heap.size ∧ Row w3 gq 5 cur ∧ cur[0]? = some (bv8 b) := fun q hq => by
      have hlk := HLK.out
      have h1 : (ls.getD q []).length ≥ 1 := by
        rw [List.getD_eq_getElem?_getD, List.getElem?_eq_getElem (by omega), Option.getD_some]
        exact (HLS.out _ (List.getElem_mem (show q < ls.length by omega))).1
      have hat := HO2c.out.at_ q (by omega)
      obtain ⟨x, hx⟩ : ∃ x, ls.getD q [] = x := ⟨_, rfl⟩
      rw [hx] at h1 hat
      obtain ⟨gq, cq, cur, ev, _, hr, _, hct, _, _⟩ := ownrow_ hat h1
      have hlv : v2.length = ls.length := by have := HO2c.out.own.1; omega
      have hm : v2.getD q undef ∈ v2 := by rw [List.getD_eq_getElem?_getD, List.getElem?_eq_getElem (by omega), Option.getD_some]; exact List.getElem_mem _
      have hl2 := HO2L.out _ hm gq (by rw [ev]; rfl)
      refine ⟨gq, cq, _, cur, x.getD 0 0, ev, h1, hl2.1, hl2.2, hr, ?_⟩
      have h2 : cur[0]? = (cur.take (x.length * 1))[0]? := by rw [List.getElem?_take_of_lt (by omega)]
      rw [h2, hct, List.getElem?_map, List.getD_eq_getElem?_getD, List.getElem?_eq_getElem (show 0 < x.length by omega)]
      rfl
    have HROW := hid hrow
    have how3 := HO2c.out.own
    rw [HLK.out] at how3
    have HOW3 := hid how3
    clear hd3 hO3 hrow how3
    go_wp2_with fail
    go_loopw [92] (fun i wr => ∃ j : Nat, j ≤ kk ∧ i = .int .i64 (j : Int) ∧ Only (fun k => w1.heap.size ≤ k ∧ k < w2.heap.size) w3 wr ∧ wr.ownsRow w1.heap.size 28 1 (.slice A2 kk c2) kk v2 ∧ (∀ q, q < kk → ∃ (gq cq lq : Nat) (cur : List Value) (b : Byte), v2.getD q undef = .slice (some ⟨gq, 0, none⟩) lq cq ∧ 0 < lq ∧ w1.heap.size ≤ gq ∧ gq < w2.heap.size ∧ Row wr gq 5 cur ∧ cur[0]? = some (bv8 b))) (fun i _ => kk - (intOf i).toNat)
    case atStart => exact ⟨0, by omega, rfl, Only.refl _ _, HOW3.out, HROW.out⟩
    case round =>
      clear HROW HOW3
      obtain ⟨j, hj, rfl, hon, how, hrw⟩ := hrel
      have HON := hid hon
      have HOW := hid how
      have HRW := hid hrw
      by_cases hjk : j < kk
      · have hjk2 : (j : Int) < (kk : Int) := by omega
        obtain ⟨gj, cj, lj, cur, b0, ev, hl0, hg1, hg2, hrj, hc0⟩ := hrw j hjk
        obtain ⟨gl, cl, curl, el, _, hrl, _, hcl, _, _⟩ := ownrow_ how (by omega)
        have hlv := how.1
        injection el with el _ el2
        subst el
        clear el2
        have kl : wr.cell? ⟨gl, j, none⟩ = some (.slice (some ⟨gj, 0, none⟩) lj cj) := by
          rw [hrl.cell, ← List.getElem?_take_of_lt (show j < kk * 1 by omega), hcl, ← ev]
          simp [List.getD_eq_getElem?_getD, show j < v2.length by omega]
        have kj : wr.cell? ⟨gj, 0, none⟩ = some (.int .u8 (b0.toNat : Int)) := by rw [hrj.cell]; exact hc0
        have fj := hrj.frozen 0
        have hlj : (0 : Int) < (lj : Int) := by omega
        obtain ⟨b1, hb1⟩ : ∃ b : Byte, ((b0.toNat : Int) + 1) % 256 = (b.toNat : Int) := ⟨BitVec.ofNat 8 (b0.toNat + 1), by rw [BitVec.toNat_ofNat]; omega⟩
        have HON2 := hid (hon.set (show w1.heap.size ≤ gj ∧ gj < w2.heap.size from ⟨hg1, hg2⟩) 0 (bv8 b1))
        have HOW2 := hid (how.far_b hrj (by decide) 0 (bv8 b1))
        have hrw2 : ∀ q, q < kk → ∃ (gq cq lq : Nat) (cur : List Value) (b : Byte), v2.getD q undef = .slice (some ⟨gq, 0, none⟩) lq cq ∧ 0 < lq ∧ w1.heap.size ≤ gq ∧ gq < w2.heap.size ∧ Row (wr.setCell ⟨gj, 0, none⟩ (bv8 b1)) gq 5 cur ∧ cur[0]? = some (bv8 b) := fun q hq => by
          obtain ⟨gq, cq, lq, cu, bq, h1, h2, h3, h4, h5, h6⟩ := HRW.out q hq
          by_cases he : gq = gj
          · subst he
            refine ⟨gq, cq, lq, cu.set 0 (bv8 b1), b1, h1, h2, h3, h4, h5.set 0 _, ?_⟩
            cases cu with
            | nil => cases h6
            | cons z zs => rfl
          · exact ⟨gq, cq, lq, cu, bq, h1, h2, h3, h4, h5.far (p := ⟨gj, 0, none⟩) he _, h6⟩
        have HRW2 := hid hrw2
        clear hon how hrw hrw2 hrl hcl ev hrj hc0
        go_wp2_with fail
        go_roundw
        case rel => exact ⟨j + 1, by omega, by go_num, HON2.out, HOW2.out, HRW2.out⟩
        case measure => simp [intOf]; omega
      · have hjk2 : j = kk := by omega
        subst hjk2
        have H4 := hid (H3.out.only_ hon (fun k hf hr => by
          rcases hf with hf | hf
          · have := HFL.out k hf; omega
          · omega) (fun k hg hr => by have := HGL.out k hg; omega) (fun k hr => by have := HH.out.be.size; omega))
        have HO1d := hid (HO1c.out.only hon (fun k hk hr => by have := (own_lt HO1.out.own k hk).2; omega) (fun x hx k hk hr => by have := (HO1.out.lt x hx k hk).2; omega))
        clear hon how hrw HRW HON HOW
        go_wp2_with fail
        refine (rrewr_any G (fun k => w.heap.size ≤ k ∧ k < w1.heap.size) gr qg d (m + 1) A1 ls v1 j c1 wr H4.out.r_ H4.out.okr (by omega) ⟨HO1d.out.base (Nat.zero_le _), fun k hk => own_lt HO1.out.own k hk, fun x hx k hk => HO1.out.lt x hx k hk⟩ (fun k hk hg => by have := HGL.out k hg; omega) HLK.out (by omega)).mono ?_
        rintro e w5 ⟨rfl, hr5, hO5⟩
        have H5 := hid (H4.out.doc hO5 hr5 (HH.out.okr.rewr) (Nat.le_refl _))
        clear hr5 hO5
        go_wp2_with fail
        go_ret
        exact ⟨by simp, _, _, _, H5.out⟩
  · skip
    obtain ⟨Ar, cr, kr, hr1, hr2⟩ := HH.out.r_.len_
    obtain ⟨n, hn⟩ : ∃ n, d.L.length = n := ⟨_, rfl⟩
    rw [hn] at kr hr1
    have hn5 : n ≤ 512 := by have := HH.out.okd.len; have := HH.out.okd.room; omega
    obtain ⟨n2, hn2⟩ : ∃ x, n + 2 = x := ⟨_, rfl⟩
    have e17 : IntKind.i64.wrap ((n : Int) + 2) = (n2 : Int) := by rw [IntKind.wrap_i64]; omega
    obtain ⟨i0, hi0⟩ : ∃ x, a % (n2 : Int) = x := ⟨_, rfl⟩
    have hib : 0 ≤ i0 ∧ i0 < (n2 : Int) := by
      have h1 := Int.emod_nonneg a (show (n2 : Int) ≠ 0 by omega)
      have h2 := Int.emod_lt_of_pos a (show (0 : Int) < (n2 : Int) by omega)
      omega
    obtain ⟨t0, ht0⟩ : ∃ x, b % 64 = x := ⟨_, rfl⟩
    have htb : 0 ≤ t0 ∧ t0 < 64 := by omega
    obtain ⟨i1, hi1⟩ : ∃ x, i0 - 1 = x := ⟨_, rfl⟩
    obtain ⟨t1, ht1⟩ : ∃ x, t0 - 1 = x := ⟨_, rfl⟩
    have e19 : IntKind.i64.wrap (i0 - 1) = i1 := by rw [IntKind.wrap_i64]; omega
    have e22 : IntKind.i64.wrap (t0 - 1) = t1 := by rw [IntKind.wrap_i64]; omega
    have hi1b : -1 ≤ i1 ∧ i1 ≤ 1000 := by omega
    have ht1b : -1 ≤ t1 ∧ t1 ≤ 64 := by omega
    have hn21 : (1 : Int) ≤ (n2 : Int) ∧ (n2 : Int) ≤ 1000 := by omega
    have HI0 := hid hi0
    have HT0 := hid ht0
    clear hi0 ht0 hi1 ht1 hn2 hib htb hn
    go_wp2_with fail
    refine (within_any a (n2 : Int) _ ha.1 ha.2 hn21.1 (by omega)).mono ?_
    rintro e w1 ⟨rfl, rfl⟩
    rw [HI0.out]
    go_wp2_with fail
    refine (within_any b 64 _ hb.1 hb.2 (by omega) (by omega)).mono ?_
    rintro e w1 ⟨rfl, rfl⟩
    rw [HT0.out]
    obtain ⟨mk, hmk⟩ : ∃ x, ((a % 4294967296) * (b % 4294967296)) % 4294967296 = x := ⟨_, rfl⟩
    have hmb := u32_bd ((a % 4294967296) * (b % 4294967296))
    rw [hmk] at hmb
    go_wp2_with fail
    refine (dspoil_any F g pg d m i1 t1 mk w HH.out.d_ HH.out.okd (by omega) (by omega) hmb).mono ?_
    rintro e w1 ⟨rfl, hd1, ho1⟩
    have H1 := hid (HH.out.prog ho1 hd1.up HH.out.okd.spoil (Nat.le_refl m))
    clear hd1 ho1
    go_wp2_with fail
    refine (rspoil_any G gr qg d m i1 t1 mk w1 H1.out.r_ H1.out.okr (by omega) (by omega) hmb).mono ?_
    rintro e w2 ⟨rfl, hr2, ho2⟩
    have H2 := hid ((H1.out.doc ho2 hr2 HH.out.okr.spoil (Nat.le_refl m)).more_ (Nat.le_succ m))
    clear hr2 ho2
    go_wp2_with fail
    go_ret
    exact ⟨by simp, _, _, _, H2.out⟩
  · skip
    obtain ⟨n, hn⟩ : ∃ n, a % 6 = n := ⟨_, rfl⟩
    have hnb : 0 ≤ n ∧ n ≤ 5 := by omega
    have HN := hid hn
    clear hn
    go_wp2_with fail
    refine (within_any a 6 _ ha.1 ha.2 (by omega) (by omega)).mono ?_
    rintro e w1 ⟨rfl, rfl⟩
    rw [HN.out]
    go_wp2_with fail
    refine (parm_any pg _ n w HH.out.d_.powp).mono ?_
    rintro e w1 ⟨rfl, hp1, hg1⟩
    obtain ⟨hd1, ho1⟩ := HH.out.d_.powerp hp1 hg1
    have H1 := hid (HH.out.prog ho1 hd1.up (HH.out.okd.arm ⟨hnb.1, by omega⟩) (Nat.le_refl m))
    clear hp1 hg1 hd1 ho1
    go_wp2_with fail
    refine (within_any a 6 _ ha.1 ha.2 (by omega) (by omega)).mono ?_
    rintro e w2 ⟨rfl, rfl⟩
    rw [HN.out]
    go_wp2_with fail
    refine (rarm_any qg _ n w1 H1.out.r_.pow_.1).mono ?_
    rintro e w2 ⟨rfl, hp2, hg2⟩
    rw [Pw.rarm_eq hnb.1] at hp2
    obtain ⟨hr2, ho2⟩ := H1.out.r_.powerp hp2 hg2
    have H2 := hid ((H1.out.doc ho2 hr2.up (HH.out.okr.arm ⟨hnb.1, by omega⟩) (Nat.le_refl m)).more_ (Nat.le_succ m))
    clear hp2 hg2 hr2 ho2
    go_wp2_with fail
    go_ret
    exact ⟨rfl, _, _, _, H2.out⟩
  · skip
    obtain ⟨n, hn⟩ : ∃ n, a % 6 = n := ⟨_, rfl⟩
    have hnb : 0 ≤ n ∧ n ≤ 5 := by omega
    have HN := hid hn
    obtain ⟨t, ht⟩ : ∃ n, b % 68 = n := ⟨_, rfl⟩
    have htb : 0 ≤ t ∧ t ≤ 67 := by omega
    have HT := hid ht
    clear hn ht
    obtain ⟨n1, hn1⟩ : ∃ x, n - 1 = x := ⟨_, rfl⟩
    obtain ⟨t1, ht1⟩ : ∃ x, t - 1 = x := ⟨_, rfl⟩
    have e1 : IntKind.i64.wrap (n - 1) = n1 := by rw [IntKind.wrap_i64]; omega
    have e2 : IntKind.i64.wrap (t - 1) = t1 := by rw [IntKind.wrap_i64]; omega
    have hn1b : -1 ≤ n1 ∧ n1 ≤ 4 := by omega
    have ht1b : -1 ≤ t1 ∧ t1 ≤ 66 := by omega
    clear hn1 ht1
    go_wp2_with fail
    refine (within_any a 6 _ ha.1 ha.2 (by omega) (by omega)).mono ?_
    rintro e w1 ⟨rfl, rfl⟩
    rw [HN.out]
    go_wp2_with fail
    refine (within_any b 68 _ hb.1 hb.2 (by omega) (by omega)).mono ?_
    rintro e w1 ⟨rfl, rfl⟩
    rw [HT.out]
    go_wp2_with fail
    refine (dcrash_any F g pg d m n1 t1 w HH.out.d_ HH.out.okd (by omega) (by omega)).mono ?_
    rintro e w1 ⟨rfl, hd1, ho1⟩
    have H1 := hid (HH.out.prog ho1 hd1 HH.out.okd.crash (Nat.le_refl m))
    clear hd1 ho1
    go_wp2_with fail
    refine (within_any a 6 _ ha.1 ha.2 (by omega) (by omega)).mono ?_
    rintro e w2 ⟨rfl, rfl⟩
    rw [HN.out]
    go_wp2_with fail
    refine (within_any b 68 _ hb.1 hb.2 (by omega) (by omega)).mono ?_
    rintro e w2 ⟨rfl, rfl⟩
    rw [HT.out]
    go_wp2_with fail
    refine (rcrash_any G gr qg d m n1 t1 w1 H1.out.r_ H1.out.okr (by omega) (by omega)).mono ?_
    rintro e w2 ⟨rfl, hr2, ho2⟩
    have H2 := hid (H1.out.doc ho2 hr2 HH.out.okr.crash (Nat.le_refl m))
    clear hr2 ho2
    go_wp2_with fail
    refine (pagain_any pg _ w2 H2.out.d_.powp).mono ?_
    rintro e w8 ⟨rfl, hp8, hg8⟩
    obtain ⟨hd8, ho8⟩ := H2.out.d_.powerp hp8 hg8
    have H8 := hid (H2.out.prog ho8 hd8.up H2.out.okd.again (Nat.le_refl m))
    clear hp8 hg8 hd8 ho8
    go_wp2_with fail
    refine (ragain_any qg _ w8 H8.out.r_.pow_.1).mono ?_
    rintro e w9 ⟨rfl, hp9, hg9⟩
    obtain ⟨hr9, ho9⟩ := H8.out.r_.powerp hp9 hg9
    have H9 := hid ((H8.out.doc ho9 hr9.up H2.out.okr.again (Nat.le_refl m)).more_ (Nat.le_succ m))
    clear hp9 hg9 hr9 ho9
    go_wp2_with fail
    go_ret
    exact ⟨rfl, _, _, _, H9.out⟩
  · skip
    obtain ⟨n, hn⟩ : ∃ n, a % 6 = n := ⟨_, rfl⟩
    have hnb : 0 ≤ n ∧ n ≤ 5 := by omega
    have HN := hid hn
    obtain ⟨t, ht⟩ : ∃ n, b % 68 = n := ⟨_, rfl⟩
    have htb : 0 ≤ t ∧ t ≤ 67 := by omega
    have HT := hid ht
    clear hn ht
    obtain ⟨n1, hn1⟩ : ∃ x, n - 1 = x := ⟨_, rfl⟩
    obtain ⟨t1, ht1⟩ : ∃ x, t - 1 = x := ⟨_, rfl⟩
    have e1 : IntKind.i64.wrap (n - 1) = n1 := by rw [IntKind.wrap_i64]; omega
    have e2 : IntKind.i64.wrap (t - 1) = t1 := by rw [IntKind.wrap_i64]; omega
    have hn1b : -1 ≤ n1 ∧ n1 ≤ 4 := by omega
    have ht1b : -1 ≤ t1 ∧ t1 ≤ 66 := by omega
    clear hn1 ht1
    go_wp2_with fail
    refine (within_any a 6 _ ha.1 ha.2 (by omega) (by omega)).mono ?_
    rintro e w1 ⟨rfl, rfl⟩
    rw [HN.out]
    go_wp2_with fail
    refine (within_any b 68 _ hb.1 hb.2 (by omega) (by omega)).mono ?_
    rintro e w1 ⟨rfl, rfl⟩
    rw [HT.out]
    go_wp2_with fail
    refine (dcrash_any F g pg d m n1 t1 w HH.out.d_ HH.out.okd (by omega) (by omega)).mono ?_
    rintro e w1 ⟨rfl, hd1, ho1⟩
    have H1 := hid (HH.out.prog ho1 hd1 HH.out.okd.crash (Nat.le_refl m))
    clear hd1 ho1
    go_wp2_with fail
    refine (within_any a 6 _ ha.1 ha.2 (by omega) (by omega)).mono ?_
    rintro e w2 ⟨rfl, rfl⟩
    rw [HN.out]
    go_wp2_with fail
    refine (within_any b 68 _ hb.1 hb.2 (by omega) (by omega)).mono ?_
    rintro e w2 ⟨rfl, rfl⟩
    rw [HT.out]
    go_wp2_with fail
    refine (rcrash_any G gr qg d m n1 t1 w1 H1.out.r_ H1.out.okr (by omega) (by omega)).mono ?_
    rintro e w2 ⟨rfl, hr2, ho2⟩
    have H2 := hid (H1.out.doc ho2 hr2 HH.out.okr.crash (Nat.le_refl m))
    clear hr2 ho2
    go_wp2_with fail
    refine (pagain_any pg _ w2 H2.out.d_.powp).mono ?_
    rintro e w8 ⟨rfl, hp8, hg8⟩
    obtain ⟨hd8, ho8⟩ := H2.out.d_.powerp hp8 hg8
    have H8 := hid (H2.out.prog ho8 hd8.up H2.out.okd.again (Nat.le_refl m))
    clear hp8 hg8 hd8 ho8
    go_wp2_with fail
    refine (ragain_any qg _ w8 H8.out.r_.pow_.1).mono ?_
    rintro e w9 ⟨rfl, hp9, hg9⟩
    obtain ⟨hr9, ho9⟩ := H8.out.r_.powerp hp9 hg9
    have H9 := hid ((H8.out.doc ho9 hr9.up H2.out.okr.again (Nat.le_refl m)).more_ (Nat.le_succ m))
    clear hp9 hg9 hr9 ho9
    go_wp2_with fail
    go_ret
    exact ⟨rfl, _, _, _, H9.out⟩
  · skip
    by_cases h9 : a.tmod 9 = 0
    · go_wp2_with fail
      refine (dlose_any F g pg d w HH.out.d_).mono ?_
      rintro e w1 ⟨rfl, hd1, ho1⟩
      have H1 := hid (HH.out.prog ho1 hd1.up HH.out.okd.lose (Nat.le_refl m))
      clear hd1 ho1
      go_wp2_with fail
      refine (rlose_any G gr qg d w1 H1.out.r_).mono ?_
      rintro e w2 ⟨rfl, hr2, ho2⟩
      have H2 := hid (H1.out.doc ho2 hr2.up HH.out.okr.lose (Nat.le_refl m))
      clear hr2 ho2
      go_wp2_with fail
      refine (pagain_any pg _ w2 H2.out.d_.powp).mono ?_
      rintro e w8 ⟨rfl, hp8, hg8⟩
      obtain ⟨hd8, ho8⟩ := H2.out.d_.powerp hp8 hg8
      have H8 := hid (H2.out.prog ho8 hd8.up H2.out.okd.again (Nat.le_refl m))
      clear hp8 hg8 hd8 ho8
      go_wp2_with fail
      refine (ragain_any qg _ w8 H8.out.r_.pow_.1).mono ?_
      rintro e w9 ⟨rfl, hp9, hg9⟩
      obtain ⟨hr9, ho9⟩ := H8.out.r_.powerp hp9 hg9
      have H9 := hid ((H8.out.doc ho9 hr9.up H2.out.okr.again (Nat.le_refl m)).more_ (Nat.le_succ m))
      clear hp9 hg9 hr9 ho9
      go_wp2_with fail
      go_ret
      exact ⟨rfl, _, _, _, H9.out⟩
    · skip
      go_wp2_with fail
      refine (pagain_any pg _ w HH.out.d_.powp).mono ?_
      rintro e w8 ⟨rfl, hp8, hg8⟩
      obtain ⟨hd8, ho8⟩ := HH.out.d_.powerp hp8 hg8
      have H8 := hid (HH.out.prog ho8 hd8.up HH.out.okd.again (Nat.le_refl m))
      clear hp8 hg8 hd8 ho8
      go_wp2_with fail
      refine (ragain_any qg _ w8 H8.out.r_.pow_.1).mono ?_
      rintro e w9 ⟨rfl, hp9, hg9⟩
      obtain ⟨hr9, ho9⟩ := H8.out.r_.powerp hp9 hg9
      have H9 := hid ((H8.out.doc ho9 hr9.up HH.out.okr.again (Nat.le_refl m)).more_ (Nat.le_succ m))
      clear hp9 hg9 hr9 ho9
      go_wp2_with fail
      go_ret
      exact ⟨rfl, _, _, _, H9.out⟩
end Go.Proofs.Ytcklnkilldeamaa
