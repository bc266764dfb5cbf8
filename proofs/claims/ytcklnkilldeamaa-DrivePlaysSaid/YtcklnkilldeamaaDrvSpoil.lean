/- Spoil: bytes of one cell are turned. -/
import Derived.Test.YtcklnkilldeamaaDrvMore
namespace Wells
open Go Go.RowKit
def spoilB (m k : Nat) : Byte := BitVec.ofNat 8 (m / 2 ^ (8 * k))
def spoilL (x : List Byte) (a m : Nat) : Nat → List Byte
  | 0 => x
  | k + 1 => (spoilL x a m k).set (a + k) ((spoilL x a m k).getD (a + k) 0 ^^^ spoilB m k)
theorem spoilL_len (x : List Byte) (a m : Nat) : ∀ k, (spoilL x a m k).length = x.length
  | 0 => rfl
  | k + 1 => by unfold spoilL; rw [List.length_set, spoilL_len x a m k]
def Dr.spoil (d : Dr) (i a m : Int) : Dr × Bool :=
  if 0 ≤ i ∧ i < d.L.length ∧ 0 ≤ a ∧ a ≤ 60 ∧ m ≠ 0 then ({ d with L := d.L.set i.toNat (spoilL (d.L.getD i.toNat []) a.toNat m.toNat 4) }, true) else (d, false)
theorem ownrow_ {w : World} {base size n : Nat} {t : TypeId} {v : Value} {xs : List Value} (h : w.ownsRow base t size v n xs) (hn : 0 < n) :
    ∃ g c cur, v = .slice (some ⟨g, 0, none⟩) n c ∧ base ≤ g ∧ Row w g t cur ∧ cur.length = c * size ∧ cur.take (n * size) = xs ∧ n ≤ c ∧ c ≤ maxLen := by
  rcases h.2 with ⟨hv, h0⟩ | ⟨g, cap, cur, hv, hb, hg, hn', hc, hs, ht⟩
  · omega
  · exact ⟨g, cap, cur.toList, hv, hb, by simpa [Row] using hg, by simpa using hs, by simpa using ht, hn', hc⟩
theorem ownset_ {w : World} {base size n c g i : Nat} {t : TypeId} {xs : List Value} (h : w.ownsRow base t size (.slice (some ⟨g, 0, none⟩) n c) n xs) (hn : 0 < n) (u : Value) :
    (w.setCell ⟨g, i, none⟩ u).ownsRow base t size (.slice (some ⟨g, 0, none⟩) n c) n (xs.set i u) := by
  obtain ⟨g', c', cur, e, hb, hr, hcl, hct, hnc, hcm⟩ := ownrow_ h hn
  injection e with e e2 e3
  injection e with e
  injection e with e _ _
  subst e e3
  refine ⟨by rw [List.length_set]; exact h.1, .inr ⟨g, c, (cur.set i u).toArray, rfl, hb, hr.set i _, hnc, hcm, by simpa using hcl, ?_⟩⟩
  rw [← hct]
  simp only [List.toList_toArray, List.take_set]
theorem x8s (a b : BitVec 8) : bits .xor .u8 (a.toNat : Int) (b.toNat : Int) = ((a ^^^ b).toNat : Int) := by
  rw [u8_xor_nat _ _ a.isLt b.isLt, BitVec.toNat_xor]
theorem getD_setL {α : Type} {ls : List α} {x z : α} {i j : Nat} (hi : i < ls.length) : (ls.set i x).getD j z = if j = i then x else ls.getD j z := by
  simp only [List.getD_eq_getElem?_getD]
  split
  · rename_i h; subst h; simp [hi]
  · rename_i h; rw [List.getElem?_set_ne (fun e => h e.symm)]
end Wells
namespace Go.Proofs.Ytcklnkilldeamaa
open Go.RowKit Wells
theorem OBs.setByte {base : Nat} {w : World} {v : Value} {vs : List Value} {ls : List (List Byte)} {gi n c i k : Nat} {b : Byte} {cur : List Value} (h : OBs base w v vs ls) (hi : i < ls.length)
    (hv : vs.getD i undef = .slice (some ⟨gi, 0, none⟩) n c) (h0 : 0 < (ls.getD i []).length) (hr : Row w gi 5 cur) (hd : ∀ j, j < ls.length → j ≠ i → (vs.getD j undef).ownBlock ≠ some gi) :
    OBs base (w.setCell ⟨gi, k, none⟩ (bv8 b)) v vs (ls.set i ((ls.getD i []).set k b)) := by
  have ho : Only (fun q => q = gi) w (w.setCell ⟨gi, k, none⟩ (bv8 b)) := Only.set (F := fun q => q = gi) (Only.refl _ w) (show gi = gi from rfl) k _
  refine ⟨?_, fun j hj => ?_⟩
  · rw [List.length_set]
    exact own_only h.own ho (fun q hq e => own_row_ne h.own hr (by decide) q hq e)
  · rw [List.length_set] at hj
    rw [getD_setL hi]
    split
    · rename_i hji
      subst hji
      have h1 := h.at_ j hj
      unfold OB at h1 ⊢
      rw [hv] at h1 ⊢
      obtain ⟨_, _, e, _⟩ := own_slice h1
      injection e with _ e _
      rw [List.length_set, List.map_set, ← e]
      rw [← e] at h1
      exact ownset_ h1 (by omega) _
    · rename_i hji
      exact own_only (h.at_ j hj) ho (fun q hq e => hd j hj hji (by rw [hq, e]))
theorem Drv.setByte {F : Nat → Prop} {w : World} {g pg : Nat} {lv bv : Value} {lvs bvs : List Value} {d : Dr} {gi n c i k : Nat} {b : Byte} (h : Drv F w g pg lv lvs bv bvs d) (hi : i < d.L.length)
    (hv : lvs.getD i undef = .slice (some ⟨gi, 0, none⟩) n c) (h0 : 0 < (d.L.getD i []).length) :
    Drv F (w.setCell ⟨gi, k, none⟩ (bv8 b)) g pg lv lvs bv bvs { d with L := d.L.set i ((d.L.getD i []).set k b) } ∧ F gi := by
  have hll := h.l.len
  have hmem : lvs.getD i undef ∈ lvs := by rw [List.getD_eq_getElem?_getD, List.getElem?_eq_getElem (by omega), Option.getD_some]; exact List.getElem_mem _
  have hob : (lvs.getD i undef).ownBlock = some gi := by rw [hv]; rfl
  obtain ⟨g', c', cur, e, _, hr, _⟩ := ownrow_ (h.l.own.at_ i hi) h0
  rw [hv] at e
  injection e with e _ _
  injection e with e
  injection e with e _ _
  subst e
  have hfi : F gi := h.l.is _ hmem gi hob
  have ho : Only (fun q => q = gi) w (w.setCell ⟨gi, k, none⟩ (bv8 b)) := Only.set (F := fun q => q = gi) (Only.refl _ w) (show gi = gi from rfl) k _
  have hne : ∀ j, j < d.L.length → j ≠ i → (lvs.getD j undef).ownBlock ≠ some gi := fun j hj hji e => by
    have hd := dist_left h.dist
    unfold Dist at hd
    rw [List.pairwise_iff_getElem] at hd
    have ej : lvs.getD j undef = lvs[j]'(by omega) := by simp [List.getD_eq_getElem?_getD, show j < lvs.length by omega]
    have ei : lvs.getD i undef = lvs[i]'(by omega) := by simp [List.getD_eq_getElem?_getD, show i < lvs.length by omega]
    rcases Nat.lt_or_gt_of_ne hji with hlt | hgt
    · exact hd j i (by omega) (by omega) hlt gi (by rw [← ej]; exact e) (by rw [← ei]; exact hob)
    · exact hd i j (by omega) (by omega) hgt gi (by rw [← ei]; exact hob) (by rw [← ej]; exact e)
  have hneB : ∀ x ∈ bvs, ∀ q, x.ownBlock = some q → q ≠ gi := fun x hx q hq e => by
    subst e
    exact (List.pairwise_append.1 h.dist).2.2 _ hmem x hx q hob hq
  refine ⟨⟨h.row.far (p := ⟨gi, k, none⟩) (row_ne h.row hr (by decide)) _, h.pow.far (p := ⟨gi, k, none⟩) (row_ne h.pow hr (by decide)) _, h.fg, h.fp, fun q hq => by simpa [World.setCell] using h.lt q hq, ⟨h.l.own.setByte hi hv h0 hr hne, h.l.iv, h.l.is⟩, ⟨h.b.own.only ho (fun q hq e => own_row_ne h.b.own.own hr (by decide) q hq e) (fun x hx q hq => hneB x hx q hq), h.b.iv, h.b.is⟩, h.sep, h.dist⟩, hfi⟩
/-- where one byte of one cell lies -/
theorem Drv.at_ {F : Nat → Prop} {w : World} {g pg : Nat} {bv : Value} {lvs bvs : List Value} {d : Dr} {gl nl cl gi n ci i k : Nat} {x : List Byte} (h : Drv F w g pg (.slice (some ⟨gl, 0, none⟩) nl cl) lvs bv bvs d) (hnl : d.L.length = nl) (hi : i < nl)
    (hv : lvs.getD i undef = .slice (some ⟨gi, 0, none⟩) n ci) (hx : d.L.getD i [] = x) (hn : x.length = n) (hk : k < n) :
    w.cell? ⟨g, 2, none⟩ = some (.slice (some ⟨gl, 0, none⟩) nl cl) ∧ w.cell? ⟨gl, i, none⟩ = some (.slice (some ⟨gi, 0, none⟩) n ci) ∧ w.cell? ⟨gi, k, none⟩ = some (.int .u8 ((x.getD k 0).toNat : Int)) ∧ w.frozen? ⟨gi, k, none⟩ = false := by
  have hll := h.l.len
  obtain ⟨gl', cl', curl, el, _, hrl, hcl1, hcl2, _, _⟩ := ownrow_ h.l.own.own (by omega)
  injection el with el _ el2
  injection el with el
  injection el with el _ _
  subst el
  obtain ⟨gi', ci', cur, ei, _, hri, _, hci, _, _⟩ := ownrow_ (h.l.own.at_ i (by omega)) (by rw [hx]; omega)
  rw [hv] at ei
  injection ei with ei _ ei2
  injection ei with ei
  injection ei with ei _ _
  subst ei
  rw [hx] at hci
  refine ⟨h.row.cell 2, ?_, ?_, hri.frozen k⟩
  · rw [hrl.cell, ← hv, ← List.getElem?_take_of_lt (show i < d.L.length * 1 by omega), hcl2]
    simp [List.getD_eq_getElem?_getD, show i < lvs.length by omega]
  · rw [hri.cell, ← List.getElem?_take_of_lt (show k < x.length * 1 by omega), hci, List.getElem?_map]
    rw [List.getD_eq_getElem?_getD, List.getElem?_eq_getElem (show k < x.length by omega)]
    rfl
set_option maxRecDepth 20000 in
theorem dspoil_any (F : Nat → Prop) (g pg : Nat) (d : Dr) (m : Nat) (i a mk : Int) (w : World) (h : DrvE F w g pg d) (hok : DOk m d) (hi : -9223372036854775808 ≤ i ∧ i ≤ 9223372036854775807) (ha : -9223372036854775808 ≤ a ∧ a ≤ 9223372036854775807) (hm : 0 ≤ mk ∧ mk ≤ 4294967295) :
    Calls Try.prog 22 #[.pointer (some ⟨g, 0, none⟩), .int .i64 i, .int .i64 a, .int .u32 mk] w fun e w' => e = .returned (.bool (d.spoil i a mk).2) ∧ DrvE F w' g pg (d.spoil i a mk).1 ∧ Only F w w' := by
  obtain ⟨lv, lvs, bv, bvs, h⟩ := h
  obtain ⟨Al, cl, rfl, hlc, hlc2⟩ := h.l.own.form
  have c2 := h.row.cell 2
  have e2 : (drRow pg d (.slice Al d.L.length cl) (bv))[2]? = some (.slice Al d.L.length cl) := rfl
  rw [e2] at c2
  clear e2
  have hll := hok.len
  have hrm := hok.room
  obtain ⟨S, hS⟩ : ∃ S, d.spoil i a mk = S := ⟨_, rfl⟩
  rw [hS]
  have HS := hid hS
  clear hS
  by_cases h1 : i < 0
  · have hs : S = (d, false) := by rw [← HS.out]; exact if_neg (by omega)
    subst hs
    go_enter Try.func22, Try.ntmps22
    go_wp2_with fail
    go_ret
    exact ⟨rfl, ⟨_, _, _, _, h⟩, Only.refl _ _⟩
  by_cases h2 : (d.L.length : Int) ≤ i
  · have hs : S = (d, false) := by rw [← HS.out]; exact if_neg (by omega)
    subst hs
    go_enter Try.func22, Try.ntmps22
    go_wp2_with fail
    go_ret
    exact ⟨rfl, ⟨_, _, _, _, h⟩, Only.refl _ _⟩
  by_cases h3 : a < 0
  · have hs : S = (d, false) := by rw [← HS.out]; exact if_neg (by omega)
    subst hs
    go_enter Try.func22, Try.ntmps22
    go_wp2_with fail
    go_ret
    exact ⟨rfl, ⟨_, _, _, _, h⟩, Only.refl _ _⟩
  by_cases h4 : 60 < a
  · have hs : S = (d, false) := by rw [← HS.out]; exact if_neg (by omega)
    subst hs
    go_enter Try.func22, Try.ntmps22
    go_wp2_with fail
    go_ret
    exact ⟨rfl, ⟨_, _, _, _, h⟩, Only.refl _ _⟩
  by_cases h5 : mk = 0
  · have hs : S = (d, false) := by rw [← HS.out]; exact if_neg (by omega)
    subst hs h5
    go_enter Try.func22, Try.ntmps22
    go_wp2_with fail
    go_ret
    exact ⟨rfl, ⟨_, _, _, _, h⟩, Only.refl _ _⟩
  obtain ⟨i, rfl⟩ : ∃ k : Nat, i = (k : Int) := ⟨i.toNat, by omega⟩
  obtain ⟨a, rfl⟩ : ∃ k : Nat, a = (k : Int) := ⟨a.toNat, by omega⟩
  obtain ⟨q, rfl⟩ : ∃ k : Nat, mk = (k : Int) := ⟨mk.toNat, by omega⟩
  have hs : S = ({ d with L := d.L.set i (spoilL (d.L.getD i []) a q 4) }, true) := by rw [← HS.out]; exact if_pos (by omega)
  subst hs
  have hi0 : i < d.L.length := by omega
  have hx64 : (d.L.getD i []).length = 64 := by
    rw [List.getD_eq_getElem?_getD, List.getElem?_eq_getElem hi0]
    exact hok.cells _ (List.getElem_mem hi0)
  obtain ⟨x, hx⟩ : ∃ x, d.L.getD i [] = x := ⟨_, rfl⟩
  have HX := hid hx
  rw [hx] at hx64 ⊢
  have HX64 := hid hx64
  obtain ⟨gi, ci, cur, hvi, _, hri, _, _, _, _⟩ := ownrow_ (h.l.own.at_ i hi0) (by rw [hx, hx64]; omega)
  rw [hx, hx64] at hvi
  obtain ⟨gl, cl', curl, el, _, hrl, hcl1, hcl2, _, _⟩ := ownrow_ h.l.own.own (by omega)
  injection el with el _ el2
  subst el el2
  have kl : w.cell? ⟨gl, i, none⟩ = some (.slice (some ⟨gi, 0, none⟩) 64 ci) := by
    rw [hrl.cell, ← hvi]
    have hll2 := h.l.len
    rw [← List.getElem?_take_of_lt (show i < d.L.length by omega), show d.L.length = d.L.length * 1 by omega, hcl2]
    simp [List.getD_eq_getElem?_getD, show i < lvs.length by omega]
  have hd0 : Drv F w g pg (.slice (some ⟨gl, 0, none⟩) d.L.length cl) lvs bv bvs { d with L := d.L.set i (spoilL x a q 0) } := by
    have e : d.L.set i (spoilL x a q 0) = d.L := by
      show d.L.set i x = d.L
      rw [← hx, List.getD_eq_getElem?_getD, List.getElem?_eq_getElem hi0, Option.getD_some, List.set_getElem_self]
    rw [e]
    exact h
  have HD0 := hid hd0
  have HVI := hid hvi
  clear h hd0 hri hrl hcl1 hcl2 hvi HS hx
  go_enter Try.func22, Try.ntmps22
  go_wp2_with fail
  go_loopw [37] (fun k wr => ∃ j : Nat, j ≤ 4 ∧ k = .int .i64 (j : Int) ∧ Drv F wr g pg (.slice (some ⟨gl, 0, none⟩) d.L.length cl) lvs bv bvs { d with L := d.L.set i (spoilL x a q j) } ∧ Only F w wr) (fun k _ => 4 - (intOf k).toNat)
  case atStart => exact ⟨0, by omega, rfl, HD0.out, Only.refl _ _⟩
  case round =>
    clear c2 kl HD0
    obtain ⟨j, hj, rfl, hdj, hon⟩ := hrel
    by_cases hlt : j < 4
    · have hj4 : (j : Int) < 4 := by omega
      have hgx : (d.L.set i (spoilL x a q j)).getD i [] = spoilL x a q j := by rw [getD_setL hi0, if_pos rfl]
      have hxl : (spoilL x a q j).length = 64 := by rw [spoilL_len]; exact HX64.out
      have hlj : (d.L.set i (spoilL x a q j)).length = d.L.length := List.length_set
      obtain ⟨k2, kl, kb, fb⟩ := hdj.at_ (i := i) (k := a + j) (x := spoilL x a q j) hlj hi0 HVI.out hgx hxl (by omega)
      have hsb := fun b => hdj.setByte (i := i) (k := a + j) (b := b) (show i < (d.L.set i _).length by rw [hlj]; exact hi0) HVI.out (show 0 < ((d.L.set i (spoilL x a q j)).getD i []).length by rw [hgx, hxl]; omega)
      have hS2 : d.L.set i (spoilL x a q (j + 1)) = (d.L.set i (spoilL x a q j)).set i (((d.L.set i (spoilL x a q j)).getD i []).set (a + j) ((spoilL x a q j).getD (a + j) 0 ^^^ spoilB q j)) := by
        rw [hgx, List.set_set]
        rfl
      have hs3 := hsb ((spoilL x a q j).getD (a + j) 0 ^^^ spoilB q j)
      have HS4 := hid hs3
      have HS2 := hid hS2
      clear hsb hs3 hS2 hgx hxl hlj hdj
      generalize (spoilL x a q j).getD (a + j) 0 = b at *
      obtain ⟨sb, hsb⟩ : ∃ sb, spoilB q j = sb := ⟨_, rfl⟩
      rw [hsb] at HS4 HS2
      have HSB := hid hsb
      clear hsb
      go_wp2_with fail
      obtain ⟨z, hz⟩ : ∃ z, a + j = z := ⟨_, rfl⟩
      obtain ⟨s, hs⟩ : ∃ s, 8 * j = s := ⟨_, rfl⟩
      rw [hz] at kb fb HS4 HS2
      have HZ := hid hz
      have e49 : IntKind.i64.wrap ((a : Int) + (j : Int)) = (z : Int) := by rw [IntKind.wrap_i64]; omega
      have e54 : IntKind.i64.wrap (8 * (j : Int)) = (s : Int) := by rw [IntKind.wrap_i64]; omega
      have b49 : (z : Int) < 64 := by omega
      have e57 : bits .xor .u8 (b.toNat : Int) ((q : Int) / 2 ^ min s 32 % 256) = ((b ^^^ sb).toNat : Int) := by
        rw [show min s 32 = s by omega, ← x8s b sb, ← HSB.out]
        unfold spoilB
        rw [BitVec.toNat_ofNat, hs]
        have e : (q : Int) / 2 ^ s = ((q / 2 ^ s : Nat) : Int) := by simp
        rw [e]
        rfl
      have HE57 := hid e57
      clear hz hs e57
      refine Org.begin [19] (fun w' => w'.cell? ⟨g, 2, none⟩ = some (.slice (some ⟨gl, 0, none⟩) d.L.length cl) ∧ w'.cell? ⟨gl, i, none⟩ = some (.slice (some ⟨gi, 0, none⟩) 64 ci) ∧ w'.cell? ⟨gi, z, none⟩ = some (.int .u8 (b.toNat : Int))) [0, 1, 2, 3, 4, 5, 6, 7, 8, 9, 10, 11, 12, 13, 14, 15, 16, 17, 18, 19] (by kernel_rfl) (⟨k2, kl, kb⟩) (fun hS => ?_)
      (refine Org.yes (v := ?_) rfl (by kernel_rfl) (by kernel_rfl) (by kernel_rfl) (by kernel_rfl) (by kernel_rfl) (fun _ _ _ h => h) (by kernel_rfl) (SM.of hS) ?_ ?_; rotate_left; (focus (intro w hSw; (try dsimp only at hSw); refine Pure.val ?_; go_simp; (try with_reducible rfl); done)); try simp only [Act.put, List.setIfInBounds_toArray, List.set_cons_zero, List.set_cons_succ])
      (refine Org.yes (v := ?_) rfl (by kernel_rfl) (by kernel_rfl) (by kernel_rfl) (by kernel_rfl) (by kernel_rfl) (fun _ _ _ h => h) (by kernel_rfl) (SM.of hS) ?_ ?_; rotate_left; (focus (intro w hSw; (try dsimp only at hSw); refine Pure.val ?_; go_simp; (try with_reducible rfl); done)); try simp only [Act.put, List.setIfInBounds_toArray, List.set_cons_zero, List.set_cons_succ])
      (refine Org.yes (v := ?_) rfl (by kernel_rfl) (by kernel_rfl) (by kernel_rfl) (by kernel_rfl) (by kernel_rfl) (fun _ _ _ h => h) (by kernel_rfl) (SM.of hS) ?_ ?_; rotate_left; (focus (intro w hSw; (try dsimp only at hSw); refine Pure.val ?_; go_simp; (try with_reducible rfl); done)); try simp only [Act.put, List.setIfInBounds_toArray, List.set_cons_zero, List.set_cons_succ])
      (refine Org.yes (v := ?_) rfl (by kernel_rfl) (by kernel_rfl) (by kernel_rfl) (by kernel_rfl) (by kernel_rfl) (fun _ _ _ h => h) (by kernel_rfl) (SM.of hS) ?_ ?_; rotate_left; (focus (intro w hSw; (try dsimp only at hSw); have q2 := hSw.1; refine Pure.val ?_; go_simp; (try with_reducible rfl); done)); try simp only [Act.put, List.setIfInBounds_toArray, List.set_cons_zero, List.set_cons_succ])
      (refine Org.yes (v := ?_) rfl (by kernel_rfl) (by kernel_rfl) (by kernel_rfl) (by kernel_rfl) (by kernel_rfl) (fun _ _ _ h => h) (by kernel_rfl) (SM.of hS) ?_ ?_; rotate_left; (focus (intro w hSw; (try dsimp only at hSw); refine Pure.val ?_; go_simp; (try with_reducible rfl); done)); try simp only [Act.put, List.setIfInBounds_toArray, List.set_cons_zero, List.set_cons_succ])
      (refine Org.yes (v := ?_) rfl (by kernel_rfl) (by kernel_rfl) (by kernel_rfl) (by kernel_rfl) (by kernel_rfl) (fun _ _ _ h => h) (by kernel_rfl) (SM.of hS) ?_ ?_; rotate_left; (focus (intro w hSw; (try dsimp only at hSw); refine Pure.val ?_; go_simp; (try with_reducible rfl); done)); try simp only [Act.put, List.setIfInBounds_toArray, List.set_cons_zero, List.set_cons_succ])
      (refine Org.yes (v := ?_) rfl (by kernel_rfl) (by kernel_rfl) (by kernel_rfl) (by kernel_rfl) (by kernel_rfl) (fun _ _ _ h => h) (by kernel_rfl) (SM.of hS) ?_ ?_; rotate_left; (focus (intro w hSw; (try dsimp only at hSw); have q2 := hSw.2.1; refine Pure.val ?_; go_simp; (try with_reducible rfl); done)); try simp only [Act.put, List.setIfInBounds_toArray, List.set_cons_zero, List.set_cons_succ])
      (refine Org.yes (v := ?_) rfl (by kernel_rfl) (by kernel_rfl) (by kernel_rfl) (by kernel_rfl) (by kernel_rfl) (fun _ _ _ h => h) (by kernel_rfl) (SM.of hS) ?_ ?_; rotate_left; (focus (intro w hSw; (try dsimp only at hSw); refine Pure.val ?_; go_simp; (try with_reducible rfl); done)); try simp only [Act.put, List.setIfInBounds_toArray, List.set_cons_zero, List.set_cons_succ])
      (refine Org.yes (v := ?_) rfl (by kernel_rfl) (by kernel_rfl) (by kernel_rfl) (by kernel_rfl) (by kernel_rfl) (fun _ _ _ h => h) (by kernel_rfl) (SM.of hS) ?_ ?_; rotate_left; (focus (intro w hSw; (try dsimp only at hSw); refine Pure.val ?_; go_simp; (try with_reducible rfl); done)); try simp only [Act.put, List.setIfInBounds_toArray, List.set_cons_zero, List.set_cons_succ])
      (refine Org.yes (v := ?_) rfl (by kernel_rfl) (by kernel_rfl) (by kernel_rfl) (by kernel_rfl) (by kernel_rfl) (fun _ _ _ h => h) (by kernel_rfl) (SM.of hS) ?_ ?_; rotate_left; (focus (intro w hSw; (try dsimp only at hSw); refine Pure.val ?_; go_simp; (try with_reducible rfl); done)); try simp only [Act.put, List.setIfInBounds_toArray, List.set_cons_zero, List.set_cons_succ])
      (refine Org.yes (v := ?_) rfl (by kernel_rfl) (by kernel_rfl) (by kernel_rfl) (by kernel_rfl) (by kernel_rfl) (fun _ _ _ h => h) (by kernel_rfl) (SM.of hS) ?_ ?_; rotate_left; (focus (intro w hSw; (try dsimp only at hSw); refine Pure.val ?_; go_simp; (try with_reducible rfl); done)); try simp only [Act.put, List.setIfInBounds_toArray, List.set_cons_zero, List.set_cons_succ])
      (refine Org.yes (v := ?_) rfl (by kernel_rfl) (by kernel_rfl) (by kernel_rfl) (by kernel_rfl) (by kernel_rfl) (fun _ _ _ h => h) (by kernel_rfl) (SM.of hS) ?_ ?_; rotate_left; (focus (intro w hSw; (try dsimp only at hSw); have q2 := hSw.2.2; refine Pure.val ?_; go_simp; (try with_reducible rfl); done)); try simp only [Act.put, List.setIfInBounds_toArray, List.set_cons_zero, List.set_cons_succ])
      (refine Org.yes (v := ?_) rfl (by kernel_rfl) (by kernel_rfl) (by kernel_rfl) (by kernel_rfl) (by kernel_rfl) (fun _ _ _ h => h) (by kernel_rfl) (SM.of hS) ?_ ?_; rotate_left; (focus (intro w hSw; (try dsimp only at hSw); refine Pure.val ?_; go_simp; (try with_reducible rfl); done)); try simp only [Act.put, List.setIfInBounds_toArray, List.set_cons_zero, List.set_cons_succ])
      (refine Org.yes (v := ?_) rfl (by kernel_rfl) (by kernel_rfl) (by kernel_rfl) (by kernel_rfl) (by kernel_rfl) (fun _ _ _ h => h) (by kernel_rfl) (SM.of hS) ?_ ?_; rotate_left; (focus (intro w hSw; (try dsimp only at hSw); refine Pure.val ?_; go_simp; (try with_reducible rfl); done)); try simp only [Act.put, List.setIfInBounds_toArray, List.set_cons_zero, List.set_cons_succ])
      (refine Org.yes (v := ?_) rfl (by kernel_rfl) (by kernel_rfl) (by kernel_rfl) (by kernel_rfl) (by kernel_rfl) (fun _ _ _ h => h) (by kernel_rfl) (SM.of hS) ?_ ?_; rotate_left; (focus (intro w hSw; (try dsimp only at hSw); refine Pure.val ?_; go_simp; (try with_reducible rfl); done)); try simp only [Act.put, List.setIfInBounds_toArray, List.set_cons_zero, List.set_cons_succ])
      (refine Org.yes (v := ?_) rfl (by kernel_rfl) (by kernel_rfl) (by kernel_rfl) (by kernel_rfl) (by kernel_rfl) (fun _ _ _ h => h) (by kernel_rfl) (SM.of hS) ?_ ?_; rotate_left; (focus (intro w hSw; (try dsimp only at hSw); refine Pure.val ?_; go_simp; (try with_reducible rfl); done)); try simp only [Act.put, List.setIfInBounds_toArray, List.set_cons_zero, List.set_cons_succ])
      (refine Org.yes (v := ?_) rfl (by kernel_rfl) (by kernel_rfl) (by kernel_rfl) (by kernel_rfl) (by kernel_rfl) (fun _ _ _ h => h) (by kernel_rfl) (SM.of hS) ?_ ?_; rotate_left; (focus (intro w hSw; (try dsimp only at hSw); refine Pure.val ?_; go_simp; (try with_reducible rfl); done)); try simp only [Act.put, List.setIfInBounds_toArray, List.set_cons_zero, List.set_cons_succ])
      (refine Org.yes (v := ?_) rfl (by kernel_rfl) (by kernel_rfl) (by kernel_rfl) (by kernel_rfl) (by kernel_rfl) (fun _ _ _ h => h) (by kernel_rfl) (SM.of hS) ?_ ?_; rotate_left; (focus (intro w hSw; (try dsimp only at hSw); refine Pure.val ?_; go_simp; (try with_reducible rfl); done)); try simp only [Act.put, List.setIfInBounds_toArray, List.set_cons_zero, List.set_cons_succ])
      (refine Org.yes (v := ?_) rfl (by kernel_rfl) (by kernel_rfl) (by kernel_rfl) (by kernel_rfl) (by kernel_rfl) (fun _ _ _ h => h) (by kernel_rfl) (SM.of hS) ?_ ?_; rotate_left; (focus (intro w hSw; (try dsimp only at hSw); refine Pure.val ?_; go_simp; (try with_reducible rfl); done)); try simp only [Act.put, List.setIfInBounds_toArray, List.set_cons_zero, List.set_cons_succ])
      refine Org.mark (p := 19) rfl (by kernel_rfl) (by kernel_rfl) (by kernel_rfl) (by kernel_rfl) (fun K hK => ?_)
      have k8 := hS.2.2
      go_simp
      refine hK.out _ _ ?_
      clear k8
      clear hK K hS
      try simp only [Act.put, List.setIfInBounds_toArray, List.set_cons_zero, List.set_cons_succ]
      refine Org.done (by kernel_rfl) ?_
      have hF := HS4.out.1
      rw [← HS2.out] at hF
      have HF := hid hF
      have HON := hid (hon.set HS4.out.2 z (bv8 (b ^^^ sb)))
      clear hF
      go_wp2_with fail
      go_roundw
      case rel =>
        refine ⟨j + 1, by omega, by go_num, ?_, ?_⟩
        · rw [HE57.out]
          exact HF.out.drew_
        · rw [HE57.out]
          exact HON.out.drew
      case measure => simp [intOf]; omega
    · obtain rfl : j = 4 := by omega
      have HDJ := hid hdj
      clear hdj
      go_wp2_with fail
      go_ret
      exact ⟨rfl, ⟨_, _, _, _, HDJ.out⟩, hon⟩
end Go.Proofs.Ytcklnkilldeamaa
