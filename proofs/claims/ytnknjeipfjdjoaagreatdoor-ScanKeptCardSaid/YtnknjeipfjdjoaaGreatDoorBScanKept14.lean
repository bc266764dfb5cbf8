/- TakeRec -/
import Derived.Deep.RegionHeld3
import Derived.BigGuardPart
import Derived.Deep.DeepCutAuto
import Derived.Test.YtnknjeipfjdjoaaGreatDoorBScanKept13
set_option maxRecDepth 20000
set_option linter.unusedSimpArgs false
set_option linter.unusedVariables false
namespace Wells
open Go Go.RowKit
theorem numL_one (x : BL) (k : Nat) (h : k < x.length) : numL ((x.drop k).take 1) = byteI x k := by
 rw [List.drop_eq_getElem_cons h, List.take_succ_cons, List.take_zero]
 unfold numL byteI
 rw [List.getD_eq_getElem?_getD, List.getElem?_eq_getElem h]
 simp only [List.foldl_cons, List.foldl_nil, Option.getD_some]
 omega
theorem takeR_of {l x : BL} {k : Byte} (h : takeP l = some (k, x)) : takeR l = if k = 1#8 ∧ (parseP x).may = true ∧ putR (parseR x) = l then some (parseR x) else none := by
 unfold takeR; rw [h]
end Wells
namespace Go.Proofs.YtnknjeipfjdjoaaGreatDoor
open Go.RowKit Wells
theorem put3 {B : Nat} {w : World} (h : B ≤ w.heap.size) (i j k : Nat) (a b c : Value) : Below B w (((w.setCell ⟨B, i, none⟩ a).setCell ⟨B, j, none⟩ b).setCell ⟨B, k, none⟩ c) :=
 below_put (below_put (below_put (Below.refl _ _) _ _ (Nat.le_refl _) h _) _ _ (Nat.le_refl _) (by simpa [World.setCell] using h) _) _ _ (Nat.le_refl _) (by simpa [World.setCell] using h) _
theorem row8 {w : World} {g : Nat} {t : TypeId} {z0 z1 z2 z3 z4 z5 z6 z7 : Value} (h : Row w g t [z0, z1, z2, z3, z4, z5, z6, z7]) (a0 a1 a2 a3 a4 a5 a6 a7 : Value) : Row ((((((((w.setCell ⟨g, 0, none⟩ a0).setCell ⟨g, 1, none⟩ a1).setCell ⟨g, 2, none⟩ a2).setCell ⟨g, 3, none⟩ a3).setCell ⟨g, 4, none⟩ a4).setCell ⟨g, 5, none⟩ a5).setCell ⟨g, 6, none⟩ a6).setCell ⟨g, 7, none⟩ a7) g t [a0, a1, a2, a3, a4, a5, a6, a7] := ((((((((h.set 0 a0).set 1 a1).set 2 a2).set 3 a3).set 4 a4).set 5 a5).set 6 a6).set 7 a7)
theorem below8 {w0 w : World} {g B : Nat} (h : Below B w0 w) (hg : B ≤ g) (hs : B ≤ w.heap.size) (a0 a1 a2 a3 a4 a5 a6 a7 : Value) : Below B w0 ((((((((w.setCell ⟨g, 0, none⟩ a0).setCell ⟨g, 1, none⟩ a1).setCell ⟨g, 2, none⟩ a2).setCell ⟨g, 3, none⟩ a3).setCell ⟨g, 4, none⟩ a4).setCell ⟨g, 5, none⟩ a5).setCell ⟨g, 6, none⟩ a6).setCell ⟨g, 7, none⟩ a7) :=
 (below_put (below_put (below_put (below_put (below_put (below_put (below_put (below_put h _ _ hg (by simpa [World.setCell] using hs) _) _ _ hg (by simpa [World.setCell] using hs) _) _ _ hg (by simpa [World.setCell] using hs) _) _ _ hg (by simpa [World.setCell] using hs) _) _ _ hg (by simpa [World.setCell] using hs) _) _ _ hg (by simpa [World.setCell] using hs) _) _ _ hg (by simpa [World.setCell] using hs) _) _ _ hg (by simpa [World.setCell] using hs) _)
theorem ob_put {base g : Nat} {w : World} {v : Value} {l : BL} (h : OB base w v l) (hg : g < base) (i : Nat) (x : Value) : OB base (w.setCell ⟨g, i, none⟩ x) v l :=
 h.keep (row := some g) ⟨rfl, rfl, rfl, by simp [World.setCell], fun k _ hne => Below.heap_setCell w ⟨g, i, none⟩ x k (fun e => hne (by rw [e]))⟩ (by
  cases hb : v.ownBlock with
  | none => left; rfl
  | some k => right; intro e; injection e with e; have := own_lt h k hb; omega)
theorem ob8 {base g : Nat} {w : World} {v : Value} {l : BL} (h : OB base w v l) (hg : g < base) (a0 a1 a2 a3 a4 a5 a6 a7 : Value) : OB base ((((((((w.setCell ⟨g, 0, none⟩ a0).setCell ⟨g, 1, none⟩ a1).setCell ⟨g, 2, none⟩ a2).setCell ⟨g, 3, none⟩ a3).setCell ⟨g, 4, none⟩ a4).setCell ⟨g, 5, none⟩ a5).setCell ⟨g, 6, none⟩ a6).setCell ⟨g, 7, none⟩ a7) v l :=
 (ob_put (ob_put (ob_put (ob_put (ob_put (ob_put (ob_put (ob_put h hg _ _) hg _ _) hg _ _) hg _ _) hg _ _) hg _ _) hg _ _) hg _ _)
theorem own_form3 {base : Nat} {w : World} {v : Value} {l : BL} {n : Nat} (h : OB base w v l) (hn : l.length = n) : ∃ A c, v = .slice A n c ∧ n ≤ c ∧ c ≤ 9223372036854775807 := by
 obtain ⟨A, c, e, h1, h2, _⟩ := h.read
 subst hn
 exact ⟨A, c, e, h1, h2⟩
theorem ob_sl {base : Nat} {w : World} {A : Option Addr} {n c : Nat} {l : BL} (h : OB base w (.slice A n c) l) (hn : l.length = n) : Sl w w.heap.size 1 A n (l.map bv8) := by
 obtain ⟨A', c', e, h1, h2, h3⟩ := h.read
 injection e with e1 e2 e3
 subst e1
 rw [hn] at h3
 exact h3
set_option maxRecDepth 20000 in
set_option maxHeartbeats 16000000 in
theorem takerec_own (B : Nat) (A : Option Addr) (l : List Byte) (n c : Nat) (w : World) (h : Sl w B 1 A n (l.map bv8)) (hB : B ≤ w.heap.size) (hn : n ≤ 1048576) (hc : n ≤ c) (hc2 : c ≤ 9223372036854775807) :
  Calls Tryz.prog 44 #[.slice A n c] w fun e w' => ∃ d, e = .returned (.tuple #[((takeR l).getD Rec.zero).val d, .bool (takeR l).isSome]) ∧ OB w.heap.size w' d ((takeR l).getD Rec.zero).D ∧ Below w.heap.size w w' := by
 have hln : l.length = n := by have := h.len; simpa using this
 have HLN := hid hln
 clear hln
 obtain ⟨T, hT⟩ : ∃ T, takeR l = T := ⟨_, rfl⟩
 rw [hT]
 have HTT := hid hT
 clear hT
 go_enter Tryz.func44, Tryz.ntmps44
 go_wp2_with fail
 have hr0 : Row (w.alloc (.cells #[.int .i64 0, .int .i64 0, .int .i64 0, .int .i64 0, .int .i64 0, .int .i64 0, .int .u32 0, .slice none 0 0] 73)) w.heap.size 73 [.int .i64 0, .int .i64 0, .int .i64 0, .int .i64 0, .int .i64 0, .int .i64 0, .int .u32 0, .slice none 0 0] := Row.new w 73 #[.int .i64 0, .int .i64 0, .int .i64 0, .int .i64 0, .int .i64 0, .int .i64 0, .int .u32 0, .slice none 0 0]
 have hb0 : Below w.heap.size w (w.alloc (.cells #[.int .i64 0, .int .i64 0, .int .i64 0, .int .i64 0, .int .i64 0, .int .i64 0, .int .u32 0, .slice none 0 0] 73)) := (Below.refl _ _).alloc (Nat.le_refl _) _
 generalize w.alloc (.cells #[.int .i64 0, .int .i64 0, .int .i64 0, .int .i64 0, .int .i64 0, .int .i64 0, .int .u32 0, .slice none 0 0] 73) = w1 at *
 have hlt0 := hr0.lt
 have hs1 := h.below (hb0.mono hB)
 refine (take_any B A l n c _ hs1 (by omega) hn hc hc2).mono ?_
 rintro e w2 ⟨v, rfl, hv, hb2⟩
 have hr2 := hr0.below hb2 hlt0
 have hb02 := hb0.trans (hb2.mono (by omega))
 have hw2 := hb2.size
 have hl2 := h.below (hb02.mono hB)
 have hlt2 := hr2.lt
 clear hr0 hb0 hs1 hb2
 cases htk : takeP l with
 | none =>
  rw [htk] at hv
  have hT : T = none := by rw [← HTT.out]; unfold takeR; rw [htk]
  subst hT
  obtain ⟨Ax, cx, rfl, _, _, _⟩ := hv.read
  unfold tkV
  clear htk
  have z0 := hr2.cell 0
  have z1 := hr2.cell 1
  have z2 := hr2.cell 2
  have z3 := hr2.cell 3
  have z4 := hr2.cell 4
  have z5 := hr2.cell 5
  have z6 := hr2.cell 6
  have z7 := hr2.cell 7
  simp only [List.getElem?_cons_succ, List.getElem?_cons_zero] at z0 z1 z2 z3 z4 z5 z6 z7
  have y0 := hr2.frozen 0
  have y1 := hr2.frozen 1
  have y2 := hr2.frozen 2
  have y3 := hr2.frozen 3
  have y4 := hr2.frozen 4
  have y5 := hr2.frozen 5
  have y6 := hr2.frozen 6
  have y7 := hr2.frozen 7
  go_wp2_with fail
  have R8 := row8 hr2 (.int .i64 0) (.int .i64 0) (.int .i64 0) (.int .i64 0) (.int .i64 0) (.int .i64 0) (.int .u32 0) (.slice none 0 0)
  have B8 := below8 hb02 (Nat.le_refl _) hb02.size (.int .i64 0) (.int .i64 0) (.int .i64 0) (.int .i64 0) (.int .i64 0) (.int .i64 0) (.int .u32 0) (.slice none 0 0)
  have q0 := R8.cell 0
  have q1 := R8.cell 1
  have q2 := R8.cell 2
  have q3 := R8.cell 3
  have q4 := R8.cell 4
  have q5 := R8.cell 5
  have q6 := R8.cell 6
  have q7 := R8.cell 7
  simp only [List.getElem?_cons_succ, List.getElem?_cons_zero] at q0 q1 q2 q3 q4 q5 q6 q7
  refine bodyPost_ret (v := .tuple #[Rec.zero.val (.slice none 0 0), .bool false]) ?_ rfl ⟨.slice none 0 0, ?_, ?_, B8⟩
  ·simp [results, Tryz.results44, go_sem, q0, q1, q2, q3, q4, q5, q6, q7]
   rfl
  ·rfl
  ·exact World.ownsRow_nil _ _ _ _
 | some p =>
  obtain ⟨k, x⟩ := p
  rw [htk] at hv
  have hxl := (take_some htk).2.1
  have HXL := hid hxl
  unfold tkV
  dsimp only [Option.getD, Option.isSome] at hv ⊢
  have hTif := takeR_of htk
  have HTif := hid hTif
  have hkb := k.isLt
  clear htk hTif
  obtain ⟨Ax, cx, rfl, hcx1, hcx2, sx⟩ := hv.read
  rw [hxl] at hcx1 sx ⊢
  by_cases hk1 : k = 1#8
  rotate_left
  ·have hT : T = none := by rw [← HTT.out, HTif.out, if_neg (fun h => hk1 h.1)]
   subst hT
   have hk2 : ((k.toNat : Int) != 1) = true := by
    simp only [bne_iff_ne, ne_eq]
    intro e
    exact hk1 (BitVec.eq_of_toNat_eq (by simp; omega))
   clear hk1 hxl hv sx
   have z0 := hr2.cell 0
   have z1 := hr2.cell 1
   have z2 := hr2.cell 2
   have z3 := hr2.cell 3
   have z4 := hr2.cell 4
   have z5 := hr2.cell 5
   have z6 := hr2.cell 6
   have z7 := hr2.cell 7
   simp only [List.getElem?_cons_succ, List.getElem?_cons_zero] at z0 z1 z2 z3 z4 z5 z6 z7
   have y0 := hr2.frozen 0
   have y1 := hr2.frozen 1
   have y2 := hr2.frozen 2
   have y3 := hr2.frozen 3
   have y4 := hr2.frozen 4
   have y5 := hr2.frozen 5
   have y6 := hr2.frozen 6
   have y7 := hr2.frozen 7
   go_wp2_with fail
   have R8 := row8 hr2 (.int .i64 0) (.int .i64 0) (.int .i64 0) (.int .i64 0) (.int .i64 0) (.int .i64 0) (.int .u32 0) (.slice none 0 0)
   have B8 := below8 hb02 (Nat.le_refl _) hb02.size (.int .i64 0) (.int .i64 0) (.int .i64 0) (.int .i64 0) (.int .i64 0) (.int .i64 0) (.int .u32 0) (.slice none 0 0)
   have q0 := R8.cell 0
   have q1 := R8.cell 1
   have q2 := R8.cell 2
   have q3 := R8.cell 3
   have q4 := R8.cell 4
   have q5 := R8.cell 5
   have q6 := R8.cell 6
   have q7 := R8.cell 7
   simp only [List.getElem?_cons_succ, List.getElem?_cons_zero] at q0 q1 q2 q3 q4 q5 q6 q7
   refine bodyPost_ret (v := .tuple #[Rec.zero.val (.slice none 0 0), .bool false]) ?_ rfl ⟨.slice none 0 0, ?_, ?_, B8⟩
   ·simp [results, Tryz.results44, go_sem, q0, q1, q2, q3, q4, q5, q6, q7]
    rfl
   ·rfl
   ·exact World.ownsRow_nil _ _ _ _
  ·subst hk1
   obtain ⟨bx, ox, rfl, hbx, _⟩ := sx.at_ (by omega)
   obtain ⟨xO, hxO⟩ : ∃ r, numL ((x.drop 0).take 3) = r := ⟨_, rfl⟩
   obtain ⟨xB, hxB⟩ : ∃ r, numL ((x.drop 3).take 1) = r := ⟨_, rfl⟩
   obtain ⟨xI, hxI⟩ : ∃ r, numL ((x.drop 4).take 2) = r := ⟨_, rfl⟩
   obtain ⟨xK, hxK⟩ : ∃ r, numL ((x.drop 6).take 1) = r := ⟨_, rfl⟩
   obtain ⟨xH, hxH⟩ : ∃ r, numL ((x.drop 7).take 1) = r := ⟨_, rfl⟩
   obtain ⟨xS, hxS⟩ : ∃ r, numL ((x.drop 8).take 1) = r := ⟨_, rfl⟩
   obtain ⟨xs, hxs⟩ : ∃ r, numL ((x.drop 9).take 4) = r := ⟨_, rfl⟩
   have hbs := numL_bound ((x.drop 9).take 4)
   rw [hxs, show ((x.drop 9).take 4).length = 4 by simp [hxl]] at hbs
   obtain ⟨sv, rfl⟩ : ∃ sv : BitVec 32, xs = (sv.toNat : Int) := ⟨BitVec.ofNat 32 xs.toNat, by rw [BitVec.toNat_ofNat]; omega⟩
   have hsv := sv.isLt
   have hw32 : IntKind.u32.wrap (sv.toNat : Int) = (sv.toNat : Int) := by rw [IntKind.wrap_u32]; omega
   have hpP : parseP x = ⟨xK, xH, xS⟩ := by unfold parseP; rw [← numL_one x 6 (by omega), ← numL_one x 7 (by omega), ← numL_one x 8 (by omega), hxK, hxH, hxS]
   have hpR : parseR x = ⟨xO, xB, xI, ⟨xK, xH, xS⟩, sv, (x.drop 13).take xS.toNat⟩ := by
    have e8 : byteI x 8 = xS := by rw [← numL_one x 8 (by omega), hxS]
    unfold parseR
    rw [hpP, e8, hxs, show x.take 3 = (x.drop 0).take 3 from rfl, hxO, hxB, hxI]
    congr 1
    simp
   have HPP := hid hpP
   have HPR := hid hpR
   have HO := hid hxO
   have HBk := hid hxB
   have HI := hid hxI
   have HK := hid hxK
   have HH := hid hxH
   have HS := hid hxS
   have Hs := hid hxs
   clear hxO hxB hxI hxK hxH hxS hxs hpP hpR hbs hxl hv
   have f3 : 3 ≤ cx := by omega
   have f3i : (3 : Int) ≤ (cx : Int) := by omega
   have f4 : 4 ≤ cx := by omega
   have f4i : (4 : Int) ≤ (cx : Int) := by omega
   have f6 : 6 ≤ cx := by omega
   have f6i : (6 : Int) ≤ (cx : Int) := by omega
   have f7 : 7 ≤ cx := by omega
   have f7i : (7 : Int) ≤ (cx : Int) := by omega
   have f8 : 8 ≤ cx := by omega
   have f8i : (8 : Int) ≤ (cx : Int) := by omega
   have f9 : 9 ≤ cx := by omega
   have f9i : (9 : Int) ≤ (cx : Int) := by omega
   have f13 : 13 ≤ cx := by omega
   have f13i : (13 : Int) ≤ (cx : Int) := by omega
   have g0 : ¬ cx = 0 := by omega
   have g3 : ¬ cx = 3 := by omega
   have g4 : ¬ cx = 4 := by omega
   have g6 : ¬ cx = 6 := by omega
   have g7 : ¬ cx = 7 := by omega
   have g8 : ¬ cx = 8 := by omega
   have g9 : ¬ cx = 9 := by omega
   have g13 : ¬ cx = 13 := by omega
   go_upto_region 4 with fail
   go_cut [7] (fun s7 wx => s7 = .pointer (some ⟨w2.heap.size, 0, none⟩) ∧ Row wx w2.heap.size 73 [.int .i64 xO, .int .i64 xB, .int .i64 xI, .int .i64 0, .int .i64 0, .int .i64 0, .int .u32 0, .slice none 0 0] ∧ Below w2.heap.size w2 wx)
   case first =>
    go_region_held3 (fun w' => Below w2.heap.size w2 w' ∧ w2.heap.size ≤ w'.heap.size)
     (first
      | exact ⟨below_drewN (Below.refl _ _) 1, Nat.le_refl _⟩
      | exact ⟨below_drewN ((Below.refl _ _).alloc (Nat.le_refl _) _) 1, by simp⟩
      | assumption)
     (first
      | (go_at_call 81; (with_reducible show Calls _ _ #[.slice (some ⟨bx, ox, none⟩) 3 _] _ _); have hh := ‹Below w2.heap.size w2 _ ∧ _›; refine (told_at (sx.below hh.1) 0 3 _ (by omega) (by omega) _ HO.out).mono ?_; rintro e w' ⟨rfl, rfl⟩)
      | (go_at_call 81; (with_reducible show Calls _ _ #[.slice (some ⟨bx, ox + 3, none⟩) 1 _] _ _); have hh := ‹Below w2.heap.size w2 _ ∧ _›; refine (told_at (sx.below hh.1) 3 1 _ (by omega) (by omega) _ HBk.out).mono ?_; rintro e w' ⟨rfl, rfl⟩)
      | (go_at_call 81; (with_reducible show Calls _ _ #[.slice (some ⟨bx, ox + 4, none⟩) 2 _] _ _); have hh := ‹Below w2.heap.size w2 _ ∧ _›; refine (told_at (sx.below hh.1) 4 2 _ (by omega) (by omega) _ HI.out).mono ?_; rintro e w' ⟨rfl, rfl⟩))
    all_goals (go_wp2_with fail; go_meet; exact ⟨rfl, (Row.new w2 73 #[.int .i64 xO, .int .i64 xB, .int .i64 xI, .int .i64 0, .int .i64 0, .int .i64 0, .int .u32 0, .slice none 0 0]).drew, below_drewN ((Below.refl _ _).alloc (Nat.le_refl _) _) 1⟩)
   case rest =>
   obtain ⟨rfl, hr3, hb3⟩ := hcut
   have hl3 := hr3.lt
   have s3 := sx.below hb3
   have fz3 := hr3.frozen 3
   have fz4 := hr3.frozen 4
   have fz5 := hr3.frozen 5
   have cl3 := hr3.cell 3
   have cl4 := hr3.cell 4
   have cl5 := hr3.cell 5
   simp only [List.getElem?_cons_succ, List.getElem?_cons_zero] at cl3 cl4 cl5
   have hb3w := hb3.size
   go_upto_region 5 with fail
   go_cut [] (fun wx => Row wx w2.heap.size 73 [.int .i64 xO, .int .i64 xB, .int .i64 xI, .int .i64 xK, .int .i64 xH, .int .i64 xS, .int .u32 0, .slice none 0 0] ∧ Below w2.heap.size w2 wx)
   case first =>
    go_region_held3 (fun w' => Below w2.heap.size wc w' ∧ w2.heap.size ≤ w'.heap.size)
     (first
      | exact ⟨below_drewN (Below.refl _ _) 1, hb3w⟩
      | exact ⟨below_drewN (put3 hb3w 3 4 5 _ _ _) 1, by simpa [World.setCell] using hb3w⟩
      | assumption)
     (first
      | (go_at_call 81; (with_reducible show Calls _ _ #[.slice (some ⟨bx, ox + 6, none⟩) 1 _] _ _); have hh := ‹Below w2.heap.size wc _ ∧ _›; refine (told_at (s3.below hh.1) 6 1 _ (by omega) (by omega) _ HK.out).mono ?_; rintro e w' ⟨rfl, rfl⟩)
      | (go_at_call 81; (with_reducible show Calls _ _ #[.slice (some ⟨bx, ox + 7, none⟩) 1 _] _ _); have hh := ‹Below w2.heap.size wc _ ∧ _›; refine (told_at (s3.below hh.1) 7 1 _ (by omega) (by omega) _ HH.out).mono ?_; rintro e w' ⟨rfl, rfl⟩)
      | (go_at_call 81; (with_reducible show Calls _ _ #[.slice (some ⟨bx, ox + 8, none⟩) 1 _] _ _); have hh := ‹Below w2.heap.size wc _ ∧ _›; refine (told_at (s3.below hh.1) 8 1 _ (by omega) (by omega) _ HS.out).mono ?_; rintro e w' ⟨rfl, rfl⟩))
    all_goals (go_wp2_with fail; go_meet; exact ⟨(((hr3.set 3 _).set 4 _).set 5 _).drew, hb3.trans (below_drewN (put3 hb3w 3 4 5 _ _ _) 1)⟩)
   case rest =>
   obtain ⟨hr4, hb4⟩ := hcut
   clear hb3 hr3 hl3 s3 fz3 fz4 fz5 cl3 cl4 cl5 hb3w
   have s4 := sx.below hb4
   have fz6 := hr4.frozen 6
   have cl3 := hr4.cell 3
   have cl4 := hr4.cell 4
   have cl5 := hr4.cell 5
   have cl6 := hr4.cell 6
   simp only [List.getElem?_cons_succ, List.getElem?_cons_zero] at cl3 cl4 cl5 cl6
   go_wp2_with fail
   refine (told_at s4 9 4 _ (by omega) (by omega) _ Hs.out).mono ?_
   rintro e w' ⟨rfl, rfl⟩
   go_wp2_with fail
   have hr6 := hr4.set 6 (.int .u32 (sv.toNat : Int))
   have hb6 : Below w2.heap.size w2 (w'.setCell ⟨w2.heap.size, 6, none⟩ (.int .u32 (sv.toNat : Int))) := below_put hb4 _ _ (Nat.le_refl _) hb4.size _
   clear hr4 hb4 s4 fz6 cl3 cl4 cl5 cl6
   generalize w'.setCell ⟨w2.heap.size, 6, none⟩ (.int .u32 (sv.toNat : Int)) = w6 at *
   simp only [List.set_cons_succ, List.set_cons_zero] at hr6
   have hl6 := hr6.lt
   obtain ⟨pm, hpm⟩ : ∃ b, Par.may ⟨xK, xH, xS⟩ = b := ⟨_, rfl⟩
   refine (premay_any ⟨xK, xH, xS⟩ pm w6 hpm).mono ?_
   rintro e w7 ⟨rfl, hb7⟩
   have hr7 := hr6.below hb7 hl6
   have hb67 := hb6.trans (hb7.mono hb6.size)
   have hr27 := hr2.below hb67 hlt2
   have hbw7 := hb02.trans (hb67.mono hb02.size)
   have hl7 := hr7.lt
   clear hr6 hb6 hb7 hl6
   cases pm with
   | false =>
    have hT : T = none := by rw [← HTT.out, HTif.out, HPP.out, hpm, if_neg (by simp)]
    subst hT
    clear hpm
    have z0 := hr27.cell 0
    have z1 := hr27.cell 1
    have z2 := hr27.cell 2
    have z3 := hr27.cell 3
    have z4 := hr27.cell 4
    have z5 := hr27.cell 5
    have z6 := hr27.cell 6
    have z7 := hr27.cell 7
    simp only [List.getElem?_cons_succ, List.getElem?_cons_zero] at z0 z1 z2 z3 z4 z5 z6 z7
    have y0 := hr27.frozen 0
    have y1 := hr27.frozen 1
    have y2 := hr27.frozen 2
    have y3 := hr27.frozen 3
    have y4 := hr27.frozen 4
    have y5 := hr27.frozen 5
    have y6 := hr27.frozen 6
    have y7 := hr27.frozen 7
    go_wp2_with fail
    have R8 := row8 hr27 (.int .i64 0) (.int .i64 0) (.int .i64 0) (.int .i64 0) (.int .i64 0) (.int .i64 0) (.int .u32 0) (.slice none 0 0)
    have B8 := below8 hbw7 (Nat.le_refl _) hbw7.size (.int .i64 0) (.int .i64 0) (.int .i64 0) (.int .i64 0) (.int .i64 0) (.int .i64 0) (.int .u32 0) (.slice none 0 0)
    have q0 := R8.cell 0
    have q1 := R8.cell 1
    have q2 := R8.cell 2
    have q3 := R8.cell 3
    have q4 := R8.cell 4
    have q5 := R8.cell 5
    have q6 := R8.cell 6
    have q7 := R8.cell 7
    simp only [List.getElem?_cons_succ, List.getElem?_cons_zero] at q0 q1 q2 q3 q4 q5 q6 q7
    refine bodyPost_ret (v := .tuple #[Rec.zero.val (.slice none 0 0), .bool false]) ?_ rfl ⟨.slice none 0 0, ?_, ?_, B8⟩
    ·simp [results, Tryz.results44, go_sem, q0, q1, q2, q3, q4, q5, q6, q7]
     rfl
    ·rfl
    ·exact World.ownsRow_nil _ _ _ _
   | true =>
    obtain ⟨k1, k2, k3, k4, k5, k6⟩ := Par.may_ok hpm
    dsimp only at k1 k2 k3 k4 k5 k6
    obtain ⟨sS, rfl⟩ : ∃ m : Nat, xS = (m : Int) := ⟨xS.toNat, by omega⟩
    have sl := (sx.below hb67).sub 13 sS (by omega)
    obtain ⟨dd, hdd⟩ : ∃ d, (x.drop 13).take sS = d := ⟨_, rfl⟩
    rw [hdd] at sl
    have hddl : dd.length = sS := by have := sl.len; simpa using this
    have hTif : T = if putR ⟨xO, xB, xI, ⟨xK, xH, (sS : Int)⟩, sv, dd⟩ = l then some ⟨xO, xB, xI, ⟨xK, xH, (sS : Int)⟩, sv, dd⟩ else none := by
     rw [← HTT.out, HTif.out, HPP.out, HPR.out, hpm, Int.toNat_natCast, hdd]
     by_cases hq : putR ⟨xO, xB, xI, ⟨xK, xH, (sS : Int)⟩, sv, dd⟩ = l
     ·rw [if_pos ⟨by trivial, by trivial, hq⟩, if_pos hq]
     ·rw [if_neg (fun h => hq h.2.2), if_neg hq]
    have HTi := hid hTif
    have HDL := hid hddl
    clear hTif hddl hdd hpm
    have hsum : IntKind.i64.wrap (13 + (sS : Int)) = 13 + (sS : Int) := by rw [IntKind.wrap_i64]; omega
    have hsc : 13 + sS ≤ cx := by omega
    have hsci : 13 + (sS : Int) ≤ (cx : Int) := by omega
    have cl5 := hr7.cell 5
    have cl7 := hr7.cell 7
    simp only [List.getElem?_cons_succ, List.getElem?_cons_zero] at cl5 cl7
    have fz7 := hr7.frozen 7
    go_wp2_with fail
    refine (clone_any w2.heap.size _ dd sS _ w7 sl hb67.size (by omega)).mono ?_
    rintro e w8 ⟨v8, rfl, hv8, hb8⟩
    obtain ⟨A8, c8, rfl, hc81, hc82⟩ := own_form3 hv8 HDL.out
    have hr8 := hr7.below hb8 hl7
    have hb78 := hb67.trans (hb8.mono hb67.size)
    clear hr7 hb8 cl5 cl7 fz7 sl hr27 hbw7
    have cl0 := hr8.cell 0
    have cl1 := hr8.cell 1
    have cl2 := hr8.cell 2
    have cl3 := hr8.cell 3
    have cl4 := hr8.cell 4
    have cl5 := hr8.cell 5
    have cl6 := hr8.cell 6
    have cl7 := hr8.cell 7
    simp only [List.getElem?_cons_succ, List.getElem?_cons_zero] at cl0 cl1 cl2 cl3 cl4 cl5 cl6 cl7
    have fz7 := hr8.frozen 7
    go_wp2_with fail
    have hr9 := hr8.set 7 (.slice A8 sS c8)
    have hb9 : Below w2.heap.size w2 (w8.setCell ⟨w2.heap.size, 7, none⟩ (.slice A8 sS c8)) := below_put hb78 _ _ (Nat.le_refl _) hb78.size _
    have hv9 := ob_put hv8 hl7 7 (.slice A8 sS c8)
    clear hr8 hb78 hv8 fz7 cl0 cl1 cl2 cl3 cl4 cl5 cl6 cl7
    generalize w8.setCell ⟨w2.heap.size, 7, none⟩ (.slice A8 sS c8) = w9 at *
    simp only [List.set_cons_succ, List.set_cons_zero] at hr9
    have hl9 := hr9.lt
    have s9 := ob_sl hv9 HDL.out
    refine (putrec_any w9.heap.size ⟨xO, xB, xI, ⟨xK, xH, (sS : Int)⟩, sv, dd⟩ A8 sS c8 w9 s9 (Nat.le_refl _)).mono ?_
    rintro e w10 ⟨vp, rfl, hvp, hb10⟩
    obtain ⟨pl, hpl⟩ : ∃ p, putR ⟨xO, xB, xI, ⟨xK, xH, (sS : Int)⟩, sv, dd⟩ = p := ⟨_, rfl⟩
    rw [hpl] at hvp
    have HPL := hid hpl
    clear hpl
    obtain ⟨Ap, cp, rfl, hcp1, hcp2⟩ := own_form3 hvp rfl
    have sp := ob_sl hvp rfl
    have hr10 := hr9.below hb10 hl9
    have hb210 := hb9.trans (hb10.mono hb9.size)
    have hr210 := hr2.below hb210 hlt2
    have hbw10 := hb02.trans (hb210.mono hb02.size)
    have sl10 := (hl2.below (hb210.mono (show B ≤ w2.heap.size by have := hb02.size; omega))).mono (show B ≤ w10.heap.size by have := hbw10.size; omega)
    have hv10 := OB.below hv9 hb10
    clear hr9 hb9 hb10 hv9 s9 hvp
    have hgl7 : w.heap.size < w7.heap.size := by have := hb67.size; omega
    by_cases heq : pl = l
    ·have hT : T = some ⟨xO, xB, xI, ⟨xK, xH, (sS : Int)⟩, sv, dd⟩ := by rw [HTi.out, HPL.out, if_pos heq]
     subst hT
     have HEQ := hid heq
     clear heq
     go_wp2_with fail
     refine (equal_is true w10.heap.size _ _ l pl _ _ _ _ _ sl10 sp (decide_eq_true HEQ.out.symm)).mono ?_
     rintro e w11 ⟨rfl, rfl⟩
     have cl0 := hr10.cell 0
     have cl1 := hr10.cell 1
     have cl2 := hr10.cell 2
     have cl3 := hr10.cell 3
     have cl4 := hr10.cell 4
     have cl5 := hr10.cell 5
     have cl6 := hr10.cell 6
     have cl7 := hr10.cell 7
     simp only [List.getElem?_cons_succ, List.getElem?_cons_zero] at cl0 cl1 cl2 cl3 cl4 cl5 cl6 cl7
     have z0 := hr210.cell 0
     have z1 := hr210.cell 1
     have z2 := hr210.cell 2
     have z3 := hr210.cell 3
     have z4 := hr210.cell 4
     have z5 := hr210.cell 5
     have z6 := hr210.cell 6
     have z7 := hr210.cell 7
     simp only [List.getElem?_cons_succ, List.getElem?_cons_zero] at z0 z1 z2 z3 z4 z5 z6 z7
     have y0 := hr210.frozen 0
     have y1 := hr210.frozen 1
     have y2 := hr210.frozen 2
     have y3 := hr210.frozen 3
     have y4 := hr210.frozen 4
     have y5 := hr210.frozen 5
     have y6 := hr210.frozen 6
     have y7 := hr210.frozen 7
     go_wp2_with fail
     have R8 := row8 hr210 (.int .i64 xO) (.int .i64 xB) (.int .i64 xI) (.int .i64 xK) (.int .i64 xH) (.int .i64 (sS : Int)) (.int .u32 (sv.toNat : Int)) (.slice A8 sS c8)
     have B8 := below8 hbw10 (Nat.le_refl _) hbw10.size (.int .i64 xO) (.int .i64 xB) (.int .i64 xI) (.int .i64 xK) (.int .i64 xH) (.int .i64 (sS : Int)) (.int .u32 (sv.toNat : Int)) (.slice A8 sS c8)
     have q0 := R8.cell 0
     have q1 := R8.cell 1
     have q2 := R8.cell 2
     have q3 := R8.cell 3
     have q4 := R8.cell 4
     have q5 := R8.cell 5
     have q6 := R8.cell 6
     have q7 := R8.cell 7
     simp only [List.getElem?_cons_succ, List.getElem?_cons_zero] at q0 q1 q2 q3 q4 q5 q6 q7
     refine bodyPost_ret (v := .tuple #[Rec.val ⟨xO, xB, xI, ⟨xK, xH, (sS : Int)⟩, sv, dd⟩ (.slice A8 sS c8), .bool true]) ?_ rfl ⟨.slice A8 sS c8, ?_, ?_, B8⟩
     ·simp [results, Tryz.results44, go_sem, q0, q1, q2, q3, q4, q5, q6, q7]
      rfl
     ·rfl
     ·exact own_base (ob8 hv10 hgl7 (.int .i64 xO) (.int .i64 xB) (.int .i64 xI) (.int .i64 xK) (.int .i64 xH) (.int .i64 (sS : Int)) (.int .u32 (sv.toNat : Int)) (.slice A8 sS c8)) (by omega)
    ·have hT : T = none := by rw [HTi.out, HPL.out, if_neg heq]
     subst hT
     have HEQ := hid heq
     clear heq
     go_wp2_with fail
     refine (equal_is false w10.heap.size _ _ l pl _ _ _ _ _ sl10 sp (decide_eq_false (fun e => HEQ.out e.symm))).mono ?_
     rintro e w11 ⟨rfl, rfl⟩
     have z0 := hr210.cell 0
     have z1 := hr210.cell 1
     have z2 := hr210.cell 2
     have z3 := hr210.cell 3
     have z4 := hr210.cell 4
     have z5 := hr210.cell 5
     have z6 := hr210.cell 6
     have z7 := hr210.cell 7
     simp only [List.getElem?_cons_succ, List.getElem?_cons_zero] at z0 z1 z2 z3 z4 z5 z6 z7
     have y0 := hr210.frozen 0
     have y1 := hr210.frozen 1
     have y2 := hr210.frozen 2
     have y3 := hr210.frozen 3
     have y4 := hr210.frozen 4
     have y5 := hr210.frozen 5
     have y6 := hr210.frozen 6
     have y7 := hr210.frozen 7
     go_wp2_with fail
     have R8 := row8 hr210 (.int .i64 0) (.int .i64 0) (.int .i64 0) (.int .i64 0) (.int .i64 0) (.int .i64 0) (.int .u32 0) (.slice none 0 0)
     have B8 := below8 hbw10 (Nat.le_refl _) hbw10.size (.int .i64 0) (.int .i64 0) (.int .i64 0) (.int .i64 0) (.int .i64 0) (.int .i64 0) (.int .u32 0) (.slice none 0 0)
     have q0 := R8.cell 0
     have q1 := R8.cell 1
     have q2 := R8.cell 2
     have q3 := R8.cell 3
     have q4 := R8.cell 4
     have q5 := R8.cell 5
     have q6 := R8.cell 6
     have q7 := R8.cell 7
     simp only [List.getElem?_cons_succ, List.getElem?_cons_zero] at q0 q1 q2 q3 q4 q5 q6 q7
     refine bodyPost_ret (v := .tuple #[Rec.zero.val (.slice none 0 0), .bool false]) ?_ rfl ⟨.slice none 0 0, ?_, ?_, B8⟩
     ·simp [results, Tryz.results44, go_sem, q0, q1, q2, q3, q4, q5, q6, q7]
      rfl
     ·rfl
     ·exact World.ownsRow_nil _ _ _ _
end Go.Proofs.YtnknjeipfjdjoaaGreatDoor
