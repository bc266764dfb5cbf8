/- The document's Spoil. -/
import Derived.Test.YtcklnkilldeamaaRDrvCrash
namespace Go.Proofs.Ytcklnkilldeamaa
open Go.RowKit Wells
theorem RDrv.setElem {F : Nat → Prop} {w : World} {g pg gl nl cl i : Nat} {bv xv : Value} {lvs bvs : List Value} {d : Dr} {y : List Byte} (h : RDrv F w g pg (.slice (some ⟨gl, 0, none⟩) nl cl) lvs bv bvs d) (hnl : d.L.length = nl) (hi : i < nl) (hx : OB 0 w xv y) (hxF : In xv F) :
    RDrv F (w.setCell ⟨gl, i, none⟩ xv) g pg (.slice (some ⟨gl, 0, none⟩) nl cl) (lvs.set i xv) bv bvs { d with L := d.L.set i y } ∧ F gl ∧ w.frozen? ⟨gl, i, none⟩ = false := by
  have hll := h.l.len
  have ho := h.l.own.own
  rw [hnl] at ho
  obtain ⟨gl', cl', curl, el, _, hrl, hcl1, hcl2, _, _⟩ := ownrow_ ho (by omega)
  injection el with el _ el2
  injection el with el
  injection el with el _ _
  subst el
  have hoO : Only (fun q => q = gl) w (w.setCell ⟨gl, i, none⟩ xv) := Only.set (F := fun q => q = gl) (Only.refl _ w) (show gl = gl from rfl) i _
  have hfl : F gl := h.l.iv gl rfl
  have hox : OB 0 (w.setCell ⟨gl, i, none⟩ xv) xv y := own_only hx hoO (fun q hq e => own_row_ne hx hrl (by decide) q hq e)
  refine ⟨⟨h.row.far (p := ⟨gl, i, none⟩) (row_ne h.row hrl (by decide)) _, h.pow.far (p := ⟨gl, i, none⟩) (row_ne h.pow hrl (by decide)) _, h.fg, h.fp, fun q hq => by simpa [World.setCell] using h.lt q hq, ⟨⟨?_, fun j hj => ?_⟩, h.l.iv, fun z hz => ?_⟩, ⟨h.b.own.only hoO (fun q hq e => h.sep q (by rw [e]; rfl) hq) (fun z hz q hq e => ?_), h.b.iv, h.b.is⟩, h.sep⟩, hfl, hrl.frozen i⟩
  · rw [List.length_set, hnl]
    exact ownset_ ho (by omega) xv
  · rw [List.length_set] at hj
    rw [getD_setL (by omega), getD_setL (by omega)]
    split
    · exact hox
    · exact own_only (h.l.own.at_ j hj) hoO (fun q hq e => own_row_ne (h.l.own.at_ j hj) hrl (by decide) q hq e)
  · rcases List.mem_or_eq_of_mem_set hz with h1 | rfl
    · exact h.l.is z h1
    · exact hxF
  · obtain ⟨l', hl'⟩ := h.b.own.elem hz
    exact own_row_ne hl' hrl (by decide) q hq e
theorem own_drewx {base size n : Nat} {w : World} {e : TypeId} {v : Value} {xs : List Value} (h : w.ownsRow base e size v n xs) : w.drew.ownsRow base e size v n xs := h
set_option maxRecDepth 20000 in
set_option maxHeartbeats 4000000 in
theorem rspoil_any (F : Nat → Prop) (g pg : Nat) (d : Dr) (m : Nat) (i a mk : Int) (w : World) (h : RDrvE F w g pg d) (hok : DOk m d) (hi : -9223372036854775808 ≤ i ∧ i ≤ 9223372036854775807) (ha : -9223372036854775808 ≤ a ∧ a ≤ 9223372036854775807) (hm : 0 ≤ mk ∧ mk ≤ 4294967295) :
    Calls Try.prog 31 #[.pointer (some ⟨g, 0, none⟩), .int .i64 i, .int .i64 a, .int .u32 mk] w fun e w' => e = .returned (.bool (d.spoil i a mk).2) ∧ RDrvE (Ext F w w') w' g pg (d.spoil i a mk).1 ∧ Only F w w' := by
  obtain ⟨lv, lvs, bv, bvs, h⟩ := h
  obtain ⟨Al, cl, rfl, hlc, hlc2⟩ := h.l.own.form
  have c2 : w.cell? ⟨g, 2, none⟩ = some (.slice Al d.L.length cl) := h.row.cell 2
  have hll := hok.len
  have hrm := hok.room
  obtain ⟨S, hS⟩ : ∃ S, d.spoil i a mk = S := ⟨_, rfl⟩
  rw [hS]
  have HS := hid hS
  clear hS
  by_cases h1 : i < 0
  · have hs : S = (d, false) := by rw [← HS.out]; exact if_neg (by omega)
    subst hs
    go_enter Try.func31, Try.ntmps31
    go_wp2_with fail
    go_ret
    exact ⟨rfl, ⟨_, _, _, _, h.ext_⟩, Only.refl _ _⟩
  by_cases h2 : (d.L.length : Int) ≤ i
  · have hs : S = (d, false) := by rw [← HS.out]; exact if_neg (by omega)
    subst hs
    go_enter Try.func31, Try.ntmps31
    go_wp2_with fail
    go_ret
    exact ⟨rfl, ⟨_, _, _, _, h.ext_⟩, Only.refl _ _⟩
  by_cases h3 : a < 0
  · have hs : S = (d, false) := by rw [← HS.out]; exact if_neg (by omega)
    subst hs
    go_enter Try.func31, Try.ntmps31
    go_wp2_with fail
    go_ret
    exact ⟨rfl, ⟨_, _, _, _, h.ext_⟩, Only.refl _ _⟩
  by_cases h4 : 60 < a
  · have hs : S = (d, false) := by rw [← HS.out]; exact if_neg (by omega)
    subst hs
    go_enter Try.func31, Try.ntmps31
    go_wp2_with fail
    go_ret
    exact ⟨rfl, ⟨_, _, _, _, h.ext_⟩, Only.refl _ _⟩
  by_cases h5 : mk = 0
  · have hs : S = (d, false) := by rw [← HS.out]; exact if_neg (by omega)
    subst hs h5
    go_enter Try.func31, Try.ntmps31
    go_wp2_with fail
    go_ret
    exact ⟨rfl, ⟨_, _, _, _, h.ext_⟩, Only.refl _ _⟩
  obtain ⟨i, rfl⟩ : ∃ k : Nat, i = (k : Int) := ⟨i.toNat, by omega⟩
  obtain ⟨a, rfl⟩ : ∃ k : Nat, a = (k : Int) := ⟨a.toNat, by omega⟩
  obtain ⟨q, rfl⟩ : ∃ k : Nat, mk = (k : Int) := ⟨mk.toNat, by omega⟩
  have hs : S = ({ d with L := d.L.set i (spoilL (d.L.getD i []) a q 4) }, true) := by rw [← HS.out]; exact if_pos (by omega)
  subst hs
  obtain ⟨nl, hnl⟩ : ∃ k, d.L.length = k := ⟨_, rfl⟩
  rw [hnl] at h c2 hlc h2
  have HNL := hid hnl
  have hi0 : i < nl := by omega
  have hx64 : (d.L.getD i []).length = 64 := by
    rw [List.getD_eq_getElem?_getD, List.getElem?_eq_getElem (by omega)]
    exact hok.cells _ (List.getElem_mem _)
  obtain ⟨b0, o0, A1, c1, rfl, hb, hce, hl1, hc1, sl1⟩ := (h.l.own.read hnl).get hi0
  obtain ⟨x, hx⟩ : ∃ x, d.L.getD i [] = x := ⟨_, rfl⟩
  rw [hx] at hx64 hce hl1 sl1
  rw [hx64] at hce hl1 sl1
  have HX := hid hx
  have HX64 := hid hx64
  have ho := h.l.own.own
  rw [hnl] at ho
  obtain ⟨gl, cl', curl, el, _, hrl, _, _, _, _⟩ := ownrow_ ho (by omega)
  injection el with el _ el2
  injection el with el
  injection el with e1 e2 _
  clear el2 hrl ho
  subst e1
  subst e2
  rw [Nat.zero_add] at hce
  have HH := hid h
  have HSL := hid sl1
  obtain ⟨iB, hiB, hzB0, hzB1, hzB2⟩ := info_parts infoB
  clear h HS hx hx64 hnl sl1
  go_enter Try.func31, Try.ntmps31
  go_upto_region 4 with (at_builtin; go_must (refine wpl_append rfl (.const (.slice none 0 0)) (.tmp 40) 28 rfl w.heap.size 5 iB (.int .u8 0) 1 1 Try.underlying28 hiB hzB0 hzB1 hzB2 rfl (by omega) _ 0 [] rfl (World.ownsRow_nil _ _ _ _) w.heap.size A1 64 c1 (x.map bv8) rfl HSL.out (u8s_cell _) 64 (by omega) (x.map bv8) rfl (by omega) (by omega) (Nat.le_refl _) ?_); intro A2 c2x w2 o2 g2 _)
  have hb2 : Below w.heap.size w w2 := (Below.refl _ _).grown g2 (Nat.le_refl _) (fun k hk => by cases hk)
  obtain ⟨gx, c2y, cur, ex, hgx, hrx, hcx, hctx, hncx, hcmx⟩ := ownrow_ o2 (by omega)
  injection ex with ex _ ex2
  subst ex ex2
  have HO2 := hid o2
  have HB2 := hid hb2
  clear o2 g2 hb2 hrx hcx hctx hncx hcmx c2 hce
  go_wp2_with fail
  go_loopw [10] (fun kv wr => ∃ j : Nat, j ≤ 4 ∧ kv = .int .i64 (j : Int) ∧ wr.ownsRow w.heap.size 5 1 (.slice (some ⟨gx, 0, none⟩) 64 c2x) 64 ((spoilL x a q j).map bv8) ∧ Below w.heap.size w wr) (fun k _ => 4 - (intOf k).toNat)
  case atStart => exact ⟨0, by omega, rfl, HO2.out, HB2.out⟩
  case round =>
    clear HO2 HB2
    obtain ⟨j, hj, rfl, hox, hbw⟩ := hrel
    by_cases hlt : j < 4
    · have hj4 : (j : Int) < 4 := by omega
      have hxl : (spoilL x a q j).length = 64 := by rw [spoilL_len]; exact HX64.out
      obtain ⟨gx', c', cur, ex, _, hrx, _, hctx, _, _⟩ := ownrow_ hox (by omega)
      injection ex with ex _ ex2
      injection ex with ex
      injection ex with ex _ _
      subst ex
      clear ex2
      have kb : wr.cell? ⟨gx, a + j, none⟩ = some (.int .u8 (((spoilL x a q j).getD (a + j) 0).toNat : Int)) := by
        rw [hrx.cell, ← List.getElem?_take_of_lt (show a + j < 64 * 1 by omega), hctx, List.getElem?_map, List.getD_eq_getElem?_getD, List.getElem?_eq_getElem (by omega)]
        rfl
      have fb := hrx.frozen (a + j)
      have hset := ownset_ (i := a + j) hox (by omega) (bv8 ((spoilL x a q j).getD (a + j) 0 ^^^ spoilB q j))
      rw [← List.map_set] at hset
      have HSET := hid (show (wr.setCell ⟨gx, a + j, none⟩ (bv8 ((spoilL x a q j).getD (a + j) 0 ^^^ spoilB q j))).ownsRow w.heap.size 5 1 (.slice (some ⟨gx, 0, none⟩) 64 c2x) 64 ((spoilL x a q (j + 1)).map bv8) from hset)
      have HBW := hid (hbw.setCell (p := (⟨gx, a + j, none⟩ : Addr)) hgx (bv8 ((spoilL x a q j).getD (a + j) 0 ^^^ spoilB q j)))
      clear hset hox hbw hrx hctx hxl
      generalize (spoilL x a q j).getD (a + j) 0 = b at *
      obtain ⟨sb, hsb⟩ : ∃ sb, spoilB q j = sb := ⟨_, rfl⟩
      rw [hsb] at HSET HBW
      have HSB := hid hsb
      clear hsb
      obtain ⟨z, hz⟩ : ∃ z, a + j = z := ⟨_, rfl⟩
      obtain ⟨s, hs⟩ : ∃ s, 8 * j = s := ⟨_, rfl⟩
      rw [hz] at kb fb HSET HBW
      have e49 : IntKind.i64.wrap ((a : Int) + (j : Int)) = (z : Int) := by rw [IntKind.wrap_i64]; omega
      have e54 : IntKind.i64.wrap (8 * (j : Int)) = (s : Int) := by rw [IntKind.wrap_i64]; omega
      have b49 : (z : Int) < 64 := by omega
      have e57 : bits .xor .u8 (b.toNat : Int) ((q : Int) / 2 ^ min s 32 % 256) = ((b ^^^ sb).toNat : Int) := by
        rw [show min s 32 = s by omega, ← x8s b sb, ← HSB.out]
        unfold spoilB
        rw [BitVec.toNat_ofNat, hs]
        have e : (q : Int) / 2 ^ s = ((q / 2 ^ s : Nat) : Int) := by simp
        rw [e]
        rfl
      have HE57 := hid e57
      have HE58 := hid (show bits .xor .u8 (b.toNat : Int) (IntKind.u8.wrap ((q : Int) / 2 ^ min s 32)) = ((b ^^^ sb).toNat : Int) by rw [IntKind.wrap_u8]; exact e57)
      clear hz hs e57
      go_wp2_with fail
      refine Org.begin [17] (fun w' => w'.cell? ⟨gx, z, none⟩ = some (.int .u8 (b.toNat : Int))) [0, 1, 2, 3, 4, 5, 6, 7, 8, 9, 10, 11, 12, 13, 14, 15, 16, 17] (by kernel_rfl) (kb) (fun hS => ?_)
      (refine Org.yes (v := ?_) rfl (by kernel_rfl) (by kernel_rfl) (by kernel_rfl) (by kernel_rfl) (by kernel_rfl) (fun _ _ _ h => h) (by kernel_rfl) (SM.of hS) ?_ ?_; rotate_left; (focus (intro w hSw; (try dsimp only at hSw); refine Pure.val ?_; go_simp; (try with_reducible rfl); done)); try simp only [Act.put, List.setIfInBounds_toArray, List.set_cons_zero, List.set_cons_succ])
      (refine Org.yes (v := ?_) rfl (by kernel_rfl) (by kernel_rfl) (by kernel_rfl) (by kernel_rfl) (by kernel_rfl) (fun _ _ _ h => h) (by kernel_rfl) (SM.of hS) ?_ ?_; rotate_left; (focus (intro w hSw; (try dsimp only at hSw); refine Pure.val ?_; go_simp; (try with_reducible rfl); done)); try simp only [Act.put, List.setIfInBounds_toArray, List.set_cons_zero, List.set_cons_succ])
      (refine Org.yes (v := ?_) rfl (by kernel_rfl) (by kernel_rfl) (by kernel_rfl) (by kernel_rfl) (by kernel_rfl) (fun _ _ _ h => h) (by kernel_rfl) (SM.of hS) ?_ ?_; rotate_left; (focus (intro w hSw; (try dsimp only at hSw); refine Pure.val ?_; go_simp; (try with_reducible rfl); done)); try simp only [Act.put, List.setIfInBounds_toArray, List.set_cons_zero, List.set_cons_succ])
      (refine Org.yes (v := ?_) rfl (by kernel_rfl) (by kernel_rfl) (by kernel_rfl) (by kernel_rfl) (by kernel_rfl) (fun _ _ _ h => h) (by kernel_rfl) (SM.of hS) ?_ ?_; rotate_left; (focus (intro w hSw; (try dsimp only at hSw); refine Pure.val ?_; go_simp; (try with_reducible rfl); done)); try simp only [Act.put, List.setIfInBounds_toArray, List.set_cons_zero, List.set_cons_succ])
      (refine Org.yes (v := ?_) rfl (by kernel_rfl) (by kernel_rfl) (by kernel_rfl) (by kernel_rfl) (by kernel_rfl) (fun _ _ _ h => h) (by kernel_rfl) (SM.of hS) ?_ ?_; rotate_left; (focus (intro w hSw; (try dsimp only at hSw); refine Pure.val ?_; go_simp; (try with_reducible rfl); done)); try simp only [Act.put, List.setIfInBounds_toArray, List.set_cons_zero, List.set_cons_succ])
      (refine Org.yes (v := ?_) rfl (by kernel_rfl) (by kernel_rfl) (by kernel_rfl) (by kernel_rfl) (by kernel_rfl) (fun _ _ _ h => h) (by kernel_rfl) (SM.of hS) ?_ ?_; rotate_left; (focus (intro w hSw; (try dsimp only at hSw); refine Pure.val ?_; go_simp; (try with_reducible rfl); done)); try simp only [Act.put, List.setIfInBounds_toArray, List.set_cons_zero, List.set_cons_succ])
      (refine Org.yes (v := ?_) rfl (by kernel_rfl) (by kernel_rfl) (by kernel_rfl) (by kernel_rfl) (by kernel_rfl) (fun _ _ _ h => h) (by kernel_rfl) (SM.of hS) ?_ ?_; rotate_left; (focus (intro w hSw; (try dsimp only at hSw); refine Pure.val ?_; go_simp; (try with_reducible rfl); done)); try simp only [Act.put, List.setIfInBounds_toArray, List.set_cons_zero, List.set_cons_succ])
      (refine Org.yes (v := ?_) rfl (by kernel_rfl) (by kernel_rfl) (by kernel_rfl) (by kernel_rfl) (by kernel_rfl) (fun _ _ _ h => h) (by kernel_rfl) (SM.of hS) ?_ ?_; rotate_left; (focus (intro w hSw; (try dsimp only at hSw); refine Pure.val ?_; go_simp; (try with_reducible rfl); done)); try simp only [Act.put, List.setIfInBounds_toArray, List.set_cons_zero, List.set_cons_succ])
      (refine Org.yes (v := ?_) rfl (by kernel_rfl) (by kernel_rfl) (by kernel_rfl) (by kernel_rfl) (by kernel_rfl) (fun _ _ _ h => h) (by kernel_rfl) (SM.of hS) ?_ ?_; rotate_left; (focus (intro w hSw; (try dsimp only at hSw); refine Pure.val ?_; go_simp; (try with_reducible rfl); done)); try simp only [Act.put, List.setIfInBounds_toArray, List.set_cons_zero, List.set_cons_succ])
      (refine Org.yes (v := ?_) rfl (by kernel_rfl) (by kernel_rfl) (by kernel_rfl) (by kernel_rfl) (by kernel_rfl) (fun _ _ _ h => h) (by kernel_rfl) (SM.of hS) ?_ ?_; rotate_left; (focus (intro w hSw; (try dsimp only at hSw); have q2 := hSw; refine Pure.val ?_; go_simp; (try with_reducible rfl); done)); try simp only [Act.put, List.setIfInBounds_toArray, List.set_cons_zero, List.set_cons_succ])
      (refine Org.yes (v := ?_) rfl (by kernel_rfl) (by kernel_rfl) (by kernel_rfl) (by kernel_rfl) (by kernel_rfl) (fun _ _ _ h => h) (by kernel_rfl) (SM.of hS) ?_ ?_; rotate_left; (focus (intro w hSw; (try dsimp only at hSw); refine Pure.val ?_; go_simp; (try with_reducible rfl); done)); try simp only [Act.put, List.setIfInBounds_toArray, List.set_cons_zero, List.set_cons_succ])
      (refine Org.yes (v := ?_) rfl (by kernel_rfl) (by kernel_rfl) (by kernel_rfl) (by kernel_rfl) (by kernel_rfl) (fun _ _ _ h => h) (by kernel_rfl) (SM.of hS) ?_ ?_; rotate_left; (focus (intro w hSw; (try dsimp only at hSw); refine Pure.val ?_; go_simp; (try with_reducible rfl); done)); try simp only [Act.put, List.setIfInBounds_toArray, List.set_cons_zero, List.set_cons_succ])
      (refine Org.yes (v := ?_) rfl (by kernel_rfl) (by kernel_rfl) (by kernel_rfl) (by kernel_rfl) (by kernel_rfl) (fun _ _ _ h => h) (by kernel_rfl) (SM.of hS) ?_ ?_; rotate_left; (focus (intro w hSw; (try dsimp only at hSw); refine Pure.val ?_; go_simp; (try with_reducible rfl); done)); try simp only [Act.put, List.setIfInBounds_toArray, List.set_cons_zero, List.set_cons_succ])
      (refine Org.yes (v := ?_) rfl (by kernel_rfl) (by kernel_rfl) (by kernel_rfl) (by kernel_rfl) (by kernel_rfl) (fun _ _ _ h => h) (by kernel_rfl) (SM.of hS) ?_ ?_; rotate_left; (focus (intro w hSw; (try dsimp only at hSw); refine Pure.val ?_; go_simp; (try with_reducible rfl); done)); try simp only [Act.put, List.setIfInBounds_toArray, List.set_cons_zero, List.set_cons_succ])
      (refine Org.yes (v := ?_) rfl (by kernel_rfl) (by kernel_rfl) (by kernel_rfl) (by kernel_rfl) (by kernel_rfl) (fun _ _ _ h => h) (by kernel_rfl) (SM.of hS) ?_ ?_; rotate_left; (focus (intro w hSw; (try dsimp only at hSw); refine Pure.val ?_; go_simp; (try with_reducible rfl); done)); try simp only [Act.put, List.setIfInBounds_toArray, List.set_cons_zero, List.set_cons_succ])
      (refine Org.yes (v := ?_) rfl (by kernel_rfl) (by kernel_rfl) (by kernel_rfl) (by kernel_rfl) (by kernel_rfl) (fun _ _ _ h => h) (by kernel_rfl) (SM.of hS) ?_ ?_; rotate_left; (focus (intro w hSw; (try dsimp only at hSw); refine Pure.val ?_; go_simp; (try with_reducible rfl); done)); try simp only [Act.put, List.setIfInBounds_toArray, List.set_cons_zero, List.set_cons_succ])
      (refine Org.yes (v := ?_) rfl (by kernel_rfl) (by kernel_rfl) (by kernel_rfl) (by kernel_rfl) (by kernel_rfl) (fun _ _ _ h => h) (by kernel_rfl) (SM.of hS) ?_ ?_; rotate_left; (focus (intro w hSw; (try dsimp only at hSw); refine Pure.val ?_; go_simp; (try with_reducible rfl); done)); try simp only [Act.put, List.setIfInBounds_toArray, List.set_cons_zero, List.set_cons_succ])
      refine Org.mark (p := 17) rfl (by kernel_rfl) (by kernel_rfl) (by kernel_rfl) (by kernel_rfl) (fun K hK => ?_)
      have k8 := hS
      go_simp
      refine hK.out _ _ ?_
      clear k8
      clear hK K hS
      try simp only [Act.put, List.setIfInBounds_toArray, List.set_cons_zero, List.set_cons_succ]
      refine Org.done (by kernel_rfl) ?_
      go_wp2_with fail
      go_roundw
      case rel =>
        refine ⟨j + 1, by omega, by go_num, ?_, ?_⟩
        · first | rw [HE57.out] | rw [HE58.out]
          exact own_drewx HSET.out
        · first | rw [HE57.out] | rw [HE58.out]
          exact below_drew' HBW.out
      case measure => simp [intOf]; omega
    · obtain rfl : j = 4 := by omega
      have h4w := HH.out.grow hbw
      have hxb : OB 0 wr (.slice (some ⟨gx, 0, none⟩) 64 c2x) (spoilL x a q 4) := by
        unfold OB
        rw [spoilL_len, HX64.out]
        exact own_base hox (Nat.zero_le _)
      obtain ⟨hE, hFl, fz⟩ := h4w.setElem HNL.out hi0 hxb (fun k hk => .inr (own_lt hox k hk))
      have k2 : wr.cell? ⟨g, 2, none⟩ = some (.slice (some ⟨b0, 0, none⟩) nl cl) := h4w.row.cell 2
      have kl : ∃ u, wr.cell? ⟨b0, i, none⟩ = some u := by
        obtain ⟨b9, o9, A9, c9, e9, _, h9, _⟩ := (h4w.l.own.read HNL.out).get hi0
        injection e9 with e9
        injection e9 with e9 e10 _
        subst e9
        subst e10
        rw [Nat.zero_add] at h9
        exact ⟨_, h9⟩
      obtain ⟨u, kl⟩ := kl
      have hz : (wr.setCell ⟨b0, i, none⟩ (.slice (some ⟨gx, 0, none⟩) 64 c2x)).heap.size = wr.heap.size := by simp [World.setCell]
      have HFl := hid (HH.out.l.iv b0 rfl)
      have hO : Only F w (wr.setCell ⟨b0, i, none⟩ (.slice (some ⟨gx, 0, none⟩) 64 c2x)) := (Only.of_new (F := F) hbw).set HFl.out i _
      have HE := hid (hE.more (G := Ext F w (wr.setCell ⟨b0, i, none⟩ (.slice (some ⟨gx, 0, none⟩) 64 c2x))) (fun k hk => by rcases hk with hk | hk; exact .inl hk; exact .inr ⟨hk.1, by rw [hz]; exact hk.2⟩) (fun k hk => by
        rcases hk with hk | hk
        · rw [hz]; exact Nat.lt_of_lt_of_le (HH.out.lt k hk) hbw.size
        · exact hk.2))
      have HO := hid hO
      clear hE hFl hO hz h4w hxb hox hbw
      go_wp2_with fail
      go_ret
      have hE2 := HE.out
      rw [← HX.out] at hE2
      exact ⟨rfl, ⟨_, _, _, _, hE2⟩, HO.out⟩
end Go.Proofs.Ytcklnkilldeamaa
