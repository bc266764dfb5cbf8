/- DriveWhole. -/
import Derived.Test.YtcklnkilldeamaaBes
namespace Wells
open Go Go.RowKit
def wd (s : Pw) (L : List (List Byte)) (wt : Nat) (B : List (List Byte)) (has : Bool) : Dr := ⟨s, 12, L, wt, B, has, false⟩
theorem wd_app {L : List (List Byte)} {wt : Nat} {c : List Byte} (hc : c.length = 64) (hl : L.length < 12) : (wd Pw.new L wt [] false).append c = (wd Pw.new (L ++ [c]) (wt + 1) [] false, 0) := by
  unfold Dr.append
  rw [if_neg (by rw [hc]; simp), if_neg (by simp [wd]), if_neg (by simp [wd]; omega), if_neg (by simp [wd, Pw.new]), if_pos (by rfl)]
  rfl
theorem wd_sync {L : List (List Byte)} {wt : Nat} : (wd Pw.new L wt [] false).sync = (wd Pw.new L 0 [] false, 0) := rfl
theorem wd_ok {m : Nat} {s : Pw} {L B : List (List Byte)} {wt : Nat} {has : Bool} (hs : (0 ≤ s.left ∧ s.left ≤ 9223372036854775807) ∧ 0 ≤ s.offs ∧ s.offs ≤ m) (hl : L.length ≤ 12) (hb : B.length ≤ 12) (hw : wt ≤ L.length) (hc : ∀ x ∈ L, x.length = 64) (hcb : ∀ x ∈ B, x.length = 64) : DOk m (wd s L wt B has) :=
  ⟨⟨by show (1:Nat) ≤ 12; omega, by show (12:Nat) ≤ 512; omega⟩, hl, hb, hw, hc, hcb, hs.1, hs.2⟩
theorem new_ok : (0 ≤ Pw.new.left ∧ Pw.new.left ≤ 9223372036854775807) ∧ 0 ≤ Pw.new.offs ∧ Pw.new.offs ≤ ((0 : Nat) : Int) := ⟨⟨Int.le_refl _, by show (0 : Int) ≤ 9223372036854775807; omega⟩, Int.le_refl _, Int.le_refl _⟩
theorem wd_rew1 {L l : List (List Byte)} (h : l.length ≤ 12) : (wd ⟨false, true, 1, 0⟩ L 0 [] false).rewrite l = (wd ⟨false, true, 0, 0⟩ l 0 [] false, 0) := by
  unfold Dr.rewrite
  rw [if_neg (by simp [wd]), if_neg (by simp [wd]; omega), if_neg (by simp [wd]), if_pos (by rfl)]
  rfl
theorem wd_rew0 {L l : List (List Byte)} (h : l.length ≤ 12) : (wd ⟨false, true, 0, 0⟩ L 0 [] false).rewrite l = (wd ⟨true, true, 0, 1⟩ L 0 l true, 14) := by
  unfold Dr.rewrite
  rw [if_neg (by simp [wd]), if_neg (by simp [wd]; omega), if_neg (by simp [wd]), if_neg (by simp [wd, Pw.goes])]
  rfl
theorem wd_crash1 {s : Pw} {L : List (List Byte)} {k t : Int} : (wd s L 0 [] false).crash k t = wd s L 0 [] false := by
  unfold Dr.crash Dr.fallen
  simp [wd]
theorem wd_crash2 {s : Pw} {L B : List (List Byte)} {k t : Int} (h : 0 < k) : (wd s L 0 B true).crash k t = wd s B 0 [] false := by
  unfold Dr.crash Dr.fallen
  simp [wd, h]
theorem wd_crash3 {s : Pw} {L B : List (List Byte)} {k t : Int} (h : ¬ 0 < k) : (wd s L 0 B true).crash k t = wd s L 0 [] false := by
  unfold Dr.crash Dr.fallen
  simp [wd, h]
end Wells
namespace Go.Proofs.Ytcklnkilldeamaa
open Go.RowKit Wells
theorem DrvE.lt_ {F : Nat → Prop} {w : World} {g pg : Nat} {d : Dr} (h : DrvE F w g pg d) : ∀ k, F k → k < w.heap.size := by obtain ⟨_, _, _, _, h⟩ := h; exact h.lt
theorem DrvE.pow_ {F : Nat → Prop} {w : World} {g pg : Nat} {d : Dr} (h : DrvE F w g pg d) : Row w pg 58 (pw d.s) ∧ F pg := by obtain ⟨_, _, _, _, h⟩ := h; exact ⟨h.pow, h.fp⟩
theorem DrvE.power_ {F : Nat → Prop} {w w' : World} {g pg : Nat} {d : Dr} {s' : Pw} (h : DrvE F w g pg d) (hr : Row w' pg 58 (pw s')) (hg : w.grownBy w' (some pg)) : DrvE F w' g pg { d with s := s' } ∧ Only F w w' := by
  obtain ⟨_, _, _, _, h⟩ := h
  exact ⟨⟨_, _, _, _, h.power hr hg⟩, Only.of_grown hg (fun k e => by injection e with e; rw [← e]; exact h.fp)⟩
/-- lists of one's own, made behind a drive -/
theorem Bes.of_own {G : Nat} {base : Nat} {F : Nat → Prop} {w : World} {v : Value} {vs : List Value} {ls : List (List Byte)} (h : OBs G w v vs ls) (hF : ∀ k, F k → k < G) (hb : base ≤ G) : Bes base F w v ls :=
  ⟨fun k => G ≤ k ∧ k < w.heap.size, vs, ⟨h.base (Nat.zero_le _), fun k hk => own_lt h.own k hk, fun x hx k hk => h.lt x hx k hk⟩, fun k hk => ⟨fun hf => by have := hF k hf; omega, by omega, hk.2⟩⟩
set_option maxRecDepth 20000 in
set_option maxHeartbeats 8000000 in
theorem walk_DriveWhole (old nn x fuse keep torn : Int) (w : World) (h1 : -9223372036854775808 ≤ old ∧ old ≤ 9223372036854775807) (h2 : -9223372036854775808 ≤ nn ∧ nn ≤ 9223372036854775807) (h3 : -9223372036854775808 ≤ x ∧ x ≤ 9223372036854775807) (h4 : -9223372036854775808 ≤ fuse ∧ fuse ≤ 9223372036854775807) (h5 : -9223372036854775808 ≤ keep ∧ keep ≤ 9223372036854775807) (h6 : -9223372036854775808 ≤ torn ∧ torn ≤ 9223372036854775807) :
    Calls Try.prog 4 #[.int .i64 old, .int .i64 nn, .int .i64 x, .int .i64 fuse, .int .i64 keep, .int .i64 torn] w fun e w' => e = .returned (.bool true) ∧ Below w.heap.size w w' := by
  obtain ⟨p, hp⟩ : ∃ k : Nat, (k : Int) = old % 9 := ⟨(old % 9).toNat, by omega⟩
  obtain ⟨q, hq⟩ : ∃ k : Nat, (k : Int) = nn % 9 := ⟨(nn % 9).toNat, by omega⟩
  obtain ⟨kp, hkp⟩ : ∃ k : Int, keep % 5 - 2 = k := ⟨_, rfl⟩
  obtain ⟨f, hf⟩ : ∃ k : Int, fuse % 2 = k := ⟨_, rfl⟩
  have hp8 : p ≤ 8 := by omega
  have hq8 : q ≤ 8 := by omega
  have hf01 : f = 0 ∨ f = 1 := by omega
  have hkr : -2 ≤ kp ∧ kp ≤ 2 := by omega
  have HP := hid hp
  have HQ := hid hq
  have HF := hid hf
  have HKP := hid (show keep % 5 = kp + 2 by omega)
  have hk2 : kp + 2 - 2 = kp := by omega
  clear hp hq hf hkp
  obtain ⟨i1, hi', hz0', hz1', hz2'⟩ := info_parts infoBs
  have hsz0 := Nat.le_refl w.heap.size
  go_enter Try.func4, Try.ntmps4
  go_wp2_with fail
  refine (pnew_any w).mono ?_
  rintro e w1 ⟨pg, rfl, hpg, hp1, hb1⟩
  go_wp2_with fail
  refine (dnew_any 12 pg Pw.new w1 (by omega) (by omega) hp1).mono ?_
  rintro e w2 ⟨g, rfl, hg, hd2, hb2⟩
  have hz1 := hb1.size
  have hz2 := hb2.size
  have hb02 := hb1.trans (hb2.mono hz1)
  go_wp2_with fail
  go_loopw [16, 18] (fun v i wr => ∃ (j : Nat) (Aa : Option Addr) (ca : Nat) (ls : List (List Byte)) (F : Nat → Prop), j ≤ p ∧ i = .int .i64 j ∧ v = .slice Aa j ca ∧ ls.length = j ∧ (∀ x ∈ ls, x.length = 64) ∧ Bes w.heap.size F wr (.slice Aa j ca) ls ∧ DrvE F wr g pg (wd Pw.new ls j [] false) ∧ (∀ k, F k → w.heap.size ≤ k) ∧ Below w.heap.size w wr) (fun _ i _ => p - (intOf i).toNat)
  case atStart =>
    refine ⟨0, none, 0, [], fun k => k = g ∨ k = pg, by omega, rfl, rfl, rfl, (fun x hx => by cases hx), Bes.nil_ _ _ _, hd2, fun k hk => ?_, hb02⟩
    rcases hk with rfl | rfl <;> omega
  case round =>
    obtain ⟨j, Aa, ca, ls, F, hj, rfl, rfl, hlj, hc64, hbe, hdr, hFw, hbr⟩ := hrel
    have hwr := hbr.size
    have HC := hid hc64
    have HLJ := hid hlj
    have HFW := hid hFw
    clear hc64 hlj hFw
    by_cases hlt : j < p
    · obtain ⟨xv, hxv⟩ : ∃ v, IntKind.i64.wrap (x + (j : Int)) = v := ⟨_, rfl⟩
      have hxr : -9223372036854775808 ≤ xv ∧ xv ≤ 9223372036854775807 := by rw [← hxv, IntKind.wrap_i64]; omega
      have hlt2 : (j : Int) < (p : Int) := by omega
      go_wp2_with fail
      refine (within_any old 9 _ h1.1 h1.2 (by omega) (by omega)).mono ?_
      rintro e w3 ⟨rfl, hw3⟩
      rw [← HP.out, ← hw3]
      clear hw3 w3
      go_wp2_with fail
      refine (data_any 64 xv wr (by omega) hxr).mono ?_
      rintro e w3 ⟨Ac, cc, c, rfl, hcl, hoc, hb3⟩
      obtain ⟨FA, vs, hla, hfa⟩ := hbe
      have hla3 := hla.only (Only.of_new (F := fun _ => False) hb3) (fun _ _ hf => hf)
      have how := hla3.own.own
      rw [HLJ.out] at how
      have hz3 := hb3.size
      have HFA := hid hfa
      have HLA := hid hla
      have hFlt := hdr.lt_
      have HFlt := hid hFlt
      clear hfa hla hla3 hFlt
      go_wp2_with (at_builtin; go_must (refine wpl_append rfl (.tmp 37) (.tmp 42) 27 rfl 0 28 i1 (.slice none 0 0) 1 24 Try.underlying27 hi' hz0' hz1' hz2' rfl (by omega) (.slice Aa j ca) j vs rfl (how.alloc _) _ _ 1 1 _ rfl (Sl.fresh _ _ _ _ 1 rfl) (by simp [Value.oneCell']) (j + 1) rfl _ rfl (by omega) (by omega) (Nat.zero_le _) ?_); intro A6 c6 w6 o6 g6 hwh; obtain ⟨hbe6, ⟨G6, hO6, hG6, hG6b⟩, hoc6⟩ := Bes.pushed HLA.out HFA.out HFlt.out hwr hb3 hoc _ (by rw [HLJ.out]; exact o6) g6 hwh; obtain ⟨vs6, hr6⟩ := hbe6.read (by rw [List.length_append, HLJ.out]; rfl); obtain ⟨b6, o6', A7, c7, e6, hb6, hce6, hl6, hc6, hs6⟩ := hr6.get (k := j) (by omega); rw [show (ls ++ [c]).getD j [] = c by rw [List.getD_eq_getElem?_getD, List.getElem?_append_right (by rw [HLJ.out]; exact Nat.le_refl _), HLJ.out]; simp] at hce6 hl6 hs6; rw [hcl] at hce6 hl6 hs6; subst e6)
      have hz6 := hO6.size
      have hdr6 := hdr.only hO6 hG6
      have hok : DOk 0 (wd Pw.new ls j [] false) := wd_ok new_ok (by rw [HLJ.out]; omega) (Nat.zero_le _) (by rw [HLJ.out]; exact Nat.le_refl _) HC.out (fun y hy => by cases hy)
      refine (dappend_any F g pg _ 0 w6.heap.size A7 c 64 c7 w6 hdr6 hok (by omega) hs6 (Nat.le_refl _) (by omega)).mono ?_
      rintro e w7 ⟨rfl, hdr7, hO7⟩
      rw [wd_app hcl (by rw [HLJ.out]; omega)] at hdr7 ⊢
      dsimp only at hdr7 ⊢
      have hz7 := hO7.size
      have hbe7 := hbe6.only hO7
      have hb7 : Below w.heap.size w w7 := (hbr.trans (hO6.below hG6b hwr)).trans (hO7.below HFW.out (by omega))
      have hall : ∀ y ∈ ls ++ [c], y.length = 64 := fun y hy => by
        rcases List.mem_append.1 hy with hy | hy
        · exact HC.out y hy
        · rw [List.mem_singleton] at hy; subst hy; exact hcl
      have HAL := hid hall
      have HF7 := hid (ext_base (w' := w7) HFW.out (show w.heap.size ≤ w6.heap.size by omega))
      have HLN := hid (show (ls ++ [c]).length = j + 1 by rw [List.length_append, HLJ.out]; rfl)
      clear hall how hoc hdr hdr6 hbe6 hr6 hG6 hG6b
      go_wp2_with fail
      go_roundw
      case rel =>
        have hall := HAL.out
        have hFw := HF7.out
        have hln := HLN.out
        exact ⟨j + 1, _, c6, ls ++ [c], Ext F w6 w7, by omega, by go_num, rfl, hln, hall, hbe7, hdr7, hFw, hb7⟩
      case measure => simp [intOf]; omega
    · have hjp : j = p := by omega
      subst hjp
      have hok : DOk 0 (wd Pw.new ls j [] false) := wd_ok new_ok (by rw [HLJ.out]; omega) (Nat.zero_le _) (by rw [HLJ.out]; exact Nat.le_refl _) HC.out (fun y hy => by cases hy)
      go_wp2_with fail
      refine (within_any old 9 _ h1.1 h1.2 (by omega) (by omega)).mono ?_
      rintro e w3 ⟨rfl, hw3⟩
      rw [← HP.out, ← hw3]
      clear hw3 w3
      go_wp2_with fail
      refine (dsync_any F g pg _ 0 wr hdr hok (by omega)).mono ?_
      rintro e w3 ⟨rfl, hdr3, hO3⟩
      rw [wd_sync] at hdr3 ⊢
      dsimp only at hdr3 ⊢
      have hbe3 := hbe.onlyF hO3
      have hz3 := hO3.size
      have hb3 := hbr.trans (hO3.below HFW.out (by omega))
      obtain ⟨wl, hwl⟩ : ∃ wl, wl = w3 := ⟨_, rfl⟩
      have HWL := hid hwl
      rw [← hwl]
      rw [← hwl] at hdr3 hbe3 hb3 hz3
      have hzl := hb3.size
      have HFlt := hid hdr3.lt_
      clear hdr hbe hok hO3 hwl
      go_wp2_with fail
      go_loopw [17, 19] (fun v i wr => ∃ (k : Nat) (An : Option Addr) (cn : Nat) (lz : List (List Byte)) (vz : List Value), k ≤ q ∧ i = .int .i64 k ∧ v = .slice An k cn ∧ lz.length = k ∧ (∀ y ∈ lz, y.length = 64) ∧ OBs wl.heap.size wr (.slice An k cn) vz lz ∧ Below wl.heap.size wl wr) (fun _ i _ => q - (intOf i).toNat)
      case atStart => exact ⟨0, none, 0, [], [], by omega, rfl, rfl, rfl, (fun y hy => by cases hy), OBs.nil_ _ _, Below.refl _ _⟩
      case round =>
        obtain ⟨k, An, cn, lz, vz, hk, rfl, rfl, hlz, hcz, hoz, hbq⟩ := hrel
        have hwq := hbq.size
        have HCZ := hid hcz
        have HLZ := hid hlz
        clear hcz hlz
        by_cases hltk : k < q
        · obtain ⟨x3, hx3⟩ : ∃ v, IntKind.i64.wrap (3 * x) = v := ⟨_, rfl⟩
          obtain ⟨x4, hx4⟩ : ∃ v, IntKind.i64.wrap (x3 + (k : Int)) = v := ⟨_, rfl⟩
          obtain ⟨xv, hxv⟩ : ∃ v, IntKind.i64.wrap (x4 + 1) = v := ⟨_, rfl⟩
          have hxr : -9223372036854775808 ≤ xv ∧ xv ≤ 9223372036854775807 := by rw [← hxv, IntKind.wrap_i64]; omega
          have hlt2 : (k : Int) < (q : Int) := by omega
          go_wp2_with fail
          refine (within_any nn 9 _ h2.1 h2.2 (by omega) (by omega)).mono ?_
          rintro e w4 ⟨rfl, hw4⟩
          rw [← HQ.out, ← hw4]
          clear hw4 w4
          go_wp2_with fail
          refine (data_any 64 xv wr (by omega) hxr).mono ?_
          rintro e w4 ⟨Ac, cc, c, rfl, hcl, hoc, hb4⟩
          have hoz4 := hoz.below hb4
          have how := hoz4.own
          rw [HLZ.out] at how
          have hz4 := hb4.size
          have hoc' : OB wl.heap.size w4 (.slice Ac 64 cc) c := own_base hoc hwq
          have hbl4 := hbq.trans (hb4.mono hwq)
          have HOZ := hid hoz4
          clear hoz hoz4 hoc hb4
          go_wp2_with (at_builtin; go_must (refine wpl_append rfl (.tmp 61) (.tmp 68) 27 rfl wl.heap.size 28 i1 (.slice none 0 0) 1 24 Try.underlying27 hi' hz0' hz1' hz2' rfl (by omega) (.slice An k cn) k vz rfl (how.alloc _) _ _ 1 1 _ rfl (Sl.fresh _ _ _ _ 1 rfl) (by simp [Value.oneCell']) (k + 1) rfl _ rfl (by omega) (by omega) (by simp; omega) ?_); intro A6 c6 w6 o6 g6 _)
          have b6 : Below wl.heap.size wl w6 := below_own (hbl4.alloc (by omega) _) (how.alloc _) g6 (Nat.le_refl _) (by simp; omega)
          have ho6 := (HOZ.out.below ((Below.refl _ _).alloc (Nat.le_refl _) _)).push (x := c) (OB.below hoc' ((Below.refl _ _).alloc (Nat.le_refl _) _)) (by rw [HLZ.out]; exact o6) g6
          have hall : ∀ y ∈ lz ++ [c], y.length = 64 := fun y hy => by
            rcases List.mem_append.1 hy with hy | hy
            · exact HCZ.out y hy
            · rw [List.mem_singleton] at hy; subst hy; exact hcl
          have HAL := hid hall
          have HLN := hid (show (lz ++ [c]).length = k + 1 by rw [List.length_append, HLZ.out]; rfl)
          clear hall
          go_roundw
          case rel =>
            have hall := HAL.out
            have hln := HLN.out
            exact ⟨k + 1, A6, c6, lz ++ [c], _, by omega, by go_num, rfl, hln, hall, ho6, b6⟩
          case measure => simp [intOf]; omega
        · have hkq : k = q := by omega
          subst hkq
          have hben : Bes w.heap.size F wr (.slice An k cn) lz := Bes.of_own hoz HFlt.out hzl
          have hbe4 := hbe3.new_ hbq
          have hdr4 := hdr3.new_ hbq
          have hb4 := hb3.trans (hbq.mono hzl)
          obtain ⟨hpr, hFp⟩ := hdr4.pow_
          clear hoz hbe3 hdr3 hb3
          go_wp2_with fail
          refine (within_any nn 9 _ h2.1 h2.2 (by omega) (by omega)).mono ?_
          rintro e w5 ⟨rfl, hw5⟩
          rw [← HQ.out, ← hw5]
          clear hw5 w5
          go_wp2_with fail
          refine (within_any fuse 2 _ h4.1 h4.2 (by omega) (by omega)).mono ?_
          rintro e w5 ⟨rfl, hw5⟩
          rw [HF.out, ← hw5]
          clear hw5 w5
          go_wp2_with fail
          refine (parm_any pg _ f wr hpr).mono ?_
          rintro e w5 ⟨rfl, hp5, hg5⟩
          obtain ⟨hdr5, hO5⟩ := hdr4.power_ hp5 hg5
          have hbe5 := hbe4.onlyF hO5
          have hben5 := hben.onlyF hO5
          have hb5 := hb4.trans (hO5.below HFW.out (by omega))
          have hz5 := hb5.size
          have hD5 : DrvE F w5 g pg (wd (Pw.new.arm f) ls 0 [] false) := hdr5
          clear hdr5 hdr4 hbe4 hben hpr hp5 hg5 hO5 hFp
          have hln12 : lz.length ≤ 12 := by rw [HLZ.out]; omega
          have HL12 := hid hln12
          have hLl12 : ls.length ≤ 12 := by rw [HLJ.out]; omega
          have HLl12 := hid hLl12
          clear hln12 hLl12
          have hok5 : ∀ (m : Nat) (s : Pw), ((0 ≤ s.left ∧ s.left ≤ 9223372036854775807) ∧ 0 ≤ s.offs ∧ s.offs ≤ (m : Int)) → DOk m (wd s ls 0 [] false) := fun _ _ hs => wd_ok hs HLl12.out (Nat.zero_le _) (Nat.zero_le _) HC.out (fun y hy => by cases hy)
          have HOK := hid hok5
          clear hok5
          rcases hf01 with rfl | rfl
          · have hD6 : DrvE F w5 g pg (wd ⟨false, true, 0, 0⟩ ls 0 [] false) := hD5
            clear hD5
            obtain ⟨FB, vz', hlz', hfb⟩ := hben5
            have HFB := hid hfb
            have HLZ' := hid hlz'
            clear hfb
            go_wp2_with fail
            refine (drewrite_any F FB g pg _ 0 An lz vz' k cn w5 hD6 (HOK.out _ _ ⟨⟨by show (0 : Int) ≤ 0; omega, by show (0 : Int) ≤ 9223372036854775807; omega⟩, by show (0 : Int) ≤ 0; omega, by show (0 : Int) ≤ 0; omega⟩) (by omega) hlz' (fun y hy => (HFB.out y hy).1) HLZ.out (by omega) HCZ.out).mono ?_
            rintro e w6 ⟨rfl, hdr6, hO6⟩
            rw [wd_rew0 HL12.out] at hdr6 ⊢
            dsimp only at hdr6 ⊢
            have hbe6 := hbe5.only hO6
            have hben6 := (show Bes w.heap.size F w5 (.slice An k cn) lz from ⟨FB, vz', HLZ'.out, HFB.out⟩).only hO6
            have hb6 := hb5.trans (hO6.below HFW.out (by omega))
            have hz6 := hO6.size
            have HFX := hid (ext_base (w' := w6) HFW.out (show w.heap.size ≤ w5.heap.size by omega))
            clear hbe5 hlz' HLZ' hb5
            go_wp2_with fail
            refine (within_any fuse 2 _ h4.1 h4.2 (by omega) (by omega)).mono ?_
            rintro e w7 ⟨rfl, hw7⟩
            rw [HF.out, ← hw7]
            clear hw7 w7
            have HOK0 := hid (wd_ok (m := 1) (s := ⟨true, true, 0, 1⟩) (L := ls) (B := lz) (wt := 0) (has := true) ⟨⟨by show (0 : Int) ≤ 0; omega, by show (0 : Int) ≤ 9223372036854775807; omega⟩, by show (0 : Int) ≤ 1; omega, by show (1 : Int) ≤ 1; omega⟩ HLl12.out HL12.out (Nat.zero_le _) HC.out HCZ.out)
            have HLT0 := hid (show Dr.L (wd ⟨true, true, 0, 1⟩ ls 0 lz true) = ls from rfl)
            obtain ⟨vT, hrT⟩ := hbe6.read HLJ.out
            go_wp2_with fail
            refine (dall_any _ g pg _ 1 w6 hdr6 HOK0.out).mono ?_
            rintro e w9 ⟨A9, c9, vs9, rfl, ho9, hd9, hb9⟩
            rw [HLT0.out] at ho9 ⊢
            rw [HLJ.out] at ho9 ⊢
            have r9 := ho9.read HLJ.out
            have rw9 := (hrT.below hb9).mono hb9.size
            have hbt9 := hb6.trans (hb9.mono (by omega))
            have hz9 := hb9.size
            have hdr9 := hdr6.new_ hb9
            have hbe9 := hbe6.new_ hb9
            have hben9 := hben6.new_ hb9
            clear hrT hdr6 hbe6 hben6 ho9 hb9
            go_wp2_with fail
            refine (rows_is true _ A9 Aa vs9 vT ls ls j j c9 ca w9 r9 rw9 (by omega) (by omega) (decide_eq_true rfl)).mono ?_
            rintro e w10 ⟨rfl, dn, rfl⟩
            have hb10 := below_drewN hbt9 dn
            have hdr10 := hdr9.new_ (below_drewN (Below.refl _ _) dn)
            have hbe10 := hbe9.new_ (below_drewN (Below.refl _ _) dn)
            have hben10 := hben9.new_ (below_drewN (Below.refl _ _) dn)
            have hz10 : w9.heap.size ≤ (w9.drewN dn).heap.size := Nat.le_refl _
            clear r9 rw9 hbt9 hdr9 hbe9 hben9
            generalize w9.drewN dn = w10 at *
            by_cases hkpos : 0 < kp
            · go_wp2_with fail
              refine (within_any keep 5 _ h5.1 h5.2 (by omega) (by omega)).mono ?_
              rintro e w7 ⟨rfl, hw7⟩
              rw [HKP.out, ← hw7]
              clear hw7 w7
              go_wp2_with fail
              refine (dcrash_any _ g pg _ 1 kp torn w10 hdr10 HOK0.out (by omega) (by omega)).mono ?_
              rintro e w8 ⟨rfl, hdT, hO8⟩
              rw [wd_crash2 hkpos] at hdT
              have hbe8 := hbe10.only hO8
              have hben8 := hben10.only hO8
              have hbT := hb10.trans (hO8.below HFX.out (by omega))
              have hz8 := hO8.size
              have HOKT := hid (wd_ok (m := 1) (s := ⟨true, true, 0, 1⟩) (L := lz) (B := []) (wt := 0) (has := false) ⟨⟨by show (0 : Int) ≤ 0; omega, by show (0 : Int) ≤ 9223372036854775807; omega⟩, by show (0 : Int) ≤ 1; omega, by show (1 : Int) ≤ 1; omega⟩ HL12.out (Nat.zero_le _) (Nat.zero_le _) HCZ.out (fun y hy => by cases hy))
              go_wp2_with fail
              refine (within_any keep 5 _ h5.1 h5.2 (by omega) (by omega)).mono ?_
              rintro e w7 ⟨rfl, hw7⟩
              rw [HKP.out, ← hw7]
              clear hw7 w7
              have hokT : DOk 1 (wd ⟨true, true, 0, 1⟩ lz 0 [] false) := HOKT.out
              obtain ⟨vT, hrT⟩ := hben8.read HLZ.out
              have HLT := hid (show Dr.L (wd ⟨true, true, 0, 1⟩ lz 0 [] false) = lz from rfl)
              go_wp2_with fail
              refine (dall_any _ g pg _ 1 w8 hdT hokT).mono ?_
              rintro e w9 ⟨A9, c9, vs9, rfl, ho9, hd9, hb9⟩
              rw [HLT.out] at ho9 ⊢
              rw [HLZ.out] at ho9 ⊢
              have r9 := ho9.read HLZ.out
              have rw9 := (hrT.below hb9).mono hb9.size
              have hbt9 := hbT.trans (hb9.mono (by omega))
              have hz9 := hb9.size
              go_wp2_with fail
              refine (rows_is true _ A9 An vs9 vT lz lz k k c9 cn w9 r9 rw9 (by omega) (by omega) (decide_eq_true rfl)).mono ?_
              rintro e w10 ⟨rfl, dn, rfl⟩
              have hbt10 := below_drewN hbt9 dn
              have hz10 : w9.heap.size ≤ (w9.drewN dn).heap.size := Nat.le_refl _
              generalize w9.drewN dn = w10 at *
              go_wp2_with fail
              refine (wakes22 w10).mono ?_
              rintro e w11 ⟨rfl, hb11⟩
              go_wp2_with fail
              go_ret
              exact ⟨rfl, hbt10.trans (hb11.mono (by omega))⟩
            · go_wp2_with fail
              refine (within_any keep 5 _ h5.1 h5.2 (by omega) (by omega)).mono ?_
              rintro e w7 ⟨rfl, hw7⟩
              rw [HKP.out, ← hw7]
              clear hw7 w7
              go_wp2_with fail
              refine (dcrash_any _ g pg _ 1 kp torn w10 hdr10 HOK0.out (by omega) (by omega)).mono ?_
              rintro e w8 ⟨rfl, hdT, hO8⟩
              rw [wd_crash3 (show ¬ 0 < kp by omega)] at hdT
              have hbe8 := hbe10.only hO8
              have hben8 := hben10.only hO8
              have hbT := hb10.trans (hO8.below HFX.out (by omega))
              have hz8 := hO8.size
              have HOKT := hid (wd_ok (m := 1) (s := ⟨true, true, 0, 1⟩) (L := ls) (B := []) (wt := 0) (has := false) ⟨⟨by show (0 : Int) ≤ 0; omega, by show (0 : Int) ≤ 9223372036854775807; omega⟩, by show (0 : Int) ≤ 1; omega, by show (1 : Int) ≤ 1; omega⟩ HLl12.out (Nat.zero_le _) (Nat.zero_le _) HC.out (fun y hy => by cases hy))
              go_wp2_with fail
              refine (within_any keep 5 _ h5.1 h5.2 (by omega) (by omega)).mono ?_
              rintro e w7 ⟨rfl, hw7⟩
              rw [HKP.out, ← hw7]
              clear hw7 w7
              have hokT : DOk 1 (wd ⟨true, true, 0, 1⟩ ls 0 [] false) := HOKT.out
              obtain ⟨vT, hrT⟩ := hbe8.read HLJ.out
              have HLT := hid (show Dr.L (wd ⟨true, true, 0, 1⟩ ls 0 [] false) = ls from rfl)
              go_wp2_with fail
              refine (dall_any _ g pg _ 1 w8 hdT hokT).mono ?_
              rintro e w9 ⟨A9, c9, vs9, rfl, ho9, hd9, hb9⟩
              rw [HLT.out] at ho9 ⊢
              rw [HLJ.out] at ho9 ⊢
              have r9 := ho9.read HLJ.out
              have rw9 := (hrT.below hb9).mono hb9.size
              have hbt9 := hbT.trans (hb9.mono (by omega))
              have hz9 := hb9.size
              go_wp2_with fail
              refine (rows_is true _ A9 Aa vs9 vT ls ls j j c9 ca w9 r9 rw9 (by omega) (by omega) (decide_eq_true rfl)).mono ?_
              rintro e w10 ⟨rfl, dn, rfl⟩
              have hbt10 := below_drewN hbt9 dn
              have hz10 : w9.heap.size ≤ (w9.drewN dn).heap.size := Nat.le_refl _
              generalize w9.drewN dn = w10 at *
              go_wp2_with fail
              refine (wakes22 w10).mono ?_
              rintro e w11 ⟨rfl, hb11⟩
              go_wp2_with fail
              go_ret
              exact ⟨rfl, hbt10.trans (hb11.mono (by omega))⟩
          · have hD6 : DrvE F w5 g pg (wd ⟨false, true, 1, 0⟩ ls 0 [] false) := hD5
            clear hD5
            obtain ⟨FB, vz', hlz', hfb⟩ := hben5
            have HFB := hid hfb
            have HLZ' := hid hlz'
            clear hfb
            go_wp2_with fail
            refine (drewrite_any F FB g pg _ 0 An lz vz' k cn w5 hD6 (HOK.out _ _ ⟨⟨by show (0 : Int) ≤ 1; omega, by show (1 : Int) ≤ 9223372036854775807; omega⟩, by show (0 : Int) ≤ 0; omega, by show (0 : Int) ≤ 0; omega⟩) (by omega) hlz' (fun y hy => (HFB.out y hy).1) HLZ.out (by omega) HCZ.out).mono ?_
            rintro e w6 ⟨rfl, hdr6, hO6⟩
            rw [wd_rew1 HL12.out] at hdr6 ⊢
            dsimp only at hdr6 ⊢
            have hbe6 := hbe5.only hO6
            have hben6 := (show Bes w.heap.size F w5 (.slice An k cn) lz from ⟨FB, vz', HLZ'.out, HFB.out⟩).only hO6
            have hb6 := hb5.trans (hO6.below HFW.out (by omega))
            have hz6 := hO6.size
            have HFX := hid (ext_base (w' := w6) HFW.out (show w.heap.size ≤ w5.heap.size by omega))
            clear hbe5 hlz' HLZ' hb5
            go_wp2_with fail
            refine (within_any fuse 2 _ h4.1 h4.2 (by omega) (by omega)).mono ?_
            rintro e w7 ⟨rfl, hw7⟩
            rw [HF.out, ← hw7]
            clear hw7 w7
            go_wp2_with fail
            refine (within_any keep 5 _ h5.1 h5.2 (by omega) (by omega)).mono ?_
            rintro e w7 ⟨rfl, hw7⟩
            rw [HKP.out, ← hw7]
            clear hw7 w7
            go_wp2_with fail
            refine (dcrash_any _ g pg _ 1 kp torn w6 hdr6 (wd_ok (m := 1) (s := ⟨false, true, 0, 0⟩) ⟨⟨by show (0 : Int) ≤ 0; omega, by show (0 : Int) ≤ 9223372036854775807; omega⟩, by show (0 : Int) ≤ 0; omega, by show (0 : Int) ≤ 1; omega⟩ HL12.out (Nat.zero_le _) (Nat.zero_le _) HCZ.out (fun y hy => by cases hy)) (by omega) (by omega)).mono ?_
            rintro e w8 ⟨rfl, hdT, hO8⟩
            rw [wd_crash1] at hdT
            have hbe8 := hbe6.only hO8
            have hben8 := hben6.only hO8
            have hbT := hb6.trans (hO8.below HFX.out (by omega))
            have hz8 := hO8.size
            have HOKT := hid (wd_ok (m := 1) (s := ⟨false, true, 0, 0⟩) (L := lz) (B := []) (wt := 0) (has := false) ⟨⟨by show (0 : Int) ≤ 0; omega, by show (0 : Int) ≤ 9223372036854775807; omega⟩, by show (0 : Int) ≤ 0; omega, by show (0 : Int) ≤ 1; omega⟩ HL12.out (Nat.zero_le _) (Nat.zero_le _) HCZ.out (fun y hy => by cases hy))
            have hokT : DOk 1 (wd ⟨false, true, 0, 0⟩ lz 0 [] false) := HOKT.out
            obtain ⟨vT, hrT⟩ := hben8.read HLZ.out
            have HLT := hid (show Dr.L (wd ⟨false, true, 0, 0⟩ lz 0 [] false) = lz from rfl)
            go_wp2_with fail
            refine (dall_any _ g pg _ 1 w8 hdT hokT).mono ?_
            rintro e w9 ⟨A9, c9, vs9, rfl, ho9, hd9, hb9⟩
            rw [HLT.out] at ho9 ⊢
            rw [HLZ.out] at ho9 ⊢
            have r9 := ho9.read HLZ.out
            have rw9 := (hrT.below hb9).mono hb9.size
            have hbt9 := hbT.trans (hb9.mono (by omega))
            have hz9 := hb9.size
            go_wp2_with fail
            refine (rows_is true _ A9 An vs9 vT lz lz k k c9 cn w9 r9 rw9 (by omega) (by omega) (decide_eq_true rfl)).mono ?_
            rintro e w10 ⟨rfl, dn, rfl⟩
            have hbt10 := below_drewN hbt9 dn
            have hz10 : w9.heap.size ≤ (w9.drewN dn).heap.size := Nat.le_refl _
            generalize w9.drewN dn = w10 at *
            go_wp2_with fail
            refine (wakes22 w10).mono ?_
            rintro e w11 ⟨rfl, hb11⟩
            go_wp2_with fail
            go_ret
            exact ⟨rfl, hbt10.trans (hb11.mono (by omega))⟩
end Go.Proofs.Ytcklnkilldeamaa
