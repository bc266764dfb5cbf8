/- DriveFalls. -/
import Derived.Test.YtcklnkilldeamaaLaw22
import Derived.Test.YtcklnkilldeamaaData
import Derived.Test.YtcklnkilldeamaaWithin
import Derived.Test.YtcklnkilldeamaaAlike
import Derived.ArgAppend
namespace Wells
open Go Go.RowKit
def fallD (ls : List (List Byte)) (wt : Nat) : Dr := ⟨Pw.new, 20, ls, wt, [], false, false⟩
theorem fall_app {ls : List (List Byte)} {wt : Nat} {c : List Byte} (hc : c.length = 64) (hl : ls.length < 20) : (fallD ls wt).append c = (fallD (ls ++ [c]) (wt + 1), 0) := by
  unfold Dr.append
  rw [if_neg (by rw [hc]; simp), if_neg (by simp [fallD]), if_neg (by simp [fallD]; omega), if_neg (by simp [fallD, Pw.new]), if_pos (by rfl)]
  rfl
theorem fall_sync (ls : List (List Byte)) (wt : Nat) : (fallD ls wt).sync = (fallD ls 0, 0) := rfl
theorem fall_ok {ls : List (List Byte)} {wt : Nat} (hl : ls.length ≤ 20) (hw : wt ≤ ls.length) (hc : ∀ x ∈ ls, x.length = 64) : DOk 0 (fallD ls wt) :=
  ⟨⟨by show (1:Nat) ≤ 20; omega, by show (20:Nat) ≤ 512; omega⟩, hl, Nat.zero_le _, hw, hc, (fun x hx => by cases hx), ⟨Int.le_refl _, by show (0 : Int) ≤ 9223372036854775807; omega⟩, ⟨Int.le_refl _, Int.le_refl _⟩⟩
def waitAt (s j : Nat) : Nat := if j < s then j else j - s
end Wells
namespace Go.Proofs.Ytcklnkilldeamaa
open Go.RowKit Wells
theorem Lst.pushed {F : Nat → Prop} {w w2 w3 : World} {v v' xv : Value} {vs : List Value} {ls : List (List Byte)} {x : List Byte} (h : Lst F w v vs ls) (hb2 : Below w.heap.size w w2) (hx : OB w.heap.size w2 xv x) (o : Obj)
    (ho3 : w3.ownsRow 0 28 1 v' (ls.length + 1) (vs ++ [xv])) (gr3 : (w2.alloc o).grownBy w3 v.ownBlock) (hwh : v'.ownBlock = v.ownBlock ∨ v'.ownBlock = some (w2.alloc o).heap.size) :
    Lst (Ext F w w3) w3 v' (vs ++ [xv]) (ls ++ [x]) ∧ Only F w w3 ∧ OB w.heap.size w3 xv x := by
  have hsz := hb2.size
  have hb2a : Below w.heap.size w (w2.alloc o) := hb2.alloc hsz o
  have hsa : (w2.alloc o).heap.size = w2.heap.size + 1 := by simp
  have hs3 := gr3.size
  have hO : Only F w w3 := (Only.of_new hb2a).trans (Only.of_grown (F := F) gr3 (fun k e => h.iv k e)) (fun _ _ hk => hk)
  have hxa : OB w.heap.size (w2.alloc o) xv x := hx.below ((Below.refl _ _).alloc (Nat.le_refl _) _)
  have h1 := h.own.below hb2a
  have hL := h1.push (x := x) (own_base hxa (Nat.zero_le _)) ho3 gr3
  have hx3 : OB w.heap.size w3 xv x := hxa.keep gr3 (own_other hxa h1.own (by decide))
  refine ⟨⟨hL, fun k hk => ?_, fun y hy k hk => ?_⟩, hO, hx3⟩
  · rcases hwh with hw | hw
    · exact .inl (h.iv k (by rw [← hw]; exact hk))
    · rw [hw] at hk
      injection hk with hk
      have := (own_lt ho3 k (by rw [hw, hk])).2
      exact .inr ⟨by omega, this⟩
  · rcases List.mem_append.1 hy with hy | hy
    · exact .inl (h.is y hy k hk)
    · rw [List.mem_singleton] at hy
      subst hy
      exact .inr (own_lt hx3 k hk)
set_option maxRecDepth 20000 in
set_option maxHeartbeats 8000000 in
theorem walk_DriveFalls (sure waits keep torn x : Int) (w : World) (h1 : -9223372036854775808 ≤ sure ∧ sure ≤ 9223372036854775807) (h2 : -9223372036854775808 ≤ waits ∧ waits ≤ 9223372036854775807) (h3 : -9223372036854775808 ≤ keep ∧ keep ≤ 9223372036854775807) (h4 : -9223372036854775808 ≤ torn ∧ torn ≤ 9223372036854775807) (h5 : -9223372036854775808 ≤ x ∧ x ≤ 9223372036854775807) :
    Calls Try.prog 3 #[.int .i64 sure, .int .i64 waits, .int .i64 keep, .int .i64 torn, .int .i64 x] w fun e w' => e = .returned (.bool true) ∧ Below w.heap.size w w' := by
  obtain ⟨s, hs⟩ : ∃ k : Nat, (k : Int) = sure % 8 := ⟨(sure % 8).toNat, by omega⟩
  obtain ⟨n, hn⟩ : ∃ k : Nat, (k : Int) = waits % 8 := ⟨(waits % 8).toNat, by omega⟩
  have hs7 : s ≤ 7 := by omega
  have hn7 : n ≤ 7 := by omega
  have HSu := hid hs
  have HWa := hid hn
  clear hs hn
  obtain ⟨i1, hi', hz0', hz1', hz2'⟩ := info_parts infoBs
  have hsz0 := Nat.le_refl w.heap.size
  go_enter Try.func3, Try.ntmps3
  go_wp2_with fail
  refine (within_any sure 8 _ h1.1 h1.2 (by omega) (by omega)).mono ?_
  rintro e w1 ⟨rfl, hw1⟩
  rw [← HSu.out, ← hw1]
  clear hw1 w1
  go_wp2_with fail
  refine (within_any waits 8 _ h2.1 h2.2 (by omega) (by omega)).mono ?_
  rintro e w1 ⟨rfl, hw1⟩
  rw [← HWa.out, ← hw1]
  clear hw1 w1
  go_wp2_with fail
  refine (pnew_any w).mono ?_
  rintro e w1 ⟨pg, rfl, hpg, hp1, hb1⟩
  go_wp2_with fail
  refine (dnew_any 20 pg Pw.new w1 (by omega) (by omega) hp1).mono ?_
  rintro e w2 ⟨g, rfl, hg, hd2, hb2⟩
  have hz1 := hb1.size
  have hz2 := hb2.size
  have hb02 := hb1.trans (hb2.mono hz1)
  go_wp2_with fail
  go_loopw [14, 15] (fun v i wr => ∃ (j : Nat) (Aa : Option Addr) (ca : Nat) (ls : List (List Byte)) (vs : List Value) (F FA : Nat → Prop), j ≤ s + n ∧ i = .int .i64 j ∧ v = .slice Aa j ca ∧ ls.length = j ∧ (∀ x ∈ ls, x.length = 64) ∧ Lst FA wr (.slice Aa j ca) vs ls ∧ DrvE F wr g pg (fallD ls (waitAt s j)) ∧ (∀ k, FA k → ¬ F k) ∧ (∀ k, F k → w.heap.size ≤ k) ∧ (∀ k, FA k → w.heap.size ≤ k ∧ k < wr.heap.size) ∧ Below w.heap.size w wr) (fun _ i _ => s + n - (intOf i).toNat)
  case atStart =>
    refine ⟨0, none, 0, [], [], fun k => k = g ∨ k = pg, fun _ => False, by omega, rfl, rfl, rfl, (fun x hx => by cases hx), Lst.nil_ _ _, ?_, (fun k hk => hk.elim), fun k hk => ?_, (fun k hk => hk.elim), hb02⟩
    · have : waitAt s 0 = 0 := by unfold waitAt; split <;> omega
      rw [this]; exact hd2
    · rcases hk with rfl | rfl <;> omega
  case round =>
    obtain ⟨j, Aa, ca, ls, vs, F, FA, hj, rfl, rfl, hlj, hc64, hla, hdr, hdis, hFw, hFAw, hbr⟩ := hrel
    have hwr := hbr.size
    by_cases hlt : j < s + n
    · obtain ⟨xv, hxv⟩ : ∃ v, IntKind.i64.wrap (x + (j : Int)) = v := ⟨_, rfl⟩
      have hxr : -9223372036854775808 ≤ xv ∧ xv ≤ 9223372036854775807 := by rw [← hxv, IntKind.wrap_i64]; omega
      have HC := hid hc64
      have HLJ := hid hlj
      clear hc64 hlj
      go_wp2_with fail
      refine (data_any 64 xv wr (by omega) hxr).mono ?_
      rintro e w3 ⟨Ac, cc, c, rfl, hcl, hoc, hb3⟩
      have hla3 := hla.only (Only.of_new (F := fun _ => False) hb3) (fun _ _ hf => hf)
      have how := hla3.own.own
      rw [HLJ.out] at how
      have hz3 := hb3.size
      go_wp2_with (at_builtin; go_must (refine wpl_append rfl (.tmp 42) (.tmp 44) 27 rfl 0 28 i1 (.slice none 0 0) 1 24 Try.underlying27 hi' hz0' hz1' hz2' rfl (by omega) (.slice Aa j ca) j vs rfl (how.alloc _) _ _ 1 1 _ rfl (Sl.fresh _ _ _ _ 1 rfl) (by simp [Value.oneCell']) (j + 1) rfl _ rfl (by omega) (by omega) (Nat.zero_le _) ?_); intro A6 c6 w6 o6 g6 hwh)
      obtain ⟨hla6, hO6, hoc6⟩ := hla.pushed hb3 hoc _ (by rw [HLJ.out]; exact o6) g6 hwh
      have hdr6 := hdr.only hO6 (fun k hk hf => hdis k hf hk)
      have hFlt : ∀ k, F k → k < wr.heap.size := by obtain ⟨_, _, _, _, hq⟩ := hdr; exact hq.lt
      have hz6 := hO6.size
      obtain ⟨Ac', cc', ee, hcc1, hcc2, hsc⟩ := hoc6.read
      injection ee with e1 e2 e3
      subst e1 e3
      rw [hcl] at hsc
      have hok : DOk 0 (fallD ls (waitAt s j)) := fall_ok (by rw [HLJ.out]; omega) (by rw [HLJ.out]; unfold waitAt; split <;> omega) HC.out
      refine (dappend_any F g pg _ 0 w6.heap.size Ac c 64 cc w6 hdr6 hok (by omega) hsc (Nat.le_refl _) (by omega)).mono ?_
      rintro e w7 ⟨rfl, hdr7, hO7⟩
      rw [fall_app hcl (by rw [HLJ.out]; omega)] at hdr7 ⊢
      dsimp only at hdr7 ⊢
      have hz7 := hO7.size
      have hla7 := hla6.only hO7 (fun k hk hf => by
        rcases hk with hk | hk
        · exact hdis k hk hf
        · have := hFlt k hf; omega)
      have hb7 : Below w.heap.size w w7 := (hbr.trans (hO6.below (fun k hk => (hFAw k hk).1) hwr)).trans (hO7.below hFw (by omega))
      have hall : ∀ y ∈ ls ++ [c], y.length = 64 := fun y hy => by
        rcases List.mem_append.1 hy with hy | hy
        · exact HC.out y hy
        · rw [List.mem_singleton] at hy; subst hy; exact hcl
      have hdis2 : ∀ k, Ext FA wr w6 k → ¬ Ext F w6 w7 k := fun k hk hf => by
        rcases hk with hk | hk <;> rcases hf with hf | hf
        · exact hdis k hk hf
        · have := (hFAw k hk).2; omega
        · have := hFlt k hf; omega
        · omega
      have hFw2 : ∀ k, Ext F w6 w7 k → w.heap.size ≤ k := fun k hk => by
        rcases hk with hk | hk
        · exact hFw k hk
        · omega
      have hFA2 : ∀ k, Ext FA wr w6 k → w.heap.size ≤ k ∧ k < w6.heap.size := fun k hk => by
        rcases hk with hk | hk
        · have := hFAw k hk; omega
        · omega
      have HAL := hid hall
      have HD2 := hid hdis2
      have HF2 := hid hFw2
      have HA2 := hid hFA2
      have HFlt := hid hFlt
      have HDIS := hid hdis
      have HFW := hid hFw
      have HFA := hid hFAw
      clear hall hdis2 hFw2 hFA2 hFlt hdis hFw hFAw how hwh hla3 hoc hla hdr hla6 hdr6
      by_cases hsy : j + 1 = s
      · have hq : (((j : Int) + 1) == (s : Int)) = true := by simp; omega
        have hw0 : waitAt s (j + 1) = 0 := by unfold waitAt; split <;> omega
        have HW0 := hid hw0
        have hok7 : DOk 0 (fallD (ls ++ [c]) (waitAt s j + 1)) := fall_ok (by rw [List.length_append, HLJ.out]; simp; omega) (by rw [List.length_append, HLJ.out]; unfold waitAt; simp; split <;> omega) HAL.out
        clear hw0 hsy
        go_wp2_with fail
        refine (dsync_any (Ext F w6 w7) g pg _ 0 w7 hdr7 hok7 (by omega)).mono ?_
        rintro e w8 ⟨rfl, hdr8, hO8⟩
        rw [fall_sync] at hdr8 ⊢
        dsimp only at hdr8 ⊢
        have hz8 := hO8.size
        have hla8 := hla7.only hO8 (fun k hk hf => HD2.out k hk hf)
        have hb8 := hb7.trans (hO8.below (fun k hk => HF2.out k hk) (by omega))
        go_wp2_with fail
        go_roundw
        case rel =>
          have hall := HAL.out
          have hdis2 := HD2.out
          have hFw2 := HF2.out
          have hFA2 := HA2.out
          exact ⟨j + 1, A6, c6, ls ++ [c], vs ++ [.slice Ac 64 cc], Ext F w6 w7, Ext FA wr w6, by omega, by go_num, rfl, by rw [List.length_append, HLJ.out]; rfl, hall, hla8, by rw [HW0.out]; exact hdr8, hdis2, hFw2, fun k hk => ⟨(hFA2 k hk).1, by have := (hFA2 k hk).2; omega⟩, hb8⟩
        case measure => simp [intOf]; omega
      · have hq : (((j : Int) + 1) == (s : Int)) = false := by simp; omega
        have hw0 : waitAt s (j + 1) = waitAt s j + 1 := by unfold waitAt; split <;> split <;> omega
        have HW0 := hid hw0
        clear hw0
        go_wp2_with fail
        go_roundw
        case rel =>
          have hall := HAL.out
          have hdis2 := HD2.out
          have hFw2 := HF2.out
          have hFA2 := HA2.out
          exact ⟨j + 1, A6, c6, ls ++ [c], vs ++ [.slice Ac 64 cc], Ext F w6 w7, Ext FA wr w6, by omega, by go_num, rfl, by rw [List.length_append, HLJ.out]; rfl, hall, hla7, by rw [HW0.out]; exact hdr7, hdis2, hFw2, fun k hk => ⟨(hFA2 k hk).1, by have := (hFA2 k hk).2; omega⟩, hb7⟩
        case measure => simp [intOf]; omega
    · have hjn : j = s + n := by omega
      subst hjn
      have hwn : waitAt s (s + n) = n := by unfold waitAt; split <;> omega
      rw [hwn] at hdr
      have hFlt : ∀ k, F k → k < wr.heap.size := by obtain ⟨_, _, _, _, hq⟩ := hdr; exact hq.lt
      have HC := hid hc64
      have HLJ := hid hlj
      have HFlt := hid hFlt
      have HDIS := hid hdis
      have HFW := hid hFw
      have HFA := hid hFAw
      have hok : DOk 0 (fallD ls n) := fall_ok (by rw [hlj]; omega) (by rw [hlj]; omega) hc64
      have hlL : (fallD ls n).L.length = s + n := hlj
      have HLL := hid hlL
      obtain ⟨kp, hkp⟩ : ∃ k : Int, keep % 12 - 2 = k := ⟨_, rfl⟩
      obtain ⟨tp, htp⟩ : ∃ k : Int, torn % 70 - 2 = k := ⟨_, rfl⟩
      have hkr : -2 ≤ kp ∧ kp ≤ 9 := by omega
      have htr : -2 ≤ tp ∧ tp ≤ 67 := by omega
      have HKP := hid (show keep % 12 = kp + 2 by omega)
      have HTP := hid (show torn % 70 = tp + 2 by omega)
      have hk2 : kp + 2 - 2 = kp := by omega
      have ht2 : tp + 2 - 2 = tp := by omega
      clear hkp htp hwn hc64 hlj hFlt hdis hFw hFAw hlL
      go_wp2_with fail
      refine (dpending_any F g pg _ wr hdr).mono ?_
      rintro e w3 ⟨rfl, hw3⟩
      rw [← hw3]
      clear hw3 w3
      rw [show (fallD ls n).wait = n from rfl]
      go_wp2_with fail
      refine (dlen_any F g pg _ wr hdr).mono ?_
      rintro e w3 ⟨rfl, hw3⟩
      rw [← hw3, HLL.out]
      clear hw3 w3
      go_wp2_with fail
      refine (within_any keep 12 _ h3.1 h3.2 (by omega) (by omega)).mono ?_
      rintro e w3 ⟨rfl, hw3⟩
      rw [HKP.out, ← hw3]
      clear hw3 w3
      go_wp2_with fail
      refine (within_any torn 70 _ h4.1 h4.2 (by omega) (by omega)).mono ?_
      rintro e w3 ⟨rfl, hw3⟩
      rw [HTP.out, ← hw3]
      clear hw3 w3
      go_wp2_with fail
      refine (dcrash_any F g pg _ 0 kp tp wr hdr hok (by omega) (by omega)).mono ?_
      rintro e w3 ⟨rfl, hdr3, hO3⟩
      have hla3 := hla.only hO3 (fun k hk hf => HDIS.out k hk hf)
      obtain ⟨kk, hkk⟩ : ∃ k : Nat, min kp.toNat n = k := ⟨_, rfl⟩
      obtain ⟨st, hst⟩ : ∃ k : Nat, s + kk = k := ⟨_, rfl⟩
      have hst2 : st ≤ s + n := by omega
      obtain ⟨S, hS⟩ : ∃ S, (fallD ls n).fallen kp tp = S := ⟨_, rfl⟩
      have hD3 : (fallD ls n).crash kp tp = fallD S 0 := by unfold Dr.crash; rw [hS]; rfl
      rw [hD3] at hdr3
      have hSf : S = if kk < n ∧ 0 < tp then ls.take st ++ [tornL (ls.getD st []) tp] else ls.take st := by
        rw [← hS]
        unfold Dr.fallen
        rw [if_neg (by simp [fallD])]
        have e1 : (fallD ls n).wait = n := rfl
        have e2 : (fallD ls n).L = ls := rfl
        rw [e1, e2, hkk, HLJ.out, show s + n - n + kk = st by omega]
      have HSF := hid hSf
      have HKK := hid hkk
      have HST := hid hst
      have hkc : (kp < 0 ∧ kk = 0) ∨ (0 ≤ kp ∧ kp = (kk : Int) ∧ kk ≤ n) ∨ ((n : Int) < kp ∧ kk = n) := by omega
      have hO13 : Below w.heap.size wr w3 := hO3.below HFW.out (by omega)
      have hb3w := hbr.trans hO13
      have hz3 := hO13.size
      have hrd := hla3.own.read HLJ.out
      have htk := hla3.take_ HLJ.out hst2
      have hlt : (ls.take st).length = st := by rw [List.length_take, HLJ.out]; omega
      have HLT := hid hlt
      have hca := hla3.own.own
      obtain ⟨hcc1, hcc2⟩ : s + n ≤ ca ∧ ca ≤ 9223372036854775807 := by
        rw [HLJ.out] at hca
        exact own_cap hca
      have g1 : (st : Int) ≤ (ca : Int) := by omega
      have g2 : ((s : Int) + (kk : Int)) = (st : Int) := by have := HST.out; omega
      have hz3w := hb3w.size
      clear hS hD3 hSf hkk hst hdr hla hca hlt
      go_upto_region 21 with fail
      go_cut [17] (fun a wx => a = .int .i64 (st : Int) ∧ w3 = wx)
      case first =>
        have hkc2 : (kp < 0 ∧ kk = 0) ∨ (kp = 0 ∧ kk = 0) ∨ (0 < kk ∧ kp = (kk : Int) ∧ kk ≤ n) ∨ ((n : Int) < kp ∧ kk = n ∧ n = 0) ∨ ((n : Int) < kp ∧ kk = n ∧ 0 < n) := by omega
        clear hkc
        rcases hkc2 with ⟨k1, k2⟩ | ⟨k1, k2⟩ | ⟨k1, k2, k3⟩ | ⟨k1, k2, k3⟩ | ⟨k1, k2, k3⟩
        · subst k2
          obtain rfl : st = s := by have := HST.out; omega
          have q1 : kp ≤ (n : Int) := by omega
          clear g1 g2
          go_wp2_with fail
          go_meet
          exact ⟨by first | rfl | simp, rfl⟩
        · subst k1 k2
          obtain rfl : st = s := by have := HST.out; omega
          clear g1 g2
          go_wp2_with fail
          go_meet
          exact ⟨by first | rfl | simp, rfl⟩
        · subst k2
          have q1 : (0 : Int) < (kk : Int) := by omega
          have q2 : (kk : Int) ≤ (n : Int) := by omega
          have G2 := hid g2
          clear g1 g2
          go_wp2_with fail
          go_meet
          exact ⟨by rw [← G2.out], rfl⟩
        · subst k2 k3
          obtain rfl : st = s := by have := HST.out; omega
          clear g1 g2
          go_wp2_with fail
          go_meet
          exact ⟨by first | rfl | simp, rfl⟩
        · subst k2
          have q1 : (0 : Int) < (kk : Int) := by omega
          have G2 := hid g2
          clear g1 g2
          go_wp2_with fail
          go_meet
          exact ⟨by rw [← G2.out], rfl⟩
      case rest =>
      obtain ⟨rfl, rfl⟩ := hcut
      have h0st : (0 : Int) ≤ (st : Int) := by omega
      clear g2 hkc
      go_upto_region 23 with fail
      go_cut [101] (fun c wx => (∃ tb : Bool, c = .bool tb ∧ Hid (tb = true ↔ kk < n ∧ 0 < tp)) ∧ w3 = wx)
      case first =>
        by_cases hB1 : kk < n
        · have hi1 : (st : Int) < (s : Int) + (n : Int) := by have := HST.out; omega
          by_cases hB2 : 0 < tp
          · clear g1
            go_wp2_with fail
            go_meet
            exact ⟨⟨true, by simp, hid (by simp [hB1, hB2])⟩, rfl⟩
          · clear g1
            go_wp2_with fail
            go_meet
            exact ⟨⟨false, by simp, hid (by simp [hB2])⟩, rfl⟩
        · have hi1 : ¬ (st : Int) < (s : Int) + (n : Int) := by have := HST.out; omega
          clear g1
          go_wp2_with fail
          go_meet
          exact ⟨⟨false, by simp, hid (by simp [hB1])⟩, rfl⟩
      case rest =>
      obtain ⟨⟨tb, rfl, HTB⟩, rfl⟩ := hcut
      go_upto_if 101 with fail
      go_cut [18] (fun v wx => ∃ (Aw : Option Addr) (nw cw : Nat) (vw : List Value), v = .slice Aw nw cw ∧ RBs wx wx.heap.size Aw nw vw S ∧ nw ≤ 20 ∧ Below w3.heap.size w3 wx)
      case first =>
        cases tb with
        | true =>
          obtain ⟨hB1, hB2⟩ := HTB.out.1 rfl
          have hs : S = ls.take st ++ [tornL (ls.getD st []) tp] := by rw [HSF.out, if_pos ⟨hB1, hB2⟩]
          have hi1 : (st : Int) < (s : Int) + (n : Int) := by have := HST.out; omega
          have hstn : st < s + n := by omega
          obtain ⟨b, o, A1, c1, rfl, hb, hce, hl1, hc1, sl1⟩ := hrd.get hstn
          have hx64 : (ls.getD st []).length = 64 := by
            rw [List.getD_eq_getElem?_getD, List.getElem?_eq_getElem (by rw [HLJ.out]; exact hstn)]
            exact HC.out _ (List.getElem_mem _)
          have hrl : Sl w3 w3.heap.size 1 (some ⟨b, o, none⟩) st (vs.take st) := by
            have := hrd.sl.take (show st ≤ s + n by omega)
            rwa [Nat.mul_one] at this
          generalize ls.getD st [] = x at *
          rw [hx64] at hce hl1 sl1
          have HS := hid hs
          obtain ⟨tn, htn⟩ : ∃ k : Nat, min tp.toNat 64 = k := ⟨_, rfl⟩
          have HTR := hid (torn_row hx64 htn)
          have HTL := hid (torn_len hx64 tp)
          have htn1 : 1 ≤ tn := by omega
          have htn64 : tn ≤ 64 := by omega
          have htc : (tn : Int) ≤ (c1 : Int) := by omega
          have stn : Sl w3 w3.heap.size 1 A1 tn ((x.take tn).map bv8) := by
            have := sl1.take htn64
            rwa [Nat.mul_one, ← List.map_take] at this
          have hln : (vs.take st).length = st * 1 := by have := hrd.sl.len; simp; omega
          obtain ⟨i0, hi, hz0, hz1, hz2⟩ := info_parts infoB
          have hsz : (Try.prog.info? 5).map (·.size) = some 1 := by rw [hi]; simp [hz1]
          have htc2 : (tp ≤ 64 ∧ tp = (tn : Int)) ∨ (64 < tp ∧ tn = 64) := by omega
          have HTK := hid htk
          have hsti : (st : Int) < (s : Int) + (n : Int) := hi1
          have HS20 := hid (show st + 1 ≤ 20 by omega)
          clear hs HTB hB1 hrd htk hx64 sl1 htn
          rcases htc2 with ⟨t1, t2⟩ | ⟨t1, t2⟩
          · subst t2
            go_wp2_with (first
              | (at_make; refine wpl_make _ rfl (.const (.int .i64 64)) (.const (.int .i64 64)) 28 rfl 5 i0 (.int .u8 0) 1 Try.underlying28 hi hz0 hz1 hz2 rfl .i64 .i64 _ _ 64 64 rfl rfl rfl (by omega) (by omega) (by omega) (by omega) ?_; intro w4 r4 b4 s4; have ke := (b4.cell (p := ⟨b, o + st, none⟩) hb).trans hce)
              | ((with_reducible show wpList _ _ _ (⟨some 111, _, _, _, _, _⟩ :: _) _ _); go_must (refine wpl_copy rfl (.tmp 103) (.tmp 110) 28 28 rfl 5 Try.underlying28 hsz _ _ 64 64 tn c1 rfl rfl w3.heap.size 0 _ 5 r4 _ _ (stn.below b4) (fun _ => rfl) (by first | (simp; omega) | simp) (u8s_cell _) ?_); intro w5 r5 g5; rw [HTR.out] at r5; have b5 : Below w3.heap.size w3 w5 := b4.grown g5 (Nat.le_of_lt (by omega)) (fun k hk => by injection hk with hk; omega); have hw5 := b5.size)
              | ((with_reducible show wpList _ _ _ (⟨some 115, _, _, _, _, _⟩ :: _) _ _); go_must (refine wpList_append_grows _ rfl (.tmp 112) (.tmp 114) 27 rfl 28 i1 (.slice none 0 0) 1 24 Try.underlying27 hi' hz0' hz1' hz2' rfl (by omega) (some ⟨b, o, none⟩) st st (vs.take st) rfl (fun e => by cases e) hln (((hrl.below b5).below (((Below.refl w5.heap.size w5).alloc (Nat.le_refl _) _).mono hw5)).holds) ⟨w5.heap.size, 0, none⟩ 1 1 [.slice (some ⟨w3.heap.size, 0, none⟩) 64 64] rfl rfl (World.news_of_block (heap_alloc_new w5 _)) (by simp [Value.oneCell']) (by omega) (by unfold maxLen; omega) (by omega) ?_); intro v6 w6 o6 g6; obtain ⟨A6, c6, rfl, hc61, hc62, _⟩ := own_slice o6; have b6 : Below w3.heap.size w3 w6 := (b5.alloc b5.size _).grown g6 (Nat.le_trans b5.size (by simp)) (fun k hk => by cases hk)))
            have r6 := (r5.alloc (.cells #[.slice (some ⟨w3.heap.size, 0, none⟩) 64 64] 28)).grown g6 (by simp)
            have ox := r6.own (base := w3.heap.size) (size := 1) (n := 64) (cap := 64) (Nat.le_refl _) (Nat.le_refl _) (by unfold maxLen; omega) (by rw [List.length_map, HTL.out])
            rw [List.take_of_length_le (by rw [List.length_map, HTL.out]; omega)] at ox
            have hx : OB w3.heap.size w6 (.slice (some ⟨w3.heap.size, 0, none⟩) 64 64) (tornL x (tn : Int)) := by unfold OB; rw [HTL.out]; exact ox
            have ho6 : w6.ownsRow w3.heap.size 28 1 (.slice A6 (st + 1) c6) (st + 1) (vs.take st ++ [.slice (some ⟨w3.heap.size, 0, none⟩) 64 64]) := own_base o6 (Nat.le_trans b5.size (by simp))
            have hob := HTK.out.own.snoc_new b6 (by rw [HLT.out]; exact own_base ho6 (Nat.zero_le _)) (own_base hx (Nat.zero_le _))
            go_meet
            exact ⟨A6, st + 1, c6, _, rfl, by rw [HS.out]; exact hob.read (by rw [List.length_append, HLT.out]; rfl), HS20.out, b6⟩
          · subst t2
            go_wp2_with (first
              | (at_make; refine wpl_make _ rfl (.const (.int .i64 64)) (.const (.int .i64 64)) 28 rfl 5 i0 (.int .u8 0) 1 Try.underlying28 hi hz0 hz1 hz2 rfl .i64 .i64 _ _ 64 64 rfl rfl rfl (by omega) (by omega) (by omega) (by omega) ?_; intro w4 r4 b4 s4; have ke := (b4.cell (p := ⟨b, o + st, none⟩) hb).trans hce)
              | ((with_reducible show wpList _ _ _ (⟨some 111, _, _, _, _, _⟩ :: _) _ _); go_must (refine wpl_copy rfl (.tmp 103) (.tmp 110) 28 28 rfl 5 Try.underlying28 hsz _ _ 64 64 64 c1 rfl rfl w3.heap.size 0 _ 5 r4 _ _ (stn.below b4) (fun _ => rfl) (by first | (simp; omega) | simp) (u8s_cell _) ?_); intro w5 r5 g5; rw [HTR.out] at r5; have b5 : Below w3.heap.size w3 w5 := b4.grown g5 (Nat.le_of_lt (by omega)) (fun k hk => by injection hk with hk; omega); have hw5 := b5.size)
              | ((with_reducible show wpList _ _ _ (⟨some 115, _, _, _, _, _⟩ :: _) _ _); go_must (refine wpList_append_grows _ rfl (.tmp 112) (.tmp 114) 27 rfl 28 i1 (.slice none 0 0) 1 24 Try.underlying27 hi' hz0' hz1' hz2' rfl (by omega) (some ⟨b, o, none⟩) st st (vs.take st) rfl (fun e => by cases e) hln (((hrl.below b5).below (((Below.refl w5.heap.size w5).alloc (Nat.le_refl _) _).mono hw5)).holds) ⟨w5.heap.size, 0, none⟩ 1 1 [.slice (some ⟨w3.heap.size, 0, none⟩) 64 64] rfl rfl (World.news_of_block (heap_alloc_new w5 _)) (by simp [Value.oneCell']) (by omega) (by unfold maxLen; omega) (by omega) ?_); intro v6 w6 o6 g6; obtain ⟨A6, c6, rfl, hc61, hc62, _⟩ := own_slice o6; have b6 : Below w3.heap.size w3 w6 := (b5.alloc b5.size _).grown g6 (Nat.le_trans b5.size (by simp)) (fun k hk => by cases hk)))
            have r6 := (r5.alloc (.cells #[.slice (some ⟨w3.heap.size, 0, none⟩) 64 64] 28)).grown g6 (by simp)
            have ox := r6.own (base := w3.heap.size) (size := 1) (n := 64) (cap := 64) (Nat.le_refl _) (Nat.le_refl _) (by unfold maxLen; omega) (by rw [List.length_map, HTL.out])
            rw [List.take_of_length_le (by rw [List.length_map, HTL.out]; omega)] at ox
            have hx : OB w3.heap.size w6 (.slice (some ⟨w3.heap.size, 0, none⟩) 64 64) (tornL x tp) := by unfold OB; rw [HTL.out]; exact ox
            have ho6 : w6.ownsRow w3.heap.size 28 1 (.slice A6 (st + 1) c6) (st + 1) (vs.take st ++ [.slice (some ⟨w3.heap.size, 0, none⟩) 64 64]) := own_base o6 (Nat.le_trans b5.size (by simp))
            have hob := HTK.out.own.snoc_new b6 (by rw [HLT.out]; exact own_base ho6 (Nat.zero_le _)) (own_base hx (Nat.zero_le _))
            go_meet
            exact ⟨A6, st + 1, c6, _, rfl, by rw [HS.out]; exact hob.read (by rw [List.length_append, HLT.out]; rfl), HS20.out, b6⟩
        | false =>
          have hs : S = ls.take st := by rw [HSF.out, if_neg (fun h => by have := HTB.out.2 h; cases this)]
          have hwant : RBs w3 w3.heap.size Aa st (vs.take st) (ls.take st) := htk.own.read HLT.out
          clear hrd htk HTB
          go_wp2_with fail
          go_meet
          exact ⟨Aa, st, st, vs.take st, rfl, by rw [hs]; exact hwant, by omega, Below.refl _ _⟩
      case rest =>
      obtain ⟨Aw, nw, cw, vw, rfl, hwant, hnw, hbc⟩ := hcut
      have hlS : S.length = nw := hwant.len
      have hdr4 := hdr3.new_ hbc
      have hok3 : DOk 0 (fallD S 0) := fall_ok (by rw [hlS]; exact hnw) (Nat.zero_le _) (by
        rw [HSF.out]
        intro y hy
        split at hy
        · rename_i hq
          rcases List.mem_append.1 hy with hy | hy
          · exact HC.out y (List.mem_of_mem_take hy)
          · rw [List.mem_singleton] at hy
            rw [hy]
            exact torn_len (by
              rw [List.getD_eq_getElem?_getD, List.getElem?_eq_getElem (by rw [HLJ.out]; have := HST.out; omega)]
              exact HC.out _ (List.getElem_mem _)) tp
        · exact HC.out y (List.mem_of_mem_take hy))
      have hbt := hb3w.trans (hbc.mono hz3w)
      have HL3 := hid (show (fallD S 0).L.length = nw from hlS)
      have hzc := hbc.size
      clear hlS hrd htk hcc1 hcc2 g1 h0st
      go_wp2_with fail
      refine (dall_any _ g pg _ 0 wc hdr4 hok3).mono ?_
      rintro e w4 ⟨A4, c4, vs4, rfl, ho4, hd4, hb4⟩
      rw [HL3.out] at ho4 ⊢
      have r4 := ho4.read HL3.out
      have rw4 := (hwant.below hb4).mono hb4.size
      have hdr5 := hdr4.new_ hb4
      have hbt4 := hbt.trans (hb4.mono (by omega))
      have hz4 := hb4.size
      go_wp2_with fail
      refine (rows_is true _ A4 Aw vs4 vw S S nw nw c4 cw w4 r4 rw4 (by omega) (by omega) (decide_eq_true rfl)).mono ?_
      rintro e w5 ⟨rfl, dn, rfl⟩
      have hdr6 := hdr5.only ((Only.refl (fun _ => False) w4).drewN dn) (fun _ _ hf => hf)
      have hbt5 := below_drewN hbt4 dn
      have hz5 : w4.heap.size ≤ (w4.drewN dn).heap.size := Nat.le_refl _
      generalize w4.drewN dn = w5 at *
      go_wp2_with fail
      refine (dpending_any _ g pg _ w5 hdr6).mono ?_
      rintro e w6 ⟨rfl, hw6⟩
      rw [← hw6, show (fallD S 0).wait = 0 from rfl]
      clear hw6 w6
      go_wp2_with fail
      refine (wakes22 w5).mono ?_
      rintro e w6 ⟨rfl, hb6⟩
      go_wp2_with fail
      go_ret
      exact ⟨rfl, hbt5.trans (hb6.mono (by omega))⟩
end Go.Proofs.Ytcklnkilldeamaa
