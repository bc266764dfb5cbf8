/- DriveApart. -/
import Derived.Test.YtcklnkilldeamaaLaw22
import Derived.Test.YtcklnkilldeamaaData
import Derived.Test.YtcklnkilldeamaaWithin
import Derived.Test.YtcklnkilldeamaaAlike
import Derived.Test.YtcklnkilldeamaaDrvClone
import Derived.Test.YtcklnkilldeamaaDrvSpoil
namespace Wells
open Go Go.RowKit
def apD (ls : List (List Byte)) : Dr := ⟨Pw.new, 9, ls, ls.length, [], false, false⟩
theorem ap_app {ls : List (List Byte)} {c : List Byte} (hc : c.length = 64) (hl : ls.length < 9) : (apD ls).append c = (apD (ls ++ [c]), 0) := by
  unfold Dr.append
  rw [if_neg (by rw [hc]; simp), if_neg (by simp [apD]), if_neg (by simp [apD]; omega), if_neg (by simp [apD, Pw.new]), if_pos (by rfl)]
  unfold apD Dr.went
  rw [List.length_append]
  rfl
theorem ap_ok {ls : List (List Byte)} (hl : ls.length ≤ 9) (hc : ∀ x ∈ ls, x.length = 64) : DOk 0 (apD ls) :=
  ⟨⟨by show (1:Nat) ≤ 9; omega, by show (9:Nat) ≤ 512; omega⟩, hl, Nat.zero_le _, Nat.le_refl _, hc, (fun x hx => by cases hx), ⟨Int.le_refl _, by show (0 : Int) ≤ 9223372036854775807; omega⟩, ⟨Int.le_refl _, Int.le_refl _⟩⟩
theorem spoilL_at {x : List Byte} {a m : Nat} (ha : a < x.length) : ∀ k, (spoilL x a m (k + 1)).getD a 0 = x.getD a 0 ^^^ spoilB m 0
  | 0 => by
    unfold spoilL
    rw [getD_setL (by rw [spoilL_len]; exact ha), if_pos (show a = a + 0 from rfl)]
    rfl
  | k + 1 => by
    rw [← spoilL_at ha k]
    rw [show spoilL x a m (k + 1 + 1) = (spoilL x a m (k + 1)).set (a + (k + 1)) ((spoilL x a m (k + 1)).getD (a + (k + 1)) 0 ^^^ spoilB m (k + 1)) from rfl]
    rw [List.getD_eq_getElem?_getD, List.getElem?_set_ne (by omega), ← List.getD_eq_getElem?_getD]
theorem spoilL_ne {x : List Byte} {a m : Nat} (ha : a < x.length) (hm : m % 2 = 1) : spoilL x a m 4 ≠ x := fun e => by
  have h := spoilL_at (m := m) ha 3
  rw [e] at h
  have h2 : spoilB m 0 = 0#8 := by
    have := congrArg (fun y => x.getD a 0 ^^^ y) h
    simp only [← BitVec.xor_assoc, BitVec.xor_self, BitVec.zero_xor] at this
    exact this.symm
  have h3 := congrArg BitVec.toNat h2
  unfold spoilB at h3
  rw [BitVec.toNat_ofNat] at h3
  simp at h3
  omega
theorem or_odd (z : Int) : ∃ q : Nat, bits .or .u32 (z % 4294967296) 1 = (q : Int) ∧ q % 2 = 1 ∧ q < 4294967296 := by
  obtain ⟨p, hp, hp2⟩ : ∃ p : Nat, z % 4294967296 = (p : Int) ∧ p < 4294967296 := ⟨(z % 4294967296).toNat, by omega, by omega⟩
  refine ⟨p ||| 1, ?_, ?_, ?_⟩
  · rw [hp]; exact u32_or_nat p 1 hp2 (by omega)
  · rw [Nat.or_mod_two_eq_one]
    exact .inr rfl
  · exact Nat.or_lt_two_pow (n := 32) hp2 (by omega)
theorem ap_spoil {ls : List (List Byte)} {a q : Nat} (h0 : 0 < ls.length) (ha : a ≤ 60) (hq : q % 2 = 1) : (apD ls).spoil 0 (a : Int) (q : Int) = ({ apD ls with L := ls.set 0 (spoilL (ls.getD 0 []) a q 4) }, true) := by
  unfold Dr.spoil
  rw [if_pos ⟨by omega, (show (0 : Int) < (ls.length : Int) by omega), by omega, by omega, by omega⟩]
  rfl
end Wells
namespace Go.Proofs.Ytcklnkilldeamaa
open Go.RowKit Wells
theorem DrvE.lt_ {F : Nat → Prop} {w : World} {g pg : Nat} {d : Dr} (h : DrvE F w g pg d) : ∀ k, F k → k < w.heap.size := by obtain ⟨_, _, _, _, h⟩ := h; exact h.lt
set_option maxRecDepth 20000 in
set_option maxHeartbeats 1000000 in
theorem walk_DriveApart (nn x at_ mask : Int) (w : World) (h1 : -9223372036854775808 ≤ nn ∧ nn ≤ 9223372036854775807) (h2 : -9223372036854775808 ≤ x ∧ x ≤ 9223372036854775807) (h3 : -9223372036854775808 ≤ at_ ∧ at_ ≤ 9223372036854775807) (h4 : 0 ≤ mask ∧ mask ≤ 18446744073709551615) :
    Calls Try.prog 5 #[.int .i64 nn, .int .i64 x, .int .i64 at_, .int .u64 mask] w fun e w' => e = .returned (.bool true) ∧ Below w.heap.size w w' := by
  obtain ⟨n, hn⟩ : ∃ k : Nat, (k : Int) = nn % 8 := ⟨(nn % 8).toNat, by omega⟩
  obtain ⟨a, ha⟩ : ∃ k : Nat, (k : Int) = at_ % 61 := ⟨(at_ % 61).toNat, by omega⟩
  obtain ⟨q, hq, hq1, hq2⟩ := or_odd mask
  obtain ⟨N, hN⟩ : ∃ N, n + 1 = N := ⟨_, rfl⟩
  have hn7 : N ≤ 8 := by omega
  have hN1 : 0 < N := by omega
  have ha60 : a ≤ 60 := by omega
  have HN := hid hn
  have HNN := hid hN
  have HA := hid ha
  have HQ1 := hid hq1
  clear hq1 ha
  have e26 : IntKind.i64.wrap (1 + (n : Int)) = (N : Int) := by rw [IntKind.wrap_i64]; omega
  clear hn hN
  go_enter Try.func5, Try.ntmps5
  go_wp2_with fail
  refine (pnew_any w).mono ?_
  rintro e w1 ⟨pg, rfl, hpg, hp1, hb1⟩
  go_wp2_with fail
  refine (dnew_any 9 pg Pw.new w1 (by omega) (by omega) hp1).mono ?_
  rintro e w2 ⟨g, rfl, hg, hd2, hb2⟩
  have hz1 := hb1.size
  have hz2 := hb2.size
  have hb02 := hb1.trans (hb2.mono hz1)
  have HPG := hid hpg
  have HG := hid hg
  clear hpg hg hp1 hb1 hb2
  go_wp2_with fail
  go_loopw [11] (fun i wr => ∃ (j : Nat) (ls : List (List Byte)) (F : Nat → Prop), j ≤ N ∧ i = .int .i64 j ∧ ls.length = j ∧ (∀ x ∈ ls, x.length = 64) ∧ DrvE F wr g pg (apD ls) ∧ (∀ k, F k → w.heap.size ≤ k) ∧ Below w.heap.size w wr) (fun i _ => N - (intOf i).toNat)
  case atStart =>
    have hpg := HPG.out
    have hg := HG.out
    refine ⟨0, [], fun k => k = g ∨ k = pg, by omega, rfl, rfl, (fun x hx => by cases hx), hd2, fun k hk => ?_, hb02⟩
    rcases hk with rfl | rfl <;> omega
  case round =>
    obtain ⟨j, ls, F, hj, rfl, hlj, hc64, hdr, hFw, hbr⟩ := hrel
    have hwr := hbr.size
    have HC := hid hc64
    have HLJ := hid hlj
    have HFW := hid hFw
    have HBR := hid hbr
    have HDR := hid hdr
    clear hc64 hlj hFw hbr hdr hd2 hb02
    by_cases hlt : j < N
    · obtain ⟨xv, hxv⟩ : ∃ v, IntKind.i64.wrap (x + (j : Int)) = v := ⟨_, rfl⟩
      have hxr : -9223372036854775808 ≤ xv ∧ xv ≤ 9223372036854775807 := by rw [← hxv, IntKind.wrap_i64]; omega
      have hlt2 : (j : Int) < (N : Int) := by omega
      go_wp2_with fail
      refine (within_any nn 8 _ h1.1 h1.2 (by omega) (by omega)).mono ?_
      rintro e w3 ⟨rfl, hw3⟩
      rw [← HN.out, ← hw3]
      clear hw3 w3
      go_wp2_with fail
      refine (data_any 64 xv wr (by omega) hxr).mono ?_
      rintro e w3 ⟨Ac, cc, c, rfl, hcl, hoc, hb3⟩
      have hz3 := hb3.size
      have hdr3 := HDR.out.new_ hb3
      have hok : DOk 0 (apD ls) := ap_ok (by rw [HLJ.out]; omega) HC.out
      obtain ⟨_, _, ec, _, _, hsc⟩ := hoc.read
      injection ec with ec1 ec2 ec3
      subst ec1 ec3
      rw [hcl] at hsc
      have HSC := hid hsc
      have HCL := hid hcl
      have HB3 := hid hb3
      clear ec2 hoc hsc hb3
      go_wp2_with fail
      refine (dappend_any F g pg _ 0 w3.heap.size Ac c 64 cc w3 hdr3 hok (by omega) HSC.out (Nat.le_refl _) (by omega)).mono ?_
      rintro e w7 ⟨rfl, hdr7, hO7⟩
      rw [ap_app HCL.out (by rw [HLJ.out]; omega)] at hdr7 ⊢
      dsimp only at hdr7 ⊢
      have hz7 := hO7.size
      have hb7 : Below w.heap.size w w7 := (HBR.out.trans (HB3.out.mono hwr)).trans (hO7.below HFW.out (by omega))
      have hall : ∀ y ∈ ls ++ [c], y.length = 64 := fun y hy => by
        rcases List.mem_append.1 hy with hy | hy
        · exact HC.out y hy
        · rw [List.mem_singleton] at hy; subst hy; exact HCL.out
      have hF7 : ∀ k, Ext F w3 w7 k → w.heap.size ≤ k := fun k hk => by
        rcases hk with hk | hk
        · exact HFW.out k hk
        · omega
      have HAL := hid hall
      have HF7 := hid hF7
      have HD7 := hid hdr7
      have HB7 := hid hb7
      have HLN := hid (show (ls ++ [c]).length = j + 1 by rw [List.length_append, HLJ.out]; rfl)
      clear hall hdr3 hF7 hdr7 hb7 hok hO7
      go_wp2_with fail
      go_roundw
      case rel => exact ⟨j + 1, ls ++ [c], Ext F w3 w7, by omega, by go_num, HLN.out, HAL.out, HD7.out, HF7.out, HB7.out⟩
      case measure => simp [intOf]; omega
    · have hjp : j = N := by omega
      subst hjp
      go_wp2_with fail
      refine (within_any nn 8 _ h1.1 h1.2 (by omega) (by omega)).mono ?_
      rintro e w3 ⟨rfl, hw3⟩
      rw [← HN.out, ← hw3]
      clear hw3 w3
      have hok : DOk 0 (apD ls) := ap_ok (by rw [HLJ.out]; omega) HC.out
      have HOK := hid hok
      have HF0 := hid HDR.out.lt_
      clear hok
      go_wp2_with fail
      refine (dall_any F g pg _ 0 wr HDR.out HOK.out).mono ?_
      rintro e w4 ⟨AW, cW, vW, rfl, hoW, _, hb4⟩
      have hlL : (apD ls).L = ls := rfl
      rw [hlL] at hoW ⊢
      rw [HLJ.out] at hoW ⊢
      have hz4 := hb4.size
      have HD4 := hid (HDR.out.new_ hb4)
      have HW4 := hid (Lst.of_own (w0 := wr) (F := fun k => wr.heap.size ≤ k ∧ k < w4.heap.size) hoW (fun k h1 h2 => ⟨h1, h2⟩))
      have HB4 := hid (HBR.out.trans (hb4.mono hwr))
      clear hlL hoW hb4
      go_wp2_with fail
      refine (pnew_any w4).mono ?_
      rintro e w5 ⟨pc, rfl, hpc, hp5, hb5⟩
      have hz5 := hb5.size
      have HD5 := hid (HD4.out.new_ hb5)
      have HW5 := hid (HW4.out.only (Only.of_new (F := fun _ => False) hb5) (fun _ _ hf => hf))
      have HB5 := hid (HB4.out.trans (hb5.mono (by omega)))
      have HP5 := hid hp5
      clear hp5 hb5
      go_wp2_with fail
      refine (dclone_any F g pg _ 0 pc Pw.new w5 HD5.out HOK.out HP5.out).mono ?_
      rintro e w6 ⟨gc, rfl, hgc, hc6, hb6⟩
      have hz6 := hb6.size
      have HD6 := hid (HD5.out.new_ hb6)
      have HW6 := hid (HW5.out.only (Only.of_new (F := fun _ => False) hb6) (fun _ _ hf => hf))
      have HB6 := hid (HB5.out.trans (hb6.mono (by omega)))
      have HC6 : Hid (DrvE (fun k => k = pc ∨ (w5.heap.size ≤ k ∧ k < w6.heap.size)) w6 gc pc (apD ls)) := hid hc6
      have HGB := hid (show ∀ k, (k = pc ∨ (w5.heap.size ≤ k ∧ k < w6.heap.size)) → w4.heap.size ≤ k from fun k hk => by rcases hk with rfl | hk <;> omega)
      obtain ⟨GC, hGC⟩ : ∃ G : Nat → Prop, (fun k => k = pc ∨ (w5.heap.size ≤ k ∧ k < w6.heap.size)) = G := ⟨_, rfl⟩
      rw [hGC] at HC6
      have HGB2 := hid (show ∀ k, GC k → w4.heap.size ≤ k from fun k hk => by rw [← hGC] at hk; exact HGB.out k hk)
      clear hc6 hb6 hGC HGB HP5 HDR
      go_wp2_with fail
      refine (clone_nil g w6).mono ?_
      rintro e w6' ⟨rfl, rfl⟩
      go_wp2_with fail
      refine (dall_any GC gc pc _ 0 w6 HC6.out HOK.out).mono ?_
      rintro e w7 ⟨AC, cC, vC, rfl, hoC, _, hb7⟩
      have hlL : (apD ls).L = ls := rfl
      rw [hlL] at hoC ⊢
      rw [HLJ.out] at hoC ⊢
      have hz7 := hb7.size
      have HD7 := hid (HD6.out.new_ hb7)
      have HW7 := hid (HW6.out.only (Only.of_new (F := fun _ => False) hb7) (fun _ _ hf => hf))
      have HC7 := hid (HC6.out.new_ hb7)
      have HB7 := hid (HB6.out.trans (hb7.mono (by omega)))
      have HRC := hid (hoC.read HLJ.out)
      have HRW := hid (HW7.out.own.read HLJ.out)
      clear hlL hoC hb7
      go_wp2_with fail
      refine (rows_is true w7.heap.size AC AW vC vW ls ls j j cC cW w7 HRC.out HRW.out (by omega) (by omega) (decide_eq_true rfl)).mono ?_
      rintro e w8 ⟨rfl, dd, rfl⟩
      have hb78 : Below w7.heap.size w7 (w7.drewN dd) := below_drewN (Below.refl _ _) dd
      have HD8 := hid (HD7.out.new_ hb78)
      have HW8 := hid (HW7.out.only (Only.of_new (F := fun _ => False) hb78) (fun _ _ hf => hf))
      have HC8 := hid (HC7.out.new_ hb78)
      have HB8 := hid (HB7.out.trans (hb78.mono (by omega)))
      have hz8 : w7.heap.size = (w7.drewN dd).heap.size := rfl
      clear hb78
      generalize w7.drewN dd = w8 at *
      go_wp2_with fail
      refine (dpending_any GC gc pc _ w8 HC8.out).mono ?_
      rintro e w8' ⟨rfl, rfl⟩
      have hwt : (apD ls).wait = j := HLJ.out
      rw [hwt]
      go_wp2_with fail
      refine (dpending_any F g pg _ w8 HD8.out).mono ?_
      rintro e w8' ⟨rfl, rfl⟩
      rw [hwt]
      go_wp2_with fail
      refine (within_any at_ 61 _ h3.1 h3.2 (by omega) (by omega)).mono ?_
      rintro e w8' ⟨rfl, hw8⟩
      rw [← HA.out, ← hw8]
      clear hw8 w8' hwt
      go_wp2_with fail

      refine (dspoil_any GC gc pc (apD ls) 0 0 a q w8 HC8.out HOK.out (by omega) (by omega) (by omega)).mono ?_
      rintro e w9 ⟨rfl, hc9, hO9⟩
      rw [ap_spoil (by rw [HLJ.out]; omega) ha60 HQ1.out] at hc9 ⊢
      dsimp only at hc9 ⊢
      have h064 : (ls.getD 0 []).length = 64 := by
        rw [List.getD_eq_getElem?_getD, List.getElem?_eq_getElem (by rw [HLJ.out]; omega)]
        exact HC.out _ (List.getElem_mem _)
      have hne : ls.set 0 (spoilL (ls.getD 0 []) a q 4) ≠ ls := fun e => by
        have h1 : (ls.set 0 (spoilL (ls.getD 0 []) a q 4)).getD 0 [] = spoilL (ls.getD 0 []) a q 4 := by rw [getD_setL (by rw [HLJ.out]; omega), if_pos rfl]
        rw [e] at h1
        exact spoilL_ne (by rw [h064]; omega) HQ1.out h1.symm
      have hl2 : (ls.set 0 (spoilL (ls.getD 0 []) a q 4)).length = j := by rw [List.length_set]; exact HLJ.out
      have hc2 : ∀ y ∈ ls.set 0 (spoilL (ls.getD 0 []) a q 4), y.length = 64 := fun y hy => by
        rcases List.mem_or_eq_of_mem_set hy with h1 | rfl
        · exact HC.out y h1
        · rw [spoilL_len]; exact h064
      obtain ⟨l2, hl2e⟩ : ∃ l2, ls.set 0 (spoilL (ls.getD 0 []) a q 4) = l2 := ⟨_, rfl⟩
      rw [hl2e] at hne hl2 hc2 hc9
      have HNE := hid hne
      have HL2 := hid hl2
      have HC9 := hid hc9
      have hok9 : DOk 0 { apD ls with L := l2 } := ⟨⟨by show (1:Nat) ≤ 9; omega, by show (9:Nat) ≤ 512; omega⟩, (show l2.length ≤ 9 by omega), Nat.zero_le _, (show ls.length ≤ l2.length by rw [HLJ.out, hl2]; exact Nat.le_refl _), hc2, (fun x hx => by cases hx), ⟨Int.le_refl _, by show (0 : Int) ≤ 9223372036854775807; omega⟩, ⟨Int.le_refl _, Int.le_refl _⟩⟩
      have HOK9 := hid hok9
      have h48 : w4.heap.size ≤ w8.heap.size := by omega
      have hz9 := hO9.size
      have HD9 := hid (HD8.out.only hO9 (fun k hf hg => by have := HF0.out k hf; have := HGB2.out k hg; omega))
      have HW9 := hid (HW8.out.only hO9 (fun k hf hg => by have := HGB2.out k hg; omega))
      have HB9 := hid (HB8.out.trans ((hO9.below HGB2.out h48).mono (by omega)))
      have H064 := hid h064
      clear h064 hne hl2 hc2 hl2e hc9 hok9 hO9
      go_wp2_with fail
      refine (dsync_any GC gc pc { apD ls with L := l2 } 0 w9 HC9.out HOK9.out (by omega)).mono ?_
      rintro e w10 ⟨rfl, hc10, hO10⟩
      obtain ⟨cd, hcd⟩ : ∃ cd, ({ apD ls with L := l2 } : Dr).sync = cd := ⟨_, rfl⟩
      have hok10 := HOK9.out.sync
      have hcL : cd.1.L = l2 := by rw [← hcd]; rfl
      rw [hcd] at hc10 hok10
      have HC10 := hid hc10
      have HOK10 := hid hok10
      have HCL := hid hcL
      have hz10 := hO10.size
      have HD10 := hid (HD9.out.only hO10 (fun k hf hg => by have := HF0.out k hf; have := HGB2.out k hg; omega))
      have HW10 := hid (HW9.out.only hO10 (fun k hf hg => by have := HGB2.out k hg; omega))
      have HB10 := hid (HB9.out.trans ((hO10.below HGB2.out (by omega)).mono (by omega)))
      clear hcd hok10 hcL hc10 hO10
      go_wp2_with fail
      refine (dread_any F g pg (apD ls) 0 0 w10 HD10.out HOK.out (by omega)).mono ?_
      rintro e w11 ⟨vb, rfl, hob, hb11⟩
      have hrd : (apD ls).read 0 = ls.getD 0 [] := if_pos ⟨by omega, (show (0 : Int) < (ls.length : Int) by rw [HLJ.out]; omega)⟩
      rw [hrd] at hob
      obtain ⟨gb, cb, curb, rfl, hgb, hrb, hcb, hctb, hncb, _⟩ := ownrow_ hob (by rw [H064.out]; omega)
      rw [H064.out] at hctb hncb ⊢
      have hz11 := hb11.size
      have HRB := hid hrb
      have HCB := hid (show curb.take 64 = (ls.getD 0 []).map bv8 by rw [← hctb])
      have HB11 := hid hb11
      clear hrd hob hrb hcb hctb hb11
      go_wp2_with fail
      go_loopw [76] (fun i wr => ∃ (k : Nat) (lb : List Byte) (cur : List Value), k ≤ 64 ∧ i = .int .i64 (k : Int) ∧ lb.length = 64 ∧ Row wr gb 5 cur ∧ cur.take 64 = lb.map bv8 ∧ Below w10.heap.size w10 wr) (fun i _ => 64 - (intOf i).toNat)
      case atStart => exact ⟨0, ls.getD 0 [], curb, by omega, rfl, H064.out, HRB.out, HCB.out, HB11.out⟩
      case round =>
        clear HRB HCB HB11
        obtain ⟨k, lb, cur, hk, rfl, hlb, hrb, hcb, hbe⟩ := hrel
        by_cases hk64 : k < 64
        · have hk3 : (k : Int) < 64 := by omega
          obtain ⟨y, hy⟩ : ∃ y, lb.getD k 0 = y := ⟨_, rfl⟩
          have kb : wr.cell? ⟨gb, k, none⟩ = some (.int .u8 (y.toNat : Int)) := by
            rw [← hy, hrb.cell, ← List.getElem?_take_of_lt hk64, hcb, List.getElem?_map, List.getD_eq_getElem?_getD, List.getElem?_eq_getElem (by omega)]
            rfl
          have fb := hrb.frozen k
          obtain ⟨b, hb⟩ : ∃ b : Byte, ((y.toNat : Int) + 1) % 256 = (b.toNat : Int) := ⟨BitVec.ofNat 8 (y.toNat + 1), by rw [BitVec.toNat_ofNat]; omega⟩
          have HR2 := hid (hrb.set k (bv8 b))
          have HT2 := hid (show (cur.set k (bv8 b)).take 64 = (lb.set k b).map bv8 by rw [List.take_set, hcb, List.map_set])
          have HL3 := hid (show (lb.set k b).length = 64 by rw [List.length_set]; exact hlb)
          have HBE := hid (hbe.setCell (p := (⟨gb, k, none⟩ : Addr)) hgb (bv8 b))
          clear hrb hcb hbe hlb hy
          go_wp2_with fail
          go_roundw
          case rel => exact ⟨k + 1, lb.set k b, cur.set k (bv8 b), by omega, by go_num, HL3.out, HR2.out, HT2.out, HBE.out⟩
          case measure => simp [intOf]; omega
        · have hk64 : k = 64 := by omega
          subst hk64
          have hcl : 64 ≤ cur.length := by have := congrArg List.length hcb; simp at this; omega
          have HSB12 := hid hrb
          have HCB := hid hcb
          have HCL2 := hid hcl
          have HLB := hid hlb
          have HD12 := hid (HD10.out.new_ hbe)
          have HW12 := hid (HW10.out.only (Only.of_new (F := fun _ => False) hbe) (fun _ _ hf => hf))
          have HC12 := hid (HC10.out.new_ hbe)
          have HB12 := hid (HB10.out.trans (hbe.mono (by omega)))
          have hz12 := hbe.size
          clear hrb hcb hbe hcl
          go_wp2_with fail
          refine (dall_any F g pg _ 0 wr HD12.out HOK.out).mono ?_
          rintro e w13 ⟨A13, c13, v13, rfl, ho13, _, hb13⟩
          have hlL : (apD ls).L = ls := rfl
          rw [hlL] at ho13 ⊢
          rw [HLJ.out] at ho13 ⊢
          have HD13 := hid (HD12.out.new_ hb13)
          have HW13 := hid (HW12.out.only (Only.of_new (F := fun _ => False) hb13) (fun _ _ hf => hf))
          have HC13 := hid (HC12.out.new_ hb13)
          have HSB13 := hid (HSB12.out.below hb13 HSB12.out.lt)
          have HB13 := hid (HB12.out.trans (hb13.mono (by omega)))
          have hz13 := hb13.size
          have HRA := hid (ho13.read HLJ.out)
          have HRW13 := hid (HW13.out.own.read HLJ.out)
          clear hlL ho13 hb13
          go_wp2_with fail
          refine (rows_is true w13.heap.size A13 AW v13 vW ls ls j j c13 cW w13 HRA.out HRW13.out (by omega) (by omega) (decide_eq_true rfl)).mono ?_
          rintro e w14 ⟨rfl, d14, rfl⟩
          have hb14 : Below w13.heap.size w13 (w13.drewN d14) := below_drewN (Below.refl _ _) d14
          have HD14 := hid (HD13.out.new_ hb14)
          have HW14 := hid (HW13.out.only (Only.of_new (F := fun _ => False) hb14) (fun _ _ hf => hf))
          have HC14 := hid (HC13.out.new_ hb14)
          have HSB14 := hid (HSB13.out.below hb14 HSB13.out.lt)
          have HB14 := hid (HB13.out.trans (hb14.mono (by omega)))
          have hz14 := hb14.size
          clear hb14
          generalize w13.drewN d14 = w14 at *
          go_wp2_with fail
          refine (dpending_any F g pg _ w14 HD14.out).mono ?_
          rintro e w14' ⟨rfl, rfl⟩
          have hwt : (apD ls).wait = j := HLJ.out
          rw [hwt]
          clear hwt
          go_wp2_with fail
          refine (dall_any GC gc pc cd.1 1 w14 HC14.out HOK10.out).mono ?_
          rintro e w15 ⟨A15, c15, v15, rfl, ho15, _, hb15⟩
          rw [HCL.out] at ho15 ⊢
          rw [HL2.out] at ho15 ⊢
          have HD15 := hid (HD14.out.new_ hb15)
          have HW15 := hid (HW14.out.only (Only.of_new (F := fun _ => False) hb15) (fun _ _ hf => hf))
          have HC15 := hid (HC14.out.new_ hb15)
          have HSB15 := hid (HSB14.out.below hb15 HSB14.out.lt)
          have HB15 := hid (HB14.out.trans (hb15.mono (by omega)))
          have hz15 := hb15.size
          have HRC2 := hid (ho15.read HL2.out)
          have HRW15 := hid (HW15.out.own.read HLJ.out)
          clear ho15 hb15
          go_wp2_with fail
          refine (rows_is false w15.heap.size A15 AW v15 vW l2 ls j j c15 cW w15 HRC2.out HRW15.out (by omega) (by omega) (decide_eq_false HNE.out)).mono ?_
          rintro e w16 ⟨rfl, d16, rfl⟩
          have hb16 : Below w15.heap.size w15 (w15.drewN d16) := below_drewN (Below.refl _ _) d16
          have HD16 := hid (HD15.out.new_ hb16)
          have HC16 := hid (HC15.out.new_ hb16)
          have HSB16 := hid (HSB15.out.below hb16 HSB15.out.lt)
          have HB16 := hid (HB15.out.trans (hb16.mono (by omega)))
          have hz16 := hb16.size
          clear hb16
          generalize w15.drewN d16 = w16 at *
          go_wp2_with fail
          refine (dlose_any F g pg _ w16 HD16.out).mono ?_
          rintro e w17 ⟨rfl, hd17, hO17⟩
          have hz17 := hO17.size
          have HD17 := hid hd17
          have HC17 := hid (HC16.out.only hO17 (fun k hg hf => by have := HF0.out k hf; have := HGB2.out k hg; omega))
          have HSB17 := hid (HSB16.out.only hO17 (fun hf => by have := HF0.out gb hf; omega))
          have HB17 := hid (HB16.out.trans (hO17.below HFW.out (by omega)))
          clear hd17 hO17
          go_wp2_with fail
          refine (nil_Crash 1 1 w17).mono ?_
          rintro e w18 ⟨rfl, d18, rfl⟩
          have hb18 : Below w17.heap.size w17 (w17.drewN d18) := below_drewN (Below.refl _ _) d18
          have HD18 := hid (HD17.out.new_ hb18)
          have HC18 := hid (HC17.out.new_ hb18)
          have HSB18 := hid (HSB17.out.below hb18 HSB17.out.lt)
          have HB18 := hid (HB17.out.trans (hb18.mono (by omega)))
          have hz18 := hb18.size
          clear hb18
          generalize w17.drewN d18 = w18 at *
          go_wp2_with fail
          refine (nil_Lose w18).mono ?_
          rintro e w18' ⟨rfl, rfl⟩
          go_wp2_with fail
          refine (nil_Room w18).mono ?_
          rintro e w18' ⟨rfl, rfl⟩
          go_wp2_with fail
          refine (nil_Len w18).mono ?_
          rintro e w18' ⟨rfl, rfl⟩
          go_wp2_with fail
          refine (nil_Pending w18).mono ?_
          rintro e w18' ⟨rfl, rfl⟩
          go_wp2_with fail
          refine (nil_Read 0 w18).mono ?_
          rintro e w18' ⟨rfl, rfl⟩
          go_wp2_with fail
          refine (nil_All w18).mono ?_
          rintro e w18' ⟨rfl, rfl⟩
          go_wp2_with fail
          refine (nil_Lost w18).mono ?_
          rintro e w18' ⟨rfl, rfl⟩
          go_wp2_with fail
          refine (nil_Clone _ w18).mono ?_
          rintro e w18' ⟨rfl, rfl⟩
          go_wp2_with fail
          refine (nil_Append _ 64 _ w18 rfl).mono ?_
          rintro e w18' ⟨rfl, rfl⟩
          go_wp2_with fail
          refine (nil_Sync w18).mono ?_
          rintro e w18' ⟨rfl, rfl⟩
          go_wp2_with fail
          refine (nil_Rewrite w18).mono ?_
          rintro e w18' ⟨rfl, rfl⟩
          go_wp2_with fail
          refine (nil_Spoil 0 0 1 w18).mono ?_
          rintro e w18' ⟨rfl, rfl⟩
          have hokl : DOk 0 (apD ls).lose := ⟨⟨by show (1:Nat) ≤ 9; omega, by show (9:Nat) ≤ 512; omega⟩, Nat.zero_le _, Nat.zero_le _, Nat.zero_le _, (fun x hx => by cases hx), (fun x hx => by cases hx), ⟨Int.le_refl _, by show (0 : Int) ≤ 9223372036854775807; omega⟩, ⟨Int.le_refl _, Int.le_refl _⟩⟩
          have HOKL := hid hokl
          clear hokl
          go_wp2_with fail
          refine (dlost_any F g pg _ w18 HD18.out).mono ?_
          rintro e w18' ⟨rfl, rfl⟩
          rw [show (apD ls).lose.lost = true from rfl]
          go_wp2_with fail
          refine (dlen_any F g pg _ w18 HD18.out).mono ?_
          rintro e w18' ⟨rfl, rfl⟩
          rw [show (((apD ls).lose.L.length : Nat) : Int) = 0 from rfl]
          go_wp2_with fail
          refine (droom_any F g pg _ w18 HD18.out).mono ?_
          rintro e w18' ⟨rfl, rfl⟩
          rw [show (((apD ls).lose.room : Nat) : Int) = 9 from rfl]
          go_wp2_with fail
          have hsb18 : Sl w18 w18.heap.size 1 (some ⟨gb, 0, none⟩) 64 (lb.map bv8) := by rw [← HCB.out]; exact HSB18.out.sl (B := w18.heap.size) (m := 64) HSB18.out.lt HCL2.out
          refine (dappend_any F g pg _ 0 w18.heap.size _ lb 64 _ w18 HD18.out HOKL.out (by omega) hsb18 (Nat.le_refl _) (by omega)).mono ?_
          rintro e w19 ⟨rfl, hd19, hO19⟩
          have hap : ∀ b : List Byte, b.length = 64 → (apD ls).lose.append b = ((apD ls).lose, 5) := fun b hb => by
            unfold Dr.append
            rw [if_neg (by rw [hb]; simp), if_pos (by rfl)]
          clear hsb18
          rw [hap lb HLB.out] at hd19 ⊢
          dsimp only at hd19 ⊢
          have hz19 := hO19.size
          have HD19 := hid hd19
          have HC19 := hid (HC18.out.only hO19 (fun k hg hf => by have := HF0.out k hf; have := HGB2.out k hg; omega))
          have HB19 := hid (HB18.out.trans (hO19.below HFW.out (by omega)))
          have hF19 : ∀ k, Ext F w18 w19 k → w.heap.size ≤ k := fun k hk => by
            rcases hk with hk | hk
            · exact HFW.out k hk
            · omega
          have HF19 := hid hF19
          clear hd19 hO19 hap hF19
          go_wp2_with fail
          refine (dsync_any _ g pg _ 0 w19 HD19.out HOKL.out (by omega)).mono ?_
          rintro e w20 ⟨rfl, hd20, hO20⟩
          rw [show (apD ls).lose.sync = ((apD ls).lose, 5) from rfl] at hd20 ⊢
          dsimp only at hd20 ⊢
          have hz20 := hO20.size
          have HD20 := hid hd20
          have hlt19 := HD19.out.lt_
          have HC20 := hid (HC19.out.only hO20 (fun k hg hf => by
            have h5 := HGB2.out k hg
            have h6 := HC18.out.lt_ k hg
            rcases hf with hf | hf
            · have := HF0.out k hf; omega
            · omega))
          have HB20 := hid (HB19.out.trans (hO20.below HF19.out (by omega)))
          clear hd20 hO20
          go_wp2_with fail
          refine (drewrite_any _ (fun _ => False) g pg _ 0 none [] [] 0 0 w20 HD20.out HOKL.out (by omega) (Lst.nil_ _ _) (fun k hk => hk.elim) rfl (by omega) (fun y hy => by cases hy)).mono ?_
          rintro e w21 ⟨rfl, hd21, hO21⟩
          rw [show (apD ls).lose.rewrite [] = ((apD ls).lose, 5) from rfl] at hd21 ⊢
          dsimp only at hd21 ⊢
          have hz21 := hO21.size
          have HC21 := hid (HC20.out.only hO21 (fun k hg hf => by
            have h5 := HGB2.out k hg
            have h6 := HC18.out.lt_ k hg
            rcases hf with hf | hf
            · have := HF0.out k hf; omega
            · omega))
          have HB21 := hid (HB20.out.trans (hO21.below HF19.out (by omega)))
          clear hd21 hO21
          go_wp2_with fail
          refine (dlen_any GC gc pc _ w21 HC21.out).mono ?_
          rintro e w21' ⟨rfl, rfl⟩
          rw [HCL.out, HL2.out]
          go_wp2_with fail
          refine (wakes22 w21).mono ?_
          rintro e w22 ⟨rfl, hb22⟩
          have hbe22 := HB21.out.trans (hb22.mono (by omega))
          clear hb22
          go_wp2_with fail
          go_ret
          exact ⟨rfl, hbe22⟩
end Go.Proofs.Ytcklnkilldeamaa
