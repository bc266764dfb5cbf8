/- Law23b -/
import Derived.Deep.DeepCutAuto
import Derived.BigGuardPart
import Derived.Test.YtnknjeipfjdjoaaBScanRises02
import Derived.Test.YtnknjeipfjdjoaaBScanRises39
import Derived.Test.YtnknjeipfjdjoaaBScanRises44
import Derived.Test.YtnknjeipfjdjoaaBScanRises47
import Derived.Test.YtnknjeipfjdjoaaBScanRises49
import Derived.Test.YtnknjeipfjdjoaaBScanRises53
set_option maxRecDepth 20000
set_option linter.unusedSimpArgs false
set_option linter.unusedVariables false
namespace Go.Proofs.Ytnknjeipfjdjoaa
open Go.RowKit Wells
theorem OBs.apart {base : Nat} {w w' : World} {v : Value} {vs : List Value} {ls : List (List Byte)} {F : Nat → Prop} (h : OBs base w v vs ls) (hF : ∀ k, F k → k < base) (ho : Only F w w') : OBs base w' v vs ls := by
  obtain ⟨A, c, rfl, _⟩ := h.form
  refine h.only ho (fun k hk hf => ?_) (fun x hx k hk hf => ?_)
  · rcases own_form h.own with ⟨rfl, _⟩ | ⟨g, rfl, hg, _⟩
    · cases hk
    · obtain rfl : g = k := Option.some.inj hk
      have := hF _ hf
      omega
  · have h1 := (OBs.lt h x hx k hk).1
    have := hF k hf
    omega
theorem fill_spoil {L : List (List Byte)} {k a q : Nat} (hk : k < L.length) (ha : a ≤ 60) (hq : q % 2 = 1) : (fillD 60 L 0).spoil (k : Int) (a : Int) (q : Int) = (fillD 60 (L.set k (spoilL (L.getD k []) a q 4)) 0, true) := by
  unfold Dr.spoil
  rw [if_pos ⟨by omega, (by show (k : Int) < (L.length : Int); omega), by omega, by omega, by omega⟩]
  rfl
set_option maxRecDepth 20000 in
set_option maxHeartbeats 4000000 in
theorem walk_ScanRises (A : Option Addr) (n c : Nat) (l : List Int) (A2 : Option Addr) (n2 c2 : Nat) (l2 : List Int) (xa xm : Int) (w : World) (h : IsInts w A n c l) (h2 : IsInts w A2 n2 c2 l2) (hx : -9223372036854775808 ≤ xa ∧ xa ≤ 9223372036854775807) (hm : 0 ≤ xm ∧ xm ≤ 18446744073709551615) :
    Calls Try.prog 4 #[.slice A n c, .slice A2 n2 c2, .int .i64 xa, .int .u64 xm] w fun e w' => e = .returned (.bool true) ∧ Below w.heap.size w w' := by
  obtain ⟨hs, hle, hcap, hwf⟩ := h
  obtain ⟨hs2, hle2, hcap2, hwf2⟩ := h2
  have HS2 := hid hs2
  obtain ⟨a61, ha61, ha61b⟩ : ∃ z : Nat, xa % 61 = (z : Int) ∧ z ≤ 60 := ⟨(xa % 61).toNat, by omega, by omega⟩
  obtain ⟨q, hq, hqo, hqb⟩ := or_odd2 xm
  have HA := hid ha61
  have HQO := hid hqo
  have HQQ := hid hq
  clear ha61 hqo hq hs2
  go_enter Try.func4, Try.ntmps4
  go_wp2_with fail
  refine (mani_any w.heap.size A n c l w hs (Nat.le_refl _) (by omega) hwf).mono ?_
  rintro e w1 ⟨m, Ad, nd, cd, Ao, no, co, ts, rfl, hom, hpm, hb1⟩
  have HPM := hid hpm
  obtain ⟨h64, hnm⟩ := hpm.m64
  have hno : m.objs.length = no := hom.read.o.len
  have hno5 := hpm.olen
  have hrow := Row.new w1 27 #[.int .i64 m.seq, .int .i64 m.next, .int .i64 m.P.K, .int .i64 m.P.H, .int .i64 m.P.S, .int .i64 m.extra, .slice Ad nd cd, .slice Ao no co]
  have hb2 : Below w1.heap.size w1 (w1.alloc (.cells #[.int .i64 m.seq, .int .i64 m.next, .int .i64 m.P.K, .int .i64 m.P.H, .int .i64 m.P.S, .int .i64 m.extra, .slice Ad nd cd, .slice Ao no co] 27)) := (Below.refl _ _).alloc (Nat.le_refl _) _
  have HX := hid hrow
  have HRM := hid ((hom.read.below hb2).mono hb2.size)
  have HB2 := hid (hb1.trans (hb2.mono hb1.size))
  have HS2b := hid (HS2.out.below HB2.out)
  clear hom hpm hb1 hrow hb2 hs
  unfold Mani.val
  go_wp2_with fail
  generalize w1.alloc (.cells #[.int .i64 m.seq, .int .i64 m.next, .int .i64 m.P.K, .int .i64 m.P.H, .int .i64 m.P.S, .int .i64 m.extra, .slice Ad nd cd, .slice Ao no co] 27) = w2 at *
  obtain ⟨gm, hgm⟩ : ∃ g, w1.heap.size = g := ⟨_, rfl⟩
  rw [hgm] at HX ⊢
  clear hgm
  have hr := HX.out
  have x0 := hr.cell 0
  have x1 := hr.cell 1
  have x2 := hr.cell 2
  have x3 := hr.cell 3
  have x4 := hr.cell 4
  have x5 := hr.cell 5
  have x6 := hr.cell 6
  have x7 := hr.cell 7
  simp only [List.getElem?_cons_succ, List.getElem?_cons_zero] at x0 x1 x2 x3 x4 x5 x6 x7
  clear hr

  go_wp2_with fail
  refine (playcells_any m w2.heap.size Ad Ao nd cd no co ts A2 n2 c2 50 l2 w2 HRM.out (Nat.le_refl _) HPM.out (HS2b.out.mono HB2.out.size) (by omega) hwf2 (by omega)).mono ?_
  rintro e w3 ⟨A3, c3, vs3, ls, N, rfl, hln, hn30, hl64, ho3, hb3⟩
  have HLN := hid hln
  have HL64 := hid hl64
  have HO3 := hid (ho3.read hln)
  have HB3 := hid (HB2.out.trans (hb3.mono HB2.out.size))
  have HX3 := hid (HX.out.below hb3 HX.out.lt)
  have HRM3 := hid (HRM.out.below hb3)
  have HZ3 := hid hb3.size
  clear hln hl64 ho3 hb3 x0 x1 x2 x3 x4 x5 x6 x7
  go_wp2_with fail
  refine (filled_any 60 A3 N c3 vs3 ls w3 HO3.out ⟨by omega, by omega⟩ (by omega) HL64.out).mono ?_
  rintro e w4 ⟨F, G, g, pg, gr, qg, rfl, hh4⟩
  have HD := hid hh4.d_
  have HB4 := hid (HB3.out.trans (hh4.be.mono HB3.out.size))
  have HX4 := hid (HX3.out.below hh4.be HX3.out.lt)
  have HRM4 := hid (HRM3.out.below (hh4.be.mono HZ3.out))
  have HZ4 := hid (Nat.le_trans HZ3.out hh4.be.size)
  have HFW := hid (show ∀ k, F k → w2.heap.size ≤ k from fun k hk => Nat.le_trans HZ3.out (hh4.hF k hk))
  have HF4 := hid hh4.d_.ltp
  have HGM := hid (show ¬ F gm from fun hf => by have h1 := hh4.hF gm hf; have h2 := HX3.out.lt; omega)
  have HOK := hid (show ∀ L : List (List Byte), L.length = N → (∀ x ∈ L, x.length = 64) → DOk 0 (fillD 60 L 0) from fun L h1 h2 => fill_ok ⟨by omega, by omega⟩ (by omega) (Nat.zero_le _) h2)
  clear hh4
  go_wp2_with fail
  refine (dall_any F g pg _ 0 w4 HD.out (HOK.out ls HLN.out HL64.out)).mono ?_
  rintro e w5 ⟨A5, c5, vs5, rfl, ho5, -, hb5⟩
  rw [show (fillD 60 ls 0).L = ls from rfl] at ho5 ⊢
  rw [HLN.out] at ho5 ⊢
  have hcc5 : N ≤ c5 ∧ c5 ≤ 9223372036854775807 := by have := ho5.own; rw [HLN.out] at this; exact own_cap this
  have HO5 := hid ho5
  have HB5 := hid (HB4.out.trans (hb5.mono HB4.out.size))
  have HX5 := hid (HX4.out.below hb5 HX4.out.lt)
  have HRM5 := hid (HRM4.out.below (hb5.mono HZ4.out))
  have HZ5 := hid hb5.size
  have HD5 := hid (HD.out.new_ hb5)
  clear ho5 hb5
  have hr := HX5.out
  have x0 := hr.cell 0
  have x1 := hr.cell 1
  have x2 := hr.cell 2
  have x3 := hr.cell 3
  have x4 := hr.cell 4
  have x5 := hr.cell 5
  have x6 := hr.cell 6
  have x7 := hr.cell 7
  simp only [List.getElem?_cons_succ, List.getElem?_cons_zero] at x0 x1 x2 x3 x4 x5 x6 x7
  clear hr

  go_wp2_with fail
  refine (records_any F g pg _ 0 m w2.heap.size Ad Ao nd cd no co ts w5 HD5.out (HOK.out ls HLN.out HL64.out) HRM5.out (Nat.le_trans HZ4.out HZ5.out) (by omega)).mono ?_
  rintro e w6 ⟨A6, n6, c6, xs, rfl, hn6, ho6, hmap, hb6⟩
  rw [show (fillD 60 ls 0).L = ls from rfl] at hn6 hmap
  have hxn : xs.length = n6 := by rw [hn6, ← hmap, List.length_map]
  have HXN := hid hxn
  have HMAP := hid hmap
  have HO6 := hid ho6
  have HO56 := hid (HO5.out.below hb6)
  have HB6 := hid (HB5.out.trans (hb6.mono HB5.out.size))
  have HX6 := hid (HX5.out.below hb6 HX5.out.lt)
  have HZ6 := hid (Nat.le_trans (Nat.le_trans HZ4.out HZ5.out) hb6.size)
  have HRM6 := hid (HRM5.out.below (hb6.mono (Nat.le_trans HZ4.out HZ5.out)))
  have HD6 := hid (HD5.out.new_ hb6)
  have HZ46 := hid (Nat.le_trans HZ5.out hb6.size)
  have hn6b : n6 ≤ 60 := by
    have h1 : (recsL m ls).length ≤ ls.length := by
      unfold recsL
      have h1 := cpt_length (lt := ltR) (ssort ltR (cntL m ls))
      rw [ssort_length] at h1
      have h2 := cntL_length m ls
      omega
    have := HLN.out
    omega
  have HCELLS := hid (HO56.out.read HLN.out)
  clear hn6 ho6 hmap hb6 hxn x0 x1 x2 x3 x4 x5 x6 x7
  go_wp2_with fail
  go_loopw [40] (fun kv wr => ∃ k : Nat, k ≤ n6 ∧ kv = .int .i64 (k : Int) ∧ Below w6.heap.size w6 wr) (fun kv _ => n6 - (intOf kv).toNat)
  case atStart => exact ⟨0, Nat.zero_le _, rfl, Below.refl _ _⟩
  case round =>
    obtain ⟨k, hk, rfl, hbr⟩ := hrel
    have HBR := hid hbr
    clear hbr
    by_cases hlt : k < n6
    · have hlt' : (k : Int) < (n6 : Int) := by omega
      obtain ⟨bb, o, rfl, hbb, hxm, hcells⟩ := (HO6.out.below HBR.out).get HXN.out hlt
      obtain ⟨x, hx⟩ : ∃ x, xs[k]! = x := ⟨_, rfl⟩
      rw [hx] at hxm hcells
      have hkl : k < (recsL m ls).length := by rw [← HMAP.out, List.length_map, HXN.out]; exact hlt
      have hxr : (recsL m ls)[k] = x.r := by
        have h1 : (recsL m ls)[k]? = some x.r := by
          rw [← HMAP.out, List.getElem?_map, List.getElem?_eq_getElem (by rw [HXN.out]; exact hlt)]
          rw [← hx, getElem!_pos xs k (by rw [HXN.out]; exact hlt)]
          rfl
        rw [List.getElem?_eq_getElem hkl] at h1
        exact Option.some.inj h1
      have hmem : x.r ∈ recsL m ls := by rw [← hxr]; exact List.getElem_mem hkl
      have hdat := (HO6.out.below HBR.out).at_ _ hxm
      obtain ⟨r, Ar, nr, cr⟩ := x
      have hnrl : r.D.length = nr := by
        obtain ⟨_, _, he, _⟩ := own_slice hdat
        injection he with _ he _
        exact he.symm
      have hslr : Sl wr wr.heap.size 1 Ar nr (r.D.map bv8) := by
        unfold OB RD.dv at hdat
        rw [hnrl] at hdat
        exact Sl.own hdat
      obtain ⟨⟨cx, hcx, htx, hpx⟩, hcnt⟩ := mem_recs hmem
      obtain ⟨pr, hpr⟩ : ∃ p, putR r = p := ⟨_, rfl⟩
      have HIN := hid (show pr ∈ ls by rw [← hpr, hpx]; exact hcx)
      have HPR := hid hpr
      have HNR := hid hnrl
      have HCNT := hid hcnt
      have c0 := hcells 0 _ rfl
      have c1 := hcells 1 _ rfl
      have c2' := hcells 2 _ rfl
      have c3' := hcells 3 _ rfl
      have c4 := hcells 4 _ rfl
      have c5' := hcells 5 _ rfl
      have c6' := hcells 6 _ rfl
      have c7 := hcells 7 _ rfl
      simp only [Nat.add_zero, RD.dv] at c0 c1 c2' c3' c4 c5' c6' c7
      have hb7 : Below wr.heap.size wr (wr.alloc (.cells #[.int .i64 r.O, .int .i64 r.B, .int .i64 r.I, .int .i64 r.P.K, .int .i64 r.P.H, .int .i64 r.P.S, .int .u32 (r.S.toNat : Int), .slice Ar nr cr] 31)) := (Below.refl _ _).alloc (Nat.le_refl _) _
      have HRR0 := hid (Row.new wr 31 #[.int .i64 r.O, .int .i64 r.B, .int .i64 r.I, .int .i64 r.P.K, .int .i64 r.P.H, .int .i64 r.P.S, .int .u32 (r.S.toNat : Int), .slice Ar nr cr])
      have HB7 := hid hb7
      have HSL7 := hid ((hslr.below hb7).mono hb7.size)
      have HCQ0 := hid (((HCELLS.out.below HBR.out).below (hb7.mono HBR.out.size)).mono (Nat.le_trans HBR.out.size hb7.size))
      have HX7 := hid (HX6.out.below (HBR.out.trans (hb7.mono HBR.out.size)) HX6.out.lt)
      have HRM7 := hid ((HRM6.out.below ((HBR.out.trans (hb7.mono HBR.out.size)).mono HZ6.out)).mono (Nat.le_trans HZ6.out (Nat.le_trans HBR.out.size hb7.size)))
      have hbb7 : bb < (wr.alloc (.cells #[.int .i64 r.O, .int .i64 r.B, .int .i64 r.I, .int .i64 r.P.K, .int .i64 r.P.H, .int .i64 r.P.S, .int .u32 (r.S.toNat : Int), .slice Ar nr cr] 31)).heap.size := Nat.lt_of_lt_of_le hbb hb7.size
      have hcut : True := trivial
      clear hcells hxm hx hmem hdat hslr hcx htx hpx hcnt hnrl hpr hb7 hcut
      rcases Nat.eq_zero_or_pos k with hk0 | hk0
      · subst hk0
        clear hxr
        simp only [Nat.zero_mul, Nat.add_zero] at c0 c1 c2' c3' c4 c5' c6' c7
        go_upto_region 10 with fail
        generalize wr.alloc (.cells #[.int .i64 r.O, .int .i64 r.B, .int .i64 r.I, .int .i64 r.P.K, .int .i64 r.P.H, .int .i64 r.P.S, .int .u32 (r.S.toNat : Int), .slice Ar nr cr] 31) = wq at *
        obtain ⟨g15, hg15⟩ : ∃ g, wr.heap.size = g := ⟨_, rfl⟩
        rw [hg15] at HRR0 ⊢
        clear hg15
        have HRR := HRR0
        have HXr := HX7
        have HRMr := HRM7
        have HBQ := HB7
        have HSLR := HSL7
        have HCQ := HCQ0
        clear HRR0 HX7 HRM7 HB7 HSL7 HCQ0 c0 c1 c2' c3' c4 c5' c6' c7
        refine Org.begin [] (fun w' => Below wq.heap.size wq w') [0, 1, 2, 3, 4, 5, 6, 7, 8, 9, 10, 11, 12, 13, 14, 15, 16, 17] (by kernel_rfl) (below_drewN (Below.refl _ _) 1) (fun hS => ?_)
        (refine Org.yes (v := ?_) rfl (by kernel_rfl) (by kernel_rfl) (by kernel_rfl) (by kernel_rfl) (by kernel_rfl) (fun _ _ _ h => h) (by kernel_rfl) (SM.of hS) ?_ ?_; rotate_left; (focus (intro w hSw; (try dsimp only at hSw); refine Pure.val ?_; go_simp; (try with_reducible rfl); done)); try simp only [Act.put, List.setIfInBounds_toArray, List.set_cons_zero, List.set_cons_succ])
        (refine Org.yes (v := ?_) rfl (by kernel_rfl) (by kernel_rfl) (by kernel_rfl) (by kernel_rfl) (by kernel_rfl) (fun _ _ _ h => h) (by kernel_rfl) (SM.of hS) ?_ ?_; rotate_left; (focus (intro w hSw; (try dsimp only at hSw); refine Pure.val ?_; go_simp; (try with_reducible rfl); done)); try simp only [Act.put, List.setIfInBounds_toArray, List.set_cons_zero, List.set_cons_succ])
        (refine Org.yes (v := ?_) rfl (by kernel_rfl) (by kernel_rfl) (by kernel_rfl) (by kernel_rfl) (by kernel_rfl) (fun _ _ _ h => h) (by kernel_rfl) (SM.of hS) ?_ ?_; rotate_left; (focus (intro w hSw; (try dsimp only at hSw); refine Pure.val ?_; go_simp; (try with_reducible rfl); done)); try simp only [Act.put, List.setIfInBounds_toArray, List.set_cons_zero, List.set_cons_succ])
        (refine Org.no rfl (by kernel_rfl) (by kernel_rfl) (by kernel_rfl) (by kernel_rfl) (by kernel_rfl) (fun _ _ _ h => h) (by kernel_rfl) (SM.of hS) ?_; try simp only [Act.put, List.setIfInBounds_toArray, List.set_cons_zero, List.set_cons_succ])
        (refine Org.no rfl (by kernel_rfl) (by kernel_rfl) (by kernel_rfl) (by kernel_rfl) (by kernel_rfl) (fun _ _ _ h => h) (by kernel_rfl) (SM.of hS) ?_; try simp only [Act.put, List.setIfInBounds_toArray, List.set_cons_zero, List.set_cons_succ])
        (refine Org.no rfl (by kernel_rfl) (by kernel_rfl) (by kernel_rfl) (by kernel_rfl) (by kernel_rfl) (fun _ _ _ h => h) (by kernel_rfl) (SM.of hS) ?_; try simp only [Act.put, List.setIfInBounds_toArray, List.set_cons_zero, List.set_cons_succ])
        (refine Org.no rfl (by kernel_rfl) (by kernel_rfl) (by kernel_rfl) (by kernel_rfl) (by kernel_rfl) (fun _ _ _ h => h) (by kernel_rfl) (SM.of hS) ?_; try simp only [Act.put, List.setIfInBounds_toArray, List.set_cons_zero, List.set_cons_succ])
        (refine Org.no rfl (by kernel_rfl) (by kernel_rfl) (by kernel_rfl) (by kernel_rfl) (by kernel_rfl) (fun _ _ _ h => h) (by kernel_rfl) (SM.of hS) ?_; try simp only [Act.put, List.setIfInBounds_toArray, List.set_cons_zero, List.set_cons_succ])
        (refine Org.no rfl (by kernel_rfl) (by kernel_rfl) (by kernel_rfl) (by kernel_rfl) (by kernel_rfl) (fun _ _ _ h => h) (by kernel_rfl) (SM.of hS) ?_; try simp only [Act.put, List.setIfInBounds_toArray, List.set_cons_zero, List.set_cons_succ])
        (refine Org.no rfl (by kernel_rfl) (by kernel_rfl) (by kernel_rfl) (by kernel_rfl) (by kernel_rfl) (fun _ _ _ h => h) (by kernel_rfl) (SM.of hS) ?_; try simp only [Act.put, List.setIfInBounds_toArray, List.set_cons_zero, List.set_cons_succ])
        (refine Org.no rfl (by kernel_rfl) (by kernel_rfl) (by kernel_rfl) (by kernel_rfl) (by kernel_rfl) (fun _ _ _ h => h) (by kernel_rfl) (SM.of hS) ?_; try simp only [Act.put, List.setIfInBounds_toArray, List.set_cons_zero, List.set_cons_succ])
        (refine Org.yes (v := ?_) rfl (by kernel_rfl) (by kernel_rfl) (by kernel_rfl) (by kernel_rfl) (by kernel_rfl) (fun _ _ _ h => h) (by kernel_rfl) (SM.of hS) ?_ ?_; rotate_left; (focus (intro w hSw; (try dsimp only at hSw); refine Pure.val ?_; go_simp; (try with_reducible rfl); done)); try simp only [Act.put, List.setIfInBounds_toArray, List.set_cons_zero, List.set_cons_succ])
        (refine Org.yes (v := ?_) rfl (by kernel_rfl) (by kernel_rfl) (by kernel_rfl) (by kernel_rfl) (by kernel_rfl) (fun _ _ _ h => h) (by kernel_rfl) (SM.of hS) ?_ ?_; rotate_left; (focus (intro w hSw; (try dsimp only at hSw); refine Pure.val ?_; go_simp; (try with_reducible rfl); done)); try simp only [Act.put, List.setIfInBounds_toArray, List.set_cons_zero, List.set_cons_succ])
        (refine Org.yes (v := ?_) rfl (by kernel_rfl) (by kernel_rfl) (by kernel_rfl) (by kernel_rfl) (by kernel_rfl) (fun _ _ _ h => h) (by kernel_rfl) (SM.of hS) ?_ ?_; rotate_left; (focus (intro w hSw; (try dsimp only at hSw); have hr := HXr.out.below hSw HXr.out.lt; have x0 := hr.cell 0; have x1 := hr.cell 1; have x2 := hr.cell 2; have x3 := hr.cell 3; have x4 := hr.cell 4; have x5 := hr.cell 5; have x6 := hr.cell 6; have x7 := hr.cell 7; simp only [List.getElem?_cons_succ, List.getElem?_cons_zero] at x0 x1 x2 x3 x4 x5 x6 x7; refine Pure.val ?_; go_simp; (try with_reducible rfl); done)); try simp only [Act.put, List.setIfInBounds_toArray, List.set_cons_zero, List.set_cons_succ])
        (refine Org.yes (v := ?_) rfl (by kernel_rfl) (by kernel_rfl) (by kernel_rfl) (by kernel_rfl) (by kernel_rfl) (fun _ _ _ h => h) (by kernel_rfl) (SM.of hS) ?_ ?_; rotate_left; (focus (intro w hSw; (try dsimp only at hSw); have hr := HRR.out.below hSw HRR.out.lt; have r0 := hr.cell 0; have r1 := hr.cell 1; have r2 := hr.cell 2; have r3 := hr.cell 3; have r4 := hr.cell 4; have r5 := hr.cell 5; have r6 := hr.cell 6; have r7 := hr.cell 7; simp only [List.getElem?_cons_succ, List.getElem?_cons_zero] at r0 r1 r2 r3 r4 r5 r6 r7; refine Pure.val ?_; go_simp; (try with_reducible rfl); done)); try simp only [Act.put, List.setIfInBounds_toArray, List.set_cons_zero, List.set_cons_succ])
        refine Org.go rfl (by kernel_rfl) (by kernel_rfl) (fun K hK => ?_)
        go_simp
        go_at_call 9
        refine (counts_any m r wq.heap.size Ad Ao Ar nd cd no co nr cr ts true _ (HRMr.out.below hS) hS.size HNR.out (by omega) HCNT.out).mono ?_
        rintro e wz ⟨rfl, hbz⟩
        have hS3 := hS.trans (hbz.mono hS.size)
        clear hbz
        go_wp2_with fail
        refine hK.out _ _ hS3 (fun hS2 => ?_)
        clear hS3
        clear hK K hS
        have hS := hS2
        clear hS2
        try simp only [Act.put, List.setIfInBounds_toArray, List.set_cons_zero, List.set_cons_succ]
        (refine Org.yes (v := ?_) rfl (by kernel_rfl) (by kernel_rfl) (by kernel_rfl) (by kernel_rfl) (by kernel_rfl) (fun _ _ _ h => h) (by kernel_rfl) (SM.of hS) ?_ ?_; rotate_left; (focus (intro w hSw; (try dsimp only at hSw); refine Pure.val ?_; go_simp; (try with_reducible rfl); done)); try simp only [Act.put, List.setIfInBounds_toArray, List.set_cons_zero, List.set_cons_succ])
        (refine Org.yes (v := ?_) rfl (by kernel_rfl) (by kernel_rfl) (by kernel_rfl) (by kernel_rfl) (by kernel_rfl) (fun _ _ _ h => h) (by kernel_rfl) (SM.of hS) ?_ ?_; rotate_left; (focus (intro w hSw; (try dsimp only at hSw); refine Pure.val ?_; go_simp; (try with_reducible rfl); done)); try simp only [Act.put, List.setIfInBounds_toArray, List.set_cons_zero, List.set_cons_succ])
        refine Org.done (by kernel_rfl) ?_
        skip
        have HS10 := hid hS
        clear hS
        go_wp2_with fail
        go_loopw [16, 65] (fun tv jv wr => ∃ j : Nat, j ≤ N ∧ tv = .bool ((ls.take j).any fun c => decide (c = pr)) ∧ jv = .int .i64 (j : Int) ∧ Below wq.heap.size wq wr) (fun _ jv _ => N - (intOf jv).toNat)
        case atStart => exact ⟨0, Nat.zero_le _, rfl, rfl, HS10.out⟩
        case round =>
          obtain ⟨j, hj, rfl, rfl, hbi⟩ := hrel
          have HBI := hid hbi
          clear hbi
          obtain ⟨tb, htb⟩ : ∃ b, ((ls.take j).any fun c => decide (c = pr)) = b := ⟨_, rfl⟩
          rw [htb]
          have HTB := hid htb
          clear htb
          by_cases hjl : j < N
          · have hjl' : (j : Int) < (N : Int) := by omega
            obtain ⟨bj, oj, Aj, cj, ej, hbj, hcj, hj1, hj2, hslj⟩ := (HCQ.out.below HBI.out).get hjl
            obtain ⟨xj, hxj⟩ : ∃ x, ls.getD j [] = x := ⟨_, rfl⟩
            rw [hxj] at hcj hslj hj1
            obtain ⟨nj, hnj⟩ : ∃ q, xj.length = q := ⟨_, rfl⟩
            rw [hnj] at hcj hslj hj1
            subst ej
            have hjlen : j < ls.length := by rw [HLN.out]; exact hjl
            have htk : (ls.take (j + 1)).any (fun c => decide (c = pr)) = (tb || decide (xj = pr)) := by
              rw [List.take_succ_eq_append_getElem hjlen, List.any_append, HTB.out]
              have : ls[j] = xj := by rw [← hxj, List.getD_eq_getElem?_getD, List.getElem?_eq_getElem hjlen]; rfl
              rw [this]
              simp
            have HTK := hid htk
            have HSJ := hid hslj
            have hnj9 : nj ≤ 9223372036854775807 := by omega
            clear hslj htk hxj hnj
            cases tb with
            | true =>
              go_wp2_with fail
              go_roundw
              case rel => exact ⟨j + 1, by omega, by rw [HTK.out]; rfl, by go_num, HBI.out⟩
              case measure => simp [intOf]; omega
            | false =>
              have hrI := HRR.out.below HBI.out HRR.out.lt
              have hr := hrI
              have x0 := hr.cell 0
              have x1 := hr.cell 1
              have x2 := hr.cell 2
              have x3 := hr.cell 3
              have x4 := hr.cell 4
              have x5 := hr.cell 5
              have x6 := hr.cell 6
              have x7 := hr.cell 7
              simp only [List.getElem?_cons_succ, List.getElem?_cons_zero] at x0 x1 x2 x3 x4 x5 x6 x7
              clear hr
              go_wp2_with fail
              refine (putrec_any wr.heap.size r Ar nr cr wr ((HSLR.out.below HBI.out).mono HBI.out.size) (Nat.le_refl _)).mono ?_
              rintro e wp ⟨vp, rfl, hop, hbp⟩
              rw [HPR.out] at hop
              obtain ⟨Ap, cp, rfl, hp1, hp2, hsp⟩ := own_slice hop
              obtain ⟨npr, hnpr⟩ : ∃ q, pr.length = q := ⟨_, rfl⟩
              rw [hnpr] at hsp hp1 ⊢
              have HSP := hid hsp
              have HBP := hid (HBI.out.trans (hbp.mono HBI.out.size))
              have HSJ2 := hid ((HSJ.out.below (hbp.mono HBI.out.size)).mono (Nat.le_trans HBI.out.size hbp.size))
              obtain ⟨eqb, heqb⟩ : ∃ b, decide (xj = pr) = b := ⟨_, rfl⟩
              have HEQ := hid heqb
              clear hop hbp hsp heqb hnpr x0 x1 x2 x3 x4 x5 x6 x7
              go_wp2_with fail
              refine (same_is eqb wp.heap.size Aj Ap xj pr nj npr cj cp wp HSJ2.out HSP.out (by omega) (by omega) HEQ.out).mono ?_
              rintro e ws ⟨rfl, dq, rfl⟩
              go_wp2_with fail
              go_roundw
              case rel => exact ⟨j + 1, by omega, by rw [HTK.out, HEQ.out]; simp, by go_num, below_drewN HBP.out dq⟩
              case measure => simp [intOf]; omega
          · have hjl' : ¬ (j : Int) < (N : Int) := by omega
            obtain rfl : j = N := by omega
            have htt : tb = true := by
              rw [← HTB.out, List.take_of_length_le (by rw [HLN.out]; exact Nat.le_refl _), List.any_eq_true]
              exact ⟨pr, HIN.out, decide_eq_true rfl⟩
            subst htt
            go_wp2_with fail
            go_roundw
            case rel => exact ⟨1, by omega, by go_num, HBR.out.trans ((HBQ.out.trans (HBI.out.mono HBQ.out.size)).mono HBR.out.size)⟩
            case measure => simp [intOf]; omega
      · obtain ⟨k0, hk01⟩ : ∃ k0, k0 + 1 = k := ⟨k - 1, by omega⟩
        have hkpos : (0 : Int) < (k : Int) := by omega
        have hk0n : k0 < n6 := by omega
        obtain ⟨bb2, o2, eb2, hbb2, hxm0, hcells0⟩ := (HO6.out.below HBR.out).get HXN.out hk0n
        injection eb2 with eb2
        injection eb2 with eb2 eo2 _
        subst eb2
        subst eo2
        obtain ⟨x0', hx0'⟩ : ∃ x, xs[k0]! = x := ⟨_, rfl⟩
        rw [hx0'] at hxm0 hcells0
        have hkl0 : k0 < (recsL m ls).length := by omega
        have hxr0 : (recsL m ls)[k0] = x0'.r := by
          have h1 : (recsL m ls)[k0]? = some x0'.r := by
            rw [← HMAP.out, List.getElem?_map, List.getElem?_eq_getElem (by rw [HXN.out]; exact hk0n)]
            rw [← hx0', getElem!_pos xs k0 (by rw [HXN.out]; exact hk0n)]
            rfl
          rw [List.getElem?_eq_getElem hkl0] at h1
          exact Option.some.inj h1
        have hltr : ltR x0'.r r = true := by
          have h1 := rise_at2 (recsL_rise m ls) (i := k0) (j := k) (by omega) hkl
          rw [hxr0, hxr] at h1
          exact h1
        obtain ⟨r0, Ar0, nr0, cr0⟩ := x0'
        have HLT := hid hltr
        have d0 := hcells0 0 _ rfl
        have d1 := hcells0 1 _ rfl
        have d2 := hcells0 2 _ rfl
        have d3 := hcells0 3 _ rfl
        have d4 := hcells0 4 _ rfl
        have d5 := hcells0 5 _ rfl
        have d6 := hcells0 6 _ rfl
        have d7 := hcells0 7 _ rfl
        simp only [Nat.add_zero, RD.dv] at d0 d1 d2 d3 d4 d5 d6 d7
        have PC0 := hid ((HB7.out.cell (p := ⟨bb, o + k0 * 8, none⟩) hbb).trans d0)
        have PC1 := hid ((HB7.out.cell (p := ⟨bb, o + k0 * 8 + 1, none⟩) hbb).trans d1)
        have PC2 := hid ((HB7.out.cell (p := ⟨bb, o + k0 * 8 + 2, none⟩) hbb).trans d2)
        have PC3 := hid ((HB7.out.cell (p := ⟨bb, o + k0 * 8 + 3, none⟩) hbb).trans d3)
        have PC4 := hid ((HB7.out.cell (p := ⟨bb, o + k0 * 8 + 4, none⟩) hbb).trans d4)
        have PC5 := hid ((HB7.out.cell (p := ⟨bb, o + k0 * 8 + 5, none⟩) hbb).trans d5)
        have PC6 := hid ((HB7.out.cell (p := ⟨bb, o + k0 * 8 + 6, none⟩) hbb).trans d6)
        have PC7 := hid ((HB7.out.cell (p := ⟨bb, o + k0 * 8 + 7, none⟩) hbb).trans d7)
        have e50 : IntKind.i64.wrap ((k : Int) - 1) = (k0 : Int) := by rw [IntKind.wrap_i64]; omega
        have e51 : (k : Int) - 1 = (k0 : Int) := by omega
        have e52 : IntKind.i64.wrap (k0 : Int) = (k0 : Int) := by rw [IntKind.wrap_i64]; omega
        have hk0i : (k0 : Int) < (n6 : Int) := by omega
        clear hcells0 hxm0 hx0' hxr0 hltr d0 d1 d2 d3 d4 d5 d6 d7 hxr hkl0
        go_upto_region 10 with fail
        generalize wr.alloc (.cells #[.int .i64 r.O, .int .i64 r.B, .int .i64 r.I, .int .i64 r.P.K, .int .i64 r.P.H, .int .i64 r.P.S, .int .u32 (r.S.toNat : Int), .slice Ar nr cr] 31) = wq at *
        obtain ⟨g15, hg15⟩ : ∃ g, wr.heap.size = g := ⟨_, rfl⟩
        rw [hg15] at HRR0 ⊢
        clear hg15
        have HRR := HRR0
        have HXr := HX7
        have HRMr := HRM7
        have HBQ := HB7
        have HSLR := HSL7
        have HCQ := HCQ0
        have hbbr := hbb7
        clear HRR0 HX7 HRM7 HB7 HSL7 HCQ0 c0 c1 c2' c3' c4 c5' c6' c7
        refine Org.begin [] (fun w' => Below wq.heap.size wq w') [0, 1, 2, 3, 4, 5, 6, 7, 8, 9, 10, 11, 12, 13, 14, 15, 16, 17] (by kernel_rfl) (below_drewN (Below.refl _ _) 1) (fun hS => ?_)
        (refine Org.yes (v := ?_) rfl (by kernel_rfl) (by kernel_rfl) (by kernel_rfl) (by kernel_rfl) (by kernel_rfl) (fun _ _ _ h => h) (by kernel_rfl) (SM.of hS) ?_ ?_; rotate_left; (focus (intro w hSw; (try dsimp only at hSw); refine Pure.val ?_; go_simp; (try with_reducible rfl); done)); try simp only [Act.put, List.setIfInBounds_toArray, List.set_cons_zero, List.set_cons_succ])
        (refine Org.yes (v := ?_) rfl (by kernel_rfl) (by kernel_rfl) (by kernel_rfl) (by kernel_rfl) (by kernel_rfl) (fun _ _ _ h => h) (by kernel_rfl) (SM.of hS) ?_ ?_; rotate_left; (focus (intro w hSw; (try dsimp only at hSw); refine Pure.val ?_; go_simp; (try with_reducible rfl); done)); try simp only [Act.put, List.setIfInBounds_toArray, List.set_cons_zero, List.set_cons_succ])
        (refine Org.yes (v := ?_) rfl (by kernel_rfl) (by kernel_rfl) (by kernel_rfl) (by kernel_rfl) (by kernel_rfl) (fun _ _ _ h => h) (by kernel_rfl) (SM.of hS) ?_ ?_; rotate_left; (focus (intro w hSw; (try dsimp only at hSw); refine Pure.val ?_; go_simp; (try with_reducible rfl); done)); try simp only [Act.put, List.setIfInBounds_toArray, List.set_cons_zero, List.set_cons_succ])
        (refine Org.yes (v := ?_) rfl (by kernel_rfl) (by kernel_rfl) (by kernel_rfl) (by kernel_rfl) (by kernel_rfl) (fun _ _ _ h => h) (by kernel_rfl) (SM.of hS) ?_ ?_; rotate_left; (focus (intro w hSw; (try dsimp only at hSw); refine Pure.val ?_; go_simp; (try with_reducible rfl); done)); try simp only [Act.put, List.setIfInBounds_toArray, List.set_cons_zero, List.set_cons_succ])
        (refine Org.yes (v := ?_) rfl (by kernel_rfl) (by kernel_rfl) (by kernel_rfl) (by kernel_rfl) (by kernel_rfl) (fun _ _ _ h => h) (by kernel_rfl) (SM.of hS) ?_ ?_; rotate_left; (focus (intro w hSw; (try dsimp only at hSw); refine Pure.val ?_; go_simp; (try with_reducible rfl); done)); try simp only [Act.put, List.setIfInBounds_toArray, List.set_cons_zero, List.set_cons_succ])
        (refine Org.yes (v := ?_) rfl (by kernel_rfl) (by kernel_rfl) (by kernel_rfl) (by kernel_rfl) (by kernel_rfl) (fun _ _ _ h => h) (by kernel_rfl) (SM.of hS) ?_ ?_; rotate_left; (focus (intro w hSw; (try dsimp only at hSw); refine Pure.val ?_; go_simp; (try with_reducible rfl); done)); try simp only [Act.put, List.setIfInBounds_toArray, List.set_cons_zero, List.set_cons_succ])
        (refine Org.yes (v := ?_) rfl (by kernel_rfl) (by kernel_rfl) (by kernel_rfl) (by kernel_rfl) (by kernel_rfl) (fun _ _ _ h => h) (by kernel_rfl) (SM.of hS) ?_ ?_; rotate_left; (focus (intro w hSw; (try dsimp only at hSw); refine Pure.val ?_; go_simp; (try with_reducible rfl); done)); try simp only [Act.put, List.setIfInBounds_toArray, List.set_cons_zero, List.set_cons_succ])
        (refine Org.yes (v := ?_) rfl (by kernel_rfl) (by kernel_rfl) (by kernel_rfl) (by kernel_rfl) (by kernel_rfl) (fun _ _ _ h => h) (by kernel_rfl) (SM.of hS) ?_ ?_; rotate_left; (focus (intro w hSw; (try dsimp only at hSw); have qy0 := (hSw.cell (p := ⟨bb, o + k0 * 8, none⟩) hbbr).trans PC0.out; have qy1 := (hSw.cell (p := ⟨bb, o + k0 * 8 + 1, none⟩) hbbr).trans PC1.out; have qy2 := (hSw.cell (p := ⟨bb, o + k0 * 8 + 2, none⟩) hbbr).trans PC2.out; have qy3 := (hSw.cell (p := ⟨bb, o + k0 * 8 + 3, none⟩) hbbr).trans PC3.out; have qy4 := (hSw.cell (p := ⟨bb, o + k0 * 8 + 4, none⟩) hbbr).trans PC4.out; have qy5 := (hSw.cell (p := ⟨bb, o + k0 * 8 + 5, none⟩) hbbr).trans PC5.out; have qy6 := (hSw.cell (p := ⟨bb, o + k0 * 8 + 6, none⟩) hbbr).trans PC6.out; have qy7 := (hSw.cell (p := ⟨bb, o + k0 * 8 + 7, none⟩) hbbr).trans PC7.out; refine Pure.val ?_; go_simp; (try with_reducible rfl); done)); try simp only [Act.put, List.setIfInBounds_toArray, List.set_cons_zero, List.set_cons_succ])
        (refine Org.yes (v := ?_) rfl (by kernel_rfl) (by kernel_rfl) (by kernel_rfl) (by kernel_rfl) (by kernel_rfl) (fun _ _ _ h => h) (by kernel_rfl) (SM.of hS) ?_ ?_; rotate_left; (focus (intro w hSw; (try dsimp only at hSw); have hr := HRR.out.below hSw HRR.out.lt; have r0 := hr.cell 0; have r1 := hr.cell 1; have r2 := hr.cell 2; have r3 := hr.cell 3; have r4 := hr.cell 4; have r5 := hr.cell 5; have r6 := hr.cell 6; have r7 := hr.cell 7; simp only [List.getElem?_cons_succ, List.getElem?_cons_zero] at r0 r1 r2 r3 r4 r5 r6 r7; refine Pure.val ?_; go_simp; (try with_reducible rfl); done)); try simp only [Act.put, List.setIfInBounds_toArray, List.set_cons_zero, List.set_cons_succ])
        refine Org.go rfl (by kernel_rfl) (by kernel_rfl) (fun K hK => ?_)
        go_simp
        go_at_call 15
        refine (refless_any r0 r (.slice Ar0 nr0 cr0) (.slice Ar nr cr) true _ HLT.out).mono ?_
        rintro e wz ⟨rfl, hbz⟩
        have hS3 := hS.trans (hbz.mono hS.size)
        clear hbz
        go_wp2_with fail
        refine hK.out _ _ hS3 (fun hS2 => ?_)
        clear hS3
        clear hK K hS
        have hS := hS2
        clear hS2
        try simp only [Act.put, List.setIfInBounds_toArray, List.set_cons_zero, List.set_cons_succ]
        (refine Org.yes (v := ?_) rfl (by kernel_rfl) (by kernel_rfl) (by kernel_rfl) (by kernel_rfl) (by kernel_rfl) (fun _ _ _ h => h) (by kernel_rfl) (SM.of hS) ?_ ?_; rotate_left; (focus (intro w hSw; (try dsimp only at hSw); refine Pure.val ?_; go_simp; (try with_reducible rfl); done)); try simp only [Act.put, List.setIfInBounds_toArray, List.set_cons_zero, List.set_cons_succ])
        (refine Org.yes (v := ?_) rfl (by kernel_rfl) (by kernel_rfl) (by kernel_rfl) (by kernel_rfl) (by kernel_rfl) (fun _ _ _ h => h) (by kernel_rfl) (SM.of hS) ?_ ?_; rotate_left; (focus (intro w hSw; (try dsimp only at hSw); refine Pure.val ?_; go_simp; (try with_reducible rfl); done)); try simp only [Act.put, List.setIfInBounds_toArray, List.set_cons_zero, List.set_cons_succ])
        (refine Org.yes (v := ?_) rfl (by kernel_rfl) (by kernel_rfl) (by kernel_rfl) (by kernel_rfl) (by kernel_rfl) (fun _ _ _ h => h) (by kernel_rfl) (SM.of hS) ?_ ?_; rotate_left; (focus (intro w hSw; (try dsimp only at hSw); refine Pure.val ?_; go_simp; (try with_reducible rfl); done)); try simp only [Act.put, List.setIfInBounds_toArray, List.set_cons_zero, List.set_cons_succ])
        (refine Org.yes (v := ?_) rfl (by kernel_rfl) (by kernel_rfl) (by kernel_rfl) (by kernel_rfl) (by kernel_rfl) (fun _ _ _ h => h) (by kernel_rfl) (SM.of hS) ?_ ?_; rotate_left; (focus (intro w hSw; (try dsimp only at hSw); have hr := HXr.out.below hSw HXr.out.lt; have x0 := hr.cell 0; have x1 := hr.cell 1; have x2 := hr.cell 2; have x3 := hr.cell 3; have x4 := hr.cell 4; have x5 := hr.cell 5; have x6 := hr.cell 6; have x7 := hr.cell 7; simp only [List.getElem?_cons_succ, List.getElem?_cons_zero] at x0 x1 x2 x3 x4 x5 x6 x7; refine Pure.val ?_; go_simp; (try with_reducible rfl); done)); try simp only [Act.put, List.setIfInBounds_toArray, List.set_cons_zero, List.set_cons_succ])
        (refine Org.yes (v := ?_) rfl (by kernel_rfl) (by kernel_rfl) (by kernel_rfl) (by kernel_rfl) (by kernel_rfl) (fun _ _ _ h => h) (by kernel_rfl) (SM.of hS) ?_ ?_; rotate_left; (focus (intro w hSw; (try dsimp only at hSw); have hr := HRR.out.below hSw HRR.out.lt; have r0 := hr.cell 0; have r1 := hr.cell 1; have r2 := hr.cell 2; have r3 := hr.cell 3; have r4 := hr.cell 4; have r5 := hr.cell 5; have r6 := hr.cell 6; have r7 := hr.cell 7; simp only [List.getElem?_cons_succ, List.getElem?_cons_zero] at r0 r1 r2 r3 r4 r5 r6 r7; refine Pure.val ?_; go_simp; (try with_reducible rfl); done)); try simp only [Act.put, List.setIfInBounds_toArray, List.set_cons_zero, List.set_cons_succ])
        refine Org.go rfl (by kernel_rfl) (by kernel_rfl) (fun K hK => ?_)
        go_simp
        go_at_call 9
        refine (counts_any m r wq.heap.size Ad Ao Ar nd cd no co nr cr ts true _ (HRMr.out.below hS) hS.size HNR.out (by omega) HCNT.out).mono ?_
        rintro e wz ⟨rfl, hbz⟩
        have hS3 := hS.trans (hbz.mono hS.size)
        clear hbz
        go_wp2_with fail
        refine hK.out _ _ hS3 (fun hS2 => ?_)
        clear hS3
        clear hK K hS
        have hS := hS2
        clear hS2
        try simp only [Act.put, List.setIfInBounds_toArray, List.set_cons_zero, List.set_cons_succ]
        (refine Org.yes (v := ?_) rfl (by kernel_rfl) (by kernel_rfl) (by kernel_rfl) (by kernel_rfl) (by kernel_rfl) (fun _ _ _ h => h) (by kernel_rfl) (SM.of hS) ?_ ?_; rotate_left; (focus (intro w hSw; (try dsimp only at hSw); refine Pure.val ?_; go_simp; (try with_reducible rfl); done)); try simp only [Act.put, List.setIfInBounds_toArray, List.set_cons_zero, List.set_cons_succ])
        (refine Org.yes (v := ?_) rfl (by kernel_rfl) (by kernel_rfl) (by kernel_rfl) (by kernel_rfl) (by kernel_rfl) (fun _ _ _ h => h) (by kernel_rfl) (SM.of hS) ?_ ?_; rotate_left; (focus (intro w hSw; (try dsimp only at hSw); refine Pure.val ?_; go_simp; (try with_reducible rfl); done)); try simp only [Act.put, List.setIfInBounds_toArray, List.set_cons_zero, List.set_cons_succ])
        refine Org.done (by kernel_rfl) ?_
        skip
        have HS10 := hid hS
        clear hS e50 e51 e52
        go_wp2_with fail
        go_loopw [16, 65] (fun tv jv wr => ∃ j : Nat, j ≤ N ∧ tv = .bool ((ls.take j).any fun c => decide (c = pr)) ∧ jv = .int .i64 (j : Int) ∧ Below wq.heap.size wq wr) (fun _ jv _ => N - (intOf jv).toNat)
        case atStart => exact ⟨0, Nat.zero_le _, rfl, rfl, HS10.out⟩
        case round =>
          obtain ⟨j, hj, rfl, rfl, hbi⟩ := hrel
          have HBI := hid hbi
          clear hbi
          obtain ⟨tb, htb⟩ : ∃ b, ((ls.take j).any fun c => decide (c = pr)) = b := ⟨_, rfl⟩
          rw [htb]
          have HTB := hid htb
          clear htb
          by_cases hjl : j < N
          · have hjl' : (j : Int) < (N : Int) := by omega
            obtain ⟨bj, oj, Aj, cj, ej, hbj, hcj, hj1, hj2, hslj⟩ := (HCQ.out.below HBI.out).get hjl
            obtain ⟨xj, hxj⟩ : ∃ x, ls.getD j [] = x := ⟨_, rfl⟩
            rw [hxj] at hcj hslj hj1
            obtain ⟨nj, hnj⟩ : ∃ q, xj.length = q := ⟨_, rfl⟩
            rw [hnj] at hcj hslj hj1
            subst ej
            have hjlen : j < ls.length := by rw [HLN.out]; exact hjl
            have htk : (ls.take (j + 1)).any (fun c => decide (c = pr)) = (tb || decide (xj = pr)) := by
              rw [List.take_succ_eq_append_getElem hjlen, List.any_append, HTB.out]
              have : ls[j] = xj := by rw [← hxj, List.getD_eq_getElem?_getD, List.getElem?_eq_getElem hjlen]; rfl
              rw [this]
              simp
            have HTK := hid htk
            have HSJ := hid hslj
            have hnj9 : nj ≤ 9223372036854775807 := by omega
            clear hslj htk hxj hnj
            cases tb with
            | true =>
              go_wp2_with fail
              go_roundw
              case rel => exact ⟨j + 1, by omega, by rw [HTK.out]; rfl, by go_num, HBI.out⟩
              case measure => simp [intOf]; omega
            | false =>
              have hrI := HRR.out.below HBI.out HRR.out.lt
              have hr := hrI
              have x0 := hr.cell 0
              have x1 := hr.cell 1
              have x2 := hr.cell 2
              have x3 := hr.cell 3
              have x4 := hr.cell 4
              have x5 := hr.cell 5
              have x6 := hr.cell 6
              have x7 := hr.cell 7
              simp only [List.getElem?_cons_succ, List.getElem?_cons_zero] at x0 x1 x2 x3 x4 x5 x6 x7
              clear hr
              go_wp2_with fail
              refine (putrec_any wr.heap.size r Ar nr cr wr ((HSLR.out.below HBI.out).mono HBI.out.size) (Nat.le_refl _)).mono ?_
              rintro e wp ⟨vp, rfl, hop, hbp⟩
              rw [HPR.out] at hop
              obtain ⟨Ap, cp, rfl, hp1, hp2, hsp⟩ := own_slice hop
              obtain ⟨npr, hnpr⟩ : ∃ q, pr.length = q := ⟨_, rfl⟩
              rw [hnpr] at hsp hp1 ⊢
              have HSP := hid hsp
              have HBP := hid (HBI.out.trans (hbp.mono HBI.out.size))
              have HSJ2 := hid ((HSJ.out.below (hbp.mono HBI.out.size)).mono (Nat.le_trans HBI.out.size hbp.size))
              obtain ⟨eqb, heqb⟩ : ∃ b, decide (xj = pr) = b := ⟨_, rfl⟩
              have HEQ := hid heqb
              clear hop hbp hsp heqb hnpr x0 x1 x2 x3 x4 x5 x6 x7
              go_wp2_with fail
              refine (same_is eqb wp.heap.size Aj Ap xj pr nj npr cj cp wp HSJ2.out HSP.out (by omega) (by omega) HEQ.out).mono ?_
              rintro e ws ⟨rfl, dq, rfl⟩
              go_wp2_with fail
              go_roundw
              case rel => exact ⟨j + 1, by omega, by rw [HTK.out, HEQ.out]; simp, by go_num, below_drewN HBP.out dq⟩
              case measure => simp [intOf]; omega
          · have hjl' : ¬ (j : Int) < (N : Int) := by omega
            obtain rfl : j = N := by omega
            have htt : tb = true := by
              rw [← HTB.out, List.take_of_length_le (by rw [HLN.out]; exact Nat.le_refl _), List.any_eq_true]
              exact ⟨pr, HIN.out, decide_eq_true rfl⟩
            subst htt
            go_wp2_with fail
            go_roundw
            case rel => exact ⟨k + 1, by omega, by go_num, HBR.out.trans ((HBQ.out.trans (HBI.out.mono HBQ.out.size)).mono HBR.out.size)⟩
            case measure => simp [intOf]; omega
    · have hlt' : ¬ (k : Int) < (n6 : Int) := by omega
      have HD7 := hid (HD6.out.new_ HBR.out)
      have HC7 := hid (HO56.out.below HBR.out)
      have HX7 := hid (HX6.out.below HBR.out HX6.out.lt)
      have HRM7 := hid (HRM6.out.below (HBR.out.mono HZ6.out))
      have HB7 := hid (HB6.out.trans (HBR.out.mono HB6.out.size))
      have HZ7 := hid (Nat.le_trans HZ6.out HBR.out.size)
      clear HD HD5 HD6 HX HX3 HX4 HX5 HX6 HRM HRM3 HRM4 HRM5 HRM6 HO6 HCELLS HO5
      go_wp2_with fail
      generalize wr = w7 at *
      go_loopw [82] (fun kv wr => ∃ k : Nat, k ≤ N ∧ kv = .int .i64 (k : Int) ∧ DrvE F wr g pg (fillD 60 (spL a61 q ls k) 0) ∧ Only F w7 wr) (fun kv _ => N - (intOf kv).toNat)
      case atStart => exact ⟨0, Nat.zero_le _, rfl, (by rw [show spL a61 q ls 0 = ls from by simp [spL]]; exact HD7.out), Only.refl _ _⟩
      case round =>
        obtain ⟨k, hkN, rfl, hd, hon⟩ := hrel
        have HD := hid hd
        have HON := hid hon
        clear hd hon
        have hsl := spL_len a61 q ls k
        rw [HLN.out] at hsl
        have HOKk := hid (HOK.out (spL a61 q ls k) hsl (spL_64 HL64.out))
        by_cases hkl : k < N
        · have hkl' : (k : Int) < (N : Int) := by omega
          have hkls : k < ls.length := by rw [HLN.out]; exact hkl
          obtain ⟨bj, oj, Aj, cj, ej, hbj, hcj, hj1, hj2, hslj⟩ := ((HC7.out.apart HF4.out HON.out).read HLN.out).get hkl
          obtain ⟨x, hxx⟩ : ∃ x, ls.getD k [] = x := ⟨_, rfl⟩
          have hx64 : x.length = 64 := by rw [← hxx, List.getD_eq_getElem?_getD, List.getElem?_eq_getElem hkls]; exact HL64.out _ (List.getElem_mem _)
          rw [hxx, hx64] at hcj hslj hj1
          subst ej
          have HSJ := hid hslj
          have HXX := hid hxx
          clear hslj hxx
          go_wp2_with fail
          refine (takerec_own wr.heap.size Aj x 64 cj wr HSJ.out (Nat.le_refl _) (by omega) (by omega) hj2).mono ?_
          rintro e wt ⟨dv, rfl, hod, hbt⟩
          obtain ⟨Ar, cr, rfl, _⟩ := own_slice hod
          obtain ⟨T, hT⟩ : ∃ T, takeR x = T := ⟨_, rfl⟩
          rw [hT]
          rw [hT] at hod
          obtain ⟨nr, hnr⟩ : ∃ z, (T.getD Rec.zero).D.length = z := ⟨_, rfl⟩
          rw [hnr]
          have HT := hid hT
          have HBT := hid hbt
          clear hod hbt hT hnr
          cases T with
          | none =>
            simp only [Option.getD_none, Option.isSome_none, Rec.val, Rec.zero]
            go_wp2_with fail
            go_roundw
            case rel => exact ⟨k + 1, by omega, by go_num, (by rw [spL_same hkls (by rw [HXX.out]; exact HT.out)]; exact HD.out.new_ (HBT.out.alloc HBT.out.size _)), HON.out.trans (Only.of_new (HBT.out.alloc HBT.out.size _)) (fun k _ hk => hk)⟩
            case measure => simp [intOf]; omega
          | some r =>
            simp only [Option.getD_some, Option.isSome_some, Rec.val]
            have hsp := fill_spoil (L := spL a61 q ls k) (k := k) (a := a61) (q := q) (by rw [hsl]; exact hkl) ha61b HQO.out
            rw [spL_at hkls, HXX.out] at hsp
            have hspn := spL_next (a := a61) (q := q) hkls
            rw [HXX.out, show spC a61 q x = spoilL x a61 q 4 by unfold spC; rw [HT.out]; rfl] at hspn
            rw [hspn] at hsp
            have HSP := hid hsp
            have HQ2 := hid (HQQ.out)
            have hqq := HQQ.out
            have hba : Below wt.heap.size wt (wt.alloc (.cells #[.int .i64 r.O, .int .i64 r.B, .int .i64 r.I, .int .i64 r.P.K, .int .i64 r.P.H, .int .i64 r.P.S, .int .u32 (r.S.toNat : Int), .slice Ar nr cr] 31)) := (Below.refl _ _).alloc (Nat.le_refl _) _
            have HBA := hid (HBT.out.trans (hba.mono HBT.out.size))
            clear hsp hspn hba
            go_wp2_with fail
            generalize wt.alloc (.cells #[.int .i64 r.O, .int .i64 r.B, .int .i64 r.I, .int .i64 r.P.K, .int .i64 r.P.H, .int .i64 r.P.S, .int .u32 (r.S.toNat : Int), .slice Ar nr cr] 31) = wa at *
            refine (within_any xa 61 _ hx.1 hx.2 (by omega) (by omega)).mono ?_
            rintro e w' ⟨rfl, rfl⟩
            rw [HA.out]
            go_wp2_with fail
            refine (dspoil_any F g pg _ 0 (k : Int) (a61 : Int) (q : Int) _ (HD.out.new_ HBA.out) HOKk.out (by omega) (by omega) (by omega)).mono ?_
            rintro e ws ⟨rfl, hds, hos⟩
            rw [HSP.out] at hds ⊢
            have HDS := hid hds
            have HOS := hid hos
            clear hds hos
            dsimp only
            go_wp2_with fail
            go_roundw
            case rel => exact ⟨k + 1, by omega, by go_num, HDS.out, (HON.out.trans (Only.of_new HBA.out) (fun k _ hk => hk)).trans HOS.out (fun k _ hk => hk)⟩
            case measure => simp [intOf]; omega
        · have hkl' : ¬ (k : Int) < (N : Int) := by omega
          obtain rfl : k = N := by omega
          have hse := spL_end a61 q ls (k := k) (by rw [HLN.out]; exact Nat.le_refl _)
          have HX8 := hid (HX7.out.only HON.out HGM.out)
          have HRM8 := hid (HRM7.out.below (HON.out.below HFW.out HZ7.out))
          have HB8 := hid (HB7.out.trans (HON.out.below (fun k hk => Nat.le_trans HB2.out.size (HFW.out k hk)) HB7.out.size))
          have HZ8 := hid (Nat.le_trans HZ7.out HON.out.size)
          have hr0 : recsL m (fillD 60 (spL a61 q ls k) 0).L = [] := by
            show recsL m (spL a61 q ls k) = []
            rw [hse]
            exact spL_none ha61b HQO.out
          have HR0 := hid hr0
          clear hse hr0
          have hr := HX8.out
          have x0 := hr.cell 0
          have x1 := hr.cell 1
          have x2 := hr.cell 2
          have x3 := hr.cell 3
          have x4 := hr.cell 4
          have x5 := hr.cell 5
          have x6 := hr.cell 6
          have x7 := hr.cell 7
          simp only [List.getElem?_cons_succ, List.getElem?_cons_zero] at x0 x1 x2 x3 x4 x5 x6 x7
          clear hr
          go_wp2_with fail
          refine (records_any F g pg _ 0 m w2.heap.size Ad Ao nd cd no co ts wr HD.out HOKk.out HRM8.out HZ8.out (by omega)).mono ?_
          rintro e w9 ⟨A9, n9, c9, xs9, rfl, hn9, ho9, hmap9, hb9⟩
          rw [HR0.out] at hn9
          have hn90 : n9 = 0 := hn9
          subst hn90
          have HB9 := hid (HB8.out.trans (hb9.mono HB8.out.size))
          clear hn9 ho9 hmap9 hb9
          go_wp2_with fail
          refine (wakes23 w9).mono ?_
          rintro e w10 ⟨rfl, hb10⟩
          have HB10 := hid (HB9.out.trans (hb10.mono HB9.out.size))
          clear hb10
          go_wp2_with fail
          go_ret
          exact ⟨rfl, HB10.out⟩
end Go.Proofs.Ytnknjeipfjdjoaa

