/- Law28b -/
import Derived.Deep.DeepCutAuto
import Derived.BigGuardPart
import Derived.Test.YtlfmfhdgnmchgaaGreatBRoomMade13
import Derived.Test.YtlfmfhdgnmchgaaGreatBRoomMade47
import Derived.Test.YtlfmfhdgnmchgaaGreatBRoomMade48
import Derived.Test.YtlfmfhdgnmchgaaGreatBRoomMade49
import Derived.Test.YtlfmfhdgnmchgaaGreatBRoomMade50
set_option maxRecDepth 20000
set_option linter.unusedSimpArgs false
set_option linter.unusedVariables false
namespace Go.Proofs.YtlfmfhdgnmchgaaGreat
open Go.RowKit Wells
theorem rec_small {m : Mani} {l : List (List Byte)} {xs : List RD} (h : xs.map RD.r = recsL m l) : ∀ x ∈ xs, x.r.D.length ≤ 1048576 := by
  intro x hx
  have h1 : x.r ∈ recsL m l := by rw [← h]; exact List.mem_map_of_mem hx
  obtain ⟨⟨c, _, hc⟩, _⟩ := mem_recsL h1
  have h2 := rec_short (takeR_some hc).1
  rw [recB_len] at h2
  omega
set_option maxRecDepth 20000 in
set_option maxHeartbeats 4000000 in
theorem walk_RoomMade (A : Option Addr) (n c : Nat) (l : List Int) (A2 : Option Addr) (n2 c2 : Nat) (l2 : List Int) (xn xx : Int) (w : World) (h : IsInts w A n c l) (h2 : IsInts w A2 n2 c2 l2) (hn : -9223372036854775808 ≤ xn ∧ xn ≤ 9223372036854775807) (hx : -9223372036854775808 ≤ xx ∧ xx ≤ 9223372036854775807) :
    Calls Tryz.prog 3 #[.slice A n c, .slice A2 n2 c2, .int .i64 xn, .int .i64 xx] w fun e w' => e = .returned (.bool true) ∧ Below w.heap.size w w' := by
  obtain ⟨hs, hle, hcap, hwf⟩ := h
  obtain ⟨hs2, hle2, hcap2, hwf2⟩ := h2
  have HS2 := hid hs2
  obtain ⟨z9, hz9, hz9b⟩ : ∃ z : Nat, xx % 9 = (z : Int) ∧ z ≤ 8 := ⟨(xx % 9).toNat, by omega, by omega⟩
  obtain ⟨nz, hnz, hnzb⟩ : ∃ z : Int, xn % 40 = z ∧ 0 ≤ z ∧ z ≤ 39 := ⟨_, rfl, by omega, by omega⟩
  have HZ9 := hid hz9
  have HZ40 := hid hnz
  clear hz9 hnz hs2
  go_enter Tryz.func3, Tryz.ntmps3
  go_wp2_with fail
  refine (mani_any w.heap.size A n c l w hs (Nat.le_refl _) (by omega) hwf).mono ?_
  rintro e w1 ⟨m, Ad, nd, cd, Ao, no, co, ts, rfl, hom, hpm, hb1⟩
  have HPM := hid hpm
  obtain ⟨h64, hnm⟩ := hpm.m64
  have hno : m.objs.length = no := hom.read.o.len
  have hno5 := hpm.olen
  have hrow := Row.new w1 27 #[.int .i64 m.seq, .int .i64 m.next, .int .i64 m.P.K, .int .i64 m.P.H, .int .i64 m.P.S, .int .i64 m.extra, .slice Ad nd cd, .slice Ao no co]
  have hb2 : Below w1.heap.size w1 (w1.alloc (.cells #[.int .i64 m.seq, .int .i64 m.next, .int .i64 m.P.K, .int .i64 m.P.H, .int .i64 m.P.S, .int .i64 m.extra, .slice Ad nd cd, .slice Ao no co] 27)) := (Below.refl _ _).alloc (Nat.le_refl _) _
  have HX := hid hrow
  have HRM := hid ((hom.read.below hb2).mono hb2.size)
  have HB2 := hid (hb1.trans (hb2.mono hb1.size))
  have HS2b := hid (HS2.out.below HB2.out)
  clear hom hpm hb1 hrow hb2 hs
  unfold Mani.val
  go_wp2_with fail
  generalize w1.alloc (.cells #[.int .i64 m.seq, .int .i64 m.next, .int .i64 m.P.K, .int .i64 m.P.H, .int .i64 m.P.S, .int .i64 m.extra, .slice Ad nd cd, .slice Ao no co] 27) = w2 at *
  obtain ⟨gm, hgm⟩ : ∃ g, w1.heap.size = g := ⟨_, rfl⟩
  rw [hgm] at HX ⊢
  clear hgm
  have hr := HX.out
  have x0 := hr.cell 0
  have x1 := hr.cell 1
  have x2 := hr.cell 2
  have x3 := hr.cell 3
  have x4 := hr.cell 4
  have x5 := hr.cell 5
  have x6 := hr.cell 6
  have x7 := hr.cell 7
  simp only [List.getElem?_cons_succ, List.getElem?_cons_zero] at x0 x1 x2 x3 x4 x5 x6 x7
  clear hr

  go_wp2_with fail
  refine (playcells_any m w2.heap.size Ad Ao nd cd no co ts A2 n2 c2 30 l2 w2 HRM.out (Nat.le_refl _) HPM.out (HS2b.out.mono HB2.out.size) (by omega) hwf2 (by omega)).mono ?_
  rintro e w3 ⟨A3, c3, vs3, ls, n3, rfl, hln, hn30, hl64, ho3, hb3⟩
  have HLN := hid hln
  have HL64 := hid hl64
  have HO3 := hid (ho3.read hln)
  have HB3 := hid (HB2.out.trans (hb3.mono HB2.out.size))
  have HX3 := hid (HX.out.below hb3 HX.out.lt)
  have HRM3 := hid (HRM.out.below hb3)
  have HZ3 := hid hb3.size
  clear hln hl64 ho3 hb3 x0 x1 x2 x3 x4 x5 x6 x7
  obtain ⟨N0, hN0⟩ : ∃ N0, 1 + n3 = N0 := ⟨_, rfl⟩
  obtain ⟨N, hN⟩ : ∃ N, N0 + z9 = N := ⟨_, rfl⟩
  have eN0 : 1 + (n3 : Int) = (N0 : Int) := by omega
  have eN : (N0 : Int) + (z9 : Int) = (N : Int) := by omega
  have hNb : N0 ≤ 31 ∧ N ≤ 39 ∧ n3 < N ∧ 1 ≤ N := by omega
  clear hN0 hN
  go_wp2_with fail
  refine (within_any xx 9 _ hx.1 hx.2 (by omega) (by omega)).mono ?_
  rintro e w' ⟨rfl, rfl⟩
  rw [HZ9.out]
  go_wp2_with fail
  refine (filled_any N A3 n3 c3 vs3 ls w3 HO3.out ⟨by omega, by omega⟩ (by omega) HL64.out).mono ?_
  rintro e w4 ⟨F, G, g, pg, gr, qg, rfl, hh4⟩
  have HD4 := hid hh4.d_
  have HB4 := hid (HB3.out.trans (hh4.be.mono HB3.out.size))
  have HX4 := hid (HX3.out.below hh4.be HX3.out.lt)
  have HRM4 := hid (HRM3.out.below (hh4.be.mono HZ3.out))
  have HZ4 := hid (Nat.le_trans HZ3.out hh4.be.size)
  have HFW := hid (show ∀ k, F k → w2.heap.size ≤ k from fun k hk => Nat.le_trans HZ3.out (hh4.hF k hk))
  have HF4 := hid hh4.d_.ltp
  have HGM := hid (show ¬ F gm from fun hf => by have h1 := hh4.hF gm hf; have h2 := HX3.out.lt; omega)
  have HOK := hid (show ∀ L : List (List Byte), L.length ≤ N → (∀ x ∈ L, x.length = 64) → DOk 0 (fillD N L 0) from fun L h1 h2 => fill_ok ⟨by omega, by omega⟩ h1 (Nat.zero_le _) h2)
  have HOKl := hid (HOK.out ls (by rw [HLN.out]; omega) HL64.out)
  clear hh4 eN0 eN
  go_wp2_with fail
  refine (within_any xn 40 _ hn.1 hn.2 (by omega) (by omega)).mono ?_
  rintro e w' ⟨rfl, rfl⟩
  rw [HZ40.out]
  have hr := HX4.out
  have x0 := hr.cell 0
  have x1 := hr.cell 1
  have x2 := hr.cell 2
  have x3 := hr.cell 3
  have x4 := hr.cell 4
  have x5 := hr.cell 5
  have x6 := hr.cell 6
  have x7 := hr.cell 7
  simp only [List.getElem?_cons_succ, List.getElem?_cons_zero] at x0 x1 x2 x3 x4 x5 x6 x7
  clear hr

  go_wp2_with fail
  refine (records_any F g pg _ 0 m w2.heap.size Ad Ao nd cd no co ts w4 HD4.out HOKl.out HRM4.out HZ4.out (by omega)).mono ?_
  rintro e w5 ⟨A5, n5, c5, xs, rfl, hn5, ho5, hmap, hb5⟩
  rw [show (fillD N ls 0).L = ls from rfl] at hn5 hmap
  have HXN := hid (show xs.length = n5 by rw [hn5, ← hmap, List.length_map])
  have HMAP := hid hmap
  have hn5b : n5 ≤ 60 := by rw [hn5]; have := recsL_len m ls; have := HLN.out; omega
  have HO5 := hid ho5
  have HB5 := hid (HB4.out.trans (hb5.mono HB4.out.size))
  have HX5 := hid (HX4.out.below hb5 HX4.out.lt)
  have HRM5 := hid (HRM4.out.below (hb5.mono HZ4.out))
  have HZ5 := hid hb5.size
  have HD5 := hid (HD4.out.new_ hb5)
  clear hn5 hmap ho5 hb5 x0 x1 x2 x3 x4 x5 x6 x7
  go_wp2_with fail
  refine (dall_any F g pg _ 0 w5 HD5.out HOKl.out).mono ?_
  rintro e w6 ⟨A6, c6, vs6, rfl, ho6, -, hb6⟩
  rw [show (fillD N ls 0).L = ls from rfl, HLN.out] at ho6 ⊢
  have HO6 := hid (ho6.base HZ5.out)
  have HO56 := hid (HO5.out.below hb6)
  have HB6 := hid (HB5.out.trans (hb6.mono HB5.out.size))
  have HX6 := hid (HX5.out.below hb6 HX5.out.lt)
  have HZ26 := hid (Nat.le_trans (Nat.le_trans HZ4.out HZ5.out) hb6.size)
  have HRM6 := hid (HRM5.out.below (hb6.mono (Nat.le_trans HZ4.out HZ5.out)))
  have HD6 := hid (HD5.out.new_ hb6)
  clear ho6 hb6
  have hr := HX6.out
  have x0 := hr.cell 0
  have x1 := hr.cell 1
  have x2 := hr.cell 2
  have x3 := hr.cell 3
  have x4 := hr.cell 4
  have x5 := hr.cell 5
  have x6 := hr.cell 6
  have x7 := hr.cell 7
  simp only [List.getElem?_cons_succ, List.getElem?_cons_zero] at x0 x1 x2 x3 x4 x5 x6 x7
  clear hr

  obtain ⟨bf, hbf⟩ : ∃ b, fitsM m (fillD N ls 0) nz = b := ⟨_, rfl⟩
  have HBF := hid hbf
  clear hbf
  go_wp2_with fail
  refine (fits_any F g pg _ 0 m w2.heap.size Ad Ao nd cd no co ts nz bf w6 HD6.out HOKl.out HRM6.out HZ26.out (by omega) h64 hnm (by omega) HBF.out).mono ?_
  rintro e w7 ⟨rfl, hb7⟩
  have HO7 := hid (HO6.out.below hb7)
  have HO57 := hid (HO56.out.below hb7)
  have HB7 := hid (HB6.out.trans (hb7.mono HB6.out.size))
  have HX7 := hid (HX6.out.below hb7 HX6.out.lt)
  have HZ27 := hid (Nat.le_trans HZ26.out hb7.size)
  have HRM7 := hid (HRM6.out.below (hb7.mono HZ26.out))
  have HD7 := hid (HD6.out.new_ hb7)
  clear hb7 x0 x1 x2 x3 x4 x5 x6 x7 HD4 HD5 HD6 HRM HRM3 HRM4 HRM5 HRM6 HX HX3 HX4 HX5 HX6 HO5 HO56 HO6
  have hr := HX7.out
  have x0 := hr.cell 0
  have x1 := hr.cell 1
  have x2 := hr.cell 2
  have x3 := hr.cell 3
  have x4 := hr.cell 4
  have x5 := hr.cell 5
  have x6 := hr.cell 6
  have x7 := hr.cell 7
  simp only [List.getElem?_cons_succ, List.getElem?_cons_zero] at x0 x1 x2 x3 x4 x5 x6 x7
  clear hr

  go_wp2_with fail
  refine (make_any F g pg _ 0 m w2.heap.size Ad Ao nd cd no co ts nz w7 HD7.out HOKl.out (by omega) HRM7.out HZ27.out (by omega) h64 hnm (by omega)).mono ?_
  rintro e w8 ⟨rfl, hd8, ho8⟩
  have HWAS := hid (HO7.out.apartR HF4.out ho8)
  have HRS := hid (HO57.out.apartR HF4.out ho8)
  have HB8 := hid (HB7.out.trans (ho8.below (fun k hk => Nat.le_trans HB2.out.size (HFW.out k hk)) HB7.out.size))
  have HX8 := hid (HX7.out.only ho8 HGM.out)
  have HRM8 := hid (HRM7.out.below (ho8.below HFW.out HZ27.out))
  have HZ28 := hid (Nat.le_trans HZ27.out ho8.size)
  obtain ⟨F2, hF2⟩ : ∃ P, Ext F w7 w8 = P := ⟨_, rfl⟩
  rw [hF2] at hd8
  clear hF2 ho8 x0 x1 x2 x3 x4 x5 x6 x7
  have e0 : ((fillD N ls 0).room : Int) = (N : Int) := rfl
  have e1 : ((fillD N ls 0).L.length : Int) = (n3 : Int) := by rw [show (fillD N ls 0).L = ls from rfl, HLN.out]
  cases bf with
  | false =>
    have hmd : makeD m (fillD N ls 0) nz = (fillD N ls 0, 7) := by unfold makeD; rw [HBF.out]; rfl
    rw [hmd] at hd8 ⊢
    have HD8 := hid hd8
    clear hd8 hmd e0 e1
    go_wp2_with fail
    refine (dall_any F2 g pg _ 0 w8 HD8.out HOKl.out).mono ?_
    rintro e wy ⟨Ay, cy, vy, rfl, hoy, -, hby⟩
    rw [show (fillD N ls 0).L = ls from rfl, HLN.out] at hoy ⊢
    have HRY := hid (hoy.read HLN.out)
    have HWAS2 := hid (((HWAS.out.below hby).read HLN.out))
    have HBY := hid (HB8.out.trans (hby.mono HB8.out.size))
    clear hoy hby
    go_wp2_with fail
    refine (rows_is true wy.heap.size Ay A6 vy vs6 ls ls n3 n3 cy c6 wy HRY.out HWAS2.out (by omega) (by omega) (decide_eq_true rfl)).mono ?_
    rintro e wv ⟨rfl, dv, rfl⟩
    go_wp2_with fail
    refine (wakes28 _).mono ?_
    rintro e wu ⟨rfl, hbu⟩
    have HBU := hid ((below_drewN HBY.out dv).trans (hbu.mono (below_drewN HBY.out dv).size))
    clear hbu
    go_wp2_with fail
    go_ret
    exact ⟨rfl, HBU.out⟩
  | true =>
    obtain ⟨L, hmd, hLN, hL64, hrec, hroom, hor⟩ : ∃ L, makeD m (fillD N ls 0) nz = (fillD N L 0, 0) ∧ L.length ≤ N ∧ (∀ x ∈ L, x.length = 64) ∧ recsL m L = recsL m ls ∧ ¬ ((N : Int) - (L.length : Int) < nz) ∧ ((L = ls ∧ nz ≤ (N : Int) - (n3 : Int)) ∨ (L = keepL m ls ∧ ¬ nz ≤ (N : Int) - (n3 : Int))) := by
      cases hb1 : behB (fillD N ls 0) (fillD N ls 0).L.length nz with
      | true =>
        have h1 : nz ≤ (N : Int) - (n3 : Int) := by
          unfold behB at hb1
          rw [decide_eq_true_eq, e1, e0] at hb1
          omega
        exact ⟨ls, by unfold makeD; rw [HBF.out, hb1]; rfl, by rw [HLN.out]; omega, HL64.out, rfl, by rw [HLN.out]; omega, .inl ⟨rfl, h1⟩⟩
      | false =>
        obtain ⟨h1, h2, h3⟩ := make_fits HBF.out hb1
        have h4 : ¬ nz ≤ (N : Int) - (n3 : Int) := by
          unfold behB at hb1
          rw [decide_eq_false_iff_not, e1, e0] at hb1
          omega
        have h5 : ¬ ((N : Int) - ((keepL m ls).length : Int) < nz) := by
          unfold behB at h3
          rw [decide_eq_true_eq, e0] at h3
          omega
        exact ⟨keepL m ls, h1, h2, keepL_64 m ls, recsL_keep m ls, h5, .inr ⟨rfl, h4⟩⟩
    rw [hmd] at hd8 ⊢
    have HD8 := hid hd8
    have HOKL := hid (HOK.out L hLN hL64)
    obtain ⟨nL, hnL⟩ : ∃ q, L.length = q := ⟨_, rfl⟩
    rw [hnL] at hroom hLN
    have HNL := hid hnL
    have HREC := hid hrec
    have HOR := hid hor
    clear hd8 hmd e0 e1 hL64 hnL hrec hor
    dsimp only
    go_wp2_with fail
    refine (droom_any F2 g pg _ w8 HD8.out).mono ?_
    rintro e w' ⟨rfl, rfl⟩
    rw [show ((fillD N L 0).room : Int) = (N : Int) from rfl]
    go_wp2_with fail
    refine (dlen_any F2 g pg _ w8 HD8.out).mono ?_
    rintro e w' ⟨rfl, rfl⟩
    rw [show (fillD N L 0).L = L from rfl, HNL.out]
    have hr := HX8.out
    have x0 := hr.cell 0
    have x1 := hr.cell 1
    have x2 := hr.cell 2
    have x3 := hr.cell 3
    have x4 := hr.cell 4
    have x5 := hr.cell 5
    have x6 := hr.cell 6
    have x7 := hr.cell 7
    simp only [List.getElem?_cons_succ, List.getElem?_cons_zero] at x0 x1 x2 x3 x4 x5 x6 x7
    clear hr

    go_wp2_with fail
    refine (records_any F2 g pg _ 0 m w2.heap.size Ad Ao nd cd no co ts w8 HD8.out HOKL.out HRM8.out HZ28.out (by omega)).mono ?_
    rintro e w9 ⟨A9, n9, c9, ys, rfl, hn9, ho9, hmap9, hb9⟩
    rw [show (fillD N L 0).L = L from rfl, HREC.out] at hn9 hmap9
    have HYN := hid (show ys.length = n9 by rw [hn9, ← hmap9, List.length_map])
    have hn9b : n9 ≤ 60 := by rw [hn9]; have := recsL_len m ls; have := HLN.out; omega
    have HMAP9 := hid hmap9
    have HO9 := hid (ho9.base (Nat.zero_le _))
    have HRS9 := hid ((HRS.out.below hb9).base (Nat.zero_le _))
    have HWAS9 := hid (HWAS.out.below hb9)
    have HB9 := hid (HB8.out.trans (hb9.mono HB8.out.size))
    have HX9 := hid (HX8.out.below hb9 HX8.out.lt)
    have HRM9 := hid (HRM8.out.below (hb9.mono HZ28.out))
    have HZ29 := hid (Nat.le_trans HZ28.out hb9.size)
    have HD9 := hid (HD8.out.new_ hb9)
    clear hn9 ho9 hmap9 hb9 x0 x1 x2 x3 x4 x5 x6 x7
    go_wp2_with fail
    refine (lawrecs_any 0 A9 A5 n9 n5 c9 c5 ys xs true w9 HO9.out HRS9.out HYN.out HXN.out (by omega) (rec_small HMAP9.out) (rec_small HMAP.out) (decide_eq_true (by rw [HMAP9.out, HMAP.out]))).mono ?_
    rintro e w10 ⟨rfl, hb10⟩
    have HWAS := hid (HWAS9.out.below hb10)
    have HB10 := hid (HB9.out.trans (hb10.mono HB9.out.size))
    have HX10 := hid (HX9.out.below hb10 HX9.out.lt)
    have HRM10 := hid ((HRM9.out.below (hb10.mono HZ29.out)).mono (Nat.le_trans HZ29.out hb10.size))
    have HD10 := hid (HD9.out.new_ hb10)
    clear hb10 HD7 HD8 HD9 HX7 HX8 HX9 HRM7 HRM8 HRM9
    go_wp2_with fail
    refine (droom_any F2 g pg _ w10 HD10.out).mono ?_
    rintro e w' ⟨rfl, rfl⟩
    rw [show ((fillD N L 0).room : Int) = (N : Int) from rfl]
    rcases HOR.out with ⟨hL, hge⟩ | ⟨hL, hge⟩
    · subst hL
      have hnl3 : nL = n3 := by rw [← HNL.out, HLN.out]
      subst hnl3
      go_wp2_with fail
      refine (dall_any F2 g pg _ 0 w10 HD10.out HOKL.out).mono ?_
      rintro e wy ⟨Ay, cy, vy, rfl, hoy, -, hby⟩
      rw [show (fillD N L 0).L = L from rfl, HNL.out] at hoy ⊢
      have HRY := hid (hoy.read HNL.out)
      have HWAS2 := hid (((HWAS.out.below hby).read HNL.out))
      have HBY := hid (HB10.out.trans (hby.mono HB10.out.size))
      clear hoy hby
      go_wp2_with fail
      refine (rows_is true wy.heap.size Ay A6 vy vs6 L L nL nL cy c6 wy HRY.out HWAS2.out (by omega) (by omega) (decide_eq_true rfl)).mono ?_
      rintro e wv ⟨rfl, dv, rfl⟩
      go_wp2_with fail
      refine (wakes28 _).mono ?_
      rintro e wu ⟨rfl, hbu⟩
      have HBU := hid ((below_drewN HBY.out dv).trans (hbu.mono (below_drewN HBY.out dv).size))
      clear hbu
      go_wp2_with fail
      go_ret
      exact ⟨rfl, HBU.out⟩
    · subst hL
      have HOK2 := HOKL
      have HWH := hid (whole_keep HPM.out.may ls)
      go_upto_region 16 with fail
      have HDk := HD10
      have HRMk := HRM10
      have HXk := HX10
      have HBk := HB10
      have hWH0 : wholeM m (fillD N (keepL m ls) 0).L = true := HWH.out
      generalize w10 = wk at *
      refine Org.begin [] (fun w' => Below wk.heap.size wk w') [0, 1, 2, 3, 4, 6, 7, 5, 8, 9, 10, 11, 12, 13, 14] (by kernel_rfl) (below_drewN (Below.refl _ _) 1) (fun hS => ?_)
      (refine Org.yes (v := ?_) rfl (by kernel_rfl) (by kernel_rfl) (by kernel_rfl) (by kernel_rfl) (by kernel_rfl) (fun _ _ _ h => h) (by kernel_rfl) (SM.of hS) ?_ ?_; rotate_left; (focus (intro w hSw; (try dsimp only at hSw); refine Pure.val ?_; go_simp; (try with_reducible rfl); done)); try simp only [Act.put, List.setIfInBounds_toArray, List.set_cons_zero, List.set_cons_succ])
      (refine Org.yes (v := ?_) rfl (by kernel_rfl) (by kernel_rfl) (by kernel_rfl) (by kernel_rfl) (by kernel_rfl) (fun _ _ _ h => h) (by kernel_rfl) (SM.of hS) ?_ ?_; rotate_left; (focus (intro w hSw; (try dsimp only at hSw); have hr := HXk.out.below hSw HXk.out.lt; have x0 := hr.cell 0; have x1 := hr.cell 1; have x2 := hr.cell 2; have x3 := hr.cell 3; have x4 := hr.cell 4; have x5 := hr.cell 5; have x6 := hr.cell 6; have x7 := hr.cell 7; simp only [List.getElem?_cons_succ, List.getElem?_cons_zero] at x0 x1 x2 x3 x4 x5 x6 x7; refine Pure.val ?_; go_simp; (try with_reducible rfl); done)); try simp only [Act.put, List.setIfInBounds_toArray, List.set_cons_zero, List.set_cons_succ])
      refine Org.go rfl (by kernel_rfl) (by kernel_rfl) (fun K hK => ?_)
      go_simp
      go_at_call 18
      refine (whole_any F2 g pg _ 0 m wk.heap.size Ad Ao nd cd no co ts true _ (HDk.out.new_ hS) HOK2.out (HRMk.out.below hS) hS.size h64 hnm HWH.out).mono ?_
      rintro e wz ⟨rfl, hbz⟩
      have hS3 := hS.trans (hbz.mono hS.size)
      clear hbz
      go_wp2_with fail
      refine hK.out _ _ hS3 (fun hS2 => ?_)
      clear hS3
      clear hK K hS
      have hS := hS2
      clear hS2
      try simp only [Act.put, List.setIfInBounds_toArray, List.set_cons_zero, List.set_cons_succ]
      (refine Org.yes (v := ?_) rfl (by kernel_rfl) (by kernel_rfl) (by kernel_rfl) (by kernel_rfl) (by kernel_rfl) (fun _ _ _ h => h) (by kernel_rfl) (SM.of hS) ?_ ?_; rotate_left; (focus (intro w hSw; (try dsimp only at hSw); refine Pure.val ?_; go_simp; (try with_reducible rfl); done)); try simp only [Act.put, List.setIfInBounds_toArray, List.set_cons_zero, List.set_cons_succ])
      (refine Org.yes (v := ?_) rfl (by kernel_rfl) (by kernel_rfl) (by kernel_rfl) (by kernel_rfl) (by kernel_rfl) (fun _ _ _ h => h) (by kernel_rfl) (SM.of hS) ?_ ?_; rotate_left; (focus (intro w hSw; (try dsimp only at hSw); refine Pure.val ?_; go_simp; (try with_reducible rfl); done)); try simp only [Act.put, List.setIfInBounds_toArray, List.set_cons_zero, List.set_cons_succ])
      (refine Org.yes (v := ?_) rfl (by kernel_rfl) (by kernel_rfl) (by kernel_rfl) (by kernel_rfl) (by kernel_rfl) (fun _ _ _ h => h) (by kernel_rfl) (SM.of hS) ?_ ?_; rotate_left; (focus (intro w hSw; (try dsimp only at hSw); refine Pure.val ?_; go_simp; (try with_reducible rfl); done)); try simp only [Act.put, List.setIfInBounds_toArray, List.set_cons_zero, List.set_cons_succ])
      (refine Org.yes (v := ?_) rfl (by kernel_rfl) (by kernel_rfl) (by kernel_rfl) (by kernel_rfl) (by kernel_rfl) (fun _ _ _ h => h) (by kernel_rfl) (SM.of hS) ?_ ?_; rotate_left; (focus (intro w hSw; (try dsimp only at hSw); have hr := HXk.out.below hSw HXk.out.lt; have x0 := hr.cell 0; have x1 := hr.cell 1; have x2 := hr.cell 2; have x3 := hr.cell 3; have x4 := hr.cell 4; have x5 := hr.cell 5; have x6 := hr.cell 6; have x7 := hr.cell 7; simp only [List.getElem?_cons_succ, List.getElem?_cons_zero] at x0 x1 x2 x3 x4 x5 x6 x7; refine Pure.val ?_; go_simp; (try with_reducible rfl); done)); try simp only [Act.put, List.setIfInBounds_toArray, List.set_cons_zero, List.set_cons_succ])
      refine Org.go rfl (by kernel_rfl) (by kernel_rfl) (fun K hK => ?_)
      go_simp
      go_at_call 10
      refine (dall_any F2 g pg _ 0 _ (HDk.out.new_ hS) HOK2.out).mono ?_
      rintro e wy ⟨Ay, cy, vy, rfl, hoy, -, hby⟩
      rw [show (fillD N (keepL m ls) 0).L = keepL m ls from rfl, HNL.out] at hoy ⊢
      have HOY := hid hoy
      have hS3 := hS.trans (hby.mono hS.size)
      clear hoy hby
      go_wp2_with fail
      refine hK.out _ _ hS3 (fun hS2 => ?_)
      clear hS3
      clear hK K hS
      have hS := hS2
      clear hS2
      try simp only [Act.put, List.setIfInBounds_toArray, List.set_cons_zero, List.set_cons_succ]
      refine Org.go rfl (by kernel_rfl) (by kernel_rfl) (fun K hK => ?_)
      go_simp
      go_at_call 19
      refine (keep_any F2 g pg _ 0 m wk.heap.size Ad Ao nd cd no co ts _ (HDk.out.new_ hS) HOK2.out (HRMk.out.below hS) hS.size (by omega) h64 hnm).mono ?_
      rintro e wx ⟨Ax, cx, vx, rfl, hox, hbx⟩
      rw [show (fillD N (keepL m ls) 0).L = keepL m ls from rfl, keepL_keep, HNL.out] at hox ⊢
      have HRX := hid (hox.read HNL.out)
      have HRY := hid ((HOY.out.below hbx).read HNL.out)
      have hS3 := hS.trans (hbx.mono hS.size)
      clear hox hbx
      go_wp2_with fail
      refine hK.out _ _ hS3 (fun hS2 => ?_)
      clear hS3
      clear hK K hS
      have hS := hS2
      clear hS2
      try simp only [Act.put, List.setIfInBounds_toArray, List.set_cons_zero, List.set_cons_succ]
      refine Org.go rfl (by kernel_rfl) (by kernel_rfl) (fun K hK => ?_)
      go_simp
      go_at_call 13
      refine (rows_is true wx.heap.size Ay Ax vy vx (keepL m ls) (keepL m ls) nL nL cy cx _ HRY.out HRX.out (by omega) (by omega) (decide_eq_true rfl)).mono ?_
      rintro e wv ⟨rfl, dv, rfl⟩
      have hS3 := below_drewN hS dv
      go_wp2_with fail
      refine hK.out _ _ hS3 (fun hS2 => ?_)
      clear hS3
      clear hK K hS
      have hS := hS2
      clear hS2
      try simp only [Act.put, List.setIfInBounds_toArray, List.set_cons_zero, List.set_cons_succ]
      (refine Org.yes (v := ?_) rfl (by kernel_rfl) (by kernel_rfl) (by kernel_rfl) (by kernel_rfl) (by kernel_rfl) (fun _ _ _ h => h) (by kernel_rfl) (SM.of hS) ?_ ?_; rotate_left; (focus (intro w hSw; (try dsimp only at hSw); refine Pure.val ?_; go_simp; (try with_reducible rfl); done)); try simp only [Act.put, List.setIfInBounds_toArray, List.set_cons_zero, List.set_cons_succ])
      (refine Org.yes (v := ?_) rfl (by kernel_rfl) (by kernel_rfl) (by kernel_rfl) (by kernel_rfl) (by kernel_rfl) (fun _ _ _ h => h) (by kernel_rfl) (SM.of hS) ?_ ?_; rotate_left; (focus (intro w hSw; (try dsimp only at hSw); refine Pure.val ?_; go_simp; (try with_reducible rfl); done)); try simp only [Act.put, List.setIfInBounds_toArray, List.set_cons_zero, List.set_cons_succ])
      refine Org.go rfl (by kernel_rfl) (by kernel_rfl) (fun K hK => ?_)
      go_simp
      go_at_call 14
      refine (wakes28 _).mono ?_
      rintro e wu ⟨rfl, hbu⟩
      have hS3 := hS.trans (hbu.mono hS.size)
      clear hbu
      go_wp2_with fail
      refine hK.out _ _ hS3 (fun hS2 => ?_)
      clear hS3
      clear hK K hS
      have hS := hS2
      clear hS2
      try simp only [Act.put, List.setIfInBounds_toArray, List.set_cons_zero, List.set_cons_succ]
      (refine Org.yes (v := ?_) rfl (by kernel_rfl) (by kernel_rfl) (by kernel_rfl) (by kernel_rfl) (by kernel_rfl) (fun _ _ _ h => h) (by kernel_rfl) (SM.of hS) ?_ ?_; rotate_left; (focus (intro w hSw; (try dsimp only at hSw); refine Pure.val ?_; go_simp; (try with_reducible rfl); done)); try simp only [Act.put, List.setIfInBounds_toArray, List.set_cons_zero, List.set_cons_succ])
      (refine Org.yes (v := ?_) rfl (by kernel_rfl) (by kernel_rfl) (by kernel_rfl) (by kernel_rfl) (by kernel_rfl) (fun _ _ _ h => h) (by kernel_rfl) (SM.of hS) ?_ ?_; rotate_left; (focus (intro w hSw; (try dsimp only at hSw); refine Pure.val ?_; go_simp; (try with_reducible rfl); done)); try simp only [Act.put, List.setIfInBounds_toArray, List.set_cons_zero, List.set_cons_succ])
      refine Org.done (by kernel_rfl) ?_
      go_wp2_with fail
      go_ret
      exact ⟨rfl, HBk.out.trans (hS.mono HBk.out.size)⟩
end Go.Proofs.YtlfmfhdgnmchgaaGreat

