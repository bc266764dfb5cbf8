/- The walk of ChunkBack. -/
import Derived.Test.YtnamnoaedfbhpaaLaw18
namespace Go.Proofs.Ytnamnoaedfbhpaa
open Go.RowKit Wells
theorem walk_ChunkBack (a b c : Int) (A : Option Addr) (n0 c0 : Nat) (l0 : List Byte) (w : World) (ha : -9223372036854775808 ≤ a ∧ a ≤ 9223372036854775807) (hb : -9223372036854775808 ≤ b ∧ b ≤ 9223372036854775807) (hc : -9223372036854775808 ≤ c ∧ c ≤ 9223372036854775807) (h : IsBytes w A n0 c0 l0) :
    Calls Try.prog 5 #[.int .i64 a, .int .i64 b, .int .i64 c, .slice A n0 c0] w fun e w' => e = .returned (.bool true) ∧ Below w.heap.size w w' := by
  obtain ⟨hs, hle, hcap⟩ := h
  obtain ⟨n, hn⟩ : ∃ n, n = min n0 600 := ⟨_, rfl⟩
  have hn600 : n ≤ 600 := by omega
  have hnn : n ≤ n0 := by omega
  have hs' : Sl w w.heap.size 1 A n ((l0.take n).map bv8) := by
    have := hs.take hnn
    rwa [Nat.mul_one, ← List.map_take] at this
  generalize l0.take n = l at hs'
  have HL := hid (show l.length = n by have := hs'.len; simpa using this)
  have HN := hid hn
  clear hn
  obtain ⟨p, hp⟩ : ∃ p, parOf a b c = p := ⟨_, rfl⟩
  have hok : p.Ok := hp ▸ parOf_ok a b c
  have hmay := Par.ok_may hok
  have hsz := Par.size_le hok
  obtain ⟨z, hz⟩ : ∃ z : Nat, p.size = (z : Int) := ⟨p.size.toNat, by omega⟩
  obtain ⟨m, hm⟩ : ∃ m : Nat, countP p n = (m : Int) := ⟨(countP p n).toNat, by have := (countP_le p n).1; omega⟩
  have hmn : m ≤ n := by have := (countP_le p n).2 (by omega); omega
  obtain ⟨hz1, hz2⟩ : 1 ≤ z ∧ z ≤ 384 := by omega
  have hbl : (blocks p l).length = m := by have := blocks_length p l; rw [HL.out, hm] at this; omega
  have hfl := blocks_flat hmay l z m hz (by rw [HL.out]; exact hm)
  have heach : ∀ i, i < m → ((blocks p l).getD i []).length = z := fun i hi => by
    have h1 : (blocks p l).getD i [] ∈ blocks p l := by rw [List.getD_eq_getElem?_getD, List.getElem?_eq_getElem (by omega)]; exact List.getElem_mem _
    have := blocks_each p hmay l _ h1
    omega
  have hback := join_back hmay l
  have hcov := count_cover hmay (show (0 : Int) ≤ (n : Int) by omega)
  have hlst := count_least hmay (show (0 : Int) ≤ (n : Int) by omega)
  rw [hm, hz] at hcov hlst
  obtain ⟨mz, hmz⟩ : ∃ mz : Nat, m * z = mz := ⟨_, rfl⟩
  have hmz' : (m : Int) * (z : Int) = (mz : Int) := by rw [← hmz, Int.natCast_mul]
  rw [hmz'] at hcov hlst
  rw [HL.out, hmz] at hfl
  rw [HL.out] at hback
  generalize hblr : blocks p l = bl at *
  have HBR := hid hblr
  clear hblr
  have HB := hid hback
  have HF := hid hfl
  have HE := hid heach
  have HBL := hid hbl
  have HM := hid hm
  have HZ := hid hz
  have HP := hid hp
  have H1 := hid hmay
  have HMZ := hid hmz
  have eks : p.K * p.S = (z : Int) := hz
  obtain ⟨i0, hi, hz0, hzi1, hzi2⟩ := info_parts infoB
  clear hback hfl heach hbl hm hz hp hmay hmz hs
  go_enter Try.func5, Try.ntmps5
  go_wp2_with fail
  refine (cut_any A n0 c0 n 600 _ (by omega) (by omega) (by omega) hle HN.out).mono ?_
  rintro e w1 ⟨rfl, rfl⟩
  go_wp2_with fail
  refine (params_any p a b c _ ha hb hc HP.out).mono ?_
  rintro e w1 ⟨rfl, hb1⟩
  go_wp2_with fail
  have p1 := PCells.new w1 p 23
  have b1 := hb1.alloc hb1.size (.cells #[.int .i64 p.K, .int .i64 p.H, .int .i64 p.S] 23)
  refine (split_any p w.heap.size A n c0 l _ (hs'.below b1) b1.size (by omega) (by omega)).mono ?_
  rintro e w2 ⟨v, vs, rfl, ho, hb2⟩
  rw [HBR.out] at ho
  obtain ⟨Ao, co, rfl, hco1, hco2⟩ := ho.form
  rw [HBL.out] at hco1 ho ⊢
  have p2 := p1.keep hb2 p1.lt
  have b2 := b1.trans (hb2.mono b1.size)
  obtain ⟨c0', c1', c2'⟩ := id p2
  clear hb1 b1 p1 hb2
  go_wp2_with fail
  refine (count_any p n m _ (by omega) HM.out).mono ?_
  rintro e w3 ⟨rfl, hb3⟩
  have p3 := p2.keep hb3 p2.lt
  have b3 := b2.trans (hb3.mono b2.size)
  have ho3 := ho.below hb3
  have rb3 := ho3.read HBL.out
  clear c0' c1' c2' p2 b2 ho hb3
  go_wp2_with fail
  generalize w1.heap.size = gp at *
  have hlt0 := p3.lt
  obtain ⟨G, hG⟩ : ∃ G, G = w3.heap.size := ⟨_, rfl⟩
  have s3 : G ≤ w3.heap.size := by omega
  have hgG : gp < G := by omega
  have hwG : w.heap.size ≤ G := by have := b3.size; omega
  have rbG := rb3.mono (show w3.heap.size ≤ G by omega)
  have GG := hid hG
  clear hG
  obtain ⟨c0', c1', c2'⟩ := id p3
  go_loopw [11, 35] (fun v i wr => ∃ (k q : Nat) (Aa : Option Addr) (ca : Nat), k ≤ m ∧ i = .int .i64 k ∧ v = .slice Aa q ca ∧ q ≤ 384 * k ∧ OB G wr (.slice Aa q ca) (bl.take k).flatten ∧ Below G w3 wr ∧ Hid ((bl.take k).flatten.length = q)) (fun _ i _ => m - (intOf i).toNat)
  case atStart => exact ⟨0, 0, none, 0, by omega, rfl, rfl, by omega, World.ownsRow_nil _ _ _ _, Below.refl _ _, rfl⟩
  case round =>
    obtain ⟨k, q, Aa, ca, hk, rfl, rfl, hq, ho, hbw, hfl⟩ := hrel
    clear c0' c1' c2'
    have pr := p3.keep hbw hgG
    by_cases hlt : k < m
    · obtain ⟨bo, oo, A1, c1, rfl, hbb, hcc, hl1, hc1, sl1⟩ := (rbG.below hbw).get hlt
      have hkl : k < bl.length := by rw [HBL.out]; exact hlt
      have HTK := hid (show bl.take (k + 1) = bl.take k ++ [bl.getD k []] by rw [List.take_succ_eq_append_getElem hkl]; simp [hkl])
      have hxz := hid (HE.out k hlt)
      generalize bl.getD k [] = x at *
      rw [hxz.out] at hcc hl1 sl1
      obtain ⟨d0, d1, d2⟩ := id pr
      have hks : IntKind.i64.wrap (p.K * p.S) = (z : Int) := by rw [eks, IntKind.wrap_i64]; omega
      have hb5 : ((z : Int) != (z : Int)) = false := by simp
      have hkn : (k : Int) < (m : Int) := by omega
      have hk0 : (0 : Int) ≤ (k : Int) := by omega
      go_wp2_with fail
      go_quiet (fail)
      obtain ⟨w4, hw4⟩ : ∃ w4, w4 = wr.drewN nq := ⟨_, rfl⟩
      rw [← hw4]
      have hb4 : Below wr.heap.size wr w4 := by rw [hw4]; exact below_drewN (Below.refl _ _) nq
      have hc4 : w4.cell? ⟨bo, oo + k, none⟩ = some (.slice A1 z c1) := by rw [hw4]; exact hcc
      clear hw4 hks d0 d1 d2
      have sl4 := sl1.below (hb4.mono (by have := hbw.size; omega))
      have ho4 := ho.below hb4
      unfold OB at ho4
      rw [hfl.out] at ho4
      go_wp2_with (at_builtin; go_must (refine wpl_append rfl (.tmp 49) (.tmp 53) 30 rfl G 5 i0 (.int .u8 0) 1 1 Try.underlying30 hi hz0 hzi1 hzi2 rfl (by omega) (.slice Aa q ca) q _ rfl ho4 _ A1 z c1 _ rfl sl4 (u8s_cell _) (q + z) rfl (((bl.take k).flatten ++ x).map bv8) (by rw [List.map_append]) (by omega) (by omega) (by have := hbw.size; have := hb4.size; omega) ?_); intro A5 c5 w5 o5 g5 _)
      have b5 : Below G w3 w5 := below_own (hbw.trans (hb4.mono (by have := hbw.size; omega))) ho4 g5 (Nat.le_refl _) (by have := hbw.size; have := hb4.size; omega)
      have hfl5 : ((bl.take k).flatten ++ x).length = q + z := by rw [List.length_append, hfl.out, hxz.out]
      go_roundw
      case rel =>
        refine ⟨k + 1, q + z, A5, c5, by omega, by go_num, rfl, by omega, ?_, b5, ?_⟩
        · unfold OB
          rw [HTK.out, List.flatten_append, List.flatten_singleton, hfl5]
          exact o5
        · unfold Hid; rw [HTK.out, List.flatten_append, List.flatten_singleton, hfl5]
      case measure => simp [intOf]; omega
    · have hkm : m = k := by omega
      subst hkm
      rw [List.take_of_length_le (by rw [HBL.out]; omega), HF.out] at ho hfl
      have hqz : q = mz := by have := hfl.out; rw [List.length_append, HL.out, List.length_replicate] at this; omega
      subst hqz
      have hq1 : n ≤ q := by omega
      unfold OB at ho
      rw [hfl.out] at ho
      obtain ⟨hca1, hca2⟩ := own_cap ho
      have sall := Sl.own ho
      obtain ⟨d0, d1, d2⟩ := id pr
      have hcell : ∀ g, Aa = some ⟨g, 0, none⟩ → ∀ j, j < q - n → wr.cell? ⟨g, n + j, none⟩ = some (.int .u8 0) := by
        rintro g rfl j hj
        obtain ⟨b', o', e, _, hc'⟩ := sall.at_ (by omega)
        injection e with e
        injection e with e1 e2
        subst e1 e2
        have := hc' (n + j) (.int .u8 0) (by rw [List.map_append, List.getElem?_append_right (by simp [HL.out])]; simp [HL.out, hj]; rfl)
        rwa [Nat.zero_add] at this
      have HC := hid hcell
      have HO := hid ho
      clear hcell
      have hbw' := b3.trans (hbw.mono hwG)
      have rbw := rbG.below hbw
      have hsw := hs'.below hbw'
      have sfront := sall.take hq1
      rw [Nat.mul_one, List.map_append, List.take_append_of_le_length (by simp [HL.out]), List.take_of_length_le (by simp [HL.out])] at sfront
      clear d0 d1 d2 ho sall
      obtain ⟨d0, d1, d2⟩ := id pr
      have hcases : (Aa = none ∧ q = 0 ∧ ca = 0 ∧ n = 0) ∨ (∃ g, Aa = some ⟨g, 0, none⟩ ∧ ca = n ∧ q = n) ∨ (∃ g, Aa = some ⟨g, 0, none⟩ ∧ ¬ ca = n) := by
        rcases own_form HO.out with ⟨e1, e2, e3⟩ | ⟨g, e1, _⟩
        · exact .inl ⟨e1, e2, e3, by omega⟩
        · by_cases hcn : ca = n
          · exact .inr (.inl ⟨g, e1, hcn, by omega⟩)
          · exact .inr (.inr ⟨g, e1, hcn⟩)
      rcases hcases with ⟨rfl, rfl, rfl, rfl⟩ | ⟨g, rfl, rfl, hqn⟩ | ⟨g, rfl, hcn⟩
      · go_wp2_with fail
        go_loop [79] (fun i => ∃ j : Nat, j ≤ 0 - 0 ∧ i = .int .i64 j) (fun i => 0 - 0 - (intOf i).toNat)
        case atStart => exact ⟨0, by omega, rfl⟩
        case round =>
          obtain ⟨j, hj, rfl⟩ := hrel
          by_cases hlt2 : j < 0 - 0
          · omega
          · go_wp2_with fail
            refine (join_any p G Ao m co vs bl 0 wr rbw (by have := hbw.size; omega) (by omega) (by omega)).mono ?_
            rintro e w6 ⟨v6, rfl, hsg, hb6⟩
            have hj1 : joinP p bl 0 = some l := HB.out
            rw [hj1] at hsg ⊢
            obtain ⟨A6, c6, rfl, _, hc6, sl6⟩ := hsg.read
            simp only [Option.getD_some, HL.out] at sl6 ⊢
            have hs6 := hsw.below (hb6.mono hbw'.size)
            have sf6 := sfront.below hb6
            go_wp2_with fail
            refine (same_is true (w6.heap.size) _ _ l l 0 0 _ _ _ sl6 (hs6.mono (by have := hbw'.size; have := hb6.size; omega)) (by omega) (by omega) (decide_eq_true rfl)).mono ?_
            rintro e w7 ⟨rfl, d, rfl⟩
            go_wp2_with fail
            refine (same_is true (w6.heap.size) _ _ l l 0 0 _ _ _ ((sf6.mono (by have := hb6.size; omega)).drewN d) ((hs6.mono (by have := hbw'.size; have := hb6.size; omega)).drewN d) (by omega) (by omega) (decide_eq_true rfl)).mono ?_
            rintro e w8 ⟨rfl, d2, rfl⟩
            go_wp2_with fail
            refine (wakes18 _).mono ?_
            rintro e w9 ⟨rfl, hb9⟩
            go_wp2
            go_ret
            exact ⟨rfl, (below_drewN (hbw'.trans (hb6.mono hbw'.size)) (d + d2)).trans (hb9.mono (by have := hbw'.size; have := hb6.size; show w.heap.size ≤ w6.heap.size; omega))⟩
      · have hcj0 := HC.out g rfl
        have HJ := hid hcj0
        clear hcj0
        go_wp2_with fail
        go_loop [79] (fun i => ∃ j : Nat, j ≤ q - ca ∧ i = .int .i64 j) (fun i => q - ca - (intOf i).toNat)
        case atStart => exact ⟨0, by omega, rfl⟩
        case round =>
          obtain ⟨j, hj, rfl⟩ := hrel
          by_cases hlt2 : j < q - ca
          · omega
          · go_wp2_with fail
            refine (join_any p G Ao m co vs bl ca wr rbw (by have := hbw.size; omega) (by omega) (by omega)).mono ?_
            rintro e w6 ⟨v6, rfl, hsg, hb6⟩
            have hj1 : joinP p bl (ca : Int) = some l := HB.out
            rw [hj1] at hsg ⊢
            obtain ⟨A6, c6, rfl, _, hc6, sl6⟩ := hsg.read
            simp only [Option.getD_some, HL.out] at sl6 ⊢
            have hs6 := hsw.below (hb6.mono hbw'.size)
            have sf6 := sfront.below hb6
            go_wp2_with fail
            refine (same_is true (w6.heap.size) _ _ l l ca ca _ _ _ sl6 (hs6.mono (by have := hbw'.size; have := hb6.size; omega)) (by omega) (by omega) (decide_eq_true rfl)).mono ?_
            rintro e w7 ⟨rfl, d, rfl⟩
            go_wp2_with fail
            refine (same_is true (w6.heap.size) _ _ l l ca ca _ _ _ ((sf6.mono (by have := hb6.size; omega)).drewN d) ((hs6.mono (by have := hbw'.size; have := hb6.size; omega)).drewN d) (by omega) (by omega) (decide_eq_true rfl)).mono ?_
            rintro e w8 ⟨rfl, d2, rfl⟩
            go_wp2_with fail
            refine (wakes18 _).mono ?_
            rintro e w9 ⟨rfl, hb9⟩
            go_wp2
            go_ret
            exact ⟨rfl, (below_drewN (hbw'.trans (hb6.mono hbw'.size)) (d + d2)).trans (hb9.mono (by have := hbw'.size; have := hb6.size; show w.heap.size ≤ w6.heap.size; omega))⟩
      · have hcj0 := HC.out g rfl
        have HJ := hid hcj0
        clear hcj0
        go_wp2_with fail
        go_loop [79] (fun i => ∃ j : Nat, j ≤ q - n ∧ i = .int .i64 j) (fun i => q - n - (intOf i).toNat)
        case atStart => exact ⟨0, by omega, rfl⟩
        case round =>
          obtain ⟨j, hj, rfl⟩ := hrel
          by_cases hlt2 : j < q - n
          · have hcj := HJ.out j hlt2
            go_wp2
            go_round
            case rel => exact ⟨j + 1, by omega, by go_num⟩
            case measure => simp [intOf]; omega
          · go_wp2_with fail
            refine (join_any p G Ao m co vs bl n wr rbw (by have := hbw.size; omega) (by omega) (by omega)).mono ?_
            rintro e w6 ⟨v6, rfl, hsg, hb6⟩
            have hj1 : joinP p bl (n : Int) = some l := HB.out
            rw [hj1] at hsg ⊢
            obtain ⟨A6, c6, rfl, _, hc6, sl6⟩ := hsg.read
            simp only [Option.getD_some, HL.out] at sl6 ⊢
            have hs6 := hsw.below (hb6.mono hbw'.size)
            have sf6 := sfront.below hb6
            go_wp2_with fail
            refine (same_is true (w6.heap.size) _ _ l l n n _ _ _ sl6 (hs6.mono (by have := hbw'.size; have := hb6.size; omega)) (by omega) (by omega) (decide_eq_true rfl)).mono ?_
            rintro e w7 ⟨rfl, d, rfl⟩
            go_wp2_with fail
            refine (same_is true (w6.heap.size) _ _ l l n n _ _ _ ((sf6.mono (by have := hb6.size; omega)).drewN d) ((hs6.mono (by have := hbw'.size; have := hb6.size; omega)).drewN d) (by omega) (by omega) (decide_eq_true rfl)).mono ?_
            rintro e w8 ⟨rfl, d2, rfl⟩
            go_wp2_with fail
            refine (wakes18 _).mono ?_
            rintro e w9 ⟨rfl, hb9⟩
            go_wp2
            go_ret
            exact ⟨rfl, (below_drewN (hbw'.trans (hb6.mono hbw'.size)) (d + d2)).trans (hb9.mono (by have := hbw'.size; have := hb6.size; show w.heap.size ≤ w6.heap.size; omega))⟩
end Go.Proofs.Ytnamnoaedfbhpaa
