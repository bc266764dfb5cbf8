/- Blocks put together. -/
import Derived.Test.YtnamnoaedfbhpaaRefChunk
namespace Wells
open Go Go.RowKit
/-- an object of blocks, if these are some -/
def joinP (p : Par) (ls : List (List Byte)) (n : Int) : Option (List Byte) :=
  if p.may = true ∧ 0 ≤ n ∧ (ls.length : Int) = countP p n ∧ ∀ x ∈ ls, (x.length : Int) = p.size then some (ls.flatten.take n.toNat) else none
theorem joinP_no {p : Par} {ls : List (List Byte)} {n : Int} (h : ¬ (p.may = true ∧ 0 ≤ n ∧ (ls.length : Int) = countP p n ∧ ∀ x ∈ ls, (x.length : Int) = p.size)) : joinP p ls n = none := if_neg h
theorem joinP_yes {p : Par} {ls : List (List Byte)} {n : Int} (h : p.may = true ∧ 0 ≤ n ∧ (ls.length : Int) = countP p n ∧ ∀ x ∈ ls, (x.length : Int) = p.size) : joinP p ls n = some (ls.flatten.take n.toNat) := if_pos h
theorem flatten_len (ls : List (List Byte)) (z : Nat) (h : ∀ x ∈ ls, x.length = z) : ls.flatten.length = ls.length * z := by
  induction ls with
  | nil => simp
  | cons x ls ih =>
    rw [List.flatten_cons, List.length_append, ih (fun y hy => h y (List.mem_cons_of_mem _ hy)), h x (List.mem_cons_self ..), List.length_cons, Nat.succ_mul]
    omega
theorem count_cover {p : Par} {n : Int} (h : p.may = true) (hn : 0 ≤ n) : n ≤ countP p n * p.size := by
  have hs := (Par.size_le (Par.may_ok h)).1
  by_cases h0 : 0 < n
  · rw [countP_yes h h0]
    have h1 := Int.mul_ediv_add_emod (n - 1) p.size
    have h2 := Int.emod_lt_of_pos (n - 1) (show 0 < p.size by omega)
    rw [Int.add_mul, Int.one_mul, Int.mul_comm]
    omega
  · rw [countP_no (by omega)]
    omega
end Wells
namespace Go.Proofs.Ytnamnoaedfbhpaa
open Go.RowKit Wells
theorem join_any (p : Par) (B : Nat) (A : Option Addr) (N c : Nat) (vs : List Value) (ls : List (List Byte)) (n : Int) (w : World) (h : RBs w B A N vs ls) (hB : B ≤ w.heap.size) (hN : N ≤ 1048576) (hn : -9223372036854775808 ≤ n ∧ n ≤ 9223372036854775807) :
    Calls Try.prog 19 #[p.val, .slice A N c, .int .i64 n] w fun e w' => ∃ v, e = .returned (.tuple #[v, .bool (joinP p ls n).isSome]) ∧ Seg w.heap.size w' v ((joinP p ls n).getD []) ∧ Below w.heap.size w w' := by
  have HL := hid h.len
  obtain ⟨i0, hi, hz0, hz1, hz2⟩ := info_parts infoB
  have hv : p.val = .agg #[.int .i64 p.K, .int .i64 p.H, .int .i64 p.S] := rfl
  rw [hv]
  clear hv
  by_cases hmay : p.may = true
  · by_cases hn0 : n < 0
    · have hz := hid (show joinP p ls n = none from joinP_no (by omega))
      go_enter Try.func19, Try.ntmps19
      go_wp2_with fail
      refine (premay_any p true _ hmay).mono ?_
      rintro e w1 ⟨rfl, hb⟩
      go_wp2
      go_ret2
      rw [hz.out]
      exact ⟨_, rfl, Seg.nil_ _ _, ((Below.refl _ _).alloc (Nat.le_refl _) _).trans (hb.mono (by simp))⟩
    · obtain ⟨m, hm⟩ : ∃ m : Int, countP p n = m := ⟨_, rfl⟩
      have HM := hid hm
      have H1 := hid hmay
      have hm0 : 0 ≤ m := by rw [← hm]; exact (countP_le p n).1
      clear hm
      by_cases hlen : (N : Int) = m
      · have hok := Par.may_ok hmay
        have hs1 := Par.size_le hok
        obtain ⟨z, hz⟩ : ∃ z : Nat, p.size = (z : Int) := ⟨p.size.toNat, by omega⟩
        have hzl : 1 ≤ z := by omega
        have hzu : z ≤ 384 := by omega
        have HZ := hid hz
        have HO := hid hok
        have hb1 : ((N : Int) != m) = false := by simp [hlen]
        have hcov := count_cover hmay (show 0 ≤ n by omega)
        rw [HM.out, ← hlen, hz] at hcov
        have HLN := hid hlen
        clear hs1 hmay hz hok hlen
        go_enter Try.func19, Try.ntmps19
        go_wp2_with fail
        refine (premay_any p true _ H1.out).mono ?_
        rintro e w1 ⟨rfl, hb⟩
        have pc := (PCells.new w p 23).keep hb (by simp)
        obtain ⟨c0, c1, c2⟩ := id pc
        have b1 : Below w.heap.size w w1 := ((Below.refl _ _).alloc (Nat.le_refl _) _).trans (hb.mono (by simp))
        go_wp2_with fail
        refine (count_any p n m _ hn HM.out).mono ?_
        rintro e w2 ⟨rfl, hb2⟩
        have pc2 := pc.keep hb2 pc.lt
        have b2 := b1.trans (hb2.mono b1.size)
        clear c0 c1 c2 pc hb hb2 b1
        have hlt0 := pc2.lt
        generalize hg : w.heap.size = g at *
        have HG := hid hg
        clear hg
        obtain ⟨G, hG⟩ : ∃ G, G = w2.heap.size := ⟨_, rfl⟩
        have g1 : g ≤ G := by omega
        have s1 : G ≤ w2.heap.size := by omega
        have hlt0 : g < G := by omega
        have GG := hid hG
        clear hG
        have h2 := (h.below (b2.mono hB)).mono (show B ≤ G by omega)
        go_wp2_with fail
        go_loopw [8, 28] (fun v i wr => ∃ (k q : Nat) (Ao : Option Addr) (co : Nat), k ≤ N ∧ i = .int .i64 k ∧ v = .slice Ao q co ∧ q ≤ 384 * k ∧ OB G wr (.slice Ao q co) (ls.take k).flatten ∧ Below G w2 wr ∧ Hid ((∀ x ∈ ls.take k, x.length = z) ∧ (ls.take k).flatten.length = q)) (fun _ i _ => N - (intOf i).toNat)
        case atStart => exact ⟨0, 0, none, 0, by omega, rfl, rfl, by omega, World.ownsRow_nil _ _ _ _, Below.refl _ _, by simp, rfl⟩
        case round =>
          obtain ⟨k, q, Ao, co, hk, rfl, rfl, hq, ho, hbw, hall⟩ := hrel
          by_cases hlt : k < N
          · obtain ⟨b, o, A1, c1, rfl, hbb, hc, hl1, hc1, sl1⟩ := (h2.below hbw).get hlt
            obtain ⟨d0, d1, d2⟩ := pc2.keep hbw hlt0
            have hkl : k < ls.length := by rw [HL.out]; exact hlt
            have htk : ls.take (k + 1) = ls.take k ++ [ls.getD k []] := by
              rw [List.take_succ_eq_append_getElem hkl]; simp [hkl]
            have HTK := hid htk
            have hxm := hid (show ls.getD k [] ∈ ls by rw [List.getD_eq_getElem?_getD, List.getElem?_eq_getElem hkl]; exact List.getElem_mem _)
            clear htk
            generalize ls.getD k [] = x at *
            obtain ⟨lx, hlx⟩ : ∃ lx, lx = x.length := ⟨_, rfl⟩
            rw [← hlx] at hc hl1 sl1
            have HX := hid hlx
            clear hlx
            have hcle := hid hl1
            by_cases hxz : lx = z
            · subst hxz
              go_wp2_with fail
              refine (size_any p lx _ HO.out HZ.out).mono ?_
              rintro e w3 ⟨rfl, hb3⟩
              have sl3 := sl1.below (hb3.mono (by have := hbw.size; omega))
              have ho3 := ho.below hb3
              unfold OB at ho3
              rw [hall.out.2] at ho3
              go_wp2_with (at_builtin; go_must (refine wpl_append rfl (.tmp 37) (.tmp 38) 30 rfl G 5 i0 (.int .u8 0) 1 1 Try.underlying30 hi hz0 hz1 hz2 rfl (by omega) (.slice Ao q co) q _ rfl ho3 _ A1 lx c1 _ rfl sl3 (u8s_cell _) (q + lx) rfl (((ls.take k).flatten ++ x).map bv8) (by rw [List.map_append]) (by omega) (by omega) (by have := hbw.size; have := hb3.size; omega) ?_); intro A4 c4 w4 o4 g4 _)
              have b4 : Below G w2 w4 := below_own (hbw.trans (hb3.mono (by have := hbw.size; omega))) ho3 g4 (Nat.le_refl _) (by have := hbw.size; have := hb3.size; omega)
              have hfl : ((ls.take k).flatten ++ x).length = q + lx := by rw [List.length_append, hall.out.2, HX.out]
              go_roundw
              case rel =>
                refine ⟨k + 1, q + lx, A4, c4, by omega, by go_num, rfl, by omega, ?_, b4, ?_⟩
                · unfold OB
                  rw [HTK.out, List.flatten_append, List.flatten_singleton, hfl]
                  exact o4
                · refine ⟨fun y hy => ?_, ?_⟩
                  · rw [HTK.out, List.mem_append, List.mem_singleton] at hy
                    rcases hy with hy | rfl
                    · exact hall.out.1 y hy
                    · exact HX.out.symm
                  · rw [HTK.out, List.flatten_append, List.flatten_singleton, hfl]
              case measure => simp [intOf]; omega
            · have hz := hid (show joinP p ls n = none from joinP_no (fun hh => hxz (by have := hh.2.2.2 _ hxm.out; rw [HZ.out, ← HX.out] at this; omega)))
              have hb5 : ((lx : Int) != (z : Int)) = true := by rw [bne_iff_ne]; omega
              go_wp2_with fail
              refine (size_any p z _ HO.out HZ.out).mono ?_
              rintro e w3 ⟨rfl, hb3⟩
              go_wp2
              go_ret2
              rw [hz.out, HG.out]
              exact ⟨_, rfl, Seg.nil_ _ _, b2.trans ((hbw.trans (hb3.mono (by have := hbw.size; omega))).mono g1)⟩
          · have hkN : N = k := by omega
            subst hkN
            have htl : ls.take N = ls := List.take_of_length_le (by rw [HL.out]; omega)
            have hall' := hall.out
            rw [htl] at hall'
            have hyes := hid (show joinP p ls n = some (ls.flatten.take n.toNat) from joinP_yes ⟨H1.out, by omega, by rw [HL.out, HM.out]; exact HLN.out, fun x hx => by rw [hall'.1 x hx]; exact HZ.out.symm⟩)
            obtain ⟨j, rfl⟩ : ∃ j : Nat, n = (j : Int) := ⟨n.toNat, by omega⟩
            have hqz : q = N * z := by rw [← hall'.2, flatten_len ls z hall'.1, HL.out]
            have hjq : j ≤ q := by rw [hqz]; have : (j : Int) ≤ ((N * z : Nat) : Int) := by rw [Int.natCast_mul]; exact hcov
                                   omega
            have hjc : j ≤ co := by have := own_cap (show wr.ownsRow G 5 1 (.slice Ao q co) q ((ls.take N).flatten.map bv8) by unfold OB at ho; rw [hall.out.2] at ho; exact ho); omega
            rw [htl] at ho
            have hsg := ho.front (m := j) (c' := j) (by rw [hall'.2]; exact hjq) (Nat.le_refl _) (by omega)
            have HS := hid hsg
            clear hall' htl hall hqz hcov
            go_wp2_with fail
            go_ret2
            rw [hyes.out, HG.out]
            refine ⟨_, rfl, ?_, b2.trans (hbw.mono g1)⟩
            simp only [Int.toNat_natCast, Option.getD_some]
            exact HS.out.base g1
      · have hz := hid (show joinP p ls n = none from joinP_no (fun hh => hlen (by rw [← HM.out, ← hh.2.2.1, HL.out])))
        have hb1 : ((N : Int) != m) = true := by simp [hlen]
        go_enter Try.func19, Try.ntmps19
        go_wp2_with fail
        refine (premay_any p true _ hmay).mono ?_
        rintro e w1 ⟨rfl, hb⟩
        obtain ⟨c0, c1, c2⟩ := (PCells.new w p 23).keep hb (by simp)
        have b1 : Below w.heap.size w w1 := ((Below.refl _ _).alloc (Nat.le_refl _) _).trans (hb.mono (by simp))
        go_wp2_with fail
        refine (count_any p n m _ hn HM.out).mono ?_
        rintro e w2 ⟨rfl, hb2⟩
        go_wp2
        go_ret2
        rw [hz.out]
        exact ⟨_, rfl, Seg.nil_ _ _, b1.trans (hb2.mono b1.size)⟩
  · have h1' : p.may = false := by simpa using hmay
    have hz := hid (show joinP p ls n = none from joinP_no (fun h => hmay h.1))
    go_enter Try.func19, Try.ntmps19
    go_wp2_with fail
    refine (premay_any p false _ h1').mono ?_
    rintro e w1 ⟨rfl, hb⟩
    go_wp2
    go_ret2
    rw [hz.out]
    exact ⟨_, rfl, Seg.nil_ _ _, ((Below.refl _ _).alloc (Nat.le_refl _) _).trans (hb.mono (by simp))⟩
end Go.Proofs.Ytnamnoaedfbhpaa
