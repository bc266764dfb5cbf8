/- The walk of NameTells. -/
import Derived.Test.YtceonkohidcdoaaWakes19
import Derived.Test.YtceonkohidcdoaaFrame
import Derived.Test.YtceonkohidcdoaaWithin
import Derived.Test.YtceonkohidcdoaaOrd
namespace Wells
open Go Go.RowKit
theorem strB_take (l : List Byte) (n : Nat) : (strB l).extract 0 n = strB (l.take n) := by
  unfold strB
  apply ByteArray.ext
  simp [ByteArray.data_extract, List.map_take]
theorem strB_dash (l : List Byte) : strB l ++ ⟨#[45]⟩ = strB (l ++ [45#8]) := by
  unfold strB
  apply ByteArray.ext
  simp [ByteArray.data_append]
/-- bytes that stay, and all blocks that were there -/
structure HS19 (w0 : World) (A : Option Addr) (n : Nat) (l : List Byte) (w : World) : Prop where
  sl : Sl w w0.heap.size 1 A n (l.map bv8)
  be : Below w0.heap.size w0 w
theorem HS19.keep {w0 w w' : World} {A : Option Addr} {n : Nat} {l : List Byte} (hb : Below w.heap.size w w') (h : HS19 w0 A n l w) : HS19 w0 A n l w' := ⟨h.sl.below (hb.mono h.be.size), h.be.trans (hb.mono h.be.size)⟩
theorem HS19.begin {w0 : World} {A : Option Addr} {n : Nat} {l : List Byte} (h : Sl w0 w0.heap.size 1 A n (l.map bv8)) : HS19 w0 A n l w0.drew := ⟨h.drew, ⟨rfl, rfl, rfl, Nat.le_refl _, fun _ _ => rfl⟩⟩
def abc : List Byte := [97#8, 98#8, 99#8, 100#8, 101#8, 102#8, 103#8, 104#8, 45#8, 49#8, 50#8, 51#8]
theorem abc_str (n : Nat) : (⟨#[97, 98, 99, 100, 101, 102, 103, 104, 45, 49, 50, 51]⟩ : ByteArray).extract 0 n = strB (abc.take n) := by
  rw [← strB_take]
  rfl
end Wells
namespace Go.Proofs.Ytceonkohidcdoaa
open Go.RowKit Wells
set_option maxHeartbeats 400000 in
theorem text_any (l : List Byte) (n : Nat) (w : World) (hl : l.length ≤ 9223372036854775807) (hn : n ≤ 1048576) : Calls Try.prog 29 #[.string (strB l), .int .i64 n] w fun e w' => e = .returned (.string (strB (l.take n))) ∧ w = w' := by
  have hsz := strB_size l
  have hst := hid (strB_take l)
  generalize strB l = s at *
  go_enter Try.func29, Try.ntmps29
  go_wp2_with fail
  · go_ret
    exact ⟨by rw [hst.out]; rfl, rfl⟩
  · go_ret
    exact ⟨by rw [hst.out, List.take_of_length_le (Nat.le_refl _), List.take_of_length_le (by omega)]; rfl, rfl⟩
set_option maxRecDepth 20000 in
set_option maxHeartbeats 4000000 in
theorem walk_NameTells (s : ByteArray) (o b t : Int) (c : Int) (at_ : Int) (w : World) (hs : s.size ≤ maxLen) (ho : -9223372036854775808 ≤ o ∧ o ≤ 9223372036854775807) (hb : -9223372036854775808 ≤ b ∧ b ≤ 9223372036854775807) (ht : -9223372036854775808 ≤ t ∧ t ≤ 9223372036854775807) (hc : 0 ≤ c ∧ c ≤ 255) (ha : -9223372036854775808 ≤ at_ ∧ at_ ≤ 9223372036854775807) :
    Calls Try.prog 7 #[.string s, .int .i64 o, .int .i64 b, .int .i64 t, .int .u8 c, .int .i64 at_] w fun e w' => e = .returned (.bool true) ∧ Below w.heap.size w w' := by
  unfold maxLen at hs
  obtain ⟨l, rfl⟩ : ∃ l, s = strB l := ⟨_, (strB_bytesB s).symm⟩
  rw [strB_size] at hs
  obtain ⟨x, hx⟩ : ∃ x, at_ % 12 = x := ⟨_, rfl⟩
  have hx0 : 0 ≤ x := by omega
  have hx1 : x < 12 := by omega
  have HX := hid hx
  clear hx
  go_enter Try.func7, Try.ntmps7
  go_wp2_with fail
  refine (text_any l 20 w (by omega) (by omega)).mono ?_
  rintro e w1 ⟨rfl, rfl⟩
  have hl20 : (l.take 20).length ≤ 20 := by simp; omega
  generalize l.take 20 = l at *
  go_wp2_with fail
  refine (within_any at_ 12 w ha.1 ha.2 (by omega) (by omega)).mono ?_
  rintro e w1 ⟨rfl, rfl⟩
  rw [HX.out]
  go_wp2_with fail
  rw [abc_str]
  obtain ⟨n, hn⟩ : ∃ n, (1 + x).toNat = n := ⟨_, rfl⟩
  rw [hn]
  have hn1 : 1 ≤ n := by omega
  have hn2 : n ≤ 12 := by omega
  have hln : (abc.take n).length = n := by rw [List.length_take]; show min n 12 = n; omega
  generalize abc.take n = l0 at *
  have hsz := strB_size l0
  have hget := strB_get l0
  have hconv := run_bytes_of_string (P := Try.prog) w 9 36 5 (strB l0) Try.underlying9 Try.underlying36 Try.underlying5
  obtain ⟨cap, hcap⟩ : ∃ c, grownCap w (strB l0).size 0 5 = c := ⟨_, rfl⟩
  rw [hcap] at hconv
  have hat := fun j => bytesRow_at (strB l0) cap j
  have hrs : n ≤ (bytesRow (strB l0) cap).size := by unfold bytesRow; simp; have : (strB l0).data.size = (strB l0).size := rfl; omega
  generalize bytesRow (strB l0) cap = R at *
  have hcell0 := World.cell?_alloc_mark w.drew R 5 (R.size, R.size + 1)
  have hfz0 := World.frozen?_alloc_mark w.drew R 5 R.size (R.size + 1)
  have hb2 : Below w.heap.size w (w.drew.alloc (.cells R 5 (R.size, R.size + 1))) := ((Below.refl _ _).drew).alloc (Nat.le_refl _) _
  have hg2 : (w.drew.alloc (.cells R 5 (R.size, R.size + 1))).heap.size = w.heap.size + 1 := by simp
  have hcells : ∀ j, j < n → (w.drew.alloc (.cells R 5 (R.size, R.size + 1))).cell? ⟨w.heap.size, j, none⟩ = some (bv8 (l0.getD j 0)) := fun j hj => by
    have e1 := hat j (show j < (strB l0).size by omega)
    have e2 := hget j (show j < (strB l0).size by omega)
    refine (hcell0 j).trans (e1.trans ?_)
    unfold bv8
    rw [← e2]
    rfl
  have hfz : ∀ j, j < n → (w.drew.alloc (.cells R 5 (R.size, R.size + 1))).frozen? ⟨w.heap.size, j, none⟩ = false := fun j hj => by
    have := hfz0 j
    refine this.trans ?_
    rw [decide_eq_false (show ¬ R.size ≤ j by omega)]; rfl
  clear hcell0 hfz0 hat hget hcap
  rw [hsz, hln] at hconv
  clear hsz
  generalize w.drew.alloc (.cells R 5 (R.size, R.size + 1)) = w2 at *
  have HCV := hid hconv
  have HCE := hid hcells
  have HFZ := hid hfz
  have HLN := hid hln
  obtain ⟨g, hg⟩ : ∃ g, w.heap.size = g := ⟨_, rfl⟩
  have HG := hid hg
  clear hcells hfz hln hrs
  rw [hg] at hconv HCE HFZ hg2 hb2
  clear hg hn
  rw [hconv]
  clear hconv
  go_wp2_with fail
  have htd : -9223372036854775808 ≤ at_.tdiv 13 ∧ at_.tdiv 13 ≤ 9223372036854775807 := by
    have e := Int.tdiv_eq_ediv (a := at_) (b := 13)
    have e1 : Int.sign 13 = 1 := rfl
    rw [e1] at e
    rw [e]
    split <;> omega
  obtain ⟨y, hy⟩ : ∃ y, at_.tdiv 13 % (n : Int) = y := ⟨_, rfl⟩
  have hy0 : 0 ≤ y := by rw [← hy]; exact Int.emod_nonneg _ (by omega)
  have hy1 : y < (n : Int) := by rw [← hy]; exact Int.emod_lt_of_pos _ (by omega)
  have HY := hid hy
  clear hy
  refine (within_any (at_.tdiv 13) n w2 htd.1 htd.2 (by omega) (by omega)).mono ?_
  rintro e w1 ⟨rfl, rfl⟩
  rw [HY.out]
  obtain ⟨k, rfl⟩ := Int.eq_ofNat_of_zero_le hy0
  have hk : k < n := by omega
  have hck := HCE.out k hk
  have hfk := HFZ.out k hk
  unfold bv8 at hck
  obtain ⟨cb, hcb⟩ : ∃ cb : Byte, bv8 cb = .int .u8 c := ⟨_, byte_of_int hc.1 hc.2⟩
  have hs3 : Sl (w2.setCell ⟨g, k, none⟩ (.int .u8 c)) (w2.setCell ⟨g, k, none⟩ (.int .u8 c)).heap.size 1 (some ⟨g, 0, none⟩) n ((l0.set k cb).map bv8) := by
    refine ⟨by simp [HLN.out], fun _ => ⟨g, 0, rfl, by simp [World.setCell]; omega, fun j u hu => ?_⟩⟩
    rw [Nat.zero_add]
    rw [List.map_set] at hu
    have hj : j < n := by
      rcases Nat.lt_or_ge j n with h | h
      · exact h
      · rw [List.getElem?_eq_none (by simp [HLN.out]; exact h)] at hu; cases hu
    by_cases hjk : k = j
    · subst hjk
      rw [List.getElem?_set_self (by simp [HLN.out]; exact hj)] at hu
      injection hu with hu
      rw [← hu, hcb]
      exact World.cell?_setCell_same (h := hck) ..
    · rw [List.getElem?_set_ne hjk] at hu
      rw [World.cell?_setCell_other (h := by intro e; injection e with _ e _; exact hjk e), HCE.out j hj, ← hu, List.getElem?_map, List.getElem?_eq_getElem (by rw [HLN.out]; exact hj)]
      simp [List.getElem?_eq_getElem (show j < l0.length by rw [HLN.out]; exact hj)]
  have hb3 : Below w.heap.size w (w2.setCell ⟨g, k, none⟩ (.int .u8 c)) := by rw [HG.out]; exact hb2.setCell (Nat.le_refl _) _
  have hlt : (l0.set k cb).length = n := by simp [HLN.out]
  generalize l0.set k cb = lt at *
  obtain ⟨b1, h1⟩ : ∃ q, nameOk l = q := ⟨_, rfl⟩
  obtain ⟨b2, h2⟩ : ∃ q, nameOk lt = q := ⟨_, rfl⟩
  obtain ⟨b3, h3⟩ : ∃ q, nameOk (lt ++ [45#8]) = q := ⟨_, rfl⟩
  have H1 := hid h1
  have H2 := hid h2
  have H3 := hid h3
  have hltn : lt.length ≤ 12 := by omega
  have hszt : ¬ 9223372036854775807 < (strB lt).size + 1 := by rw [strB_size]; omega
  clear h1 h2 h3 hcb htd hlt
  go_wp2_with fail
  generalize w2.setCell ⟨g, k, none⟩ (.int .u8 c) = w3 at *
  refine Ord.begin (S := (HS19 w3 (some ⟨g, 0, none⟩) n lt)) [0, 2, 1, 3, 4, 5, 6, 7, 9, 10, 8, 11, 12, 13, 14, 15, 16, 17, 19, 20, 21, 18, 22, 23, 24, 25, 26, 27, 28, 30, 31, 32, 29, 33, 34, 35, 36, 37, 38, 39] (by kernel_rfl) (HS19.begin hs3) (fun hS => ?_)
  iterate 2 (refine Ord.yes (v := ?_) rfl (by kernel_rfl) (by kernel_rfl) (by kernel_rfl) (fun _ _ _ h => h) (by kernel_rfl) hS ?_ ?_; rotate_left; (focus (intro w hSw; (try dsimp only at hSw); go_simp; (try with_reducible rfl); done)); try simp only [Act.put, List.setIfInBounds_toArray, List.set_cons_zero, List.set_cons_succ])
  refine Ord.go rfl (by kernel_rfl) (by kernel_rfl) (fun K hK => ?_)
  go_simp
  refine (name_any l b1 _ (by omega) H1.out).mono ?_
  rintro e w' ⟨rfl, hbb⟩
  go_wp2_with fail
  refine hK.out _ _ (HS19.keep hbb hS) (fun hS2 => ?_)
  clear hK K hS
  have hS := hS2
  clear hS2
  try simp only [Act.put, List.setIfInBounds_toArray, List.set_cons_zero, List.set_cons_succ]
  refine Ord.go rfl (by kernel_rfl) (by kernel_rfl) (fun K hK => ?_)
  go_simp
  refine (refname_any l b1 _ (by omega) H1.out).mono ?_
  rintro e w' ⟨rfl, rfl⟩
  go_wp2_with fail
  refine hK.out _ _ hS (fun hS2 => ?_)
  clear hK K hS
  have hS := hS2
  clear hS2
  try simp only [Act.put, List.setIfInBounds_toArray, List.set_cons_zero, List.set_cons_succ]
  iterate 3 (refine Ord.yes (v := ?_) rfl (by kernel_rfl) (by kernel_rfl) (by kernel_rfl) (fun _ _ _ h => h) (by kernel_rfl) hS ?_ ?_; rotate_left; (focus (intro w hSw; (try dsimp only at hSw); go_simp; (try with_reducible rfl); done)); try simp only [Act.put, List.setIfInBounds_toArray, List.set_cons_zero, List.set_cons_succ])
  (refine Ord.yes (v := ?_) rfl (by kernel_rfl) (by kernel_rfl) (by kernel_rfl) (fun _ _ _ h => h) (by kernel_rfl) hS ?_ ?_; rotate_left; (focus (intro w hSw; have kc := conv_str (P := Try.prog) (c := cap) 36 9 5 Try.underlying36 Try.underlying5 Try.underlying9 hSw.sl; go_simp; (try with_reducible rfl); done)); try simp only [Act.put, List.setIfInBounds_toArray, List.set_cons_zero, List.set_cons_succ])
  (refine Ord.yes (v := ?_) rfl (by kernel_rfl) (by kernel_rfl) (by kernel_rfl) (fun _ _ _ h => h) (by kernel_rfl) hS ?_ ?_; rotate_left; (focus (intro w hSw; (try dsimp only at hSw); go_simp; (try with_reducible rfl); done)); try simp only [Act.put, List.setIfInBounds_toArray, List.set_cons_zero, List.set_cons_succ])
  (refine Ord.yes (v := ?_) rfl (by kernel_rfl) (by kernel_rfl) (by kernel_rfl) (fun _ _ _ h => h) (by kernel_rfl) hS ?_ ?_; rotate_left; (focus (intro w hSw; have kc := conv_str (P := Try.prog) (c := cap) 36 9 5 Try.underlying36 Try.underlying5 Try.underlying9 hSw.sl; go_simp; (try with_reducible rfl); done)); try simp only [Act.put, List.setIfInBounds_toArray, List.set_cons_zero, List.set_cons_succ])
  refine Ord.go rfl (by kernel_rfl) (by kernel_rfl) (fun K hK => ?_)
  go_simp
  refine (name_any lt b2 _ (by omega) H2.out).mono ?_
  rintro e w' ⟨rfl, hbb⟩
  go_wp2_with fail
  refine hK.out _ _ (HS19.keep hbb hS) (fun hS2 => ?_)
  clear hK K hS
  have hS := hS2
  clear hS2
  try simp only [Act.put, List.setIfInBounds_toArray, List.set_cons_zero, List.set_cons_succ]
  refine Ord.go rfl (by kernel_rfl) (by kernel_rfl) (fun K hK => ?_)
  go_simp
  refine (refname_any lt b2 _ (by omega) H2.out).mono ?_
  rintro e w' ⟨rfl, rfl⟩
  go_wp2_with fail
  refine hK.out _ _ hS (fun hS2 => ?_)
  clear hK K hS
  have hS := hS2
  clear hS2
  try simp only [Act.put, List.setIfInBounds_toArray, List.set_cons_zero, List.set_cons_succ]
  iterate 4 (refine Ord.yes (v := ?_) rfl (by kernel_rfl) (by kernel_rfl) (by kernel_rfl) (fun _ _ _ h => h) (by kernel_rfl) hS ?_ ?_; rotate_left; (focus (intro w hSw; (try dsimp only at hSw); go_simp; (try with_reducible rfl); done)); try simp only [Act.put, List.setIfInBounds_toArray, List.set_cons_zero, List.set_cons_succ])
  (refine Ord.yes (v := ?_) rfl (by kernel_rfl) (by kernel_rfl) (by kernel_rfl) (fun _ _ _ h => h) (by kernel_rfl) hS ?_ ?_; rotate_left; (focus (intro w hSw; have kc := conv_str (P := Try.prog) (c := cap) 36 9 5 Try.underlying36 Try.underlying5 Try.underlying9 hSw.sl; go_simp; (try with_reducible rfl); done)); try simp only [Act.put, List.setIfInBounds_toArray, List.set_cons_zero, List.set_cons_succ])
  iterate 2 (refine Ord.yes (v := ?_) rfl (by kernel_rfl) (by kernel_rfl) (by kernel_rfl) (fun _ _ _ h => h) (by kernel_rfl) hS ?_ ?_; rotate_left; (focus (intro w hSw; (try dsimp only at hSw); go_simp; (try with_reducible rfl); done)); try simp only [Act.put, List.setIfInBounds_toArray, List.set_cons_zero, List.set_cons_succ])
  (refine Ord.yes (v := ?_) rfl (by kernel_rfl) (by kernel_rfl) (by kernel_rfl) (fun _ _ _ h => h) (by kernel_rfl) hS ?_ ?_; rotate_left; (focus (intro w hSw; have kc := conv_str (P := Try.prog) (c := cap) 36 9 5 Try.underlying36 Try.underlying5 Try.underlying9 hSw.sl; go_simp; (try with_reducible rfl); done)); try simp only [Act.put, List.setIfInBounds_toArray, List.set_cons_zero, List.set_cons_succ])
  (refine Ord.yes (v := ?_) rfl (by kernel_rfl) (by kernel_rfl) (by kernel_rfl) (fun _ _ _ h => h) (by kernel_rfl) hS ?_ ?_; rotate_left; (focus (intro w hSw; (try dsimp only at hSw); go_simp; (try with_reducible rfl); done)); try simp only [Act.put, List.setIfInBounds_toArray, List.set_cons_zero, List.set_cons_succ])
  refine Ord.go rfl (by kernel_rfl) (by kernel_rfl) (fun K hK => ?_)
  go_simp
  rw [strB_dash]
  refine (name_any (lt ++ [45#8]) b3 _ (by simp; omega) H3.out).mono ?_
  rintro e w' ⟨rfl, hbb⟩
  go_wp2_with fail
  refine hK.out _ _ (HS19.keep hbb hS) (fun hS2 => ?_)
  clear hK K hS
  have hS := hS2
  clear hS2
  try simp only [Act.put, List.setIfInBounds_toArray, List.set_cons_zero, List.set_cons_succ]
  refine Ord.go rfl (by kernel_rfl) (by kernel_rfl) (fun K hK => ?_)
  go_simp
  try rw [strB_dash]
  refine (refname_any (lt ++ [45#8]) b3 _ (by simp; omega) H3.out).mono ?_
  rintro e w' ⟨rfl, rfl⟩
  go_wp2_with fail
  refine hK.out _ _ hS (fun hS2 => ?_)
  clear hK K hS
  have hS := hS2
  clear hS2
  try simp only [Act.put, List.setIfInBounds_toArray, List.set_cons_zero, List.set_cons_succ]
  iterate 9 (refine Ord.yes (v := ?_) rfl (by kernel_rfl) (by kernel_rfl) (by kernel_rfl) (fun _ _ _ h => h) (by kernel_rfl) hS ?_ ?_; rotate_left; (focus (intro w hSw; (try dsimp only at hSw); go_simp; (try with_reducible rfl); done)); try simp only [Act.put, List.setIfInBounds_toArray, List.set_cons_zero, List.set_cons_succ])
  refine Ord.go rfl (by kernel_rfl) (by kernel_rfl) (fun K hK => ?_)
  go_simp
  refine (mseed_any o b t _).mono ?_
  rintro e w' ⟨rfl, rfl⟩
  go_wp2_with fail
  refine hK.out _ _ hS (fun hS2 => ?_)
  clear hK K hS
  have hS := hS2
  clear hS2
  try simp only [Act.put, List.setIfInBounds_toArray, List.set_cons_zero, List.set_cons_succ]
  refine Ord.go rfl (by kernel_rfl) (by kernel_rfl) (fun K hK => ?_)
  go_simp
  refine (refseed_any o b t _).mono ?_
  rintro e w' ⟨rfl, rfl⟩
  go_wp2_with fail
  refine hK.out _ _ hS (fun hS2 => ?_)
  clear hK K hS
  have hS := hS2
  clear hS2
  try simp only [Act.put, List.setIfInBounds_toArray, List.set_cons_zero, List.set_cons_succ]
  iterate 3 (refine Ord.yes (v := ?_) rfl (by kernel_rfl) (by kernel_rfl) (by kernel_rfl) (fun _ _ _ h => h) (by kernel_rfl) hS ?_ ?_; rotate_left; (focus (intro w hSw; (try dsimp only at hSw); go_simp; (try with_reducible rfl); done)); try simp only [Act.put, List.setIfInBounds_toArray, List.set_cons_zero, List.set_cons_succ])
  refine Ord.go rfl (by kernel_rfl) (by kernel_rfl) (fun K hK => ?_)
  go_simp
  refine (wakes19 _).mono ?_
  rintro e w' ⟨rfl, hbb⟩
  go_wp2_with fail
  refine hK.out _ _ (HS19.keep hbb hS) (fun hS2 => ?_)
  clear hK K hS
  have hS := hS2
  clear hS2
  try simp only [Act.put, List.setIfInBounds_toArray, List.set_cons_zero, List.set_cons_succ]
  iterate 2 (refine Ord.yes (v := ?_) rfl (by kernel_rfl) (by kernel_rfl) (by kernel_rfl) (fun _ _ _ h => h) (by kernel_rfl) hS ?_ ?_; rotate_left; (focus (intro w hSw; (try dsimp only at hSw); go_simp; (try with_reducible rfl); done)); try simp only [Act.put, List.setIfInBounds_toArray, List.set_cons_zero, List.set_cons_succ])
  refine Ord.done (by kernel_rfl) ?_
  have hbe := hb3.trans (hS.be.mono hb3.size)
  go_wp2_with fail
  go_ret
  exact ⟨rfl, hbe⟩
end Go.Proofs.Ytceonkohidcdoaa
