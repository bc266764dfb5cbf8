/- The document's reader. -/
import Derived.Test.YtceonkohidcdoaaRdEnt2
import Derived.Test.YtceonkohidcdoaaNumber
namespace Wells
open Go Go.RowKit
/-- the next bytes, or noughts -/
def rfSome (n : Nat) (st : RSt) : List Byte × RSt := if st.1.length < n then (List.replicate n 0, (st.1, true)) else (st.1.take n, (st.1.drop n, st.2))
theorem numL_zeros (n : Nat) : numL (List.replicate n (0 : Byte)) = 0 := by
  unfold numL
  induction n with
  | zero => rfl
  | succ n ih => simpa [List.replicate_succ] using ih
theorem rfNum_is (k : Nat) (st : RSt) : (numL (rfSome k st).1, (rfSome k st).2) = rdNum k st := by
  unfold rfSome rdNum rdSome
  split
  · rw [numL_zeros]; rfl
  · rfl
theorem rfSome_len (n : Nat) (st : RSt) : (rfSome n st).1.length = n := by
  unfold rfSome
  split
  · simp
  · simp; omega
end Wells
namespace Go.Proofs.Ytceonkohidcdoaa
open Go.RowKit Wells
/-- what 'take' leaves -/
def TakeP (t : TypeId) (B g : Nat) (w : World) (out : List Byte) (st' : RSt) (e : Ending) (w' : World) : Prop :=
  (∃ A' n' c', e = .returned (.slice A' n' c') ∧ out.length = n' ∧ n' ≤ c' ∧ Sl w' w'.heap.size 1 A' n' (out.map bv8)) ∧ Rd t B w' g st' ∧ w.grownBy w' (some g)
set_option maxRecDepth 20000 in
theorem rftake_any (B g : Nat) (st : RSt) (n : Nat) (w : World) (h : Rd 80 B w g st) (hn : n ≤ 1048576) (out : List Byte) (st' : RSt) (hs : rfSome n st = (out, st')) :
    Calls Try.prog 52 #[.pointer (some ⟨g, 0, none⟩), .int .i64 n] w (TakeP 80 B g w out st') := by
  obtain ⟨i0, hi, hz0, hz1, hz2⟩ := info_parts infoB
  obtain ⟨A, m, c, hr, hsl, hlm, hmc, hc, hBg⟩ := h
  have c0 := hr.cell 0
  have c1 := hr.cell 1
  have f0 := hr.frozen 0
  have f1 := hr.frozen 1
  simp only [List.getElem?_cons_zero, List.getElem?_cons_succ] at c0 c1
  have HS := hid hs
  have HLM := hid hlm
  have HR := hid hr
  have HSL := hid hsl
  have hgl := hr.lt
  clear hs hlm hr hsl
  by_cases hlt : m < n
  · have e1 : (out, st') = (List.replicate n 0, (st.1, true)) := by rw [← HS.out]; unfold rfSome; rw [if_pos (by rw [HLM.out]; exact hlt)]
    injection e1 with e1 e2
    subst e1 e2
    have hlti : (m : Int) < (n : Int) := by omega
    have hr2 := HR.out.set 1 (.bool true)
    have hg : w.grownBy (w.setCell ⟨g, 1, none⟩ (.bool true)) (some g) := grown_set (grown_new (Below.refl _ _) (some g)) (.inl rfl) 1 (.bool true)
    have hs2 : Sl (w.setCell ⟨g, 1, none⟩ (.bool true)) B 1 A m (st.1.map bv8) := HSL.out.below ((Below.refl B w).grown hg (by omega) (fun k hk => by injection hk with hk; omega))
    have hz1' : (w.setCell ⟨g, 1, none⟩ (.bool true)).heap.size = w.heap.size := by simp [World.setCell]
    have HR2 := hid hr2
    have HG2 := hid hg
    have HS2 := hid hs2
    have HZ1 := hid hz1'
    clear hr2 hg hs2 hz1'
    go_enter Try.func52, Try.ntmps52
    go_wp2_with (at_make; refine wpl_make _ rfl (.tmp 16) (.tmp 16) 36 rfl 5 i0 (.int .u8 0) 1 Try.underlying36 hi hz0 hz1 hz2 rfl .i64 .i64 _ _ n n rfl rfl rfl (by omega) (by omega) (by omega) (by omega) ?_; intro w3 r3 b3 s3)
    have hd3 : Rd 80 B w3 g (st.1, true) := ⟨A, m, c, HR2.out.below b3 HR2.out.lt, HS2.out.below (b3.mono (by rw [HZ1.out]; omega)), HLM.out, hmc, hc, hBg⟩
    have hsl3 := r3.sl (B := w3.heap.size) (m := n) r3.lt (by simp)
    rw [List.take_of_length_le (by simp), HZ1.out] at hsl3
    have e3 : (List.replicate n (0 : Byte)).map bv8 = List.replicate n (.int .u8 0) := by rw [List.map_replicate]; rfl
    go_ret
    exact ⟨⟨_, n, n, rfl, by simp, Nat.le_refl _, by rw [e3]; exact hsl3⟩, hd3, grown_below HG2.out b3⟩
  · have hge : n ≤ m := by omega
    have e1 : (out, st') = (st.1.take n, (st.1.drop n, st.2)) := by rw [← HS.out]; unfold rfSome; rw [if_neg (by rw [HLM.out]; exact hlt)]
    injection e1 with e1 e2
    subst e1 e2
    have hlti : ¬ (m : Int) < (n : Int) := by omega
    have hnc : (n : Int) ≤ (c : Int) := by omega
    have hnm : (n : Int) ≤ (m : Int) := by omega
    by_cases hcn : c = n
    · subst hcn
      obtain rfl : m = c := by omega
      go_enter Try.func52, Try.ntmps52
      go_wp2_with fail
      go_ret
      have hr2 := HR.out.set 0 (.slice A 0 0)
      have hg : w.grownBy (w.setCell ⟨g, 0, none⟩ (.slice A 0 0)) (some g) := grown_set (grown_new (Below.refl _ _) (some g)) (.inl rfl) 0 _
      have hs2 : Sl (w.setCell ⟨g, 0, none⟩ (.slice A 0 0)) B 1 A m (st.1.map bv8) := HSL.out.below ((Below.refl B w).grown hg (by omega) (fun k hk => by injection hk with hk; omega))
      have htk : st.1.take m = st.1 := List.take_of_length_le (by rw [HLM.out]; exact Nat.le_refl _)
      have hdr : st.1.drop m = [] := List.drop_of_length_le (by rw [HLM.out]; exact Nat.le_refl _)
      have hz2' : (w.setCell ⟨g, 0, none⟩ (.slice A 0 0)).heap.size = w.heap.size := by simp [World.setCell]
      refine ⟨⟨A, m, m, rfl, by rw [htk]; exact HLM.out, Nat.le_refl _, by rw [htk]; exact hs2.mono (by rw [hz2']; omega)⟩, ⟨A, 0, 0, hr2, ?_, by rw [hdr]; rfl, by omega, by omega, hBg⟩, hg⟩
      rw [hdr]
      exact Sl.nil_
    · have hcn2 : ¬ (c : Int) = (n : Int) := by omega
      go_enter Try.func52, Try.ntmps52
      go_wp2_with fail
      go_ret
      obtain ⟨V, hV⟩ : ∃ V, Value.slice (Option.map (fun x => x.add n) A) (m - n) (c - n) = V := ⟨_, rfl⟩
      rw [hV]
      have hr2 := HR.out.set 0 V
      have hg : w.grownBy (w.setCell ⟨g, 0, none⟩ V) (some g) := grown_set (grown_new (Below.refl _ _) (some g)) (.inl rfl) 0 _
      have hs2 : Sl (w.setCell ⟨g, 0, none⟩ V) B 1 A m (st.1.map bv8) := HSL.out.below ((Below.refl B w).grown hg (by omega) (fun k hk => by injection hk with hk; omega))
      have ht := hs2.take hge
      rw [Nat.mul_one, ← List.map_take] at ht
      have hcut := hs2.cut (k := n) (m := m) (c := c) hge (Nat.le_refl _) hmc
      rw [if_neg hcn, Nat.mul_one, Nat.mul_one, List.take_of_length_le (by rw [List.length_drop, List.length_map, HLM.out]; exact Nat.le_refl _), ← List.map_drop] at hcut
      have hz2' : (w.setCell ⟨g, 0, none⟩ V).heap.size = w.heap.size := by simp [World.setCell]
      refine ⟨⟨A, n, c, rfl, by rw [List.length_take, HLM.out]; omega, by omega, ht.mono (by rw [hz2']; omega)⟩, ⟨_, m - n, c - n, by rw [hV]; exact hr2, hcut, by rw [List.length_drop, HLM.out], by omega, by omega, hBg⟩, hg⟩
/-- what 'num' leaves -/
def NumR (t : TypeId) (B g : Nat) (w : World) (z : Int) (st' : RSt) (e : Ending) (w' : World) : Prop :=
  e = .returned (.int .i64 z) ∧ Rd t B w' g st' ∧ w.grownBy w' (some g)
theorem rfnum_any (B g : Nat) (st : RSt) (k : Nat) (w : World) (h : Rd 80 B w g st) (hk : k ≤ 4) (z : Int) (st' : RSt) (hs : rdNum k st = (z, st')) :
    Calls Try.prog 51 #[.pointer (some ⟨g, 0, none⟩), .int .i64 k] w (NumR 80 B g w z st') := by
  obtain ⟨⟨l, st2⟩, ho⟩ : ∃ q, rfSome k st = q := ⟨_, rfl⟩
  have e1 : (z, st') = (numL l, st2) := by rw [← hs, ← rfNum_is, ho]
  injection e1 with e1 e2
  subst e1 e2
  have hll : l.length = k := by have := rfSome_len k st; rw [ho] at this; exact this
  have HO := hid ho
  clear ho hs
  go_enter Try.func51, Try.ntmps51
  go_wp2_with fail
  refine (rftake_any B g st k w h (by omega) l st' HO.out).mono ?_
  rintro e w1 ⟨⟨A, n, c, rfl, hl, hnc, hsl⟩, hrd, hg⟩
  have HRD := hid hrd
  have HGR := hid hg
  have hn4 : n ≤ 4 := by omega
  clear hl hrd hg hll
  go_wp2_with fail
  refine (refnum_any w1.heap.size A l n c w1 hsl hn4 (numL l) rfl).mono ?_
  rintro e w2 ⟨rfl, hw2⟩
  rw [hw2]
  clear hw2 w2
  go_wp2_with fail
  go_ret
  exact ⟨rfl, HRD.out, HGR.out⟩
end Go.Proofs.Ytceonkohidcdoaa
