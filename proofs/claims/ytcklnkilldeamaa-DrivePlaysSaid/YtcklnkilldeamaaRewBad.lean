/- Rewrite, of cells of which one is too short. -/
import Derived.Test.YtcklnkilldeamaaPair
namespace Go.Proofs.Ytcklnkilldeamaa
open Go.RowKit Wells
theorem drewrite_bad (p : Value) (B : Nat) (A : Option Addr) (vs : List Value) (ls : List (List Byte)) (n c : Nat) (w : World) (h : RBs w B A n vs ls) (hn : n ≤ 1048576) (hbad : ∃ j, j < n ∧ (ls.getD j []).length ≠ 64) :
    Calls Try.prog 20 #[p, .slice A n c] w fun e w' => e = .returned (.int .i64 1) ∧ w = w' := by
  have HBAD := hid hbad
  clear hbad
  go_enter Try.func20, Try.ntmps20
  go_wp2_with fail
  go_loopw [9] (fun i wr => ∃ j : Nat, j ≤ n ∧ i = .int .i64 j ∧ wr = w ∧ ∀ q, q < j → (ls.getD q []).length = 64) (fun i _ => n - (intOf i).toNat)
  case atStart => exact ⟨0, by omega, rfl, rfl, fun q hq => absurd hq (by omega)⟩
  case round =>
    obtain ⟨j, hj, rfl, rfl, hall⟩ := hrel
    have HALL := hid hall
    clear hall
    by_cases hlt : j < n
    · obtain ⟨b, o, A1, k1, rfl, hbb, hce, hl1, hc1, sl1⟩ := h.get hlt
      obtain ⟨lx, hlx⟩ : ∃ k, (ls.getD j []).length = k := ⟨_, rfl⟩
      rw [hlx] at hce hl1 sl1
      have HLX := hid hlx
      clear sl1 hlx
      by_cases h64 : lx = 64
      · have hall2 : ∀ q, q < j + 1 → (ls.getD q []).length = 64 := fun q hq => by
          by_cases hqj : q < j
          · exact HALL.out q hqj
          · obtain rfl : q = j := by omega
            rw [HLX.out, h64]
        have HALL2 := hid hall2
        subst h64
        clear hall2
        go_wp2_with fail
        go_roundw
        case rel => exact ⟨j + 1, by omega, by go_num, trivial, HALL2.out⟩
        case measure => simp [intOf]; omega
      · have hb64 : ((lx : Int) != 64) = true := by simp; omega
        have hb65 : ¬ (lx : Int) = 64 := by omega
        go_wp2_with fail
        go_ret
        exact ⟨rfl, rfl⟩
    · exfalso
      obtain ⟨q, hq, hq2⟩ := HBAD.out
      exact hq2 (HALL.out q (by omega))
theorem rrewrite_bad (p : Value) (B : Nat) (A : Option Addr) (vs : List Value) (ls : List (List Byte)) (n c : Nat) (w : World) (h : RBs w B A n vs ls) (hn : n ≤ 1048576) (hbad : ∃ j, j < n ∧ (ls.getD j []).length ≠ 64) :
    Calls Try.prog 43 #[p, .slice A n c] w fun e w' => e = .returned (.int .i64 1) ∧ w = w' := by
  have HBAD := hid hbad
  clear hbad
  go_enter Try.func43, Try.ntmps43
  go_wp2_with fail
  go_loopw [9] (fun i wr => ∃ j : Nat, j ≤ n ∧ i = .int .i64 j ∧ wr = w ∧ ∀ q, q < j → (ls.getD q []).length = 64) (fun i _ => n - (intOf i).toNat)
  case atStart => exact ⟨0, by omega, rfl, rfl, fun q hq => absurd hq (by omega)⟩
  case round =>
    obtain ⟨j, hj, rfl, rfl, hall⟩ := hrel
    have HALL := hid hall
    clear hall
    by_cases hlt : j < n
    · obtain ⟨b, o, A1, k1, rfl, hbb, hce, hl1, hc1, sl1⟩ := h.get hlt
      obtain ⟨lx, hlx⟩ : ∃ k, (ls.getD j []).length = k := ⟨_, rfl⟩
      rw [hlx] at hce hl1 sl1
      have HLX := hid hlx
      clear sl1 hlx
      by_cases h64 : lx = 64
      · have hall2 : ∀ q, q < j + 1 → (ls.getD q []).length = 64 := fun q hq => by
          by_cases hqj : q < j
          · exact HALL.out q hqj
          · obtain rfl : q = j := by omega
            rw [HLX.out, h64]
        have HALL2 := hid hall2
        subst h64
        clear hall2
        go_wp2_with fail
        go_roundw
        case rel => exact ⟨j + 1, by omega, by go_num, trivial, HALL2.out⟩
        case measure => simp [intOf]; omega
      · have hb64 : ((lx : Int) != 64) = true := by simp; omega
        have hb65 : ¬ (lx : Int) = 64 := by omega
        go_wp2_with fail
        go_ret
        exact ⟨rfl, rfl⟩
    · exfalso
      obtain ⟨q, hq, hq2⟩ := HBAD.out
      exact hq2 (HALL.out q (by omega))
/-- any list, with the answer to one that may not be -/
def _root_.Wells.Dr.rewr (d : Dr) (l : List (List Byte)) : Dr × Int := if (∃ x ∈ l, x.length ≠ 64) then (d, 1) else d.rewrite l
theorem bad_at {ls : List (List Byte)} (h : ∃ x ∈ ls, x.length ≠ 64) : ∃ j, j < ls.length ∧ (ls.getD j []).length ≠ 64 := by
  obtain ⟨x, hx, h2⟩ := h
  obtain ⟨j, hj, rfl⟩ := List.mem_iff_getElem.1 hx
  exact ⟨j, hj, by rw [List.getD_eq_getElem?_getD, List.getElem?_eq_getElem hj]; exact h2⟩
theorem drewr_any (F G : Nat → Prop) (g pg : Nat) (d : Dr) (m : Nat) (A : Option Addr) (ls : List (List Byte)) (vs : List Value) (n c : Nat) (w : World) (h : DrvE F w g pg d) (hok : DOk m d) (hm : m ≤ 1000000) (hl : Lst G w (.slice A n c) vs ls) (hG : ∀ k, G k → ¬ F k) (hln : ls.length = n) (hn : n ≤ 1048576) :
    Calls Try.prog 20 #[.pointer (some ⟨g, 0, none⟩), .slice A n c] w fun e w' => e = .returned (.int .i64 (d.rewr ls).2) ∧ DrvE (Ext F w w') w' g pg (d.rewr ls).1 ∧ Only F w w' := by
  by_cases hb : ∃ x ∈ ls, x.length ≠ 64
  · refine (drewrite_bad _ _ A vs ls n c w (hl.own.read hln) hn (by rw [← hln]; exact bad_at hb)).mono ?_
    rintro e w' ⟨rfl, rfl⟩
    unfold Dr.rewr
    rw [if_pos hb]
    exact ⟨rfl, h.up, Only.refl _ _⟩
  · have hc : ∀ x ∈ ls, x.length = 64 := fun x hx => Classical.byContradiction fun hne => hb ⟨x, hx, hne⟩
    unfold Dr.rewr
    rw [if_neg hb]
    exact drewrite_any F G g pg d m A ls vs n c w h hok hm hl hG hln hn hc
theorem rrewr_any (F G : Nat → Prop) (g pg : Nat) (d : Dr) (m : Nat) (A : Option Addr) (ls : List (List Byte)) (vs : List Value) (n c : Nat) (w : World) (h : RDrvE F w g pg d) (hok : DOk m d) (hm : m ≤ 1000000) (hl : Lst G w (.slice A n c) vs ls) (hG : ∀ k, G k → ¬ F k) (hln : ls.length = n) (hn : n ≤ 1048576) :
    Calls Try.prog 43 #[.pointer (some ⟨g, 0, none⟩), .slice A n c] w fun e w' => e = .returned (.int .i64 (d.rewr ls).2) ∧ RDrvE (Ext F w w') w' g pg (d.rewr ls).1 ∧ Only F w w' := by
  by_cases hb : ∃ x ∈ ls, x.length ≠ 64
  · refine (rrewrite_bad _ _ A vs ls n c w (hl.own.read hln) hn (by rw [← hln]; exact bad_at hb)).mono ?_
    rintro e w' ⟨rfl, rfl⟩
    unfold Dr.rewr
    rw [if_pos hb]
    exact ⟨rfl, h.up, Only.refl _ _⟩
  · have hc : ∀ x ∈ ls, x.length = 64 := fun x hx => Classical.byContradiction fun hne => hb ⟨x, hx, hne⟩
    unfold Dr.rewr
    rw [if_neg hb]
    exact rrewrite_any F G g pg d m A ls vs n c w h hok hm hl hG hln hn hc
theorem _root_.Wells.DOk.rewr {m : Nat} {d : Dr} {l : List (List Byte)} (h : DOk m d) : DOk (m + 1) (d.rewr l).1 := by
  unfold Dr.rewr
  split
  · exact h.up
  · rename_i hb
    exact h.rewrite2 (fun x hx => Classical.byContradiction fun hne => hb ⟨x, hx, hne⟩)
/-- a list of one's own, behind -/
theorem own_only_F {base size n : Nat} {F : Nat → Prop} {w w' : World} {e : TypeId} {v : Value} {xs : List Value} (h : w.ownsRow base e size v n xs) (ho : Only F w w') (hF : ∀ k, F k → k < base) : w'.ownsRow base e size v n xs :=
  own_only h ho (fun k hk hf => by have := (own_lt h k hk).1; have := hF k hf; omega)
end Go.Proofs.Ytcklnkilldeamaa
