/- Pair Filled SameD -/
import Derived.Deep.CutBlock
import Derived.Deep.DeepCutAuto
import Derived.Test.YtlfmfhdgnmchgaaGreatBRoomTells10
import Derived.Test.YtlfmfhdgnmchgaaGreatBRoomTells14
import Derived.Test.YtlfmfhdgnmchgaaGreatBRoomTells15
import Derived.Test.YtlfmfhdgnmchgaaGreatBRoomTells43
set_option maxRecDepth 20000
set_option linter.unusedSimpArgs false
set_option linter.unusedVariables false
set_option linter.unusedSectionVars false
namespace Wells
open Go Go.RowKit
theorem Pw.rarm_eq {s : Pw} {n : Int} (hn : 0 ≤ n) : s.rarm n = s.arm n := by
  unfold Pw.rarm Pw.arm
  split
  · rfl
  · rw [show max n 0 = n by omega]
theorem DOk.more {m m' : Nat} {d : Dr} (h : DOk m d) (hm : m ≤ m') : DOk m' d := ⟨h.room, h.len, h.lenB, h.wait, h.cells, h.cellsB, h.left, by have := h.offs; omega⟩
theorem DOk.rewrite {m : Nat} {d : Dr} {l : List (List Byte)} (h : DOk m d) (hl : l.length ≤ d.room) (hc : ∀ x ∈ l, x.length = 64) : DOk (m + 1) (d.rewrite l).1 := by
  have hs := Pw.step_ok h.left h.offs
  unfold Dr.rewrite
  split
  · exact h.up
  split
  · exact h.up
  split
  · exact h.up
  split
  · exact ⟨h.room, hl, Nat.zero_le _, Nat.zero_le _, hc, (fun x hx => by cases hx), hs.1, hs.2⟩
  · exact ⟨h.room, h.len, hl, h.wait, h.cells, hc, hs.1, hs.2⟩
theorem DOk.rewrite2 {m : Nat} {d : Dr} {l : List (List Byte)} (h : DOk m d) (hc : ∀ x ∈ l, x.length = 64) : DOk (m + 1) (d.rewrite l).1 := by
  by_cases hl : l.length ≤ d.room
  · exact h.rewrite hl hc
  · have : (d.rewrite l).1 = d := by
      unfold Dr.rewrite
      split
      · rfl
      · rw [if_pos (by omega)]
    rw [this]
    exact h.up
theorem DOk.lose {m : Nat} {d : Dr} (h : DOk m d) : DOk m d.lose := ⟨h.room, Nat.zero_le _, Nat.zero_le _, Nat.zero_le _, (fun x hx => by cases hx), (fun x hx => by cases hx), h.left, h.offs⟩
theorem DOk.arm {m : Nat} {d : Dr} {n : Int} (h : DOk m d) (hn : 0 ≤ n ∧ n ≤ 100) : DOk m { d with s := d.s.arm n } := by
  refine ⟨h.room, h.len, h.lenB, h.wait, h.cells, h.cellsB, ?_, ?_⟩
  · show 0 ≤ (d.s.arm n).left ∧ (d.s.arm n).left ≤ 9223372036854775807
    unfold Pw.arm
    split
    · exact h.left
    · show 0 ≤ max n 0 ∧ max n 0 ≤ 9223372036854775807
      omega
  · show 0 ≤ (d.s.arm n).offs ∧ (d.s.arm n).offs ≤ (m : Int)
    unfold Pw.arm
    split
    · exact h.offs
    · exact h.offs
end Wells
namespace Go.Proofs.YtlfmfhdgnmchgaaGreat
open Go.RowKit Wells
theorem DrvE.ltp {F : Nat → Prop} {w : World} {g pg : Nat} {d : Dr} (h : DrvE F w g pg d) : ∀ k, F k → k < w.heap.size := by obtain ⟨_, _, _, _, h⟩ := h; exact h.lt
theorem DrvE.up {F : Nat → Prop} {w w1 : World} {g pg : Nat} {d : Dr} (h : DrvE F w1 g pg d) : DrvE (Ext F w w1) w1 g pg d := by
  obtain ⟨_, _, _, _, h⟩ := h
  exact ⟨_, _, _, _, h.more (fun k hk => .inl hk) (fun k hk => by rcases hk with hk | hk; exact h.lt k hk; exact hk.2)⟩
theorem RDrvE.up {F : Nat → Prop} {w w1 : World} {g pg : Nat} {d : Dr} (h : RDrvE F w1 g pg d) : RDrvE (Ext F w w1) w1 g pg d := by
  obtain ⟨_, _, _, _, h⟩ := h
  exact ⟨_, _, _, _, h.more (fun k hk => .inl hk) (fun k hk => by rcases hk with hk | hk; exact h.lt k hk; exact hk.2)⟩
theorem DrvE.powerp {F : Nat → Prop} {w w' : World} {g pg : Nat} {d : Dr} {s' : Pw} (h : DrvE F w g pg d) (hr : Row w' pg 96 (pw s')) (hg : w.grownBy w' (some pg)) : DrvE F w' g pg { d with s := s' } ∧ Only F w w' := by
  obtain ⟨_, _, _, _, h⟩ := h
  exact ⟨⟨_, _, _, _, h.power hr hg⟩, Only.of_grown hg (fun k e => by injection e with e; rw [← e]; exact h.fp)⟩
theorem RDrvE.powerp {F : Nat → Prop} {w w' : World} {g pg : Nat} {d : Dr} {s' : Pw} (h : RDrvE F w g pg d) (hr : Row w' pg 55 (pw s')) (hg : w.grownBy w' (some pg)) : RDrvE F w' g pg { d with s := s' } ∧ Only F w w' := by
  obtain ⟨_, _, _, _, h⟩ := h
  exact ⟨⟨_, _, _, _, h.power hr hg⟩, Only.of_grown hg (fun k e => by injection e with e; rw [← e]; exact h.fp)⟩
theorem DrvE.powp {F : Nat → Prop} {w : World} {g pg : Nat} {d : Dr} (h : DrvE F w g pg d) : Row w pg 96 (pw d.s) := by obtain ⟨_, _, _, _, h⟩ := h; exact h.pow
/-- the two, apart from one another, in new memory -/
structure HS (w0 w : World) (F G : Nat → Prop) (g pg gr qg : Nat) (d r : Dr) (m : Nat) : Prop where
  d_ : DrvE F w g pg d
  r_ : RDrvE G w gr qg r
  dj : ∀ k, F k → ¬ G k
  hF : ∀ k, F k → w0.heap.size ≤ k
  hG : ∀ k, G k → w0.heap.size ≤ k
  be : Below w0.heap.size w0 w
  okd : DOk m d
  okr : DOk m r
section
variable {w0 w w1 : World} {F G : Nat → Prop} {g pg gr qg : Nat} {d d' r r' : Dr} {m m' : Nat}
theorem HS.new_ (h : HS w0 w F G g pg gr qg d r m) (hb : Below w.heap.size w w1) : HS w0 w1 F G g pg gr qg d r m := ⟨h.d_.new_ hb, h.r_.new_ hb, h.dj, h.hF, h.hG, h.be.trans (hb.mono h.be.size), h.okd, h.okr⟩
theorem HS.prog (h : HS w0 w F G g pg gr qg d r m) (ho : Only F w w1) (hd : DrvE (Ext F w w1) w1 g pg d') (hok : DOk m' d') (hm : m ≤ m') : HS w0 w1 (Ext F w w1) G g pg gr qg d' r m' :=
  ⟨hd, h.r_.only ho (fun k hg hf => h.dj k hf hg), fun k hf hg => by
    rcases hf with hf | hf
    · exact h.dj k hf hg
    · have := h.r_.lt_ k hg; omega, fun k hf => by
    rcases hf with hf | hf
    · exact h.hF k hf
    · have := h.be.size; omega, h.hG, h.be.trans (ho.below h.hF h.be.size), hok, h.okr.more hm⟩
theorem HS.doc (h : HS w0 w F G g pg gr qg d r m) (ho : Only G w w1) (hr : RDrvE (Ext G w w1) w1 gr qg r') (hok : DOk m' r') (hm : m ≤ m') : HS w0 w1 F (Ext G w w1) g pg gr qg d r' m' :=
  ⟨h.d_.only ho (fun k hf hg => h.dj k hf hg), hr, fun k hf hg => by
    rcases hg with hg | hg
    · exact h.dj k hf hg
    · have := h.d_.ltp k hf; omega, h.hF, fun k hg => by
    rcases hg with hg | hg
    · exact h.hG k hg
    · have := h.be.size; omega, h.be.trans (ho.below h.hG h.be.size), h.okd.more hm, hok⟩
end
end Go.Proofs.YtlfmfhdgnmchgaaGreat

namespace Wells
open Go Go.RowKit
def fillD (room : Nat) (ls : List (List Byte)) (wt : Nat) : Dr := ⟨Pw.new, room, ls, wt, [], false, false⟩
theorem fill_app {room : Nat} {ls : List (List Byte)} {wt : Nat} {c : List Byte} (hc : c.length = 64) (hl : ls.length < room) : (fillD room ls wt).append c = (fillD room (ls ++ [c]) (wt + 1), 0) := by
  unfold Dr.append
  rw [if_neg (by rw [hc]; simp), if_neg (by simp [fillD]), if_neg (by simp [fillD]; omega), if_neg (by simp [fillD, Pw.new]), if_pos (by rfl)]
  rfl
theorem fill_ok {room : Nat} {ls : List (List Byte)} {wt : Nat} (hr : 1 ≤ room ∧ room ≤ 512) (hl : ls.length ≤ room) (hw : wt ≤ ls.length) (hc : ∀ x ∈ ls, x.length = 64) : DOk 0 (fillD room ls wt) :=
  ⟨hr, hl, Nat.zero_le _, hw, hc, (fun x hx => by cases hx), ⟨Int.le_refl _, by show (0 : Int) ≤ 9223372036854775807; omega⟩, ⟨Int.le_refl _, Int.le_refl _⟩⟩
end Wells
namespace Go.Proofs.YtlfmfhdgnmchgaaGreat
open Go.RowKit Wells
end Go.Proofs.YtlfmfhdgnmchgaaGreat

namespace Go.Proofs.YtlfmfhdgnmchgaaGreat
open Go.RowKit Wells
theorem samedrive_any (G : Nat → Prop) (gr qg : Nat) (d : Dr) (A : Option Addr) (vs : List Value) (n c : Nat) (w : World) (h : RDrvE G w gr qg d) (hn : d.L.length = n) (hl : RBs w w.heap.size A n vs d.L) (hn2 : n ≤ 1048576) :
    Calls Tryz.prog 70 #[.int .i64 d.room, .int .i64 d.wait, .slice A n c, .bool d.lost, .pointer (some ⟨gr, 0, none⟩)] w fun e w' => e = .returned (.bool true) ∧ ∃ k, w' = w.drewN k := by
  obtain ⟨lv, lvs, bv, bvs, h⟩ := h
  obtain ⟨Al, cl, rfl, hlc, hlc2⟩ := h.l.own.form
  have hr := h.l.own.read rfl
  rw [hn] at h hr
  have c0 : w.cell? ⟨gr, 0, none⟩ = some (.int .i64 (d.room : Int)) := h.row.cell 0
  have c2 : w.cell? ⟨gr, 2, none⟩ = some (.slice Al n cl) := h.row.cell 2
  have c3 : w.cell? ⟨gr, 3, none⟩ = some (.int .i64 (d.wait : Int)) := h.row.cell 3
  have c6 : w.cell? ⟨gr, 6, none⟩ = some (.bool d.lost) := h.row.cell 6
  have HR := hid hr
  clear h hr
  go_enter Tryz.func70, Tryz.ntmps70
  go_wp2_with fail
  refine (rows_is true w.heap.size A Al vs lvs d.L d.L n n c cl w hl HR.out (by omega) (by omega) (decide_eq_true rfl)).mono ?_
  rintro e w2 ⟨rfl, dd, rfl⟩
  go_wp2_with fail
  go_ret
  exact ⟨rfl, dd, rfl⟩
set_option maxRecDepth 20000 in
set_option maxHeartbeats 600000 in
theorem same22_any (w0 : World) (F G : Nat → Prop) (g pg gr qg : Nat) (d : Dr) (m : Nat) (w : World) (h : HS w0 w F G g pg gr qg d d m) :
    Calls Tryz.prog 32 #[.pointer (some ⟨g, 0, none⟩), .pointer (some ⟨gr, 0, none⟩)] w fun e w' => e = .returned (.bool true) ∧ Below w.heap.size w w' := by
  obtain ⟨lv, lvs, bv, bvs, hr⟩ := h.r_
  obtain ⟨Al, cl, rfl, hlc, hlc2⟩ := hr.l.own.form
  obtain ⟨n, hn⟩ : ∃ n, d.L.length = n := ⟨_, rfl⟩
  have hrd := hr.l.own.read rfl
  rw [hn] at hr hlc hrd
  have hnm : n ≤ 512 := by have := h.okd.len; have := h.okd.room; omega
  have c2 : w.cell? ⟨gr, 2, none⟩ = some (.slice Al n cl) := hr.row.cell 2
  have HRD := hid hrd
  have HN := hid hn
  have HH := hid h
  have HRR := hid hr
  obtain ⟨y, hy⟩ : ∃ y : Int, (n : Int) - 1 = y := ⟨_, rfl⟩
  have e20 : IntKind.i64.wrap ((n : Int) - 1) = y := by rw [IntKind.wrap_i64]; omega
  have hyb : -1 ≤ y ∧ y < (n : Int) := by omega
  clear hn h hr hrd hy
  go_enter Tryz.func32, Tryz.ntmps32
  go_wp2_with fail
  refine Org.begin [] (fun w' => Below w.heap.size w w') [0, 1, 2, 3, 4, 5, 6, 7, 8, 9, 10, 13, 11, 12] (by kernel_rfl) (below_drew' (Below.refl _ _)) (fun hS => ?_)
  (refine Org.yes (v := ?_) rfl (by kernel_rfl) (by kernel_rfl) (by kernel_rfl) (by kernel_rfl) (by kernel_rfl) (fun _ _ _ h => h) (by kernel_rfl) (SM.of hS) ?_ ?_; rotate_left; (focus (intro w hSw; (try dsimp only at hSw); refine Pure.val ?_; go_simp; (try with_reducible rfl); done)); try simp only [Act.put, List.setIfInBounds_toArray, List.set_cons_zero, List.set_cons_succ])
  (refine Org.yes (v := ?_) rfl (by kernel_rfl) (by kernel_rfl) (by kernel_rfl) (by kernel_rfl) (by kernel_rfl) (fun _ _ _ h => h) (by kernel_rfl) (SM.of hS) ?_ ?_; rotate_left; (focus (intro w hSw; (try dsimp only at hSw); refine Pure.val ?_; go_simp; (try with_reducible rfl); done)); try simp only [Act.put, List.setIfInBounds_toArray, List.set_cons_zero, List.set_cons_succ])
  (refine Org.yes (v := ?_) rfl (by kernel_rfl) (by kernel_rfl) (by kernel_rfl) (by kernel_rfl) (by kernel_rfl) (fun _ _ _ h => h) (by kernel_rfl) (SM.of hS) ?_ ?_; rotate_left; (focus (intro w hSw; (try dsimp only at hSw); refine Pure.val ?_; go_simp; (try with_reducible rfl); done)); try simp only [Act.put, List.setIfInBounds_toArray, List.set_cons_zero, List.set_cons_succ])
  (refine Org.yes (v := ?_) rfl (by kernel_rfl) (by kernel_rfl) (by kernel_rfl) (by kernel_rfl) (by kernel_rfl) (fun _ _ _ h => h) (by kernel_rfl) (SM.of hS) ?_ ?_; rotate_left; (focus (intro w hSw; (try dsimp only at hSw); have q2 := cell_keep hSw c2; refine Pure.val ?_; go_simp; (try with_reducible rfl); done)); try simp only [Act.put, List.setIfInBounds_toArray, List.set_cons_zero, List.set_cons_succ])
  (refine Org.yes (v := ?_) rfl (by kernel_rfl) (by kernel_rfl) (by kernel_rfl) (by kernel_rfl) (by kernel_rfl) (fun _ _ _ h => h) (by kernel_rfl) (SM.of hS) ?_ ?_; rotate_left; (focus (intro w hSw; (try dsimp only at hSw); refine Pure.val ?_; go_simp; (try with_reducible rfl); done)); try simp only [Act.put, List.setIfInBounds_toArray, List.set_cons_zero, List.set_cons_succ])
  (refine Org.yes (v := ?_) rfl (by kernel_rfl) (by kernel_rfl) (by kernel_rfl) (by kernel_rfl) (by kernel_rfl) (fun _ _ _ h => h) (by kernel_rfl) (SM.of hS) ?_ ?_; rotate_left; (focus (intro w hSw; (try dsimp only at hSw); refine Pure.val ?_; go_simp; (try with_reducible rfl); done)); try simp only [Act.put, List.setIfInBounds_toArray, List.set_cons_zero, List.set_cons_succ])
  (refine Org.yes (v := ?_) rfl (by kernel_rfl) (by kernel_rfl) (by kernel_rfl) (by kernel_rfl) (by kernel_rfl) (fun _ _ _ h => h) (by kernel_rfl) (SM.of hS) ?_ ?_; rotate_left; (focus (intro w hSw; (try dsimp only at hSw); refine Pure.val ?_; go_simp; (try with_reducible rfl); done)); try simp only [Act.put, List.setIfInBounds_toArray, List.set_cons_zero, List.set_cons_succ])
  (refine Org.yes (v := ?_) rfl (by kernel_rfl) (by kernel_rfl) (by kernel_rfl) (by kernel_rfl) (by kernel_rfl) (fun _ _ _ h => h) (by kernel_rfl) (SM.of hS) ?_ ?_; rotate_left; (focus (intro w hSw; (try dsimp only at hSw); refine Pure.val ?_; go_simp; (try with_reducible rfl); done)); try simp only [Act.put, List.setIfInBounds_toArray, List.set_cons_zero, List.set_cons_succ])
  (refine Org.yes (v := ?_) rfl (by kernel_rfl) (by kernel_rfl) (by kernel_rfl) (by kernel_rfl) (by kernel_rfl) (fun _ _ _ h => h) (by kernel_rfl) (SM.of hS) ?_ ?_; rotate_left; (focus (intro w hSw; (try dsimp only at hSw); refine Pure.val ?_; go_simp; (try with_reducible rfl); done)); try simp only [Act.put, List.setIfInBounds_toArray, List.set_cons_zero, List.set_cons_succ])
  (refine Org.yes (v := ?_) rfl (by kernel_rfl) (by kernel_rfl) (by kernel_rfl) (by kernel_rfl) (by kernel_rfl) (fun _ _ _ h => h) (by kernel_rfl) (SM.of hS) ?_ ?_; rotate_left; (focus (intro w hSw; (try dsimp only at hSw); have q2 := cell_keep hSw c2; refine Pure.val ?_; go_simp; (try with_reducible rfl); done)); try simp only [Act.put, List.setIfInBounds_toArray, List.set_cons_zero, List.set_cons_succ])
  (refine Org.yes (v := ?_) rfl (by kernel_rfl) (by kernel_rfl) (by kernel_rfl) (by kernel_rfl) (by kernel_rfl) (fun _ _ _ h => h) (by kernel_rfl) (SM.of hS) ?_ ?_; rotate_left; (focus (intro w hSw; (try dsimp only at hSw); refine Pure.val ?_; go_simp; (try with_reducible rfl); done)); try simp only [Act.put, List.setIfInBounds_toArray, List.set_cons_zero, List.set_cons_succ])
  (refine Org.yes (v := ?_) rfl (by kernel_rfl) (by kernel_rfl) (by kernel_rfl) (by kernel_rfl) (by kernel_rfl) (fun _ _ _ h => h) (by kernel_rfl) (SM.of hS) ?_ ?_; rotate_left; (focus (intro w hSw; (try dsimp only at hSw); refine Pure.val ?_; go_simp; (try with_reducible rfl); done)); try simp only [Act.put, List.setIfInBounds_toArray, List.set_cons_zero, List.set_cons_succ])
  refine Org.go rfl (by kernel_rfl) (by kernel_rfl) (fun K hK => ?_)
  go_simp
  have HGS := hid (Row.new w 3 #[.int .i64 (-1), .int .i64 0, .int .i64 y, .int .i64 (n : Int)])
  refine hK.out _ _ (below_drew' ((Below.refl _ _).alloc (Nat.le_refl _) _)) (fun hS2 => ?_)
  clear hK K hS
  have hS := hS2
  clear hS2
  try simp only [Act.put, List.setIfInBounds_toArray, List.set_cons_zero, List.set_cons_succ]
  (refine Org.yes (v := ?_) rfl (by kernel_rfl) (by kernel_rfl) (by kernel_rfl) (by kernel_rfl) (by kernel_rfl) (fun _ _ _ h => h) (by kernel_rfl) (SM.of hS) ?_ ?_; rotate_left; (focus (intro w hSw; (try dsimp only at hSw); refine Pure.val ?_; go_simp; (try with_reducible rfl); done)); try simp only [Act.put, List.setIfInBounds_toArray, List.set_cons_zero, List.set_cons_succ])
  refine Org.done (by kernel_rfl) ?_
  have hb5 : Below w.heap.size w _ := hS
  clear hS
  have HB5 := hid hb5
  obtain ⟨w5, hw5⟩ : ∃ x, (w.alloc (.cells #[.int .i64 (-1), .int .i64 0, .int .i64 y, .int .i64 (n : Int)] 3)).drew = x := ⟨_, rfl⟩
  rw [hw5] at HB5 ⊢
  have HG5 := hid (show Row w5 w.heap.size 3 [.int .i64 (-1), .int .i64 0, .int .i64 y, .int .i64 (n : Int)] by rw [← hw5]; exact HGS.out)
  obtain ⟨gs, hgs⟩ : ∃ x, w.heap.size = x := ⟨_, rfl⟩
  have HGSZ := hid hgs
  rw [hgs] at HG5 ⊢
  clear hw5 hb5 hgs HGS e20
  go_wp2_with fail
  go_loopw [28] (fun i wr => ∃ k : Nat, k ≤ 4 ∧ i = .int .i64 (k : Int) ∧ Below w5.heap.size w5 wr) (fun i _ => 4 - (intOf i).toNat)
  case atStart => exact ⟨0, by omega, rfl, Below.refl _ _⟩
  case round =>
    obtain ⟨k, hk, rfl, hbw⟩ := hrel
    have hW := HH.out.new_ (HB5.out.trans (hbw.mono HB5.out.size))
    have HW := hid hW
    have hg5 := HG5.out.below hbw HG5.out.lt
    have HBE := hid (HB5.out.trans (hbw.mono HB5.out.size))
    have HRW := hid (HRR.out.only (Only.of_new (F := fun _ => False) HBE.out) (fun _ _ hf => hf))
    have d2 : wr.cell? ⟨gr, 2, none⟩ = some (.slice Al n cl) := HRW.out.row.cell 2
    have HBW := hid hbw
    clear hW hbw c2
    by_cases hk4 : k < 4
    · have hki : (k : Int) < 4 := by omega
      obtain ⟨vv, hvv, hvb⟩ : ∃ vv : Int, wr.cell? ⟨gs, k, none⟩ = some (.int .i64 vv) ∧ -1 ≤ vv ∧ vv ≤ (n : Int) := by
        have hc := hg5.cell k
        have h4 : k = 0 ∨ k = 1 ∨ k = 2 ∨ k = 3 := by omega
        rcases h4 with rfl | rfl | rfl | rfl
        · exact ⟨-1, hc, by omega, by omega⟩
        · exact ⟨0, hc, by omega, by omega⟩
        · exact ⟨y, hc, by omega, by omega⟩
        · exact ⟨(n : Int), hc, by omega, by omega⟩
      clear hg5
      have hvi : -9223372036854775808 ≤ vv ∧ vv ≤ 9223372036854775807 := by omega
      by_cases hin : 0 ≤ vv ∧ vv < (n : Int)
      · obtain ⟨v, rfl⟩ : ∃ v : Nat, vv = (v : Int) := ⟨vv.toNat, by omega⟩
        have hvn : v < n := by omega
        have hvn2 := hin.2
        obtain ⟨b, o, A1, c1, rfl, hb, hce, hl1, hc1, sl1⟩ := (HRW.out.l.own.read HN.out).get hvn
        obtain ⟨x, hx⟩ : ∃ x, d.L.getD v [] = x := ⟨_, rfl⟩
        have hx64 : x.length = 64 := by
          have := HN.out
          rw [← hx, List.getD_eq_getElem?_getD, List.getElem?_eq_getElem (by omega)]
          exact HW.out.okd.cells _ (List.getElem_mem _)
        rw [hx] at hce hl1 sl1
        rw [hx64] at hce hl1 sl1
        have hrdx : d.read (v : Int) = x := by
          have := HN.out
          rw [← hx]
          exact if_pos ⟨by omega, by omega⟩
        have HRX := hid hrdx
        have HX64 := hid hx64
        have HSL := hid sl1
        clear hx hx64 sl1 hrdx
        go_wp2_with fail
        refine (dread_any F g pg d m (v : Int) wr HW.out.d_ HW.out.okd hvi).mono ?_
        rintro e w7 ⟨vr, rfl, hob, hb7⟩
        rw [HRX.out] at hob
        obtain ⟨A7, c7, rfl, hc71, hc72, hs7⟩ := hob.read
        rw [HX64.out] at hs7 ⊢
        have HS7 := hid hs7
        have HB7 := hid hb7
        clear hob hs7 hb7
        go_wp2_with fail
        refine (same_is true w7.heap.size A7 A1 x x 64 64 c7 c1 w7 HS7.out ((HSL.out.below HB7.out).mono HB7.out.size) (by omega) (by omega) (decide_eq_true rfl)).mono ?_
        rintro e w8 ⟨rfl, dd, rfl⟩
        have hbe := HBW.out.trans ((below_drewN HB7.out dd).mono HBW.out.size)
        have HBE2 := hid hbe
        clear hbe
        go_wp2_with fail
        go_roundw
        case rel => exact ⟨k + 1, by omega, by go_num, HBE2.out⟩
        case measure => simp [intOf]; omega
      · have hrdx : d.read vv = [] := if_neg (by rw [HN.out]; exact hin)
        have HRX := hid hrdx
        clear hrdx
        have hcs : vv = -1 ∨ vv = (n : Int) := by omega
        have READ : True := trivial
        rcases hcs with rfl | rfl
        · skip
          go_wp2_with fail
          refine (dread_any F g pg d m _ wr HW.out.d_ HW.out.okd hvi).mono ?_
          rintro e w7 ⟨vr, rfl, hob, hb7⟩
          rw [HRX.out] at hob
          obtain ⟨A7, c7, rfl, hc71, hc72, hs7⟩ := hob.read
          have HS7 := hid hs7
          have HB7 := hid hb7
          clear hob hs7 hb7
          go_wp2_with fail
          refine (same_is true w7.heap.size A7 none [] [] 0 0 c7 0 w7 HS7.out Sl.nil_ (by omega) (by omega) (decide_eq_true rfl)).mono ?_
          rintro e w8 ⟨rfl, dd, rfl⟩
          have hbe := HBW.out.trans ((below_drewN HB7.out dd).mono HBW.out.size)
          have HBE2 := hid hbe
          clear hbe
          go_wp2_with fail
          go_roundw
          case rel => exact ⟨k + 1, by omega, by go_num, HBE2.out⟩
          case measure => simp [intOf]; omega
        · have hn0 : (0 : Int) ≤ (n : Int) := by omega
          have hnn : ¬ (n : Int) < (n : Int) := by omega
          go_wp2_with fail
          refine (dread_any F g pg d m _ wr HW.out.d_ HW.out.okd hvi).mono ?_
          rintro e w7 ⟨vr, rfl, hob, hb7⟩
          rw [HRX.out] at hob
          obtain ⟨A7, c7, rfl, hc71, hc72, hs7⟩ := hob.read
          have HS7 := hid hs7
          have HB7 := hid hb7
          clear hob hs7 hb7
          go_wp2_with fail
          refine (same_is true w7.heap.size A7 none [] [] 0 0 c7 0 w7 HS7.out Sl.nil_ (by omega) (by omega) (decide_eq_true rfl)).mono ?_
          rintro e w8 ⟨rfl, dd, rfl⟩
          have hbe := HBW.out.trans ((below_drewN HB7.out dd).mono HBW.out.size)
          have HBE2 := hid hbe
          clear hbe
          go_wp2_with fail
          go_roundw
          case rel => exact ⟨k + 1, by omega, by go_num, HBE2.out⟩
          case measure => simp [intOf]; omega
    · obtain rfl : k = 4 := by omega
      clear hg5
      go_wp2_with fail
      refine Org.begin [] (fun w' => Below wr.heap.size wr w') [0, 1, 2, 3, 4, 5, 6, 7, 8, 9, 10, 11, 12, 13, 15, 17, 14, 16, 18, 19, 20] (by kernel_rfl) (below_drew' (Below.refl _ _)) (fun hS => ?_)
      (refine Org.yes (v := ?_) rfl (by kernel_rfl) (by kernel_rfl) (by kernel_rfl) (by kernel_rfl) (by kernel_rfl) (fun _ _ _ h => h) (by kernel_rfl) (SM.of hS) ?_ ?_; rotate_left; (focus (intro w hSw; (try dsimp only at hSw); refine Pure.val ?_; go_simp; (try with_reducible rfl); done)); try simp only [Act.put, List.setIfInBounds_toArray, List.set_cons_zero, List.set_cons_succ])
      (refine Org.yes (v := ?_) rfl (by kernel_rfl) (by kernel_rfl) (by kernel_rfl) (by kernel_rfl) (by kernel_rfl) (fun _ _ _ h => h) (by kernel_rfl) (SM.of hS) ?_ ?_; rotate_left; (focus (intro w hSw; (try dsimp only at hSw); refine Pure.call 16 #[.pointer (some ⟨g, 0, none⟩)] (by go_simp; first | done | rfl) ?_; refine (dlen_any F g pg d _ (HW.out.new_ hSw).d_).mono ?_; rintro e w' ⟨rfl, rfl⟩; rw [HN.out]; refine ⟨?_, rfl⟩; with_reducible rfl)); try simp only [Act.put, List.setIfInBounds_toArray, List.set_cons_zero, List.set_cons_succ])
      (refine Org.yes (v := ?_) rfl (by kernel_rfl) (by kernel_rfl) (by kernel_rfl) (by kernel_rfl) (by kernel_rfl) (fun _ _ _ h => h) (by kernel_rfl) (SM.of hS) ?_ ?_; rotate_left; (focus (intro w hSw; (try dsimp only at hSw); refine Pure.val ?_; go_simp; (try with_reducible rfl); done)); try simp only [Act.put, List.setIfInBounds_toArray, List.set_cons_zero, List.set_cons_succ])
      (refine Org.yes (v := ?_) rfl (by kernel_rfl) (by kernel_rfl) (by kernel_rfl) (by kernel_rfl) (by kernel_rfl) (fun _ _ _ h => h) (by kernel_rfl) (SM.of hS) ?_ ?_; rotate_left; (focus (intro w hSw; (try dsimp only at hSw); refine Pure.val ?_; go_simp; (try with_reducible rfl); done)); try simp only [Act.put, List.setIfInBounds_toArray, List.set_cons_zero, List.set_cons_succ])
      (refine Org.yes (v := ?_) rfl (by kernel_rfl) (by kernel_rfl) (by kernel_rfl) (by kernel_rfl) (by kernel_rfl) (fun _ _ _ h => h) (by kernel_rfl) (SM.of hS) ?_ ?_; rotate_left; (focus (intro w hSw; (try dsimp only at hSw); refine Pure.val ?_; go_simp; (try with_reducible rfl); done)); try simp only [Act.put, List.setIfInBounds_toArray, List.set_cons_zero, List.set_cons_succ])
      (refine Org.yes (v := ?_) rfl (by kernel_rfl) (by kernel_rfl) (by kernel_rfl) (by kernel_rfl) (by kernel_rfl) (fun _ _ _ h => h) (by kernel_rfl) (SM.of hS) ?_ ?_; rotate_left; (focus (intro w hSw; (try dsimp only at hSw); have q2 := cell_keep hSw d2; refine Pure.val ?_; go_simp; (try with_reducible rfl); done)); try simp only [Act.put, List.setIfInBounds_toArray, List.set_cons_zero, List.set_cons_succ])
      (refine Org.yes (v := ?_) rfl (by kernel_rfl) (by kernel_rfl) (by kernel_rfl) (by kernel_rfl) (by kernel_rfl) (fun _ _ _ h => h) (by kernel_rfl) (SM.of hS) ?_ ?_; rotate_left; (focus (intro w hSw; (try dsimp only at hSw); refine Pure.val ?_; go_simp; (try with_reducible rfl); done)); try simp only [Act.put, List.setIfInBounds_toArray, List.set_cons_zero, List.set_cons_succ])
      (refine Org.yes (v := ?_) rfl (by kernel_rfl) (by kernel_rfl) (by kernel_rfl) (by kernel_rfl) (by kernel_rfl) (fun _ _ _ h => h) (by kernel_rfl) (SM.of hS) ?_ ?_; rotate_left; (focus (intro w hSw; (try dsimp only at hSw); refine Pure.val ?_; go_simp; (try with_reducible rfl); done)); try simp only [Act.put, List.setIfInBounds_toArray, List.set_cons_zero, List.set_cons_succ])
      (refine Org.yes (v := ?_) rfl (by kernel_rfl) (by kernel_rfl) (by kernel_rfl) (by kernel_rfl) (by kernel_rfl) (fun _ _ _ h => h) (by kernel_rfl) (SM.of hS) ?_ ?_; rotate_left; (focus (intro w hSw; (try dsimp only at hSw); refine Pure.val ?_; go_simp; (try with_reducible rfl); done)); try simp only [Act.put, List.setIfInBounds_toArray, List.set_cons_zero, List.set_cons_succ])
      (refine Org.yes (v := ?_) rfl (by kernel_rfl) (by kernel_rfl) (by kernel_rfl) (by kernel_rfl) (by kernel_rfl) (fun _ _ _ h => h) (by kernel_rfl) (SM.of hS) ?_ ?_; rotate_left; (focus (intro w hSw; (try dsimp only at hSw); refine Pure.val ?_; go_simp; (try with_reducible rfl); done)); try simp only [Act.put, List.setIfInBounds_toArray, List.set_cons_zero, List.set_cons_succ])
      (refine Org.yes (v := ?_) rfl (by kernel_rfl) (by kernel_rfl) (by kernel_rfl) (by kernel_rfl) (by kernel_rfl) (fun _ _ _ h => h) (by kernel_rfl) (SM.of hS) ?_ ?_; rotate_left; (focus (intro w hSw; (try dsimp only at hSw); refine Pure.call 15 #[.pointer (some ⟨g, 0, none⟩)] (by go_simp; first | done | rfl) ?_; refine (droom_any F g pg d _ (HW.out.new_ hSw).d_).mono ?_; rintro e w' ⟨rfl, rfl⟩; refine ⟨?_, rfl⟩; with_reducible rfl)); try simp only [Act.put, List.setIfInBounds_toArray, List.set_cons_zero, List.set_cons_succ])
      (refine Org.yes (v := ?_) rfl (by kernel_rfl) (by kernel_rfl) (by kernel_rfl) (by kernel_rfl) (by kernel_rfl) (fun _ _ _ h => h) (by kernel_rfl) (SM.of hS) ?_ ?_; rotate_left; (focus (intro w hSw; (try dsimp only at hSw); refine Pure.val ?_; go_simp; (try with_reducible rfl); done)); try simp only [Act.put, List.setIfInBounds_toArray, List.set_cons_zero, List.set_cons_succ])
      (refine Org.yes (v := ?_) rfl (by kernel_rfl) (by kernel_rfl) (by kernel_rfl) (by kernel_rfl) (by kernel_rfl) (fun _ _ _ h => h) (by kernel_rfl) (SM.of hS) ?_ ?_; rotate_left; (focus (intro w hSw; (try dsimp only at hSw); refine Pure.call 71 #[.pointer (some ⟨g, 0, none⟩)] (by go_simp; first | done | rfl) ?_; refine (dpending_any F g pg d _ (HW.out.new_ hSw).d_).mono ?_; rintro e w' ⟨rfl, rfl⟩; refine ⟨?_, rfl⟩; with_reducible rfl)); try simp only [Act.put, List.setIfInBounds_toArray, List.set_cons_zero, List.set_cons_succ])
      (refine Org.yes (v := ?_) rfl (by kernel_rfl) (by kernel_rfl) (by kernel_rfl) (by kernel_rfl) (by kernel_rfl) (fun _ _ _ h => h) (by kernel_rfl) (SM.of hS) ?_ ?_; rotate_left; (focus (intro w hSw; (try dsimp only at hSw); refine Pure.val ?_; go_simp; (try with_reducible rfl); done)); try simp only [Act.put, List.setIfInBounds_toArray, List.set_cons_zero, List.set_cons_succ])
      (refine Org.yes (v := ?_) rfl (by kernel_rfl) (by kernel_rfl) (by kernel_rfl) (by kernel_rfl) (by kernel_rfl) (fun _ _ _ h => h) (by kernel_rfl) (SM.of hS) ?_ ?_; rotate_left; (focus (intro w hSw; (try dsimp only at hSw); refine Pure.val ?_; go_simp; (try with_reducible rfl); done)); try simp only [Act.put, List.setIfInBounds_toArray, List.set_cons_zero, List.set_cons_succ])
      (refine Org.yes (v := ?_) rfl (by kernel_rfl) (by kernel_rfl) (by kernel_rfl) (by kernel_rfl) (by kernel_rfl) (fun _ _ _ h => h) (by kernel_rfl) (SM.of hS) ?_ ?_; rotate_left; (focus (intro w hSw; (try dsimp only at hSw); refine Pure.val ?_; go_simp; (try with_reducible rfl); done)); try simp only [Act.put, List.setIfInBounds_toArray, List.set_cons_zero, List.set_cons_succ])
      refine Org.go rfl (by kernel_rfl) (by kernel_rfl) (fun K hK => ?_)
      go_simp
      go_at_call 10
      refine (dall_any F g pg d m _ ((HW.out.new_ hS).d_) HW.out.okd).mono ?_
      rintro e w7 ⟨A7, c7, v7, rfl, ho7, _, hb7⟩
      rw [HN.out] at ho7 ⊢
      have hS3 := hS.trans (hb7.mono hS.size)
      have HO7 := hid ho7
      clear hb7 ho7
      go_wp2_with fail
      refine hK.out _ _ hS3 (fun hS2 => ?_)
      clear hS3
      clear hK K hS
      have hS := hS2
      clear hS2
      try simp only [Act.put, List.setIfInBounds_toArray, List.set_cons_zero, List.set_cons_succ]
      (refine Org.yes (v := ?_) rfl (by kernel_rfl) (by kernel_rfl) (by kernel_rfl) (by kernel_rfl) (by kernel_rfl) (fun _ _ _ h => h) (by kernel_rfl) (SM.of hS) ?_ ?_; rotate_left; (focus (intro w hSw; (try dsimp only at hSw); refine Pure.call 51 #[.pointer (some ⟨g, 0, none⟩)] (by go_simp; first | done | rfl) ?_; refine (dlost_any F g pg d _ (HW.out.new_ hSw).d_).mono ?_; rintro e w' ⟨rfl, rfl⟩; refine ⟨?_, rfl⟩; with_reducible rfl)); try simp only [Act.put, List.setIfInBounds_toArray, List.set_cons_zero, List.set_cons_succ])
      refine Org.go rfl (by kernel_rfl) (by kernel_rfl) (fun K hK => ?_)
      go_simp
      go_at_call 70
      refine (samedrive_any G gr qg d A7 v7 n c7 _ ((HW.out.new_ hS).r_) HN.out (by have := HO7.out.read HN.out; exact this) (by omega)).mono ?_
      rintro e w8 ⟨rfl, dd, rfl⟩
      have hS3 := below_drewN hS dd
      go_wp2_with fail
      refine hK.out _ _ hS3 (fun hS2 => ?_)
      clear hS3
      clear hK K hS
      have hS := hS2
      clear hS2
      try simp only [Act.put, List.setIfInBounds_toArray, List.set_cons_zero, List.set_cons_succ]
      (refine Org.yes (v := ?_) rfl (by kernel_rfl) (by kernel_rfl) (by kernel_rfl) (by kernel_rfl) (by kernel_rfl) (fun _ _ _ h => h) (by kernel_rfl) (SM.of hS) ?_ ?_; rotate_left; (focus (intro w hSw; (try dsimp only at hSw); refine Pure.val ?_; go_simp; (try with_reducible rfl); done)); try simp only [Act.put, List.setIfInBounds_toArray, List.set_cons_zero, List.set_cons_succ])
      (refine Org.yes (v := ?_) rfl (by kernel_rfl) (by kernel_rfl) (by kernel_rfl) (by kernel_rfl) (by kernel_rfl) (fun _ _ _ h => h) (by kernel_rfl) (SM.of hS) ?_ ?_; rotate_left; (focus (intro w hSw; (try dsimp only at hSw); refine Pure.val ?_; go_simp; (try with_reducible rfl); done)); try simp only [Act.put, List.setIfInBounds_toArray, List.set_cons_zero, List.set_cons_succ])
      refine Org.done (by kernel_rfl) ?_
      have hbe : Below wr.heap.size wr _ := hS
      have hbz := HBE.out.trans (hbe.mono HBE.out.size)
      have HBZ := hid hbz
      clear hS hbe hbz
      go_wp2_with fail
      go_ret
      exact ⟨rfl, HBZ.out⟩
end Go.Proofs.YtlfmfhdgnmchgaaGreat

