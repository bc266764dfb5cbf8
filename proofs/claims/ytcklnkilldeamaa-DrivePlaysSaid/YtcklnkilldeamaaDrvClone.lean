/- Clone. -/
import Derived.Test.YtcklnkilldeamaaDrvMore
namespace Go.Proofs.Ytcklnkilldeamaa
open Go.RowKit Wells
theorem dclone_any (F : Nat → Prop) (g pg : Nat) (d : Dr) (m pg2 : Nat) (s2 : Pw) (w : World) (h : DrvE F w g pg d) (hok : DOk m d) (hp : Row w pg2 58 (pw s2)) :
    Calls Try.prog 21 #[.pointer (some ⟨g, 0, none⟩), .pointer (some ⟨pg2, 0, none⟩)] w fun e w' => ∃ g2, e = .returned (.pointer (some ⟨g2, 0, none⟩)) ∧ w.heap.size ≤ g2 ∧
      DrvE (fun k => k = pg2 ∨ (w.heap.size ≤ k ∧ k < w'.heap.size)) w' g2 pg2 { d with s := s2 } ∧ Below w.heap.size w w' := by
  obtain ⟨lv, lvs, bv, bvs, h⟩ := h
  obtain ⟨Al, cl, rfl, _, _⟩ := h.l.own.form
  obtain ⟨Ab, cb, rfl, _, _⟩ := h.b.own.form
  have c1 := h.row.cell 1
  have e1 : (drRow pg d (.slice Al d.L.length cl) (.slice Ab d.B.length cb))[1]? = some (.int .i64 d.room) := rfl
  rw [e1] at c1
  clear e1
  have c2 := h.row.cell 2
  have e2 : (drRow pg d (.slice Al d.L.length cl) (.slice Ab d.B.length cb))[2]? = some (.slice Al d.L.length cl) := rfl
  rw [e2] at c2
  clear e2
  have c3 := h.row.cell 3
  have e3 : (drRow pg d (.slice Al d.L.length cl) (.slice Ab d.B.length cb))[3]? = some (.int .i64 d.wait) := rfl
  rw [e3] at c3
  clear e3
  have c4 := h.row.cell 4
  have e4 : (drRow pg d (.slice Al d.L.length cl) (.slice Ab d.B.length cb))[4]? = some (.slice Ab d.B.length cb) := rfl
  rw [e4] at c4
  clear e4
  have c5 := h.row.cell 5
  have e5 : (drRow pg d (.slice Al d.L.length cl) (.slice Ab d.B.length cb))[5]? = some (.bool d.has) := rfl
  rw [e5] at c5
  clear e5
  have c6 := h.row.cell 6
  have e6 : (drRow pg d (.slice Al d.L.length cl) (.slice Ab d.B.length cb))[6]? = some (.bool d.lost) := rfl
  rw [e6] at c6
  clear e6
  have hll := hok.len
  have hlb := hok.lenB
  have hrm := hok.room
  have HRL := hid (h.l.own.read rfl)
  have HRB := hid (h.b.own.read rfl)
  have key : ∀ (ls : List (List Byte)), (∀ x ∈ ls, x.length = 64) → ∀ i, i < ls.length → (ls.getD i []).length ≤ 1048576 := fun ls hl i hi => by
    rw [List.getD_eq_getElem?_getD, List.getElem?_eq_getElem hi]
    have := hl _ (List.getElem_mem hi)
    simp only [Option.getD_some]
    omega
  have HCL := hid (key d.L hok.cells)
  have HCB := hid (key d.B hok.cellsB)
  have HP := hid hp
  clear key h hp
  go_enter Try.func21, Try.ntmps21
  go_wp2_with fail
  refine Org.begin [] (fun w' => Below w.heap.size w w') [0, 1, 2, 3, 4, 5, 6, 7, 8, 10, 11, 12, 13, 14, 15, 16, 17, 19, 20, 21, 22, 23, 24, 25, 26, 9, 18, 27, 28, 29] (by kernel_rfl) (below_drew' (Below.refl _ _)) (fun hS => ?_)
  (refine Org.yes (v := ?_) rfl (by kernel_rfl) (by kernel_rfl) (by kernel_rfl) (by kernel_rfl) (by kernel_rfl) (fun _ _ _ h => h) (by kernel_rfl) (SM.of hS) ?_ ?_; rotate_left; (focus (intro w hSw; (try dsimp only at hSw); refine Pure.val ?_; go_simp; (try with_reducible rfl); done)); try simp only [Act.put, List.setIfInBounds_toArray, List.set_cons_zero, List.set_cons_succ])
  (refine Org.yes (v := ?_) rfl (by kernel_rfl) (by kernel_rfl) (by kernel_rfl) (by kernel_rfl) (by kernel_rfl) (fun _ _ _ h => h) (by kernel_rfl) (SM.of hS) ?_ ?_; rotate_left; (focus (intro w hSw; (try dsimp only at hSw); refine Pure.val ?_; go_simp; (try with_reducible rfl); done)); try simp only [Act.put, List.setIfInBounds_toArray, List.set_cons_zero, List.set_cons_succ])
  (refine Org.yes (v := ?_) rfl (by kernel_rfl) (by kernel_rfl) (by kernel_rfl) (by kernel_rfl) (by kernel_rfl) (fun _ _ _ h => h) (by kernel_rfl) (SM.of hS) ?_ ?_; rotate_left; (focus (intro w hSw; (try dsimp only at hSw); refine Pure.val ?_; go_simp; (try with_reducible rfl); done)); try simp only [Act.put, List.setIfInBounds_toArray, List.set_cons_zero, List.set_cons_succ])
  (refine Org.yes (v := ?_) rfl (by kernel_rfl) (by kernel_rfl) (by kernel_rfl) (by kernel_rfl) (by kernel_rfl) (fun _ _ _ h => h) (by kernel_rfl) (SM.of hS) ?_ ?_; rotate_left; (focus (intro w hSw; (try dsimp only at hSw); refine Pure.val ?_; go_simp; (try with_reducible rfl); done)); try simp only [Act.put, List.setIfInBounds_toArray, List.set_cons_zero, List.set_cons_succ])
  (refine Org.yes (v := ?_) rfl (by kernel_rfl) (by kernel_rfl) (by kernel_rfl) (by kernel_rfl) (by kernel_rfl) (fun _ _ _ h => h) (by kernel_rfl) (SM.of hS) ?_ ?_; rotate_left; (focus (intro w hSw; (try dsimp only at hSw); have qc1 := cell_keep hSw c1; refine Pure.val ?_; go_simp; (try with_reducible rfl); done)); try simp only [Act.put, List.setIfInBounds_toArray, List.set_cons_zero, List.set_cons_succ])
  (refine Org.yes (v := ?_) rfl (by kernel_rfl) (by kernel_rfl) (by kernel_rfl) (by kernel_rfl) (by kernel_rfl) (fun _ _ _ h => h) (by kernel_rfl) (SM.of hS) ?_ ?_; rotate_left; (focus (intro w hSw; (try dsimp only at hSw); refine Pure.val ?_; go_simp; (try with_reducible rfl); done)); try simp only [Act.put, List.setIfInBounds_toArray, List.set_cons_zero, List.set_cons_succ])
  (refine Org.yes (v := ?_) rfl (by kernel_rfl) (by kernel_rfl) (by kernel_rfl) (by kernel_rfl) (by kernel_rfl) (fun _ _ _ h => h) (by kernel_rfl) (SM.of hS) ?_ ?_; rotate_left; (focus (intro w hSw; (try dsimp only at hSw); refine Pure.val ?_; go_simp; (try with_reducible rfl); done)); try simp only [Act.put, List.setIfInBounds_toArray, List.set_cons_zero, List.set_cons_succ])
  (refine Org.yes (v := ?_) rfl (by kernel_rfl) (by kernel_rfl) (by kernel_rfl) (by kernel_rfl) (by kernel_rfl) (fun _ _ _ h => h) (by kernel_rfl) (SM.of hS) ?_ ?_; rotate_left; (focus (intro w hSw; (try dsimp only at hSw); refine Pure.val ?_; go_simp; (try with_reducible rfl); done)); try simp only [Act.put, List.setIfInBounds_toArray, List.set_cons_zero, List.set_cons_succ])
  (refine Org.yes (v := ?_) rfl (by kernel_rfl) (by kernel_rfl) (by kernel_rfl) (by kernel_rfl) (by kernel_rfl) (fun _ _ _ h => h) (by kernel_rfl) (SM.of hS) ?_ ?_; rotate_left; (focus (intro w hSw; (try dsimp only at hSw); have qc2 := cell_keep hSw c2; refine Pure.val ?_; go_simp; (try with_reducible rfl); done)); try simp only [Act.put, List.setIfInBounds_toArray, List.set_cons_zero, List.set_cons_succ])
  (refine Org.yes (v := ?_) rfl (by kernel_rfl) (by kernel_rfl) (by kernel_rfl) (by kernel_rfl) (by kernel_rfl) (fun _ _ _ h => h) (by kernel_rfl) (SM.of hS) ?_ ?_; rotate_left; (focus (intro w hSw; (try dsimp only at hSw); refine Pure.val ?_; go_simp; (try with_reducible rfl); done)); try simp only [Act.put, List.setIfInBounds_toArray, List.set_cons_zero, List.set_cons_succ])
  (refine Org.yes (v := ?_) rfl (by kernel_rfl) (by kernel_rfl) (by kernel_rfl) (by kernel_rfl) (by kernel_rfl) (fun _ _ _ h => h) (by kernel_rfl) (SM.of hS) ?_ ?_; rotate_left; (focus (intro w hSw; (try dsimp only at hSw); refine Pure.val ?_; go_simp; (try with_reducible rfl); done)); try simp only [Act.put, List.setIfInBounds_toArray, List.set_cons_zero, List.set_cons_succ])
  (refine Org.yes (v := ?_) rfl (by kernel_rfl) (by kernel_rfl) (by kernel_rfl) (by kernel_rfl) (by kernel_rfl) (fun _ _ _ h => h) (by kernel_rfl) (SM.of hS) ?_ ?_; rotate_left; (focus (intro w hSw; (try dsimp only at hSw); refine Pure.val ?_; go_simp; (try with_reducible rfl); done)); try simp only [Act.put, List.setIfInBounds_toArray, List.set_cons_zero, List.set_cons_succ])
  (refine Org.yes (v := ?_) rfl (by kernel_rfl) (by kernel_rfl) (by kernel_rfl) (by kernel_rfl) (by kernel_rfl) (fun _ _ _ h => h) (by kernel_rfl) (SM.of hS) ?_ ?_; rotate_left; (focus (intro w hSw; (try dsimp only at hSw); have qc3 := cell_keep hSw c3; refine Pure.val ?_; go_simp; (try with_reducible rfl); done)); try simp only [Act.put, List.setIfInBounds_toArray, List.set_cons_zero, List.set_cons_succ])
  (refine Org.yes (v := ?_) rfl (by kernel_rfl) (by kernel_rfl) (by kernel_rfl) (by kernel_rfl) (by kernel_rfl) (fun _ _ _ h => h) (by kernel_rfl) (SM.of hS) ?_ ?_; rotate_left; (focus (intro w hSw; (try dsimp only at hSw); refine Pure.val ?_; go_simp; (try with_reducible rfl); done)); try simp only [Act.put, List.setIfInBounds_toArray, List.set_cons_zero, List.set_cons_succ])
  (refine Org.yes (v := ?_) rfl (by kernel_rfl) (by kernel_rfl) (by kernel_rfl) (by kernel_rfl) (by kernel_rfl) (fun _ _ _ h => h) (by kernel_rfl) (SM.of hS) ?_ ?_; rotate_left; (focus (intro w hSw; (try dsimp only at hSw); refine Pure.val ?_; go_simp; (try with_reducible rfl); done)); try simp only [Act.put, List.setIfInBounds_toArray, List.set_cons_zero, List.set_cons_succ])
  (refine Org.yes (v := ?_) rfl (by kernel_rfl) (by kernel_rfl) (by kernel_rfl) (by kernel_rfl) (by kernel_rfl) (fun _ _ _ h => h) (by kernel_rfl) (SM.of hS) ?_ ?_; rotate_left; (focus (intro w hSw; (try dsimp only at hSw); refine Pure.val ?_; go_simp; (try with_reducible rfl); done)); try simp only [Act.put, List.setIfInBounds_toArray, List.set_cons_zero, List.set_cons_succ])
  (refine Org.yes (v := ?_) rfl (by kernel_rfl) (by kernel_rfl) (by kernel_rfl) (by kernel_rfl) (by kernel_rfl) (fun _ _ _ h => h) (by kernel_rfl) (SM.of hS) ?_ ?_; rotate_left; (focus (intro w hSw; (try dsimp only at hSw); have qc4 := cell_keep hSw c4; refine Pure.val ?_; go_simp; (try with_reducible rfl); done)); try simp only [Act.put, List.setIfInBounds_toArray, List.set_cons_zero, List.set_cons_succ])
  (refine Org.yes (v := ?_) rfl (by kernel_rfl) (by kernel_rfl) (by kernel_rfl) (by kernel_rfl) (by kernel_rfl) (fun _ _ _ h => h) (by kernel_rfl) (SM.of hS) ?_ ?_; rotate_left; (focus (intro w hSw; (try dsimp only at hSw); refine Pure.val ?_; go_simp; (try with_reducible rfl); done)); try simp only [Act.put, List.setIfInBounds_toArray, List.set_cons_zero, List.set_cons_succ])
  (refine Org.yes (v := ?_) rfl (by kernel_rfl) (by kernel_rfl) (by kernel_rfl) (by kernel_rfl) (by kernel_rfl) (fun _ _ _ h => h) (by kernel_rfl) (SM.of hS) ?_ ?_; rotate_left; (focus (intro w hSw; (try dsimp only at hSw); refine Pure.val ?_; go_simp; (try with_reducible rfl); done)); try simp only [Act.put, List.setIfInBounds_toArray, List.set_cons_zero, List.set_cons_succ])
  (refine Org.yes (v := ?_) rfl (by kernel_rfl) (by kernel_rfl) (by kernel_rfl) (by kernel_rfl) (by kernel_rfl) (fun _ _ _ h => h) (by kernel_rfl) (SM.of hS) ?_ ?_; rotate_left; (focus (intro w hSw; (try dsimp only at hSw); refine Pure.val ?_; go_simp; (try with_reducible rfl); done)); try simp only [Act.put, List.setIfInBounds_toArray, List.set_cons_zero, List.set_cons_succ])
  (refine Org.yes (v := ?_) rfl (by kernel_rfl) (by kernel_rfl) (by kernel_rfl) (by kernel_rfl) (by kernel_rfl) (fun _ _ _ h => h) (by kernel_rfl) (SM.of hS) ?_ ?_; rotate_left; (focus (intro w hSw; (try dsimp only at hSw); have qc5 := cell_keep hSw c5; refine Pure.val ?_; go_simp; (try with_reducible rfl); done)); try simp only [Act.put, List.setIfInBounds_toArray, List.set_cons_zero, List.set_cons_succ])
  (refine Org.yes (v := ?_) rfl (by kernel_rfl) (by kernel_rfl) (by kernel_rfl) (by kernel_rfl) (by kernel_rfl) (fun _ _ _ h => h) (by kernel_rfl) (SM.of hS) ?_ ?_; rotate_left; (focus (intro w hSw; (try dsimp only at hSw); refine Pure.val ?_; go_simp; (try with_reducible rfl); done)); try simp only [Act.put, List.setIfInBounds_toArray, List.set_cons_zero, List.set_cons_succ])
  (refine Org.yes (v := ?_) rfl (by kernel_rfl) (by kernel_rfl) (by kernel_rfl) (by kernel_rfl) (by kernel_rfl) (fun _ _ _ h => h) (by kernel_rfl) (SM.of hS) ?_ ?_; rotate_left; (focus (intro w hSw; (try dsimp only at hSw); refine Pure.val ?_; go_simp; (try with_reducible rfl); done)); try simp only [Act.put, List.setIfInBounds_toArray, List.set_cons_zero, List.set_cons_succ])
  (refine Org.yes (v := ?_) rfl (by kernel_rfl) (by kernel_rfl) (by kernel_rfl) (by kernel_rfl) (by kernel_rfl) (fun _ _ _ h => h) (by kernel_rfl) (SM.of hS) ?_ ?_; rotate_left; (focus (intro w hSw; (try dsimp only at hSw); refine Pure.val ?_; go_simp; (try with_reducible rfl); done)); try simp only [Act.put, List.setIfInBounds_toArray, List.set_cons_zero, List.set_cons_succ])
  (refine Org.yes (v := ?_) rfl (by kernel_rfl) (by kernel_rfl) (by kernel_rfl) (by kernel_rfl) (by kernel_rfl) (fun _ _ _ h => h) (by kernel_rfl) (SM.of hS) ?_ ?_; rotate_left; (focus (intro w hSw; (try dsimp only at hSw); have qc6 := cell_keep hSw c6; refine Pure.val ?_; go_simp; (try with_reducible rfl); done)); try simp only [Act.put, List.setIfInBounds_toArray, List.set_cons_zero, List.set_cons_succ])
  refine Org.go rfl (by kernel_rfl) (by kernel_rfl) (fun K hK => ?_)
  go_simp
  go_at_call 38
  refine (down_any w.heap.size Al lvs d.L d.L.length cl _ (HRL.out.below hS) hS.size (by omega) HCL.out).mono ?_
  rintro e W1 ⟨A20, c20, vs20, rfl, ho20, hd20, hbk⟩
  have HO20 := hid ho20
  have HD20 := hid hd20
  have HBK20 := hid hbk
  have HLT20 := hid (show (∀ k, (Value.slice A20 d.L.length c20).ownBlock = some k → k < W1.heap.size) ∧ (∀ x ∈ vs20, ∀ k, x.ownBlock = some k → k < W1.heap.size) from ⟨fun k hk => (own_lt ho20.own k hk).2, fun x hx k hk => (ho20.lt x hx k hk).2⟩)
  have hS3 := hS.trans (hbk.mono hS.size)
  clear hbk ho20 hd20
  go_wp2_with fail
  refine hK.out _ _ hS3 (fun hS2 => ?_)
  clear hS3
  clear hK K hS
  have hS := hS2
  clear hS2
  try simp only [Act.put, List.setIfInBounds_toArray, List.set_cons_zero, List.set_cons_succ]
  refine Org.go rfl (by kernel_rfl) (by kernel_rfl) (fun K hK => ?_)
  go_simp
  go_at_call 38
  refine (down_any w.heap.size Ab bvs d.B d.B.length cb _ (HRB.out.below hS) hS.size (by omega) HCB.out).mono ?_
  rintro e W2 ⟨A29, c29, vs29, rfl, ho29, hd29, hbk⟩
  have HO29 := hid ho29
  have HD29 := hid hd29
  have HBK29 := hid hbk
  have HLT29 := hid (show (∀ k, (Value.slice A29 d.B.length c29).ownBlock = some k → k < W2.heap.size) ∧ (∀ x ∈ vs29, ∀ k, x.ownBlock = some k → k < W2.heap.size) from ⟨fun k hk => (own_lt ho29.own k hk).2, fun x hx k hk => (ho29.lt x hx k hk).2⟩)
  have HO20 := hid (HO20.out.below hbk)
  have hS3 := hS.trans (hbk.mono hS.size)
  clear hbk ho29 hd29
  go_wp2_with fail
  refine hK.out _ _ hS3 (fun hS2 => ?_)
  clear hS3
  clear hK K hS
  have hS := hS2
  clear hS2
  try simp only [Act.put, List.setIfInBounds_toArray, List.set_cons_zero, List.set_cons_succ]
  (refine Org.yes (v := ?_) rfl (by kernel_rfl) (by kernel_rfl) (by kernel_rfl) (by kernel_rfl) (by kernel_rfl) (fun _ _ _ h => h) (by kernel_rfl) (SM.of hS) ?_ ?_; rotate_left; (focus (intro w hSw; (try dsimp only at hSw); refine Pure.val ?_; go_simp; (try with_reducible rfl); done)); try simp only [Act.put, List.setIfInBounds_toArray, List.set_cons_zero, List.set_cons_succ])
  refine Org.go rfl (by kernel_rfl) (by kernel_rfl) (fun K hK => ?_)
  go_simp
  have HSW := hid hS
  refine hK.out _ _ (hS.alloc hS.size _) (fun hS2 => ?_)
  clear hK K hS
  have hS := hS2
  clear hS2
  try simp only [Act.put, List.setIfInBounds_toArray, List.set_cons_zero, List.set_cons_succ]
  (refine Org.yes (v := ?_) rfl (by kernel_rfl) (by kernel_rfl) (by kernel_rfl) (by kernel_rfl) (by kernel_rfl) (fun _ _ _ h => h) (by kernel_rfl) (SM.of hS) ?_ ?_; rotate_left; (focus (intro w hSw; (try dsimp only at hSw); refine Pure.val ?_; go_simp; (try with_reducible rfl); done)); try simp only [Act.put, List.setIfInBounds_toArray, List.set_cons_zero, List.set_cons_succ])
  refine Org.done (by kernel_rfl) ?_
  have hS9 : Below w.heap.size w _ := hS
  clear hS
  go_wp2_with fail
  go_ret
  have hW := HSW.out
  have hz1 := HBK20.out.size
  have hz2 := HBK29.out.size
  have hz0 := hW.size
  have hal : Below W2.heap.size W2 (W2.alloc (.cells #[.pointer (some ⟨pg2, 0, none⟩), .int .i64 d.room, .slice A20 d.L.length c20, .int .i64 d.wait, .slice A29 d.B.length c29, .bool d.has, .bool d.lost] 60)) := (Below.refl _ _).alloc (Nat.le_refl _) _
  have ho20 := HO20.out.below hal
  have ho29 := HO29.out.below hal
  refine ⟨W2.heap.size, rfl, hz0, ⟨_, vs20, _, vs29, Row.new W2 _ _, (HP.out.below hW HP.out.lt).alloc _, .inr ⟨hz0, by simp⟩, .inl rfl, fun k hk => ?_, Lst.of_own (w0 := w) (ho20.base (Nat.le_refl _)) (fun k h1 h2 => .inr ⟨h1, h2⟩), Lst.of_own (w0 := w) (ho29.base hz1) (fun k h1 h2 => .inr ⟨h1, h2⟩), fun k h1 h2 => ?_, ?_⟩, hS9⟩
  · rcases hk with rfl | hk
    · have := HP.out.lt
      simp
      omega
    · exact hk.2
  · have h4 := HLT20.out.1 k h1
    have h5 := (own_lt HO29.out.own k h2).1
    omega
  · exact (dist_fresh HO29.out HD29.out HD20.out HLT20.out.2).1
end Go.Proofs.Ytcklnkilldeamaa
