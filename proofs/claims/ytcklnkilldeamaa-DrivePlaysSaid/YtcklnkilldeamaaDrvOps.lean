/- What is done to a drive: New, went, Sync, Append. -/
import Derived.Test.YtcklnkilldeamaaDrv
import Derived.Deep.RegionLaw
import Derived.Deep.AppendLies
import Derived.Deep.DeepCutAuto
namespace Go.Proofs.Ytcklnkilldeamaa
open Go.RowKit Wells
theorem row_ne {w : World} {g g' : Nat} {t t' : TypeId} {cs cs' : List Value} (h : Row w g t cs) (h' : Row w g' t' cs') (hne : t ≠ t') : g ≠ g' := fun e => by
  subst e
  unfold Row at h h'
  rw [h] at h'
  injection h' with h'
  injection h' with _ h' _
  exact hne h'
section
variable {F : Nat → Prop} {w : World} {g pg : Nat} {lv bv : Value} {lvs bvs : List Value} {d : Dr}
theorem Drv.ne (h : Drv F w g pg lv lvs bv bvs d) : g ≠ pg := row_ne h.row h.pow (by decide)
theorem Drv.setL (h : Drv F w g pg lv lvs bv bvs d) {lv' : Value} {lvs' : List Value} {L' : List (List Byte)} (hl : Lst F w lv' lvs' L') (hs : ∀ k, lv'.ownBlock = some k → bv.ownBlock ≠ some k) (hd : Dist (lvs' ++ bvs)) :
    Drv F (w.setCell ⟨g, 2, none⟩ lv') g pg lv' lvs' bv bvs { d with L := L' } :=
  ⟨h.row.set 2 lv', h.pow.far (Ne.symm h.ne) _, h.fg, h.fp, fun k hk => by simpa [World.setCell] using h.lt k hk, hl.far h.row (by decide) (by decide) _ _, h.b.far h.row (by decide) (by decide) _ _, hs, hd⟩
theorem Drv.setWait (h : Drv F w g pg lv lvs bv bvs d) (n : Nat) : Drv F (w.setCell ⟨g, 3, none⟩ (.int .i64 n)) g pg lv lvs bv bvs { d with wait := n } :=
  ⟨h.row.set 3 _, h.pow.far (Ne.symm h.ne) _, h.fg, h.fp, fun k hk => by simpa [World.setCell] using h.lt k hk, h.l.far h.row (by decide) (by decide) _ _, h.b.far h.row (by decide) (by decide) _ _, h.sep, h.dist⟩
theorem Drv.setB (h : Drv F w g pg lv lvs bv bvs d) {bv' : Value} {bvs' : List Value} {B' : List (List Byte)} (hl : Lst F w bv' bvs' B') (hs : ∀ k, lv.ownBlock = some k → bv'.ownBlock ≠ some k) (hd : Dist (lvs ++ bvs')) :
    Drv F (w.setCell ⟨g, 4, none⟩ bv') g pg lv lvs bv' bvs' { d with B := B' } :=
  ⟨h.row.set 4 bv', h.pow.far (Ne.symm h.ne) _, h.fg, h.fp, fun k hk => by simpa [World.setCell] using h.lt k hk, h.l.far h.row (by decide) (by decide) _ _, hl.far h.row (by decide) (by decide) _ _, hs, hd⟩
theorem Drv.setHas (h : Drv F w g pg lv lvs bv bvs d) (b : Bool) : Drv F (w.setCell ⟨g, 5, none⟩ (.bool b)) g pg lv lvs bv bvs { d with has := b } :=
  ⟨h.row.set 5 _, h.pow.far (Ne.symm h.ne) _, h.fg, h.fp, fun k hk => by simpa [World.setCell] using h.lt k hk, h.l.far h.row (by decide) (by decide) _ _, h.b.far h.row (by decide) (by decide) _ _, h.sep, h.dist⟩
theorem Drv.setLost (h : Drv F w g pg lv lvs bv bvs d) (b : Bool) : Drv F (w.setCell ⟨g, 6, none⟩ (.bool b)) g pg lv lvs bv bvs { d with lost := b } :=
  ⟨h.row.set 6 _, h.pow.far (Ne.symm h.ne) _, h.fg, h.fp, fun k hk => by simpa [World.setCell] using h.lt k hk, h.l.far h.row (by decide) (by decide) _ _, h.b.far h.row (by decide) (by decide) _ _, h.sep, h.dist⟩
theorem dist_left {a b : List Value} (h : Dist (a ++ b)) : Dist a := (List.pairwise_append.1 h).1
theorem Drv.noB (h : Drv F w g pg lv lvs bv bvs d) : Drv F (w.setCell ⟨g, 4, none⟩ (.slice none 0 0)) g pg lv lvs (.slice none 0 0) [] { d with B := [] } :=
  h.setB (Lst.nil_ F w) (fun k _ e => by cases e) (by rw [List.append_nil]; exact dist_left h.dist)
theorem Drv.went (h : Drv F w g pg lv lvs bv bvs d) : Drv F ((w.setCell ⟨g, 4, none⟩ (.slice none 0 0)).setCell ⟨g, 5, none⟩ (.bool false)) g pg lv lvs (.slice none 0 0) [] d.went := h.noB.setHas false
theorem Drv.power (h : Drv F w g pg lv lvs bv bvs d) {w' : World} {s' : Pw} (hr : Row w' pg 58 (pw s')) (hg : w.grownBy w' (some pg)) : Drv F w' g pg lv lvs bv bvs { d with s := s' } := by
  have ho : Only (fun k => k = pg) w w' := Only.of_grown hg (fun k e => by injection e with e; exact e.symm)
  have fl : ∀ {v : Value} {vs : List Value} {ls : List (List Byte)}, Lst F w v vs ls → Lst F w' v vs ls := fun hl =>
    ⟨hl.own.only ho (fun k hk e => own_row_ne hl.own.own h.pow (by decide) k hk e) (fun y hy k hk e => by
      have hll := hl.len
      obtain ⟨j, hj, rfl⟩ := List.getElem_of_mem hy
      have := hl.own.at_ j (by omega)
      rw [List.getD_eq_getElem?_getD, List.getElem?_eq_getElem hj] at this
      exact own_row_ne this h.pow (by decide) k hk e), hl.iv, hl.is⟩
  exact ⟨h.row.only ho h.ne, hr, h.fg, h.fp, fun k hk => Nat.lt_of_lt_of_le (h.lt k hk) hg.size, fl h.l, fl h.b, h.sep, h.dist⟩
end
theorem dnew_any (n pg : Nat) (s : Pw) (w : World) (hn : 1 ≤ n) (hn2 : n ≤ 512) (hp : Row w pg 58 (pw s)) :
    Calls Try.prog 9 #[.int .i64 n, .pointer (some ⟨pg, 0, none⟩)] w fun e w' => ∃ g, e = .returned (.pointer (some ⟨g, 0, none⟩)) ∧ w.heap.size ≤ g ∧ DrvE (fun k => k = g ∨ k = pg) w' g pg (Dr.new s n) ∧ Below w.heap.size w w' := by
  have hr := Row.new w 60 #[.pointer (some ⟨pg, 0, none⟩), .int .i64 n, .slice none 0 0, .int .i64 0, .slice none 0 0, .bool false, .bool false]
  have hpl := hp.lt
  go_enter Try.func9, Try.ntmps9
  go_wp2_with fail
  go_ret
  refine ⟨w.heap.size, rfl, Nat.le_refl _, ⟨.slice none 0 0, [], .slice none 0 0, [], hr, hp.alloc _, .inl rfl, .inr rfl, fun k hk => ?_, Lst.nil_ _ _, Lst.nil_ _ _, fun k e => (by cases e), List.Pairwise.nil⟩, (Below.refl _ _).alloc (Nat.le_refl _) _⟩
  rcases hk with rfl | rfl <;> simp <;> omega
theorem dwent_any (F : Nat → Prop) (g pg : Nat) (d : Dr) (w : World) (h : DrvE F w g pg d) : Calls Try.prog 36 #[.pointer (some ⟨g, 0, none⟩)] w fun e w' => e = .returned (.int .i64 0) ∧ DrvE F w' g pg d.went ∧ Only F w w' := by
  obtain ⟨lv, lvs, bv, bvs, h⟩ := h
  have c4 := h.row.cell 4
  have c5 := h.row.cell 5
  have f4 := h.row.frozen 4
  have f5 := h.row.frozen 5
  have e4 : (drRow pg d lv bv)[4]? = some bv := rfl
  have e5 : (drRow pg d lv bv)[5]? = some (.bool d.has) := rfl
  rw [e4] at c4
  rw [e5] at c5
  clear e4 e5
  have hw := h.went
  have ho : Only F w ((w.setCell ⟨g, 4, none⟩ (.slice none 0 0)).setCell ⟨g, 5, none⟩ (.bool false)) := ((Only.refl F w).set h.fg 4 _).set h.fg 5 _
  go_enter Try.func36, Try.ntmps36
  go_wp2_with fail
  go_ret
  exact ⟨rfl, ⟨_, _, _, _, hw⟩, ho⟩
end Go.Proofs.Ytcklnkilldeamaa
