/- The walk of SeedApart. -/
import Derived.Test.YtceonkohidcdoaaWakes19
import Derived.Test.YtceonkohidcdoaaFrame
import Derived.Test.YtceonkohidcdoaaWithin
import Derived.Test.YtceonkohidcdoaaOrd2
import Derived.Test.YtceonkohidcdoaaOpApp
import Derived.Deep.DeepCutAuto
import Derived.ChangeKeysEq
import Derived.Laws.StructEq
import Derived.Deep.CutBlock
namespace Wells
open Go Go.RowKit
structure Tri where
  o : Int
  b : Int
  t : Int
deriving DecidableEq
def Tri.Ok (x : Tri) : Prop := 0 ≤ x.o ∧ x.o < 16777216 ∧ 0 ≤ x.b ∧ x.b < 8 ∧ 0 ≤ x.t ∧ x.t < 16
def Tri.seed (x : Tri) : Int := ((seedL x.o x.b x.t).toNat : Int)
theorem Tri.seed_eq {x : Tri} (h : x.Ok) : x.seed = 128 * x.o + 16 * x.b + x.t := by
  unfold Tri.seed
  rw [seed_val]
  obtain ⟨_, _, _, _, _, _⟩ := h
  omega
theorem Tri.inj {x y : Tri} (hx : x.Ok) (hy : y.Ok) : x.seed = y.seed ↔ x = y := by
  constructor
  · intro h
    rw [Tri.seed_eq hx, Tri.seed_eq hy] at h
    obtain ⟨_, _, _, _, _, _⟩ := hx
    obtain ⟨_, _, _, _, _, _⟩ := hy
    obtain ⟨a, b, c⟩ := x
    obtain ⟨a', b', c'⟩ := y
    dsimp only at *
    obtain rfl : a = a' := by omega
    obtain rfl : b = b' := by omega
    obtain rfl : c = c' := by omega
    rfl
  · rintro rfl; rfl
def Tri.cells (x : Tri) : List Value := [.int .i64 x.o, .int .i64 x.b, .int .i64 x.t]
def Tri.sv (x : Tri) : Value := .int .u32 x.seed
theorem tri_cells_len : ∀ ts : List Tri, (ts.flatMap Tri.cells).length = ts.length * 3
  | [] => rfl
  | t :: ts => by rw [List.flatMap_cons, List.length_append, tri_cells_len ts, List.length_cons]; show 3 + _ = _; omega
theorem tri_cells_at : ∀ (ts : List Tri) (i : Nat) (x : Tri), ts[i]? = some x → ∀ j, j < 3 → (ts.flatMap Tri.cells)[i * 3 + j]? = x.cells[j]?
  | t :: ts, 0, x, h, j, hj => by
    simp only [List.getElem?_cons_zero, Option.some.injEq] at h
    subst h
    rw [List.flatMap_cons, List.getElem?_append_left (by show _ < 3; omega), Nat.zero_mul, Nat.zero_add]
  | t :: ts, i + 1, x, h, j, hj => by
    rw [List.flatMap_cons, List.getElem?_append_right (by show 3 ≤ _; omega)]
    show (ts.flatMap Tri.cells)[(i + 1) * 3 + j - 3]? = _
    rw [show (i + 1) * 3 + j - 3 = i * 3 + j by omega]
    exact tri_cells_at ts i x (by simpa using h) j hj
  | [], _, _, h, _, _ => by simp at h
end Wells
namespace Go.Proofs.Ytceonkohidcdoaa
open Go.RowKit Wells
theorem infoU32 : (Try.prog.info? 56).map (fun i => (i.zero, i.size, i.bytes)) = some (some (.int .u32 0), 1, 4) := by kernel_rfl
theorem infoA3 : (Try.prog.info? 61).map (fun i => (i.zero, i.size, i.bytes)) = some (some (.agg #[.int .i64 0, .int .i64 0, .int .i64 0]), 3, 24) := by kernel_rfl
theorem infoI3 : (Try.prog.info? 3).isSome = true := by kernel_rfl
theorem run_eql_a3 (w : World) (a b c a' b' c' : Int) : (binOp .eql 61 (.agg #[.int .i64 a, .int .i64 b, .int .i64 c]) (.agg #[.int .i64 a', .int .i64 b', .int .i64 c'])).run Try.prog w = .ok (.bool (a == a' && (b == b' && c == c'))) w := by
  obtain ⟨i, hi⟩ := Option.isSome_iff_exists.1 infoI3
  have hc : Try.prog.cellsOf 3 = 1 := by kernel_rfl
  have hpk : Try.prog.plainKey 3 = true := by kernel_rfl
  rw [run_eql_struct, run_equalIn_array w 9999 _ _ Try.underlying61 hi, hc, show List.range 3 = [0, 1, 2] from rfl]
  have h1 := fun (x y : Int) => run_equalIn_int (P := Try.prog) w 9998 3 .i64 .i64 x y Try.underlying3
  have p0 := fun (x y z : Int) => run_part_plain (P := Try.prog) (w := w) hpk (xs := #[.int .i64 x, .int .i64 y, .int .i64 z]) (off := 0) (v := .int .i64 x) rfl
  have p1 := fun (x y z : Int) => run_part_plain (P := Try.prog) (w := w) hpk (xs := #[.int .i64 x, .int .i64 y, .int .i64 z]) (off := 1) (v := .int .i64 y) rfl
  have p2 := fun (x y z : Int) => run_part_plain (P := Try.prog) (w := w) hpk (xs := #[.int .i64 x, .int .i64 y, .int .i64 z]) (off := 2) (v := .int .i64 z) rfl
  simp only [Op.eqItems, Sem.run_bind, Nat.zero_mul, Nat.one_mul, Nat.reduceMul, p0, p1, p2, h1, Result.andThen_ok]
  cases hab : (a == a') <;> cases hbb : (b == b') <;> cases hcb : (c == c') <;> simp [p0, p1, p2, h1, hbb, hcb, Result.andThen]
theorem run_eql_tri (w : World) (y x : Tri) (r : Bool) (hr : decide (y = x) = r) : (binOp .eql 61 (.agg #[.int .i64 y.o, .int .i64 y.b, .int .i64 y.t]) (.agg #[.int .i64 x.o, .int .i64 x.b, .int .i64 x.t])).run Try.prog w = .ok (.bool r) w := by
  rw [run_eql_a3, ← hr]
  congr 2
  rw [Bool.eq_iff_iff]
  simp only [Bool.and_eq_true, beq_iff_eq, decide_eq_true_eq]
  constructor
  · rintro ⟨h1, h2, h3⟩
    obtain ⟨a, b, c⟩ := y
    obtain ⟨a', b', c'⟩ := x
    dsimp only at *
    rw [h1, h2, h3]
  · rintro rfl
    exact ⟨rfl, rfl, rfl⟩
theorem own_new {w0 w : World} (hb : Below w0.heap.size w0 w) (N : Nat) (hN : w.heap.size = N) (cs : List Value) (t : TypeId) (size n : Nat) (hl : cs.length = n * size) (hn : n ≤ maxLen) : (w.alloc (.cells cs.toArray t)).ownsRow w0.heap.size t size (.slice (some ⟨N, 0, none⟩) n n) n cs := by
  subst hN
  exact ⟨hl, .inr ⟨w.heap.size, n, cs.toArray, rfl, hb.size, heap_alloc_new w _, Nat.le_refl _, hn, by simpa using hl, by rw [← hl]; simp⟩⟩
theorem tri_ok {ts : List Tri} {x : Tri} (h : ∀ t ∈ ts, t.Ok) (hx : x.Ok) : ∀ t ∈ ts ++ [x], t.Ok := fun t ht => by
  rcases List.mem_append.1 ht with h1 | h1
  · exact h t h1
  · rw [List.mem_singleton.1 h1]; exact hx
/-- what stands at the head of a round: the seeds and what they were made of -/
structure SA (w0 wr : World) (vh vw : Value) (k : Nat) (ts : List Tri) : Prop where
  n : ts.length = k
  h : wr.ownsRow w0.heap.size 56 1 vh k (ts.map Tri.sv)
  x : wr.ownsRow w0.heap.size 61 3 vw k (ts.flatMap Tri.cells)
  ok : ∀ t ∈ ts, t.Ok
  be : Below w0.heap.size w0 wr
set_option maxRecDepth 20000 in
set_option maxHeartbeats 4000000 in
theorem walk_SeedApart (A : Option Addr) (n c : Nat) (l : List Int) (w : World) (h : IsInts w A n c l) :
    Calls Try.prog 8 #[.slice A n c] w fun e w' => e = .returned (.bool true) ∧ Below w.heap.size w w' := by
  obtain ⟨i0, hi, hz0, hz1, hz2⟩ := info_parts infoU32
  obtain ⟨i1, hi', hz0', hz1', hz2'⟩ := info_parts infoA3
  obtain ⟨hs, hle, hcap, hwf⟩ := h
  have hl : l.length = n := by have := hs.len; simpa using this
  have HL := hid hl
  have HWF := hid hwf
  clear hl hwf
  go_enter Try.func8, Try.ntmps8
  go_wp2_with fail
  go_loopw [4, 5, 6] (fun vh vw i wr => ∃ (k q : Nat) (ts : List Tri), k ≤ 10 ∧ 3 * k ≤ q ∧ q ≤ 3 * k ∧ i = .int .i64 (q : Int) ∧ SA w wr vh vw k ts) (fun _ _ i _ => 40 - (intOf i).toNat)
  case atStart => exact ⟨0, 0, [], by omega, by omega, by omega, rfl, ⟨rfl, World.ownsRow_nil _ _ _ _, World.ownsRow_nil _ _ _ _, (fun t ht => by cases ht), Below.refl _ _⟩⟩
  case round =>
    obtain ⟨k, q, ts, hk, hq1, hq2, rfl, hsa⟩ := hrel
    have hbe := hsa.be
    have hzr := hbe.size
    have hsr := hs.below hbe
    have HSA := hid hsa
    clear hsa
    by_cases hlt : q + 2 < n ∧ q < 30
    · obtain ⟨hlt, hk10⟩ := hlt
      obtain ⟨bl, ol, hA, hbl, c0⟩ := hsr.get (k := q) (by omega) (by rw [List.getElem?_map, List.getElem?_eq_getElem (show q < l.length by rw [HL.out]; omega)]; rfl)
      obtain ⟨bl1, ol1, hA1, _, c1⟩ := hsr.get (k := q + 1) (by omega) (by rw [List.getElem?_map, List.getElem?_eq_getElem (show q + 1 < l.length by rw [HL.out]; omega)]; rfl)
      obtain ⟨bl2, ol2, hA2, _, c2⟩ := hsr.get (k := q + 2) (by omega) (by rw [List.getElem?_map, List.getElem?_eq_getElem (show q + 2 < l.length by rw [HL.out]; omega)]; rfl)
      rw [hA] at hA1 hA2
      injection hA1 with hA1
      injection hA2 with hA2
      injection hA1 with hA1 hA1' _
      injection hA2 with hA2 hA2' _
      subst hA1 hA1' hA2 hA2' hA
      have hw0 := HWF.out _ (List.getElem_mem (show q < l.length by rw [HL.out]; omega))
      have hw1 := HWF.out _ (List.getElem_mem (show q + 1 < l.length by rw [HL.out]; omega))
      have hw2 := HWF.out _ (List.getElem_mem (show q + 2 < l.length by rw [HL.out]; omega))
      generalize l[q]'(by rw [HL.out]; omega) = z0 at *
      generalize l[q + 1]'(by rw [HL.out]; omega) = z1 at *
      generalize l[q + 2]'(by rw [HL.out]; omega) = z2 at *
      obtain ⟨x, hx0, hx1, hx2⟩ : ∃ x : Tri, z0 % 16777216 = x.o ∧ z1 % 8 = x.b ∧ z2 % 16 = x.t := ⟨⟨_, _, _⟩, rfl, rfl, rfl⟩
      have hxok : x.Ok := by unfold Tri.Ok; omega
      have X0 := hid hx0
      have X1 := hid hx1
      have X2 := hid hx2
      have XOK := hid hxok
      clear hx0 hx1 hx2 hxok
      have t1 : ((q : Int) + 1).toNat = q + 1 := by omega
      have t2 : ((q : Int) + 2).toNat = q + 2 := by omega
      have e1 : IntKind.i64.wrap ((q : Int) + 1) = (q : Int) + 1 := by rw [IntKind.wrap_i64]; omega
      have e2 : IntKind.i64.wrap ((q : Int) + 2) = (q : Int) + 2 := by rw [IntKind.wrap_i64]; omega
      have b0 : (0 : Int) ≤ (q : Int) := by omega
      have b1 : (0 : Int) ≤ (q : Int) + 1 := by omega
      have b2 : (0 : Int) ≤ (q : Int) + 2 := by omega
      have d0 : (q : Int) < (n : Int) := by omega
      have d1 : (q : Int) + 1 < (n : Int) := by omega
      have d2 : (q : Int) + 2 < (n : Int) := by omega
      go_wp2_with fail
      obtain ⟨Ah, ch, hvh, _, _, hsh⟩ := own_slice HSA.out.h
      obtain ⟨Aw, cw, hvw, _, _, hsw⟩ := own_slice HSA.out.x
      subst hvh hvw
      go_upto_region 7 with fail
      go_cut [7] (fun s7 wx => s7 = .pointer (some ⟨wr.heap.size, 0, none⟩) ∧ Row wx wr.heap.size 61 [.int .i64 x.o, .int .i64 x.b, .int .i64 x.t] ∧ Below wr.heap.size wr wx)
      case first =>
        go_region_held3 (fun w' => w'.cell? ⟨bl, ol + q, none⟩ = some (.int .i64 z0) ∧ w'.cell? ⟨bl, ol + (q + 1), none⟩ = some (.int .i64 z1) ∧ w'.cell? ⟨bl, ol + (q + 2), none⟩ = some (.int .i64 z2) ∧ Below wr.heap.size wr w')
          (first
            | exact H3.drew ⟨c0, c1, c2, Below.refl _ _⟩
            | exact H3.drew (H3.new ⟨c0, c1, c2, Below.refl _ _⟩ _)
            | exact H3.keep hbb (by assumption)
            | exact H3.draws (by assumption) _)
          (first
            | (go_at_call 22; (with_reducible show Calls _ _ #[.int .i64 z0, _] _ _); refine (within_any z0 16777216 _ (by omega) (by omega) (by omega) (by omega)).mono ?_; rintro e w' ⟨rfl, rfl⟩; rw [X0.out])
            | (go_at_call 22; (with_reducible show Calls _ _ #[.int .i64 z1, _] _ _); refine (within_any z1 8 _ (by omega) (by omega) (by omega) (by omega)).mono ?_; rintro e w' ⟨rfl, rfl⟩; rw [X1.out])
            | (go_at_call 22; (with_reducible show Calls _ _ #[.int .i64 z2, _] _ _); refine (within_any z2 16 _ (by omega) (by omega) (by omega) (by omega)).mono ?_; rintro e w' ⟨rfl, rfl⟩; rw [X2.out]))
        all_goals (go_wp2_with fail; go_meet; exact ⟨rfl, (Row.new wr 61 #[.int .i64 x.o, .int .i64 x.b, .int .i64 x.t]).drew, below_drewN ((Below.refl _ _).alloc (Nat.le_refl _) _) 1⟩)
      case rest =>
      obtain ⟨rfl, hr3, hb3⟩ := hcut
      obtain ⟨G, hG⟩ : ∃ G, wr.heap.size = G := ⟨_, rfl⟩
      have HG := hid hG
      have f0 := hr3.cell 0
      have f1 := hr3.cell 1
      have f2 := hr3.cell 2
      simp only [List.getElem?_cons_succ, List.getElem?_cons_zero] at f0 f1 f2
      have hsh3 := hsh.below hb3
      have hsw3 := hsw.below hb3
      rw [hG] at f0 f1 f2 hr3 hsh3 hsw3 ⊢
      have hb03 := hbe.trans (hb3.mono hzr)
      have hz3 := hb3.size
      have hsz : x.seed = ((seedL x.o x.b x.t).toNat : Int) := rfl
      have HSZ := hid hsz
      clear hsz hG c0 c1 c2 e1 e2 t1 t2 b0 b1 b2 d0 d1 d2 hsh hsw
      go_wp2_with fail
      refine (mseed_any x.o x.b x.t _).mono ?_
      rintro e w4 ⟨rfl, rfl⟩
      rw [← HSZ.out]
      go_wp2_with fail
      go_loopw [51] (fun i wx => ∃ j d : Nat, j ≤ k ∧ i = .int .i64 (j : Int) ∧ wx = wc.drewN d) (fun i _ => k - (intOf i).toNat)
      case atStart => exact ⟨0, 0, Nat.zero_le _, rfl, rfl⟩
      case round =>
        obtain ⟨j, d, hj, rfl, rfl⟩ := hrel
        by_cases hjk : j < k
        · have hjt : j < ts.length := by rw [HSA.out.n]; exact hjk
          obtain ⟨y, hy⟩ : ∃ y, ts[j]? = some y := ⟨_, List.getElem?_eq_getElem hjt⟩
          have hyok : y.Ok := HSA.out.ok _ (List.mem_of_getElem? hy)
          obtain ⟨bh, oh, hAh, _, ch0⟩ := hsh3.get hjk (by rw [List.getElem?_map, hy]; rfl)
          obtain ⟨bw, ow, hAw, _, hcw⟩ := hsw3.at_ (by omega)
          have g0 := hcw (j * 3) _ ((tri_cells_at ts j y hy 0 (by omega)).trans rfl)
          have g1 := hcw (j * 3 + 1) _ ((tri_cells_at ts j y hy 1 (by omega)).trans rfl)
          have g2 := hcw (j * 3 + 2) _ ((tri_cells_at ts j y hy 2 (by omega)).trans rfl)
          rw [← Nat.add_assoc] at g1 g2
          have hinj := Tri.inj hyok XOK.out
          unfold Tri.sv at ch0
          subst hAh hAw
          have j0 : (0 : Int) ≤ (j : Int) := by omega
          have j1 : (j : Int) < (k : Int) := by omega
          obtain ⟨r, hr⟩ : ∃ r, decide (y = x) = r := ⟨_, rfl⟩
          have q1 : (y.seed == x.seed) = r := by
            rw [← hr, Bool.eq_iff_iff]
            simp only [beq_iff_eq, decide_eq_true_eq]
            exact hinj
          have KEQ := fun w => run_eql_tri w y x r hr
          clear hinj hy hr
          go_wp2_with fail
          go_quiet (fail)
          go_wp2_with fail
          go_roundw
          case rel => exact ⟨j + 1, _, by omega, by go_num, rfl⟩
          case measure => simp [intOf]; omega
        · obtain rfl : k = j := by omega
          have HTL := hid HSA.out.n
          have HOK := hid HSA.out.ok
          have hgr : ∀ d, wr.grownBy ((wc.drewN d).drew) none := fun d => ⟨hb3.os, hb3.tape, hb3.output, hb3.size, fun g hg _ => hb3.block g hg⟩
          have HO := hid (HSA.out.h.kept (hgr d) (by cases (Value.slice Ah k ch).ownBlock <;> simp))
          have HW := hid (HSA.out.x.kept (hgr d) (by cases (Value.slice Aw k cw).ownBlock <;> simp))
          have HX := hid (show Row ((wc.drewN d).drew) G 61 [.int .i64 x.o, .int .i64 x.b, .int .i64 x.t] from hr3)
          have HB := hid (show Below w.heap.size w ((wc.drewN d).drew) from ⟨hb03.os, hb03.tape, hb03.output, hb03.size, hb03.block⟩)
          have HNO : Hid (some G ≠ (Value.slice Ah k ch).ownBlock) := hid (fun e => by
            have := (HSA.out.h.lt G e.symm).2
            have := HG.out
            omega)
          have HNW : Hid (some G ≠ (Value.slice Aw k cw).ownBlock) := hid (fun e => by
            have := (HSA.out.x.lt G e.symm).2
            have := HG.out
            omega)
          clear hgr HSA
          generalize wc.drewN d = w5 at *
          go_wp2_with fail
          refine Ord.begin (S := (fun w' => Row w' G 61 [.int .i64 x.o, .int .i64 x.b, .int .i64 x.t] ∧ Below w.heap.size w w')) [0, 1, 4, 5] (by kernel_rfl) (⟨HX.out, HB.out⟩) (fun hS => ?_)
          (refine Ord.yes (v := ?_) rfl (by kernel_rfl) (by kernel_rfl) (by kernel_rfl) (fun _ _ _ h => h) (by kernel_rfl) hS ?_ ?_; rotate_left; (focus (intro w hSw; (try dsimp only at hSw); go_simp; (try with_reducible rfl); done)); try simp only [Act.put, List.setIfInBounds_toArray, List.set_cons_zero, List.set_cons_succ])
          (refine Ord.yes (v := ?_) rfl (by kernel_rfl) (by kernel_rfl) (by kernel_rfl) (fun _ _ _ h => h) (by kernel_rfl) hS ?_ ?_; rotate_left; (focus (intro w hSw; (try dsimp only at hSw); go_simp; (try with_reducible rfl); done)); try simp only [Act.put, List.setIfInBounds_toArray, List.set_cons_zero, List.set_cons_succ])
          (refine Ord.yes (v := ?_) rfl (by kernel_rfl) (by kernel_rfl) (by kernel_rfl) (fun _ _ _ h => h) (by kernel_rfl) hS ?_ ?_; rotate_left; (focus (intro w hSw; (try dsimp only at hSw); go_simp; (try with_reducible rfl); done)); try simp only [Act.put, List.setIfInBounds_toArray, List.set_cons_zero, List.set_cons_succ])
          (refine Ord.yes (v := ?_) rfl (by kernel_rfl) (by kernel_rfl) (by kernel_rfl) (fun _ _ _ h => h) (by kernel_rfl) hS ?_ ?_; rotate_left; (focus (intro w hSw; have c0 := hSw.1.cell 0; have c1 := hSw.1.cell 1; have c2 := hSw.1.cell 2; simp only [List.getElem?_cons_succ, List.getElem?_cons_zero] at c0 c1 c2; go_simp; (try with_reducible rfl); done)); try simp only [Act.put, List.setIfInBounds_toArray, List.set_cons_zero, List.set_cons_succ])
          refine Ord.two (i := 2) (j := 6) [] [2, 3, 7, 8, 9] rfl rfl (by kernel_rfl) (by kernel_rfl) (by kernel_rfl) (fun K hK => ?_) (fun K hK => ?_)
          · skip
            go_simp
            have HP := hid (own_new HB.out (w5.heap.size) (by simp) [.int .u32 x.seed] 56 1 1 rfl (by decide))
            have HO := hid (HO.out.alloc (.cells #[.int .u32 x.seed] 56))
            have HW := hid (HW.out.alloc (.cells #[.int .u32 x.seed] 56))
            have HX := hid (HX.out.alloc (.cells #[.int .u32 x.seed] 56))
            have HB := hid (HB.out.alloc HB.out.size (.cells #[.int .u32 x.seed] 56))
            refine hK.out _ _ ⟨HX.out, HB.out⟩ (fun hS2 => ?_)
            clear hK K hS
            have hS := hS2
            clear hS2
            try simp only [Act.put, List.setIfInBounds_toArray, List.set_cons_zero, List.set_cons_succ]
            refine Ord.two (i := 3) (j := 6) [6, 7, 8, 9] [3, 7, 8, 9] rfl rfl (by kernel_rfl) (by kernel_rfl) (by kernel_rfl) (fun K hK => ?_) (fun K hK => ?_)
            · skip
              refine op_append (.tmp 68) (.tmp 70) 59 rfl w.heap.size 56 i0 (.int .u32 0) 1 4 Try.underlying59 hi hz0 hz1 hz2 rfl (by omega) (.slice Ah k ch) k _ rfl HO.out _ _ 1 1 _ rfl (Sl.own HP.out) (by simp [Value.oneCell']) (k + 1) rfl ((ts ++ [x]).map Tri.sv) (by rw [List.map_append]; rfl) (by omega) (by omega) HB.out.size ?_
              intro A71 c71 w71 o71 g71 _
              have HW := hid (HW.out.kept g71 (own_other HW.out HO.out (by decide)))
              have HX := hid (HX.out.grown g71 HNO.out)
              have HB := hid (below_own HB.out HO.out g71 (Nat.le_refl _) HB.out.size)
              have HO := hid o71
              clear o71 g71
              refine hK.out _ _ ⟨HX.out, HB.out⟩ (fun hS2 => ?_)
              clear hK K hS
              have hS := hS2
              clear hS2
              try simp only [Act.put, List.setIfInBounds_toArray, List.set_cons_zero, List.set_cons_succ]
              refine Ord.go rfl (by kernel_rfl) (by kernel_rfl) (fun K hK => ?_)
              go_simp
              have HR := hid (own_new HB.out (w71.heap.size) (by simp) [.int .i64 x.o, .int .i64 x.b, .int .i64 x.t] 61 3 1 rfl (by decide))
              have HO := hid (HO.out.alloc (.cells #[.int .i64 x.o, .int .i64 x.b, .int .i64 x.t] 61))
              have HW := hid (HW.out.alloc (.cells #[.int .i64 x.o, .int .i64 x.b, .int .i64 x.t] 61))
              have HX := hid (HX.out.alloc (.cells #[.int .i64 x.o, .int .i64 x.b, .int .i64 x.t] 61))
              have HB := hid (HB.out.alloc HB.out.size (.cells #[.int .i64 x.o, .int .i64 x.b, .int .i64 x.t] 61))
              refine hK.out _ _ ⟨HX.out, HB.out⟩ (fun hS2 => ?_)
              clear hK K hS
              have hS := hS2
              clear hS2
              try simp only [Act.put, List.setIfInBounds_toArray, List.set_cons_zero, List.set_cons_succ]
              refine Ord.go rfl (by kernel_rfl) (by kernel_rfl) (fun K hK => ?_)
              refine op_append (.tmp 72) (.tmp 74) 60 rfl w.heap.size 61 i1 (.agg #[.int .i64 0, .int .i64 0, .int .i64 0]) 3 24 Try.underlying60 hi' hz0' hz1' hz2' rfl (by omega) (.slice Aw k cw) k _ rfl HW.out _ _ 1 1 _ rfl (Sl.own HR.out) (by simp [Value.oneCell']) (k + 1) rfl ((ts ++ [x]).flatMap Tri.cells) (by rw [List.flatMap_append]; rfl) (by omega) (by omega) HB.out.size ?_
              intro A75 c75 w75 o75 g75 _
              have HO := hid (HO.out.kept g75 (own_other HO.out HW.out (by decide)))
              have HX := hid (HX.out.grown g75 HNW.out)
              have HB := hid (below_own HB.out HW.out g75 (Nat.le_refl _) HB.out.size)
              have HW := hid o75
              clear o75 g75
              refine hK.out _ _ ⟨HX.out, HB.out⟩ (fun hS2 => ?_)
              clear hK K hS
              have hS := hS2
              clear hS2
              try simp only [Act.put, List.setIfInBounds_toArray, List.set_cons_zero, List.set_cons_succ]
              (refine Ord.yes (v := ?_) rfl (by kernel_rfl) (by kernel_rfl) (by kernel_rfl) (fun _ _ _ h => h) (by kernel_rfl) hS ?_ ?_; rotate_left; (focus (intro w hSw; (try dsimp only at hSw); go_simp; (try with_reducible rfl); done)); try simp only [Act.put, List.setIfInBounds_toArray, List.set_cons_zero, List.set_cons_succ])
              (refine Ord.yes (v := ?_) rfl (by kernel_rfl) (by kernel_rfl) (by kernel_rfl) (fun _ _ _ h => h) (by kernel_rfl) hS ?_ ?_; rotate_left; (focus (intro w hSw; (try dsimp only at hSw); go_simp; (try with_reducible rfl); done)); try simp only [Act.put, List.setIfInBounds_toArray, List.set_cons_zero, List.set_cons_succ])
              refine Ord.done (by kernel_rfl) ?_
              have HOE := HO.out
              have HWE := HW.out
              have HBE := HB.out
              go_wp2_with fail
              go_roundw
              case rel => exact ⟨k + 1, q + 3, ts ++ [x], by omega, by omega, by omega, by go_num, by rw [List.length_append, HTL.out]; rfl, HOE, HWE, tri_ok HOK.out XOK.out, HBE⟩
              case measure => simp [intOf]; omega
            · skip
              go_simp
              have HR := hid (own_new HB.out (w5.heap.size + 1) (by simp) [.int .i64 x.o, .int .i64 x.b, .int .i64 x.t] 61 3 1 rfl (by decide))
              have HP := hid (HP.out.alloc (.cells #[.int .i64 x.o, .int .i64 x.b, .int .i64 x.t] 61))
              have HO := hid (HO.out.alloc (.cells #[.int .i64 x.o, .int .i64 x.b, .int .i64 x.t] 61))
              have HW := hid (HW.out.alloc (.cells #[.int .i64 x.o, .int .i64 x.b, .int .i64 x.t] 61))
              have HX := hid (HX.out.alloc (.cells #[.int .i64 x.o, .int .i64 x.b, .int .i64 x.t] 61))
              have HB := hid (HB.out.alloc HB.out.size (.cells #[.int .i64 x.o, .int .i64 x.b, .int .i64 x.t] 61))
              refine hK.out _ _ ⟨HX.out, HB.out⟩ (fun hS2 => ?_)
              clear hK K hS
              have hS := hS2
              clear hS2
              try simp only [Act.put, List.setIfInBounds_toArray, List.set_cons_zero, List.set_cons_succ]
              refine Ord.go rfl (by kernel_rfl) (by kernel_rfl) (fun K hK => ?_)
              refine op_append (.tmp 68) (.tmp 70) 59 rfl w.heap.size 56 i0 (.int .u32 0) 1 4 Try.underlying59 hi hz0 hz1 hz2 rfl (by omega) (.slice Ah k ch) k _ rfl HO.out _ _ 1 1 _ rfl (Sl.own HP.out) (by simp [Value.oneCell']) (k + 1) rfl ((ts ++ [x]).map Tri.sv) (by rw [List.map_append]; rfl) (by omega) (by omega) HB.out.size ?_
              intro A71 c71 w71 o71 g71 _
              have HW := hid (HW.out.kept g71 (own_other HW.out HO.out (by decide)))
              have HR := hid (HR.out.kept g71 (own_other HR.out HO.out (by decide)))
              have HX := hid (HX.out.grown g71 HNO.out)
              have HB := hid (below_own HB.out HO.out g71 (Nat.le_refl _) HB.out.size)
              have HO := hid o71
              clear o71 g71
              refine hK.out _ _ ⟨HX.out, HB.out⟩ (fun hS2 => ?_)
              clear hK K hS
              have hS := hS2
              clear hS2
              try simp only [Act.put, List.setIfInBounds_toArray, List.set_cons_zero, List.set_cons_succ]
              refine Ord.go rfl (by kernel_rfl) (by kernel_rfl) (fun K hK => ?_)
              refine op_append (.tmp 72) (.tmp 74) 60 rfl w.heap.size 61 i1 (.agg #[.int .i64 0, .int .i64 0, .int .i64 0]) 3 24 Try.underlying60 hi' hz0' hz1' hz2' rfl (by omega) (.slice Aw k cw) k _ rfl HW.out _ _ 1 1 _ rfl (Sl.own HR.out) (by simp [Value.oneCell']) (k + 1) rfl ((ts ++ [x]).flatMap Tri.cells) (by rw [List.flatMap_append]; rfl) (by omega) (by omega) HB.out.size ?_
              intro A75 c75 w75 o75 g75 _
              have HO := hid (HO.out.kept g75 (own_other HO.out HW.out (by decide)))
              have HX := hid (HX.out.grown g75 HNW.out)
              have HB := hid (below_own HB.out HW.out g75 (Nat.le_refl _) HB.out.size)
              have HW := hid o75
              clear o75 g75
              refine hK.out _ _ ⟨HX.out, HB.out⟩ (fun hS2 => ?_)
              clear hK K hS
              have hS := hS2
              clear hS2
              try simp only [Act.put, List.setIfInBounds_toArray, List.set_cons_zero, List.set_cons_succ]
              (refine Ord.yes (v := ?_) rfl (by kernel_rfl) (by kernel_rfl) (by kernel_rfl) (fun _ _ _ h => h) (by kernel_rfl) hS ?_ ?_; rotate_left; (focus (intro w hSw; (try dsimp only at hSw); go_simp; (try with_reducible rfl); done)); try simp only [Act.put, List.setIfInBounds_toArray, List.set_cons_zero, List.set_cons_succ])
              (refine Ord.yes (v := ?_) rfl (by kernel_rfl) (by kernel_rfl) (by kernel_rfl) (fun _ _ _ h => h) (by kernel_rfl) hS ?_ ?_; rotate_left; (focus (intro w hSw; (try dsimp only at hSw); go_simp; (try with_reducible rfl); done)); try simp only [Act.put, List.setIfInBounds_toArray, List.set_cons_zero, List.set_cons_succ])
              refine Ord.done (by kernel_rfl) ?_
              have HOE := HO.out
              have HWE := HW.out
              have HBE := HB.out
              go_wp2_with fail
              go_roundw
              case rel => exact ⟨k + 1, q + 3, ts ++ [x], by omega, by omega, by omega, by go_num, by rw [List.length_append, HTL.out]; rfl, HOE, HWE, tri_ok HOK.out XOK.out, HBE⟩
              case measure => simp [intOf]; omega
          · skip
            go_simp
            have HR := hid (own_new HB.out (w5.heap.size) (by simp) [.int .i64 x.o, .int .i64 x.b, .int .i64 x.t] 61 3 1 rfl (by decide))
            have HO := hid (HO.out.alloc (.cells #[.int .i64 x.o, .int .i64 x.b, .int .i64 x.t] 61))
            have HW := hid (HW.out.alloc (.cells #[.int .i64 x.o, .int .i64 x.b, .int .i64 x.t] 61))
            have HX := hid (HX.out.alloc (.cells #[.int .i64 x.o, .int .i64 x.b, .int .i64 x.t] 61))
            have HB := hid (HB.out.alloc HB.out.size (.cells #[.int .i64 x.o, .int .i64 x.b, .int .i64 x.t] 61))
            refine hK.out _ _ ⟨HX.out, HB.out⟩ (fun hS2 => ?_)
            clear hK K hS
            have hS := hS2
            clear hS2
            try simp only [Act.put, List.setIfInBounds_toArray, List.set_cons_zero, List.set_cons_succ]
            refine Ord.go rfl (by kernel_rfl) (by kernel_rfl) (fun K hK => ?_)
            go_simp
            have HP := hid (own_new HB.out (w5.heap.size + 1) (by simp) [.int .u32 x.seed] 56 1 1 rfl (by decide))
            have HR := hid (HR.out.alloc (.cells #[.int .u32 x.seed] 56))
            have HO := hid (HO.out.alloc (.cells #[.int .u32 x.seed] 56))
            have HW := hid (HW.out.alloc (.cells #[.int .u32 x.seed] 56))
            have HX := hid (HX.out.alloc (.cells #[.int .u32 x.seed] 56))
            have HB := hid (HB.out.alloc HB.out.size (.cells #[.int .u32 x.seed] 56))
            refine hK.out _ _ ⟨HX.out, HB.out⟩ (fun hS2 => ?_)
            clear hK K hS
            have hS := hS2
            clear hS2
            try simp only [Act.put, List.setIfInBounds_toArray, List.set_cons_zero, List.set_cons_succ]
            refine Ord.go rfl (by kernel_rfl) (by kernel_rfl) (fun K hK => ?_)
            refine op_append (.tmp 68) (.tmp 70) 59 rfl w.heap.size 56 i0 (.int .u32 0) 1 4 Try.underlying59 hi hz0 hz1 hz2 rfl (by omega) (.slice Ah k ch) k _ rfl HO.out _ _ 1 1 _ rfl (Sl.own HP.out) (by simp [Value.oneCell']) (k + 1) rfl ((ts ++ [x]).map Tri.sv) (by rw [List.map_append]; rfl) (by omega) (by omega) HB.out.size ?_
            intro A71 c71 w71 o71 g71 _
            have HW := hid (HW.out.kept g71 (own_other HW.out HO.out (by decide)))
            have HR := hid (HR.out.kept g71 (own_other HR.out HO.out (by decide)))
            have HX := hid (HX.out.grown g71 HNO.out)
            have HB := hid (below_own HB.out HO.out g71 (Nat.le_refl _) HB.out.size)
            have HO := hid o71
            clear o71 g71
            refine hK.out _ _ ⟨HX.out, HB.out⟩ (fun hS2 => ?_)
            clear hK K hS
            have hS := hS2
            clear hS2
            try simp only [Act.put, List.setIfInBounds_toArray, List.set_cons_zero, List.set_cons_succ]
            refine Ord.go rfl (by kernel_rfl) (by kernel_rfl) (fun K hK => ?_)
            refine op_append (.tmp 72) (.tmp 74) 60 rfl w.heap.size 61 i1 (.agg #[.int .i64 0, .int .i64 0, .int .i64 0]) 3 24 Try.underlying60 hi' hz0' hz1' hz2' rfl (by omega) (.slice Aw k cw) k _ rfl HW.out _ _ 1 1 _ rfl (Sl.own HR.out) (by simp [Value.oneCell']) (k + 1) rfl ((ts ++ [x]).flatMap Tri.cells) (by rw [List.flatMap_append]; rfl) (by omega) (by omega) HB.out.size ?_
            intro A75 c75 w75 o75 g75 _
            have HO := hid (HO.out.kept g75 (own_other HO.out HW.out (by decide)))
            have HX := hid (HX.out.grown g75 HNW.out)
            have HB := hid (below_own HB.out HW.out g75 (Nat.le_refl _) HB.out.size)
            have HW := hid o75
            clear o75 g75
            refine hK.out _ _ ⟨HX.out, HB.out⟩ (fun hS2 => ?_)
            clear hK K hS
            have hS := hS2
            clear hS2
            try simp only [Act.put, List.setIfInBounds_toArray, List.set_cons_zero, List.set_cons_succ]
            (refine Ord.yes (v := ?_) rfl (by kernel_rfl) (by kernel_rfl) (by kernel_rfl) (fun _ _ _ h => h) (by kernel_rfl) hS ?_ ?_; rotate_left; (focus (intro w hSw; (try dsimp only at hSw); go_simp; (try with_reducible rfl); done)); try simp only [Act.put, List.setIfInBounds_toArray, List.set_cons_zero, List.set_cons_succ])
            (refine Ord.yes (v := ?_) rfl (by kernel_rfl) (by kernel_rfl) (by kernel_rfl) (fun _ _ _ h => h) (by kernel_rfl) hS ?_ ?_; rotate_left; (focus (intro w hSw; (try dsimp only at hSw); go_simp; (try with_reducible rfl); done)); try simp only [Act.put, List.setIfInBounds_toArray, List.set_cons_zero, List.set_cons_succ])
            refine Ord.done (by kernel_rfl) ?_
            have HOE := HO.out
            have HWE := HW.out
            have HBE := HB.out
            go_wp2_with fail
            go_roundw
            case rel => exact ⟨k + 1, q + 3, ts ++ [x], by omega, by omega, by omega, by go_num, by rw [List.length_append, HTL.out]; rfl, HOE, HWE, tri_ok HOK.out XOK.out, HBE⟩
            case measure => simp [intOf]; omega
    · have hbe2 := HSA.out.be
      have hz2 := hbe2.size
      have hstop : ¬ ((q : Int) + 2 < (n : Int)) ∨ ((q : Int) + 2 < (n : Int) ∧ ¬ (q : Int) < 30) := by omega
      rcases hstop with h1 | ⟨h1, h2⟩
      all_goals
        go_wp2_with fail
        refine (wakes19 _).mono ?_
        rintro e w9 ⟨rfl, hb9⟩
        go_wp2_with fail
        go_ret
        exact ⟨rfl, hbe2.trans (hb9.mono hz2)⟩
end Go.Proofs.Ytceonkohidcdoaa
