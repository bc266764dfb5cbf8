/- Crash. -/
import Derived.Test.YtcklnkilldeamaaDrvTorn
namespace Go.Proofs.Ytcklnkilldeamaa
open Go.RowKit Wells
set_option maxRecDepth 20000 in
set_option maxHeartbeats 4000000 in
theorem dcrash_any (F : Nat → Prop) (g pg : Nat) (d : Dr) (m : Nat) (keep torn : Int) (w : World) (h : DrvE F w g pg d) (hok : DOk m d) (hk : -9223372036854775808 ≤ keep ∧ keep ≤ 9223372036854775807) (ht : -9223372036854775808 ≤ torn ∧ torn ≤ 9223372036854775807) :
    Calls Try.prog 15 #[.pointer (some ⟨g, 0, none⟩), .int .i64 keep, .int .i64 torn] w fun e w' => e = .returned (.tuple #[]) ∧ DrvE (Ext F w w') w' g pg (d.crash keep torn) ∧ Only F w w' := by
  obtain ⟨lv, lvs, bv, bvs, h⟩ := h
  obtain ⟨Al, cl, rfl, hcl1, hcl2⟩ := h.l.own.form
  obtain ⟨nl, hnl⟩ : ∃ k, d.L.length = k := ⟨_, rfl⟩
  rw [hnl] at h hcl1
  have HNL := hid hnl
  have hlen := hok.len
  have hroom := hok.room
  have hwait := hok.wait
  rw [hnl] at hlen hwait
  clear hnl
  obtain ⟨S, hS⟩ : ∃ S, d.fallen keep torn = S := ⟨_, rfl⟩
  have hcr : d.crash keep torn = { d with L := S, wait := 0, B := [], has := false } := by unfold Dr.crash; rw [hS]
  rw [hcr]
  have HS := hid hS
  clear hS hcr
  obtain ⟨Ab, cb, rfl, _, _⟩ := h.b.own.form
  obtain ⟨nb, hnb⟩ : ∃ k, d.B.length = k := ⟨_, rfl⟩
  rw [hnb] at h
  have HNB := hid hnb
  clear hnb
  have c2 := h.row.cell 2
  have c3 := h.row.cell 3
  have c4 := h.row.cell 4
  have c5 := h.row.cell 5
  have e2 : (drRow pg d (.slice Al nl cl) (.slice Ab nb cb))[2]? = some (.slice Al nl cl) := rfl
  have e3 : (drRow pg d (.slice Al nl cl) (.slice Ab nb cb))[3]? = some (.int .i64 (d.wait : Int)) := rfl
  have e4 : (drRow pg d (.slice Al nl cl) (.slice Ab nb cb))[4]? = some (.slice Ab nb cb) := rfl
  have e5 : (drRow pg d (.slice Al nl cl) (.slice Ab nb cb))[5]? = some (.bool d.has) := rfl
  rw [e2] at c2
  rw [e3] at c3
  rw [e4] at c4
  rw [e5] at c5
  clear e2 e3 e4 e5
  have f2 := h.row.frozen 2
  have f3 := h.row.frozen 3
  have f4 := h.row.frozen 4
  have f5 := h.row.frozen 5
  have hw1 : (d.wait : Int) ≤ (nl : Int) := by omega
  have hsub : IntKind.i64.wrap ((nl : Int) - (d.wait : Int)) = (nl : Int) - (d.wait : Int) := by rw [IntKind.wrap_i64]; omega
  cases hha : d.has with
  | true =>
    rw [hha] at c5
    have HHA := hid hha
    clear hha
    have HH := hid h
    by_cases hk0 : 0 < keep
    · have hs : S = d.B := by rw [← HS.out]; unfold Dr.fallen; rw [if_pos HHA.out, if_pos hk0]
      subst hs
      go_enter Try.func15, Try.ntmps15
      go_wp2_with fail
      go_region_held3 (fun w' => w'.cell? ⟨g, 2, none⟩ = some (.slice Al nl cl) ∧ w'.cell? ⟨g, 3, none⟩ = some (.int .i64 (d.wait : Int))) (first | exact ⟨c2, c3⟩ | assumption) (fail)
      go_wp2_with fail
      go_end0
      exact ⟨rfl, crash_out (crash_end h.row h.pow h.fg h.fp h.lt h.b (dist_right h.dist)) h.lt, ((((Only.refl F w).set h.fg 2 _).set h.fg 3 _).set h.fg 4 _).set h.fg 5 _ |>.drew⟩
    · have hs : S = d.L.take (nl - d.wait) := by rw [← HS.out]; unfold Dr.fallen; rw [if_pos HHA.out, if_neg hk0, HNL.out]
      subst hs
      obtain ⟨fi, hfi⟩ : ∃ k : Nat, nl - d.wait = k := ⟨_, rfl⟩
      rw [hfi]
      have hfi2 : (nl : Int) - (d.wait : Int) = (fi : Int) := by omega
      have hfn : fi ≤ nl := by omega
      have hfc : (fi : Int) ≤ (cl : Int) := by omega
      have HNL2 := h.l.take_ HNL.out hfn
      have hdt := dist_take h.dist fi
      rw [hfi2] at hsub
      clear hfi
      go_enter Try.func15, Try.ntmps15
      go_wp2_with fail
      go_region_held3 (fun w' => w'.cell? ⟨g, 2, none⟩ = some (.slice Al nl cl) ∧ w'.cell? ⟨g, 3, none⟩ = some (.int .i64 (d.wait : Int))) (first | exact ⟨c2, c3⟩ | assumption) (fail)
      go_wp2_with fail
      go_end0
      exact ⟨rfl, crash_out (crash_end h.row h.pow h.fg h.fp h.lt HNL2 hdt) h.lt, ((((Only.refl F w).set h.fg 2 _).set h.fg 3 _).set h.fg 4 _).set h.fg 5 _ |>.drew⟩
  | false =>
    rw [hha] at c5
    have HHA := hid hha
    clear hha
    obtain ⟨kk, hkk⟩ : ∃ k : Nat, min keep.toNat d.wait = k := ⟨_, rfl⟩
    have hmin : min (max keep 0) (d.wait : Int) = (kk : Int) := by omega
    have hkw : kk ≤ d.wait := by omega
    obtain ⟨st, hst⟩ : ∃ k : Nat, nl - d.wait + kk = k := ⟨_, rfl⟩
    have hstn : st ≤ nl := by omega
    have hadd : (nl : Int) - (d.wait : Int) + (kk : Int) = (st : Int) := by omega
    have hwr : IntKind.i64.wrap ((nl : Int) - (d.wait : Int) + (kk : Int)) = (st : Int) := by rw [IntKind.wrap_i64]; omega
    have hfc : (st : Int) ≤ (cl : Int) := by omega
    have HF := hid (show S = if kk < d.wait ∧ 0 < torn then d.L.take st ++ [tornL (d.L.getD st []) torn] else d.L.take st by
      rw [← HS.out]; unfold Dr.fallen; rw [if_neg (by rw [HHA.out]; simp), HNL.out, hkk, hst])
    have HKK := hid hkk
    have HST := hid hst
    clear hkk hst
    by_cases hB : kk < d.wait ∧ 0 < torn
    · have hs : S = d.L.take st ++ [tornL (d.L.getD st []) torn] := by rw [HF.out, if_pos hB]
      subst hs
      exact dcrash_torn F g pg d keep torn w Al nl cl Ab nb cb lvs bvs kk st h HNL.out (by omega) hcl1 hcl2 hok.cells HHA.out hwait HKK.out HST.out hk ht hB.1 hB.2
    · have hs : S = d.L.take st := by rw [HF.out, if_neg hB]
      subst hs
      have HNL2 := h.l.take_ HNL.out hstn
      have hdt := dist_take h.dist st
      have hcase : ¬ ((kk : Int) < (d.wait : Int)) ∨ ((kk : Int) < (d.wait : Int) ∧ ¬ 0 < torn) := by omega
      have hkc : (keep < 0 ∧ kk = 0) ∨ (0 ≤ keep ∧ keep = (kk : Int) ∧ kk ≤ d.wait) ∨ (0 < keep ∧ (d.wait : Int) < keep ∧ kk = d.wait) := by omega
      have HD := h
      clear h
      rcases hcase with hc | ⟨hc, hc'⟩
      · rcases hkc with ⟨k1, k2⟩ | ⟨k1, k2, k3⟩ | ⟨k1, k2, k3⟩
        · subst k2
          obtain rfl : st = nl - d.wait := by have := HST.out; omega
          have hc2 : ¬ (0 : Int) < (d.wait : Int) := by omega
          have hc3 : ¬ 0 < d.wait := by omega
          go_enter Try.func15, Try.ntmps15
          go_wp2_with fail
          go_region_held3 (fun w' => w'.cell? ⟨g, 2, none⟩ = some (.slice Al nl cl) ∧ w'.cell? ⟨g, 3, none⟩ = some (.int .i64 (d.wait : Int))) (first | exact ⟨c2, c3⟩ | assumption) (fail)
          go_wp2_with fail
          go_end0
          exact ⟨rfl, crash_out (crash_end HD.row HD.pow HD.fg HD.fp HD.lt HNL2 hdt) HD.lt, ((((Only.refl F w).set HD.fg 2 _).set HD.fg 3 _).set HD.fg 4 _).set HD.fg 5 _ |>.drew⟩
        · skip
          go_enter Try.func15, Try.ntmps15
          go_wp2_with fail
          go_region_held3 (fun w' => w'.cell? ⟨g, 2, none⟩ = some (.slice Al nl cl) ∧ w'.cell? ⟨g, 3, none⟩ = some (.int .i64 (d.wait : Int))) (first | exact ⟨c2, c3⟩ | assumption) (fail)
          go_wp2_with fail
          go_end0
          exact ⟨rfl, crash_out (crash_end HD.row HD.pow HD.fg HD.fp HD.lt HNL2 hdt) HD.lt, ((((Only.refl F w).set HD.fg 2 _).set HD.fg 3 _).set HD.fg 4 _).set HD.fg 5 _ |>.drew⟩
        · have hsn : nl = st := by have := HST.out; omega
          subst hsn
          go_enter Try.func15, Try.ntmps15
          go_wp2_with fail
          go_region_held3 (fun w' => w'.cell? ⟨g, 2, none⟩ = some (.slice Al nl cl) ∧ w'.cell? ⟨g, 3, none⟩ = some (.int .i64 (d.wait : Int))) (first | exact ⟨c2, c3⟩ | assumption) (fail)
          go_wp2_with fail
          go_end0
          exact ⟨rfl, crash_out (crash_end HD.row HD.pow HD.fg HD.fp HD.lt HNL2 hdt) HD.lt, ((((Only.refl F w).set HD.fg 2 _).set HD.fg 3 _).set HD.fg 4 _).set HD.fg 5 _ |>.drew⟩
      · rcases hkc with ⟨k1, k2⟩ | ⟨k1, k2, k3⟩ | ⟨k1, k2, k3⟩
        · subst k2
          obtain rfl : st = nl - d.wait := by have := HST.out; omega
          have hc2 : (0 : Int) < (d.wait : Int) := by omega
          have hc3 : 0 < d.wait := by omega
          go_enter Try.func15, Try.ntmps15
          go_wp2_with fail
          go_region_held3 (fun w' => w'.cell? ⟨g, 2, none⟩ = some (.slice Al nl cl) ∧ w'.cell? ⟨g, 3, none⟩ = some (.int .i64 (d.wait : Int))) (first | exact ⟨c2, c3⟩ | assumption) (fail)
          go_wp2_with fail
          go_end0
          exact ⟨rfl, crash_out (crash_end HD.row HD.pow HD.fg HD.fp HD.lt HNL2 hdt) HD.lt, ((((Only.refl F w).set HD.fg 2 _).set HD.fg 3 _).set HD.fg 4 _).set HD.fg 5 _ |>.drew⟩
        · skip
          go_enter Try.func15, Try.ntmps15
          go_wp2_with fail
          go_region_held3 (fun w' => w'.cell? ⟨g, 2, none⟩ = some (.slice Al nl cl) ∧ w'.cell? ⟨g, 3, none⟩ = some (.int .i64 (d.wait : Int))) (first | exact ⟨c2, c3⟩ | assumption) (fail)
          go_wp2_with fail
          go_end0
          exact ⟨rfl, crash_out (crash_end HD.row HD.pow HD.fg HD.fp HD.lt HNL2 hdt) HD.lt, ((((Only.refl F w).set HD.fg 2 _).set HD.fg 3 _).set HD.fg 4 _).set HD.fg 5 _ |>.drew⟩
        · exfalso; omega
end Go.Proofs.Ytcklnkilldeamaa
