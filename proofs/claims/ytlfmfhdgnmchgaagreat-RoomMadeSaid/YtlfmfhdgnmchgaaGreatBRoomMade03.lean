/- Chunk PackMath OpApp RefCount Reader -/
import Derived.Deep.QuietTactic
import Derived.BigQuiet
import Derived.Lib.AppendStr
import Derived.Deep.AppendSrc
import Derived.Deep.DeepCutAuto
import Derived.BigGuardPart
import Derived.Test.YtlfmfhdgnmchgaaGreatBRoomMade00
import Derived.Test.YtlfmfhdgnmchgaaGreatBRoomMade01
import Derived.Test.YtlfmfhdgnmchgaaGreatBRoomMade02
set_option maxRecDepth 20000
set_option linter.unusedSimpArgs false
set_option linter.unusedVariables false
namespace Go.Proofs.YtlfmfhdgnmchgaaGreat
open Go.RowKit Wells
theorem size_any (p : Par) (r : Int) (w : World) (h : p.Ok) (hr : p.size = r) : Calls Tryz.prog 118 #[p.val] w fun e w' => e = .returned (.int .i64 r) ∧ Below w.heap.size w w' := by
  subst hr
  have hb := Par.size_le h
  obtain ⟨h1, h2, _, _, h5, h6⟩ := h
  obtain ⟨K, H, S⟩ := p
  unfold Par.val Par.size at *
  dsimp only at *
  go_enter Tryz.func118, Tryz.ntmps118
  go_wp2
  go_ret
  exact ⟨rfl, (Below.refl _ _).alloc (Nat.le_refl _) _⟩
theorem count_any (p : Par) (n m : Int) (w : World) (hn : -9223372036854775808 ≤ n ∧ n ≤ 9223372036854775807) (hm : countP p n = m) : Calls Tryz.prog 110 #[p.val, .int .i64 n] w fun e w' => e = .returned (.int .i64 m) ∧ Below w.heap.size w w' := by
  have HM := hid hm
  clear hm
  by_cases h1 : p.may = true
  · have hok := Par.may_ok h1
    have hsz := Par.size_le hok
    by_cases h2 : 0 < n
    · have hz : countP p n = (n - 1) / p.size + 1 := countP_yes h1 h2
      have hq0 : 0 ≤ (n - 1) / p.size := Int.ediv_nonneg (by omega) (by omega)
      have hq1 : (n - 1) / p.size ≤ n - 1 := Int.ediv_le_self _ (by omega)
      obtain ⟨K, H, S⟩ := p
      have HZ := hid hz
      have H1 := hid h1
      have HO := hid hok
      clear hz h1 hok
      generalize hsv : Par.size ⟨K, H, S⟩ = sv at *
      have HSV := hid hsv
      clear hsv
      unfold Par.val at *
      go_enter Tryz.func110, Tryz.ntmps110
      go_wp2_with fail
      refine (premay_any ⟨K, H, S⟩ true _ H1.out).mono ?_
      rintro e w1 ⟨rfl, hb⟩
      have hc : ∀ o, o < 3 → w1.cell? ⟨w.heap.size, o, none⟩ = (w.alloc (.cells #[.int .i64 K, .int .i64 H, .int .i64 S] 24)).cell? ⟨w.heap.size, o, none⟩ := fun o _ => hb.cell (p := ⟨w.heap.size, o, none⟩) (by simp)
      have hb' : Below w.heap.size w w1 := ((Below.refl _ _).alloc (Nat.le_refl _) _).trans (hb.mono (by simp))
      have hc0 := hc 0 (by omega)
      have hc1 := hc 1 (by omega)
      have hc2 := hc 2 (by omega)
      clear hc
      go_wp2_with fail
      refine (size_any ⟨K, H, S⟩ sv _ HO.out HSV.out).mono ?_
      rintro e w2 ⟨rfl, hb2⟩
      go_wp2
      go_ret
      exact ⟨ret_int (HZ.out.symm.trans HM.out), hb'.trans (hb2.mono hb'.size)⟩
    · have hz : countP p n = 0 := countP_no (fun h => h2 h.2)
      obtain ⟨K, H, S⟩ := p
      have HZ := hid hz
      have H1 := hid h1
      clear hz h1 hok hsz
      unfold Par.val at *
      go_enter Tryz.func110, Tryz.ntmps110
      go_wp2_with fail
      refine (premay_any ⟨K, H, S⟩ true _ H1.out).mono ?_
      rintro e w1 ⟨rfl, hb⟩
      go_wp2
      go_ret
      exact ⟨ret_int (HZ.out.symm.trans HM.out), ((Below.refl _ _).alloc (Nat.le_refl _) _).trans (hb.mono (by simp))⟩
  · have h1' : p.may = false := by simpa using h1
    have hz : countP p n = 0 := countP_no (fun h => h1 h.1)
    obtain ⟨K, H, S⟩ := p
    unfold Par.val at *
    go_enter Tryz.func110, Tryz.ntmps110
    go_wp2_with fail
    refine (premay_any ⟨K, H, S⟩ false _ h1').mono ?_
    rintro e w1 ⟨rfl, hb⟩
    go_wp2
    go_ret
    exact ⟨ret_int (hz.symm.trans HM.out), ((Below.refl _ _).alloc (Nat.le_refl _) _).trans (hb.mono (by simp))⟩
end Go.Proofs.YtlfmfhdgnmchgaaGreat

namespace Wells
open Go Go.RowKit
def b8 (z : Int) : Byte := hiB z 0
theorem b8_val {z : Int} (h : 0 ≤ z ∧ z ≤ 255) : bv8 (b8 z) = .int .u8 z := by
  unfold bv8 b8
  rw [hiB_toNat]
  congr 1
  simp
  omega
def packE (e : Ent) : BL := [b8 e.name.length] ++ e.name ++ highL 3 e.obj ++ highL 2 e.len ++ e.tries.map b8
def packH (m : Mani) : BL := highL 4 m.seq ++ highL 4 m.next ++ [b8 m.P.K, b8 m.P.H, b8 m.P.S, b8 m.extra, b8 m.drives.length]
def packL (m : Mani) : BL := packH m ++ m.drives.map b8 ++ [b8 m.objs.length] ++ m.objs.flatMap packE
def pack (m : Mani) : BL := if m.may then packL m else []
theorem take_b8 {l : List Int} {k : Nat} (h : k < l.length) : (l.take (k + 1)).map b8 = (l.take k).map b8 ++ [b8 (l.getD k 0)] := by
  rw [List.take_succ_eq_append_getElem h, List.map_append]; simp [h]
theorem take_ents {es : List Ent} {k : Nat} (h : k < es.length) : (es.take (k + 1)).flatMap packE = (es.take k).flatMap packE ++ packE (es.getD k default) := by
  rw [List.take_succ_eq_append_getElem h, List.flatMap_append]; simp [h]
theorem rise_ge {l : List Int} {most : Int} (h : riseB l most = true) : ∀ i, i < l.length → (i : Int) ≤ l.getD i 0
  | 0, hi => by
    have := all_range_at h hi
    unfold riseStep at this
    simp only [Bool.and_eq_true, decide_eq_true_eq] at this
    simpa using this.1.1
  | i + 1, hi => by
    have ih := rise_ge h i (by omega)
    have := all_range_at h hi
    unfold riseStep at this
    simp only [Bool.and_eq_true, Bool.or_eq_true, decide_eq_true_eq] at this
    rcases this.2 with h1 | h1
    · omega
    · simp only [Nat.add_sub_cancel] at h1
      omega
theorem rise_at {l : List Int} {most : Int} (h : riseB l most = true) {i : Nat} (hi : i < l.length) : 0 ≤ l.getD i 0 ∧ l.getD i 0 ≤ most := by
  have := all_range_at h hi
  unfold riseStep at this
  simp only [Bool.and_eq_true, decide_eq_true_eq] at this
  exact this.1
theorem rise_len {l : List Int} (h : riseB l 63 = true) : l.length ≤ 64 := by
  rcases Nat.eq_zero_or_pos l.length with h0 | h0
  · omega
  · have h1 := rise_ge h (l.length - 1) (by omega)
    have h2 := rise_at h (i := l.length - 1) (by omega)
    omega
/-- what a manifest that may be keeps to -/
structure MayP (m : Mani) : Prop where
  seq : 1 ≤ m.seq ∧ m.seq ≤ 2147483647
  next : 0 ≤ m.next ∧ m.next ≤ 16777216
  P : m.P.may = true
  extra : 0 ≤ m.extra ∧ m.extra ≤ 16
  drives : riseB m.drives 63 = true
  olen : m.objs.length ≤ 12
  objs : ∀ i, i < m.objs.length → objStep m i = true
theorem may_p {m : Mani} (h : m.may = true) : MayP m := by
  unfold Mani.may preB at h
  simp only [Bool.and_eq_true, decide_eq_true_eq] at h
  obtain ⟨⟨h1, h2, h3, h4⟩, h5, h6, h7⟩ := h
  exact ⟨h1, h2, h3, h4, h5, h6, fun i hi => all_range_at h7 hi⟩
theorem p_may {m : Mani} (h : MayP m) : m.may = true := by
  unfold Mani.may preB
  simp only [Bool.and_eq_true, decide_eq_true_eq]
  exact ⟨⟨h.seq, h.next, h.P, h.extra⟩, h.drives, h.olen, all_range_true h.objs⟩
/-- what an entry that may be keeps to -/
structure EntP (m : Mani) (e : Ent) : Prop where
  name : nameOk e.name = true
  nlen : 1 ≤ e.name.length ∧ e.name.length ≤ 12
  obj : 0 ≤ e.obj ∧ e.obj ≤ m.next - 1
  len : 0 ≤ e.len ∧ e.len ≤ m.P.K * m.P.S * 8
  len2 : e.len ≤ 3072
  tries : triesOk e.tries = true
  count : (e.tries.length : Int) = countP m.P e.len
  tlen : e.tries.length ≤ 8
theorem ent_p {m : Mani} {e : Ent} (hP : m.P.may = true) (h : entB m e = true) : EntP m e := by
  unfold entB at h
  simp only [Bool.and_eq_true, decide_eq_true_eq] at h
  obtain ⟨h1, h2, h3, h4, h5⟩ := h
  have hs := Par.size_le (Par.may_ok hP)
  unfold Par.size at hs
  obtain ⟨q, hq⟩ : ∃ q, m.P.K * m.P.S = q := ⟨_, rfl⟩
  have hn : 1 ≤ e.name.length ∧ e.name.length ≤ 12 := by
    unfold nameOk at h1
    simp only [Bool.and_eq_true, decide_eq_true_eq] at h1
    exact h1.2
  have hl : e.len ≤ 3072 := by rw [hq] at hs h3; omega
  refine ⟨h1, hn, h2, h3, hl, h4, h5, ?_⟩
  unfold countP at h5
  split at h5
  · rename_i hc
    have : (e.len - 1) / m.P.size < 8 := by
      unfold Par.size
      rw [hq] at h3 hs ⊢
      exact Int.ediv_lt_of_lt_mul (by omega) (by omega)
    omega
  · omega
theorem ent_at {m : Mani} (h : MayP m) {i : Nat} (hi : i < m.objs.length) : EntP m (m.objs.getD i default) := by
  have := h.objs i hi
  unfold objStep at this
  simp only [Bool.and_eq_true] at this
  exact ent_p h.P this.1
theorem packE_len {m : Mani} {e : Ent} (h : EntP m e) : (packE e).length ≤ 26 := by
  unfold packE
  simp only [List.length_append, List.length_map, highL_len, List.length_singleton]
  have := h.nlen; have := h.tlen
  omega
theorem tries_at {l : List Int} (h : triesOk l = true) {k : Nat} (hk : k < l.length) : 0 ≤ l.getD k 0 ∧ l.getD k 0 ≤ 15 := by
  unfold triesOk at h
  rw [List.all_eq_true] at h
  have := h (l.getD k 0) (by rw [List.getD_eq_getElem?_getD, List.getElem?_eq_getElem hk]; exact List.getElem_mem _)
  simpa using this
theorem strCells_strB (l : List Byte) : Lib.strCells (strB l) = l.map bv8 := by
  unfold Lib.strCells strB
  simp only [List.map_map]
  apply List.map_congr_left
  intro x _
  rfl
end Wells

namespace Wells
open Go Go.RowKit
theorem run_append_str {P : Program} (w : World) (base : Nat) (t u ty e : TypeId) (i : TypeInfo) (ht : P.underlying t = some (.slice e)) (hu : P.underlying u = some .string) (hi : P.info? e = some i) (hz : i.zero = some (.int .u8 0)) (hsize : i.size = 1) (hby : i.bytes = 1)
    (v : Value) (n : Nat) (xs : List Value) (hown : w.ownsRow base e 1 v n xs) (s : ByteArray) (h63 : n + s.size ≤ maxLen) (hbytes : n + s.size ≤ 140737488355328) (hbase : base ≤ w.heap.size) :
    ∃ v' w', (Builtin.append_ #[t, u] ty #[v, .string s]).run P w = .ok v' w' ∧ w'.ownsRow base e 1 v' (n + s.size) (xs ++ Lib.strCells s) ∧ w.grownBy w' v.ownBlock ∧ (v'.ownBlock = v.ownBlock ∨ v'.ownBlock = some w.heap.size) := by
  obtain ⟨v', w', hrun, h2, h3, _⟩ := Lib.run_append_own_string (P := P) (w := w) base t u ty e i ht hu hi hz hsize hby v n xs hown s h63 hbytes hbase
  refine ⟨v', w', hrun, h2, h3, ?_⟩
  have hs := Src.ofString (P := P) w (tx := u) hu s
  rw [← hsize] at hs
  unfold maxLen at h63
  have hl : (byteCells s).length = s.size := byteCells_length s
  rcases hown.2 with ⟨rfl, rfl⟩ | ⟨g, cap, cur, rfl, hb, hg, hnc, hcm, hcs, htk⟩
  · have hx0 : xs = [] := List.eq_nil_of_length_eq_zero (by simpa using hown.1)
    subst hx0
    by_cases hm : s.size = 0
    · rcases h2.2 with ⟨rfl, _⟩ | ⟨g', cap', cur', rfl, hb', hg', _⟩
      · exact .inl rfl
      · exfalso
        have h4 := Lib.run_append_own_string (P := P) (w := w) base t u ty e i ht hu hi hz hsize hby (.slice none 0 0) 0 [] hown s h63 hbytes hbase
        obtain ⟨v2, w2, hr2, _, _, h5⟩ := h4
        rw [hrun] at hr2
        injection hr2 with e1 e2
        have := h5.2 ⟨rfl, hm⟩
        rw [← e1] at this
        cases this
    · have := run_append_grow_src (P := P) w t u ty e i (.int .u8 0) ht hi hz none 0 0 [] (by rfl) (.string s) s.size _ hs (by omega) (by omega) (by
        have := growslice_fits (old := 0) (need := 0 + s.size) (bytes := i.bytes) (by omega) (by rw [hby]; omega)
        omega)
      rw [hrun] at this
      injection this with e1 _
      exact .inr (by rw [e1]; rfl)
  · by_cases hroom : n + s.size ≤ cap
    · have hcell : ∀ j, w.cell? ⟨g, j, none⟩ = cur[j]? := fun j => cell_of_row w g j cur e (0, 0) hg
      have hfz : ∀ j, w.frozen? ⟨g, j, none⟩ = false := fun j => by simp [World.frozen?, hg]
      have := run_append_room_src (P := P) w t u ty e i ht hi g 0 n cap (.string s) s.size _ hs hroom (fun j hj => by
        rw [hcell, hsize]
        rw [hl] at hj
        simp only [Option.isSome_iff_exists]
        exact ⟨_, Array.getElem?_eq_getElem (by omega)⟩) (fun j hj => hfz _)
      rw [hrun] at this
      injection this with e1 _
      exact .inl (by rw [e1]; rfl)
    · have holds : ∀ j u, xs[j]? = some u → w.cell? ((⟨g, 0, none⟩ : Addr).add j) = some u := hown.cells (g := g) rfl
      have hfo := run_firstCells_some (P := P) w.drew 1 n ⟨g, 0, none⟩ n cap xs (by have := hown.1; omega) (by simpa using holds)
      have := run_append_grow_src (P := P) w t u ty e i (.int .u8 0) ht hi hz (some ⟨g, 0, none⟩) n cap xs (by rw [hsize]; exact hfo) (.string s) s.size _ hs (by omega) (by omega) (by
        have := growslice_fits (old := cap) (need := n + s.size) (bytes := i.bytes) (by omega) (by rw [hby]; omega)
        omega)
      rw [hrun] at this
      injection this with e1 _
      exact .inr (by rw [e1]; rfl)
theorem run_append_sl {P : Program} (w : World) (t ty : TypeId) (base : Nat) (e : TypeId) (i : TypeInfo) (z : Value) (size bytes : Nat) (ht : P.underlying t = some (.slice e)) (hi : P.info? e = some i) (hz : i.zero = some z)
    (hsize : i.size = size) (hby : i.bytes = bytes) (hzs : z.cells.size = size) (hsz : 0 < size)
    (v : Value) (n : Nat) (xs : List Value) (hown : w.ownsRow base e size v n xs)
    (B : Nat) (A : Option Addr) (m c : Nat) (news : List Value) (hr : Sl w B size A m news) (h1 : ∀ u ∈ news, u.oneCell' = true)
    (h63 : n + m ≤ 9223372036854775807) (hbytes : (n + m) * bytes ≤ 140737488355328) (hbase : base ≤ w.heap.size) :
    ∃ v' w', (Builtin.append_ #[t, t] ty #[v, .slice A m c]).run P w = .ok v' w' ∧ w'.ownsRow base e size v' (n + m) (xs ++ news) ∧ w.grownBy w' v.ownBlock ∧ (v'.ownBlock = v.ownBlock ∨ v'.ownBlock = some w.heap.size) := by
  rcases A with _ | ad
  · have hm : m = 0 := by
      rcases Nat.eq_zero_or_pos m with h0 | h0
      · exact h0
      · obtain ⟨_, _, hh, _⟩ := hr.at_ h0
        cases hh
    subst hm
    have hn : news = [] := List.eq_nil_of_length_eq_zero (by simpa using hr.len)
    subst hn
    exact ⟨v, w, run_append_nil w t ty e i ht hi hown c, by simpa using hown, World.grownBy.refl w _, .inl rfl⟩
  · have hcells : ∀ j u, news[j]? = some u → w.cell? (ad.add j) = some u := by
      intro j u hu
      rcases Nat.eq_zero_or_pos m with h0 | h0
      · subst h0
        have hn : news = [] := List.eq_nil_of_length_eq_zero (by simpa using hr.len)
        subst hn
        simp at hu
      · obtain ⟨b, o', hh, _, hc⟩ := hr.at_ h0
        injection hh with hh
        subst hh
        rw [addr_add]
        exact hc j u hu
    obtain ⟨v', w', hrun, h2, h3, _, h5⟩ := run_append_own_at (P := P) w base t ty e i z size bytes ht hi hz hsize hby hzs hsz v n xs hown ad m c news hr.len hcells h1 (by unfold maxLen; omega) hbytes hbase
    exact ⟨v', w', hrun, h2, h3, h5⟩
/-- 'append(s, x...)', x a string -/
theorem op_append_str {P : Program} {w : World} {o : Oper} {a : Act} {K : Act → World → Prop} {Q : Exit → Act → World → Prop} (s x : Operand) (t u : TypeId)
    (ho : o.op = .call { callee := .builtin .append, args := #[s, x], argTypes := #[t, u] })
    (base : Nat) (e : TypeId) (i : TypeInfo) (ht : P.underlying t = some (.slice e)) (hu : P.underlying u = some .string) (hi : P.info? e = some i) (hz : i.zero = some (.int .u8 0)) (hsize : i.size = 1) (hby : i.bytes = 1)
    (v : Value) (n : Nat) (xs : List Value) (hs : a.eval s = v) (hown : w.ownsRow base e 1 v n xs) (b : ByteArray) (hx : a.eval x = .string b)
    (N : Nat) (hN : n + b.size = N) (ys : List Value) (hys : xs ++ Lib.strCells b = ys) (hbytes : N ≤ 140737488355328) (hbase : base ≤ w.heap.size)
    (h : ∀ A' c' w', w'.ownsRow base e 1 (.slice A' N c') N ys → w.grownBy w' v.ownBlock → ((Value.slice A' N c').ownBlock = v.ownBlock ∨ (Value.slice A' N c').ownBlock = some w.heap.size) → K (a.put o.dst (.slice A' N c')) w') : Oper.wp P o a w K Q := by
  subst hN hys
  obtain ⟨v', w', hrun, h2, h3, h4⟩ := run_append_str (P := P) w base t u o.type e i ht hu hi hz hsize hby v n xs hown b (by unfold maxLen; omega) hbytes hbase
  obtain ⟨A', c', rfl, _⟩ := own_slice h2
  unfold Oper.wp execOp
  simp only [ho, resolve, invoke, builtin, Sem.run_bind, Sem.run_pure, Result.andThen_ok, List.map_toArray, List.map_cons, List.map_nil, hs, hx, hrun]
  exact h A' c' w' h2 h3 h4
/-- 'append(s, x...)', x a slice -/
theorem op_append {P : Program} {w : World} {o : Oper} {a : Act} {K : Act → World → Prop} {Q : Exit → Act → World → Prop} (s x : Operand) (t : TypeId)
    (ho : o.op = .call { callee := .builtin .append, args := #[s, x], argTypes := #[t, t] })
    (base : Nat) (e : TypeId) (i : TypeInfo) (z : Value) (size bytes : Nat) (ht : P.underlying t = some (.slice e)) (hi : P.info? e = some i) (hz : i.zero = some z)
    (hsize : i.size = size) (hby : i.bytes = bytes) (hzs : z.cells.size = size) (hsz : 0 < size)
    (v : Value) (n : Nat) (xs : List Value) (hs : a.eval s = v) (hown : w.ownsRow base e size v n xs)
    (B : Nat) (A : Option Addr) (m c : Nat) (news : List Value) (hx : a.eval x = .slice A m c) (hr : Sl w B size A m news) (h1 : ∀ u ∈ news, u.oneCell' = true)
    (N : Nat) (hN : n + m = N) (ys : List Value) (hys : xs ++ news = ys) (h63 : N ≤ 9223372036854775807) (hbytes : N * bytes ≤ 140737488355328) (hbase : base ≤ w.heap.size)
    (h : ∀ A' c' w', w'.ownsRow base e size (.slice A' N c') N ys → w.grownBy w' v.ownBlock → ((Value.slice A' N c').ownBlock = v.ownBlock ∨ (Value.slice A' N c').ownBlock = some w.heap.size) → K (a.put o.dst (.slice A' N c')) w') : Oper.wp P o a w K Q := by
  subst hN hys
  obtain ⟨v', w', hrun, h2, h3, h4⟩ := run_append_sl (P := P) w t o.type base e i z size bytes ht hi hz hsize hby hzs hsz v n xs hown B A m c news hr h1 h63 hbytes hbase
  obtain ⟨A', c', rfl, _⟩ := own_slice h2
  unfold Oper.wp execOp
  simp only [ho, resolve, invoke, builtin, Sem.run_bind, Sem.run_pure, Result.andThen_ok, List.map_toArray, List.map_cons, List.map_nil, hs, hx, hrun]
  exact h A' c' w' h2 h3 h4
end Wells

namespace Wells
open Go Go.RowKit
theorem count_alt (n s : Int) (hn : 0 ≤ n) (hs : 1 ≤ s) : (n / s + if 0 < n % s then 1 else 0) = if 0 < n then (n - 1) / s + 1 else 0 := by
  have h1 := Int.mul_ediv_add_emod n s
  have h2 := Int.emod_nonneg n (show s ≠ 0 by omega)
  have h3 := Int.emod_lt_of_pos n (show 0 < s by omega)
  have key : ∀ a q r : Int, a = s * q + r → 0 ≤ r → r < s → a / s = q := by
    intro a q r ha h0 h4
    rw [ha, Int.add_comm, Int.add_mul_ediv_left _ _ (by omega), Int.ediv_eq_zero_of_lt h0 h4, Int.zero_add]
  generalize n / s = q at *
  generalize n % s = r at *
  by_cases hp : 0 < n
  · rw [if_pos hp]
    by_cases hr : 0 < r
    · rw [if_pos hr, key (n - 1) q (r - 1) (by omega) (by omega) (by omega)]
    · rw [if_neg hr, key (n - 1) (q - 1) (s - 1) (by rw [Int.mul_sub]; omega) (by omega) (by omega)]
      omega
  · rw [if_neg hp]
    have hn0 : n = 0 := by omega
    subst hn0
    have hq : q = 0 := by
      have h5 : s * q ≤ 0 := by omega
      have h6 : 0 ≤ s * q + r := by omega
      rcases Int.lt_trichotomy q 0 with hh | hh | hh
      · have : s * q ≤ s * (-1) := Int.mul_le_mul_of_nonneg_left (by omega) (by omega)
        omega
      · exact hh
      · have : s * 1 ≤ s * q := Int.mul_le_mul_of_nonneg_left (by omega) (by omega)
        omega
    subst hq
    have : r = 0 := by omega
    subst this
    simp
end Wells
namespace Go.Proofs.YtlfmfhdgnmchgaaGreat
open Go.RowKit Wells
theorem refcount_any (p : Par) (n m : Int) (w : World) (hn : -9223372036854775808 ≤ n ∧ n ≤ 9223372036854775807) (hm : countP p n = m) : Calls Tryz.prog 36 #[p.val, .int .i64 n] w fun e w' => e = .returned (.int .i64 m) ∧ Below w.heap.size w w' := by
  have HM := hid hm
  clear hm
  have hv : p.val = .agg #[.int .i64 p.K, .int .i64 p.H, .int .i64 p.S] := rfl
  rw [hv]
  clear hv
  by_cases h1 : p.may = true
  · by_cases h2 : n < 0
    · have hz := hid (show countP p n = 0 from countP_no (fun h => by omega))
      go_enter Tryz.func36, Tryz.ntmps36
      go_wp2_with fail
      refine (refmay_any p true _ h1).mono ?_
      rintro e w1 ⟨rfl, hb⟩
      go_wp2
      go_ret
      exact ⟨ret_int (hz.out.symm.trans HM.out), ((Below.refl _ _).alloc (Nat.le_refl _) _).trans (hb.mono (by simp))⟩
    · have hok := Par.may_ok h1
      have hsz := Par.size_le hok
      have ha := count_alt n p.size (by omega) hsz.1
      have hq0 : 0 ≤ n / p.size := Int.ediv_nonneg (by omega) (by omega)
      have hq1 : n / p.size ≤ n := Int.ediv_le_self _ (by omega)
      have hcp : countP p n = if 0 < n then (n - 1) / p.size + 1 else 0 := by
        unfold countP
        by_cases h3 : 0 < n <;> simp [h1, h3]
      have HC := hid (hcp.symm.trans HM.out)
      have HA := hid ha
      have H1 := hid h1
      have hr := Int.emod_nonneg n (show p.size ≠ 0 by omega)
      have hq2 : 0 < n % p.size → n / p.size + 1 ≤ n := by
        intro h5
        have h6 := Int.mul_ediv_add_emod n p.size
        have h7 : 1 * (n / p.size) ≤ p.size * (n / p.size) := Int.mul_le_mul_of_nonneg_right hsz.1 hq0
        omega
      unfold Par.size at *
      obtain ⟨o1, o2, o3, o4, o5, o6⟩ := hok
      clear h1 ha hcp
      by_cases h3 : 0 < n % (p.K * p.S)
      all_goals
        first | have hq3 := hq2 h3 | skip
        clear hq2
        first | rw [if_pos h3] at HA | rw [if_neg h3] at HA
      all_goals
       go_enter Tryz.func36, Tryz.ntmps36
       go_wp2_with fail
       refine (refmay_any p true _ H1.out).mono ?_
       rintro e w1 ⟨rfl, hb⟩
       obtain ⟨c0, c1, c2⟩ := (PCells.new w p 24).keep hb (by simp)
       have b1 : Below w.heap.size w w1 := ((Below.refl _ _).alloc (Nat.le_refl _) _).trans (hb.mono (by simp))
       clear hb
       go_wp2
       go_ret
       first | exact ⟨ret_int (HA.out.trans HC.out), b1⟩ | exact ⟨ret_int ((Int.add_zero _).symm.trans (HA.out.trans HC.out)), b1⟩
  · have h1' : p.may = false := by simpa using h1
    have hz := hid (show countP p n = 0 from countP_no (fun h => h1 h.1))
    go_enter Tryz.func36, Tryz.ntmps36
    go_wp2_with fail
    refine (refmay_any p false _ h1').mono ?_
    rintro e w1 ⟨rfl, hb⟩
    go_wp2
    go_ret
    exact ⟨ret_int (hz.out.symm.trans HM.out), ((Below.refl _ _).alloc (Nat.le_refl _) _).trans (hb.mono (by simp))⟩
end Go.Proofs.YtlfmfhdgnmchgaaGreat

namespace Wells
open Go Go.RowKit
abbrev RSt := List Byte × Bool
end Wells
namespace Go.Proofs.YtlfmfhdgnmchgaaGreat
open Go.RowKit Wells
/-- a reader at block g: what is left of the bytes (in blocks below B), and whether there were too few -/
def Rd (t : TypeId) (B : Nat) (w : World) (g : Nat) (st : RSt) : Prop :=
  ∃ (A : Option Addr) (n c : Nat), Row w g t [.slice A n c, .bool st.2] ∧ Sl w B 1 A n (st.1.map bv8) ∧ st.1.length = n ∧ n ≤ c ∧ c ≤ 9223372036854775807 ∧ B ≤ g
theorem Rd.keep {t : TypeId} {B g : Nat} {w w' : World} {st : RSt} (h : Rd t B w g st) (hb : Below w.heap.size w w') (hB : B ≤ w.heap.size) : Rd t B w' g st := by
  obtain ⟨A, n, c, h1, h2, h3, h4, h5, h6⟩ := h
  exact ⟨A, n, c, h1.below hb h1.lt, h2.below (hb.mono hB), h3, h4, h5, h6⟩
end Go.Proofs.YtlfmfhdgnmchgaaGreat

