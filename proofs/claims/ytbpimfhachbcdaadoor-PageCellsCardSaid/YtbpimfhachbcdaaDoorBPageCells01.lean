/- Within PeelMath Power -/
import Derived.Test.YtbpimfhachbcdaaDoorProg
import Derived.Test.YtbpimfhachbcdaaDoorBPageCells00
set_option maxRecDepth 20000
set_option linter.unusedSimpArgs false
set_option linter.unusedVariables false
set_option linter.unusedSectionVars false
namespace Go.Proofs.YtbpimfhachbcdaaDoor
open Go.RowKit Wells

theorem tmod_neg (x n : Int) (hx : x < 0) (hn : 1 ≤ n) : (x.tmod n < 0 → x.tmod n + n = x % n) ∧ (¬ x.tmod n < 0 → x.tmod n = x % n) ∧ -n < x.tmod n ∧ x.tmod n ≤ 0 := by
  have h1 := Int.emod_nonneg x (show n ≠ 0 by omega)
  have h2 := Int.emod_lt_of_pos x (show 0 < n by omega)
  have h3 : (n.natAbs : Int) = n := by omega
  rw [Int.tmod_eq_emod]
  by_cases hd : n ∣ x
  · have h5 : x % n = 0 := Int.emod_eq_zero_of_dvd hd
    simp [hd, h5]; omega
  · have h6 : x % n ≠ 0 := fun h => hd (Int.dvd_of_emod_eq_zero h)
    rw [if_neg (by simp [hd]; omega)]
    omega
theorem within_any (x n : Int) (w : World) (h1 : -9223372036854775808 ≤ x) (h2 : x ≤ 9223372036854775807) (h3 : 1 ≤ n) (h4 : n ≤ 4611686018427387904) :
    Calls Tryd.prog 17 #[.int .i64 x, .int .i64 n] w fun e w' => e = .returned (.int .i64 (x % n)) ∧ w = w' := by
  have hr := Int.emod_nonneg x (show n ≠ 0 by omega)
  have hr2 := Int.emod_lt_of_pos x (show 0 < n by omega)
  by_cases hx : 0 ≤ x
  · go_enter Tryd.func17, Tryd.ntmps17
    go_wp2
    go_ret
    exact ⟨rfl, rfl⟩
  · obtain ⟨t1, t2, t3, t4⟩ := tmod_neg x n (by omega) h3
    by_cases ht : x.tmod n < 0
    · have T1 := hid (t1 ht)
      clear t1 t2
      go_enter Tryd.func17, Tryd.ntmps17
      go_wp2
      go_ret
      exact ⟨ret_int T1.out, rfl⟩
    · have T2 := hid (t2 ht)
      clear t1 t2
      go_enter Tryd.func17, Tryd.ntmps17
      go_wp2
      go_ret
      exact ⟨ret_int T2.out, rfl⟩

end Go.Proofs.YtbpimfhachbcdaaDoor

namespace Wells
/-- a row: its columns, its bytes -/
structure Eqn where
  cols : List Int
  data : List (BitVec 8)
deriving DecidableEq
instance : Inhabited Eqn := ⟨⟨[], []⟩⟩
def xorL (s v : List (BitVec 8)) : List (BitVec 8) := List.zipWith (· ^^^ ·) s v
theorem xorL_len (s v : List (BitVec 8)) : (xorL s v).length = min s.length v.length := by unfold xorL; simp
theorem xorL_get (s v : List (BitVec 8)) (i : Nat) : (xorL s v)[i]? = (match s[i]?, v[i]? with | some a, some b => some (a ^^^ b) | _, _ => none) := by
  unfold xorL
  rw [List.getElem?_zipWith]
  cases s[i]? <;> cases v[i]? <;> rfl
theorem xorL_right (s a b : List (BitVec 8)) : xorL (xorL s a) b = xorL (xorL s b) a := by
  apply List.ext_getElem?
  intro i
  rw [xorL_get, xorL_get, xorL_get, xorL_get]
  cases s[i]? <;> cases a[i]? <;> cases b[i]? <;> simp only
  rename_i x y z
  rw [BitVec.xor_assoc, BitVec.xor_assoc, BitVec.xor_comm y z]
/-- what is known so far -/
structure PSt where
  known : List Bool
  vals : List (List (BitVec 8))
def PSt.new (n : Nat) : PSt := ⟨List.replicate n false, List.replicate n []⟩
def PSt.kn (S : PSt) (c : Int) : Bool := S.known.getD c.toNat false
def PSt.val (S : PSt) (c : Int) : List (BitVec 8) := S.vals.getD c.toNat []
/-- a row's columns that are not known -/
def PSt.opn (S : PSt) (cols : List Int) : List Int := cols.filter fun c => !S.kn c
def PSt.stepD (S : PSt) (s : List (BitVec 8)) (c : Int) : List (BitVec 8) := if S.kn c then xorL s (S.val c) else s
/-- a row's bytes, and the values of its columns that are known, added -/
def PSt.rest (S : PSt) (q : Eqn) : List (BitVec 8) := q.cols.foldl S.stepD q.data
def PSt.put (S : PSt) (c : Int) (v : List (BitVec 8)) : PSt := ⟨S.known.set c.toNat true, S.vals.set c.toNat v⟩
/-- rows of their form -/
structure Right (n : Nat) (D : Nat) (rows : List Eqn) : Prop where
  rng : ∀ q ∈ rows, ∀ c ∈ q.cols, 0 ≤ c ∧ c < (n : Int)
  nd : ∀ q ∈ rows, q.cols.Nodup
  len : ∀ q ∈ rows, q.data.length = D
inductive Reach (n : Nat) (rows : List Eqn) : PSt → Prop where
  | start : Reach n rows (PSt.new n)
  | step {S : PSt} {q : Eqn} {c : Int} : Reach n rows S → q ∈ rows → S.opn q.cols = [c] → Reach n rows (S.put c (S.rest q))
def Final (rows : List Eqn) (S : PSt) : Prop := ∀ q ∈ rows, (S.opn q.cols).length ≠ 1
/-- no row without open columns contradicts -/
def Sound (rows : List Eqn) (S : PSt) : Prop := ∀ q ∈ rows, S.opn q.cols = [] → ∀ b ∈ S.rest q, b = 0#8
theorem getD_set_t {α : Type} {l : List α} {i j : Nat} {a z : α} (hi : i < l.length) : (l.set i a).getD j z = if j = i then a else l.getD j z := by
  simp only [List.getD_eq_getElem?_getD]
  split
  · rename_i h; subst h; simp [hi]
  · rename_i h; rw [List.getElem?_set_ne (fun e => h e.symm)]
theorem opn_mem {S : PSt} {cols : List Int} {c : Int} : c ∈ S.opn cols ↔ c ∈ cols ∧ S.kn c = false := by
  unfold PSt.opn
  rw [List.mem_filter]
  cases S.kn c <;> simp
section
variable {n D : Nat} {rows : List Eqn} {S T : PSt}
/-- what holds of every state that is reached -/
structure Form (n D : Nat) (S : PSt) : Prop where
  kl : S.known.length = n
  vl : S.vals.length = n
  len : ∀ c : Int, 0 ≤ c → S.kn c = true → (S.val c).length = D
  no : ∀ c : Int, 0 ≤ c → S.kn c = false → S.val c = []
theorem foldl_len {S : PSt} (h : ∀ c : Int, 0 ≤ c → S.kn c = true → (S.val c).length = D) : ∀ (cs : List Int) (s : List (BitVec 8)), (∀ c ∈ cs, 0 ≤ c) → s.length = D → (cs.foldl S.stepD s).length = D
  | [], _, _, hs => hs
  | c :: cs, s, hc, hs => by
    rw [List.foldl_cons]
    refine foldl_len h cs _ (fun x hx => hc x (List.mem_cons_of_mem _ hx)) ?_
    unfold PSt.stepD
    split
    · rename_i hk
      rw [xorL_len, hs, h c (hc c (List.mem_cons_self ..)) hk]
      omega
    · exact hs
theorem kn_put {c c' : Int} {v : List (BitVec 8)} (h0 : 0 ≤ c) (h0' : 0 ≤ c') (hl : c.toNat < S.known.length) : (S.put c v).kn c' = if c' = c then true else S.kn c' := by
  unfold PSt.put PSt.kn
  rw [getD_set_t hl]
  by_cases h : c' = c
  · subst h; simp
  · rw [if_neg h, if_neg (by omega)]
theorem val_put {c c' : Int} {v : List (BitVec 8)} (h0 : 0 ≤ c) (h0' : 0 ≤ c') (hl : c.toNat < S.vals.length) : (S.put c v).val c' = if c' = c then v else S.val c' := by
  unfold PSt.put PSt.val
  rw [getD_set_t hl]
  by_cases h : c' = c
  · subst h; simp
  · rw [if_neg h, if_neg (by omega)]
theorem Form.new_ (n D : Nat) : Form n D (PSt.new n) :=
  ⟨by simp [PSt.new], by simp [PSt.new], fun c _ hk => by
    unfold PSt.new PSt.kn at hk
    rw [List.getD_eq_getElem?_getD, List.getElem?_replicate] at hk
    split at hk <;> simp at hk, fun c _ _ => by
    unfold PSt.new PSt.val
    rw [List.getD_eq_getElem?_getD, List.getElem?_replicate]
    split <;> rfl⟩
theorem Form.put_ {q : Eqn} {c : Int} (hr : Right n D rows) (h : Form n D S) (hq : q ∈ rows) (ho : c ∈ S.opn q.cols) : Form n D (S.put c (S.rest q)) := by
  have hc := opn_mem.1 ho
  have hb := hr.rng q hq c hc.1
  have hlen : (S.rest q).length = D := foldl_len h.len _ _ (fun x hx => (hr.rng q hq x hx).1) (hr.len q hq)
  have hk : c.toNat < S.known.length := by rw [h.kl]; omega
  have hv : c.toNat < S.vals.length := by rw [h.vl]; omega
  refine ⟨by unfold PSt.put; rw [List.length_set]; exact h.kl, by unfold PSt.put; rw [List.length_set]; exact h.vl, fun c' h0 h1 => ?_, fun c' h0 h1 => ?_⟩
  · rw [kn_put hb.1 h0 hk] at h1
    rw [val_put hb.1 h0 hv]
    by_cases he : c' = c
    · rw [if_pos he]; exact hlen
    · rw [if_neg he] at h1 ⊢; exact h.len c' h0 h1
  · rw [kn_put hb.1 h0 hk] at h1
    rw [val_put hb.1 h0 hv]
    by_cases he : c' = c
    · rw [if_pos he] at h1; cases h1
    · rw [if_neg he] at h1 ⊢; exact h.no c' h0 h1
theorem Reach.form (hr : Right n D rows) (h : Reach n rows S) : Form n D S := by
  induction h with
  | start => exact Form.new_ n D
  | step _ hq ho ih => exact ih.put_ hr hq (by rw [ho]; exact List.mem_singleton.2 rfl)
/-- what one way makes known, another knows at its end -/
theorem Reach.sub (hr : Right n D rows) (h : Reach n rows S) (hT : Final rows T) : ∀ c : Int, 0 ≤ c → S.kn c = true → T.kn c = true := by
  induction h with
  | start =>
    intro c h0 hk
    exfalso
    unfold PSt.new PSt.kn at hk
    rw [List.getD_eq_getElem?_getD, List.getElem?_replicate] at hk
    split at hk <;> simp at hk
  | @step S q c hS hq ho ih =>
    intro c' h0 hk
    have hc := opn_mem.1 (show c ∈ S.opn q.cols by rw [ho]; exact List.mem_singleton.2 rfl)
    have hb := hr.rng q hq c hc.1
    rw [kn_put hb.1 h0 (by rw [(hS.form hr).kl]; omega)] at hk
    by_cases he : c' = c
    · subst he
      cases hTk : T.kn c' with
      | true => rfl
      | false =>
        exfalso
        have hsub : ∀ x ∈ T.opn q.cols, x = c' := fun x hx => by
          have hx1 := opn_mem.1 hx
          have hxs : S.kn x = false := by
            cases hsx : S.kn x with
            | false => rfl
            | true => rw [ih x (hr.rng q hq x hx1.1).1 hsx] at hx1; cases hx1.2
          have : x ∈ S.opn q.cols := opn_mem.2 ⟨hx1.1, hxs⟩
          rw [ho] at this
          exact List.mem_singleton.1 this
        have hmem : c' ∈ T.opn q.cols := opn_mem.2 ⟨hc.1, hTk⟩
        have hnd : (T.opn q.cols).Nodup := (hr.nd q hq).sublist List.filter_sublist
        refine hT q hq ?_
        match hl : T.opn q.cols with
        | [] => rw [hl] at hmem; cases hmem
        | [x] => rfl
        | x :: y :: zs =>
          rw [hl] at hsub hnd
          have e1 := hsub x (List.mem_cons_self ..)
          have e2 := hsub y (List.mem_cons_of_mem _ (List.mem_cons_self ..))
          rw [e1, e2] at hnd
          simp at hnd
    · rw [if_neg he] at hk
      exact ih c' h0 hk
/-- a row's bytes, as a sum over its columns that are known -/
theorem foldl_filter (S : PSt) : ∀ (cs : List Int) (s : List (BitVec 8)), cs.foldl S.stepD s = (cs.filter fun c => S.kn c).foldl (fun s c => xorL s (S.val c)) s
  | [], _ => rfl
  | c :: cs, s => by
    rw [List.foldl_cons, foldl_filter S cs]
    unfold PSt.stepD
    cases hk : S.kn c with
    | true => rw [List.filter_cons_of_pos (by simpa using hk), List.foldl_cons, if_pos rfl]
    | false => rw [List.filter_cons_of_neg (by simp [hk]), if_neg (by simp)]
theorem foldl_perm {f : Int → List (BitVec 8)} {a b : List Int} (h : a.Perm b) : ∀ s, a.foldl (fun s c => xorL s (f c)) s = b.foldl (fun s c => xorL s (f c)) s := by
  induction h with
  | nil => exact fun _ => rfl
  | cons x _ ih => exact fun s => ih _
  | swap x y l => exact fun s => by simp only [List.foldl_cons]; rw [xorL_right]
  | trans _ _ ih1 ih2 => exact fun s => (ih1 s).trans (ih2 s)
theorem foldl_congr {f g : Int → List (BitVec 8)} : ∀ (cs : List Int) (s : List (BitVec 8)), (∀ c ∈ cs, f c = g c) → cs.foldl (fun s c => xorL s (f c)) s = cs.foldl (fun s c => xorL s (g c)) s
  | [], _, _ => rfl
  | c :: cs, s, h => by
    rw [List.foldl_cons, List.foldl_cons, h c (List.mem_cons_self ..)]
    exact foldl_congr cs _ (fun x hx => h x (List.mem_cons_of_mem _ hx))
theorem xor_zero {s v : List (BitVec 8)} (hl : s.length = v.length) (h : ∀ b ∈ xorL s v, b = 0#8) : s = v := by
  apply List.ext_getElem?
  intro i
  by_cases hi : i < s.length
  · have hx := xorL_get s v i
    rw [List.getElem?_eq_getElem hi, List.getElem?_eq_getElem (show i < v.length by omega)] at hx ⊢
    have h0 := h _ (List.mem_of_getElem? hx)
    rw [show v[i]'(by omega) = s[i] from ?_]
    have : s[i] ^^^ (s[i] ^^^ v[i]'(by omega)) = s[i] ^^^ 0#8 := by rw [h0]
    rw [← BitVec.xor_assoc, BitVec.xor_self, BitVec.zero_xor, BitVec.xor_zero] at this
    exact this
  · rw [List.getElem?_eq_none (by omega), List.getElem?_eq_none (by omega)]
/-- where nothing contradicts at one end, the values are as they are there -/
theorem Reach.vals (hr : Right n D rows) (hS : Reach n rows S) (hT : Reach n rows T) (fT : Final rows T) (sT : Sound rows T) : ∀ c : Int, 0 ≤ c → S.kn c = true → S.val c = T.val c := by
  have gT := hT.form hr
  induction hS with
  | start =>
    intro c h0 hk
    exfalso
    unfold PSt.new PSt.kn at hk
    rw [List.getD_eq_getElem?_getD, List.getElem?_replicate] at hk
    split at hk <;> simp at hk
  | @step S q c hS hq ho ih =>
    intro c' h0 hk
    have hc := opn_mem.1 (show c ∈ S.opn q.cols by rw [ho]; exact List.mem_singleton.2 rfl)
    have hb := hr.rng q hq c hc.1
    have gS := hS.form hr
    have hkl : c.toNat < S.known.length := by rw [gS.kl]; omega
    have hvl : c.toNat < S.vals.length := by rw [gS.vl]; omega
    rw [kn_put hb.1 h0 hkl] at hk
    rw [val_put hb.1 h0 hvl]
    by_cases he : c' = c
    · subst he
      rw [if_pos rfl]
      have hall := (Reach.step hS hq ho).sub hr fT
      have hTk : ∀ x ∈ q.cols, T.kn x = true := fun x hx => by
        have hxb := hr.rng q hq x hx
        refine hall x hxb.1 ?_
        rw [kn_put hb.1 hxb.1 hkl]
        by_cases hxc : x = c'
        · rw [if_pos hxc]
        · rw [if_neg hxc]
          cases hsk : S.kn x with
          | true => rfl
          | false =>
            exfalso
            have : x ∈ S.opn q.cols := opn_mem.2 ⟨hx, hsk⟩
            rw [ho] at this
            exact hxc (List.mem_singleton.1 this)
      have hopen : T.opn q.cols = [] := by
        unfold PSt.opn
        rw [List.filter_eq_nil_iff]
        intro x hx
        simp [hTk x hx]
      have hz := sT q hq hopen
      unfold PSt.rest at hz
      rw [foldl_filter, List.filter_eq_self.2 (fun x hx => hTk x hx)] at hz
      have hperm : (c' :: q.cols.filter fun x => S.kn x).Perm q.cols := by
        have h1 := List.filter_append_perm (fun x => S.kn x) q.cols
        have h2 : (q.cols.filter fun x => !S.kn x) = [c'] := ho
        rw [h2] at h1
        exact (List.perm_append_comm (l₁ := [c'])).trans h1
      rw [← foldl_perm hperm, List.foldl_cons] at hz
      have hpull : ∀ (cs : List Int) (s v : List (BitVec 8)), cs.foldl (fun s c => xorL s (T.val c)) (xorL s v) = xorL (cs.foldl (fun s c => xorL s (T.val c)) s) v := by
        intro cs
        induction cs with
        | nil => exact fun _ _ => rfl
        | cons y ys ihy => exact fun s v => by rw [List.foldl_cons, List.foldl_cons, xorL_right, ihy]
      rw [hpull] at hz
      have hrest : S.rest q = (q.cols.filter fun x => S.kn x).foldl (fun s c => xorL s (T.val c)) q.data := by
        unfold PSt.rest
        rw [foldl_filter]
        exact foldl_congr _ _ (fun x hx => by
          have hx2 := List.mem_filter.1 hx
          exact ih x (hr.rng q hq x hx2.1).1 (by simpa using hx2.2))
      rw [← hrest] at hz
      have hlen : (S.rest q).length = D := foldl_len gS.len _ _ (fun x hx => (hr.rng q hq x hx).1) (hr.len q hq)
      exact xor_zero (by rw [hlen, gT.len c' h0 (hTk c' hc.1)]) hz
    · rw [if_neg he] at hk ⊢
      exact ih c' h0 hk
end
end Wells

namespace Wells
open Go Go.RowKit
/-- a Power: off, armed, how many steps go, how often it went off -/
structure Pw where
  off : Bool
  armed : Bool
  left : Int
  offs : Int
def Pw.new : Pw := ⟨false, false, 0, 0⟩
def Pw.step (s : Pw) : Pw := if s.off then s else if s.armed then (if s.left = 0 then { s with off := true, offs := s.offs + 1 } else { s with left := s.left - 1 }) else s
def Pw.goes (s : Pw) : Bool := !s.off && (!s.armed || !decide (s.left = 0))
def Pw.again (s : Pw) : Pw := { s with off := false, armed := false, left := 0 }
end Wells
namespace Go.Proofs.YtbpimfhachbcdaaDoor
open Go.RowKit Wells

end Go.Proofs.YtbpimfhachbcdaaDoor

