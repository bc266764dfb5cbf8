/- What is packed is read again by the document's reader, too. -/
import Derived.Test.YtceonkohidcdoaaReadBack
namespace Wells
open Go Go.RowKit
def rfEnt (P : Par) (st : RSt) : Ent × RSt :=
  let a := rdNum 1 st
  let nm := rfSome a.1.toNat a.2
  let o := rdNum 3 nm.2
  let l := rdNum 2 o.2
  let t := rdTries (min (countP P l.1) 100).toNat l.2
  (⟨nm.1, o.1, l.1, t.1⟩, t.2)
def rfEnts (P : Par) : Nat → RSt → List Ent × RSt
  | 0, st => ([], st)
  | n + 1, st => if st.2 then ([], st) else ((rfEnt P st).1 :: (rfEnts P n (rfEnt P st).2).1, (rfEnts P n (rfEnt P st).2).2)
def rfMani (st : RSt) : Mani × RSt :=
  let a := rdNum 4 st
  let b := rdNum 4 a.2
  let k := rdNum 1 b.2
  let h := rdNum 1 k.2
  let s := rdNum 1 h.2
  let x := rdNum 1 s.2
  let n := rdNum 1 x.2
  let d := rdTries n.1.toNat n.2
  let m := rdNum 1 d.2
  let o := rfEnts ⟨k.1, h.1, s.1⟩ m.1.toNat m.2
  (⟨a.1, b.1, ⟨k.1, h.1, s.1⟩, x.1, d.1, o.1⟩, o.2)
theorem rfEnt_back {m : Mani} {e : Ent} (h : EntP m e) (hn : m.next ≤ 16777216) (b : List Byte) : rfEnt m.P (packE e ++ b, false) = (e, (b, false)) := by
  have hnl := h.nlen
  have hob := h.obj
  have hln := h.len
  have hl2 := h.len2
  have htl := h.tlen
  rw [packE_parts]
  unfold rfEnt
  rw [rdNum_1 (by omega)]
  dsimp only
  rw [Int.toNat_natCast, rfSome_app]
  dsimp only
  rw [rdNum_3 (by omega)]
  dsimp only
  rw [rdNum_2 (by omega)]
  dsimp only
  rw [← h.count, show min (e.tries.length : Int) 100 = (e.tries.length : Int) by omega, Int.toNat_natCast, rdTries_back e.tries b (tries_mem h.tries)]
theorem rfEnts_back {m : Mani} (hn : m.next ≤ 16777216) : ∀ (es : List Ent) (b : List Byte), (∀ e ∈ es, EntP m e) → rfEnts m.P es.length (es.flatMap packE ++ b, false) = (es, (b, false))
  | [], b, _ => rfl
  | e :: es, b, h => by
    have ih := rfEnts_back hn es b (fun y hy => h y (List.mem_cons_of_mem _ hy))
    have h1 := rfEnt_back (h e (List.mem_cons_self)) hn (es.flatMap packE ++ b)
    show rfEnts m.P (es.length + 1) ((e :: es).flatMap packE ++ b, false) = _
    rw [List.flatMap_cons, List.append_assoc]
    conv => lhs; unfold rfEnts
    rw [if_neg (by simp), h1]
    dsimp only
    rw [ih]
theorem rfMani_back {m : Mani} (h : MayP m) : rfMani (packL m, false) = (m, ([], false)) := by
  have h1 := h.seq
  have h2 := h.next
  obtain ⟨k1, k2, k3, k4, k5, k6⟩ := Par.may_ok h.P
  have h4 := h.extra
  have h5 := rise_len h.drives
  have h6 := h.olen
  rw [packL_parts]
  unfold rfMani
  rw [rdNum_4 (by omega)]
  dsimp only
  rw [rdNum_4 (by omega)]
  dsimp only
  rw [rdNum_1 (by omega)]
  dsimp only
  rw [rdNum_1 (by omega)]
  dsimp only
  rw [rdNum_1 (by omega)]
  dsimp only
  rw [rdNum_1 (by omega)]
  dsimp only
  rw [rdNum_1 (by omega)]
  dsimp only
  rw [Int.toNat_natCast, rdTries_back m.drives _ (drives_mem h.drives)]
  dsimp only
  rw [rdNum_1 (by omega)]
  dsimp only
  rw [Int.toNat_natCast]
  have := rfEnts_back h2.2 m.objs [] (ents_mem h)
  show (_, _) = _
  have e : (⟨m.P.K, m.P.H, m.P.S⟩ : Par) = m.P := rfl
  (try rw [e])
  (try rw [this])
/-- the document's answer is the same -/
theorem rf_is (l : List Byte) : (if (rfMani (l, false)).2.2 = false ∧ (rfMani (l, false)).1.may = true ∧ pack (rfMani (l, false)).1 = l then some (rfMani (l, false)).1 else none) = parseL l := by
  cases hp : parseL l with
  | some m =>
    obtain ⟨h1, h2⟩ := parseL_some hp
    have hpk : pack m = packL m := by unfold pack; rw [if_pos h2]
    have hb := rfMani_back (may_p h2)
    rw [← hpk, ← h1] at hb
    rw [hb]
    exact if_pos ⟨rfl, h2, h1.symm⟩
  | none =>
    obtain ⟨q, hq⟩ : ∃ q, rfMani (l, false) = q := ⟨_, rfl⟩
    rw [hq]
    clear hq
    refine if_neg (fun h => ?_)
    have := parseL_pack h.2.1
    rw [h.2.2, hp] at this
    cases this
end Wells
