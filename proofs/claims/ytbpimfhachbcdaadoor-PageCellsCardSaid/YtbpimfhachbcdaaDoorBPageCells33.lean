/- ReadBack -/
import Derived.Test.YtbpimfhachbcdaaDoorBPageCells08
import Derived.Test.YtbpimfhachbcdaaDoorBPageCells29
set_option maxRecDepth 20000
set_option linter.unusedSimpArgs false
set_option linter.unusedVariables false
namespace Wells
open Go Go.RowKit
theorem rdSome_app (a b : List Byte) : rdSome a.length (a ++ b, false) = (a, (b, false)) := by
  unfold rdSome
  rw [if_neg (by simp)]
  simp
theorem rdNum_app (k : Nat) (a b : List Byte) (h : a.length = k) : rdNum k (a ++ b, false) = (numL a, (b, false)) := by
  unfold rdNum
  rw [← h, rdSome_app]
theorem rdNum_1 {z : Int} (h : 0 ≤ z ∧ z < 256) (b : List Byte) : rdNum 1 (b8 z :: b, false) = (z, (b, false)) := by
  have := rdNum_app 1 [b8 z] b rfl
  rw [show [b8 z] ++ b = b8 z :: b from rfl] at this
  rw [this]
  have e := numL_high1 z h
  have e2 : highL 1 z = [b8 z] := rfl
  rw [e2] at e
  rw [e]
theorem rdNum_2 {z : Int} (h : 0 ≤ z ∧ z < 65536) (b : List Byte) : rdNum 2 (highL 2 z ++ b, false) = (z, (b, false)) := by rw [rdNum_app 2 _ b (highL_len 2 z), numL_high2 z h]
theorem rdNum_3 {z : Int} (h : 0 ≤ z ∧ z < 16777216) (b : List Byte) : rdNum 3 (highL 3 z ++ b, false) = (z, (b, false)) := by rw [rdNum_app 3 _ b (highL_len 3 z), numL_high3 z h]
theorem rdNum_4 {z : Int} (h : 0 ≤ z ∧ z < 4294967296) (b : List Byte) : rdNum 4 (highL 4 z ++ b, false) = (z, (b, false)) := by rw [rdNum_app 4 _ b (highL_len 4 z), numL_high4 z h]
theorem rdTries_back : ∀ (ts : List Int) (b : List Byte), (∀ z ∈ ts, 0 ≤ z ∧ z < 256) → rdTries ts.length (ts.map b8 ++ b, false) = (ts, (b, false))
  | [], b, _ => rfl
  | z :: ts, b, h => by
    have ih := rdTries_back ts b (fun y hy => h y (List.mem_cons_of_mem _ hy))
    have h1 := rdNum_1 (h z (List.mem_cons_self)) (ts.map b8 ++ b)
    show rdTries (ts.length + 1) (b8 z :: (ts.map b8 ++ b), false) = _
    conv => lhs; unfold rdTries
    rw [if_neg (by simp), h1]
    dsimp only
    rw [ih]
theorem tries_mem {l : List Int} (h : triesOk l = true) : ∀ z ∈ l, 0 ≤ z ∧ z < 256 := fun z hz => by
  unfold triesOk at h
  rw [List.all_eq_true] at h
  have := h z hz
  simp only [decide_eq_true_eq] at this
  omega
theorem packE_parts (e : Ent) (b : List Byte) : packE e ++ b = b8 (e.name.length : Int) :: (e.name ++ (highL 3 e.obj ++ (highL 2 e.len ++ (e.tries.map b8 ++ b)))) := by
  unfold packE
  simp only [List.append_assoc, List.cons_append, List.nil_append]
theorem rdEnt_back {m : Mani} {e : Ent} (h : EntP m e) (hn : m.next ≤ 16777216) (b : List Byte) : rdEnt m.P (packE e ++ b, false) = (e, (b, false)) := by
  have hnl := h.nlen
  have hob := h.obj
  have hln := h.len
  have hl2 := h.len2
  rw [packE_parts]
  unfold rdEnt
  rw [rdNum_1 (by omega)]
  dsimp only
  rw [Int.toNat_natCast, rdSome_app]
  dsimp only
  rw [rdNum_3 (by omega)]
  dsimp only
  rw [rdNum_2 (by omega)]
  dsimp only
  rw [← h.count, Int.toNat_natCast, rdTries_back e.tries b (tries_mem h.tries)]
theorem rdEnts_back {m : Mani} (hn : m.next ≤ 16777216) : ∀ (es : List Ent) (b : List Byte), (∀ e ∈ es, EntP m e) → rdEnts m.P es.length (es.flatMap packE ++ b, false) = (es, (b, false))
  | [], b, _ => rfl
  | e :: es, b, h => by
    have ih := rdEnts_back hn es b (fun y hy => h y (List.mem_cons_of_mem _ hy))
    have h1 := rdEnt_back (h e (List.mem_cons_self)) hn (es.flatMap packE ++ b)
    show rdEnts m.P (es.length + 1) ((e :: es).flatMap packE ++ b, false) = _
    rw [List.flatMap_cons, List.append_assoc]
    conv => lhs; unfold rdEnts
    rw [if_neg (by simp), h1]
    dsimp only
    rw [ih]
theorem packL_parts (m : Mani) : packL m = highL 4 m.seq ++ (highL 4 m.next ++ (b8 m.P.K :: b8 m.P.H :: b8 m.P.S :: b8 m.extra :: b8 (m.drives.length : Int) :: (m.drives.map b8 ++ (b8 (m.objs.length : Int) :: (m.objs.flatMap packE ++ []))))) := by
  unfold packL packH
  simp only [List.append_assoc, List.cons_append, List.nil_append, List.append_nil]
theorem drives_mem {l : List Int} (h : riseB l 63 = true) : ∀ z ∈ l, 0 ≤ z ∧ z < 256 := fun z hz => by
  obtain ⟨k, hk, rfl⟩ := List.getElem_of_mem hz
  have := rise_at h hk
  rw [List.getD_eq_getElem?_getD, List.getElem?_eq_getElem hk] at this
  simp only [Option.getD_some] at this
  omega
theorem ents_mem {m : Mani} (h : MayP m) : ∀ e ∈ m.objs, EntP m e := fun e he => by
  obtain ⟨k, hk, rfl⟩ := List.getElem_of_mem he
  have := ent_at h hk
  rwa [List.getD_eq_getElem?_getD, List.getElem?_eq_getElem hk] at this
theorem rdMani_back {m : Mani} (h : MayP m) : rdMani (packL m, false) = (m, ([], false)) := by
  have h1 := h.seq
  have h2 := h.next
  obtain ⟨k1, k2, k3, k4, k5, k6⟩ := Par.may_ok h.P
  have h4 := h.extra
  have h5 := rise_len h.drives
  have h6 := h.olen
  rw [packL_parts]
  unfold rdMani
  rw [rdNum_4 (by omega)]
  dsimp only
  rw [rdNum_4 (by omega)]
  dsimp only
  rw [rdNum_1 (by omega)]
  dsimp only
  rw [rdNum_1 (by omega)]
  dsimp only
  rw [rdNum_1 (by omega)]
  dsimp only
  rw [rdNum_1 (by omega)]
  dsimp only
  rw [rdNum_1 (by omega)]
  dsimp only
  rw [Int.toNat_natCast, rdTries_back m.drives _ (drives_mem h.drives)]
  dsimp only
  rw [rdNum_1 (by omega)]
  dsimp only
  rw [Int.toNat_natCast]
  have := rdEnts_back h2.2 m.objs [] (ents_mem h)
  show (_, _) = _
  have e : (⟨m.P.K, m.P.H, m.P.S⟩ : Par) = m.P := rfl
  (try rw [e])
  (try rw [this])
/-- the answer of Parse, told by pack -/
theorem parseL_of {l : List Byte} {m : Mani} {st : RSt} (h : rdMani (l, false) = (m, st)) (h1 : st.2 = false) (h2 : l ≠ []) (h3 : l = pack m) : parseL l = some m := by
  unfold parseL
  rw [h]
  exact if_pos ⟨h1, h2, h3⟩
theorem packL_ne (m : Mani) : packL m ≠ [] := fun e => by
  have h1 : 0 < (packL m).length := by rw [packL_parts, List.length_append, highL_len]; omega
  rw [e] at h1
  exact absurd h1 (Nat.lt_irrefl 0)
theorem parseL_pack {m : Mani} (h : m.may = true) : parseL (pack m) = some m := by
  have hp : pack m = packL m := by unfold pack; rw [if_pos h]
  have hb := rdMani_back (may_p h)
  rw [← hp] at hb
  exact parseL_of hb rfl (by rw [hp]; exact packL_ne m) rfl
theorem parseL_some {l : List Byte} {m : Mani} (h : parseL l = some m) : l = pack m ∧ m.may = true := by
  obtain ⟨q, hq⟩ : ∃ q, rdMani (l, false) = q := ⟨_, rfl⟩
  unfold parseL at h
  rw [hq] at h
  clear hq
  obtain ⟨M, st⟩ := q
  dsimp only at h
  split at h
  · rename_i hc
    injection h with h
    subst h
    refine ⟨hc.2.2, ?_⟩
    cases hm : M.may with
    | true => rfl
    | false =>
      exfalso
      apply hc.2.1
      rw [hc.2.2]
      unfold pack
      rw [hm]
      rfl
  · cases h
end Wells

