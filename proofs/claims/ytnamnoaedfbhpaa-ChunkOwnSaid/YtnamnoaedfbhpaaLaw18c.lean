/- The walk of ChunkOwn. -/
import Derived.Test.YtnamnoaedfbhpaaLaw18
import Derived.Test.YtnamnoaedfbhpaaCopy
namespace Wells
open Go.RowKit
/-- a value is z bytes of a row at or behind block G -/
def Cel (t : Go.TypeId) (w : Go.World) (G : Nat) (v : Go.Value) (z : Nat) : Prop :=
  ∃ g c cs, v = .slice (some ⟨g, 0, none⟩) z c ∧ G ≤ g ∧ z ≤ c ∧ c ≤ 9223372036854775807 ∧ Row w g t cs ∧ z ≤ cs.length ∧ ∀ j, j < z → ∃ b : Byte, cs[j]? = some (bv8 b)
theorem cells_set {cs : List Go.Value} {z : Nat} (h : ∀ j, j < z → ∃ b : Byte, cs[j]? = some (bv8 b)) (i : Nat) (b : Byte) (hi : i < cs.length) : ∀ j, j < z → ∃ x : Byte, (cs.set i (bv8 b))[j]? = some (bv8 x) := by
  intro j hj
  by_cases hij : i = j
  · subst hij; exact ⟨b, by simp [hi]⟩
  · obtain ⟨x, hx⟩ := h j hj
    exact ⟨x, by rw [List.getElem?_set_ne hij]; exact hx⟩
theorem Cel.put {t : Go.TypeId} {w : Go.World} {G g i : Nat} {v : Go.Value} {z : Nat} {ds : List Go.Value} (h : Cel t w G v z) (hg : Row w g t ds) (b : Byte) (hi : i < ds.length) :
    Cel t (w.setCell ⟨g, i, none⟩ (bv8 b)) G v z := by
  obtain ⟨g', c, cs, rfl, h1, hc1, hc2, h2, h3, h4⟩ := h
  by_cases hgg : g' = g
  · subst hgg
    have e : cs = ds := by
      unfold Row at h2 hg
      rw [h2] at hg
      injection hg with e
      injection e with e1 e2 e3
      simpa using e1
    subst e
    exact ⟨g', c, _, rfl, h1, hc1, hc2, h2.set i _, by simpa using h3, cells_set h4 i b hi⟩
  · exact ⟨g', c, cs, rfl, h1, hc1, hc2, h2.far hgg _, h3, h4⟩
theorem Cel.keep {t : Go.TypeId} {w w' : Go.World} {G : Nat} {v : Go.Value} {z : Nat} (h : Cel t w G v z) (hb : Below w.heap.size w w') : Cel t w' G v z := by
  obtain ⟨g', c, cs, rfl, h1, hc1, hc2, h2, h3, h4⟩ := h
  exact ⟨g', c, cs, rfl, h1, hc1, hc2, h2.below hb h2.lt, h3, h4⟩
theorem below_set {B : Nat} {a w : Go.World} (h : Below B a w) (g i : Nat) (hg : B ≤ g) (hs : B ≤ w.heap.size) (v : Go.Value) : Below B a (w.setCell ⟨g, i, none⟩ v) :=
  below_only h ⟨rfl, rfl, rfl, by simp [Go.World.setCell], fun k _ hne => Below.heap_setCell w ⟨g, i, none⟩ v k (fun e => hne (by rw [e]))⟩ hg hs
theorem byte_add (b : Byte) : (((b.toNat : Int) + 1) % 256) = (((b + 1#8).toNat : Nat) : Int) := by
  rw [BitVec.toNat_add]; simp
end Wells
namespace Go.Proofs.Ytnamnoaedfbhpaa
open Go.RowKit Wells
theorem OB.cel {base : Nat} {w : World} {v : Value} {l : List Byte} (h : OB base w v l) (hl : 0 < l.length) : Cel 5 w base v l.length := by
  rcases h.2 with ⟨_, h0⟩ | ⟨g, cap, cur, hv, hb, hg, hnc, hc, hs, ht⟩
  · omega
  · have hlen : cur.size = cap := by simpa using hs
    have ht2 : cur.toList.take l.length = l.map bv8 := by simpa using ht
    refine ⟨g, cap, cur.toList, hv, hb, hnc, by unfold maxLen at hc; omega, by simpa [Row] using hg, by simp; omega, fun j hj => ⟨l.getD j 0, ?_⟩⟩
    rw [← u8s_get l j hj, ← ht2, List.getElem?_take, if_pos hj]
/-- m rows of z bytes each, and the row of their slices -/
def Good (w : World) (G : Nat) (Ao : Option Addr) (m z : Nat) (vs : List Value) : Prop :=
  (∀ i, i < m → Cel 5 w G (vs.getD i undef) z) ∧ (0 < m → ∃ go cur, Ao = some ⟨go, 0, none⟩ ∧ Row w go 30 cur ∧ m ≤ cur.length ∧ cur.take m = vs)
theorem Good.put {w : World} {G : Nat} {Ao : Option Addr} {m z g i : Nat} {vs ds : List Value} (h : Good w G Ao m z vs) (hg : Row w g 5 ds) (b : Byte) (hi : i < ds.length) : Good (w.setCell ⟨g, i, none⟩ (bv8 b)) G Ao m z vs := by
  refine ⟨fun j hj => (h.1 j hj).put hg b hi, fun h0 => ?_⟩
  obtain ⟨go, cur, e, hr, hl, ht⟩ := h.2 h0
  refine ⟨go, cur, e, hr.far ?_ _, hl, ht⟩
  rintro rfl
  unfold Row at hr hg
  rw [hr] at hg
  injection hg with e
  injection e with _ e2 _
  exact absurd e2 (by decide)
theorem Good.keep {w w' : World} {G : Nat} {Ao : Option Addr} {m z : Nat} {vs : List Value} (h : Good w G Ao m z vs) (hb : Below w.heap.size w w') : Good w' G Ao m z vs := by
  refine ⟨fun j hj => (h.1 j hj).keep hb, fun h0 => ?_⟩
  obtain ⟨go, cur, e, hr, hl, ht⟩ := h.2 h0
  exact ⟨go, cur, e, hr.below hb hr.lt, hl, ht⟩
theorem OBs.good {base : Nat} {w : World} {A : Option Addr} {m c z : Nat} {vs : List Value} {ls : List (List Byte)} (h : OBs base w (.slice A m c) vs ls) (hm : ls.length = m) (hz : ∀ i, i < m → (ls.getD i []).length = z) (h0 : 0 < z) : Good w base A m z vs := by
  refine ⟨fun i hi => by have := (h.at_ i (by omega)).cel (by rw [hz i hi]; exact h0); rwa [hz i hi] at this, fun h1 => ?_⟩
  have ho := h.own
  rw [hm] at ho
  have hvl : vs.length = m := by have := ho.1; omega
  rcases ho.2 with ⟨_, h2⟩ | ⟨g, cap, cur, hv, hb, hg, hnc, hc, hs, ht⟩
  · omega
  · injection hv with e1 e2 e3
    have ht2 : cur.toList.take m = vs := by simpa using ht
    exact ⟨g, cur.toList, e1, by simpa [Row] using hg, by have := congrArg List.length ht2; rw [List.length_take] at this; omega, ht2⟩
theorem Good.at_ {w : World} {G : Nat} {Ao : Option Addr} {m z k : Nat} {vs : List Value} (h : Good w G Ao m z vs) (hk : k < m) :
    ∃ go g c ds, Ao = some ⟨go, 0, none⟩ ∧ w.cell? ⟨go, k, none⟩ = some (.slice (some ⟨g, 0, none⟩) z c) ∧ G ≤ g ∧ z ≤ c ∧ c ≤ 9223372036854775807 ∧ Row w g 5 ds ∧ z ≤ ds.length ∧ ∀ j, j < z → ∃ b : Byte, ds[j]? = some (bv8 b) := by
  obtain ⟨go, cur, e, hr, hl, ht⟩ := h.2 (by omega)
  obtain ⟨g, c, ds, e2, h1, h2, h3, h4, h5, h6⟩ := h.1 k hk
  refine ⟨go, g, c, ds, e, ?_, h1, h2, h3, h4, h5, h6⟩
  rw [hr.cell, ← e2, ← ht]
  simp [List.getElem?_take, hk]
  rw [List.getElem?_eq_getElem (by omega)]
  rfl
theorem walk_ChunkOwn (a b c : Int) (A : Option Addr) (n0 c0 : Nat) (l0 : List Byte) (w : World) (ha : -9223372036854775808 ≤ a ∧ a ≤ 9223372036854775807) (hb : -9223372036854775808 ≤ b ∧ b ≤ 9223372036854775807) (hc : -9223372036854775808 ≤ c ∧ c ≤ 9223372036854775807) (h : IsBytes w A n0 c0 l0) :
    Calls Try.prog 6 #[.int .i64 a, .int .i64 b, .int .i64 c, .slice A n0 c0] w fun e w' => e = .returned (.bool true) ∧ Below w.heap.size w w' := by
  obtain ⟨hs, hle, hcap⟩ := h
  obtain ⟨n, hn⟩ : ∃ n, n = min n0 300 := ⟨_, rfl⟩
  have hn300 : n ≤ 300 := by omega
  have hnn : n ≤ n0 := by omega
  have hs' : Sl w w.heap.size 1 A n ((l0.take n).map bv8) := by
    have := hs.take hnn
    rwa [Nat.mul_one, ← List.map_take] at this
  generalize l0.take n = l at hs'
  have HL := hid (show l.length = n by have := hs'.len; simpa using this)
  have HN := hid hn
  clear hn
  obtain ⟨p, hp⟩ : ∃ p, parOf a b c = p := ⟨_, rfl⟩
  have hok : p.Ok := hp ▸ parOf_ok a b c
  have hmay := Par.ok_may hok
  have hsz := Par.size_le hok
  obtain ⟨z, hz⟩ : ∃ z : Nat, p.size = (z : Int) := ⟨p.size.toNat, by omega⟩
  obtain ⟨m, hm⟩ : ∃ m : Nat, countP p n = (m : Int) := ⟨(countP p n).toNat, by have := (countP_le p n).1; omega⟩
  have hmn : m ≤ n := by have := (countP_le p n).2 (by omega); omega
  obtain ⟨hz1, hz2⟩ : 1 ≤ z ∧ z ≤ 384 := by omega
  have hbl : (blocks p l).length = m := by have := blocks_length p l; rw [HL.out, hm] at this; omega
  have heach : ∀ i, i < m → ((blocks p l).getD i []).length = z := fun i hi => by
    have h1 : (blocks p l).getD i [] ∈ blocks p l := by rw [List.getD_eq_getElem?_getD, List.getElem?_eq_getElem (by omega)]; exact List.getElem_mem _
    have := blocks_each p hmay l _ h1
    omega
  have hback := join_back hmay l
  rw [HL.out] at hback
  generalize hblr : blocks p l = bl at *
  have HBR := hid hblr
  clear hblr
  have HB := hid hback
  have HE := hid heach
  have HBL := hid hbl
  have HP := hid hp
  clear hback heach hbl hm hz hp hmay hs hok hsz
  go_enter Try.func6, Try.ntmps6
  go_wp2_with fail
  refine (cut_any A n0 c0 n 300 _ (by omega) (by omega) (by omega) hle HN.out).mono ?_
  rintro e w1 ⟨rfl, rfl⟩
  go_wp2_with fail
  refine (params_any p a b c _ ha hb hc HP.out).mono ?_
  rintro e w1 ⟨rfl, hb1⟩
  go_wp2_with fail
  have p1 := PCells.new w1 p 23
  have b1 := hb1.alloc hb1.size (.cells #[.int .i64 p.K, .int .i64 p.H, .int .i64 p.S] 23)
  refine (copy_any w.heap.size A l n c0 _ (hs'.below b1) b1.size (by omega)).mono ?_
  rintro e w2 ⟨Ai, ci, rfl, hi2, hb2⟩
  have p2 := p1.keep hb2 p1.lt
  have b2 := b1.trans (hb2.mono b1.size)
  unfold OB at hi2
  rw [HL.out] at hi2
  obtain ⟨hci1, hci2⟩ := own_cap hi2
  have si2 := Sl.own hi2
  obtain ⟨d0, d1, d2⟩ := id p2
  clear hb1 b1 p1 hb2 hi2
  go_wp2_with fail
  refine (split_any p w2.heap.size Ai n ci l _ si2 (by omega) (by omega) hci1).mono ?_
  rintro e w3 ⟨v, vs, rfl, ho, hb3⟩
  rw [HBR.out] at ho
  obtain ⟨Ao, co, rfl, hco1, hco2⟩ := ho.form
  rw [HBL.out] at hco1 ho ⊢
  have p3 := p2.keep hb3 p2.lt
  have b3 := b2.trans (hb3.mono b2.size)
  have b2s := b2.size
  have si3 := si2.below hb3
  have s23 := hb3.size
  have rb3 := ho.read HBL.out
  clear d0 d1 d2 p2 b2 si2 hb3
  go_wp2_with fail
  refine (copies_any w3.heap.size Ao vs bl m co _ rb3 (by omega) (by omega) (fun i hi => by rw [HE.out i hi]; omega)).mono ?_
  rintro e w4 ⟨Aw, cw, vw, rfl, hw4, hb4⟩
  have rw4 := hw4.read HBL.out
  have p4 := p3.keep hb4 p3.lt
  have b4 := b3.trans (hb4.mono b3.size)
  have si4 := si3.below (hb4.mono s23)
  have ho4 := ho.below hb4
  have hw4o := hw4.own
  rw [HBL.out] at hw4o
  obtain ⟨hcw1, hcw2⟩ := own_cap hw4o
  have s34 := hb4.size
  obtain ⟨d0, d1, d2⟩ := id p4
  clear p3 b3 si3 rb3 ho hw4
  go_wp2_with fail
  have hsi : Hid (joinP p bl n = some l) := HB
  refine (join_any p w4.heap.size Ao m co vs bl n _ (ho4.read HBL.out) (by omega) (by omega) (by omega)).mono ?_
  rintro e w5 ⟨v5, rfl, hsg, hb5⟩
  rw [hsi.out] at hsg ⊢
  obtain ⟨Ax, cx, e5, hcx1, hcx2, hx5⟩ := hsg
  simp only [Option.getD_some, HL.out] at e5 hcx1 hx5 ⊢
  subst e5
  have hwG4 := b4.size
  have b5 := b4.trans (hb5.mono b4.size)
  have rw5 := rw4.below hb5
  have ho5 := ho4.below hb5
  have rl5 := (ho4.read HBL.out).below hb5
  have gd4 := ho4.good HBL.out HE.out (by omega)
  have gd5 := gd4.keep hb5
  have si5 := si4.below (hb5.mono (show w2.heap.size ≤ w4.heap.size by omega))
  have s45 := hb5.size
  have hx5' : 0 < n → ∃ g cur, Ax = some ⟨g, 0, none⟩ ∧ w4.heap.size ≤ g ∧ Row w5 g 5 cur ∧ n ≤ cur.length ∧ ∀ j, j < n → ∃ x : Byte, cur[j]? = some (bv8 x) := by
    intro h0
    obtain ⟨g, cur, e, hg, hr, ht⟩ := hx5 h0
    have hl2 : n ≤ cur.length := by
      have := congrArg List.length ht
      rw [List.length_take, List.length_map, HL.out] at this
      omega
    refine ⟨g, cur, e, hg, hr, hl2, fun j hj => ⟨l.getD j 0, ?_⟩⟩
    rw [← u8s_get l j (by rw [HL.out]; exact hj), ← ht, List.getElem?_take, if_pos hj]
  clear hx5 d0 d1 d2 gd4 hb5 b4 hb4 p4 rw4 si4 ho4 hw4o
  have hnb : ((n : Int) != (n : Int)) = false := by simp
  obtain ⟨G4, hG4⟩ : ∃ G, G = w4.heap.size := ⟨_, rfl⟩
  rw [← hG4] at hx5' rw5 rl5 s45 s34
  have H4 := hid hG4
  rw [← hG4] at hwG4
  clear hG4
  go_wp2_with fail
  obtain ⟨G2, hG2⟩ : ∃ G, G = w2.heap.size := ⟨_, rfl⟩
  have hwG2 := b2s
  rw [← hG2] at si5 gd5 s23 hwG2
  have HG2 := hid hG2
  clear hG2
  go_loopw [50] (fun i wr => ∃ k : Nat, k ≤ n ∧ i = .int .i64 k ∧ Below G4 w5 wr ∧ Good wr G2 Ao m z vs ∧ (0 < n → ∃ g cur, Ax = some ⟨g, 0, none⟩ ∧ G4 ≤ g ∧ Row wr g 5 cur ∧ n ≤ cur.length ∧ ∀ j, j < n → ∃ x : Byte, cur[j]? = some (bv8 x))) (fun i _ => n - (intOf i).toNat)
  case atStart => exact ⟨0, by omega, rfl, Below.refl _ _, gd5, hx5'⟩
  case round =>
    obtain ⟨k, hk, rfl, hbw, hgd, hxr⟩ := hrel
    by_cases hlt : k < n
    · obtain ⟨g, cur, rfl, hg, hr, hcl, hcs⟩ := hxr (by omega)
      obtain ⟨x, hx⟩ := hcs k hlt
      have hcx : wr.cell? ⟨g, k, none⟩ = some (.int .u8 (x.toNat : Int)) := by rw [hr.cell k, hx]; rfl
      have hfz := hr.frozen k
      have hxlt := x.isLt
      have HCS := hid hcs
      clear hcs hxr hx
      go_wp2_with fail
      go_roundw
      case rel =>
        rw [byte_add]
        exact ⟨k + 1, by omega, by go_num, below_set hbw _ _ hg (by have := hbw.size; omega) _, hgd.put hr _ (by omega), fun _ => ⟨g, _, rfl, hg, hr.set k _, by simpa using hcl, cells_set HCS.out k _ (by omega)⟩⟩
      case measure => simp [intOf]; omega
    · have hkn : n = k := by omega
      subst hkn
      have rww := rw5.below hbw
      have rlw := rl5.below hbw
      have siw := si5.below (hbw.mono (show G2 ≤ G4 by omega))
      have bw := b5.trans (hbw.mono hwG4)
      clear rw5 rl5 si5 gd5 hx5' hxr
      go_wp2_with fail
      refine (rows_is true G4 Ao Aw vs vw bl bl m m co cw _ rlw rww (by omega) (by omega) (decide_eq_true rfl)).mono ?_
      rintro e w6 ⟨rfl, d, rfl⟩
      go_wp2_with fail
      have hbA : Below w.heap.size w (wr.drewN d) := below_drewN bw d
      have hgA : Good (wr.drewN d) G2 Ao m z vs := hgd
      have siA := siw.drewN d
      have hGA : G2 ≤ (wr.drewN d).heap.size := by have := hbw.size; show G2 ≤ wr.heap.size; omega
      clear rww rlw siw bw hgd hbw b5
      generalize wr.drewN d = wA at *
      go_loopw [66] (fun i wq => ∃ k : Nat, k ≤ m ∧ i = .int .i64 k ∧ Below G2 wA wq ∧ Good wq G2 Ao m z vs) (fun i _ => m - (intOf i).toNat)
      case atStart => exact ⟨0, by omega, rfl, Below.refl _ _, hgA⟩
      case round =>
        obtain ⟨q, hq, rfl, hbq, hgq⟩ := hrel
        by_cases hlt : q < m
        · obtain ⟨go, g, cg, ds, rfl, hcc, _⟩ := hgq.at_ hlt
          go_wp2_with fail
          go_loopw [74] (fun i wq => ∃ k : Nat, k ≤ z ∧ i = .int .i64 k ∧ Below G2 wA wq ∧ Good wq G2 (some ⟨go, 0, none⟩) m z vs) (fun i _ => z - (intOf i).toNat)
          case atStart => exact ⟨0, by omega, rfl, hbq, hgq⟩
          case round =>
            clear hcc hgq hbq
            obtain ⟨r, hr, rfl, hbr, hgr⟩ := hrel
            by_cases hlt2 : r < z
            · obtain ⟨go', g', cg', ds', e, hcc', hg', hzc, hcb, hrow, hdl, hds⟩ := hgr.at_ hlt
              injection e with e
              injection e with e
              subst e
              obtain ⟨x, hx⟩ := hds r hlt2
              have hcx : wr.cell? ⟨g', r, none⟩ = some (.int .u8 (x.toNat : Int)) := by rw [hrow.cell r, hx]; rfl
              have hfz := hrow.frozen r
              have hxlt := x.isLt
              clear hds hx
              go_wp2_with fail
              go_roundw
              case rel =>
                rw [byte_add]
                exact ⟨r + 1, by omega, by go_num, below_set hbr _ _ hg' (by have := hbr.size; omega) _, hgr.put hrow _ (by omega)⟩
              case measure => simp [intOf]; omega
            · go_wp2_with fail
              go_roundw
              case rel => exact ⟨q + 1, by omega, by go_num, hbr, hgr⟩
              case measure => simp [intOf]; omega
        · have sA := siA.below hbq
          have bA := hbA.trans (hbq.mono hwG2)
          have sD := hs'.below bA
          go_wp2_with fail
          refine (same_is true G2 _ _ l l _ _ _ _ _ sA (sD.mono hwG2) (by omega) (by omega) (decide_eq_true rfl)).mono ?_
          rintro e w7 ⟨rfl, d2, rfl⟩
          go_wp2_with fail
          refine (wakes18 _).mono ?_
          rintro e w9 ⟨rfl, hb9⟩
          go_wp2
          go_ret
          exact ⟨rfl, (below_drewN bA d2).trans (hb9.mono bA.size)⟩
end Go.Proofs.Ytnamnoaedfbhpaa
