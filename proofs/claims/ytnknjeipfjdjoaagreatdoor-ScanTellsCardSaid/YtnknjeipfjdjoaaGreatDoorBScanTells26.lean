/- RecIns -/
import Derived.Test.YtnknjeipfjdjoaaGreatDoorBScanTells25
set_option maxHeartbeats 8000000
set_option maxRecDepth 20000
set_option linter.unusedSimpArgs false
set_option linter.unusedVariables false
set_option linter.unusedSectionVars false
namespace Wells
open Go Go.RowKit
section
variable {α:Type} {lt:α→α→Bool}
theorem Zzfm (ho:SOrd lt) (x:α):∀ (l:List α) (k:Nat),l.Pairwise (fun a b=>lt a b=true)→k≤l.length→(∀ i (h:i < l.length),k≤i→lt x l[i]=true)→
  (∀ (h:k - 1 < l.length),0 < k→lt x l[k - 1]=false)→
  cins lt x l=if k=0∨(∃ h:k - 1 < l.length,lt l[k - 1] x=true) then l.take k++x::l.drop k else l
 | [],k,_,hk,_,_=>by
  have:k=0:=by simpa using hk
  subst this;simp [cins]
 | y::ys,0,_,_,h1,_=>by
  have:=h1 0 (by simp) (ZnR _)
  simp only [List.getElem_cons_zero] at this;simp [cins,this]
 | y::ys,k+1,hp,hk,h1,h2=>by
  obtain ⟨hy,hp'⟩:=List.pairwise_cons.1 hp;simp only [List.length_cons,Nat.add_le_add_iff_right] at hk;have h2':=h2 (by simp;omega) (by omega);simp only [Nat.add_sub_cancel] at h2';have hxy:lt x y=false:=by
   cases k with
   | zero=>simpa using h2'
   | succ j=>
    simp only [List.getElem_cons_succ] at h2';cases h:lt x y
    ·rfl
    ·have h3:=hy ys[j] (List.getElem_mem _)
     have:=ho.tr h (ho.asym h3)
     rw [this] at h2';cases h2'
  unfold cins;rw [if_neg (by simp [hxy])];by_cases hyx:lt y x=true
  ·rw [if_pos hyx,Zzfm ho x ys k hp' hk (fun i hi hki=>by
    have:=h1 (i+1) (by simp;omega) (by omega)
    simpa using this) (fun hh h0=>by
    obtain ⟨j,rfl⟩:∃ j,k=j+1:=⟨k - 1,by omega⟩;simpa using h2')]
   cases k with
   | zero=>simp [hyx]
   | succ j=>
    simp only [Nat.add_sub_cancel,List.length_cons,Nat.add_lt_add_iff_right,List.getElem_cons_succ,Nat.add_eq_zero_iff,Nat.one_ne_zero,and_false,false_or];split
    ·simp
    ·rfl
  ·rw [if_neg hyx]
   rw [if_neg];rintro (h | ⟨hh,h⟩)
   ·omega
   ·simp only [Nat.add_sub_cancel] at h
    cases k with
    | zero=>simp at h;exact hyx h
    | succ j=>
     simp only [List.getElem_cons_succ] at h h2';have h3:=hy ys[j] (List.getElem_mem _);have hyx':lt y x=false:=by simpa using hyx
     have:=ho.tr' hyx' h3
     rw [this] at h2';cases h2'
end
end Wells
namespace Go.Proofs.YtnknjeipfjdjoaaGreatDoor
open Go.RowKit Wells
theorem Zzb9 {m:Mani} {l:List (List Byte)} {c:List Byte} (h:takeR c=none):recsL m (l++ [c])=recsL m l:=by unfold recsL;rw [Zz82 h]
theorem Zzd1 {m:Mani} {l:List (List Byte)} {c:List Byte} {r:Rec} (h:takeR c=some r):recsL m (l++ [c])=if countsM m r then cins ltR r (recsL m l) else recsL m l:=by
 unfold recsL;rw [Zz86 h];split
 ·rw [← Zz8z ltR_ord,List.foldl_append,Zz8z ltR_ord];rfl
 ·rw [List.append_nil]
theorem recsL_rise (m:Mani) (l:List (List Byte)):(recsL m l).Pairwise (fun a b=>ltR a b=true):=Zzch ltR_ord (Zz0q ltR_ord _)
structure RRs (w:World) (B:Nat) (A:Option Addr) (n:Nat) (xs:List RD):Prop where
 sl:Sl w B 8 A n (xs.flatMap encR)
 len:xs.length=n
 at_:∀ x∈xs,RB w B x.dv x.r.D
section
variable {w w':World} {B B' n:Nat} {A:Option Addr} {xs:List RD}
theorem RRs.nil_ (w:World) (B:Nat):RRs w B none 0 []:=⟨Sl.nil_,rfl,fun x hx=>by cases hx⟩
theorem RRs.below (h:RRs w B A n xs) (hb:Below B w w'):RRs w' B A n xs:=⟨h.sl.below hb,h.len,fun x hx=>(h.at_ x hx).keep hb⟩
theorem RRs.mono (h:RRs w B A n xs) (hb:B≤B'):RRs w B' A n xs:=⟨h.sl.mono hb,h.len,fun x hx=>(h.at_ x hx).mono hb⟩
theorem RRs.up (h:RRs w w.heap.size A n xs) (hb:Below w.heap.size w w'):RRs w' w'.heap.size A n xs:=(h.below hb).mono hb.size
theorem ORs.reads {base c:Nat} (h:ORs base w (.slice A n c) xs) (hn:xs.length=n):RRs w w.heap.size A n xs:=by
 refine ⟨?_,hn,fun x hx=>(h.at_ x hx).read⟩;have:=h.own
 rw [hn] at this;exact Sl.own this
theorem RRs.get (h:RRs w B A n xs) {i:Nat} (hi:i < n):
  ∃ b o,A=some ⟨b,o,none⟩∧b < B∧xs[i]! ∈xs∧∀ j v,(encR xs[i]!)[j]? =some v→w.cell? ⟨b,o+i*8+j,none⟩=some v:=by
 obtain ⟨b,o,rfl,hb,hc⟩:=h.sl.at_ (by omega);have hn:=h.len;refine ⟨b,o,rfl,hb,?_,fun j v hv=> ?_⟩
 ·rw [getElem!_pos xs i (by omega)];exact List.getElem_mem _
 ·have hj:j < 8:=by have:=(List.getElem?_eq_some_iff.1 hv).1;rwa [Zz15] at this
  rw [Nat.add_assoc];exact hc _ _ (by rw [Zz53 Zz15 xs i j (by omega) hj];exact hv)
theorem Zzen (xs:List RD) (k:Nat):(xs.flatMap encR).take (k*8)=(xs.take k).flatMap encR:=by
 induction xs generalizing k with
 | nil=>simp
 | cons x xs ih=>
  cases k with
  | zero=>simp
  | succ k=>
   rw [List.flatMap_cons,List.take_succ_cons,List.flatMap_cons,Nat.add_mul,Nat.one_mul,Nat.add_comm,← Zz15 x,List.take_length_add_append,Zz15,ih]
theorem Zzf4 (xs:List RD) (k:Nat):(xs.flatMap encR).drop (k*8)=(xs.drop k).flatMap encR:=by
 induction xs generalizing k with
 | nil=>simp
 | cons x xs ih=>
  cases k with
  | zero=>simp
  | succ k=>
   rw [List.flatMap_cons,List.drop_succ_cons,Nat.add_mul,Nat.one_mul,Nat.add_comm,← Zz15 x,List.drop_length_add_append,Zz15,ih]
theorem RRs.front (h:RRs w B A n xs) {k:Nat} (hk:k≤n):Sl w B 8 A k ((xs.take k).flatMap encR):=by
 have:=h.sl.take hk
 rwa [Zzen] at this
theorem RRs.behind (h:RRs w B A n xs) {k c:Nat} (hk:k≤n) (hc:n≤c):Sl w B 8 (if c=k then A else A.map (·.add (k*8))) (n - k) ((xs.drop k).flatMap encR):=by
 have:=h.sl.cut hk (ZnR n) hc
 rw [Zzf4] at this;rwa [ZtL (by rw [Zz1o Zz15,List.length_drop,h.len];exact ZnR _)] at this
end
theorem Zz5o (xs:List RD):∀ v∈xs.flatMap encR,v.oneCell'=true:=by
 intro v hv;obtain ⟨x,_,hx⟩:=List.mem_flatMap.1 hv;exact Zz2j x v hx
end Go.Proofs.YtnknjeipfjdjoaaGreatDoor
