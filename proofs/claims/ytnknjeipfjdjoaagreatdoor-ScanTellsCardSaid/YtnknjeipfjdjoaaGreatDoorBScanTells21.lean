/- StableMath2 RecLaw Order -/
import Derived.Sort.Grow
import Derived.BigGuardPart
import Derived.Deep.DeepCutAuto
import Derived.Test.YtnknjeipfjdjoaaGreatDoorBScanTells01
import Derived.Test.YtnknjeipfjdjoaaGreatDoorBScanTells02
import Derived.Test.YtnknjeipfjdjoaaGreatDoorBScanTells04
import Derived.Test.YtnknjeipfjdjoaaGreatDoorBScanTells20
set_option maxHeartbeats 8000000
set_option maxRecDepth 20000
set_option linter.unusedSimpArgs false
set_option linter.unusedVariables false
set_option linter.unusedSectionVars false
namespace Wells
open Go.Sort
variable {α:Type}
section
variable [Inhabited α]
def swr (P X M Y S:List α) (i:Nat):List α:=P++(Y.take i++(X.drop i++(M++(X.take i++(Y.drop i++S)))))
theorem Zz88 {A X M Y S:List α} {i n a b:Nat} (hx:X.length=n) (hy:Y.length=n) (hi:i < n) (ha:A.length+i=a) (hb:A.length+n+M.length+i=b):
  ∃ A' M' S' x y,swr A X M Y S i=A'++x::(M'++y::S')∧swr A X M Y S (i+1)=A'++y::(M'++x::S')∧A'.length=a∧a+1+M'.length=b:=by
 obtain ⟨x,ex,tx⟩:∃ x,X.drop i=x::X.drop (i+1)∧X.take (i+1)=X.take i++ [x]:=⟨X[i],List.drop_eq_getElem_cons (by omega),ZtS (by omega)⟩;obtain ⟨y,ey,ty⟩:∃ y,Y.drop i=y::Y.drop (i+1)∧Y.take (i+1)=Y.take i++ [y]:=⟨Y[i],List.drop_eq_getElem_cons (by omega),ZtS (by omega)⟩;refine ⟨A++Y.take i,X.drop (i+1)++(M++X.take i),Y.drop (i+1)++S,x,y,?_,?_,by simp;omega,by simp;omega⟩
 ·unfold swr;rw [ex,ey];simp
 ·unfold swr;rw [tx,ty];simp
theorem Zz96 (P X M Y S:List α):swr P X M Y S 0=P++(X++(M++(Y++S))):=by simp [swr]
theorem Zzfa {P X M Y S:List α} {n:Nat} (hx:X.length=n) (hy:Y.length=n):swr P X M Y S n=P++(Y++(M++(X++S))):=by
 subst hx;have e1:Y.take X.length=Y:=by rw [← hy];exact List.take_length
 have e2:Y.drop X.length= []:=by rw [← hy];exact List.drop_length
 simp [swr,e1,e2]
variable {lt:α→α→Bool}
theorem Zz63 {L:List α} (h:Srt lt L) {i j:Nat} (hij:i≤j) (hj:j < L.length) (hr:∀ x,lt x x=false):lt (L[j]!) (L[i]!)=false:=by
 rw [getElem!_pos L i (by omega),getElem!_pos L j hj];rcases Nat.lt_or_eq_of_le hij with h1 | h1
 ·exact List.pairwise_iff_getElem.1 h i j (by omega) hj h1
 ·subst h1;exact hr _
theorem SOrd.irr (ho:SOrd lt) (x:α):lt x x=false:=by
 cases h:lt x x
 ·rfl
 ·have:=ho.asym h;rw [h] at this;exact this
theorem Zzd0 (ho:SOrd lt) {L R:List α} (hL:Srt lt L) (hR:Srt lt R) {k1 k2:Nat} (h1:k1≤L.length) (h2:k2≤R.length)
  (f1:k1=0∨k2=R.length∨lt (R[k2]!) (L[k1 - 1]!)=false) (f2:k1=L.length∨k2=0∨lt (R[k2 - 1]!) (L[k1]!)=true):
  mrg lt L R=mrg lt (L.take k1) (R.take k2)++mrg lt (L.drop k1) (R.drop k2):=by
 have e:mrg lt L R=mrg lt (L.take k1++L.drop k1) (R.take k2++R.drop k2):=by simp
 rw [e];have inT:∀ {Z:List α} {k:Nat} {z:α},z∈Z.take k→∃ i,i < k∧i < Z.length∧Z[i]! =z:=by
  intro Z k z hz;obtain ⟨i,hi,rfl⟩:=List.mem_iff_getElem.1 hz;simp only [List.length_take] at hi;exact ⟨i,by omega,by omega,by rw [getElem!_pos Z i (by omega)];simp⟩
 have inD:∀ {Z:List α} {k:Nat} {z:α},z∈Z.drop k→∃ i,k≤i∧i < Z.length∧Z[i]! =z:=by
  intro Z k z hz;obtain ⟨i,hi,rfl⟩:=List.mem_iff_getElem.1 hz;simp only [List.length_drop] at hi;exact ⟨k+i,by omega,by omega,by rw [getElem!_pos Z (k+i) (by omega)];simp⟩
 refine Zzer ?_ ?_ ?_
 ·intro r hr l hl
  obtain ⟨i,hi,hi2,rfl⟩:=inT hr;obtain ⟨j,hj,hj2,rfl⟩:=inD hl;rcases f2 with h | h | h
  ·omega
  ·omega
  ·exact ho.tr (ho.tr' (Zz63 hR (i:=i) (j:=k2 - 1) (by omega) (by omega) ho.irr) h) (Zz63 hL hj hj2 ho.irr)
 ·intro r hr l hl
  obtain ⟨i,hi,hi2,rfl⟩:=inD hr;obtain ⟨j,hj,hj2,rfl⟩:=inT hl;rcases f1 with h | h | h
  ·omega
  ·omega
  ·exact ho.le (Zz63 hL (i:=j) (j:=k1 - 1) (by omega) (by omega) ho.irr) (ho.le h (Zz63 hR hi hi2 ho.irr))
 ·intro r hr l hl
  obtain ⟨i,hi,hi2,rfl⟩:=inD hr;obtain ⟨j,hj,hj2,rfl⟩:=inT hl;exact Zz63 hR (by omega) hi2 ho.irr
theorem Srt.take {L:List α} (h:Srt lt L) (k:Nat):Srt lt (L.take k):=List.Pairwise.sublist (List.take_sublist k L) h
theorem Srt.drop {L:List α} (h:Srt lt L) (k:Nat):Srt lt (L.drop k):=List.Pairwise.sublist (List.drop_sublist k L) h
theorem Zzf7 (ho:SOrd lt) {x:α} {R:List α} (hR:Srt lt R) {k:Nat} (h2:k≤R.length) (f1:k=R.length∨lt (R[k]!) x=false) (f2:k=0∨lt (R[k - 1]!) x=true):
  mrg lt [x] R=R.take k++x::R.drop k:=by
 rw [Zzd0 ho (L:= [x]) (k1:=0) (k2:=k) (by simp [Srt]) hR (by simp) h2 (.inl rfl) (by rcases f2 with h | h;exact .inr (.inl h);exact .inr (.inr (by simpa using h)))];simp only [List.take_zero,List.drop_zero];rw [Zz33 (hR.take k)];congr 1
 have:=Zz4z (lt:=lt) (X:= [x]) (R.drop k) [] (fun r hr y hy=>by
  simp only [List.mem_singleton] at hy;subst hy;obtain ⟨i,hi,rfl⟩:=List.mem_iff_getElem.1 hr;simp only [List.length_drop] at hi;rcases f1 with h | h
  ·omega
  ·have h3:=Zz63 hR (i:=k) (j:=k+i) (by omega) (by omega) ho.irr
   rw [getElem!_pos R (k+i) (by omega)] at h3;simpa using ho.le h h3)
 rw [List.append_nil] at this;rw [this,Zz33 (hR.drop k)];rfl
theorem Zzfk (ho:SOrd lt) {x:α} {L:List α} (hL:Srt lt L) {k:Nat} (h2:k≤L.length) (f1:k=0∨lt x (L[k - 1]!)=false) (f2:k=L.length∨lt x (L[k]!)=true):
  mrg lt L [x]=L.take k++x::L.drop k:=by
 show ins lt x L=_;have:=Zzbs (lt:=lt) (x:=x) (X:=L.take k) (Y:=L.drop k) (fun y hy=>by
  obtain ⟨i,hi,rfl⟩:=List.mem_iff_getElem.1 hy;simp only [List.length_take] at hi;rcases f1 with h | h
  ·omega
  ·have h3:=Zz63 hL (i:=i) (j:=k - 1) (by omega) (by omega) ho.irr
   rw [getElem!_pos L i (by omega)] at h3;simpa using ho.le h3 h) (fun y hy=>by
  obtain ⟨i,hi,rfl⟩:=List.mem_iff_getElem.1 hy;simp only [List.length_drop] at hi;rcases f2 with h | h
  ·omega
  ·have h3:=Zz63 hL (i:=k) (j:=k+i) (by omega) (by omega) ho.irr
   rw [getElem!_pos L (k+i) (by omega)] at h3;simpa using ho.tr h h3)
 rwa [List.take_append_drop] at this
end
/-! ### sorted pieces of a width -/
def csort (lt:α→α→Bool) (w:Nat) (l:List α):List α:=
 if _h:l.length < w∨w=0 then ssort lt l else ssort lt (l.take w)++csort lt w (l.drop w)
termination_by l.length
decreasing_by simp;omega
variable {lt:α→α→Bool}
theorem Zz11 {w:Nat} {l:List α} (h:l.length < w):csort lt w l=ssort lt l:=by unfold csort;rw [dif_pos (.inl h)]
theorem Zz1e {w:Nat} {l:List α} (hw:0 < w) (h:w≤l.length):csort lt w l=ssort lt (l.take w)++csort lt w (l.drop w):=by
 conv=>lhs;unfold csort
 rw [dif_neg (by omega)]
theorem Zz3l {w:Nat} {l:List α} (hw:0 < w) (h:l.length≤w):csort lt w l=ssort lt l:=by
 rcases Nat.lt_or_eq_of_le h with h1 | h1
 ·exact Zz11 h1
 ·rw [Zz1e hw (by omega),ZtL h,List.drop_eq_nil_of_le h,Zz11 (by simpa using hw)]
  simp [ssort,mrg]
theorem Zz98 (ho:SOrd lt) {w:Nat} {l:List α} (hw:0 < w) (h:2*w≤l.length):
  csort lt w l=ssort lt (l.take w)++(ssort lt ((l.drop w).take w)++csort lt w (l.drop (2*w)))∧csort lt (2*w) l=mrg lt (ssort lt (l.take w)) (ssort lt ((l.drop w).take w))++csort lt (2*w) (l.drop (2*w)):=by
 constructor
 ·rw [Zz1e hw (by omega),Zz1e (l:=l.drop w) hw (by simp;omega),List.drop_drop]
  rw [show w+w=2*w by omega]
 ·rw [Zz1e (w:=2*w) (by omega) h,Zz8q ho]
  congr 2
  rw [show 2*w=w+w by omega,List.take_add]
theorem Zz6q (ho:SOrd lt) {w:Nat} {l:List α} (hw:0 < w) (h1:w < l.length) (h2:l.length < 2*w):
  csort lt w l=ssort lt (l.take w)++ssort lt (l.drop w)∧csort lt (2*w) l=mrg lt (ssort lt (l.take w)) (ssort lt (l.drop w)):=by
 constructor
 ·rw [Zz1e hw (by omega),Zz11 (l:=l.drop w) (by simp;omega)]
 ·rw [Zz11 h2,Zz8q ho,List.take_append_drop]
end Wells
namespace Wells
open Go Go.RowKit
section
variable {α β:Type} {lt:α→α→Bool} {lt2:β→β→Bool}
theorem Zzfq (f:α→β) (h:∀ x y,lt x y=lt2 (f x) (f y)) (x:α):∀ l,(ins lt x l).map f=ins lt2 (f x) (l.map f)
 | []=>rfl
 | y::ys=>by
  unfold ins;rw [h];simp only [List.map_cons];split <;> simp [Zzfq f h x ys]
theorem Zzfc (f:α→β) (h:∀ x y,lt x y=lt2 (f x) (f y)):∀ (R L:List α),(mrg lt L R).map f=mrg lt2 (L.map f) (R.map f)
 | [],_=>rfl
 | x::R,L=>by rw [Zz19,Zzfc f h R,Zzfq f h];rfl
theorem Zz9i (f:α→β) (h:∀ x y,lt x y=lt2 (f x) (f y)) (l:List α):(ssort lt l).map f=ssort lt2 (l.map f):=Zzfc f h l []
def eqv (lt:α→α→Bool) (x y:α):Bool:= !lt x y && !lt y x
def cptGo (lt:α→α→Bool):α→List α→List α
 | _, []=> []
 | p,y::r=>if eqv lt y p then cptGo lt y r else y::cptGo lt y r
def cpt (lt:α→α→Bool):List α→List α
 | []=> []
 | x::r=>x::cptGo lt x r
theorem Zz8p (f:α→β) (h:∀ x y,lt x y=lt2 (f x) (f y)):∀ (l:List α) (p:α),(cptGo lt p l).map f=cptGo lt2 (f p) (l.map f)
 | [],_=>rfl
 | y::r,p=>by
  have e:eqv lt y p=eqv lt2 (f y) (f p):=by unfold eqv;rw [h,h]
  simp only [cptGo,List.map_cons,e];split <;> simp [Zz8p f h r]
theorem Zzib (f:α→β) (h:∀ x y,lt x y=lt2 (f x) (f y)) (l:List α):(cpt lt l).map f=cpt lt2 (l.map f):=by
 cases l with
 | nil=>rfl
 | cons x r=>simp [cpt,Zz8p f h]
def cins (lt:α→α→Bool) (x:α):List α→List α
 | []=> [x]
 | y::ys=>if lt x y then x::y::ys else if lt y x then y::cins lt x ys else y::ys
theorem Zz70 {x y:α} (h:lt x y=true):eqv lt x y=false∧eqv lt y x=false:=by unfold eqv;simp [h]
theorem Zz1u {x:α} {l:List α} (h:Srt lt (x::l)):(∀ y∈l,lt y x=false)∧Srt lt l:=List.pairwise_cons.1 h
theorem Zz5f (ho:SOrd lt) {x:α}:∀ (l:List α) (p:α),Srt lt (p::l)→lt p x=false→lt x p=false→cptGo lt p (ins lt x l)=cptGo lt p l
 | [],p,_,h1,h2=>by simp [ins,cptGo,eqv,h1,h2]
 | y::ys,p,hs,h1,h2=>by
  have hp:=(Zz1u hs).1 y (by simp);by_cases hxy:lt x y=true
  ·have hpy:lt p y=true:=ho.tr' h2 hxy
   simp only [ins,hxy,if_true,cptGo];rw [if_pos (by simp [eqv,h1,h2]),(Zz70 hxy).2,(Zz70 hpy).2]
  ·have hxy:lt x y=false:=by simpa using hxy
   have hyp:lt p y=false:=ho.le hxy h1;have hyx:lt y x=false:=ho.le h1 hp;simp only [ins,hxy,Bool.false_eq_true,↓reduceIte,cptGo];rw [Zz5f ho ys y (Zz1u hs).2 hyx hxy]
theorem Zz5k (ho:SOrd lt) {x:α}:∀ (l:List α) (p:α),Srt lt (p::l)→lt p x=true→cptGo lt p (ins lt x l)=cins lt x (cptGo lt p l)
 | [],p,_,h1=>by simp [ins,cptGo,cins,(Zz70 h1).2]
 | y::ys,p,hs,h1=>by
  have hp:=(Zz1u hs).1 y (by simp);by_cases hxy:lt x y=true
  ·have hpy:lt p y=true:=ho.tr h1 (ho.asym hxy)
   simp only [ins,hxy,if_true,cptGo,(Zz70 hxy).2,(Zz70 hpy).2,(Zz70 h1).2,Bool.false_eq_true,↓reduceIte,cins]
  ·have hxy:lt x y=false:=by simpa using hxy
   simp only [ins,hxy,Bool.false_eq_true,↓reduceIte,cptGo];by_cases hpy:lt p y=true
   ·rw [(Zz70 hpy).2]
    simp only [Bool.false_eq_true,↓reduceIte,cins,hxy];by_cases hyx:lt y x=true
    ·rw [if_pos hyx,Zz5k ho ys y (Zz1u hs).2 hyx]
    ·have hyx:lt y x=false:=by simpa using hyx
     rw [if_neg (by simp [hyx]),Zz5f ho ys y (Zz1u hs).2 hyx hxy]
   ·have hpy:lt p y=false:=by simpa using hpy
    have e:eqv lt y p=true:=by simp [eqv,hp,hpy]
    rw [if_pos e,if_pos e,Zz5k ho ys y (Zz1u hs).2 (ho.tr' hpy h1)]
theorem Zzhw (ho:SOrd lt) (x:α) {l:List α} (hs:Srt lt l):cpt lt (ins lt x l)=cins lt x (cpt lt l):=by
 cases l with
 | nil=>rfl
 | cons p l=>
  by_cases hxp:lt x p=true
  ·simp [ins,hxp,cpt,cptGo,(Zz70 hxp).2,cins]
  ·have hxp:lt x p=false:=by simpa using hxp
   by_cases hpx:lt p x=true
   ·simp only [ins,hxp,Bool.false_eq_true,↓reduceIte,cpt,cins,hpx,if_true]
    rw [Zz5k ho l p hs hpx]
   ·have hpx:lt p x=false:=by simpa using hpx
    simp only [ins,hxp,Bool.false_eq_true,↓reduceIte,cpt,cins,hpx];rw [Zz5f ho l p hs hpx hxp]
theorem Zz8z (ho:SOrd lt) (l:List α):l.foldl (fun out x=>cins lt x out) []=cpt lt (ssort lt l):=by
 induction l using Zz39 with
 | h0=>rfl
 | h1 l x ih=>rw [List.foldl_append,ih,Zz1q,Zzhw ho x (Zz0q ho l)];rfl
theorem Zz59 {z:α}:∀ {l:List α} {p:α},z∈cptGo lt p l→z∈l
 | [],_,h=>h
 | y::r,p,h=>by
  unfold cptGo at h;split at h
  ·exact List.mem_cons_of_mem _ (Zz59 h)
  ·rcases List.mem_cons.1 h with rfl | h
   ·simp
   ·exact List.mem_cons_of_mem _ (Zz59 h)
theorem Zzfg {z:α} {l:List α} (h:z∈cpt lt l):z∈l:=by
 cases l with
 | nil=>exact h
 | cons x r=>
  rcases List.mem_cons.1 h with rfl | h
  ·simp
  ·exact List.mem_cons_of_mem _ (Zz59 h)
theorem Zz6b (ho:SOrd lt):∀ {l:List α} {p:α},Srt lt (p::l)→(∀ z∈cptGo lt p l,lt p z=true)∧(cptGo lt p l).Pairwise (fun a b=>lt a b=true)
 | [],_,_=>⟨fun z h=>(by cases h),List.Pairwise.nil⟩
 | y::r,p,hs=>by
  have hp:=(Zz1u hs).1 y (by simp);obtain ⟨h1,h2⟩:=Zz6b ho (Zz1u hs).2;unfold cptGo;split
  ·rename_i he
   unfold eqv at he;simp only [Bool.and_eq_true,Bool.not_eq_true'] at he;exact ⟨fun z hz=>ho.tr' he.1 (h1 z hz),h2⟩
  ·rename_i he
   have hpy:lt p y=true:=by
    cases h:lt p y
    ·exact absurd (by unfold eqv;simp [hp,h]) he
    ·rfl
   refine ⟨fun z hz=> ?_,List.pairwise_cons.2 ⟨h1,h2⟩⟩;rcases List.mem_cons.1 hz with rfl | hz
   ·exact hpy
   ·exact ho.tr hpy (ho.asym (h1 z hz))
theorem Zzch (ho:SOrd lt) {l:List α} (hs:Srt lt l):(cpt lt l).Pairwise (fun a b=>lt a b=true):=by
 cases l with
 | nil=>exact List.Pairwise.nil
 | cons x r=>
  obtain ⟨h1,h2⟩:=Zz6b ho hs;exact List.pairwise_cons.2 ⟨h1,h2⟩
theorem Zz4b:∀ (l:List α) (p:α),(cptGo lt p l).length≤l.length
 | [],_=>ZnR _
 | y::r,p=>by
  have:=Zz4b r y
  unfold cptGo;split <;> simp <;> omega
theorem Zz3t (l:List α):(cpt lt l).length≤l.length:=by
 cases l with
 | nil=>exact ZnR _
 | cons x r=>have:=Zz4b (lt:=lt) r x;simp [cpt];omega
end
def ltR (a b:Rec):Bool:=decide (a.O < b.O∨(a.O=b.O∧(a.B < b.B∨(a.B=b.B∧a.I < b.I))))
theorem ltR_ord:SOrd ltR:=by
 unfold ltR;constructor
 ·intro x y h
  simp only [decide_eq_true_eq,decide_eq_false_iff_not] at*;omega
 ·intro x y z h h';simp only [decide_eq_true_eq,decide_eq_false_iff_not] at*;omega
 ·intro x y z h h';simp only [decide_eq_true_eq,decide_eq_false_iff_not] at*;omega
 ·intro x y z h h';simp only [decide_eq_true_eq,decide_eq_false_iff_not] at*;omega
def cmpI (a b:Int):Int:=if a < b then -1 else if b < a then 1 else 0
def orI (a b c:Int):Int:=if a≠0 then a else if b≠0 then b else c
def ordI (r q:Rec):Int:=orI (cmpI r.O q.O) (cmpI r.B q.B) (cmpI r.I q.I)
theorem Zzi6 (r q:Rec):decide (ordI r q < 0)=ltR r q:=by
 unfold ordI ltR orI cmpI;congr 1
 apply propext
 constructor
 ·intro h
  repeat' split at h
  all_goals omega
 ·intro h
  repeat' split
  all_goals omega
theorem Zzht (r q:Rec):(ordI r q==0)=eqv ltR r q:=by
 rw [Bool.eq_iff_iff];unfold eqv ltR ordI orI cmpI;simp only [beq_iff_eq,Bool.and_eq_true,Bool.not_eq_true',decide_eq_false_iff_not];constructor
 ·intro h
  repeat' split at h
  all_goals omega
 ·intro h
  repeat' split
  all_goals omega
end Wells
namespace Go.Proofs.YtnknjeipfjdjoaaGreatDoor
open Go.RowKit Wells Go.Sort
theorem Zz5q (a b c:Int) (hc:cmpI a b=c) (w:World):Calls Tryz.prog 90 #[.int .i64 a,.int .i64 b] w fun e w'=>e= .returned (.int .i64 c)∧w=w':=by
 have HC:=hid hc;clear hc;unfold cmpI at HC;rcases Int.lt_trichotomy a b with h | h | h
 ·have h2:¬ b < a:=by omega
  go_enter Tryz.func90,Tryz.ntmps90;go_wp2
  go_ret
  exact ⟨Zz0z (by rw [← HC.out,if_pos h]),rfl⟩
 ·subst h
  go_enter Tryz.func90,Tryz.ntmps90;go_wp2
  go_ret
  exact ⟨Zz0z (by rw [← HC.out];simp),rfl⟩
 ·have h2:¬ a < b:=by omega
  go_enter Tryz.func90,Tryz.ntmps90;go_wp2
  go_ret
  exact ⟨Zz0z (by rw [← HC.out,if_neg (by omega),if_pos h]),rfl⟩
theorem Zzi4 (g:Nat) (a b c d:Int) (w:World) (h0:w.cell? ⟨g,0,none⟩=some (.int .i64 a)) (h1:w.cell? ⟨g,1,none⟩=some (.int .i64 b)) (h2:w.cell? ⟨g,2,none⟩=some (.int .i64 c)) (hd:orI a b c=d):Calls Tryz.prog 89 #[.slice (some ⟨g,0,none⟩) 3 3] w fun e w'=>e= .returned (.int .i64 d)∧w=w':=by
 have HD:=hid hd;clear hd;unfold orI at HD;go_enter Tryz.func89,Tryz.ntmps89;go_wp2
 go_loop [8] (fun v=>∃ k:Nat,k≤3∧v= .int .i64 (k:Int)∧Hid ((0 < k→a=0)∧(1 < k→b=0)∧(2 < k→c=0))) (fun v=>3 - (intOf v).toNat)
 case atStart=>exact ⟨0,by omega,rfl,⟨fun h=>by omega,fun h=>by omega,fun h=>by omega⟩⟩
 case round=>
  obtain ⟨k,hk,rfl,HF⟩:=hrel;obtain rfl | rfl | rfl | rfl:k=0∨k=1∨k=2∨k=3:=by omega
  ·by_cases ha:a=0
   ·subst ha
    go_wp2
    go_round
    case rel=>exact ⟨1,by omega,by first | rfl | trivial,⟨fun _=>(by first | rfl | trivial),fun h=>by omega,fun h=>by omega⟩⟩
    case measure=>simp [intOf]
   ·go_wp2
    go_ret
    exact ⟨Zz0z (by rw [← HD.out,if_pos ha]),rfl⟩
  ·have ha:=HF.out.1 (by omega)
   by_cases hb:b=0
   ·subst hb
    go_wp2
    go_round
    case rel=>exact ⟨2,by omega,by first | rfl | trivial,⟨fun _=>ha,fun _=>(by first | rfl | trivial),fun h=>by omega⟩⟩
    case measure=>simp [intOf]
   ·go_wp2
    go_ret
    exact ⟨Zz0z (by rw [← HD.out,if_neg (by simp [ha]),if_pos hb]),rfl⟩
  ·have ha:=HF.out.1 (by omega)
   have hb:=HF.out.2.1 (by omega);by_cases hc:c=0
   ·subst hc
    go_wp2
    go_round
    case rel=>exact ⟨3,by omega,by first | rfl | trivial,⟨fun _=>ha,fun _=>hb,fun _=>(by first | rfl | trivial)⟩⟩
    case measure=>simp [intOf]
   ·go_wp2
    go_ret
    exact ⟨Zz0z (by rw [← HD.out,if_neg (by simp [ha]),if_neg (by simp [hb])]),rfl⟩
  ·have ha:=HF.out.1 (by omega)
   have hb:=HF.out.2.1 (by omega);have hc:=HF.out.2.2 (by omega);go_wp2
   go_ret
   exact ⟨Zz0z (by rw [← HD.out,if_neg (by simp [ha]),if_neg (by simp [hb]),hc]),rfl⟩
theorem infoII:(Tryz.prog.info? 3).map (fun i=>(i.zero,i.size,i.bytes))=some (some (.int .i64 0),1,8):=by kernel_rfl
theorem Zz94 (r q:Rec) (d e:Value) (w:World):Calls Tryz.prog 47 #[r.val d,q.val e] w fun en w'=>en= .returned (.int .i64 (ordI r q))∧∃ n os,w'=grow (w.drewN n) os:=by
 obtain ⟨ii,hii,hz0,hz1,hz2⟩:=info_parts infoII;obtain ⟨A1,hA1⟩:∃ o:Obj,o= .cells #[.int .i64 r.O,.int .i64 r.B,.int .i64 r.I,.int .i64 r.P.K,.int .i64 r.P.H,.int .i64 r.P.S,.int .u32 (r.S.toNat:Int),d] 73:=⟨_,rfl⟩;obtain ⟨A2,hA2⟩:∃ o:Obj,o= .cells #[.int .i64 q.O,.int .i64 q.B,.int .i64 q.I,.int .i64 q.P.K,.int .i64 q.P.H,.int .i64 q.P.S,.int .u32 (q.S.toNat:Int),e] 73:=⟨_,rfl⟩;obtain ⟨w2,hw2⟩:∃ w2,w2=(w.alloc A1).alloc A2:=⟨_,rfl⟩;have r1:Row w2 w.heap.size 73 [.int .i64 r.O,.int .i64 r.B,.int .i64 r.I,.int .i64 r.P.K,.int .i64 r.P.H,.int .i64 r.P.S,.int .u32 (r.S.toNat:Int),d]:=by rw [hw2,hA1];exact (Row.new w _ _).alloc _
 have r2:Row w2 (w.heap.size+1) 73 [.int .i64 q.O,.int .i64 q.B,.int .i64 q.I,.int .i64 q.P.K,.int .i64 q.P.H,.int .i64 q.P.S,.int .u32 (q.S.toNat:Int),e]:=by
  have:=Row.new (w.alloc A1) 73 #[.int .i64 q.O,.int .i64 q.B,.int .i64 q.I,.int .i64 q.P.K,.int .i64 q.P.H,.int .i64 q.P.S,.int .u32 (q.S.toNat:Int),e]
  rw [show (w.alloc A1).heap.size=w.heap.size+1 by simp] at this;rw [hw2,hA2];exact this
 have hsz:w2.heap.size=w.heap.size+2:=by rw [hw2];simp
 have R1:=hid r1;have R2:=hid r2;have HSZ:=hid hsz;have HW2:=hid hw2;have HE1:=hid hA1;have HE2:=hid hA2;obtain ⟨gs,hgs⟩:∃ gs,w.heap.size=gs:=⟨_,rfl⟩;rw [hgs] at R1 R2 HSZ;have HGS:=hid hgs;clear r1 r2 hsz hw2 hA1 hA2;unfold Rec.val;go_enter Tryz.func47,Tryz.ntmps47;go_upto_region 1 with fail;rw [← HE1.out,← HE2.out,← HW2.out];try rw [hgs]
 clear hgs;have bnd1:gs < gs+2:=by omega
 have bnd2:gs+1 < gs+2:=by omega
 have c10:=R1.out.cell 0;have c11:=R1.out.cell 1;have c12:=R1.out.cell 2;have c20:=R2.out.cell 0;have c21:=R2.out.cell 1;have c22:=R2.out.cell 2;simp only [ZgS,ZgZ] at c10 c11 c12 c20 c21 c22;have keep:∀ w',Below (gs+2) w2 w'→∀ b i,b < gs+2→w'.cell? ⟨b,i,none⟩=w2.cell? ⟨b,i,none⟩:=fun w' h b i hb=>h.cell (p:=⟨b,i,none⟩) hb
 have x0:Hid (∀ w',Below (gs+2) w2 w'→w'.cell? ⟨gs,0,none⟩=some (.int .i64 r.O)):=hid (fun w' h=>(keep w' h _ _ bnd1).trans c10);have x1:Hid (∀ w',Below (gs+2) w2 w'→w'.cell? ⟨gs,1,none⟩=some (.int .i64 r.B)):=hid (fun w' h=>(keep w' h _ _ bnd1).trans c11);have x2:Hid (∀ w',Below (gs+2) w2 w'→w'.cell? ⟨gs,2,none⟩=some (.int .i64 r.I)):=hid (fun w' h=>(keep w' h _ _ bnd1).trans c12);have y0:Hid (∀ w',Below (gs+2) w2 w'→w'.cell? ⟨gs+1,0,none⟩=some (.int .i64 q.O)):=hid (fun w' h=>(keep w' h _ _ bnd2).trans c20);have y1:Hid (∀ w',Below (gs+2) w2 w'→w'.cell? ⟨gs+1,1,none⟩=some (.int .i64 q.B)):=hid (fun w' h=>(keep w' h _ _ bnd2).trans c21)
 have y2:Hid (∀ w',Below (gs+2) w2 w'→w'.cell? ⟨gs+1,2,none⟩=some (.int .i64 q.I)):=hid (fun w' h=>(keep w' h _ _ bnd2).trans c22);clear keep c10 c11 c12 c20 c21 c22;refine Org.begin [] (fun w'=>Below (gs+2) w2 w') [0,1,2,3,4,5,6,7,8,9,10,11,12,13,14,15,16,17] (by kernel_rfl) (Zz01 (Below.refl _ _) 1) (fun hS=> ?_);(refine Org.yV (SM.of hS) ?_;try simp only [aS,aN,aA,a0,a1]);(refine Org.yA (v:= ?_) (SM.of hS) ?_ ?_;rotate_left;(focus (intro w hSw;(try dsimp only at hSw);have zc:=x0.out _ hSw;refine Pure.val ?_;go_simp;(try with_reducible rfl);done));try simp only [aS,aN,aA,a0,a1]);(refine Org.yV (SM.of hS) ?_;try simp only [aS,aN,aA,a0,a1])
 (refine Org.yA (v:= ?_) (SM.of hS) ?_ ?_;rotate_left;(focus (intro w hSw;(try dsimp only at hSw);have zc:=y0.out _ hSw;refine Pure.val ?_;go_simp;(try with_reducible rfl);done));try simp only [aS,aN,aA,a0,a1]);(refine Org.yA (v:= ?_) (SM.of hS) ?_ ?_;rotate_left;(focus (intro w hSw;(try dsimp only at hSw);refine Pure.call 90 #[.int .i64 r.O,.int .i64 q.O] (by go_simp;first | done | rfl) ?_;refine (Zz5q r.O q.O _ rfl w).mono ?_;rintro e w' ⟨rfl,rfl⟩;refine ⟨?_,rfl⟩;with_reducible rfl));try simp only [aS,aN,aA,a0,a1]);(refine Org.yV (SM.of hS) ?_;try simp only [aS,aN,aA,a0,a1])
 (refine Org.yA (v:= ?_) (SM.of hS) ?_ ?_;rotate_left;(focus (intro w hSw;(try dsimp only at hSw);have zc:=x1.out _ hSw;refine Pure.val ?_;go_simp;(try with_reducible rfl);done));try simp only [aS,aN,aA,a0,a1]);(refine Org.yV (SM.of hS) ?_;try simp only [aS,aN,aA,a0,a1]);(refine Org.yA (v:= ?_) (SM.of hS) ?_ ?_;rotate_left;(focus (intro w hSw;(try dsimp only at hSw);have zc:=y1.out _ hSw;refine Pure.val ?_;go_simp;(try with_reducible rfl);done));try simp only [aS,aN,aA,a0,a1])
 (refine Org.yA (v:= ?_) (SM.of hS) ?_ ?_;rotate_left;(focus (intro w hSw;(try dsimp only at hSw);refine Pure.call 90 #[.int .i64 r.B,.int .i64 q.B] (by go_simp;first | done | rfl) ?_;refine (Zz5q r.B q.B _ rfl w).mono ?_;rintro e w' ⟨rfl,rfl⟩;refine ⟨?_,rfl⟩;with_reducible rfl));try simp only [aS,aN,aA,a0,a1]);(refine Org.yV (SM.of hS) ?_;try simp only [aS,aN,aA,a0,a1]);(refine Org.yA (v:= ?_) (SM.of hS) ?_ ?_;rotate_left;(focus (intro w hSw;(try dsimp only at hSw);have zc:=x2.out _ hSw;refine Pure.val ?_;go_simp;(try with_reducible rfl);done));try simp only [aS,aN,aA,a0,a1]);(refine Org.yV (SM.of hS) ?_;try simp only [aS,aN,aA,a0,a1])
 (refine Org.yA (v:= ?_) (SM.of hS) ?_ ?_;rotate_left;(focus (intro w hSw;(try dsimp only at hSw);have zc:=y2.out _ hSw;refine Pure.val ?_;go_simp;(try with_reducible rfl);done));try simp only [aS,aN,aA,a0,a1]);(refine Org.yA (v:= ?_) (SM.of hS) ?_ ?_;rotate_left;(focus (intro w hSw;(try dsimp only at hSw);refine Pure.call 90 #[.int .i64 r.I,.int .i64 q.I] (by go_simp;first | done | rfl) ?_;refine (Zz5q r.I q.I _ rfl w).mono ?_;rintro e w' ⟨rfl,rfl⟩;refine ⟨?_,rfl⟩;with_reducible rfl));try simp only [aS,aN,aA,a0,a1]);refine Org.gA fun K hK=> ?_
 skip;refine Zzf0 22 3 (.tmp 9) (.tmp 14) (.tmp 19) (by rfl) (.int .i64 (cmpI r.O q.O)) (.int .i64 (cmpI r.B q.B)) (.int .i64 (cmpI r.I q.I)) (by rfl) (by rfl) (by rfl) rfl rfl rfl ii (.int .i64 0) Tryz.underlying22 hii hz0 hz1 rfl ?_;refine hK.out _ _ (hS.alloc (by rw [show w2.drew.heap.size=w2.heap.size from rfl,HSZ.out];omega) _) (fun hS2=> ?_);clear hK K hS;have hS:=hS2;clear hS2;try simp only [aS,aN,aA,a0,a1]
 refine Org.gA fun K hK=> ?_
 go_simp;go_at_call 89;have hro:Row (w2.drew.alloc (.cells #[.int .i64 (cmpI r.O q.O),.int .i64 (cmpI r.B q.B),.int .i64 (cmpI r.I q.I)] 3)) (gs+2) 3 [.int .i64 (cmpI r.O q.O),.int .i64 (cmpI r.B q.B),.int .i64 (cmpI r.I q.I)]:=by
  have:=Row.new w2.drew 3 #[.int .i64 (cmpI r.O q.O),.int .i64 (cmpI r.B q.B),.int .i64 (cmpI r.I q.I)]
  rwa [show w2.drew.heap.size=w2.heap.size from rfl,HSZ.out] at this
 have o0:=hro.cell 0;have o1:=hro.cell 1;have o2:=hro.cell 2;simp only [ZgS,ZgZ] at o0 o1 o2;rw [HSZ.out];refine (Zzi4 (gs+2) _ _ _ _ _ o0 o1 o2 rfl).mono ?_;rintro en wz ⟨rfl,rfl⟩;clear hro o0 o1 o2;go_wp2_with fail;refine hK.out _ _ hS (fun hS2=> ?_);clear hK K hS;have hS:=hS2;clear hS2;try simp only [aS,aN,aA,a0,a1]
 (refine Org.yV (SM.of hS) ?_;try simp only [aS,aN,aA,a0,a1]);refine Org.done (by kernel_rfl) ?_;skip;go_wp2_with fail;go_ret
 refine ⟨rfl,1,#[A1,A2,.cells #[.int .i64 (cmpI r.O q.O),.int .i64 (cmpI r.B q.B),.int .i64 (cmpI r.I q.I)] 3],?_⟩;rw [HW2.out];simp only [alloc_eq_grow,grow_grow,drew_grow];rfl
end Go.Proofs.YtnknjeipfjdjoaaGreatDoor
