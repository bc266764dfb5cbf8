/- StableMath -/
import Derived.Sort.Defs
import Derived.Test.YtnknjeipfjdjoaaGreatDoorBScanTells00
set_option maxHeartbeats 8000000
set_option maxRecDepth 20000
set_option linter.unusedSimpArgs false
set_option linter.unusedVariables false
set_option linter.unusedSectionVars false
namespace Wells
open Go.Sort
variable {α:Type}
theorem Zz39 {p:List α→Prop} (h0:p []) (h1:∀ l x,p l→p (l++ [x])) (l:List α):p l:=by
 have:∀ r:List α,p r.reverse:=fun r=>by
  induction r with
  | nil=>exact h0
  | cons x r ih=>simpa using h1 _ x ih
 simpa using this l.reverse
structure SOrd (lt:α→α→Bool):Prop where
 asym:∀ {x y},lt x y=true→lt y x=false
 tr:∀ {x y z},lt x y=true→lt z y=false→lt x z=true
 tr':∀ {x y z},lt y x=false→lt y z=true→lt x z=true
 le:∀ {x y z},lt y x=false→lt z y=false→lt z x=false
def ins (lt:α→α→Bool) (x:α):List α→List α
 | []=> [x]
 | y::ys=>if lt x y then x::y::ys else y::ins lt x ys
def mrg (lt:α→α→Bool) (L R:List α):List α:=R.foldl (fun acc x=>ins lt x acc) L
def ssort (lt:α→α→Bool) (l:List α):List α:=mrg lt [] l
def Srt (lt:α→α→Bool) (l:List α):Prop:=l.Pairwise fun a b=>lt b a=false
section
variable {lt:α→α→Bool}
theorem Zz6a (x:α):∀ l,(ins lt x l).length=l.length+1
 | []=>rfl
 | y::ys=>by unfold ins;split <;> simp [Zz6a x ys]
theorem Zzau {x z:α}:∀ {l:List α},z∈ins lt x l↔z=x∨z∈l
 | []=>by simp [ins]
 | y::ys=>by
  unfold ins;split
  ·simp
  ·simp only [List.mem_cons,Zzau]
   constructor
   ·rintro (h | h | h) <;> simp [h]
   ·rintro (h | h | h) <;> simp [h]
theorem Zzc6 (ho:SOrd lt) (x:α):∀ {l:List α},Srt lt l→Srt lt (ins lt x l)
 | [],_=>by simp [ins,Srt]
 | y::ys,h=>by
  unfold Srt at h;rw [List.pairwise_cons] at h;unfold ins;split
  ·rename_i hxy
   unfold Srt;rw [List.pairwise_cons,List.pairwise_cons];refine ⟨fun z hz=> ?_,h⟩;rcases List.mem_cons.1 hz with rfl | hz
   ·exact ho.asym hxy
   ·exact ho.asym (ho.tr hxy (h.1 z hz))
  ·rename_i hxy
   have hxy:lt x y=false:=by simpa using hxy
   unfold Srt;rw [List.pairwise_cons];refine ⟨fun z hz=> ?_,Zzc6 ho x h.2⟩;rcases Zzau.1 hz with rfl | hz
   ·exact hxy
   ·exact h.1 z hz
theorem Zz7h {x:α} {Y:List α} (hY:∀ y∈Y,lt x y=true):∀ X,ins lt x (X++Y)=ins lt x X++Y
 | []=>by
  cases Y with
  | nil=>rfl
  | cons y ys=>simp [ins,hY y (by simp)]
 | a::X=>by
  simp only [List.cons_append,ins];split
  ·rfl
  ·rw [Zz7h hY X];rfl
theorem Zz3k {x:α} {Y:List α}:∀ X,(∀ y∈X,lt x y=false)→ins lt x (X++Y)=X++ins lt x Y
 | [],_=>rfl
 | a::X,h=>by
  simp only [List.cons_append,ins,h a (by simp)];simp only [Bool.false_eq_true,↓reduceIte,List.cons.injEq,true_and];exact Zz3k X fun y hy=>h y (by simp [hy])
theorem Zzbs {x:α} {X Y:List α} (hX:∀ y∈X,lt x y=false) (hY:∀ y∈Y,lt x y=true):ins lt x (X++Y)=X++x::Y:=by
 rw [Zz3k X hX];have:=Zz7h (lt:=lt) (x:=x) hY []
 simpa [ins] using this
theorem Zz4p (L:List α):mrg lt L []=L:=rfl
theorem Zz19 (L:List α) (x:α) (R:List α):mrg lt L (x::R)=mrg lt (ins lt x L) R:=rfl
theorem Zzcm (L A B:List α):mrg lt L (A++B)=mrg lt (mrg lt L A) B:=by simp [mrg,List.foldl_append]
theorem Zz7s (L:List α) (R:List α) (x:α):mrg lt L (R++ [x])=ins lt x (mrg lt L R):=by rw [Zzcm];rfl
theorem Zzbo {z:α}:∀ {R L:List α},z∈mrg lt L R↔z∈L∨z∈R
 | [],L=>by simp [Zz4p]
 | x::R,L=>by
  rw [Zz19,Zzbo,Zzau,List.mem_cons];constructor
  ·rintro ((h | h) | h) <;> simp [h]
  ·rintro (h | h | h) <;> simp [h]
theorem Zz1s:∀ (R L:List α),(mrg lt L R).length=L.length+R.length
 | [],L=>by simp [Zz4p]
 | x::R,L=>by rw [Zz19,Zz1s R,Zz6a];simp;omega
theorem Zzfs (ho:SOrd lt):∀ (R:List α) {L:List α},Srt lt L→Srt lt (mrg lt L R)
 | [],_,h=>h
 | x::R,_,h=>Zzfs ho R (Zzc6 ho x h)
theorem Zzav {Y:List α}:∀ (R L:List α),(∀ r∈R,∀ y∈Y,lt r y=true)→mrg lt (L++Y) R=mrg lt L R++Y
 | [],_,_=>rfl
 | r::R,L,h=>by
  rw [Zz19,Zz19,Zz7h (h r (by simp)) L];exact Zzav R _ fun r' hr=>h r' (by simp [hr])
theorem Zz4z {X:List α}:∀ (R L:List α),(∀ r∈R,∀ x∈X,lt r x=false)→mrg lt (X++L) R=X++mrg lt L R
 | [],_,_=>rfl
 | r::R,L,h=>by
  rw [Zz19,Zz19,Zz3k X (h r (by simp))];exact Zz4z R _ fun r' hr=>h r' (by simp [hr])
theorem Zzer {L1 L2 R1 R2:List α} (h1:∀ r∈R1,∀ l∈L2,lt r l=true) (h2:∀ r∈R2,∀ l∈L1,lt r l=false) (h3:∀ r∈R2,∀ l∈R1,lt r l=false):
  mrg lt (L1++L2) (R1++R2)=mrg lt L1 R1++mrg lt L2 R2:=by
 rw [Zzcm,Zzav R1 L1 h1];refine Zz4z R2 L2 fun r hr x hx=> ?_
 rcases Zzbo.1 hx with hx | hx
 ·exact h2 r hr x hx
 ·exact h3 r hr x hx
theorem Zz33:∀ {R:List α},Srt lt R→mrg lt [] R=R:=by
 intro R;induction R using Zz39 with
 | h0=>intro _;rfl
 | h1 R x ih=>
  intro h;unfold Srt at h;rw [List.pairwise_append] at h;rw [Zz7s,ih h.1];have:=Zz3k (lt:=lt) (x:=x) (Y:= []) R (fun y hy=>h.2.2 y hy x (by simp))
  simpa [ins] using this
theorem Zzbr (ho:SOrd lt) {x s:α} (hx:lt x s=true):∀ M,ins lt s (ins lt x M)=ins lt x (ins lt s M)
 | []=>by simp [ins,hx,ho.asym hx]
 | m::M=>by
  by_cases h1:lt x m=true
  ·simp only [ins,h1,if_true]
   simp only [ins,ho.asym hx,Bool.false_eq_true,↓reduceIte];by_cases h2:lt s m=true
   ·simp [ins,h2,hx]
   ·simp [ins,h2,h1]
  ·have h1:lt x m=false:=by simpa using h1
   have h2:lt s m=false:=ho.le h1 (ho.asym hx);simp only [ins,h1,h2,Bool.false_eq_true,↓reduceIte];rw [Zzbr ho hx M]
theorem Zzg0 (ho:SOrd lt) {x:α}:∀ (S M:List α),(∀ s∈S,lt x s=true)→mrg lt (ins lt x M) S=ins lt x (mrg lt M S)
 | [],_,_=>rfl
 | s::S,M,h=>by
  rw [Zz19,Zz19,Zzbr ho (h s (by simp)),Zzg0 ho S _ fun t ht=>h t (by simp [ht])]
theorem Zz72 (ho:SOrd lt) {x:α}:∀ (S L:List α),Srt lt S→mrg lt L (ins lt x S)=ins lt x (mrg lt L S)
 | [],_,_=>rfl
 | y::S,L,h=>by
  unfold Srt at h;rw [List.pairwise_cons] at h;by_cases h1:lt x y=true
  ·simp only [ins,h1,if_true]
   rw [Zz19,Zzg0 ho (y::S) L];intro s hs;rcases List.mem_cons.1 hs with rfl | hs
   ·exact h1
   ·exact ho.tr h1 (h.1 s hs)
  ·simp only [ins,h1,Bool.false_eq_true,↓reduceIte]
   rw [Zz19,Zz19,Zz72 ho S _ h.2]
theorem Zz0q (ho:SOrd lt) (l:List α):Srt lt (ssort lt l):=Zzfs ho l List.Pairwise.nil
theorem Zz09 (l:List α):(ssort lt l).length=l.length:=by unfold ssort;rw [Zz1s];simp
theorem Zz2d {z:α} {l:List α}:z∈ssort lt l↔z∈l:=by unfold ssort;rw [Zzbo];simp
theorem Zz1q (l:List α) (x:α):ssort lt (l++ [x])=ins lt x (ssort lt l):=Zz7s _ _ _
theorem Zzef (ho:SOrd lt) (L:List α):∀ B,mrg lt L (ssort lt B)=mrg lt L B:=by
 intro B;induction B using Zz39 with
 | h0=>rfl
 | h1 B x ih=>rw [Zz1q,Zz72 ho _ _ (Zz0q ho B),ih,Zz7s]
theorem Zz8q (ho:SOrd lt) (A B:List α):mrg lt (ssort lt A) (ssort lt B)=ssort lt (A++B):=by
 rw [Zzef ho];unfold ssort;rw [Zzcm]
end
/-! ### exchanges -/
variable [Inhabited α]
theorem Zzhr {d:Array α} {P S:List α} {x:α} {i:Nat} (h:d.toList=P++x::S) (hi:P.length=i):d[i]! =x:=by
 subst hi;have h2:d.toList[P.length]? =some x:=by rw [h];simp
 rw [Array.getElem?_toList] at h2;rw [getElem!_def,h2]
theorem Zzgk {d:Array α} {P M S:List α} {x y:α} {i j:Nat} (h:d.toList=P++x::(M++y::S)) (hi:P.length=i) (hj:P.length+1+M.length=j):
  (swp d i j).toList=P++y::(M++x::S)∧(swp d j i).toList=P++y::(M++x::S):=by
 have e1:d[i]! =x:=Zzhr h hi;have e2:d[j]! =y:=Zzhr (P:=P++x::M) (S:=S) (by simpa using h) (by simp;omega);subst hi hj;unfold swp;rw [e1,e2];constructor
 ·simp only [Array.toList_setIfInBounds,h]
  rw [List.set_append_right _ _ (ZnR _)];simp only [Nat.sub_self,List.set_cons_zero];rw [List.set_append_right _ _ (by omega)];rw [show P.length+1+M.length - P.length=M.length+1 by omega,List.set_cons_succ,List.set_append_right _ _ (ZnR _)];simp
 ·simp only [Array.toList_setIfInBounds,h]
  rw [List.set_append_right _ _ (by omega)];rw [show P.length+1+M.length - P.length=M.length+1 by omega,List.set_cons_succ,List.set_append_right _ _ (ZnR _)];simp only [Nat.sub_self,List.set_cons_zero];rw [List.set_append_right _ _ (ZnR _)];simp
end Wells
