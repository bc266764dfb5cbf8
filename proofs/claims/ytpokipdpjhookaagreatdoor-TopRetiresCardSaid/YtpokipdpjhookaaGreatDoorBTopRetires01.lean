/- Ord OrdA Frame StableMath StableMath2 Swl MapB PlaneMath -/
import Derived.ProofKit
import Derived.OpenShut
import Derived.ShutString
import Derived.Shelf.SlSortCmp.KitK
import Derived.Maps.OwnSet
import Derived.Laws.ComplexArith
import Derived.Test.YtpokipdpjhookaaGreatDoorBTopRetires00
set_option maxHeartbeats 8000000
set_option maxRecDepth 20000
set_option linter.all false
namespace Go.Proofs
open Go Go.RowKit Tryz
variable {w:World} {p:Addr} {n m k i j N:Nat} {l:List Value} {c:Int} {A:Option Addr} {t T:TypeId} {x:Value}
section
section
variable {P:Program} {md:Region.Mode} {ops:Array Oper} {Q:Exit→V_} {S:U1→Prop}
/-- what is left of a region, and the order in which it is walked -/
def ZG (P:Program) (md:Region.Mode) (ops:Array Oper) (Q:Exit→V_) (S:U1→Prop) (_order:List Nat) (fuel:Nat) (listed:Array Bool) (a:Act) (w:U1):Prop:=wpAnyH P md ops Q S fuel listed a w
theorem ZG.begin {id:Nat}{a:Act}{w:U1}(order:List Nat)(hm:P.follows .mixedOrders=true)(hS:S w.drew)
  (h:S w.drew→ZG P .any ops Q S order ops.size (Array.replicate ops.size false) a w.drew):(Code.region id ops true).wp P Q a w:=wp_region_held_drew hm hS h
theorem ZG.no {i fuel:Nat}{order:List Nat}{listed:Array Bool}{a:Act}{w:U1}{oi:Oper}(hi:ops.toList[i]? =some oi)
  (hs:Region.noSelect ops=true) (hf:Region.free md ops listed i=true) (hr:(Region.ready md ops listed).contains i=true)
  (hQ:∀c a w,Q (.panic c) (a.put oi.dst undef) w→Q (.panic c) a w) (hw:Region.wanted oi (yielded ops a.tmps)=false) (hS:S w)
  (h:ZG P md ops Q S order fuel (listed.setIfInBounds i true) (a.put oi.dst undef) w):ZG P md ops Q S (i::order) (fuel+1) listed a w:=
 wpAnyH_take (by simpa using hi) hs hf hr hQ (Or.inr ⟨hw,rfl⟩) hS h
theorem ZG.yes {i fuel:Nat}{order:List Nat}{listed:Array Bool}{a:Act}{w:U1}{oi:Oper}{v:U2}(hi:ops.toList[i]? =some oi)
  (hs:Region.noSelect ops=true) (hf:Region.free md ops listed i=true) (hr:(Region.ready md ops listed).contains i=true)
  (hQ:∀c a w,Q (.panic c) (a.put oi.dst v) w→Q (.panic c) a w) (hw:Region.wanted oi (yielded ops a.tmps)=true) (hS:S w) (hy:∀w,S w→(execOp a.eval oi).run P w=.ok (.value v) w)
  (h:ZG P md ops Q S order fuel (listed.setIfInBounds i true) (a.put oi.dst v) w):ZG P md ops Q S (i::order) (fuel+1) listed a w:=
 wpAnyH_take (by simpa using hi) hs hf hr hQ (Or.inl ⟨hw,hy⟩) hS h
theorem ZG.go {i fuel:Nat}{order:List Nat}{listed:Array Bool}{a:Act}{w:U1}{oi:Oper}(hi:ops.toList[i]? =some oi)(hr:Region.ready md ops listed=[i])(hw:Region.wanted oi (yielded ops a.tmps)=true)
  (h:∀K':V_,Shut (∀a w,S w→(S w→ZG P md ops Q S order fuel (listed.setIfInBounds i true) a w)→K' a w)→Oper.wp P oi a w K' Q):ZG P md ops Q S (i::order) (fuel+1) listed a w:=
 wpAnyH_ready hr (by simp) (AllReadyH.cons (by simpa using hi) (fun K' hK=>by rw[if_pos hw];exact h K' hK) AllReadyH.nil)
theorem ZG.done {fuel:Nat}{listed:Array Bool}{a:Act}{w:U1}(hr:Region.ready md ops listed=[])(h:Q .normal a w):ZG P md ops Q S [] fuel listed a w:=wpAnyH_done hr h fuel
end
end
section
section
variable {P:Program} {md:Region.Mode} {ops:Array Oper} {Q:Exit→V_} {S:U1→Prop} {i fuel:Nat} {order:List Nat} {listed:Array Bool} {a:Act} {w:U1} {oi:Oper} {v:U2}
theorem ZG.nA (hS:S w)(h:ZG P md ops Q S order fuel (listed.setIfInBounds i true) (a.put oi.dst undef) w)
  (hi:ops.toList[i]? =some oi:=by rfl) (hs:Region.noSelect ops=true:=by kernel_rfl) (hf:Region.free md ops listed i=true:=by kernel_rfl) (hr:(Region.ready md ops listed).contains i=true:=by kernel_rfl)
  (hQ:∀c a w,Q (.panic c) (a.put oi.dst undef) w→Q (.panic c) a w:=by exact fun _ _ _ h=>h) (hw:Region.wanted oi (yielded ops a.tmps)=false:=by kernel_rfl):ZG P md ops Q S (i::order) (fuel+1) listed a w:=ZG.no hi hs hf hr hQ hw hS h
theorem ZG.yA (hS:S w)(hy:∀w,S w→(execOp a.eval oi).run P w=.ok (.value v) w)(h:ZG P md ops Q S order fuel (listed.setIfInBounds i true) (a.put oi.dst v) w)
  (hi:ops.toList[i]? =some oi:=by rfl) (hs:Region.noSelect ops=true:=by kernel_rfl) (hf:Region.free md ops listed i=true:=by kernel_rfl) (hr:(Region.ready md ops listed).contains i=true:=by kernel_rfl)
  (hQ:∀c a w,Q (.panic c) (a.put oi.dst v) w→Q (.panic c) a w:=by exact fun _ _ _ h=>h) (hw:Region.wanted oi (yielded ops a.tmps)=true:=by kernel_rfl):ZG P md ops Q S (i::order) (fuel+1) listed a w:=ZG.yes hi hs hf hr hQ hw hS hy h
theorem ZG.yV (hS:S w)(h:ZG P md ops Q S order fuel (listed.setIfInBounds i true) (a.put oi.dst v) w)
  (hi:ops.toList[i]? =some oi:=by rfl) (hs:Region.noSelect ops=true:=by kernel_rfl) (hf:Region.free md ops listed i=true:=by kernel_rfl) (hr:(Region.ready md ops listed).contains i=true:=by kernel_rfl)
  (hw:Region.wanted oi (yielded ops a.tmps)=true:=by kernel_rfl) (hy:∀w,S w→(execOp a.eval oi).run P w=.ok (.value v) w:=by(intro w hSw;(try dsimp only at hSw);go_simp;(try with_reducible rfl);done)) (hQ:∀c a w,Q (.panic c) (a.put oi.dst v) w→Q (.panic c) a w:=by exact fun _ _ _ h=>h):ZG P md ops Q S (i::order) (fuel+1) listed a w:=ZG.yes hi hs hf hr hQ hw hS hy h
theorem ZG.gA (h:∀K':V_,Shut (∀a w,S w→(S w→ZG P md ops Q S order fuel (listed.setIfInBounds i true) a w)→K' a w)→Oper.wp P oi a w K' Q)(hi:ops.toList[i]? =some oi:=by rfl)(hr:Region.ready md ops listed=[i]:=by kernel_rfl)(hw:Region.wanted oi (yielded ops a.tmps)=true:=by kernel_rfl):ZG P md ops Q S (i::order) (fuel+1) listed a w:=ZG.go hi hr hw h
theorem bS (a:Act)(d:Tmp)(v:U2):a.put (some d) v={ a with tmps:=a.tmps.setIfInBounds d v}:=rfl
theorem bN (a:Act)(v:U2):a.put none v=a:=rfl
theorem bA {α:Type}(l:List α)(i:Nat)(x:α):l.toArray.setIfInBounds i x=(l.set i x).toArray:=List.setIfInBounds_toArray ..
theorem bY {α:Type}(x:α)(l:List α)(y:α):(x::l).set 0 y=y::l:=rfl
theorem bX {α:Type}(x:α)(l:List α)(i:Nat)(y:α):(x::l).set (i+1) y=x::l.set i y:=rfl
end
end
section
open Go.ChangeShapes Go.WideShapes Go.ChangeAt
structure Z2Q (w:World) (A:Option Addr) (n c:Nat) (l:List Int):Prop where
 sl:Sl w w.heap.size 1 A n (l.map (Value.int .i64))
 le:n≤c
 cap:c≤9223372036854775807
 wf:∀z∈l,-9223372036854775808≤z∧z≤9223372036854775807
theorem Zcp (o:l.length=n)(h:∀i,i<n→w.cell? (p.add i)=l[i]?):Sl w w 1 (some p) n l:=by
 refine⟨Y,fun e=>?_⟩;obtain⟨b,f,g⟩:=p;have k:l[0]? =some (l[0]'Y):=Z7 Y;have c:=(h 0 e).trans k;have m:g=none:=by simpa[Addr.add]using World.cell?_spot c
 subst m;rw[addr_add]at c;refine⟨b,f,rfl,YC w _ c,fun j u d=>?_⟩;have a:j<n:=by
  rcases Yf j l.length with a|a;·omega
  ·rw[XX a]at d;cases d
 have:=h j a;rw[addr_add]at this;rw[this,d]
theorem Zc2 (a:0≤c)(b:c≤255):Za (BitVec.ofNat 8 c.toNat)=.int .u8 c:=by unfold Za;rw[Z2Y,Z2R Y];congr 1;omega
theorem Z5O {H:Type}{f:TypeId×U2→H}{P:Program}{g:Nat→Bool}{h:Bool}{x:DataW H×List MemPlace}
  (o:P.underlying i=some (.slice j)) (p:P.underlying j=some (.int .i64)) (q:P.cellsOf j=1) (r:DataW.trod f P w n g h N i [(A,m,k)]=some x):∃l,Z2Q w A m k l:=by
 rcases open_ints o p q r with ⟨c,_⟩|⟨a,D,E,e,c,_,s,t,d,_,v,y⟩;·simp at c;obtain⟨rfl,rfl,rfl⟩:=c;exact⟨[],Sl.nil_,Y,Y,Ze⟩
 ·simp at c;obtain⟨rfl,rfl,rfl⟩:=c;have B:m≤e.length:=by rw[d];split <;> omega
  refine⟨e.take m,?_,s,by unfold maxLen at t;omega,fun z d=>bounds_i64 (y z (Z3F d))⟩;refine Zcp (by simp[B]) fun b C=>?_;rw[v b Y,ZO,Z0K,if_pos C,Z7 Y];rw[Z6,Z7 Y];rfl
end
section
open Go.Sort
variable {α:Type}
theorem ZaC {p:List α→Prop}(h0:p [])(h1:∀l x,p l→p (l++ [x]))(l:List α):p l:=by
 have:∀r:List α,p r.reverse:=fun r=>by
  induction r with
  |nil=>exact h0
  |cons x r ih=>simpa using h1 _ x ih
 simpa using this l.reverse
structure We (lt:α→α→Bool):Prop where
 asym:∀{x y},lt x y=true→lt y x=false
 tr:∀{x y z},lt x y=true→lt z y=false→lt x z=true
 tr':∀{x y z},lt y x=false→lt y z=true→lt x z=true
 le:∀{x y z},lt y x=false→lt z y=false→lt z x=false
def ins (lt:α→α→Bool) (x:α):List α→List α
 | []=> [x]
 |y::ys=>if lt x y then x::y::ys else y::ins lt x ys
def Y3 (lt:α→α→Bool) (L R:List α):List α:=R.foldl (fun a x=>ins lt x a) L
def Yc (lt:α→α→Bool) (l:List α):List α:=Y3 lt [] l
def Xi (lt:α→α→Bool) (l:List α):Prop:=l.Pairwise fun a b=>lt b a=false
section
variable {lt:α→α→Bool}
theorem Z8k (x:α):∀l,(ins lt x l).length=l.length+1
 | []=>rfl
 |y::ys=>by unfold ins;split <;> simp[Z8k x ys]
theorem Z7a {x z:α}:∀{l:List α},z∈ins lt x l↔z=x∨z∈l
 | []=>by simp[ins]
 |y::ys=>by
  unfold ins;split;·simp
  ·simp only[Xy,Z7a];constructor;·rintro(h|h|h) <;> simp[h]
   ·rintro(h|h|h) <;> simp[h]
theorem ZaV (c:We lt)(x:α):∀{l:List α},Xi lt l→Xi lt (ins lt x l)
 | [],_=>by simp[ins,Xi]
 |y::ys,h=>by
  unfold Xi at h;rw[VF]at h;unfold ins;split
  ·rename_i b;unfold Xi;rw[VF,VF];refine⟨fun z a=>?_,h⟩;rcases Xy.1 a with rfl|a;·exact c.asym b
   ·exact c.asym (c.tr b (h.1 z a))
  ·rename_i b;have b:lt x y=false:=(by simpa using b);unfold Xi;rw[VF];refine⟨fun z a=>?_,ZaV c x h.2⟩;rcases Z7a.1 a with rfl|a;·exact b
   ·exact h.1 z a
theorem Z6Y {x:α}{U8:List α}(b:∀y∈U8,lt x y=true):∀X,ins lt x (X++U8)=ins lt x X++U8
 | []=>by
  cases U8 with
  |nil=>rfl
  |cons y ys=>simp[ins,b y Ze]
 |a::X=>by
  simp only[Z0L,ins];split;·rfl
  ·rw[Z6Y b X];rfl
theorem Z4M {x:α}{U8:List α}:∀X,(∀y∈X,lt x y=false)→ins lt x (X++U8)=X++ins lt x U8
 | [],_=>rfl
 |a::X,h=>by simp only[Z0L,ins,h a Ze];simp only[Z2j,↓reduceIte,List.cons.injEq,true_and];exact Z4M X fun y b=>h y (by simp[b])
theorem Zap {x:α}{X U8:List α}(a:∀y∈X,lt x y=false)(b:∀y∈U8,lt x y=true):ins lt x (X++U8)=X++x::U8:=by rw[Z4M X a];have:=Z6Y (lt:=lt) (x:=x) b [];simpa[ins]using this
theorem Z5j (L:List α):Y3 lt L []=L:=rfl
theorem Z0C (L:List α)(x:α)(R:List α):Y3 lt L (x::R)=Y3 lt (ins lt x L) R:=rfl
theorem Z71 (L A B:List α):Y3 lt L (A++B)=Y3 lt (Y3 lt L A) B:=by simp[Y3,Z2m]
theorem Z6V (L:List α)(R:List α)(x:α):Y3 lt L (R++ [x])=ins lt x (Y3 lt L R):=by rw[Z71];rfl
theorem Z72 {z:α}:∀{R L:List α},z∈Y3 lt L R↔z∈L∨z∈R
 | [],L=>by simp[Z5j]
 |x::R,L=>by
  rw[Z0C,Z72,Z7a,Xy];constructor;·rintro((h|h)|h) <;> simp[h]
  ·rintro(h|h|h) <;> simp[h]
theorem Z4G:∀(R L:List α),(Y3 lt L R).length=L.length+R.length
 | [],L=>by simp[Z5j]
 |x::R,L=>by rw[Z0C,Z4G R,Z8k];simp;omega
theorem Zal (a:We lt):∀(R:List α) {L:List α},Xi lt L→Xi lt (Y3 lt L R)
 | [],_,h=>h
 |x::R,_,h=>Zal a R (ZaV a x h)
theorem Z9V {U8:List α}:∀(R L:List α),(∀r∈R,∀y∈U8,lt r y=true)→Y3 lt (L++U8) R=Y3 lt L R++U8
 | [],_,_=>rfl
 |r::R,L,h=>by rw[Z0C,Z0C,Z6Y (h r Ze) L];exact Z9V R _ fun a b=>h a (by simp[b])
theorem Z6i {X:List α}:∀(R L:List α),(∀r∈R,∀x∈X,lt r x=false)→Y3 lt (X++L) R=X++Y3 lt L R
 | [],_,_=>rfl
 |r::R,L,h=>by rw[Z0C,Z0C,Z4M X (h r Ze)];exact Z6i R _ fun a b=>h a (by simp[b])
theorem ZdJ {d e a b:List α}(g:∀r∈a,∀l∈e,lt r l=true)(h:∀r∈b,∀l∈d,lt r l=false)(i:∀r∈b,∀l∈a,lt r l=false):
  Y3 lt (d++e) (a++b)=Y3 lt d a++Y3 lt e b:=by
 rw[Z71,Z9V a d g];refine Z6i b e fun r f x c=>?_;rcases Z72.1 c with c|c;·exact h r f x c
 ·exact i r f x c
theorem Z5e:∀{R:List α},Xi lt R→Y3 lt [] R=R:=by
 intro R;induction R using ZaC with
 |h0=>intro _;rfl
 |h1 R x ih=>intro h;unfold Xi at h;rw[Z2P]at h;rw[Z6V,ih h.1];have:=Z4M (lt:=lt) (x:=x) (U8:= []) R (fun y a=>h.2.2 y a x Ze);simpa[ins]using this
theorem Za6 (c:We lt){x s:α}(a:lt x s=true):∀M,ins lt s (ins lt x M)=ins lt x (ins lt s M)
 | []=>by simp[ins,a,c.asym a]
 |m::M=>by
  by_cases b:lt x m=true
  ·simp only[ins,b,if_true];simp only[ins,c.asym a,Z2j,↓reduceIte];by_cases d:lt s m=true;·simp[ins,d,a]
   ·simp[ins,d,b]
  ·have b:lt x m=false:=(by simpa using b);have d:lt s m=false:=c.le b (c.asym a);simp only[ins,b,d,Z2j,↓reduceIte];rw[Za6 c a M]
theorem ZaN (a:We lt){x:α}:∀(S M:List α),(∀s∈S,lt x s=true)→Y3 lt (ins lt x M) S=ins lt x (Y3 lt M S)
 | [],_,_=>rfl
 |s::S,M,h=>by rw[Z0C,Z0C,Za6 a (h s Ze),ZaN a S _ fun t b=>h t (by simp[b])]
theorem Z8B (b:We lt){x:α}:∀(S L:List α),Xi lt S→Y3 lt L (ins lt x S)=ins lt x (Y3 lt L S)
 | [],_,_=>rfl
 |y::S,L,h=>by
  unfold Xi at h;rw[VF]at h;by_cases a:lt x y=true
  ·simp only[ins,a,if_true];rw[Z0C,ZaN b (y::S) L];intro s c;rcases Xy.1 c with rfl|c;·exact a
   ·exact b.tr a (h.1 s c)
  ·simp only[ins,a,Z2j,↓reduceIte];rw[Z0C,Z0C,Z8B b S _ h.2]
theorem Z3h (a:We lt)(l:List α):Xi lt (Yc lt l):=Zal a l List.Pairwise.nil
theorem Z0T (l:List α):(Yc lt l).length=l.length:=by unfold Yc;rw[Z4G];simp
theorem Z6b {z:α}{l:List α}:z∈Yc lt l↔z∈l:=by unfold Yc;rw[Z72];simp
theorem Z8u (l:List α)(x:α):Yc lt (l++ [x])=ins lt x (Yc lt l):=Z6V _ _ _
theorem Zep (a:We lt)(L:List α):∀B,Y3 lt L (Yc lt B)=Y3 lt L B:=by
 intro B;induction B using ZaC with
 |h0=>rfl
 |h1 B x ih=>rw[Z8u,Z8B a _ _ (Z3h a B),ih,Z6V]
theorem Z8Y (a:We lt)(A B:List α):Y3 lt (Yc lt A) (Yc lt B)=Yc lt (A++B):=by rw[Zep a];unfold Yc;rw[Z71]
end
/-! ### exchanges -/
variable [Inhabited α]
theorem Zbe {d:Array α}{P S:List α}{x:α}{i:Nat}(h:d.toList=P++x::S)(b:P.length=i):d[i]! =x:=by
 subst b;have a:d.toList[P.length]? =some x:=by rw[h];simp
 rw[Z0u]at a;rw[getElem!_def,a]
theorem ZgW {d:Array α}{P M S:List α}{x y:α}{i j:Nat}(h:d.toList=P++x::(M++y::S))(a:P.length=i)(b:P.length+1+M.length=j):
  (swp d i j).toList=P++y::(M++x::S)∧(swp d j i).toList=P++y::(M++x::S):=by
 have c:d[i]! =x:=Zbe h a;have e:d[j]! =y:=Zbe (P:=P++x::M) (S:=S) (by simpa using h) Zx;subst a b;unfold swp;rw[c,e];constructor;·simp only[Array.toList_setIfInBounds,h];rw[Wn _ _ (Z4 _)];simp only[W9,YL];rw[Wn _ _ Y];rw[show P.length+1+M.length-P.length=M.length+1 from Y,Xz,Wn _ _ (Z4 _)];simp
 ·simp only[Array.toList_setIfInBounds,h];rw[Wn _ _ Y];rw[show P.length+1+M.length-P.length=M.length+1 from Y,Xz,Wn _ _ (Z4 _)];simp only[W9,YL];rw[Wn _ _ (Z4 _)];simp
end
section
open Go.Sort
variable {α:Type}
section
variable [Inhabited α]
def swr (P X M U8 S:List α) (i:Nat):List α:=P++(U8.take i++(X.drop i++(M++(X.take i++(U8.drop i++S)))))
theorem Zfv {A X M U8 S:List α}{i n a b:Nat}(k:X.length=n)(l:U8.length=n)(m:i<n)(o:A.length+i=a)(p:A.length+n+M.length+i=b):
  ∃c d e x y,swr A X M U8 S i=c++x::(d++y::e)∧swr A X M U8 S (i+1)=c++y::(d++x::e)∧c.length=a∧a+1+d.length=b:=by
 obtain⟨x,f,g⟩:∃x,X.drop i=x::X.drop (i+1)∧X.take (i+1)=X.take i++ [x]:=⟨X[i],Z0q Y,ZR Y⟩;obtain⟨y,h,j⟩:∃y,U8.drop i=y::U8.drop (i+1)∧U8.take (i+1)=U8.take i++ [y]:=⟨U8[i],Z0q Y,ZR Y⟩;refine⟨A++U8.take i,X.drop (i+1)++(M++X.take i),U8.drop (i+1)++S,x,y,?_,?_,Zx,Zx⟩;·unfold swr;rw[f,h];simp
 ·unfold swr;rw[g,j];simp
theorem Zf2 (P X M U8 S:List α):swr P X M U8 S 0=P++(X++(M++(U8++S))):=by simp[swr]
theorem Zix {P X M U8 S:List α}{n:Nat}(b:X.length=n)(a:U8.length=n):swr P X M U8 S n=P++(U8++(M++(X++S))):=by
 subst b;have c:U8.take X.length=U8:=by rw[←a];exact Xm
 have d:U8.drop X.length=[]:=by rw[←a];exact List.drop_length
 simp[swr,c,d]
variable {lt:α→α→Bool}
theorem Z2c {L:List α}(h:Xi lt L){i j:Nat}(c:i≤j)(b:j<L.length)(d:∀x,lt x x=false):lt (L[j]!) (L[i]!)=false:=by
 rw[getElem!_pos L i Y,getElem!_pos L j b];rcases Nat.lt_or_eq_of_le c with a|a;·exact VH.1 h i j Y b a
 ·subst a;exact d _
theorem We.irr (a:We lt)(x:α):lt x x=false:=by
 cases h:lt x x
 ·rfl
 ·have:=a.asym h;rw[h]at this;exact this
theorem Zax (a:We lt){L R:List α}(s:Xi lt L)(g:Xi lt R){k1 k2:Nat}(w:k1≤L.length)(x:k2≤R.length)
  (t:k1=0∨k2=R.length∨lt (R[k2]!) (L[k1-1]!)=false) (v:k1=L.length∨k2=0∨lt (R[k2-1]!) (L[k1]!)=true):
  Y3 lt L R=Y3 lt (L.take k1) (R.take k2)++Y3 lt (L.drop k1) (R.drop k2):=by
 have e:Y3 lt L R=Y3 lt (L.take k1++L.drop k1) (R.take k2++R.drop k2):=Ze;rw[e];have m:∀{U9:List α} {k:Nat} {z:α},z∈U9.take k→∃i,i<k∧i<U9.length∧U9[i]! =z:=by intro U9 k z n;obtain⟨i,b,rfl⟩:=Z2X.1 n;simp only[ZK]at b;exact⟨i,Y,Y,by rw[getElem!_pos U9 i Y];simp⟩
 have o:∀{U9:List α} {k:Nat} {z:α},z∈U9.drop k→∃i,k≤i∧i<U9.length∧U9[i]! =z:=by intro U9 k z n;obtain⟨i,b,rfl⟩:=Z2X.1 n;simp only[Z0r]at b;exact⟨k+i,Y,Y,by rw[getElem!_pos U9 (k+i) Y];simp⟩
 refine ZdJ ?_ ?_ ?_
 ·intro r c l d;obtain⟨i,b,f,rfl⟩:=m c;obtain⟨j,p,q,rfl⟩:=o d;rcases v with h|h|h;·omega
  ·omega
  ·exact a.tr (a.tr' (Z2c g (i:=i) (j:=k2-1) Y Y a.irr) h) (Z2c s p q a.irr)
 ·intro r c l d;obtain⟨i,b,f,rfl⟩:=o c;obtain⟨j,p,q,rfl⟩:=m d;rcases t with h|h|h;·omega
  ·omega
  ·exact a.le (Z2c s (i:=j) (j:=k1-1) Y Y a.irr) (a.le h (Z2c g b f a.irr))
 ·intro r c l d;obtain⟨i,b,f,rfl⟩:=o c;obtain⟨j,p,q,rfl⟩:=m d;exact Z2c g Y f a.irr
theorem Xi.take {L:List α}(h:Xi lt L)(k:Nat):Xi lt (L.take k):=List.Pairwise.sublist (List.take_sublist k L) h
theorem Xi.drop {L:List α}(h:Xi lt L)(k:Nat):Xi lt (L.drop k):=List.Pairwise.sublist (List.drop_sublist k L) h
theorem Zj1 (b:We lt){x:α}{R:List α}(a:Xi lt R){k:Nat}(e:k≤R.length)(f:k=R.length∨lt (R[k]!) x=false)(g:k=0∨lt (R[k-1]!) x=true):
  Y3 lt [x] R=R.take k++x::R.drop k:=by
 rw[Zax b (L:= [x]) (k1:=0) (k2:=k) (by simp[Xi]) a Ze e (.inl rfl) (by rcases g with h|h;exact .inr (.inl h);exact .inr (.inr (by simpa using h)))];simp only[List.take_zero,List.drop_zero];rw[Z5e (a.take k)];congr 1;have:=Z6i (lt:=lt) (X:= [x]) (R.drop k) [] (fun r l y c=>by
  simp only[Yn]at c;subst c;obtain⟨i,m,rfl⟩:=Z2X.1 l;simp only[Z0r]at m;rcases f with h|h;·omega
  ·have d:=Z2c a (i:=k) (j:=k+i) Y Y b.irr;rw[getElem!_pos R (k+i) Y]at d;simpa using b.le h d)
 rw[Wo]at this;rw[this,Z5e (a.drop k)];rfl
theorem ZhU (b:We lt){x:α}{L:List α}(e:Xi lt L){k:Nat}(l:k≤L.length)(f:k=0∨lt x (L[k-1]!)=false)(g:k=L.length∨lt x (L[k]!)=true):
  Y3 lt L [x]=L.take k++x::L.drop k:=by
 show ins lt x L=_;have:=Zap (lt:=lt) (x:=x) (X:=L.take k) (U8:=L.drop k) (fun y c=>by
  obtain⟨i,d,rfl⟩:=Z2X.1 c;simp only[ZK]at d;rcases f with h|h;·omega
  ·have a:=Z2c e (i:=i) (j:=k-1) Y Y b.irr;rw[getElem!_pos L i Y]at a;simpa using b.le a h) (fun y c=>by
  obtain⟨i,d,rfl⟩:=Z2X.1 c;simp only[Z0r]at d;rcases g with h|h;·omega
  ·have a:=Z2c e (i:=k) (j:=k+i) Y Y b.irr;rw[getElem!_pos L (k+i) Y]at a;simpa using b.tr h a)
 rwa [Vh]at this
end
/-! ### sorted pieces of a width -/
def WR (lt:α→α→Bool) (w:Nat) (l:List α):List α:=
 if _h:l.length<w∨w=0 then Yc lt l else Yc lt (l.take w)++WR lt w (l.drop w)
termination_by l.length
decreasing_by simp;omega
variable {lt:α→α→Bool}
theorem Z38 {w:Nat}{l:List α}(h:l.length<w):WR lt w l=Yc lt l:=by unfold WR;rw[dif_pos (.inl h)]
theorem Z3a {w:Nat}{l:List α}(a:0<w)(h:w≤l.length):WR lt w l=Yc lt (l.take w)++WR lt w (l.drop w):=by
 conv=>lhs;unfold WR
 rw[dif_neg Y]
theorem Z8U {w:Nat}{l:List α}(a:0<w)(h:l.length≤w):WR lt w l=Yc lt l:=by
 rcases Nat.lt_or_eq_of_le h with b|b;·exact Z38 b
 ·rw[Z3a a Y,ZP h,Z11 h,Z38 (by simpa using a)];simp[Yc,Y3]
theorem Ze3 (b:We lt){w:Nat}{l:List α}(a:0<w)(h:2*w≤l.length):
  WR lt w l=Yc lt (l.take w)++(Yc lt ((l.drop w).take w)++WR lt w (l.drop (2*w)))∧WR lt (2*w) l=Y3 lt (Yc lt (l.take w)) (Yc lt ((l.drop w).take w))++WR lt (2*w) (l.drop (2*w)):=by
 constructor;·rw[Z3a a Y,Z3a (l:=l.drop w) a Zx,V4];rw[show w+w=2*w from Y]
 ·rw[Z3a (w:=2*w) Y h,Z8Y b];congr 2;rw[show 2*w=w+w from Y,List.take_add]
theorem ZcQ (a:We lt){w:Nat}{l:List α}(b:0<w)(d:w<l.length)(c:l.length<2*w):
  WR lt w l=Yc lt (l.take w)++Yc lt (l.drop w)∧WR lt (2*w) l=Y3 lt (Yc lt (l.take w)) (Yc lt (l.drop w)):=by
 constructor;·rw[Z3a b Y,Z38 (l:=l.drop w) Zx]
 ·rw[Z38 c,Z8Y a,Vh]
end
section
open Go.Sort Go.Lib
variable {P:Program} {α:Type} [Inhabited α] {enc:α→List Value} {w0 W:World} {blk off N:Nat} {l:List α}
def Zo (enc:α→Z_) (w0:U1) (blk off N:Nat) (l:List α) (W:U1):Prop:=l.length=N∧∃a:Array α,a.toList=l∧SWK enc 8 w0 blk off a W
structure WU (P:Program) (T:TypeId) (enc:α→List Value) (w0:World) (blk off N:Nat):Prop where
 row:∃d0:Array α,d0.size=N∧RowK enc 8 w0 blk off d0
 agg:∃d,P.underlying T=some d∧d.isRow=true
 size:(P.info? T).map (·.size)=some 8
theorem WL {o:Oper}{a:Act}{w:U1}(T:TypeId)(x:Operand)(b:o.op=.load T x){p v:U2}(c:a.eval x=p)(h:(Instr.loadAt T p).run P w=.ok v w):(execOp a.eval o).run P w=.ok (.value v) w:=by unfold execOp;simp only[b,c,Sem.run_bind,Sem.run_pure,h,Result.andThen_ok]
theorem WU.hk {T:TypeId}(R:WU P T enc w0 blk off N)(x:α):(enc x).length=8:=by obtain⟨_,_,R⟩:=R.row;exact R.hk x
theorem Zo.size_ (h:Zo enc w0 blk off N l W):∃a:Array α,a.toList=l∧a.size=N∧SWK enc 8 w0 blk off a W:=by obtain⟨c,a,b,d⟩:=h;exact⟨a,b,by rw[←Z1U,b,c],d⟩
theorem Zo.grown (h:Zo enc w0 blk off N l W)(n:Nat)(a:Array Obj):Zo enc w0 blk off N l (grow (W.drewN n) a):=by obtain⟨b,c,d,e⟩:=h;exact⟨b,c,d,e.grown n a⟩
theorem Zo.drew (h:Zo enc w0 blk off N l W):Zo enc w0 blk off N l W.drew:=by obtain⟨a,b,c,d⟩:=h;exact⟨a,b,c,d.drew⟩
theorem Zo.drewN (h:Zo enc w0 blk off N l W)(n:Nat):Zo enc w0 blk off N l (W.drewN n):=by obtain⟨a,b,c,d⟩:=h;exact⟨a,b,c,d.drewN n⟩
theorem get!_of {a:Array α}(h:a.toList=l){i:Nat}{x:α}(b:l[i]? =some x):a[i]! =x:=by rw[←h,Z0u]at b;rw[getElem!_def,b]
theorem Zo.range {T:TypeId}(h:Zo enc w0 blk off N l W)(R:WU P T enc w0 blk off N){i:Nat}{x:α}(c:l[i]? =some x):W.rangeAt blk (off+i*8) (enc x)∧W.there blk (off+i*8) 8:=by
 obtain⟨g,d,k,m⟩:=h.size_;obtain⟨q,n,b⟩:=R.row;have e:=m.holds b.hblk b.hH (by rw[k,n]);have o:=get!_of d c;have f:i<g.size:=by rw[←Z1U,d];exact(Z4m.1 c).1
 constructor
 ·intro j v a;have p:j<8:=by have:=(Z4m.1 a).1;rw[b.hk]at this;exact this
  have:=(e.cell f p).1;rw[o]at this;rw[this,getElem!_def,a]
 ·intro j a;have:=e.cell f a;exact⟨by rw[this.1];rfl,this.2⟩
theorem Zo.ld {T:TypeId}(h:Zo enc w0 blk off N l W)(R:WU P T enc w0 blk off N){i:Nat}{x:α}(a:l[i]? =some x):
  (Instr.loadAt T (.pointer (some ⟨blk,off+i*8,none⟩))).run P W=.ok (.agg (enc x).toArray) W:=by
 obtain⟨d,b,c⟩:=R.agg;exact run_loadAt_mid W blk (off+i*8) T (enc x) d (h.range R a).1 b c (by rw[R.size,R.hk])
theorem Zo.cmp {g:Nat}{b:α→α→Int}(h:Zo enc w0 blk off N l W)(c:CmpLays P g #[] enc 8 b blk off N w0)(x y:α)(n:Nat)(a:Array Obj):
  Calls P g #[.agg (enc x).toArray,.agg (enc y).toArray] (grow (W.drewN n) a) fun e d=>e=.returned (.int .i64 (b x y))∧∃q f,d=grow ((grow (W.drewN n) a).drewN q) f:=by
 obtain⟨k,m,i,j⟩:=h.size_;exact j.cmp c i x y n a
theorem Zo.cmp0 {g:Nat}{a:α→α→Int}(h:Zo enc w0 blk off N l W)(c:CmpLays P g #[] enc 8 a blk off N w0)(x y:α):
  Calls P g #[.agg (enc x).toArray,.agg (enc y).toArray] W fun e b=>e=.returned (.int .i64 (a x y))∧Zo enc w0 blk off N l b:=by
 have:=h.cmp c x y 0 #[];rw[grow_empty]at this;refine this.mono ?_;rintro e b ⟨rfl,q,d,rfl⟩;exact⟨rfl,(h.drewN 0).grown q d⟩
theorem Zo.pre {T:TypeId}(R:WU P T enc w0 blk off N)(h:Zo enc w0 blk off N l W){A S:List α}{x:α}{i:Nat}(a:l=A++x::S)(b:A.length=i):l[i]? =some x:=by subst a b;simp
theorem Zo.exch {T:TypeId}(h:Zo enc w0 blk off N l W)(R:WU P T enc w0 blk off N){A M S:List α}{x y:α}{i j:Nat}(a:l=A++x::(M++y::S))(g:A.length=i)(s:i+1+M.length=j):
  Zo enc w0 blk off N (A++y::(M++x::S)) ((W.drew.setCells blk (off+i*8) (enc y)).setCells blk (off+j*8) (enc x))∧
  Zo enc w0 blk off N (A++y::(M++x::S)) ((W.drew.setCells blk (off+j*8) (enc x)).setCells blk (off+i*8) (enc y)):=by
 obtain⟨p,b,c,k⟩:=h;obtain⟨t,v,f⟩:=R.row;have q:b[i]! =x:=get!_of c (by subst a g;simp);have r:b[j]! =y:=get!_of c (by subst a;rw[show A++x::(M++y::S)=(A++x::M)++y::S from Ze,Y7 Zx];simp[show j-(A.length+(M.length+1))=0 from Y]);have w:b.size=l.length:=by rw[←Z1U,c]
 have z:l.length=i+1+(M.length+1+S.length):=by subst a g;simp;omega
 have e:=ZgW (d:=b) (P:=A) (M:=M) (S:=S) (x:=x) (y:=y) (i:=i) (j:=j) (by rw[c,a]) g Y;have m:=k.drew.swap f.hk f.hblk i j Y Y;have n:=k.drew.swap f.hk f.hblk j i Y Y;rw[q,r]at m n;have o:(A++y::(M++x::S)).length=N:=by rw[←p,a];simp
 exact⟨⟨o,_,e.1,m⟩,⟨o,_,e.2,n⟩⟩
theorem Zo.sts {T:TypeId}(h:Zo enc w0 blk off N l W)(R:WU P T enc w0 blk off N){i j:Nat}{x y:α}(a:l[i]? =some x)(b:l[j]? =some y):
  W.drew.there blk (off+i*8) 8∧(W.drew.setCells blk (off+i*8) (enc y)).there blk (off+j*8) 8:=
 ⟨(h.drew.range R a).2,World.there_setCells (h.drew.range R b).2 _ _ _⟩
end
theorem Zbu {H:Type}{P:Program}(b:P.underlying t=some .bool){z:DataW H×List MemPlace}(h:plainElem P t x=some z):∃a,x=.bool a∧z=(.lit (.bool a), []):=by
 unfold plainElem at h;rw[b]at h;cases x <;> simp at h
 exact⟨_,rfl,h.symm⟩
theorem Zch {H:Type}{P:Program}{e:TypeId}{D:DataW H}(h:w.ownsMap P t (plainElem P e) n m D)(K:Maps.Keyed P t)(f:P.underlying T=some (.map t e))(a:P.underlying e=some .bool)(g:(zeroValue e).run P w=.ok (.bool false) w)
  {b:Lit} (i:keyOf P t x=some b):∃c,(Instr.lookup T (.map (some n)) x false).run P w=.ok (.bool c) w∧D.atKey b (.lit (.bool false))=.lit (.bool c):=by
 obtain⟨v,l,j,k⟩:=h.lookup K f g (plainElem_bool a false) i;obtain⟨c,rfl,d⟩:=Zbu a k;simp only[Prod.mk.injEq]at d;exact⟨c,j,d.1⟩
theorem ZeK {H:Type}{P:Program}{o:Oper}{a:Act}{K:V_}{Q:Exit→V_}(m x v:Operand)(t:TypeId)(i:o.op=Op.mapUpdate t m x v)
  (k e:TypeId) (j:Maps.Keyed P k) (l:P.underlying t=some (.map k e)) (R:U2→Option (DataW H×List MemPlace)) (b n:Nat) (D:DataW H)
  (p:a.eval m=.map (some b)) (q:w.ownsMap P k R b n D) (r:n<maxLen) (f g:U2) (h:Lit) (s:a.eval x=f) (y:a.eval v=g) (z:keyOf P k f=some h)
  (d:DataW H) (A:List MemPlace) (B:R g=some (d,A))
  (hK:∀c,c.ownsMap P k R b (n+1) (D.put h d)→w.grownBy c (some b)→K (a.put o.dst undef) c):Oper.wp P o a w K Q:=by
 obtain⟨c,C,E,F⟩:=q.update j l r z B;unfold Oper.wp;simp[execOp,i,p,s,y,C,Result.andThen];exact hK c E F
structure V7 where
 a:Nat
 b:Nat
 c:Nat
 d:Nat
 left:Nat
 leg:Nat
 snd:Bool
deriving DecidableEq
def Z4o:Nat:=4607182418800017408
def Zbn (p:Nat×Nat):Nat×Nat:=(cMulBits p.1 p.2 0 Z4o).getD (0,0)
def V7.start:V7:=⟨0,0,Z4o,0,1,1,false⟩
def V7.on (s:V7):V7:=
 let p:=(cSumBits .add .f64 s.a s.b s.c s.d).getD (0,0);if 1<s.left then { s with a:=p.1,b:=p.2,left:=s.left-1} else
  let q:=Zbn (s.c,s.d);let e:=if s.snd then s.leg+1 else s.leg;⟨p.1,p.2,q.1,q.2,e,e,!s.snd⟩
def WT:Nat→V7
 |0=>V7.start
 |k+1=>(WT k).on
def Z5G:Nat→V7→List V7
 |0,_=> []
 |k+1,s=>s::Z5G k s.on
def Z5C (s:V7):Bool:=(cSumBits .add .f64 s.a s.b s.c s.d).isSome && (cMulBits s.c s.d 0 Z4o).isSome && decide (1≤s.left∧s.left≤64∧s.leg≤64)
theorem ZiV:(Z5G 64 V7.start).all Z5C=true:=by decide+kernel
theorem Z6T:∀(k:Nat) (s:V7) (i:Nat),i<k→∃t,(Z5G k s)[i]? =some t∧∀j,WT j=s→WT (j+i)=t
 |0,_,i,h=>absurd h Y
 |k+1,s,0,_=>⟨s,rfl,fun j a=>a⟩
 |k+1,s,i+1,h=>by obtain⟨t,b,c⟩:=Z6T k s.on i Y;refine⟨t,b,fun j a=>?_⟩;rw[show j+(i+1)=(j+1)+i from Y];exact c (j+1) (by rw[WT,a])
theorem ZiF (k:Nat)(h:k<64):Z5C (WT k)=true:=by obtain⟨t,a,b⟩:=Z6T 64 V7.start k h;have:=b 0 rfl;rw[Wz]at this;rw[this];exact Wq.1 ZiV t (List.mem_of_getElem? a)
def plC:List Nat:= [13839561654909534208,13837309855095848960,13835058055282163712,13830554455654793216,0,4607182418800017408,4611686018427387904,4613937818241073152,4616189618054758400]
def plD:List Nat:= [13844065254536904704,13842939354630062080,13841813454723219456,13840687554816376832,13839561654909534208,13837309855095848960,13835058055282163712,13830554455654793216,0,4607182418800017408,4611686018427387904,4613937818241073152,4616189618054758400,4617315517961601024,4618441417868443648,4619567317775286272,4620693217682128896]
def plS:List Nat:= [0,4607182418800017408,4616189618054758400,4621256167635550208,4625196817309499392,4627730092099895296,4630263366890291200,4632092954238910464,4634204016564240384]
theorem ZhZ:(Z5G 64 V7.start).all (fun s=>plC.contains s.a && plC.contains s.b)=true:=by decide+kernel
theorem Zi9:plC.all (fun a=>plC.all fun c=>match floatBits .sub .f64 a c with|some r=>plD.contains r|none=>false)=true:=by decide+kernel
theorem Zjf:plD.all (fun a=>match floatBits .mul .f64 a a with|some r=>plS.contains r|none=>false)=true:=by decide+kernel
theorem ZaY (a:n∈plC)(b:m∈plC):∃r,floatBits .sub .f64 n m=some r∧r∈plD:=by
 have:=Wq.1 (Wq.1 Zi9 n a) m b;cases h:floatBits .sub .f64 n m with
 |none=>rw[h]at this;cases this
 |some r=>rw[h]at this;exact⟨r,rfl,by simpa using this⟩
theorem Zb2 (a:n∈plD):∃r,floatBits .mul .f64 n n=some r∧r∈plS:=by
 have:=Wq.1 Zjf n a;cases h:floatBits .mul .f64 n n with
 |none=>rw[h]at this;cases this
 |some r=>rw[h]at this;exact⟨r,rfl,by simpa using this⟩
theorem Z5m (i:Nat)(d:i<64):(WT i).a∈plC∧(WT i).b∈plC:=by obtain⟨s,e,f⟩:=Z6T 64 V7.start i d;have c:=f 0 rfl;rw[Wz]at c;rw[c];have:=Wq.1 ZhZ s (List.mem_of_getElem? e);simpa using this
