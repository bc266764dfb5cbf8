/- DecMath2 PeelMade DecMath3 Trim KeepI -/
import Derived.Test.YtpokipdpjhookaaGreatDoorBTopRetires06
import Derived.Test.YtpokipdpjhookaaGreatDoorBTopRetires08
set_option maxHeartbeats 8000000
set_option maxRecDepth 20000
set_option linter.all false
namespace Go.Proofs
open Go Go.RowKit Tryz
variable {n:Nat} {s:List Int} {c d:Int}
structure Z3G (n:Nat) (R:List (List Int)) (kn:Int→Bool) (steps:List (Nat×Int)) (dead:List Int) (left:List Nat):Prop where
 dd:∀c∈dead,0≤c∧c<(n:Int)∧kn c=false
 dn:dead.Nodup
 st:∀a s b,steps=a++s::b→s.1<R.length∧s.2∈R.getD s.1 []∧s.2 ∉ dead∧(∀t∈a,t.2≠s.2)∧∀c∈R.getD s.1 [],c≠s.2→c∈dead∨∃t∈a,t.2=c
 all:∀c:Int,0≤c→c<(n:Int)→kn c=false→c∈dead∨∃t∈steps,t.2=c
 lf:∀i,i<R.length→i∈left∨∃t∈steps,t.1=i
 lr:∀i∈left,i<R.length
def ones (a:W_):List (W_):=a.map fun c=> [c]
theorem Zj6 {R:List (W_)}{q:Int→Bool}{d:ZJ}(h:Z18 n (R++ones s) d)(N:∀c:Int,0≤c→c<(n:Int)→d.isO c=false)
  (O:∀r∈R,∀c∈r,0≤c∧c<(n:Int)∧q c=false) (H:∀c:Int,c∈s↔0≤c∧c<(n:Int)∧q c=true):
  Z3G n R q (d.steps.filter fun t=>decide (t.1<R.length)) d.dead (((List.range (R++ones s).length).filter fun i=> !d.isU i).filter fun i=>decide (i<R.length)):=by
 have a4:(R++ones s).length=R.length+s.length:=by simp[ones]
 have P:∀i,i<R.length→(R++ones s).getD i []=R.getD i []:=fun i m=>by simp only[Z6,Yp m]
 have Q:∀i,R.length≤i→i<(R++ones s).length→∃c∈s,(R++ones s).getD i []=[c]:=fun i f y=>by
  refine⟨s.getD (i-R.length) 0,?_,?_⟩;·rw[Z6,Z7 Y];exact Zp _
  ·simp only[Z6,Y7 f,ones,ZO];rw[Z7 (show i-R.length<s.length from Y)];rfl
 have S:∀i,i<R.length→R.getD i []∈R:=fun i m=>by rw[Z6,Z7 m];exact Zp _
 have T:∀c:Int,0≤c→c<(n:Int)→q c=true→c ∉ d.dead:=fun c z f y=>by have l:=(H c).2 ⟨z,f,y⟩;obtain⟨j,g,e⟩:=ZZ l;refine(h.one (R.length+j) Y c ?_).1;simp only[Z6,Y7 (show R.length≤R.length+j from Y),ones,ZO,Z2l];rw[Z7 g,e];rfl
 have U:∀(a:List (Nat×Int)) t b,d.steps=a++t::b→d.steps.getD a.length (0,0)=t∧a.length<d.steps.length:=fun a t b e=>by rw[e];refine⟨?_,Ze⟩;rw[Z6,Y7 (Z4 _),W9];rfl
 have V:∀(a:List (Nat×Int)) t b,d.steps=a++t::b→∀j,j<a.length→d.steps.getD j (0,0)∈a:=fun a t b e j g=>by rw[e,Z6,Yp g,Z7 g];exact Zp _
 have W:∀(a:List (Nat×Int)) t b,d.steps=a++t::b→∀u∈a,∃j,j<a.length∧d.steps.getD j (0,0)=u:=fun a t b e u p=>by obtain⟨j,g,f⟩:=ZZ p;refine⟨j,g,?_⟩;rw[e,Z6,Yp g,Z7 g,f];rfl
 have I:∀k,k<d.steps.length→q (d.steps.getD k (0,0)).2=false→(d.steps.getD k (0,0)).1<R.length:=fun k o x=>by
  obtain⟨C,v,_⟩:=h.st k o;rcases Yf (d.steps.getD k (0,0)).1 R.length with f|f;·exact f
  ·obtain⟨c,l,e⟩:=Q _ f C;rw[e]at v;rw[Yn.1 v]at x;rw[((H c).1 l).2.2]at x;cases x
 refine⟨fun c l=>?_,h.dn,fun a t b e=>?_,fun c z f y=>?_,fun i m=>?_,fun i m=>?_⟩
 ·have:=h.dd c l;refine⟨this.1,this.2.1,?_⟩;cases o:q c with
  |false=>rfl
  |true=>exact absurd l (T c this.1 this.2.1 o)
 ·obtain⟨l1,l2,e1,J,eb⟩:=List.filter_eq_append_iff.1 e;obtain⟨l3,l4,e3,w,hp,e4⟩:=List.filter_eq_cons_iff.1 eb;have D:d.steps=(l1++l3)++t::l4:=by rw[e1,e3,YH]
  obtain⟨g1,g2⟩:=U _ _ _ D;obtain⟨C,v,a3,L,M,E⟩:=h.st _ g2;have a0:=V _ _ _ D;have a1:=W _ _ _ D;rw[g1]at C v a3 L M E;have F:t.1<R.length:=of_decide_eq_true hp;rw[P _ F]at v E;refine⟨F,v,L,fun u p=>?_,fun c l a2=>?_⟩;·rw[←J]at p;have:=(YW.1 p).1;obtain⟨j,g,ej⟩:=a1 u (Z16 _ this);rw[←ej];exact M j g
  ·rcases E c l a2 with A|⟨j,g,A⟩;·exact .inl A
   ·right;have hm:=a0 j g;have x:=(O _ (S _ F) c l).2.2;have B:=I j Y (by rw[A];exact x);refine⟨_,?_,A⟩;rw[←J];rcases YZ.1 hm with G|G;·exact YW.2 ⟨G,decide_eq_true B⟩
    ·exact absurd (decide_eq_true B) (w _ G)
 ·rcases h.cl c z f (N c z f) with w|⟨k,o,w⟩;·exact .inl w
  ·right;have B:=I k o (by rw[w];exact y);refine⟨_,YW.2 ⟨?_,decide_eq_true B⟩,w⟩;rw[Z6,Z7 o];exact Zp _
 ·cases p:d.isU i with
  |false=>exact .inl (YW.2 ⟨YW.2 ⟨Ws.2 Y,by rw[p];rfl⟩,decide_eq_true m⟩)
  |true=>right;obtain⟨k,o,e⟩:=(h.us i Y).1 p;refine⟨d.steps.getD k (0,0),YW.2 ⟨?_,decide_eq_true (by rw[e];exact m)⟩,e⟩;rw[Z6,Z7 o];exact Zp _
 ·exact of_decide_eq_true (YW.1 m).2
structure WM where
 W:Zl
 Mo:Zl
def Vj (t:Byte) (s:WM) (c:Int) (x:Y_×Y_):Y_×Y_:=(Wi t (s.W.getD c.toNat []) x.1,Wi t (s.Mo.getD c.toNat []) x.2)
def XK (s:WM) (a:W_) (x:Y_×Y_):Y_×Y_:=a.foldl (fun x c=>Vj 1 s c x) x
def WM.put (s:WM) (c:Int) (x:Y_×Y_):WM:=⟨s.W.set c.toNat x.1,s.Mo.set c.toNat x.2⟩
def stepW (a:Nat) (R:List Zt) (s:WM) (t:Nat×Int):WM:=s.put t.2 (XK s (but t.2 (R.getD t.1 default).cols) (Zm a,(R.getD t.1 default).data))
def Yy (a S:Nat) (b:W_):Nat→WM→WM
 |0,s=>s
 |k+1,s=>(Yy a S b k s).put (b.getD k 0) ((Zm a).set k 1,Zm S)
def WC (a S:Nat) (r:Y_) (s:WM):Nat→Y_×Y_
 |0=>(Zm a,Zm S)
 |k+1=>Vj (r.getD k 0) s k (WC a S r s k)
structure Gd (nd S:Nat) (s:WM) (c:Int):Prop where
 w:(s.W.getD c.toNat []).length=nd
 m:(s.Mo.getD c.toNat []).length=S
theorem Z7z {s:WM}{v:Y_×Y_}(b:0≤c)(f:0≤d)(a:c.toNat<s.W.length):(s.put c v).W.getD d.toNat []=if d=c then v.1 else s.W.getD d.toNat []:=by
 unfold WM.put;rw[X4];by_cases e:d=c;·subst e;rw[if_pos ⟨rfl,a⟩,if_pos rfl]
 ·rw[if_neg (fun h=>e Y),if_neg e]
theorem Z7t {s:WM}{v:Y_×Y_}(b:0≤c)(f:0≤d)(a:c.toNat<s.Mo.length):(s.put c v).Mo.getD d.toNat []=if d=c then v.2 else s.Mo.getD d.toNat []:=by
 unfold WM.put;rw[X4];by_cases e:d=c;·subst e;rw[if_pos ⟨rfl,a⟩,if_pos rfl]
 ·rw[if_neg (fun h=>e Y),if_neg e]
theorem Z6o {nd S:Nat}{s:WM}:∀(a:W_) (x:Y_×Y_),(∀c∈a,Gd nd S s c)→x.1.length=nd→x.2.length=S→
  (XK s a x).1.length=nd∧(XK s a x).2.length=S∧(∀y,dot (XK s a x).1 y=dot x.1 y ^^^ Ym (fun c=>dot (s.W.getD c []) y) a)∧
  ∀k,k<S→(XK s a x).2.getD k 0=x.2.getD k 0 ^^^ Ym (fun c=>at2 s.Mo c k) a
 | [],x,_,h1,h2=>⟨h1,h2,fun y=>(bx0 _).symm,fun k _=>(bx0 _).symm⟩
 |c::a,x,hg,h1,h2=>by
  have e:=hg c (XP ..);have b:=Z6o a (Vj 1 s c x) (fun d f=>hg d (XB _ f)) (by unfold Vj;rw[VO];exact h1) (by unfold Vj;rw[VO];exact h2);refine⟨b.1,b.2.1,fun y=>?_,fun k g=>?_⟩;·refine(b.2.2.1 y).trans ?_;unfold Vj;rw[Z7j _ _ _ _ (by rw[e.w,h1]),Z0m,Ym,Z1w]
  ·refine(b.2.2.2 k g).trans ?_;unfold Vj;rw[Z3z _ _ _ _ Y,Z0m,Ym,Z1w];rfl
theorem Zfc {nd S:Nat}{s:WM}(r:Y_)(n:Nat)(d:∀c:Nat,c<n→Gd nd S s c):
  (WC nd S r s n).1.length=nd∧(WC nd S r s n).2.length=S∧(∀y,dot (WC nd S r s n).1 y=YE n fun c=>ZU (r.getD c 0) (dot (s.W.getD c []) y))∧
  ∀k,k<S→(WC nd S r s n).2.getD k 0=YE n fun c=>ZU (r.getD c 0) (at2 s.Mo c k):=by
 induction n with
 |zero=>refine⟨by simp[WC,Zm],by simp[WC,Zm],fun y=>Z23 nd y,fun k b=>?_⟩;show(Zm S).getD k 0=0;unfold Zm;rw[Z6,XY];split <;> rfl
 |succ n a=>
  have a:=a fun c e=>d c Y;have e:=d n Y;refine⟨by rw[WC];unfold Vj;rw[VO];exact a.1,by rw[WC];unfold Vj;rw[VO];exact a.2.1,fun y=>?_,fun k b=>?_⟩;·rw[WC];unfold Vj;rw[Z7j _ _ _ _ (by rw[e.w,a.1]),a.2.2.1 y,YE];rfl
  ·rw[WC];unfold Vj;rw[Z3z _ _ _ _ (by rw[a.2.1];exact b),a.2.2.2 k b,YE];rfl
theorem Z5c (a i:Nat)(y:Nat→Byte)(b:i<a):dot ((Zm a).set i 1) y=y i:=by rw[ZiO _ _ _ (by simp[Zm];exact b) (by unfold Zm;rw[Z6,XY];split <;> rfl)];unfold Zm;rw[Z23,b0x]
theorem Z5Y {n S:Nat}{a:W_}{s:WM}(g:s.W.length=n)(j:s.Mo.length=n)(f:∀c∈a,0≤c∧c<(n:Int))(l:a.Nodup):∀k,k≤a.length→
  (Yy a.length S a k s).W.length=n∧(Yy a.length S a k s).Mo.length=n∧∀i,i<k→(Yy a.length S a k s).W.getD (a.getD i 0).toNat []=(Zm a.length).set i 1∧(Yy a.length S a k s).Mo.getD (a.getD i 0).toNat []=Zm S
 |0,_=>⟨g,j,fun i d=>absurd d Y⟩
 |k+1,hk=>by
  have b:=Z5Y (S:=S) g j f l k Y;have m:∀i,i<a.length→a.getD i 0∈a:=fun i d=>by rw[Z6,Z7 d];exact Zp _
  have o:=f _ (m k Y);rw[Yy];refine⟨by unfold WM.put;rw[Ya];exact b.1,by unfold WM.put;rw[Ya];exact b.2.1,fun i d=>?_⟩;have p:=f _ (m i Y);rw[Z7z o.1 p.1 (by rw[b.1];omega),Z7t o.1 p.1 (by rw[b.2.1];omega)];by_cases e:i=k;·subst e;rw[if_pos rfl,if_pos rfl];exact⟨rfl,rfl⟩
  ·have q:a.getD i 0≠a.getD k 0:=fun h=>by rw[Z6,Z6,Z7 Y,Z7 Y]at h;have r:=VH.1 l;simp only[Yz]at h;exact r i k Y Y Y h
   rw[if_neg q,if_neg q];exact b.2.2 i Y
theorem ZfW {α:Type}{P:List α→Prop}(h0:P [])(h1:∀a t,P a→P (a++ [t]))(l:List α):P l:=by
 have:∀l:List α,P l.reverse:=fun l=>by
  induction l with
  |nil=>exact h0
  |cons x l ih=>rw[List.reverse_cons];exact h1 _ _ ih
 have h:=this l.reverse;rwa [List.reverse_reverse]at h
structure StW (n S:Nat) (R:List Zt) (dead:List Int) (M:Nat→Nat→Byte) (a:List (Nat×Int)) (s:WM):Prop where
 lw:s.W.length=n
 lm:s.Mo.length=n
 g:∀c,(c∈dead∨∃t∈a,t.2=c)→Gd dead.length S s c
 d:∀(y:Nat→Byte) i,i<dead.length→dot (s.W.getD (dead.getD i 0).toNat []) y=y i
 r:∀(y:Nat→Byte),∀t∈a,Ym (fun c=>dot (s.W.getD c []) y) (R.getD t.1 default).cols=0
 m:∀k,k<S→∀c,(c∈dead∨∃t∈a,t.2=c)→dot (s.W.getD c.toNat []) (fun i=>M (dead.getD i 0).toNat k) ^^^ at2 s.Mo c.toNat k=M c.toNat k
def HoD (S:Nat) (M:Nat→Nat→Byte) (R:List Zt):Prop:=∀q∈R,∀k,k<S→Ym (fun c=>M c k) q.cols=q.data.getD k 0
theorem Z9d {n S:Nat}{R:List Zt}{kn:Int→Bool}{steps:List (Nat×Int)}{dead:W_}{left:List Nat}{M:Nat→Nat→Byte}(hp:Z3G n (R.map Zt.cols) kn steps dead left)
  (hR:∀q∈R,q.cols.Nodup∧q.data.length=S∧∀c∈q.cols,0≤c∧c<(n:Int)) (hM:HoD S M R) {s:WM} (hs:StW n S R dead M [] s):∀a b,steps=a++b→StW n S R dead M a (a.foldl (stepW dead.length R) s):=by
 intro a;induction a using ZfW with
 |h0=>exact fun b _=>hs
 |h1 a t ih=>
  intro b e;have e2:steps=a++t::b:=by rw[e,List.append_assoc];rfl
  have ih:=ih (t::b) e2;obtain⟨h1,h2,h3,h4,h5⟩:=hp.st a t b e2;rw[List.length_map]at h1;have hrow:(R.map Zt.cols).getD t.1 []=(R.getD t.1 default).cols:=by simp only[Z6,List.getElem?_map,Z7 h1,Option.map_some,Option.getD_some]
  rw[hrow]at h2 h5;have hmem:∀i,i<R.length→R.getD i default∈R:=fun i hi=>by rw[Z6,Z7 hi];exact List.getElem_mem _
  have hq:=hR _ (hmem _ h1);have hc:=hq.2.2 t.2 h2;rw[List.foldl_append,List.foldl_cons,List.foldl_nil];generalize hS:a.foldl (stepW dead.length R) s=s1 at ih;have hb:∀c∈but t.2 (R.getD t.1 default).cols,0≤c∧(c∈dead∨∃u∈a,u.2=c):=fun c hc=>by have:=List.mem_filter.1 hc;exact⟨(hq.2.2 c this.1).1,h5 c this.1 (of_decide_eq_true this.2)⟩
  have hsw:=Z6o (nd:=dead.length) (S:=S) (s:=s1) (but t.2 (R.getD t.1 default).cols) (Zm dead.length,(R.getD t.1 default).data) (fun c hc=>ih.g c (hb c hc).2) (by simp[Zm]) hq.2.1;have hlw:t.2.toNat<s1.W.length:=by rw[ih.lw];omega
  have hlm:t.2.toNat<s1.Mo.length:=by rw[ih.lm];omega
  have hW:=fun x (hx:0≤x)=>Z7z (v:=XK s1 (but t.2 (R.getD t.1 default).cols) (Zm dead.length,(R.getD t.1 default).data)) hc.1 hx hlw;have hMo:=fun x (hx:0≤x)=>Z7t (v:=XK s1 (but t.2 (R.getD t.1 default).cols) (Zm dead.length,(R.getD t.1 default).data)) hc.1 hx hlm;have hold:∀c,(c∈dead∨∃u∈a,u.2=c)→c≠t.2:=fun c hc e=>by
   rcases hc with hc|⟨u,hu,hc⟩;·exact h3 (e ▸ hc)
   ·exact h4 u hu (hc.trans e)
  have h0:∀c,(c∈dead∨∃u∈a,u.2=c)→0≤c:=fun c hc=>by
   rcases hc with hc|⟨u,hu,hc⟩;·exact(hp.dd c hc).1
   ·obtain⟨a1,a2,e3⟩:=List.append_of_mem hu;have:=hp.st a1 u (a2++t::b) (by rw[e2,e3,List.append_assoc];rfl);have hr1:=this.1;rw[List.length_map]at hr1;have hrow:(R.map Zt.cols).getD u.1 []=(R.getD u.1 default).cols:=(by simp only[Z6,List.getElem?_map,Z7 hr1,Option.map_some,Option.getD_some]);have hm:=this.2.1;rw[hrow,hc]at hm;exact((hR _ (hmem _ hr1)).2.2 c hm).1
  have hsum:∀y,Ym (fun c=>dot ((stepW dead.length R s1 t).W.getD c []) y) (but t.2 (R.getD t.1 default).cols)=Ym (fun c=>dot (s1.W.getD c []) y) (but t.2 (R.getD t.1 default).cols):=fun y=>
   Z2r _ fun c hc=>by have h:=hb c hc;show dot ((stepW dead.length R s1 t).W.getD c.toNat []) y=_;unfold stepW;rw[hW c h.1,if_neg (hold c h.2)]
  have hnew:∀y,dot ((stepW dead.length R s1 t).W.getD t.2.toNat []) y=Ym (fun c=>dot (s1.W.getD c []) y) (but t.2 (R.getD t.1 default).cols):=fun y=>by unfold stepW;rw[hW t.2 hc.1,if_pos rfl,hsw.2.2.1 y];simp only;unfold Zm;rw[Z23,b0x]
  refine⟨by unfold stepW WM.put;rw[List.length_set];exact ih.lw,by unfold stepW WM.put;rw[List.length_set];exact ih.lm,fun c hcc=>?_,fun y i hi=>?_,fun y u hu=>?_,fun k hk c hcc=>?_⟩
  ·have hcase:(c∈dead∨∃u∈a,u.2=c)∨c=t.2:=by
    rcases hcc with h|⟨u,hu,h⟩;·exact .inl (.inl h)
    ·rcases List.mem_append.1 hu with h6|h6;·exact .inl (.inr ⟨u,h6,h⟩)
     ·rw[List.mem_singleton]at h6;subst h6;exact .inr h.symm
   rcases hcase with h|h;·unfold stepW;have:=ih.g c h;exact⟨by rw[hW c (h0 c h),if_neg (hold c h)];exact this.w,by rw[hMo c (h0 c h),if_neg (hold c h)];exact this.m⟩
   ·subst h;unfold stepW;exact⟨by rw[hW t.2 hc.1,if_pos rfl];exact hsw.1,by rw[hMo t.2 hc.1,if_pos rfl];exact hsw.2.1⟩
  ·have hm:dead.getD i 0∈dead:=(by rw[Z6,Z7 hi];exact List.getElem_mem _);unfold stepW;rw[hW _ (hp.dd _ hm).1,if_neg (hold _ (.inl hm))];exact ih.d y i hi
  ·rcases List.mem_append.1 hu with h6|h6
   ·rw[←ih.r y u h6];refine Z2r _ fun c hc6=>?_;obtain⟨a1,a2,e3⟩:=List.append_of_mem h6;have:=hp.st a1 u (a2++t::b) (by rw[e2,e3,List.append_assoc];rfl);have hr1:=this.1;rw[List.length_map]at hr1;have hrow:(R.map Zt.cols).getD u.1 []=(R.getD u.1 default).cols:=(by simp only[Z6,List.getElem?_map,Z7 hr1,Option.map_some,Option.getD_some]);have hin:c∈dead∨∃u∈a,u.2=c:=by
     by_cases e7:c=u.2;·exact .inr ⟨u,h6,e7.symm⟩
     ·rcases this.2.2.2.2 c (by rw[hrow];exact hc6) e7 with h8|⟨v,hv,h8⟩;·exact .inl h8
      ·exact .inr ⟨v,by rw[e3];exact List.mem_append_left _ hv,h8⟩
    show dot ((stepW dead.length R s1 t).W.getD c.toNat []) y=_;unfold stepW;rw[hW c (h0 c hin),if_neg (hold c hin)]
   ·rw[List.mem_singleton]at h6;subst h6;rw[Z9M _ hq.1 h2,hsum y];simp only[hnew y];exact bxx _
  ·have hcase:(c∈dead∨∃u∈a,u.2=c)∨c=t.2:=by
    rcases hcc with h|⟨u,hu,h⟩;·exact .inl (.inl h)
    ·rcases List.mem_append.1 hu with h6|h6;·exact .inl (.inr ⟨u,h6,h⟩)
     ·rw[List.mem_singleton]at h6;subst h6;exact .inr h.symm
   rcases hcase with h|h;·have:=ih.m k hk c h;unfold at2 at this ⊢;unfold stepW;rw[hW c (h0 c h),if_neg (hold c h),hMo c (h0 c h),if_neg (hold c h)];exact this
   ·subst h;rw[hnew];unfold at2;have e9:((stepW dead.length R s1 t).Mo.getD t.2.toNat []).getD k 0=(R.getD t.1 default).data.getD k 0 ^^^ Ym (fun c=>at2 s1.Mo c k) (but t.2 (R.getD t.1 default).cols):=(by unfold stepW;rw[hMo t.2 hc.1,if_pos rfl];exact hsw.2.2.2 k hk);rw[e9,←hM _ (hmem _ h1) k hk,Z9M _ hq.1 h2];have e10:Ym (fun c=>M c k) (but t.2 (R.getD t.1 default).cols)=Ym (fun c=>dot (s1.W.getD c []) fun i=>M (dead.getD i 0).toNat k) (but t.2 (R.getD t.1 default).cols) ^^^ Ym (fun c=>at2 s1.Mo c k) (but t.2 (R.getD t.1 default).cols):=(by rw[←Z6L];refine Z2r _ fun c hc=>?_;exact(ih.m k hk c (hb c hc).2).symm);rw[e10];have e11:∀A B C:Byte,A ^^^ (C ^^^ (A ^^^ B) ^^^ B)=C:=fun A B C=>by rw[show A ^^^ (C ^^^ (A ^^^ B) ^^^ B)=C ^^^ ((A ^^^ A) ^^^ (B ^^^ B)) by ac_rfl,bxx,bxx,bx0,bx0]
    exact e11 _ _ _
section
def VS (D:Nat):List (BitVec 8):=List.replicate D 0#8
def YS (v:Int→List (BitVec 8)) (a:W_) (s:List (BitVec 8)):List (BitVec 8):=a.foldl (fun s c=>Yl s (v c)) s
structure Made (n D:Nat) (v:Int→List (BitVec 8)) (rows:List Zt):Prop where
 data:∀q∈rows,q.data=YS v q.cols (VS D)
 len:∀c:Int,0≤c→c<(n:Int)→(v c).length=D
theorem Zbv {s v:List (BitVec 8)}(h:s.length=v.length):Yl (Yl s v) v=s:=by
 apply VP;intro i;rw[Z2a,Z2a];by_cases a:i<s.length;·rw[Z7 a,Z7 (show i<v.length from Y)];simp only;rw[Z1w,BitVec.xor_self,Z4p]
 ·rw[XX (show s.length≤i from Y),XX (show v.length≤i from Y)]
theorem zero_xor {D:Nat}{v:List (BitVec 8)}(h:v.length=D):Yl (VS D) v=v:=by
 apply VP;intro i;rw[Z2a];unfold VS;rw[XY];by_cases a:i<D;·rw[if_pos a,Z7 (show i<v.length from Y)];simp only;rw[BitVec.zero_xor]
 ·rw[if_neg a,XX (show v.length≤i from Y)]
section
variable {v:Int→List (BitVec 8)}
theorem Z8S:∀(a:W_) (s u:List (BitVec 8)),YS v a (Yl s u)=Yl (YS v a s) u
 | [],_,_=>rfl
 |c::a,s,u=>by show YS v a (Yl (Yl s u) (v c))=Yl (YS v a (Yl s (v c))) u;rw[Z8s,Z8S a]
theorem Z3n {D:Nat}:∀(a:W_) (s:List (BitVec 8)),(∀c∈a,(v c).length=D)→s.length=D→(YS v a s).length=D
 | [],_,_,hs=>hs
 |c::a,s,h,hs=>Z3n a _ (fun x b=>h x (XB _ b)) (by rw[Z0d,hs,h c (XP ..)];omega)
theorem Z8A {D:Nat}:∀(a:W_) (s:List (BitVec 8)),(∀c∈a,(v c).length=D)→s.length=D→YS v a (YS v a s)=s
 | [],_,_,_=>rfl
 |c::a,s,h,hs=>by show YS v a (Yl (YS v a (Yl s (v c))) (v c))=s;rw[Z8S,Z8A a _ (fun x b=>h x (XB _ b)) (by rw[Z0d,hs,h c (XP ..)];omega)];exact Zbv (by rw[hs,h c (XP ..)])
theorem Z4D (a b:W_)(s:List (BitVec 8)):YS v (a++b) s=YS v b (YS v a s):=Z2m
variable {n D:Nat} {rows:List Zt} {S:Zk}
theorem Zge (b:Right n D rows){q:Zt}(d:q∈rows)(e:∀c:Int,0≤c→S.kn c=true→S.val c=v c):S.rest q=YS v (q.cols.filter fun x=>S.kn x) q.data:=by unfold Zk.rest;rw[Z7O];exact Z89 _ _ (fun x f=>by have a:=YW.1 f;exact e x (b.rng q d x a.1).1 (by simpa using a.2))
theorem Z6s (g:Right n D rows)(h:Made n D v rows){q:Zt}(d:q∈rows)(i:∀c:Int,0≤c→S.kn c=true→S.val c=v c):S.rest q=YS v (S.opn q.cols) (VS D):=by
 rw[Zge g d i,h.data q d];have j:=List.filter_append_perm (fun x=>S.kn x) q.cols;have k:∀c∈q.cols,(v c).length=D:=fun c f=>h.len c (g.rng q d c f).1 (g.rng q d c f).2;have e:YS v q.cols (VS D)=YS v (S.opn q.cols) (YS v (q.cols.filter fun x=>S.kn x) (VS D)):=by rw[←Z4D];exact(Z8g j _).symm
 have l:∀(a b:W_) (s:List (BitVec 8)),YS v a (YS v b s)=YS v b (YS v a s):=fun a b s=>by rw[←Z4D,←Z4D];exact Z8g List.perm_append_comm s
 rw[e,l,Z8A (D:=D)];·exact fun c f=>k c (YW.1 f).1
 ·unfold VS;simp
theorem Reach.made (e:Right n D rows)(g:Made n D v rows)(h:Reach n rows S):∀c:Int,0≤c→S.kn c=true→S.val c=v c:=by
 induction h with
 |start=>intro c b a;exfalso;unfold Zk.new Zk.kn at a;rw[Z6,XY]at a;split at a <;> simp at a
 | @step S q c hS hq ho ih=>
  intro f b a;have k:=Z3y.1 (show c∈S.opn q.cols by rw[ho];exact Yn.2 rfl);have d:=e.rng q hq c k.1;have i:=hS.form e;rw[Z7q d.1 b (by rw[i.kl];omega)]at a;rw[Z7d d.1 b (by rw[i.vl];omega)];by_cases j:f=c;·subst j;rw[if_pos rfl,Z6s e g hq ih,ho];exact zero_xor (g.len f d.1 d.2)
  ·rw[if_neg j]at a ⊢;exact ih f b a
theorem ZcD (a:Right n D rows)(c:Made n D v rows)(h:Reach n rows S):Z7y rows S:=fun q e f b d=>by rw[Z6s a c e (h.made a c),f]at d;exact List.eq_of_mem_replicate d
end
def Zk.left (S:Zk) (rows:List Zt):List Zt:=(rows.filter fun q=> !(S.opn q.cols).isEmpty).map fun q=>⟨S.opn q.cols,S.rest q⟩
theorem Z58 {S:Zk}{rows:List Zt}{y:Zt}(h:y∈S.left rows):∃q∈rows,y=⟨S.opn q.cols,S.rest q⟩∧S.opn q.cols≠ []:=by unfold Zk.left at h;obtain⟨q,b,rfl⟩:=ZT.1 h;have a:=YW.1 b;refine⟨q,a.1,rfl,fun e=>?_⟩;rw[e]at a;simp at a
end
section
theorem Z8I {s v:Y_}(h:s.length=v.length)(k:Nat)(a:k<s.length):(Yl s v).getD k 0=s.getD k 0 ^^^ v.getD k 0:=by simp only[Z6];rw[Z2a,Z7 a,Z7 (show k<v.length from Y)];rfl
def XD (v:Int→Y_):Nat→Nat→Byte:=fun c k=>(v (c:Int)).getD k 0
theorem Z6y {D:Nat}{v:Int→Y_}(k:Nat)(d:k<D):∀(a:W_) (s:Y_),(∀c∈a,0≤c∧(v c).length=D)→s.length=D→
  (YS v a s).getD k 0=s.getD k 0 ^^^ Ym (fun c=>XD v c k) a
 | [],s,_,_=>(bx0 _).symm
 |c::a,s,h,hs=>by have b:=h c (XP ..);have e:=Z6y k d a (Yl s (v c)) (fun x f=>h x (XB _ f)) (by rw[Z0d,hs,b.2];omega);refine(show YS v (c::a) s=YS v a (Yl s (v c)) from rfl) ▸ e.trans ?_;rw[Z8I (by rw[hs,b.2]) k Y,Ym,Z1w];congr 2;unfold XD;rw[show((c.toNat:Nat):Int)=c from Y]
theorem Z3Q (D k:Nat):(VS D).getD k 0=0:=by unfold VS;rw[Z6,XY];split <;> rfl
def Ve (a:Nat) (T:Zk):Nat→WM→WM
 |0,s=>s
 |k+1,s=>if T.kn k then (Ve a T k s).put k (Zm a,T.val k) else Ve a T k s
section
variable {n S:Nat} {P:Zl} {rows:List Zt} {T:Zk} {v:Int→Y_}
theorem Z4W (d:Right n S rows)(e:Made n S v rows)(j:Reach n rows T):∀q∈T.left rows,q.cols.Nodup∧q.data.length=S∧(∀c∈q.cols,0≤c∧c<(n:Int)∧T.kn c=false)∧
  ∀k,k<S→Ym (fun c=>XD v c k) q.cols=q.data.getD k 0:=fun q l=>by
 obtain⟨a,f,rfl,_⟩:=Z58 l;have b:∀c∈T.opn a.cols,0≤c∧c<(n:Int)∧T.kn c=false:=fun c b=>by have h:=Z3y.1 b;have:=d.rng a f c h.1;exact⟨this.1,this.2,h.2⟩
 have g:∀c∈T.opn a.cols,0≤c∧(v c).length=S:=fun c h=>⟨(b c h).1,e.len c (b c h).1 (b c h).2.1⟩;have i:=Z6s d e f (j.made d e);refine⟨(d.nd a f).sublist List.filter_sublist,?_,b,fun k m=>?_⟩;·show(T.rest a).length=S;rw[i];exact Z3n _ _ (fun c h=>(g c h).2) (by simp[VS])
 ·show Ym (fun c=>XD v c k) (T.opn a.cols)=(T.rest a).getD k 0;rw[i,Z6y k m _ _ g (by simp[VS]),Z3Q,b0x]
structure Z5J (n S:Nat) (rows:List Zt) (T:Zk) (v:Int→List Byte) (steps:List (Nat×Int)) (dead:List Int) (s:WM):Prop where
 lw:s.W.length=n
 lm:s.Mo.length=n
 g:∀c:Int,0≤c→c<(n:Int)→Gd dead.length S s c
 d:∀(y:Nat→Byte) i,i<dead.length→dot (s.W.getD (dead.getD i 0).toNat []) y=y i
 r:∀(y:Nat→Byte),∀t∈steps,Ym (fun c=>dot (s.W.getD c []) y) ((T.left rows).getD t.1 default).cols=0
 k:∀(y:Nat→Byte) (c:Int),0≤c→c<(n:Int)→T.kn c=true→dot (s.W.getD c.toNat []) y=0
 m:∀k,k<S→∀c:Int,0≤c→c<(n:Int)→dot (s.W.getD c.toNat []) (fun i=>XD v (dead.getD i 0).toNat k) ^^^ at2 s.Mo c.toNat k=XD v c.toNat k
theorem Z8m (T:Zk)(d:Nat){s:WM}(j:s.W.length=n)(l:s.Mo.length=n):∀k,k≤n→(Ve d T k s).W.length=n∧(Ve d T k s).Mo.length=n∧
  ∀c:Int,0≤c→c<(n:Int)→(Ve d T k s).W.getD c.toNat []=(if c<(k:Int)∧T.kn c=true then Zm d else s.W.getD c.toNat [])∧(Ve d T k s).Mo.getD c.toNat []=(if c<(k:Int)∧T.kn c=true then T.val c else s.Mo.getD c.toNat [])
 |0,_=>⟨j,l,fun c b _=>by rw[if_neg (fun e=>Y),if_neg (fun e=>Y)];exact⟨rfl,rfl⟩⟩
 |k+1,hk=>by
  have a:=Z8m T d j l k Y;rw[Ve];by_cases f:T.kn k=true
  ·rw[if_pos f];refine⟨by unfold WM.put;rw[Ya];exact a.1,by unfold WM.put;rw[Ya];exact a.2.1,fun c b g=>?_⟩;rw[Z7z Y b (by rw[a.1];omega),Z7t Y b (by rw[a.2.1];omega)];by_cases e:c=(k:Int)
   ·subst e;rw[if_pos rfl,if_pos rfl,if_pos ⟨Y,f⟩,if_pos ⟨Y,f⟩];exact⟨rfl,rfl⟩
   ·rw[if_neg e,if_neg e,(a.2.2 c b g).1,(a.2.2 c b g).2];by_cases h:c<(k:Int)∧T.kn c=true;·rw[if_pos h,if_pos h,if_pos ⟨Y,h.2⟩,if_pos ⟨Y,h.2⟩];exact⟨rfl,rfl⟩
    ·rw[if_neg h,if_neg h,if_neg (fun i=>h ⟨Y,i.2⟩),if_neg (fun i=>h ⟨Y,i.2⟩)];exact⟨rfl,rfl⟩
  ·rw[if_neg f];refine⟨a.1,a.2.1,fun c b g=>?_⟩;rw[(a.2.2 c b g).1,(a.2.2 c b g).2];have:(c<(k:Int)∧T.kn c=true)↔(c<((k+1:Nat):Int)∧T.kn c=true):=by
    constructor;·exact fun h=>⟨Y,h.2⟩
    ·intro h;refine⟨?_,h.2⟩;have:c≠(k:Int):=fun e=>f (e ▸ h.2);omega
   simp only[this];exact⟨trivial,trivial⟩
def Z2o (n S:Nat) (T:Zk) (rows:List Zt) (b:List (Nat×Int)) (a:W_):WM:=
 Ve a.length T n (b.foldl (stepW a.length (T.left rows)) (Yy a.length S a a.length ⟨List.replicate n [],List.replicate n []⟩))
theorem Zgq {x:List (Nat×Int)}{f:W_}{left:List Nat}(M:Right n S rows)(J:Made n S v rows)(N:Reach n rows T)
  (A:Z3G n ((T.left rows).map Zt.cols) T.kn x f left):Z5J n S rows T v x f (Z2o n S T rows x f):=by
 have C:=Z4W M J N;have B:=Z5Y (S:=S) (s:=⟨List.replicate n [],List.replicate n []⟩) (show(List.replicate n ([]:Y_)).length=n from Ze) (show(List.replicate n ([]:Y_)).length=n from Ze) (fun c o=>⟨(A.dd c o).1,(A.dd c o).2.1⟩) A.dn f.length (Z4 _);have O:∀c∈f,∃i,i<f.length∧f.getD i 0=c:=fun c o=>by obtain⟨i,p,e⟩:=ZZ o;exact⟨i,p,by rw[Z6,Z7 p,e];rfl⟩
 have h:StW n S (T.left rows) f (XD v) [] (Yy f.length S f f.length ⟨List.replicate n [],List.replicate n []⟩):=by
  refine⟨B.1,B.2.1,fun c o=>?_,fun y i p=>?_,fun y t z=>(by cases z),fun k H c o=>?_⟩
  ·rcases o with o|⟨t,z,_⟩;·obtain⟨i,p,rfl⟩:=O c o;exact⟨by rw[(B.2.2 i p).1];simp[Zm],by rw[(B.2.2 i p).2];simp[Zm]⟩
   ·cases z
  ·rw[(B.2.2 i p).1];exact Z5c _ _ _ p
  ·rcases o with o|⟨t,z,_⟩;·obtain⟨i,p,rfl⟩:=O c o;unfold at2;rw[(B.2.2 i p).1,(B.2.2 i p).2,Z5c _ _ _ p];have:(Zm S).getD k 0=0:=Z3Q S k;rw[this,bx0]
   ·cases z
 have D:=Z9d A (fun q E=>⟨(C q E).1,(C q E).2.1,fun c o=>⟨((C q E).2.2.1 c o).1,((C q E).2.2.1 c o).2.1⟩⟩) (fun q E k H=>(C q E).2.2.2 k H) h x [] Ze;have F:=Z8m T f.length D.lw D.lm n (Z4 _);have P:∀c:Int,0≤c→c<(n:Int)→T.kn c=false→(c∈f∨∃t∈x,t.2=c):=A.all;have I:∀c:Int,0≤c→c<(n:Int)→T.kn c=false→(Z2o n S T rows x f).W.getD c.toNat []=(x.foldl (stepW f.length (T.left rows)) (Yy f.length S f f.length ⟨List.replicate n [],List.replicate n []⟩)).W.getD c.toNat []:=fun c h j l=>by unfold Z2o;rw[(F.2.2 c h j).1,if_neg (fun e=>by rw[l]at e;cases e.2)]
 have Q:∀c:Int,0≤c→c<(n:Int)→T.kn c=false→(Z2o n S T rows x f).Mo.getD c.toNat []=(x.foldl (stepW f.length (T.left rows)) (Yy f.length S f f.length ⟨List.replicate n [],List.replicate n []⟩)).Mo.getD c.toNat []:=fun c h j l=>by unfold Z2o;rw[(F.2.2 c h j).2,if_neg (fun e=>by rw[l]at e;cases e.2)]
 have G:∀c:Int,0≤c→c<(n:Int)→T.kn c=true→(Z2o n S T rows x f).W.getD c.toNat []=Zm f.length∧(Z2o n S T rows x f).Mo.getD c.toNat []=v c:=fun c h j l=>by unfold Z2o;rw[(F.2.2 c h j).1,(F.2.2 c h j).2,if_pos ⟨j,l⟩,if_pos ⟨j,l⟩];exact⟨rfl,N.made M J c h l⟩
 refine⟨F.1,F.2.1,fun c h j=>?_,fun y i p=>?_,fun y t z=>?_,fun y c h j l=>?_,fun k H c h j=>?_⟩
 ·cases l:T.kn c with
  |true=>exact⟨by rw[(G c h j l).1];simp[Zm],by rw[(G c h j l).2];exact J.len c h j⟩
  |false=>have:=D.g c (P c h j l);exact⟨by rw[I c h j l];exact this.w,by rw[Q c h j l];exact this.m⟩
 ·have L:f.getD i 0∈f:=by rw[Z6,Z7 p];exact Zp _
  have:=A.dd _ L;rw[I _ this.1 this.2.1 this.2.2];exact D.d y i p
 ·rw[←D.r y t z];refine Z2r _ fun c o=>?_;obtain⟨a,b,e⟩:=List.append_of_mem z;have R:=(A.st a t b e).1;rw[Zz]at R;have L:(T.left rows).getD t.1 default∈T.left rows:=by rw[Z6,Z7 R];exact Zp _
  have:=(C _ L).2.2.1 c o;rw[I c this.1 this.2.1 this.2.2]
 ·rw[(G c h j l).1];exact Z23 _ _
 ·cases l:T.kn c with
  |true=>unfold at2;rw[(G c h j l).1,(G c h j l).2];have:dot (Zm f.length) (fun i=>XD v (f.getD i 0).toNat k)=0:=Z23 _ _;rw[this,b0x];unfold XD;rw[show((c.toNat:Nat):Int)=c from Y]
  |false=>have:=D.m k H c (P c h j l);unfold at2 at this ⊢;rw[I c h j l,Q c h j l];exact this
def Z00 (a:Nat) (R:List Zt) (left:List Nat) (s:WM):List (Y_×Y_):=left.map fun i=>XK s (R.getD i default).cols (Zm a,(R.getD i default).data)
def Z0N (n a S:Nat) (P:Zl) (s:WM):List (Y_×Y_):=P.map fun r=>WC a S r s n
def Z2e (n S:Nat) (P:Zl) (R:List Zt) (left:List Nat) (a:Nat) (s:WM):List (Y_×Y_):=Z00 a R left s++Z0N n a S P s
theorem Z4c {a:Zl}{x:Nat→Byte}:Vy a x↔∀r∈a,dot r x=0:=by
 constructor;·intro h r c;obtain⟨i,b,rfl⟩:=ZZ c;have:=h i b;rwa [Z6,Z7 b]at this
 ·intro h i b;refine h _ ?_;rw[Z6,Z7 b];exact Zp _
theorem Z6k {left:List Nat}{a:Nat}{R:List Zt}{s:WM}{p:Y_×Y_}:p∈Z2e n S P R left a s↔(∃i∈left,p=XK s (R.getD i default).cols (Zm a,(R.getD i default).data))∨∃r∈P,p=WC a S r s n:=by
 unfold Z2e Z00 Z0N;rw[YZ,ZT,ZT];constructor
 ·rintro(⟨i,b,rfl⟩|⟨r,c,rfl⟩);·exact .inl ⟨i,b,rfl⟩
  ·exact .inr ⟨r,c,rfl⟩
 ·rintro(⟨i,b,rfl⟩|⟨r,c,rfl⟩);·exact .inl ⟨i,b,rfl⟩
  ·exact .inr ⟨r,c,rfl⟩
theorem ZcV {L:List (Nat×Int)}{b:W_}{left:List Nat}(A:Right n S rows)(hm:Made n S v rows)(hT:Reach n rows T)
  (M:Z3G n ((T.left rows).map Zt.cols) T.kn L b left) (N:∀r∈P,r.length=n) (a0:∀r∈P,∀k,k<S→dot r (fun c=>if c<n then XD v c k else 0)=0)
  (ht:Wu n (P++rows.map fun q=>VE n q.cols)) {s:WM} (x:Z5J n S rows T v L b s):
  (∀p∈Z2e n S P (T.left rows) left b.length s,p.1.length=b.length∧p.2.length=S∧∀k,k<S→dot p.1 (fun i=>XD v (b.getD i 0).toNat k)=p.2.getD k 0)∧
  Wu b.length ((Z2e n S P (T.left rows) left b.length s).map Prod.fst):=by
 have B:=Z4W A hm hT;have C:∀i∈left,(T.left rows).getD i default∈T.left rows:=fun i f=>by have:=M.lr i f;rw[Zz]at this;rw[Z6,Z7 this];exact Zp _
 have O:∀i∈left,_:=fun i f=>Z6o (nd:=b.length) (S:=S) (s:=s) ((T.left rows).getD i default).cols (Zm b.length,((T.left rows).getD i default).data) (fun c o=>by have:=(B _ (C i f)).2.2.1 c o;exact x.g c this.1 this.2.1) (by simp[Zm]) (B _ (C i f)).2.1;have Q:∀r∈P,_:=fun r A=>Zfc (nd:=b.length) (S:=S) (s:=s) r n (fun c o=>x.g c Y Y);constructor
 ·intro p a1;rcases Z6k.1 a1 with ⟨i,f,rfl⟩|⟨r,I,rfl⟩;·have h:=O i f;refine⟨h.1,h.2.1,fun k w=>?_⟩;rw[h.2.2.1,h.2.2.2 k w];simp only;unfold Zm;rw[Z23,b0x,←(B _ (C i f)).2.2.2 k w,←Z6L];refine Z2r _ fun c o=>?_;have:=(B _ (C i f)).2.2.1 c o;have D:=x.m k w c this.1 this.2.1;rw[←D,Z1w,bxx,bx0]
  ·have h:=Q r I;refine⟨h.1,h.2.1,fun k w=>?_⟩;rw[h.2.2.1,h.2.2.2 k w];have J:=a0 r I k w;unfold dot at J;rw[N r I]at J;have:YE n (fun c=>ZU (r.getD c 0) (dot (s.W.getD c []) fun i=>XD v (b.getD i 0).toNat k)) ^^^ YE n (fun c=>ZU (r.getD c 0) (at2 s.Mo c k))=0:=(by rw[←Z52];refine Eq.trans ?_ J;refine Z1f n fun c o=>?_;have D:=x.m k w (c:Int) Y Y;rw[ZL]at D;rw[←Z6S,D];simp only[if_pos o]);exact Z7u this
 ·intro y hy w i;by_cases f:b.length≤i;·exact hy i f
  have hx:=ht (fun c=>dot (s.W.getD c []) y) (fun j E=>by
   rw[Z6,XX (by rw[x.lw];exact E)];rfl) (Z4c.2 fun r a2=>by
   rcases YZ.1 a2 with h|h;·have F:=Z4c.1 w _ (ZT.2 ⟨_,Z6k.2 (.inr ⟨r,h,rfl⟩),rfl⟩);rw[(Q r h).2.2.1 y]at F;unfold dot;rw[N r h];exact F
   ·obtain⟨q,G,rfl⟩:=ZT.1 h;rw[Z8l _ _ _ (A.nd q G) (fun c o=>A.rng q G c o),Z67 _ (fun c=>T.kn c)];have F:Ym (fun c=>dot (s.W.getD c []) y) (q.cols.filter fun c=>T.kn c)=0:=Z8Q _ fun c o=>by have R:=YW.1 o;have:=A.rng q G c R.1;exact x.k y c this.1 this.2 R.2
    rw[F,b0x];show Ym (fun c=>dot (s.W.getD c []) y) (T.opn q.cols)=0;by_cases U:T.opn q.cols=[]
    ·rw[U];rfl
    ·have a3:(⟨T.opn q.cols,T.rest q⟩:Zt)∈T.left rows:=by
      unfold Zk.left;refine ZT.2 ⟨q,YW.2 ⟨G,?_⟩,rfl⟩;cases z:T.opn q.cols with
      |nil=>exact absurd z U
      |cons a l=>rfl
     obtain⟨j,E,e⟩:=ZZ a3;have V:(T.left rows).getD j default=⟨T.opn q.cols,T.rest q⟩:=(by rw[Z6,Z7 E,e];rfl);rcases M.lf j (by rw[Zz];exact E) with z|⟨t,ht9,z⟩;·have H:=Z4c.1 w _ (ZT.2 ⟨_,Z6k.2 (.inl ⟨j,z,rfl⟩),rfl⟩);rw[(O j z).2.2.1 y,V]at H;simp only at H;unfold Zm at H;rwa [Z23,b0x]at H
     ·have:=x.r y t ht9;rwa [z,V]at this)
  have z:=hx (b.getD i 0).toNat;rwa [x.d y i Y]at z
end
end
def ZjU (w:U1) (A:X_) (n c:Nat) (l:Y_) (e:Ending) (a:U1):Prop:=
 ∃k,k≤n∧e=.returned (.slice A k c)∧w=a∧(0<k→l.getD (k-1) 0≠0#8)∧∀i,k≤i→i<n→l.getD i 0=0#8
theorem Zf4 (B:Nat)(A:X_)(l:Y_)(n c:Nat)(w:U1)(h:Sl w B 1 A n (l.map Za))(t:n≤c)(y:c≤9223372036854775807):
  Calls prog 282 #[(A,n,c),.int .u8 0] w (ZjU w A n c l):=by
 have q:=Z (show l.length=n by have:=h.len;simpa using this);have H:=h;go_enter func282,ntmps282;go_wp2;go_loopw [0] (fun v wr=>∃k:Nat,k≤n∧v=.slice A k c∧wr=w∧Hid (∀i,k≤i→i<n→l.getD i 0=0#8)) (fun v _=>(match v with| .slice _ k _=>k|_=>0))
 ·exact⟨n,Z4 _,rfl,rfl,Z (fun i b d=>absurd b Y)⟩
 ·obtain⟨k,z,rfl,rfl,g⟩:=hrel;by_cases r:k=0;·subst r;go_wp2;go_ret;exact⟨0,ZY _,rfl,rfl,fun h=>absurd h Y,fun i b d=>g i b d⟩
  ·obtain⟨a,rfl⟩:∃a,k=a+1:=⟨k-1,Y⟩;obtain⟨C,o,rfl,D,j⟩:=H.get (k:=a) Y (XF l a (by rw[q];omega));obtain⟨x,m⟩:=Zb (l.getD a 0);rw[m]at j;have p:=Z m;unfold Za at j;have E:((a+1:Nat):Int)-1=(a:Int):=Y;by_cases e:x=0#8
   ·have s:((x.toNat:Int)==0)=true:=(by rw[e];rfl);go_wp2;go_roundw
    ·exact⟨a,Y,Zg,by first|rfl|trivial,Z (fun i b d=>by
     rcases Yf a i with f|f;·exact g i f d
     ·obtain rfl:i=a:=Y;rw[p];exact e)⟩
    ·simp
   ·have s:((x.toNat:Int)==0)=false:=(by have:x.toNat≠0:=fun f=>e (Z0s (by simpa using f));simp;omega);go_wp2;go_ret;exact⟨a+1,Y,rfl,rfl,fun _=>by rw[Nat.add_sub_cancel,p];exact e,g⟩
theorem ZfJ (k:Nat)(B:Nat)(A:X_)(l:Y_)(n c:Nat)(w:U1)(h:Sl w B 1 A n (l.map Za))(d:n≤c)(f:c≤9223372036854775807)(q:k≤n)(g:0<k→l.getD (k-1) 0≠0#8)(j:∀i,k≤i→i<n→l.getD i 0=0#8):
  Calls prog 282 #[(A,n,c),.int .u8 0] w fun e m=>e=.returned (.slice A k c)∧m=w:=by
 refine(Zf4 B A l n c w h d f).mono ?_;rintro e r ⟨a,s,rfl,rfl,o,p⟩;obtain rfl:k=a:=by
  rcases Nat.lt_trichotomy k a with b|b|b;·exact absurd (j (a-1) Y Y) (o Y)
  ·exact b
  ·exact absurd (p (k-1) Y Y) (g Y)
 exact⟨rfl,rfl⟩
def Z4l (A:X_) (n c j:Nat):U2:=if j=n then .slice none 0 0 else .slice (A.map (·.add j)) (n-j) (c-j)
theorem ZfQ (q:Nat)(v:U2)(B:Nat)(A:X_)(l:Y_)(n c:Nat)(w:U1)(h:Sl w B 1 A n (l.map Za))(T:n≤c)(U:c≤9223372036854775807)
  (V:q≤n) (t:∀i,i<q→l.getD i 0=0#8) (y:q<n→l.getD q 0≠0#8) (z:Z4l A n c q=v):
  Calls prog 281 #[(A,n,c),.int .u8 0] w fun e M=>e=.returned v∧M=w:=by
 have N:=Z (show l.length=n by have:=h.len;simpa using this);have H:=h;have O:=Z t;have P:=Z y;have C:=Z z;clear h t y z;go_enter func281,ntmps281;go_wp2;go_loopw [0] (fun v wr=>∃(j:Nat) (d:X_),j≤q∧v=.slice d (n-j) (c-j)∧wr=w∧Hid (j<n→d=A.map (·.add j))) (fun v _=>(match v with| .slice _ k _=>k|_=>0))
 ·exact⟨0,A,ZY _,rfl,rfl,Z (fun D=>by
  obtain⟨b,o,e,_⟩:=H.at_ D;subst e;rfl)⟩
 ·obtain⟨j,d,W,rfl,rfl,Q⟩:=hrel;by_cases E:j=n;·subst E;obtain rfl:q=j:=Y;rw[W9];go_wp2;go_ret;exact⟨by rw[←C];unfold Z4l;rw[if_pos rfl];rfl,rfl⟩
  ·have F:=XF l j (by rw[N];omega);obtain⟨R,o,rfl,a0,G⟩:=H.get (k:=j) Y F;obtain rfl:d=some ⟨R,o+j,none⟩:=by rw[Q Y];simp[addr_add]
   obtain⟨x,g⟩:=Zb (l.getD j 0);rw[g]at G;have I:=Z g;unfold Za at G;obtain⟨m,p⟩:=Zb (n-j);obtain⟨r,s⟩:=Zb (c-j);have J:=Z p;have L:=Z s;rw[p,s];have a1:0<m:=Y;have a2:m≤r:=Y;have a3:r≤9223372036854775807:=Y;clear g F p s;by_cases f:x=0#8
   ·have S:((x.toNat:Int)==0)=true:=(by rw[f];rfl);have a4:j<q:=by
     rcases Yf j q with a|a;·exact a
     ·obtain rfl:j=q:=Y;exact absurd (I.trans f) (P Y)
    go_wp2;go_roundw;·have e1:=J.out;have e2:=L.out;refine⟨j+1,_,Y,by rw[show n-(j+1)=m-1 from Y,show c-(j+1)=r-1 from Y],by first|rfl|trivial,Z (fun D=>?_)⟩;rw[if_neg Y];simp[addr_add,VU]
    ·simp;omega
   ·have S:((x.toNat:Int)==0)=false:=(by have:x.toNat≠0:=fun a=>f (Z0s (by simpa using a));simp;omega);obtain rfl:j=q:=by
     rcases Yf j q with a|a;·exact absurd (I.symm.trans (O j a)) f
     ·omega
    go_wp2;go_ret;exact⟨by rw[←C];unfold Z4l;rw[if_neg E,J,L];simp[addr_add],rfl⟩
theorem Z7M (l:Y_):∀n,∃k,k≤n∧(0<k→l.getD (k-1) 0≠0#8)∧∀i,k≤i→i<n→l.getD i 0=0#8
 |0=>⟨0,Z4 _,fun h=>absurd h Y,fun i _ h=>absurd h Y⟩
 |n+1=>by
  by_cases a:l.getD n 0=0#8
  ·obtain⟨k,b,c,e⟩:=Z7M l n;refine⟨k,Y,c,fun i f g=>?_⟩;rcases Yf i n with d|d;·exact e i f d
   ·obtain rfl:i=n:=Y;exact a
  ·exact⟨n+1,Z4 _,fun _=>a,fun i b c=>absurd b Y⟩
theorem Z7K (l:Y_):∀n,∃q,q≤n∧(∀i,i<q→l.getD i 0=0#8)∧(q<n→l.getD q 0≠0#8)
 |0=>⟨0,Z4 _,fun i h=>absurd h Y,fun h=>absurd h Y⟩
 |n+1=>by
  obtain⟨q,f,a,d⟩:=Z7K l n;by_cases e:q<n;·exact⟨q,Y,a,fun _=>d e⟩
  ·obtain rfl:q=n:=Y;by_cases b:l.getD q 0=0#8
   ·refine⟨q+1,Z4 _,fun i g=>?_,fun h=>absurd h Y⟩;rcases Yf i q with c|c;·exact a i c
    ·obtain rfl:i=q:=Y;exact b
   ·exact⟨q,Y,a,fun _=>b⟩
theorem Zad (B:Nat)(A:X_)(l:Y_)(n c:Nat)(w:U1)(h:Sl w B 1 A n (l.map Za))(E:n≤c)(y:c≤9223372036854775807):
  Calls prog 223 #[.slice A n c,.string { data:= #[0]}] w fun e g=>∃F m G,e=.returned (.slice F m G)∧(∃d,g=w.drewN d)∧m≤9223372036854775807∧(m=0↔∀i,i<l.length→l.getD i 0=0#8):=by
 have o:=Z (show l.length=n by have:=h.len;simpa using this);by_cases I:n=0;·subst I;clear h;go_enter func223,ntmps223;go_wp2;go_ret;exact⟨_,_,_,rfl,⟨0,rfl⟩,Y,by simp;intro i f;exact absurd f (by rw[o.out];omega)⟩
 ·obtain⟨k,z,C,p⟩:=Z7M l n;obtain⟨q,J,r,s⟩:=Z7K l k;have t:=h.take z;rw[Wy,←Z1M]at t;have L:=Z t;have H:=Z h;have x:∀i,i<k→(l.take k).getD i 0=l.getD i 0:=fun i f=>by rw[Z6,Z6,VW f]
  obtain⟨v,b⟩:=Zb (Z4l A k c q);have M:=Z b;have N:=Z (fun g=>fun(a:Sl g B 1 A n (l.map Za))=>ZfJ k B A l n c g a E y z C p);have O:=Z (fun g=>fun(a:Sl g B 1 A k ((l.take k).map Za))=>ZfQ q v B A (l.take k) k c g a Y y J (fun i f=>(x i Y).trans (r i f)) (fun a=>by rw[x q a];exact s a) b);have D:Hid ((k-q=0)↔∀i,i<l.length→l.getD i 0=0#8):=Z ⟨fun a i f=>by
   rw[o.out]at f;rcases Yf i k with j|j;·exact r i Y
   ·exact p i j f,fun a=>by
   rcases Yf q k with j|j;·exact absurd (a q (by rw[o.out];omega)) (s j)
   ·omega⟩
  clear h t C p r s x b;go_enter func223,ntmps223;go_wp2_with fail;go_quiet (first
   | (go_at_call 282;exact Calls.quiet_of_same (N.out _ (H.out.drewN _)))
   | (go_at_call 281;exact Calls.quiet_of_same (O.out _ (L.out.drewN _))))
  go_wp2;go_ret;have b:=M.out;unfold Z4l at b;by_cases a:q=k;·rw[if_pos a]at b;subst b;exact⟨none,0,0,rfl,⟨_,rfl⟩,Y,by rw[←D.out];omega⟩
  ·rw[if_neg a]at b;subst b;exact⟨_,k-q,_,rfl,⟨_,rfl⟩,Y,D.out⟩
theorem Z8y (b:Bool)(B:Nat)(A:X_)(l:Y_)(n c:Nat)(w:U1)(h:Sl w B 1 A n (l.map Za))(p:n≤c)(q:c≤9223372036854775807)(f:b=true↔∀i,i<l.length→l.getD i 0=0#8):
  Calls prog 275 #[(A,n,c)] w fun e r=>e=.returned (.bool b)∧∃d,r=w.drewN d:=by
 have g:=Z f;have H:=h;clear f h;go_enter func275,ntmps275;go_wp2_with fail;refine(Zad B A l n c _ H p q).mono ?_;rintro e s ⟨t,j,v,rfl,⟨d,rfl⟩,x,k⟩;have m:=Z k;clear k;by_cases o:j=0;·subst o;have a:b=true:=g.2 (m.1 rfl);subst a;go_wp2;go_ret;exact⟨rfl,d,rfl⟩
 ·have a:b=false:=by
   cases b with
   |false=>rfl
   |true=>exact absurd (m.2 (g.1 rfl)) o
  subst a;have y:((j:Int)==0)=false:=Zx;go_wp2;go_ret;exact⟨rfl,d,rfl⟩
theorem ZbF (l a:W_)(k:Nat)(h:k<l.length)(b:k<a.length)(d:l.take k=a.take k)(c:l.getD k 0=a.getD k 0):l.take (k+1)=a.take (k+1):=by rw[ZR h,ZR b,d];simp[h,b]at c;rw[c]
theorem ZeQ (B:Nat)(A s:X_)(l a:W_)(n f c E:Nat)(w:U1)(h:Sl w B 1 A n (l.map iv))(t:Sl w B 1 s f (a.map iv))(L:n≤9223372036854775807)(M:f≤9223372036854775807):
  Calls prog 132 #[(A,n,c),(s,f,E)] w fun e F=>e=.returned (.bool (decide (l=a)))∧∃d,F=w.drewN d:=by
 have j:=Z (show l.length=n by have:=h.len;simpa using this);have m:=Z (show a.length=f by have:=t.len;simpa using this);by_cases v:n=f
 ·subst v;have z:((n:Int) !=(n:Int))=false:=Ze;go_enter func132,ntmps132;go_wp2;go_loopw [13] (fun i wr=>∃k d:Nat,k≤n∧i=.int .i64 k∧Hid (l.take k=a.take k)∧wr=w.drewN d) (fun i _=>n-(intOf i).toNat)
  ·exact⟨0,0,ZY _,rfl,rfl,rfl⟩
  ·obtain⟨k,d,N,rfl,C,rfl⟩:=hrel;by_cases g:k<n
   ·have O:(k:Int)<(n:Int):=Y;have P:(0:Int)≤(k:Int):=Y;obtain⟨b,o,rfl,z,Q⟩:=h.get g (Z1i l k (j ▸ g));obtain⟨R,S,rfl,T,U⟩:=t.get g (Z1i a k (m ▸ g));have G:=Z (ZbF l a k (j ▸ g) (m ▸ g) C);generalize hx:l.getD k 0=x at*;generalize hy:a.getD k 0=y at*;have H:=Z hx;have I:=Z hy;have V:True:=trivial;go_wp2;go_quiet (fail)
    go_wp2;·have p:decide (l=a)=false:=(by have q:(x !=y)=true:=(by assumption);have r:x≠y:=(by simpa using q);simp;rintro rfl;exact r (H.symm.trans I));go_ret;exact⟨Xu p.symm,_,World.drewN_drewN _ _ _⟩
    ·have q:(x !=y)=false:=(by assumption);have r:x=y:=(by simpa using q);go_roundw;·exact⟨k+1,_,Y,Zg,G r,rfl⟩
     ·exact Zh
   ·have J:decide (l=a)=true:=(by have D:=C.out;rw[ZP (by rw[j];omega),ZP (by rw[m];omega)]at D;simpa using D);go_wp2;go_ret;exact⟨Xu J.symm,_,rfl⟩
 ·have z:((n:Int) !=(f:Int))=true:=Zx;have p:decide (l=a)=false:=by simp;rintro rfl;exact v (j.symm.trans m)
  go_enter func132,ntmps132;go_wp2;go_ret;exact⟨Xu p.symm,0,rfl⟩
theorem ZhO (r:Bool)(B:Nat)(A b:X_)(l f:W_)(n a c g:Nat)(w:U1)(h:Sl w B 1 A n (l.map iv))(i:Sl w B 1 b a (f.map iv))(j:n≤9223372036854775807)(k:a≤9223372036854775807)(m:decide (l=f)=r):
  Calls prog 132 #[(A,n,c),(b,a,g)] w fun e o=>e=.returned (.bool r)∧∃d,o=w.drewN d:=by
 subst m;exact ZeQ B A b l f n a c g w h i j k
