/- DecF DecG -/
import Derived.Test.YtpokipdpjhookaaGreatDoorBTopRetires22
import Derived.Test.YtpokipdpjhookaaGreatDoorBTopRetires31
set_option maxHeartbeats 8000000
set_option maxRecDepth 20000
set_option linter.all false
namespace Go.Proofs
open Go Go.RowKit Tryz
variable {w:World} {x:Value} {l:List Value} {n m:Nat} {A:Option Addr} {s:List Int}
theorem ZfF (x:Nat×Int)(c d k n:Nat)(o:X_)(b:Bool)(w:U1)(f:w.cell? c=some (.pointer (some ⟨d,0,none⟩)))(h:w.cell? (d,5)=some (.slice o k n))(l:decide (k≤x.1)=b):
  Calls prog 278 #[.agg #[(x.1:Int),.int .i64 x.2],(c,())] w fun e q=>e=.returned (.bool b)∧Below w w q:=by
 have a:Below w w (w.alloc (.cells #[(x.1:Int),.int .i64 x.2] 354)):=(Z8 _ _).alloc (Z4 _) _;have i:=Row.new w 354 #[(x.1:Int),.int .i64 x.2];obtain⟨g,j⟩:=Zb w.heap.size;have r:=(a.cell (p:=c) (YC w _ f)).trans f;have s:=(a.cell (p:=⟨d,5,none⟩) (YC w _ h)).trans h;rw[j]at i a ⊢;have t:=Z j;have v:=Z l;clear f h j l;have m:=i.cell 0;simp only[ZE]at m;clear i;go_enter func278,ntmps278;go_wp2_with fail;rw[t];generalize w.alloc (.cells #[(x.1:Int),.int .i64 x.2] 354)=w1 at a r s m ⊢;go_region
 go_wp2;go_ret;refine⟨?_,bq_ a 1⟩;rw[←v];congr 2
theorem Zg8 (x:Int)(a c d f:Nat)(g:X_)(b:Bool)(w:U1)(k:w.cell? a=some (.pointer (some ⟨c,0,none⟩)))(l:w.cell? (c,5)=some (.slice g d f))(h:decide ((d:Int)≤x)=b):
  Calls prog 279 #[x,(a,())] w fun e i=>e=.returned (.bool b)∧Below w w i:=by
 have j:=Z h;go_enter func279,ntmps279;go_wp2;go_ret;refine⟨?_,Z8 _ _⟩;rw[←j];rfl
structure LJ (base:Nat) (w:World) (n:Nat) (va:Value) (vs:List Value) (L:List (List Int)):Prop where
 ao:w.ownsRow base 22 1 va n vs
 al:L.length=n
 at_:∀i,i<n→KI base w (vs.getD i undef) (L.getD i [])
theorem LJ.below {base n:Nat}{w':U1}{L:List (W_)}(h:LJ base w n x l L)(a:Below w w w')(b:base≤w):LJ base w' n x l L:=
 ⟨h.ao.kept (ZB a none) (by cases x.ownBlock <;> simp),h.al,fun i c=>(h.at_ i c).below a b⟩
theorem LJ.push {base n:Nat}{w w':U1}{d f b:U2}{a:Z_}{L:List (W_)}{x:W_}(h:LJ base w n d a L)(m:base≤w)(o:KI base w b x)(p:w'.ownsRow base 22 1 f (n+1) (a++ [b]))(q:w.grownBy w' d.ownBlock):LJ base w' (n+1) f (a++ [b]) (L++ [x]):=by
 have r:a.length=n:=by have:=h.ao.1;simpa using this
 have g:∀(c:U2) (l:W_),KI base w c l→KI base w' c l:=fun c l s=>s.grown q (fun k e=>(h.ao.lt k e).1) m (fun t=>YF t h.ao Z5);refine⟨p,by simp[h.al],fun i v=>?_⟩;by_cases j:i<n;·rw[Z6,Z6,Yp Y,Yp (h.al ▸ j),←Z6,←Z6];exact g _ _ (h.at_ i j)
 ·have:i=n:=Y;subst this;rw[Z6,Z6,Y7 Y,Y7 (by rw[h.al];omega),r,h.al,W9];exact g _ _ o
theorem LJ.read {base:Nat}{L:List (W_)}(h:LJ base w n (A,n,m) l L)(a:base≤w):RIs w w A n l L:=
 ⟨Sl.own h.ao,h.al,fun i b=>(h.at_ i b).read a⟩
theorem Zjx:(prog.info? 22).map (fun i=>(i.zero,i.size,i.bytes))=some (some (.slice none 0 0),1,24):=Zi
def Xl (T:Zk) (c:Nat):W_:=((List.range c).filter fun i=>T.known.getD i false).map Int.ofNat
theorem ZaQ (T:Zk)(c:Nat)(h:T.known.getD c false=true):ones (Xl T (c+1))=ones (Xl T c)++ [[(c:Int)]]:=by unfold Xl ones;rw[Wp,Vs,show([c].filter fun i=>T.known.getD i false)=[c] by simp only[List.filter_cons,h,if_true,List.filter_nil]];simp
theorem ZjB (T:Zk)(c:Nat)(h:T.known.getD c false=false):Xl T (c+1)=Xl T c:=by unfold Xl;rw[Wp,Vs,show([c].filter fun i=>T.known.getD i false)=[] by simp only[List.filter_cons,h,Z2j,↓reduceIte,List.filter_nil],Wo]
theorem Zav (T:Zk)(c:Nat):(Xl T c).length≤c:=by unfold Xl;rw[Zz];have:=Wx (fun i=>T.known.getD i false) (List.range c);rwa [WZ]at this
theorem Z6A (l:W_):(ones l).length=l.length:=by simp[ones]
theorem Zfp (R:List Zt)(k:Nat)(h:k<R.length):(R.take (k+1)).map Zt.cols=(R.take k).map Zt.cols++ [(R.getD k default).cols]:=by rw[ZR h,ZV,Z6,Z7 h];rfl
theorem Zii (T:Zk)(n:Nat)(c:Int):c∈Xl T n↔0≤c∧c<(n:Int)∧T.kn c=true:=by
 unfold Xl Zk.kn;simp only[ZT,YW,Ws];constructor;·rintro⟨i,⟨b,a⟩,rfl⟩;refine⟨Ze,Zx,?_⟩;simpa using a
 ·rintro⟨b,a,d⟩;refine⟨c.toNat,⟨Y,by simpa using d⟩,Zx⟩
theorem Zb3:∀(r:W_) (a b:Int),(∀c∈r,a≤c∧c<b)→r.Pairwise (· < ·)→a+(r.length:Int)≤max a b
 | [],a,b,_,_=>Zx
 |x::t,a,b,h,hp=>by have e:=h x Ze;have f:=Zb3 t (x+1) b (fun c d=>⟨Zc ((VF.1 hp).1 c d),(h c (by simp[d])).2⟩) (VF.1 hp).2;simp only[XQ];omega
theorem Zga {L:List (W_)}(h:Z2V n L)(b:n≤1048576):∀r∈L,r.length≤1048576:=fun r a=>by have:=Zb3 r 0 n (h r a).1 (h r a).2;omega
theorem ZbT {R:List (W_)}{d:Int→Bool}(h:∀r∈R,(∀c∈r,0≤c∧c<(n:Int)∧d c=false)∧r.Pairwise (· < ·))(e:∀c:Int,c∈s↔0≤c∧c<(n:Int)∧d c=true):Z2V n (R++ones s):=fun r a=>by
 rcases YZ.1 a with a|a;·exact⟨fun c b=>⟨((h r a).1 c b).1,((h r a).1 c b).2.1⟩,(h r a).2⟩
 ·obtain⟨k,f,rfl⟩:=ZT.1 a;refine⟨fun c b=>?_,Ze⟩;have:c=k:=by simpa using b
  subst this;exact⟨((e c).1 f).1,((e c).1 f).2.1⟩
theorem ZgH (j n:Nat)(v:U2)(d:List (Nat×Int))(p:(Nat×Int)→Bool)(f:Nat)(i:Array U2)(w:U1)(s:∀r w,(callFunc f r).run prog w=.ok (.enter f r) w)
  (o:w.ownsRow j 354 2 v n (stC d)) (t:d.length=n) (y:n≤100000)
  (z:∀x∈d,∀b,Only (fun k=>v.ownBlock=some k) w b→Calls prog f (#[Z7C x]++i) b fun e A=>e=.returned (.bool (p x))∧Below b b A):
  Calls prog 277 #[v,.func (.func f) #[] i] w fun e b=>∃q,e=.returned q∧q.ownBlock=v.ownBlock∧b.ownsRow j 354 2 q (d.filter fun x=> !p x).length (stC (d.filter fun x=> !p x))∧Only (fun k=>v.ownBlock=some k) w b:=by
 rcases o.2 with ⟨rfl,B⟩|⟨g,c,H,rfl,_⟩
 ·refine(Zj4 f i w).mono ?_;rintro e b ⟨rfl,rfl⟩;have:d=[]:=by
   have C:=o.1;cases d with
   |nil=>rfl
   |cons a l=>simp[stC,B]at C
  subst this;exact⟨_,rfl,rfl,Yi _ _ _ _,Only.refl _ _⟩
 ·refine(Zdr j g n c d p f i w s (by exact o) t y (fun x D b h=>z x D b (h.mono fun k e=>by subst e;rfl))).mono ?_;rintro e b ⟨m,rfl,E,F,G⟩;exact⟨_,rfl,rfl,by rw[E];exact F,G.mono fun k e=>by subst e;rfl⟩
theorem Z6K (j n:Nat)(v:U2)(d:W_)(p:Int→Bool)(f:Nat)(i:Array U2)(w:U1)(y:∀r w,(callFunc f r).run prog w=.ok (.enter f r) w)
  (o:w.ownsRow j 3 1 v n (d.map iv)) (z:d.length=n) (A:n≤100000)
  (B:∀x∈d,∀b,Only (fun k=>v.ownBlock=some k) w b→Calls prog f (#[Z7D x]++i) b fun e C=>e=.returned (.bool (p x))∧Below b b C):
  Calls prog 53 #[v,.func (.func f) #[] i] w fun e b=>∃q,e=.returned q∧q.ownBlock=v.ownBlock∧b.ownsRow j 3 1 q (d.filter fun x=> !p x).length ((d.filter fun x=> !p x).map iv)∧Only (fun k=>v.ownBlock=some k) w b:=by
 have s:∀l:W_,l.flatMap en3=l.map iv:=fun l=>by
  induction l with
  |nil=>rfl
  |cons a l ih=>simp only[Vb,WQ,ih];rfl
 rcases o.2 with ⟨rfl,D⟩|⟨g,c,I,rfl,_⟩
 ·refine(ZiA f i w).mono ?_;rintro e b ⟨rfl,rfl⟩;have:d=[]:=by
   have E:=o.1;cases d with
   |nil=>rfl
   |cons a l=>simp[D]at E
  subst this;exact⟨_,rfl,rfl,Yi _ _ _ _,Only.refl _ _⟩
 ·refine(ZcG j g n c d p f i w y (by rw[s];exact o) z A (fun x F b h=>B x F b (h.mono fun k e=>by subst e;rfl))).mono ?_;rintro e b ⟨m,rfl,G,t,H⟩;rw[s]at t;exact⟨_,rfl,rfl,by rw[G];exact t,H.mono fun k e=>by subst e;rfl⟩
theorem Zdk (o bs N ck:Nat)(Ak:X_)(p:Zf)(gf:Nat)(vv rv:U2)(ps:List (U2×U2))(R:List Zt)(T:Zk)(w:U1)
  (af:Row w o 287 (Yx gf p vv rv (.slice none 0 0) (.slice none 0 0) (.slice none 0 0) (.slice none 0 0) (.slice none 0 0))) (hr:Xa bs w rv ps R) (bt:bs≤w)
  (hk:Sl w w 1 Ak N (T.known.map Value.bool)) (bv:T.known.length=N) (hN:N≤64) (cv:R.length≤90000)
  (hR:∀r∈R.map Zt.cols,(∀c∈r,0≤c∧c<(N:Int)∧T.kn c=false)∧r.Pairwise (· < ·)):
  Calls prog 219 #[.pointer (some ⟨o,0,none⟩),.slice Ak N ck] w fun e w'=>e=.returned (.tuple #[])∧∃v1 v2 v3 al am left,Row w' o 287 (Yx gf p vv rv v1 v2 v3 (.slice none 0 0) (.slice none 0 0))∧
   w'.ownsRow w 354 2 v1 al.length (stC al)∧w'.ownsRow w 3 1 v2 am.length (am.map iv)∧w'.ownsRow w 3 1 v3 left.length (left.map ZM)∧
   Z3G N (R.map Zt.cols) T.kn al am left∧al.length≤100000∧left.length≤100000∧am.length≤N∧Only (fun q=>q=o) w w':=by
 obtain⟨ii,cw,cx,cy,di⟩:=info_parts VC;obtain⟨is,an,ap,aq,bw⟩:=info_parts Zjx;have a1:Below w w (w.alloc (.cells #[.pointer (some ⟨o,0,none⟩)] 282)):=(Z8 _ _).alloc (Z4 _) _;have aK:=Row.new w 282 #[.pointer (some ⟨o,0,none⟩)];obtain⟨g2,aL⟩:∃g,w.heap.size=g:=⟨_,rfl⟩;rw[aL]at aK;obtain⟨a,aM⟩:∃n,R.length=n:=⟨_,rfl⟩;have ar:=af.below a1 af.lt;have cz:=ar.lt;obtain⟨Ar,cr,cA,cB,dj⟩:=hr.form;subst cA;rw[aM]at af ar cB cv;have bx:=Z (hr.below a1 bt);have ab:=Z ar;have a6:=Z aK;have bz:=Z a1;have cC:=Z aL;have av:=Z aM;have bC:=Z (hk.below a1);have cD:=Z bv;have bD:=Z hR;have aO:=a1.size;have dk:o<g2:=Zc af.lt;clear af ar hr hk bv hR a1 aK aL aM;go_enter func219,ntmps219;go_upto_region 2 with fail;rw[cC];generalize w.alloc (.cells #[.pointer (some ⟨o,0,none⟩)] 282)=w1 at bx ab a6 bz bC cz aO ⊢;have dl:=a6.lt;have y0:=Z9 a6 0;have z5:=Z9 ab 5;have cE:Hid (LJ w1 w1 0 (.slice none 0 0) [] ((R.take 0).map Zt.cols)):=Z ⟨Yi _ _ _ _,rfl,fun i hi=>absurd hi Y⟩;go_wp2;go_loopw [4,6,16] (fun s4 _ i wr=>∃(k C:Nat) (D:X_) (I:Z_),s4=.slice D k C∧k≤a∧i=.int .i64 (k:Int)∧Hid (LJ w1 wr k (.slice D k C) I ((R.take k).map Zt.cols))∧Hid (Below w1 w1 wr)) (fun _ _ i _=>a-(intOf i).toNat)
 ·exact⟨0,0,none, [],rfl,Y,rfl,cE,Z (Z8 _ _)⟩
 ·obtain⟨k,C,D,I,rfl,hk,rfl,HL,j⟩:=hrel;by_cases ag:k<a
  ·have cF:(k:Int)<(a:Int):=Y;have aP:k<R.length:=(by rw[av];exact ag);have aw:=bx.read rfl (Zj bt aO);obtain⟨cG,cH⟩:=aw.at_ k aP;obtain⟨v,y,e1,bE,cI,aQ⟩:=cG;obtain⟨M,O,J,cJ,dm,bF⟩:=cH;obtain⟨be,oe,cK,bG,aR⟩:=aw.sl.2 Y;have ax:=Z76 ps k (by rw[aw.pl];exact aP);rw[e1,J]at ax;have bH:=(j.cell (p:=(be,oe+k*2)) bG).trans (aR _ _ ax.1);have aT:=aR _ _ ax.2;rw[←VU]at aT;have bI:=(j.cell (p:=(be,oe+k*2+1)) bG).trans aT;clear aT;have aU:=Zfp R k aP;obtain⟨q,hq⟩:=Zb (R.getD k default);rw[hq]at bH bI aQ bF aU bE cJ;have aV:KI w1 wr (.slice v q.cols.length y) q.cols:= .inl ⟨v,y,rfl,bE,cI,aQ.below j⟩;obtain⟨nc,bJ⟩:∃n,q.cols.length=n:=⟨_,rfl⟩;obtain⟨nd,bK⟩:∃n,q.data.length=n:=⟨_,rfl⟩;rw[bJ]at bH aV;rw[bK]at bI;have cL:=Z aV;have cM:=Z aU;subst cK;have a3:Below wr wr (wr.alloc (.cells #[.slice v nc y,.slice M nd O] 281)):=(Z8 _ _).alloc (Z4 _) _;have aW:=Row.new wr 281 #[.slice v nc y,.slice M nd O];obtain⟨g6,b0⟩:∃g,wr.heap.size=g:=⟨_,rfl⟩;rw[b0]at aW;have cN:=Z b0;have a0:=j.size;have bL:=Z (HL.below a3 a0);have bM:=Z (cL.below a3 a0);have ah:=Z (j.trans (a3.mono a0));have dn:k≤90000:=Y;have x0:=aW.cell 0;simp only[ZE]at x0;clear aw aQ bF aR ax aU hq aV bJ bK e1 J a3 aW b0;go_upto_region 5 with fail;rw[cN];generalize wr.alloc (.cells #[.slice v nc y,.slice M nd O] 281)=L at bL bM ah x0 ⊢;go_wp2_with (first
    | ((with_reducible refine Xk 23 ?_);refine wpList_plain rfl (fun K hK=>?_);refine WJ 185 22 (.tmp 22) rfl (.slice v nc y) rfl rfl is _ underlying185 an ap aq rfl ?_;rintro w7 g7 P d E b1;refine hK _ _ ?_;clear hK K;have a2:=Z d;have b2:=d.lt;have a7:=Z (bL.below (by rw[P];exact E) ah.size);have cO:=Z (bM.below (by rw[P];exact E) ah.size);have Q:=Z (ah.trans ((show Below L L w7 by rw[P];exact E).mono ah.size));clear d E P b1)
    | ((with_reducible refine Xk 24 ?_);go_must (refine Y5 rfl (.tmp 20) (.tmp 23) 185 rfl w1 22 is _ 1 24 underlying185 an ap aq bw rfl Y (.slice D k C) k I rfl a7.ao w7 (some ⟨g7,0,none⟩) 1 1 [.slice v nc y] rfl (a2.sl b2 (Z4 _)) (by simp[Value.oneCell']) (k+1) rfl _ rfl Y Y Q.size ?_);intro A8 c8 w8 ai a8 ay;go_must (have b3:=Z (a7.push Q.size cO ai a8));have b4:=Z (Y9 Q a7.ao a8 (Z4 _) Q.size);clear ai a8 ay))
   go_roundw;·exact⟨k+1,_,_,_,rfl,Y,Zg,by rw[cM];exact b3,b4⟩
   ·exact Zh
  ·have he:a=k:=Y;subst he;have cP:R.take a=R:=(by rw[←av];exact Xm);rw[cP]at HL;have cQ:Hid (LJ w1 wr (a+(Xl T 0).length) (.slice D (a+(Xl T 0).length) C) I (R.map Zt.cols++ones (Xl T 0))):=Z (by rw[show Xl T 0=[] from rfl];simpa[ones]using HL.out);have dp:(Xl T 0).length=0:=rfl;generalize wr=w2 at*;have a0:=j.size;clear ag hk;go_wp2;go_loopw [4,7,8,28] (fun s4 _ _ i wr=>∃(k C:Nat) (D:X_) (I:Z_),s4=.slice D (a+(Xl T k).length) C∧k≤N∧i=.int .i64 (k:Int)∧Hid (LJ w1 wr (a+(Xl T k).length) (.slice D (a+(Xl T k).length) C) I (R.map Zt.cols++ones (Xl T k)))∧Hid (Below w1 w1 wr)) (fun _ _ _ i _=>N-(intOf i).toNat)
   ·exact⟨0,C,D,I,rfl,Y,rfl,cQ,j⟩
   ·obtain⟨k,C,D,I,rfl,hk,rfl,HL,j⟩:=hrel;have a0:=j.size;by_cases ag:k<N
    ·have cF:(k:Int)<(N:Int):=Y;obtain⟨bk,ok,ek,_,cR⟩:=(bC.below (j.mono aO)).get ag (Z25 T.known k (by rw[cD];exact ag));subst ek;obtain⟨b,hb⟩:=Zb (T.known.getD k false);rw[hb]at cR;cases b with
     |false=>
      have bO:=Z (ZjB T k hb);clear hb;go_wp2;go_roundw;·exact⟨k+1,_,_,_,by rw[bO],Y,Zg,by rw[bO];exact HL,j⟩
      ·exact Zh
     |true=>
      have cS:=Z (ZaQ T k hb);have bP:(Xl T (k+1)).length=(Xl T k).length+1:=(by have:=congrArg List.length (ZaQ T k hb);rw[Zw,Z6A,Z6A]at this;simpa using this);have cT:=Z bP;obtain⟨m,hm⟩:=Zb (a+(Xl T k).length);have bQ:m≤100000:=Zc (Zav T k);have HM:=Z hm;rw[hm]at HL;clear hb bP hm;go_wp2_with (first
       | ((with_reducible refine Xk 36 ?_);refine wpList_plain rfl (fun K hK=>?_);refine WJ 22 3 (.tmp 35) rfl (.int .i64 (k:Int)) rfl rfl ii _ underlying22 cw cx cy rfl ?_;rintro w5 g5 b5 G ac cU;refine hK _ _ ?_;clear hK K;go_must (have cV:w1.heap.size≤g5:=Y);go_must (have az:=Z G);go_must (have cW:=Z (HL.below (by rw[b5];exact ac) a0));go_must (have aB:=Z (j.trans ((show Below wr wr w5 by rw[b5];exact ac).mono a0)));go_must (have d0:Hid (KI w1 w5 (.slice (some ⟨g5,0,none⟩) 1 1) [(k:Int)]):=Z (.inr (by have h9:=Row.own (base:=w1) (size:=1) (n:=1) (cap:=1) G cV (Z4 _) (by unfold maxLen;omega) rfl;exact h9)));clear G ac b5 cU)
       | ((with_reducible refine Xk 37 ?_);refine wpList_plain rfl (fun K hK=>?_);refine WJ 185 22 (.tmp 36) rfl (.slice (some ⟨g5,0,none⟩) 1 1) rfl rfl is _ underlying185 an ap aq rfl ?_;rintro w7 g7 P d E b1;refine hK _ _ ?_;clear hK K;go_must (have a2:=Z d);go_must (have b2:=d.lt);go_must (have a7:=Z (cW.below (by rw[P];exact E) aB.size));go_must (have d1:=Z (d0.below (by rw[P];exact E) aB.size));go_must (have Q:=Z (aB.trans ((show Below w5 w5 w7 by rw[P];exact E).mono aB.size)));clear d E P b1)
       | ((with_reducible refine Xk 38 ?_);rw[HM];go_must (refine Y5 rfl (.tmp 34) (.tmp 37) 185 rfl w1 22 is _ 1 24 underlying185 an ap aq bw rfl Y (.slice D m C) m I rfl a7.ao w7 (some ⟨g7,0,none⟩) 1 1 [.slice (some ⟨g5,0,none⟩) 1 1] rfl (a2.sl b2 (Z4 _)) (by simp[Value.oneCell']) (m+1) rfl _ rfl Y Y Q.size ?_);intro A8 c8 w8 ai a8 ay;go_must (have b3:=Z (a7.push Q.size d1 ai a8));have b4:=Z (Y9 Q a7.ao a8 (Z4 _) Q.size);clear ai a8 ay))
      have bR:m+1=a+(Xl T (k+1)).length:=YU HM.out cT.out;have bT:=Z bR;have bU:R.map Zt.cols++ones (Xl T (k+1))=R.map Zt.cols++ones (Xl T k)++ [[(k:Int)]]:=(by rw[cS,YH]);have d2:=Z bU;clear bR bU;go_roundw;·exact⟨k+1,_,_,_,by rw[bT],Y,Zg,by rw[←bT,d2];exact b3,b4⟩
      ·exact Zh
    ·have he:N=k:=Y;subst he;have b6:∀c:Int,c∈Xl T N↔0≤c∧c<(N:Int)∧T.kn c=true:=Zii T N;have b7:Z2V N (R.map Zt.cols++ones (Xl T N)):=ZbT bD b6;have bV:∀r∈R.map Zt.cols++ones (Xl T N),r.length≤1048576:=Zga b7 Y;have hq:=HL.read Y;have dq:=Zav T N;obtain⟨m,hm⟩:=Zb (a+(Xl T N).length);have bQ:m≤100000:=Y;rw[hm]at hq;have HM:=Z hm;have HQ:=Z hq;have d3:=Z b7;have d4:=Z bV;have d5:=Z b6;clear b7 bV hq hm b6;go_wp2_with fail;rw[HM];refine(ZgR N _ _ m _ I _ _ HQ Y bQ hN d3 d4).mono ?_;rintro e L ⟨s,v1,v2,v3,rfl,bW,c0,aC,aD,aj,c1,c2,b9⟩;obtain⟨v,y,d6,-,-,-⟩:=Y8 aC;obtain⟨M,O,d7,-,-,-⟩:=Y8 aD;obtain⟨A3,c3,c4,-,-,-⟩:=Y8 aj;obtain⟨f,aE⟩:∃l,((List.range m).filter fun i=> !s.isU i)=l:=⟨_,rfl⟩;have c5:f.length≤m:=(by rw[←aE];have:=Wx (fun i=> !s.isU i) (List.range m);rwa [WZ]at this);rw[aE]at aj c4;subst d6 d7 c4;have bB:Below w1 w1 L:=j.trans (b9.mono a0);have a4:Below L L (L.alloc (.cells #[.slice v s.steps.length y,.slice M s.dead.length O,.slice A3 f.length c3] 285)):=(Z8 _ _).alloc (Z4 _) _;have r4:=Row.new L 285 #[.slice v s.steps.length y,.slice M s.dead.length O,.slice A3 f.length c3];obtain⟨H,ba⟩:∃g,L.heap.size=g:=⟨_,rfl⟩;have dr:wr.heap.size≤H:=Zc b9.size;rw[ba]at r4;have bb:=Z r4;have bc:=Z ba;have d8:=Z aE;have c6:=Z c5;have d9:=Z bW;have da:=Z c0;have bd:=Z c2;have aF:=Z (aC.kept (ZB a4 none) (by cases (Value.slice v s.steps.length y).ownBlock <;> simp));have bf:=Z (aD.kept (ZB a4 none) (by cases (Value.slice M s.dead.length O).ownBlock <;> simp));have bg:=Z (aj.kept (ZB a4 none) (by cases (Value.slice A3 f.length c3).ownBlock <;> simp));have ad:=Z (ZC aC);have ds:=Z (ZC aD);have ae:=Z (ZC aj);have db:=Z c1;have bh:=Z ((ab.below bB ab.lt).below a4 (ab.below bB ab.lt).lt);have bi:=Z ((a6.below bB a6.lt).below a4 (a6.below bB a6.lt).lt);have bj:=Z (bB.trans (a4.mono bB.size));clear bW c0 aC aD aj c1 c2 r4 ba aE c5 a4 bB b9;go_upto_region 14 with fail;rw[bc];generalize L.alloc (.cells #[.slice v s.steps.length y,.slice M s.dead.length O,.slice A3 f.length c3] 285)=w4 at bb aF bf bg bh bi bj ⊢;have x0:=bb.cell 0;simp only[ZE]at x0;go_wp2_with fail;refine(ZgH wr s.steps.length _ s.steps (fun t=>decide (a≤t.1)) 278 #[.pointer (some ⟨g2,0,none⟩)] w4 (fun _ _=>by rfl) aF rfl (Zc bd.out) ?_).mono ?_;·intro x hx wx hO;have h2:=(bi.only hO (fun e=>Zc (ad _ e))).cell 0;have h5:=(bh.only hO (fun e=>Zc (ad _ e))).cell 5;exact ZfF x g2 o a cr Ar _ wx h2 h5 rfl
     rintro e w5 ⟨dt,rfl,aG,aH,a9⟩;obtain⟨z,aI⟩:∃l,(s.steps.filter fun t=> !decide (a≤t.1))=l:=⟨_,rfl⟩;have dw:z.length≤s.steps.length:=(by rw[←aI];exact Wx _ _);rw[aI]at aH;obtain⟨S,U,dc,-,-,-⟩:=Y8 aH;subst dc;have G:=bb.only a9 (fun e=>YU (ad _ e) bc.out);have c7:=Zu bf a9 (fun k e J=>by rcases YF bf aF Z5 with h|h;rw[h]at e;cases e;exact h (e.trans J.symm));have c9:=Zu bg a9 (fun k e J=>by rcases YF bg aF Z5 with h|h;rw[h]at e;cases e;exact h (e.trans J.symm));have ca:=bh.only a9 (fun e=>Zc (ad _ e));have ac:=bi.only a9 (fun e=>Zc (ad _ e));have cb:=bj.trans (a9.below (B:=w1) (fun k e=>Zc (ad _ e)) bj.size);have h0:=G.cell 0;have dd:=G.frozen 0;simp only[ZE]at h0;have az:=Z (G.set 0 (.slice S z.length U));have bl:=Z (aH.farC G Z5 0 (.slice S z.length U));have cc:=Z (c7.farC G Z5 0 (.slice S z.length U));have bm:=Z (c9.farC G Z5 0 (.slice S z.length U));have bn:=Z (ca.far (p:=H) (by dsimp only;omega) (.slice S z.length U));have bo:=Z (ac.far (p:=H) (by dsimp only;omega) (.slice S z.length U));have bp:=Z (cb.setCell (p:=H) (by show w1.heap.size≤H;omega) (.slice S z.length U));have cd:=Z aI;have dx:=Z aG;clear G c7 c9 ca ac cb aI aG aH a9;go_upto_region 15 with fail;generalize w5.setCell H (.slice S z.length U)=w6 at az bl cc bm bn bo bp ⊢;have x2:=az.cell 2;simp only[YL,Xd,ZE]at x2;have ce:(f.map Int.ofNat).map iv=f.map ZM:=(by rw[WS];rfl);go_wp2_with fail;refine(Z6K wr f.length _ (f.map Int.ofNat) (fun t=>decide ((a:Int)≤t)) 279 #[.pointer (some ⟨g2,0,none⟩)] w6 (fun _ _=>by rfl) (by rw[ce];exact bm) Ze (Zc c6.out) ?_).mono ?_;·intro x hx wx hO;have h2:=(bo.only hO (fun e=>Zc (ae _ e))).cell 0;have h5:=(bn.only hO (fun e=>Zc (ae _ e))).cell 5;exact Zg8 x g2 o a cr Ar _ wx h2 h5 rfl
     rintro e w7 ⟨dy,rfl,aG,ak,aa⟩;have cf:((f.map Int.ofNat).filter fun t=> !decide ((a:Int)≤t))=(f.filter fun i=>decide (i<a)).map Int.ofNat:=(by rw[List.filter_map];congr 1;refine List.filter_congr fun x _=>?_;simp only[Function.comp];rw[←decide_not];exact decide_eq_decide.2 Ze);have cg:((f.filter fun i=>decide (i<a)).map Int.ofNat).map iv=(f.filter fun i=>decide (i<a)).map ZM:=(by rw[WS];rfl);rw[cf,cg,Zz]at ak;obtain⟨A,aJ⟩:∃l,(f.filter fun i=>decide (i<a))=l:=⟨_,rfl⟩;have ch:A.length≤f.length:=(by rw[←aJ];exact Wx _ _);rw[aJ]at ak;obtain⟨V,W,de,-,-,-⟩:=Y8 ak;subst de;have d:=az.only aa (fun e=>YU (ae _ e) bc.out);have ci:=Zu bl aa (fun k e J=>by rcases YF bl bm Z5 with h|h;rw[h]at e;cases e;exact h (e.trans J.symm));have cj:=Zu cc aa (fun k e J=>db k e J);have cl:=bn.only aa (fun e=>Zc (ae _ e));have E:=bo.only aa (fun e=>Zc (ae _ e));have cm:=bp.trans (aa.below (B:=w1) (fun k e=>Zc (ae _ e)) bp.size);have h0:=d.cell 2;have dd:=d.frozen 2;simp only[YL,Xd,ZE]at h0;have a2:=Z (d.set 2 (.slice V A.length W));have cn:=Z (ci.farC d Z5 2 (.slice V A.length W));have co:=Z (cj.farC d Z5 2 (.slice V A.length W));have cp:=Z (ak.farC d Z5 2 (.slice V A.length W));have a5:=Z (cl.far (p:=⟨H,2,none⟩) (by dsimp only;omega) (.slice V A.length W));have cq:=Z (E.far (p:=⟨H,2,none⟩) (by dsimp only;omega) (.slice V A.length W));have bq:=Z (cm.setCell (p:=⟨H,2,none⟩) (by show w1.heap.size≤H;omega) (.slice V A.length W));have df:=Z aJ;have dg:=Z ch;clear d ci cj cl cm aJ ch ak aa aG cf ce cg;go_upto_region 16 with fail;generalize w7.setCell (H,2) (.slice V A.length W)=w8 at a2 cn co cp a5 cq bq ⊢;have z0:=a2.cell 0;have z1:=a2.cell 1;have z2:=a2.cell 2;have zb:=cq.cell 0;have s6:=a5.cell 6;have s7:=a5.cell 7;have s8:=a5.cell 8;have t6:=a5.frozen 6;have t7:=a5.frozen 7;have t8:=a5.frozen 8;unfold Yx at s6 s7 s8;simp only[YL,Xz,Xd,ZE]at z0 z1 z2 zb s6 s7 s8;go_wp2;go_end0;have ay:=bq.size;have br:w.heap.size≤wr.heap.size:=Y;have q0:=a5.out;have q1:=q0.set 6 (.slice S z.length U);have q2:=q1.set 7 (.slice M s.dead.length O);have q3:=q2.set 8 (.slice V A.length W);unfold Yx at q3;simp only[YL,Xz]at q3;rw[←av]at q3;have cs:(R.map Zt.cols).length=a:=(by rw[Zz];exact av);have ct:=Zj6 d9 da (fun r hr=>(bD r hr).1) d5;rw[show(s.steps.filter fun t=>decide (t.1<(R.map Zt.cols).length))=z by rw[←cd];refine List.filter_congr fun x _=>?_;rw[cs,←decide_not];exact decide_eq_decide.2 Y,
      show(((List.range (R.map Zt.cols++ones (Xl T N)).length).filter fun i=> !s.isU i).filter fun i=>decide (i<(R.map Zt.cols).length))=A by rw[←df,←d8,←HM,Zw,cs,Z6A]]at ct
     have dh:Only (fun q=>q=o) w w8:=(Only.of_new bz).trans (Only.of_new (F:=fun q=>q=o) bq) (fun _ _ h=>h);refine⟨rfl,_,_,_,z,s.dead,A,q3,?_,?_,?_,ct,by have:=bd.out;have:=Wx (fun t=> !decide (a≤t.1)) s.steps;rw[cd]at this;omega,YU dg.out c6.out,Zc bd.out,((dh.set rfl 6 _).set rfl 7 _).set rfl 8 _⟩;·exact ZA (((cn.farC q0 Z5 6 _).farC q1 Z5 7 _).farC q2 Z5 8 _) br
     ·exact ZA (((co.farC q0 Z5 6 _).farC q1 Z5 7 _).farC q2 Z5 8 _) br
     ·exact ZA (((cp.farC q0 Z5 6 _).farC q1 Z5 7 _).farC q2 Z5 8 _) br
def Z20 (x:(Nat×Y_)×U2):Z_:= [.int .i64 (x.1.1:Int),x.2]
def Z7G (x:(Nat×Y_)×U2):U2:= .agg #[.int .i64 (x.1.1:Int),x.2]
structure RSy (w:World) (B:Nat) (A:Option Addr) (n:Nat) (q:List ((Nat×List Byte)×Value)):Prop where
 sl:Sl w B 2 A n (q.flatMap Z20)
 len:q.length=n
 at_:∀x∈q,RB w B x.2 x.1.2
theorem RSy.below {w':U1}{B n:Nat}{A:X_}{q:List ((Nat×Y_)×U2)}(h:RSy w B A n q)(a:Below B w w'):RSy w' B A n q:=
 ⟨h.sl.below a,h.len,fun x b=>(h.at_ x b).keep a⟩
theorem RSy.get {q:List ((Nat×Y_)×U2)}(h:RSy w n A m q){k:Nat}(f:k<m):
  ∃b o x,A=some ⟨b,o,none⟩∧q[k]? =some x∧x∈q∧w.cell? (b,o+k*2)=some (.int .i64 (x.1.1:Int))∧w.cell? (b,o+k*2+1)=some x.2:=by
 obtain⟨b,o,e,_,d⟩:=h.sl.at_ Y;have a:k<q.length:=by rw[h.len];exact f
 refine⟨b,o,q[k],e,Z7 a,Zp _,?_,?_⟩;·refine d (k*2) _ ?_;have c:=WW (enc:=Z20) (K:=2) (fun _=>rfl) q k 0 a Y;rw[XV]at c;rw[c,Z6,Z7 a];rfl
 ·rw[VU];refine d (k*2+1) _ ?_;have c:=WW (enc:=Z20) (K:=2) (fun _=>rfl) q k 1 a Y;rw[c,Z6,Z7 a];rfl
theorem Zdo (b d:Int)(S:Nat)(a:Nat)(A:X_)(c:Nat)(n:a≤65535)(w:U1):
  Calls prog 152 #[.agg #[b,d,(S:Int)],.agg #[(a:Int),(A,S,c)]] w fun e j=>e=.returned (.bool true)∧Below w w j:=by
 have o:(a:Int)≤65535:=Y;have k:Below w w (w.alloc (.cells #[b,d,(S:Int)] 25)):=(Z8 _ _).alloc (Z4 _) _;have g:=Row.new w 25 #[b,d,(S:Int)];have f:=Row.new (w.alloc (.cells #[b,d,(S:Int)] 25)) 210 #[(a:Int),(A,S,c)];have h:=k.alloc (X5 Ze) (.cells #[(a:Int),(A,S,c)] 210);have l:=g.below ((Z8 _ _).alloc (Z4 _) (.cells #[(a:Int),(A,S,c)] 210)) g.lt;have m:(w.alloc (.cells #[b,d,(S:Int)] 25)).heap.size=w.heap.size+1:=Ze;rw[m]at f;have i:=Z l;go_enter func152,ntmps152;go_upto_region 1 with fail;generalize ((w.alloc (.cells #[b,d,(S:Int)] 25)).alloc (.cells #[(a:Int),(A,S,c)] 210))=w1 at i f h ⊢;have p:=Z9 f 0;have q:=Z9 f 1;have r:=Z9 i 2;go_wp2;go_ret;exact⟨rfl,h⟩
theorem Zfh (h:Nat)(i j:Int)(S:Nat)(a:Nat)(A:X_)(c:Nat)(m:a≤65535)(w:U1)(k:Row w h 25 [i,j,(S:Int)]):
  Calls prog 151 #[.agg #[(a:Int),(A,S,c)],(h,())] w fun e n=>e=.returned (.bool false)∧Below w w n:=by
 have b:Below w w (w.alloc (.cells #[(a:Int),(A,S,c)] 210)):=(Z8 _ _).alloc (Z4 _) _;have d:=Row.new w 210 #[(a:Int),(A,S,c)];have o:=k.below b k.lt;have f:=Z o;go_enter func151,ntmps151;go_upto_region 1 with fail;obtain⟨q,l⟩:∃g,w.heap.size=g:=⟨_,rfl⟩;rw[l]at d b ⊢;generalize (w.alloc (.cells #[(a:Int),(A,S,c)] 210))=w1 at f d b ⊢;have r:=Z9 d 0;have s:=Z9 d 1;have t:=Z9 f 0;have v:=Z9 f 1;have x:=Z9 f 2;go_wp2_with fail;refine(Zdo i j S a A c m _).mono ?_;rintro e y ⟨rfl,p⟩;go_wp2;go_ret;refine⟨rfl,?_⟩;rw[l];exact b.trans (p.mono (Zc b.size))
theorem Zfx (B n c:Nat)(A:X_)(q:List ((Nat×Y_)×U2))(f:Nat)(d:Array U2)(w:U1)(y:∀g w,(callFunc f g).run prog w=.ok (.enter f g) w)
  (h:RSy w B A n q) (j:B≤w) (z:n≤100000)
  (l:∀x∈q,∀a,Below w w a→Calls prog f (#[Z7G x]++d) a fun e m=>e=.returned (.bool false)∧Below a a m):
  Calls prog 215 #[(A,n,c),.func (.func f) #[] d] w fun e a=>e=.returned (.int .i64 (-1))∧Below w w a:=by
 have o:=Z l;have p:=h;go_enter func215,ntmps215;go_wp2;go_loopw [5,8] (fun _ i wr=>∃k:Nat,k≤n∧i=.int .i64 (k:Int)∧Hid (Below w w wr)) (fun _ i _=>n-(intOf i).toNat)
 ·exact⟨0,ZY _,rfl,Z (Z8 _ _)⟩
 ·obtain⟨k,C,rfl,b⟩:=hrel;by_cases r:k<n
  ·have D:(k:Int)<(n:Int):=Y;obtain⟨E,F,x,rfl,G,s,H,I⟩:=(p.below (b.mono j)).get r;have t:=o x s wr b;go_wp2_with (go_at_fn f;go_must (refine(t).mono ?_);rintro e a ⟨rfl,v⟩)
   go_roundw;·exact⟨k+1,Y,Zg,Z (b.trans (v.mono b.size))⟩
   ·exact Zh
  ·obtain rfl:k=n:=Y;go_wp2;go_ret;exact⟨rfl,b⟩
theorem Zfn (B n c:Nat)(A:X_)(q:List ((Nat×Y_)×U2))(f:Nat)(b:Array U2)(w:U1)(g:∀d w,(callFunc f d).run prog w=.ok (.enter f d) w)
  (h:RSy w B A n q) (i:B≤w) (j:n≤100000)
  (k:∀x∈q,∀a,Below w w a→Calls prog f (#[Z7G x]++b) a fun e l=>e=.returned (.bool false)∧Below a a l):
  Calls prog 150 #[(A,n,c),.func (.func f) #[] b] w fun e a=>e=.returned (.bool false)∧Below w w a:=by
 go_enter func150,ntmps150;go_wp2_with fail;refine(Zfx B n c A q f b w g h i j k).mono ?_;rintro e a ⟨rfl,m⟩;go_wp2;go_ret;exact⟨rfl,m⟩
def Z0x (q:List ((Nat×Y_)×U2)):List Nat:=q.map fun x=>x.1.1
theorem Ze8 {q:List ((Nat×Y_)×U2)}{x:(Nat×Y_)×U2}(h:q[n]? =some x):(Z0x (q.take (n+1))).map ZM=(Z0x (q.take n)).map ZM++ [ZM x.1.1]:=by
 have b:n<q.length:=by
  rcases Yf n q.length with a|a;·exact a
  ·rw[XX a]at h;cases h
 rw[Z7 b]at h;injection h with h;rw[ZR b,h];simp[Z0x]
theorem ZhT (B n c:Nat)(A:X_)(q:List ((Nat×Y_)×U2))(w:U1)(z:RSy w B A n q)(C:B≤w)(hn:n≤100000):
  Calls prog 154 #[(A,n,c)] w fun e D=>∃E F,e=.returned (.slice E n F)∧D.ownsRow w 3 1 (E,n,F) n ((Z0x q).map ZM)∧Below w w D:=by
 obtain⟨G,H,I,J,T⟩:=info_parts VC;have f:=z;have U:Hid (w.ownsRow w 3 1 () 0 ((Z0x (q.take 0)).map ZM)):=Z (Yi _ _ _ _);clear z;go_enter func154,ntmps154;go_wp2;go_loopw [3,5,8] (fun V _ i wr=>∃(k a:Nat) (b:X_),V=.slice b k a∧k≤n∧i=.int .i64 (k:Int)∧Hid (wr.ownsRow w 3 1 (b,k,a) k ((Z0x (q.take k)).map ZM))∧Hid (Below w w wr)) (fun _ _ i _=>n-(intOf i).toNat)
 ·exact⟨0,0,none,rfl,Y,rfl,U,Z (Z8 _ _)⟩
 ·obtain⟨k,a,b,rfl,hk,rfl,h,d⟩:=hrel;have W:=d.size;by_cases a0:k<n
  ·have a9:(k:Int)<(n:Int):=Y;obtain⟨be,oe,x,rfl,L,M,d0,d1⟩:=(f.below (d.mono C)).get a0;have a1:=(f.below (d.mono C)).at_ x M;obtain⟨j,l,N,-⟩:=a1;rw[N]at d1;have HQ:=Z (Ze8 L);have m:Below wr wr (wr.alloc (.cells #[(x.1.1:Int),.slice j x.1.2.length l] 210)):=(Z8 _ _).alloc (Z4 _) _;have o:=Row.new wr 210 #[(x.1.1:Int),.slice j x.1.2.length l];obtain⟨g5,p⟩:∃g,wr.heap.size=g:=⟨_,rfl⟩;have O:=h.kept (ZB m none) (by cases (Value.slice b k a).ownBlock <;> simp);have r:=Z (d.trans (m.mono W));rw[p]at o;have a2:=Z p;clear m L M N p;go_upto_region 5 with fail;rw[a2];generalize (wr.alloc (.cells #[(x.1.1:Int),.slice j x.1.2.length l] 210))=w1 at o O r ⊢;have x0:=o.cell 0;simp only[ZE]at x0;have a3:=r.size;go_wp2_with (first
    | ((with_reducible show wpList _ _ _ (⟨some 15,_,_,_,_,_⟩::_) _ _);refine wpList_plain rfl (fun K hK=>?_);refine WJ 22 3 (.tmp 14) rfl (x.1.1:Int) rfl rfl G _ underlying22 H I J rfl ?_;rintro s g7 t P v a4;refine hK _ _ ?_;clear hK K;go_must (skip);go_must (have a5:=P.lt);go_must (have Q:=O.kept (ZB (show Below w1 w1 s by rw[t];exact v) none) (by cases (Value.slice b k a).ownBlock <;> simp));go_must (have y:=r.trans ((show Below w1 w1 s by rw[t];exact v).mono a3));clear v t a4)
    | ((with_reducible show wpList _ _ _ (⟨some 16,_,_,_,_,_⟩::_) _ _);go_must (refine Y5 rfl (.tmp 12) (.tmp 15) 22 rfl w 3 G _ 1 8 underlying22 H I J T rfl Y (b,k,a) k _ rfl Q s (some ⟨g7,0,none⟩) 1 1 [ZM x.1.1] rfl (P.sl a5 (Z4 _)) (by simp[Value.oneCell',ZM]) (k+1) rfl _ rfl Y Y y.size ?_);intro A8 c8 w8 R S a6;go_must (have a7:=Y9 y Q S (Z4 _) y.size);rw[←HQ]at R;clear S a6))
   go_roundw;·exact⟨k+1,_,_,rfl,Y,Zg,R,a7⟩
   ·exact Zh
  ·obtain rfl:k=n:=Y;have a8:q.take k=q:=(by rw[←f.len];exact Xm);rw[a8]at h;go_wp2;go_ret;exact⟨_,_,rfl,h,d⟩
