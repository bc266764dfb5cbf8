/- EncA EncS Join JoinBack -/
import Derived.Test.YtpokipdpjhookaaGreatDoorBTopRetires20
import Derived.Test.YtpokipdpjhookaaGreatDoorBTopRetires22
set_option maxHeartbeats 8000000
set_option maxRecDepth 20000
set_option linter.all false
namespace Go.Proofs
open Go Go.RowKit Tryz
variable {n m k:Nat} {w v:World} {x y:Value} {r:List Byte} {l:List Value} {A:Option Addr} {c:Int}
theorem ZgJ (k h a:Nat)(b:Y_):(XC k h a b).take h=List.replicate h (Zm a):=by unfold XC;rw[Z1t Ze,ZP Ze]
theorem Zeq (k h a:Nat)(b:Y_)(j:Nat)(c:j<k):(XC k h a b).take (h+j+1)=(XC k h a b).take (h+j)++ [WE j a b]:=by
 have d:(XC k h a b)[h+j]? =some (WE j a b):=by unfold XC;rw[Y7 Ze,Z0w,Z2l,ZO,Vt c];rfl
 rw[List.take_succ,d];rfl
theorem Z7r (n:Nat):(Zm n).map Za=List.replicate n (Value.int .u8 0):=by unfold Zm;rw[List.map_replicate];rfl
def ME (a:Nat) (w:U1) (v:U2) (l:Y_):Prop:=RB w a v l∨OB a w v l
theorem OB.rb (h:OB n w x r):RB w w x r:=by obtain⟨A,c,e,a,b,d⟩:=Y8 h;exact⟨A,c,e,a,b,d⟩
theorem ME.read (h:ME n w x r)(a:n≤w):RB w w x r:=h.elim (fun h=>h.mono a) (fun h=>h.rb)
theorem ME.below {w':U1}{v:U2}(h:ME n w v r)(a:Below w w w')(b:n≤w):ME n w' v r:=
 h.elim (fun h=>.inl (h.keep (a.mono b))) (fun h=>.inr (OB.below h a))
theorem ME.grown (h:ME n w x r)(c:w.ownsRow n 32 1 y m l)(b:w.grownBy v y.ownBlock)(d:n≤w):ME n v x r:=
 h.elim (fun h=>.inl (h.keep (Y9 (Z8 _ _) c b (Z4 _) d))) (fun h=>.inr (by
  rcases c.2 with ⟨e,_⟩|⟨f,o,g,e,p,i,_⟩;·refine Zu (G:=fun q=>False) h (Only.of_grown b (fun k a=>by rw[e]at a;cases a)) (fun _ _ h=>h)
  ·refine Zu (G:=fun q=>q=f) h (Only.of_grown b (fun k a=>by rw[e]at a;injection a with a;exact a.symm)) (fun q j a=>?_);exact X8 h (t:=32) (cs:=g.toList) (by simpa[Row]using i) Z5 q j a))
structure MEs (B0:Nat) (w:World) (v:Value) (vs:List Value) (ls:List (List Byte)):Prop where
 own:w.ownsRow B0 32 1 v ls.length vs
 at_:∀i,i<ls.length→ME B0 w (vs.getD i undef) (ls.getD i [])
theorem MEs.of {v:U2}{a:Z0}(h:Zq n w v l a):MEs n w v l a:=⟨h.own,fun i b=>.inr (h.at_ i b)⟩
theorem MEs.below {w':U1}{v:U2}{a:Z0}(h:MEs n w v l a)(b:Below w w w')(c:n≤w):MEs n w' v l a:=
 ⟨h.own.kept (ZB b none) (by cases v.ownBlock <;> simp),fun i d=>(h.at_ i d).below b c⟩
theorem MEs.read {a:Z0}(h:MEs n w (A,m,k) l a)(b:a.length=m)(c:n≤w):XL w w A m l a:=by subst b;exact⟨Sl.own h.own,rfl,fun i d=>(h.at_ i d).read c⟩
theorem XL.below2 {a:Z0}(h:XL w w A n l a)(b:Below w w v):XL v v A n l a:=
 (h.below b).mono b.size
theorem MEs.push {b N:Nat}{w w':U1}{v v' d:U2}{c:Z_}{a:Z0}{x:Y_}(h:MEs b w v c a)(j:ME b w d x)
  (k:w'.ownsRow b 32 1 v' N (c++ [d])) (e:w.grownBy w' v.ownBlock) (f:b≤w) (l:N=a.length+1):MEs b w' v' (c++ [d]) (a++ [x]):=by
 have m:c.length=a.length:=Zc h.own.1;subst l;refine⟨by simpa using k,fun i n=>?_⟩;rw[Zw,Z05]at n;by_cases g:i<a.length;·have:=(h.at_ i g).grown h.own e f;simp only[Z6]at this ⊢;rwa [Yp Y,Yp g]
 ·have:=j.grown h.own e f;have o:i=a.length:=Y;subst o;simp only[Z6];rw[Y7 Y,Y7 Y,m];simpa using this
structure Enc (base:Nat) (w:World) (g:Nat) (p:Zf) (s:Nat) (A:Option Addr) (n c:Nat) (vs:List Value) (M:Zl):Prop where
 row:Row w g 261 [.int .i64 p.K,.int .i64 p.H,.int .i64 p.S,.int .u32 (s:Int),.slice A n c]
 ge:base≤g
 mid:Zq base w (.slice A n c) vs M
theorem ZcW (p:Zf)(hp:p.Ok)(k h a:Nat)(hk:p.K=(k:Int))(hh:p.H=(h:Int))(a5:p.S=(a:Int))(s B:Nat)(A:X_)(q c:Nat)(f:Y_)(w:U1)(hs:s<4294967296)(ad:Sl w B 1 A q (f.map Za))(hB:B≤w)(Q:k*a=q)(d:q≤c∧c≤9223372036854775807)
  (R:Wu (k+h) (Y6 k h s (List.range k))):
  Calls prog 137 #[p.val,.int .u32 (s:Int),(A,q,c)] w fun e w'=>∃g A' c' vs,e=.returned (.tuple #[(g,()),Nat])∧Enc w w' g p s A' (k+h) c' vs (Vl k h a s f)∧Below w w w':=by
 obtain⟨i0,b0,b2,b4,b5⟩:=info_parts WP;obtain⟨i1,ar,av,aw,ax⟩:=info_parts Z02;have ay:=hp;unfold Zf.Ok at ay;have HP:=Z hp;have HC:=Z (Ye.new w p 25);obtain⟨b,a6⟩:∃g,w.heap.size=g:=⟨_,rfl⟩;rw[a6]at HC ⊢;have a7:=Z a6;obtain⟨l,o,y⟩:=p;dsimp only at ay hk hh a5;obtain⟨n,hn⟩:=Zb (k+h);have HN:=Z (show l+o=(n:Int) from Y);have T:=Z hn;unfold Zf.val;have bP:2≤n∧n≤20∧1≤k∧k≤16∧1≤h∧h≤4:=Y;have b7:0<a:=Y;have b9:a≤24:=Y;have a8:f.length=q:=by have:=ad.len;simpa using this
 have bQ:q≤384:=by rw[←Q];exact Zj (VI (show k≤16 from Y) b9) Y
 have bR:l*y=(q:Int):=by rw[hk,a5,←Q];exact(Z3E ..).symm
 have az:(Yh n (YK (Y6 k h s (List.range k)) (XC k h a f))).1=n:=by
  rw[hn]at R;have aB:Wd n (Y6 k h s (List.range k)):=by rw[←hn];exact Z3C _ _ _ _
  have ba:Wd a (XC k h a f):=Z5s (by rw[a8,Q]);exact(Z2M (Nat.le_add_right n a) (Z4d aB ba (by rw[Z0V,Z3x,WZ]))).2 ((Z6C aB).2 R)
 have bb:=Z az;have aC:∀r∈XC k h a f,r.length=a:=fun r hr=>by have:=Z5s (k:=k) (h:=h) (s:=a) (data:=f) (by rw[a8,Q]);obtain⟨i,hi,e⟩:=ZZ hr;have h2:=this i hi;rw[Z6,Z7 hi,e]at h2;exact h2
 have bc:=Z aC;have aD:decide ((Yh (k+h) (Y6 k h s (List.range k))).1=k+h)=true:=decide_eq_true ((Z2M (Z4 _) (Z3C _ _ _ _)).2 R);have bd:=Z aD;have U:=Z hk;have HH:=Z hh;have HZ:=Z a5;have be:=Z ad;have bT:=Z a8;have HQ:=Z Q;rw[a6]at hB;clear hp a6 hn hk hh a5 ad a8 Q R az aC aD;go_enter func137,ntmps137;go_wp2_with fail;rw[a7];refine(V9 ⟨l,o,y⟩ true _ (Zf.ok_may HP)).mono ?_;rintro e w1 ⟨rfl,V⟩;rw[Xn,a7]at V;have aE:=Z (HC.keep V Y);obtain⟨G,I,J⟩:=aE.out;dsimp only at G I J;have b1:Below b w w1:=((Z8 _ _).alloc (by rw[a7];omega) _).trans (V.mono Y);have bf:=Z b1;have bg:=V.size;rw[Xn,a7]at bg;clear b1 V;go_wp2_with fail;refine(Z7S ⟨l,o,y⟩ HP k h U HH s true _ hs bd).mono ?_;rintro e w2 ⟨rfl,a9⟩;have ae:=Z (aE.keep a9 Y);have aF:=Z (bf.trans (a9.mono Y));have bU:=a9.size;clear a9 G I J;obtain⟨d0,d1,d2⟩:=ae.out;dsimp only at d0 d1 d2;go_wp2;go_loopw [8,31] (fun v i wr=>∃(j:Nat) (M:Z_) (E:X_) (F:Nat),j≤h∧i=.int .i64 (j:Int)∧v=.slice E j F∧Hid (Zq (b+1) wr (E,j,F) M (List.replicate j (Zm a)))∧Hid (Below (b+1) w2 wr)) (fun _ i _=>h-(intOf i).toNat)
 ·exact⟨0, [],none,0,Y,rfl,rfl,Z (Zq.nil_ _ _),Z (Z8 _ _)⟩
 ·obtain⟨j,M,E,F,hj,rfl,rfl,HO,HB⟩:=hrel;have aG:=ae.keep HB Y;have bV:=Z aG;obtain⟨G,I,J⟩:=aG;dsimp only at G I J;have bW:b+1≤wr.heap.size:=Zc HB.size;by_cases c0:j<h
  ·have bh:(j:Int)<o:=Zc HH.out;obtain⟨gr,aH⟩:∃g,wr.heap.size=g:=⟨_,rfl⟩;go_wp2_with (first
    | (at_make;go_must (refine Z0E _ rfl (.tmp 35) (.tmp 35) 32 rfl 5 i0 (.int .u8 0) 1 underlying32 b0 b2 b4 b5 rfl .i64 .i64 _ _ a a rfl rfl HZ HZ Y Y Y ?_);intro w3 r3 b3 s3;go_must (rw[aH]at r3 b3 s3 ⊢);go_must (have aI:OB (b+1) w3 (gr,a,a) (Zm a):=Z0n (r3.to (Z7r a).symm) Y (by simp[Zm]) Y);go_must (have af:=HO.below (by rw[aH];exact b3));go_must (have O:=af.own;rw[Z0w]at O);go_must (have P:=Z (HB.trans (b3.mono Y)));go_must (have bi:=Z af;have bj:=Z aI;have aJ:b+1≤w3.heap.size:=Y;have c1:gr<w3:=Y;clear s3;clear aI af r3 b3))
    | (at_builtin;go_must (refine Y5 rfl (.tmp 33) (.tmp 37) 106 rfl (b+1) 32 i1 () 1 24 underlying106 ar av aw ax rfl Y (E,j,F) j M rfl (O.alloc _) _ _ 1 1 _ rfl (Sl.fresh _ _ _ _ 1 rfl) (by simp[Value.oneCell']) (j+1) rfl _ rfl Y Y (Zj aJ (X5 (by rw[Xn];exact Z1L _))) ?_);intro A6 c6 w6 o6 W h6))
   have b6:Below (b+1) w2 w6:=Y9 (P.alloc aJ _) (O.alloc _) W (Z4 _) (by rw[Xn];omega);have ag:=(bi.below ((Z8 _ _).alloc (Z4 _) _)).push (x:=Zm a) (OB.below (base:=b+1) bj ((Z8 _ _).alloc (Z4 _) _)) (by rw[Z0w];exact o6) W;clear h6;go_roundw;·exact⟨j+1,_,A6,c6,Y,Zg,rfl,Z (by rw[List.replicate_succ'];exact ag),Z b6⟩
   ·exact Zh
  ·have bh:¬(j:Int)<o:=Zc HH.out;have bk:h=j:=Y;subst bk;have bl:=Z (MEs.of HO);go_wp2;go_loopw [8,42] (fun v i wr=>∃(t:Nat) (M:Z_) (E:X_) (F:Nat),t≤k∧i=.int .i64 (t:Int)∧v=.slice E (h+t) F∧Hid (MEs (b+1) wr (E,(h+t),F) M ((XC k h a f).take (h+t)))∧Hid (Below (b+1) w2 wr)) (fun _ i _=>k-(intOf i).toNat)
   ·exact⟨0,M,E,F,Y,rfl,rfl,Z (by show MEs (b+1) wr (E,h,F) M ((XC k h a f).take h);rw[ZgJ];exact bl),HB⟩
   ·obtain⟨t,ah,A8,c8,R,rfl,rfl,ai,P⟩:=hrel;have aK:=ae.keep P Y;have c2:=Z aK;obtain⟨G,I,J⟩:=aK;dsimp only at G I J;have a0:b+1≤wr.heap.size:=Zc P.size;by_cases aL:t<k
    ·have bm:(t:Int)<l:=Zc U.out;obtain⟨z,aa⟩:=Zb (t*a);obtain⟨L,ab⟩:∃hi,(t+1)*a=hi:=⟨_,rfl⟩;have c3:(t:Int)*y=(z:Int):=(by rw[HZ,←aa];exact(Z3E ..).symm);have c4:((t:Int)+1)*y=(L:Int):=(by rw[HZ,←ab];exact(Z3E ..).symm);have bn:z+a=L:=(by rw[←aa,←ab,X9]);have bo:L≤q:=(by rw[←ab,←HQ];exact Z08 _ aL);have hcut:=(((be.below (aF.mono hB)).below (P.mono Y)).cut (k:=z) (m:=L) (c:=c) Y bo Y);have bp:¬c=z:=Y;rw[if_neg bp,Wy,Wy,show L-z=a from Y,←List.map_drop,←Z1M]at hcut;have aM:(f.drop z).take a=WE t a f:=(by unfold WE;rw[aa]);rw[aM]at hcut;have c5:L-z=a:=Y;have ac:(WE t a f).length=a:=(by have:=hcut.len;simpa using this);have hx:ME (b+1) wr (.slice (A.map (fun x=>x.add z)) a (c-z)) (WE t a f):= .inl ⟨_,c-z,by rw[ac],by rw[ac];omega,Y,by rw[ac];exact hcut.mono Y⟩;have HX:=Z hx;have aj:((XC k h a f).take (h+t)).length=h+t:=(by rw[ZK,Z3x];omega);have O:=ai.own;rw[aj]at O;have bq:=Z aj;have c7:(z:Int)≤(L:Int):=Y;have c9:(L:Int)≤(c:Int):=Y;have ca:(c:Int)≤9223372036854775807:=Y;clear hcut aM ac hx aj aa ab bn;go_wp2_with (at_builtin;go_must (refine Y5 rfl (.tmp 45) (.tmp 57) 106 rfl (b+1) 32 i1 () 1 24 underlying106 ar av aw ax rfl Y (A8,(h+t),c8) (h+t) ah rfl (O.alloc _) _ _ 1 1 _ rfl (Sl.fresh _ _ _ _ 1 rfl) (by simp[Value.oneCell']) (h+t+1) rfl _ rfl Y Y (by rw[Xn];omega) ?_);intro A6 c6 w6 o6 W h6)
     have b6:Below (b+1) w2 w6:=Y9 (P.alloc a0 _) (O.alloc _) W (Z4 _) (by rw[Xn];omega);have ag:=(ai.below ((Z8 _ _).alloc (Z4 _) _) a0).push (N:=h+t+1) (x:=WE t a f) (HX.below ((Z8 _ _).alloc (Z4 _) _) a0) o6 W (by rw[Xn];omega) (by rw[bq]);clear h6;have br:MEs (b+1) w6 (A6,(h+(t+1)),c6) (ah++ [.slice (A.map (fun x=>x.add z)) a (c-z)]) ((XC k h a f).take (h+(t+1))):=(by rw[←VU,Zeq k h a f t aL];exact ag);have bs:h+t+1=h+(t+1):=Y;rw[bs];go_roundw;·exact⟨t+1,_,A6,c6,Y,Zg,rfl,Z br,Z b6⟩
     ·exact Zh
    ·have bm:¬(t:Int)<l:=Zc U.out;have bt:k=t:=Y;subst bt;have ak:=ai.out;rw[ZP (by rw[Z3x];omega)]at ak;have bv:=Z (ak.read (by rw[Z3x]) a0);obtain⟨wl,bw⟩:=WI wr;subst bw;have aO:b<wl:=a0;have aP:=Z (aF.trans (P.mono Y));have cb:w.heap.size≤wl.heap.size:=aP.size;clear ak;go_wp2_with fail;refine oS [] (fun wx=>wx.cell? ⟨b,0,none⟩=some (.int .i64 l)∧wx.cell? ⟨b,1,none⟩=some (.int .i64 o)∧wx.cell? ⟨b,2,none⟩=some (.int .i64 y)∧Below wl wl wx∧b<wx) [1,2,3,6,0,4,5,7,8,9,10,11,12] (⟨G,I,J,bq_ (Z8 _ _) 1,aO⟩) fun hS=>?_;(iterate 4 refine oV ?_);refine oG fun K hK=>?_;go_simp;go_at_call 199;refine(Z4S _).mono ?_;rintro e cc ⟨g,rfl,cd,al,a1⟩;have d:=Ye.keep (p:=⟨l,o,y⟩) (g:=b) ⟨hS.1,hS.2.1,hS.2.2.1⟩ a1 hS.2.2.2.2;have C:=YI hS.2.2.2.2 a1.size;have D:=hS.2.2.2.1.trans (a1.mono hS.2.2.2.1.size);have bx:=Z al;have ce:=al.lt;clear al;have bz:=Z a1;clear a1;go_wp2_with fail;refine oK hK ⟨d.1,d.2.1,d.2.2,D,C⟩ fun hS=>?_;clear d C D;refine oG fun K hK=>?_;go_simp;go_at_call 201;refine(Z8G ⟨l,o,y⟩ HP k U _).mono ?_;rintro e bB ⟨bC,bD,rfl,aQ,a2⟩;have d:=Ye.keep (p:=⟨l,o,y⟩) (g:=b) ⟨hS.1,hS.2.1,hS.2.2.1⟩ a2 hS.2.2.2.2;have C:=YI hS.2.2.2.2 a2.size;have D:=hS.2.2.2.1.trans (a2.mono hS.2.2.2.1.size);have bE:=Z aQ;clear aQ;have am:=Z a2;clear a2;go_wp2_with fail;refine oK hK ⟨d.1,d.2.1,d.2.2,D,C⟩ fun hS=>?_;clear d C D;refine oG fun K hK=>?_;go_simp;go_at_call 200;refine(Z8z ⟨l,o,y⟩ HP k h U HH s bB bC k bD (List.range k) _ hs (Sl.own bE) (Z4 _) Y (fun x hx=>Zc (Ws.1 hx))).mono ?_;rintro e aR ⟨bF,bG,bH,rfl,aT,a3⟩;have d:=Ye.keep (p:=⟨l,o,y⟩) (g:=b) ⟨hS.1,hS.2.1,hS.2.2.1⟩ a3 hS.2.2.2.2;have C:=YI hS.2.2.2.2 a3.size;have D:=hS.2.2.2.1.trans (a3.mono hS.2.2.2.1.size);have bI:=Z aT;clear aT;have aU:=Z a3;clear a3;go_wp2_with fail;refine oK hK ⟨d.1,d.2.1,d.2.2,D,C⟩ fun hS=>?_;clear d C D;refine oG fun K hK=>?_;go_simp;go_at_call 198;refine(Z98 g aR aR bF A8 (h+k) bG c8 n a bH ah (Y6 k h s (List.range k)) (XC k h a f) _ (Yq.below (Yq.below bx am Y) aU (Zc am.size)) (bI.read (by rw[Z0V,WZ])) (Z4 _) (bv.below2 hS.2.2.2.1) (Z4 _) Y Y Y b7 Y (fun r hr=>by rw[←T];exact Z46 hr) bc bb (fun i h1 h2=>absurd h1 (Zc T.out))).mono ?_;rintro e an ⟨ao,ap,aV,rfl,aW,a4⟩;have d:=Ye.keep (p:=⟨l,o,y⟩) (g:=b) ⟨hS.1,hS.2.1,hS.2.2.1⟩ a4 hS.2.2.2.2;have C:=YI hS.2.2.2.2 a4.size;have D:=hS.2.2.2.1.trans (a4.mono hS.2.2.2.1.size);have bJ:=Z aW;clear aW;have cf:=Z a4;clear a4;go_wp2_with fail;refine oK hK ⟨d.1,d.2.1,d.2.2,D,C⟩ fun hS=>?_;clear d C D;(iterate 5 refine oV ?_);refine oD ?_;obtain⟨G,I,J,aq,cg⟩:=hS;have bK:=bJ.out;have ch:=aq.size;have bL:=Z (aP.trans (aq.mono Y));clear aq;go_wp2_with fail;have bM:Zq b an (ao,n,ap) aV (Vl k h a s f):=(by unfold Vl;rw[T];exact bK.base (by have h1:b<wl.drew.heap.size:=aO;have:=bz.size;have:=am.size;have:=aU.size;omega));have bO:Below b w (an.alloc (.cells #[l,o,y,.int .u32 (s:Int),(ao,n,ap)] 261)):=bL.alloc Y _;refine bodyPost_ret (v:= .tuple #[(an.heap.size,()),Nat]) (by simp[results,results137,go_sem]) rfl ⟨_,ao,ap,aV,rfl,⟨by rw[T];exact Row.new _ _ _,Y,?_⟩,bO⟩;rw[T];exact bM.below ((Z8 _ _).alloc (Z4 _) _)
def xT (s v:Y_) (t:Nat):Y_:=(Yl s v).take t++s.drop t
theorem Zbs (s v:Y_):xT s v 0=s:=by simp[xT]
theorem Zb1 (s v:Y_)(t:Nat)(h:s.length=v.length):(xT s v t).length=s.length:=by unfold xT;rw[Zw,ZK,Z0d,Z0r];omega
theorem Zbh (s v:Y_)(h:s.length=v.length):xT s v s.length=Yl s v:=by unfold xT;rw[List.drop_length,Wo,ZP (by rw[Z0d];omega)]
theorem Zb9 (s v:Y_)(t:Nat)(h:s.length=v.length)(a:t<s.length):(xT s v t).getD t 0=s.getD t 0:=by unfold xT;rw[Z6,Y7 (by rw[ZK];omega),ZK,Z0d,Z0o,Z6];congr 2;omega
theorem ZaJ (s v:Y_)(t:Nat)(h:s.length=v.length)(a:t<s.length):(xT s v t).set t (s.getD t 0 ^^^ v.getD t 0)=xT s v (t+1):=by
 unfold xT;have c:((Yl s v).take t).length=t:=by rw[ZK,Z0d];omega
 rw[Wn _ _ Y,c,W9];have b:t<(Yl s v).length:=by rw[Z0d];omega
 rw[ZR b,YH];congr 1;rw[Z0q a,YL];have:=Z8I h t a;rw[Z6,Z7 b]at this;simp only[Yz]at this;rw[this];rfl
theorem Z93 {v:Int→Y_}{cs:W_}{i:Nat}(h:i<cs.length)(s:Y_):YS v (cs.take (i+1)) s=Yl (YS v (cs.take i) s) (v (cs.getD i 0)):=by rw[ZR h,Z4D,Z6,Z7 h];rfl
theorem Z8o (aC g s n a G:Nat)(p:Zf)(hp:p.Ok)(A:X_)(f c:Nat)(vs:Z_)(M:Zl)(w:U1)(j:Enc aC w g p s A f c vs M)(hM:M.length=n)(aD:f=n)(hw:∀r∈M,r.length=a)(hn:p.K+p.H=(n:Int))(aa:p.S=(a:Int))(hs:s<4294967296)(aE:G≤65535):
  Calls prog 139 #[(g,()),(G:Int)] w fun e w'=>∃A' c',e=.returned (.slice A' a c')∧OB w w' (A',a,c') (YS (fun c=>M.getD c.toNat []) (YQ n s G) (Zm a))∧Below w w w':=by
 obtain⟨i0,aF,aG,aH,aI⟩:=info_parts WP;subst aD;have al:=hp;unfold Zf.Ok at al;have HP:=Z hp;have HE:=Z j;have O:=j.row.lt;have HM:=Z hM;have HW:=Z hw;obtain⟨pK,pH,pS⟩:=p;dsimp only at al hn aa;have e0:=Z9 j.row 0;have I:=Z9 j.row 1;have l:=Z9 j.row 2;have e3:=Z9 j.row 3;have e4:=Z9 j.row 4;have HN:=Z hn;have HS:=Z aa;have aJ:1≤a∧a≤24:=Y;have bb:2≤f∧f≤20:=Y;obtain⟨d,ab⟩:∃g,w.heap.size=g:=⟨_,rfl⟩;rw[ab]at O ⊢;have a0:=Z ab;clear hp j hM hw hn aa ab;go_enter func139,ntmps139;go_wp2_with ((at_make;go_must (refine Z0E _ rfl (.tmp 24) (.tmp 24) 32 rfl 5 i0 (.int .u8 0) 1 underlying32 aF aG aH aI rfl .i64 .i64 _ _ a a rfl rfl HS HS Y Y Y ?_);intro J r3 b3 s3;go_must (rw[a0]at r3 b3 s3 ⊢;have aK:=Z r3;have P:=Z b3;have am:=Z s3;clear r3 b3 s3)))
 have aL:=Z P;replace e0:=(P.cell (p:=g) O).trans e0;replace I:=(P.cell (p:=⟨g,1,none⟩) O).trans I;replace l:=(P.cell (p:=⟨g,2,none⟩) O).trans l;replace e3:=(P.cell (p:=⟨g,3,none⟩) O).trans e3;have a1:g<J:=Zc am.out;have ac:d<J:=Zc am.out;refine oS [] (fun wx=>wx.cell? ⟨g,0,none⟩=some (.int .i64 pK)∧wx.cell? ⟨g,1,none⟩=some (.int .i64 pH)∧wx.cell? ⟨g,2,none⟩=some (.int .i64 pS)∧wx.cell? ⟨g,3,none⟩=some (.int .u32 (s:Int))) [0,1,2,3,4,5,6,7,8,11,9,10] (⟨e0,I,l,e3⟩) fun hS=>?_;iterate 10 refine oV ?_
 refine oG fun K hK=>?_;go_simp;go_at_call 156;refine(Z4I ⟨pK,pH,pS⟩ HP f s G HN _ hs aE).mono ?_;rintro e w5 ⟨A5,c5,rfl,an,ao⟩;have a2:=Z an;have L:=Z ao;clear an ao;go_wp2_with fail;refine oK hK ⟨(L.cell (p:=g) a1).trans hS.1,(L.cell (p:=⟨g,1,none⟩) a1).trans hS.2.1,(L.cell (p:=⟨g,2,none⟩) a1).trans hS.2.2.1,(L.cell (p:=⟨g,3,none⟩) a1).trans hS.2.2.2⟩ fun hS=>?_;refine oV ?_;refine oD ?_;obtain⟨C,a3⟩:=Zb (YQ f s G);have ad:=(Z0D f s G).1;rw[a3]at a2 ad ⊢;have aM:=Z a3;have ap:=Z4X f s G;rw[a3]at ap;have ae:=Z ad;obtain⟨m,hm⟩:=Zb C.length;rw[hm]at a2 ap ⊢;have a4:=Z hm;have aO:=Z2E a2;have aP:=Z (Sl.own a2);have aQ:=Z (aK.below (bq_ (Z8 _ _) 1) ac |>.below L ac);have bc:J.heap.size≤w5.heap.size:=L.size;have aR:=Z (aL.trans ((bq_ (Z8 _ _) 1:Below d J (J.drewN 1)).trans (L.mono (show d≤(J.drewN 1).heap.size from X5 ac))));have bd:1≤a:=aJ.1;clear hS e0 I l e3 ad a3 hm;have aq:∀wx:U1,Below d w wx→wx.cell? (g,4)=some (.slice A f c):=fun wx hb=>(hb.cell (p:=⟨g,4,none⟩) O).trans e4;have aT:=Z aq;clear e4 aq;go_wp2;go_loopw [37] (fun i wr=>∃k:Nat,k≤m∧i=.int .i64 (k:Int)∧Hid (Row wr d 5 ((YS (fun c=>M.getD c.toNat []) (C.take k) (Zm a)).map Za))∧Hid (Only (fun q=>q=d) w5 wr)) (fun i _=>m-(intOf i).toNat)
 ·exact⟨0,Y,rfl,Z (aQ.to (Z7r a).symm),Z (Only.refl _ _)⟩
 ·obtain⟨k,hk,rfl,HR,af⟩:=hrel;have ag:=Z (aR.trans (af.below (B:=d) (fun q e=>by subst e;exact Z4 _) Y));by_cases a5:k<m
  ·have be:(k:Int)<(m:Int):=Y;obtain⟨b,o,Q,aU,ck⟩:=aP.get a5 (Xx C k (by rw[a4];exact a5));have aV:b≠d:=by
    rcases aO with ⟨l,_⟩|⟨q,l,h2,_⟩;·rw[l]at Q;cases Q
    ·rw[l]at Q;injection Q with I;injection I with I _ _;have:J.heap.size≤q:=h2;omega
   have bf:=ae (C.getD k 0) (by rw[Z6,Z7 (by rw[a4];exact a5)];exact Zp _);obtain⟨z,hz⟩:=Zb ((C.getD k 0).toNat);have ar:C.getD k 0=(z:Int):=Y;have av:z<f:=Y;have bg:(z:Int)<(f:Int):=Y;rw[ar]at ck;replace ck:=(Z3S af (g:=b) (o:=o+k) aU aV).trans ck;have h4:=aT wr ag;have a6:M.length=f:=HM;obtain⟨bm,om,A1,c1,em,bh,cm,aW,bi,a7⟩:=(((HE.mid.read a6).below (show Below w w wr by rw[a0];exact ag))).get av;have a8:(M.getD z []).length=a:=HW _ (by rw[Z6,Z7 (by rw[a6];exact av)];exact Zp _);rw[a8]at cm aW a7;have R:=Z93 (v:=fun c=>M.getD c.toNat []) (cs:=C) (i:=k) (by rw[a4];exact a5) (Zm a);rw[hz]at R;obtain⟨V,hV⟩:=Zb (M.getD z []);rw[hV]at R a7 a8;obtain⟨D,ah⟩:=Zb (YS (fun c=>M.getD c.toNat []) (C.take k) (Zm a));rw[ah]at R HR;have T:D.length=a:=(by rw[←ah];exact Z3n _ _ (fun c hc=>by have:=ae c (Z3F hc);exact HW _ (by rw[Z6,Z7 (by rw[a6];omega)];exact Zp _)) (by simp[Zm]));have b0:=Z R;have E:=Z T;have U:=Z a8;have b1:=Z a7;subst Q em;clear R T a8 a7 hV ah ar hz a6;obtain⟨wx,b4⟩:=WI wr;subst b4;have bj:d<wx:=HR.lt;have aw:Row wx d 5 ((xT D V 0).map Za):=HR.to (by rw[Zbs]);have b5:=Z aw;clear aw;go_wp2;go_loopw [49] (fun i wr=>∃t:Nat,t≤a∧i=.int .i64 (t:Int)∧Hid (Row wr d 5 ((xT D V t).map Za))∧Hid (Only (fun q=>q=d) wx wr)) (fun i _=>a-(intOf i).toNat)
   ·exact⟨0,Y,rfl,b5,Z (Only.refl _ _)⟩
   ·obtain⟨t,ht,rfl,a9,ai⟩:=hrel;by_cases W:t<a
    ·have bk:(t:Int)<(a:Int):=Y;obtain⟨b2,o2,l,ax,cv⟩:=b1.get W (XF V t (by rw[U];exact W));have b6:¬b2=d:=(by rw[a0]at ax;omega);replace cv:=(Z3S ai (g:=b2) (o:=o2+t) (by rw[a0]at ax;omega) b6).trans cv;subst l;have ay:(xT D V t).length=a:=(by rw[Zb1 _ _ _ (by rw[E,U]),E]);have cr:=a9.cell t;rw[XF _ t (by rw[ay];exact W),Zb9 D V t (by rw[E,U]) (by rw[E];exact W)]at cr;have fr:=a9.frozen t;obtain⟨y,hy⟩:=Zb (V.getD t 0);obtain⟨x,hx⟩:=Zb (D.getD t 0);have aj:=a9.set t (Za (x ^^^ y));rw[←XZ,←hx,←hy,ZaJ D V t (by rw[E,U]) (by rw[E];exact W),hx,hy]at aj;rw[hy]at cv;rw[hx]at cr;have az:=Z aj;have aB:=Z (Only.set (F:=fun q=>q=d) ai rfl t (Za (x ^^^ y)));have bl:=b8x x y;have bn:=x.isLt;have bo:=y.isLt;clear aj ay hy hx;unfold Za at cr cv az aB;go_wp2;go_roundw;·exact⟨t+1,Y,Zg,az,aB⟩
     ·exact Zh
    ·have b7:t=a:=Y;subst b7;have N:=a9.out;have j:xT D V t=Yl D V:=(by rw[←E];exact Zbh _ _ (by rw[E,U]));rw[j,←b0]at N;have ak:=Z N;have b9:=Z (af.trans ai (fun _ _ h=>h));clear N j;go_wp2;go_roundw;·exact⟨k+1,Y,Zg,ak,b9⟩
     ·exact Zh
  ·have ba:k=m:=Y;subst ba;have N:=HR.out;rw[←a4,Xm]at N;have T:(YS (fun c=>M.getD c.toNat []) C (Zm a)).length=a:=Z3n _ _ (fun c hc=>by have:=ae c hc;exact HW _ (by rw[Z6,Z7 (by have h2:M.length=f:=HM;omega)];exact Zp _)) (by simp[Zm]);have ak:=Z N;have HL:=Z T;clear N T;go_wp2;go_ret;rw[aM];exact⟨_,_,rfl,Z0n ak (Z4 _) HL Y,ag⟩
def Z14 (p:Zf) (a:Z0) (n:Int):Option (Y_):=
 if p.may=true∧0≤n∧(a.length:Int)=countP p n∧∀x∈a,(x.length:Int)=p.size then some (a.flatten.take n.toNat) else none
theorem Z5b {p:Zf}{a:Z0}(h:¬(p.may=true∧0≤c∧(a.length:Int)=countP p c∧∀x∈a,(x.length:Int)=p.size)):Z14 p a c=none:=if_neg h
theorem Z9a {p:Zf}{a:Z0}(h:p.may=true∧0≤c∧(a.length:Int)=countP p c∧∀x∈a,(x.length:Int)=p.size):Z14 p a c=some (a.flatten.take c.toNat):=if_pos h
theorem Zcg (a:Z0)(z:Nat)(h:∀x∈a,x.length=z):a.flatten.length=a.length*z:=by
 induction a with
 |nil=>simp
 |cons x a ih=>rw[List.flatten_cons,Zw,ih (fun y b=>h y (XB _ b)),h x (XP ..),XQ,X9];omega
theorem Z7V {p:Zf}(h:p.may=true)(b:0≤c):c≤countP p c*p.size:=by
 have d:=(Zf.size_le (Zf.may_ok h)).1;by_cases a:0<c;·rw[Z4F h a];have e:=Int.mul_ediv_add_emod (c-1) p.size;have f:=Int.emod_lt_of_pos (c-1) (show 0<p.size from Y);rw[Int.add_mul,Int.one_mul,Int.mul_comm];omega
 ·rw[Z3j Y];omega
theorem Zhq (p:Zf)(B:Nat)(A:X_)(N c:Nat)(vs:Z_)(a:Z0)(n:Int)(w:U1)(h:XL w B A N vs a)(hB:B≤w)(hN:N≤1048576)(hn: -9223372036854775808≤n∧n≤9223372036854775807):
  Calls prog 95 #[p.val,(A,N,c),n] w fun e w'=>∃v,e=.returned (.tuple #[v,.bool (Z14 p a n).isSome])∧Seg w w' v ((Z14 p a n).getD [])∧Below w w w':=by
 have L:=Z h.len;obtain⟨i0,hi,af,ag,ah⟩:=info_parts WP;have hv:p.val=.agg #[p.K,p.H,p.S]:=rfl;rw[hv];clear hv;by_cases r:p.may=true
 ·by_cases av:n<0;·have d:=Z (show Z14 p a n=none from Z5b Y);go_enter func95,ntmps95;go_wp2_with fail;refine(V9 p true _ r).mono ?_;rintro e M ⟨rfl,f⟩;go_wp2;go_ret2;rw[d];exact⟨_,rfl,Seg.nil_ _ _,((Z8 _ _).alloc (Z4 _) _).trans (f.mono Ze)⟩
  ·obtain⟨m,hm⟩:∃m:Int,countP p n=m:=⟨_,rfl⟩;have O:=Z hm;have H1:=Z r;have aw:0≤m:=(by rw[←hm];exact(Z3m p n).1);clear hm;by_cases C:(N:Int)=m
   ·have a0:=Zf.may_ok r;have ai:=Zf.size_le a0;obtain⟨z,d⟩:∃z:Nat,p.size=(z:Int):=⟨p.size.toNat,Y⟩;have ax:1≤z:=Y;have ay:z≤384:=Y;have T:=Z d;have HO:=Z a0;have aj:((N:Int) !=m)=false:=(by simp[C]);have a1:=Z7V r (show 0≤n from Y);rw[O,←C,d]at a1;have ak:=Z C;clear ai r d a0 C;go_enter func95,ntmps95;go_wp2_with fail;refine(V9 p true _ H1).mono ?_;rintro e M ⟨rfl,f⟩;have U:=(Ye.new w p 25).keep f Ze;obtain⟨c0,V,c2⟩:=id U;have D:Below w w M:=((Z8 _ _).alloc (Z4 _) _).trans (f.mono Ze);go_wp2_with fail;refine(Z3X p n m _ hn O).mono ?_;rintro e P ⟨rfl,Q⟩;have a6:=U.keep Q U.lt;have b2:=D.trans (Q.mono D.size);clear c0 V c2 U f Q D;have a7:=a6.lt;generalize hg:w.heap.size=g at*;have HG:=Z hg;clear hg;obtain⟨G,hG⟩:=WI P.heap.size;have g1:g≤G:=Y;have s1:G≤P:=Y;have a7:g<G:=Y;have GG:=Z hG;clear hG;have h2:=(h.below (b2.mono hB)).mono (show B≤G from Y);go_wp2;go_loopw [8,28] (fun v i wr=>∃(k q:Nat) (R:X_) (E:Nat),k≤N∧i=.int .i64 k∧v=.slice R q E∧q≤384*k∧OB G wr (R,q,E) (a.take k).flatten∧Below G P wr∧Hid ((∀x∈a.take k,x.length=z)∧(a.take k).flatten.length=q)) (fun _ i _=>N-(intOf i).toNat)
    ·exact⟨0,0,none,0,Y,rfl,rfl,Y,Yi _ _ _ _,Z8 _ _,Ze,rfl⟩
    ·obtain⟨k,q,R,E,hk,rfl,rfl,hq,F,l,I⟩:=hrel;by_cases a8:k<N
     ·obtain⟨b,o,A1,V,rfl,az,hc,a9,aB,aa⟩:=(h2.below l).get a8;obtain⟨d0,d1,d2⟩:=a6.keep l a7;have a2:k<a.length:=(by rw[L];exact a8);have ab:a.take (k+1)=a.take k++ [a.getD k []]:=(by rw[ZR a2];simp[a2]);have a3:=Z ab;have al:=Z (show a.getD k []∈a by rw[Z6,Z7 a2];exact Zp _);clear ab;generalize a.getD k []=x at*;obtain⟨s,a4⟩:=WI x.length;rw[←a4]at hc a9 aa;have HX:=Z a4;clear a4;have aC:=Z a9;by_cases ac:s=z
      ·subst ac;go_wp2_with fail;refine(Z44 p s _ HO T).mono ?_;rintro e w3 ⟨rfl,t⟩;have am:=aa.below (t.mono (Zc l.size));have W:=F.below t;unfold OB at W;rw[I.2]at W;go_wp2_with (at_builtin;go_must (refine Y5 rfl (.tmp 37) (.tmp 38) 32 rfl G 5 i0 (.int .u8 0) 1 1 underlying32 hi af ag ah rfl Y (R,q,E) q _ rfl W _ A1 s V _ rfl am (Z2B _) (q+s) rfl (((a.take k).flatten++x).map Za) (by rw[ZV]) Y Y (YU l.size t.size) ?_);intro A4 c4 w4 o4 g4 _)
       have b4:Below G P w4:=Y9 (l.trans (t.mono (Zc l.size))) W g4 (Z4 _) (YU l.size t.size);have ad:((a.take k).flatten++x).length=q+s:=(by rw[Zw,I.2,HX]);go_roundw
       ·refine⟨k+1,q+s,A4,c4,Y,Zg,rfl,Y,?_,b4,?_⟩;·unfold OB;rw[a3,List.flatten_append,List.flatten_singleton,ad];exact o4
        ·refine⟨fun y hy=>?_,?_⟩
         ·rw[a3,YZ,Yn]at hy;rcases hy with hy|rfl;·exact I.1 y hy
          ·exact HX.symm
         ·rw[a3,List.flatten_append,List.flatten_singleton,ad]
       ·exact Zh
      ·have d:=Z (show Z14 p a n=none from Z5b (fun hh=>ac (by have:=hh.2.2.2 _ al;rw[T,←HX]at this;omega)));have aD:((s:Int) !=(z:Int))=true:=(by rw[bne_iff_ne];omega);go_wp2_with fail;refine(Z44 p z _ HO T).mono ?_;rintro e w3 ⟨rfl,t⟩;go_wp2;go_ret2;rw[d,HG];exact⟨_,rfl,Seg.nil_ _ _,b2.trans ((l.trans (t.mono (Zc l.size))).mono g1)⟩
     ·have an:N=k:=Y;subst an;have a5:a.take N=a:=ZP (by rw[L];omega);have J:=I.out;rw[a5]at J;have ao:=Z (show Z14 p a n=some (a.flatten.take n.toNat) from Z9a ⟨H1,Y,by rw[L,O];exact ak,fun x hx=>by rw[J.1 x hx];exact T.symm⟩);obtain⟨j,rfl⟩:∃j:Nat,n=(j:Int):=⟨n.toNat,Y⟩;have ae:q=N*z:=(by rw[←J.2,Zcg a z J.1,L]);have ap:j≤q:=(by rw[ae];exact Int.ofNat_le.1 (by rw[Z3E];exact a1));have aE:j≤E:=(by have:=Z1k (show wr.ownsRow G 5 1 (R,q,E) q ((a.take N).flatten.map Za) by unfold OB at F;rw[I.2]at F;exact F);omega);rw[a5]at F;have aq:=F.front (m:=j) (c':=j) (by rw[J.2];exact ap) (Z4 _) Y;have HS:=Z aq;clear J a5 I ae a1;go_wp2;go_ret2;rw[ao,HG];refine⟨_,rfl,?_,b2.trans (l.mono g1)⟩;simp only[ZL,Yz];exact HS.base g1
   ·have d:=Z (show Z14 p a n=none from Z5b (fun hh=>C (by rw[←O,←hh.2.2.1,L])));have aj:((N:Int) !=m)=true:=(by simp[C]);go_enter func95,ntmps95;go_wp2_with fail;refine(V9 p true _ r).mono ?_;rintro e M ⟨rfl,f⟩;obtain⟨c0,V,c2⟩:=(Ye.new w p 25).keep f Ze;have D:Below w w M:=((Z8 _ _).alloc (Z4 _) _).trans (f.mono Ze);go_wp2_with fail;refine(Z3X p n m _ hn O).mono ?_;rintro e P ⟨rfl,Q⟩;go_wp2;go_ret2;rw[d];exact⟨_,rfl,Seg.nil_ _ _,D.trans (Q.mono D.size)⟩
 ·have ar:p.may=false:=by simpa using r
  have d:=Z (show Z14 p a n=none from Z5b (fun h=>r h.1));go_enter func95,ntmps95;go_wp2_with fail;refine(V9 p false _ ar).mono ?_;rintro e M ⟨rfl,f⟩;go_wp2;go_ret2;rw[d];exact⟨_,rfl,Seg.nil_ _ _,((Z8 _ _).alloc (Z4 _) _).trans (f.mono Ze)⟩
theorem ZeS (z:Nat)(L:Y_):∀k,k*z≤L.length→((List.range k).map fun i=>(L.drop (i*z)).take z).flatten=L.take (k*z):=by
 intro k;induction k with
 |zero=>intro _;simp
 |succ k ih=>intro h;rw[X9]at h;rw[Wp,ZV,List.flatten_append,ih Y,List.map_singleton,List.flatten_singleton,X9,List.take_add]
theorem Zie (z:Nat)(b:Y_)(M i:Nat)(h:(i+1)*z≤b.length+M):blk z b i=((b++List.replicate M 0#8).drop (i*z)).take z:=by
 rw[X9]at h;unfold blk;by_cases a:i*z≤b.length;·rw[List.drop_append_of_le_length a,List.take_append];congr 1;rw[ZK,Z0r,List.take_replicate];congr 1;omega
 ·rw[Z11 Y,List.drop_append,Z11 Y];simp;omega
theorem ZbZ {p:Zf}(d:p.may=true)(b:Y_)(z m:Nat)(a:p.size=(z:Int))(c:countP p b.length=(m:Int)):(blocks p b).flatten=b++List.replicate (m*z-b.length) 0#8:=by
 have f:=Z7V d (show(0:Int)≤(b.length:Int) from Y);rw[c,a]at f;have h:b.length≤m*z:=by have:((m*z:Nat):Int)=(m:Int)*(z:Int):=Z3E _ _;omega
 unfold blocks;rw[c,a];simp only[ZL];have e:(List.range m).map (blk z b)=(List.range m).map fun i=>((b++List.replicate (m*z-b.length) 0#8).drop (i*z)).take z:=by apply Z1O;intro i g;rw[Ws]at g;apply Zie;have:(i+1)*z≤m*z:=Z08 z Y;omega
 rw[e,ZeS z _ m Zx,ZP Zx]
theorem Zcc (p:Zf)(c:p.may=true)(b:Y_):∀x∈blocks p b,(x.length:Int)=p.size:=by intro x a;unfold blocks at a;obtain⟨i,_,rfl⟩:=ZT.1 a;rw[Z2s];have:=(Zf.size_le (Zf.may_ok c)).1;omega
theorem Z7J (p:Zf)(b:Y_):((blocks p b).length:Int)=countP p b.length:=by unfold blocks;simp;have:=(Z3m p b.length).1;omega
theorem Zfb {p:Zf}(a:p.may=true)(b:Y_):Z14 p (blocks p b) b.length=some b:=by obtain⟨m,c⟩:∃m:Nat,countP p b.length=(m:Int):=⟨(countP p b.length).toNat,Zc ((Z3m p b.length).1)⟩;obtain⟨z,d⟩:∃z:Nat,p.size=(z:Int):=⟨p.size.toNat,Zc ((Zf.size_le (Zf.may_ok a)).1)⟩;rw[Z9a ⟨a,Y,Z7J p b,Zcc p a b⟩,ZbZ a b z m d c];simp
