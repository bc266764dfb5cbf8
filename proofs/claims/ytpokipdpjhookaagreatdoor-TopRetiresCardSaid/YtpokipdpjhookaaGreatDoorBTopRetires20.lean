/- DrvSync DrvApp Put PreM SysM SysR PagePut PageMath SortK -/
import Derived.WalkSpells
import Derived.Shelf.SlSortCmp.NoneTotal
import Derived.Test.YtpokipdpjhookaaGreatDoorBTopRetires13
import Derived.Test.YtpokipdpjhookaaGreatDoorBTopRetires14
import Derived.Test.YtpokipdpjhookaaGreatDoorBTopRetires15
import Derived.Test.YtpokipdpjhookaaGreatDoorBTopRetires16
set_option maxHeartbeats 8000000
set_option maxRecDepth 20000
set_option linter.all false
namespace Go.Proofs
open Go Go.RowKit Tryz
variable {F:Nat→Prop} {w v:World} {n:Nat} {t:TypeId} {x y:Value} {l L:List Value} {c d z:Int}
theorem ZdY (F:U0)(g a:Nat)(d:Dr)(m:Nat)(w:U1)(h:Yj F w g a d)(f:DOk m d)(I:m≤1000000):
  Calls prog 191 #[(g,())] w fun e o=>e=.returned (.int .i64 d.sync.2)∧Yj F o g a d.sync.1∧Only F w o:=by
 obtain⟨i,J,j,L,h⟩:=h;have l:=h.row.cell 6;have y:=h.row.cell 0;have p:(Vd a d i j)[6]? =some (.bool d.lost):=rfl;have q:(Vd a d i j)[0]? =some (.pointer (some ⟨a,0,none⟩)):=rfl;rw[p]at l;rw[q]at y;clear p q;obtain⟨S,hS⟩:=Zb d.sync;rw[hS];have n:=Z hS;clear hS;have z:=f.left;have A:=f.offs.1;have M:=f.offs.2;cases hlo:d.lost with
 |true=>
  rw[hlo]at l;have b:S=(d,5):=by rw[←n];unfold Dr.sync;rw[hlo];rfl
  subst b;go_enter func191,ntmps191;go_wp2;go_ret;exact⟨rfl,⟨_,_,_,_,h⟩,Only.refl _ _⟩
 |false=>
  rw[hlo]at l;have r:=Z hlo;clear hlo;go_enter func191,ntmps191;go_wp2_with fail;refine(Z8T a d.s w h.pow z ⟨A,Y⟩).mono ?_;rintro e B ⟨rfl,C,t⟩;have c:=h.power C t;have v:Only F w B:=Only.of_grown t (fun k e=>by injection e with e;rw[←e];exact h.fp);have D:=c.row.cell 3;have N:=c.row.frozen 3;have x:(Vd a { d with s:=d.s.step} i j)[3]? =some (.int .i64 (d.wait:Int)):=rfl;rw[x]at D;clear x;cases hgo:d.s.goes with
  |false=>have b:S=({ d with s:=d.s.step},14):=(by rw[←n];unfold Dr.sync;rw[r,hgo];rfl);subst b;clear hgo;go_wp2;go_ret;exact⟨rfl,⟨_,_,_,_,c⟩,v⟩
  |true=>have b:S=({ d with wait:=0,s:=d.s.step}.went,0):=(by rw[←n];unfold Dr.sync;rw[r,hgo];rfl);subst b;clear hgo;go_wp2_with fail;refine(Z95 F g a _ _ ⟨_,_,_,_,c.setWait 0⟩).mono ?_;rintro e O ⟨rfl,E,G⟩;go_wp2;go_ret;exact⟨rfl,E,(v.set h.fg 3 _).trans G (fun _ _ H=>H)⟩
theorem XE.set_ {b:Z0}(h:Zq 0 w x l b)(c:In x F)(d:∀a∈l,In a F)(e:Row w n t L)(f:32≠t)(g:5≠t)(i:Nat)(a:U2):XE F (w.setCell (n,i) a) x l b:=
 XE.far ⟨h,c,d⟩ e f g i a
theorem Zq.elem {b:Z0}(h:Zq n w x l b)(c:y∈l):∃a,OB n w y a:=by have e:l.length=b.length:=Zc h.own.1;obtain⟨i,d,rfl⟩:=ZZ c;have:=h.at_ i Y;rw[Z6,Z7 d]at this;exact⟨_,this⟩
theorem YM.appended {F:U0}{w p f:U1}{g v:Nat}{s z q r:U2}{t D:Z_}{d:Dr}{x:Y_}(h:YM F w g v s t z D d)(J:Below w w p)(M:OB w p r x)(o:Obj)
  (Q:f.ownsRow 0 32 1 q (d.L.length+1) (t++ [r])) (E:(p.alloc o).grownBy f s.ownBlock) (N:∀k,q.ownBlock=some k→(s.ownBlock=some k∨k=(p.alloc o).heap.size)∧k<f):
  YM (Ext F w f) (f.setCell (g,2) q) g v q (t++ [r]) z D { d with L:=d.L++ [x]}∧Only F w f∧Row f g 161 (Vd v d s z):=by
 have R:=J.size;have O:Below w w (p.alloc o):=J.alloc R o;have a3:(p.alloc o).heap.size=p.heap.size+1:=Ze;have a4:=E.size;have A:Only (fun k=>s.ownBlock=some k) w f:=(Only.of_new O).trans (Only.of_grown (F:=fun k=>s.ownBlock=some k) E (fun k e=>e)) (fun _ _ c=>c);have S:Only F w f:=A.mono (fun k c=>h.l.iv k c);have C:=h.row.only A (fun e=>Yb h.l.own.own h.row Z5 g e rfl);have T:=h.pow.only A (fun e=>Yb h.l.own.own h.pow Z5 v e rfl);have U:Zq 0 f q (t++ [r]) (d.L++ [x]):=(h.l.own.below O).push (x:=x) (OB.below (base:=0) (ZA M (ZY _)) ((Z8 _ _).alloc (Z4 _) _)) Q E;have V:Zq 0 f z D d.B:=h.b.own.only A (fun k c e=>h.sep k e c) (fun y j k c e=>by
  obtain⟨l',W⟩:=h.b.own.elem j;rcases YF W h.l.own.own Z5 with i|i;·rw[i]at c;cases c
  ·exact i (c.trans e.symm))
 have G:∀k,r.ownBlock=some k→w.heap.size≤k∧k<f:=fun k c=>by have:=ZC M k c;omega
 have H:∀k,F k→Ext F w f k:=fun k c=>.inl c;have a0:In r (Ext F w f):=fun k c=>.inr (G k c);have a1:In q (Ext F w f):=fun k c=>by
  obtain⟨i,h2⟩:=N k c;rcases i with i|i;·exact .inl (h.l.iv k i)
  ·exact .inr ⟨Y,h2⟩
 have a2:∀y∈t++ [r],In y (Ext F w f):=fun y j=>by
  rcases YZ.1 j with j|j;·exact(h.l.is y j).mono H
  ·rw[Yn]at j;subst j;exact a0
 refine⟨⟨C.set 2 q,T.far (Ne.symm h.ne) _,.inl h.fg,.inl h.fp,fun k c=>?_,XE.set_ U a1 a2 C Z5 Z5 _ _,XE.set_ V (h.b.iv.mono H) (fun y j=>(h.b.is y j).mono H) C Z5 Z5 _ _,fun k c e=>?_,?_⟩,S,C⟩
 ·have:k<f:=by
   rcases c with c|c;·have:=h.lt k c;omega
   ·exact c.2
  simpa[World.setCell]using this
 ·rcases(N k c).1 with i|i;·exact h.sep k i e
  ·have:=h.lt k (h.b.iv k e);omega
 ·have I:=h.dist;unfold WF at I ⊢;rw[Z2P]at I ⊢;obtain⟨d1,d2,d3⟩:=I;refine⟨?_,d2,fun a n b P k c e=>?_⟩;·exact Z6j d1 (m:=w) (fun a n k c=>h.lt k (h.l.is a n k c)) (fun k c=>(G k c).1)
  ·rcases YZ.1 n with n|n;·exact d3 a n b P k c e
   ·rw[Yn]at n;subst n;have:=(G k c).1;have:=h.lt k (h.b.is b P k e);omega
def Z2b (w:U1) (g:Nat) (r:Rec) (d:U2):Prop:=w.cell? ⟨g,0,none⟩=some (.int .i64 r.O)∧w.cell? ⟨g,1,none⟩=some (.int .i64 r.B)∧w.cell? ⟨g,2,none⟩=some (.int .i64 r.I)∧w.cell? ⟨g,3,none⟩=some (.int .i64 r.P.K)∧w.cell? ⟨g,4,none⟩=some (.int .i64 r.P.H)∧w.cell? ⟨g,5,none⟩=some (.int .i64 r.P.S)∧w.cell? ⟨g,6,none⟩=some (.int .u32 (r.S.toNat:Int))∧w.cell? ⟨g,7,none⟩=some d
theorem Z2b.keep {g:Nat}{r:Rec}(h:Z2b w g r x)(a:Below n w v)(b:g<n):Z2b v g r x:=by obtain⟨c,d,e,f,i,j,k,l⟩:=h;exact⟨(a.cell (p:=g) b).trans c,(a.cell (p:=⟨g,1,none⟩) b).trans d,(a.cell (p:=⟨g,2,none⟩) b).trans e,(a.cell (p:=⟨g,3,none⟩) b).trans f,(a.cell (p:=⟨g,4,none⟩) b).trans i,(a.cell (p:=⟨g,5,none⟩) b).trans j,(a.cell (p:=⟨g,6,none⟩) b).trans k,(a.cell (p:=⟨g,7,none⟩) b).trans l⟩
theorem Z2b.new (w:U1)(r:Rec)(d:U2)(t:TypeId):Z2b (w.alloc (.cells #[r.O,r.B,r.I,r.P.K,r.P.H,r.P.S,.int .u32 (r.S.toNat:Int),d] t)) w r d:=
 ⟨World.cell?_alloc_at _ _ _ _ rfl,World.cell?_alloc_at _ _ _ _ rfl,World.cell?_alloc_at _ _ _ _ rfl,World.cell?_alloc_at _ _ _ _ rfl,World.cell?_alloc_at _ _ _ _ rfl,World.cell?_alloc_at _ _ _ _ rfl,World.cell?_alloc_at _ _ _ _ rfl,World.cell?_alloc_at _ _ _ _ rfl⟩
theorem Z2b.lt {r:Rec}(h:Z2b w n r x):n<w:=YC w _ h.1
theorem hi0 {x:Int}(h:0≤x∧x<256):Za (Yg x 0)=.int .u8 x:=by unfold Za;rw[Z0c];congr 1;simp;omega
theorem Z66 (B:Nat)(r:Rec)(A:X_)(n c:Nat)(w:U1)(h:Sl w B 1 A n (r.D.map Za))(hB:B≤w):
  Calls prog 141 #[r.val (A,n,c)] w fun e R=>∃v,e=.returned v∧OB w R v (Yr r)∧Below w w R:=by
 obtain⟨T,U,V,W,a0⟩:=info_parts WP;obtain⟨O,a,I,⟨K,H,S⟩,s,D⟩:=r;have aD:=s.isLt;obtain⟨L,hL⟩:=Zb (Yr ⟨O,a,I,⟨K,H,S⟩,s,D⟩);have M:=Z hL;rw[M];unfold Rec.val;dsimp only at*;have N:D.length=n:=by have:=h.len;simpa using this
 have HN:=Z N;cases hm:Rec.may ⟨O,a,I,⟨K,H,S⟩,s,D⟩ with
 |false=>have a8:=Z (show[]=L by rw[←M];unfold Yr;rw[if_neg (by rw[hm];decide)]);rw[←a8];go_enter func141,ntmps141;go_wp2_with fail;refine(Z62 ⟨O,a,I,⟨K,H,S⟩,s,D⟩ A n c false _ N hm).mono ?_;rintro e w2 ⟨rfl,p⟩;go_wp2;go_ret;exact⟨_,rfl,Yi _ _ _ _,((Z8 _ _).alloc (Z4 _) _).trans (p.mono Ze)⟩
 |true=>
  obtain⟨r1,r2,r3,r4,r5,r6,r7,r8⟩:=Z26 hm;obtain⟨k1,k2,k3,k4,k5,k6⟩:=Zf.may_ok r7;have P:=Z4U hm;have aE:=Z P;rw[Z57]at P;dsimp only at r1 r2 r3 r4 r5 r6 r7 r8 k1 k2 k3 k4 k5 k6 P;have aF:n≤42:=Y;have aG:1≤n:=Y;have a9:=Z (show cellL 1 (Vx ⟨O,a,I,⟨K,H,S⟩,s,D⟩)=L by rw[←Z9P hm];exact M);have aH:=Z (Z57 ⟨O,a,I,⟨K,H,S⟩,s,D⟩);have aa:=Z hm;have HM:=Z N;have cK:=Z (hi0 (x:=K) Y);have cH:=Z (hi0 (x:=H) Y);have cS:=Z (hi0 (x:=S) Y);have Q:=Z2b.new w ⟨O,a,I,⟨K,H,S⟩,s,D⟩ (A,n,c) 159;have a1:Below w w (w.alloc (.cells #[O,a,I,K,H,S,.int .u32 (s.toNat:Int),(A,n,c)] 159)):=(Z8 _ _).alloc (Z4 _) _;go_enter func141,ntmps141;go_wp2_with fail;try dsimp only at Q
  generalize w.alloc (.cells #[O,a,I,K,H,S,.int .u32 (s.toNat:Int),(A,n,c)] 159)=w1 at*;have o:=Q.lt;obtain⟨G,hG⟩:=WI w1.heap.size;refine(Z62 ⟨O,a,I,⟨K,H,S⟩,s,D⟩ A n c true w1 HM aa).mono ?_;rintro e w2 ⟨rfl,p⟩;rw[←hG]at o p;have aI:G≤w2:=Zc p.size;have a2:=Q.keep p o;have ab:=(h.below (a1.mono hB)).below (p.mono (show B≤G from Y));have q:w.heap.size≤G:=Y;have ac:=a1.trans (p.mono q);have b:=a2;obtain⟨d,f,g,i,j,k,l,m⟩:=a2;try dsimp only at d f g i j k l m
  have ad:=Z (show[Yg K 0,Yg H 0,Yg S 0].map Za=[.int .u8 K,.int .u8 H,.int .u8 S] by simp[cK.out,cH.out,cS.out]);go_wp2_with fail;refine(Z4T G none 0 0 ([]) O 3 _ 3 (ZN 3 O) Y rfl (Yi _ _ _ _) Y Y Y Y).mono ?_;rintro e w3 ⟨A3,ae,rfl,o3,y⟩;have aJ:G≤w3:=Zc y.size;have a3:=b.keep y o;have af:=ab.below (y.mono (show B≤G from Y));have ag:=ac.trans (y.mono q);have b:=a3;obtain⟨d,f,g,i,j,k,l,m⟩:=a3;try dsimp only at d f g i j k l m
  go_wp2_with fail;refine(Z4T G A3 3 ae (ZN 3 O) a 1 _ 4 (ZN 3 O++ZN 1 a) Y rfl o3 Y Y Y Y).mono ?_;rintro e w4 ⟨A4,ah,rfl,o4,z⟩;have aK:G≤w4:=Zc z.size;have a4:=b.keep z o;have ai:=af.below (z.mono (show B≤G from Y));have aj:=ag.trans (z.mono q);have b:=a4;obtain⟨d,f,g,i,j,k,l,m⟩:=a4;try dsimp only at d f g i j k l m
  go_wp2_with fail;refine(Z4T G A4 4 ah (ZN 3 O++ZN 1 a) I 2 _ 6 (ZN 3 O++ZN 1 a++ZN 2 I) Y rfl o4 Y Y Y Y).mono ?_;rintro e w5 ⟨A5,ak,rfl,o5,C⟩;have al:G≤w5:=Zc C.size;have a5:=b.keep C o;have am:=ai.below (C.mono (show B≤G from Y));have an:=aj.trans (C.mono q);have b:=a5;obtain⟨d,f,g,i,j,k,l,m⟩:=a5;try dsimp only at d f g i j k l m
  go_wp2_with (at_builtin;go_must (refine Y5 rfl (.tmp 18) (.tmp 31) 32 rfl G 5 T (.int .u8 0) 1 1 underlying32 U V W a0 rfl Y (A5,6,ak) 6 _ rfl (o5.alloc _) _ _ 3 3 _ rfl (Sl.fresh _ _ _ _ 3 rfl) (by simp[Value.oneCell']) 9 Y ((ZN 3 O++ZN 1 a++ZN 2 I++ [Yg K 0,Yg H 0,Yg S 0]).map Za) (by rw[←ad,←ZV]) Y Y Zx ?_);intro A6 ao w6 o6 g6 _;have t:Below G w5 w6:=Y9 ((Z8 _ _).alloc al _) (o5.alloc _) g6 (Z4 _) Zx;have E:=b.keep t o;obtain⟨d0,d1,d2,d3,d4,d5,d6,d7⟩:=E;try dsimp only at d0 d1 d2 d3 d4 d5 d6 d7)
  have aL:G≤w6:=Zc t.size;have E:=b.keep t o;have ap:=am.below (t.mono (show B≤G from Y));have aq:=an.trans (t.mono q);have b:=E;obtain⟨d,f,g,i,j,k,l,m⟩:=E;try dsimp only at d f g i j k l m
  refine(Z4T G A6 9 ao (ZN 3 O++ZN 1 a++ZN 2 I++ [Yg K 0,Yg H 0,Yg S 0]) (s.toNat:Int) 4 _ 13 (ZN 3 O++ZN 1 a++ZN 2 I++ [Yg K 0,Yg H 0,Yg S 0]++ZN 4 (s.toNat:Int)) Y rfl o6 Y Y Y Y).mono ?_;rintro e w7 ⟨A7,ar,rfl,o7,F⟩;have a6:G≤w7:=Zc F.size;have a7:=b.keep F o;have av:=ap.below (F.mono (show B≤G from Y));have aw:=aq.trans (F.mono q);have b:=a7;obtain⟨d,f,g,i,j,k,l,m⟩:=a7;try dsimp only at d f g i j k l m
  have ax:=Z (show(Vx ⟨O,a,I,⟨K,H,S⟩,s,D⟩).map Za=(ZN 3 O++ZN 1 a++ZN 2 I++ [Yg K 0,Yg H 0,Yg S 0]++ZN 4 (s.toNat:Int)).map Za++D.map Za by rw[←ZV];rfl);go_wp2_with (at_builtin;go_must (refine Y5 rfl (.tmp 38) (.tmp 40) 32 rfl G 5 T (.int .u8 0) 1 1 underlying32 U V W a0 rfl Y (A7,13,ar) 13 _ rfl o7 B A n c _ rfl av (Z2B _) (13+n) Y ((Vx ⟨O,a,I,⟨K,H,S⟩,s,D⟩).map Za) ax.symm Y Y a6 ?_);intro A8 ay J o8 g8 _)
  have b8:Below G w7 J:=Y9 (Z8 _ _) o7 g8 (Z4 _) a6;have aM:G≤J:=Zc b8.size;have az:=aw.trans (b8.mono q);refine(Z7b 1 J.heap.size A8 (Vx ⟨O,a,I,⟨K,H,S⟩,s,D⟩) (13+n) ay J Y (Sl.own o8) (Z4 _) Y).mono ?_;rintro e w9 ⟨v,rfl,hv,aB⟩;rw[a9]at hv;have aC:OB w w9 v L:=ZA hv Y;go_wp2;go_ret;exact⟨_,rfl,aC,az.trans (aB.mono Y)⟩
def Z1b (k h j t:Nat):Y_:=(List.range (k+h)).map fun i=>if i<t then gx ((j+1)*(i+1) % 255) else if i=k+j then 1 else 0
theorem ZfM (k h j t:Nat):(Z1b k h j t).length=k+h:=by simp[Z1b]
theorem Zjp (k h j:Nat)(b:j<h):(Zm (k+h)).set (k+j) 1=Z1b k h j 0:=by
 apply VP;intro i;unfold Z1b Zm;rw[List.getElem?_set,ZO];by_cases a:i<k+h
 ·rw[Vt a,XY,if_pos a];by_cases e:k+j=i;·subst e;simp;omega
  ·rw[if_neg e];simp[show ¬i=k+j from fun x=>e x.symm]
 ·rw[XX (by simp;omega:(List.range (k+h)).length≤i),XY,if_neg a];by_cases e:k+j=i;·omega
  ·rw[if_neg e];rfl
theorem Ze7 (k h j t:Nat)(c:t<k+h):(Z1b k h j t).set t (gx ((j+1)*(t+1) % 255))=Z1b k h j (t+1):=by
 apply VP;intro i;unfold Z1b;rw[List.getElem?_set,ZO,ZO];by_cases a:i<k+h
 ·rw[Vt a];by_cases e:t=i;·subst e;simp[a]
  ·rw[if_neg e];simp only[Z0p];by_cases b:i<t;·rw[if_pos b,if_pos Y]
   ·rw[if_neg b,if_neg (show ¬i<t+1 from Y)]
 ·rw[XX (by simp;omega:(List.range (k+h)).length≤i)];rw[if_neg (show ¬t=i from Y)];rfl
theorem ZfR (k h j:Nat):Z1b k h j k=preRow k h j:=rfl
theorem Zek (k h j:Nat)(a:j<h):(YR k h).take (j+1)=(YR k h).take j++ [preRow k h j]:=by unfold YR;rw[←Z1M,←Z1M,List.take_range,List.take_range,Z04 Y,Z04 Y,Wp,ZV];rfl
theorem Z3o (k h:Nat):(YR k h).length=h:=by simp[YR]
theorem Z84 (p:Zf)(S:p.Ok)(k h:Nat)(T:p.K=(k:Int))(U:p.H=(h:Int))(w:U1):Calls prog 243 #[p.val] w fun e w'=>∃A c vs,e=.returned (.slice A h c)∧
  Zq w w' (A,h,c) vs (YR k h)∧Below w w w':=by
 obtain⟨i1,aC,aD,aE,aF⟩:=info_parts Z02;have aa:=S;unfold Zf.Ok at aa;have HP:=Z S;have HC:=Z (Ye.new w p 25);obtain⟨f,V⟩:∃g,w.heap.size=g:=⟨_,rfl⟩;rw[V]at HC ⊢;have L:=Z V;obtain⟨m,r,y⟩:=p;dsimp only at aa T U;obtain⟨n,hn⟩:=Zb (k+h);have HN:=Z (show m+r=(n:Int) from Y);have s:=Z hn;unfold Zf.val;have aG:2≤n∧n≤20∧1≤k∧k≤16∧1≤h∧h≤4:=Y;have HK:=Z T;have HH:=Z U;clear S V hn T U;go_enter func243,ntmps243;go_wp2_with fail;rw[L];refine(V9 ⟨m,r,y⟩ true _ (Zf.ok_may HP)).mono ?_;rintro e w1 ⟨rfl,z⟩;rw[Xn,L]at z;have aH:=Z (HC.keep z Y);have b1:Below f w w1:=((Z8 _ _).alloc (by rw[L];omega) _).trans (z.mono Y);have aI:=Z b1;have aJ:=z.size;rw[Xn,L]at aJ;clear b1 z;go_wp2_with fail;refine(Z4S _).mono ?_;rintro e W ⟨g,rfl,bd,a0,a1⟩;have ab:=Z (aH.keep a1 Y);obtain⟨d0,d1,d2⟩:=ab.out;dsimp only at d0 d1 d2;rw[HH]at d1;have aK:=Z (aI.trans (a1.mono Y));have aL:=Z a0;have be:=a0.lt;have bf:f<g:=Y;clear a1 a0;go_wp2;go_loopw [4,14] (fun v i wr=>∃(j:Nat) (M:Z_) (C:X_) (D:Nat),j≤h∧i=.int .i64 (j:Int)∧v=.slice C j D∧Hid (Zq (g+1) wr (C,j,D) M ((YR k h).take j))∧Hid (Below (g+1) W wr)) (fun _ i _=>h-(intOf i).toNat)
 ·exact⟨0, [],none,0,Y,rfl,rfl,Z (Zq.nil_ _ _),Z (Z8 _ _)⟩
 ·obtain⟨j,M,C,D,hj,rfl,rfl,HO,o⟩:=hrel;by_cases ac:j<h
  ·have bg:(j:Int)<(h:Int):=Y;have ad:=ab.keep o Y;have bh:=Z ad;obtain⟨c0,c1,c2⟩:=ad;dsimp only at c0 c1 c2;have ae:f<(wr.drewN 1).heap.size:=(by have:=o.size;have h2:(wr.drewN 1).heap.size=wr.heap.size:=rfl;omega);obtain⟨N,af⟩:∃q,k+j=q:=⟨_,rfl⟩;have aM:m+(j:Int)=(N:Int):=Zc HK.out;have ag:N<n:=Zc s.out;have aO:=Z af;have bi:k≤n:=Zc s.out;have bj:=Z aG;clear af;go_wp2_with fail;refine oS [] (fun wx=>wx.cell? ⟨f,0,none⟩=some (.int .i64 m)∧wx.cell? ⟨f,1,none⟩=some (.int .i64 r)∧wx.cell? ⟨f,2,none⟩=some (.int .i64 y)) [0,2,3,4,5,1,6,7] (⟨c0,c1,c2⟩) fun hS=>?_;(iterate 5 refine oV ?_);refine oG fun K hK=>?_;go_simp;go_at_call 217;refine(Z3W ⟨m,r,y⟩ HP n HN _).mono ?_;rintro e E ⟨rfl,O⟩;have P:=Ye.keep (p:=⟨m,r,y⟩) (g:=f) ⟨hS.1,hS.2.1,hS.2.2⟩ O ae;have aP:=O.size;have aQ:f<E:=YI ae aP;have ah:=Z O;clear O;go_wp2_with fail;refine oK hK ⟨P.1,P.2.1,P.2.2⟩ fun hS=>?_;clear P;refine oG fun K hK=>?_;go_simp;go_at_call 296;rw[i64_in _ Y];refine(Zh2 n N _ ag Y).mono ?_;rintro e w3 ⟨A3,c3,rfl,ai,Q⟩;have G:=Ye.keep (p:=⟨m,r,y⟩) (g:=f) ⟨hS.1,hS.2.1,hS.2.2⟩ Q aQ;have bk:=Q.size;have aj:=Z Q;have aR:=Z ai;clear Q ai;go_wp2;refine hK _ _ ⟨G.1,G.2.1,G.2.2⟩ (fun ak=>?_);have aT:=Z G;clear G;clear hK K hS;have hS:=ak;clear ak;(try simp only[aS,aN,aA,aY,aX]);refine oV ?_;refine oD ?_;have bl:n≤1048576:=Y;have l:=aR.out;unfold OB at l;rw[show((Zm n).set N 1).length=n by simp[Zm],←s,←aO,Zjp k h j ac,s]at l;obtain⟨a,cr,aU,ev,aV,al,-,-,-,-⟩:=XN l Y;injection ev with aW _ b0;subst aW;have a2:=Z l;have bm:=al.lt;have b2:wr.drew.heap.size=wr.heap.size:=rfl;have am:=Z ((bq_ o 1).trans ((ah.mono (Zc o.size)).trans (aj.mono (Zc o.size))));obtain⟨z0,z1,z2⟩:=aT;dsimp only at z0 z1 z2;rw[HK]at z0;have bn:(k:Int)≤16:=Y;have bo:W.heap.size≤wr.heap.size:=o.size;have bp:g+1≤a:=Y;clear l al b0 c0 c1 c2 aM ag hS;clear aU;go_wp2;go_loopw [26] (fun i wq=>∃t:Nat,t≤k∧i=.int .i64 (t:Int)∧Hid (wq.ownsRow E 5 1 (a,n,c3) n ((Z1b k h j t).map Za))∧Hid (Only (fun q=>q=a) w3 wq)) (fun i _=>k-(intOf i).toNat)
   ·exact⟨0,Y,rfl,a2,Z (Only.refl _ _)⟩
   ·obtain⟨t,ht,rfl,HR,R⟩:=hrel;by_cases bq:t<k
    ·have br:(t:Int)<(k:Int):=Y;obtain⟨q,I⟩:=Zb ((j+1)*(t+1));have bs:q≤64:=(by rw[←I];exact Zj (VI (show j+1≤4 from Y) (show t+1≤16 from Y)) Y);have bt:((j:Int)+1)*((t:Int)+1)=(q:Int):=(by rw[←I];exact(Z3E ..).symm);have a3:=Ww HR (show t<n from Y);have a4:t<((Z1b k h j t).map Za).length:=(by rw[Zz,ZfM];have:=s.out;omega);obtain⟨u0,cu⟩:∃u,wr.cell? ⟨a,t,none⟩=some u:=⟨_,a3.1.trans (Z7 a4)⟩;have fu:=a3.2;have a5:=Z0f HR (show t<n from Y) (Za (gx (q % 255)));rw[←XZ,←I,Ze7 k h j t Y,I]at a5;have an:=Z a5;have ao:=Z (Only.set (F:=fun q=>q=a) R rfl t (Za (gx (q % 255))));have ap:Yq wr g:=(aL.below am Y).only R Y;have b3:=Z ap;clear a3 a5 ap I a4;go_wp2_with fail;refine(ZiC g q _ b3 Y).mono ?_;rintro e w6 ⟨rfl,d,rfl⟩;obtain⟨bz,aq⟩:∃b,gx (q % 255)=b:=⟨_,rfl⟩;rw[aq]at an ao ⊢;have bv:(wr.drewN d).cell? (a,t)=some u0:=cu;have bw:(wr.drewN d).frozen? ⟨a,t,none⟩=false:=fu;have ar:((wr.drewN d).setCell (a,t) (Za bz)).ownsRow E 5 1 (a,n,c3) n ((Z1b k h j (t+1)).map Za):=an;have av:Only (fun q=>q=a) w3 ((wr.drewN d).setCell (a,t) (Za bz)):=(by have J:=ao.drewN d;exact⟨J.os,J.tape,J.output,J.size,J.block⟩);have aw:=Z ar;have ax:=Z av;have bx:t<n:=Y;clear cu fu ar av aq;unfold Za;unfold Za at aw ax;go_wp2;go_roundw;·exact⟨t+1,Y,Zg,aw,ax⟩
     ·exact Zh
    ·have b4:t=k:=Y;subst b4;have a4:t<t+1:=Y;have hx:OB (g+1) wr (a,n,c3) (preRow t h j):=(by have:=HR.out;rw[ZfR]at this;unfold OB;rw[Z64,s];exact ZA this Y);have ay:=R.below (B:=E) (fun q e=>by subst e;exact aV) Y;have a6:=aj.trans ay;have b2:E.heap.size≥f+1:=Y;have az:=(HO.below (bq_ (Z8 _ _) 1)).below ah;have a7:=az.below a6;have HX:=Z hx;have bB:=a6.size;have a8:((YR t h).take j).length=j:=(by rw[ZK,Z3o];omega);have a9:=a7.own;rw[a8]at a9;have b5:=Z a7;have aB:=Z (am.trans (R.below (B:=g+1) (fun q e=>by subst e;omega) Y));have b7:=Z a8;have b9:g+1≤wr.heap.size:=Zc aB.size;clear hx ay a6 az a7 a8 z0 z1 z2;go_wp2_with (at_builtin;go_must (refine Y5 rfl (.tmp 40) (.tmp 42) 106 rfl (g+1) 32 i1 () 1 24 underlying106 aC aD aE aF rfl Y (C,j,D) j M rfl (a9.alloc _) _ _ 1 1 _ rfl (Sl.fresh _ _ _ _ 1 rfl) (by simp[Value.oneCell']) (j+1) rfl _ rfl Y Y (by rw[Xn];omega) ?_);intro A6 c6 w6 o6 g6 h6)
     clear h6;have b6:Below (g+1) W w6:=Y9 (aB.alloc b9 _) (ZA (a9.alloc _) (Z4 _)) g6 Y (by rw[Xn];omega);have ba:=(b5.below ((Z8 _ _).alloc (Z4 _) _)).push (x:=preRow t h j) (OB.below (base:=g+1) HX ((Z8 _ _).alloc (Z4 _) _)) (by rw[b7];exact o6) g6;go_roundw;·exact⟨j+1,_,A6,c6,Y,Zg,rfl,Z (by rw[Zek t h j ac];exact ba),Z b6⟩
     ·exact Zh
  ·have bb:j=h:=Y;subst bb;have l:=HO.out;rw[ZP (by rw[Z3o];omega)]at l;have a2:=Z l;have bc:=Z (aK.trans (o.mono Y));clear l;go_wp2;go_ret;exact⟨C,D,M,rfl,a2.base Y,bc⟩
theorem ZeC (k h s:Nat)(a:List Nat)(j:Nat)(b:j<a.length):(Y6 k h s a).take (h+j+1)=(Y6 k h s a).take (h+j)++ [VE (k+h) (YQ (k+h) s (a.getD j 0))]:=by
 have c:(Y6 k h s a)[h+j]? =some (VE (k+h) (YQ (k+h) s (a.getD j 0))):=by unfold Y6 ltM;rw[Y7 (by rw[Z3o];omega),Z3o,Z2l,ZO,Z6,Z7 b];rfl
 rw[List.take_succ,c];rfl
theorem Zg3 (k h s:Nat)(a:List Nat):(Y6 k h s a).take h=YR k h:=by unfold Y6;rw[Z1t (by rw[Z3o];exact Z4 _),ZP (by rw[Z3o];exact Z4 _)]
theorem Z8z (p:Zf)(J:p.Ok)(k h:Nat)(L:p.K=(k:Int))(M:p.H=(h:Int))(s B:Nat)(A:X_)(m c:Nat)(d:List Nat)(w:U1)(hs:s<4294967296)(N:Sl w B 1 A m (d.map ZM))(hB:B≤w)(hm:m≤1000000)(V:∀x∈d,x≤65535):
  Calls prog 200 #[p.val,.int .u32 (s:Int),(A,m,c)] w fun e W=>∃A' l vs,e=.returned (.slice A' (h+m) l)∧Zq w W (A',(h+m),l) vs (Y6 k h s d)∧Below w w W:=by
 obtain⟨i1,a8,a9,aa,ab⟩:=info_parts Z02;have a0:=J;unfold Zf.Ok at a0;have HP:=J;have HC:=Ye.new w p 25;obtain⟨f,O⟩:∃g,w.heap.size=g:=⟨_,rfl⟩;rw[O]at HC ⊢;have E:=Z O;obtain⟨P,Q,pS⟩:=p;dsimp only at a0 L M;obtain⟨n,hn⟩:=Zb (k+h);have HN:=Z (show P+Q=(n:Int) from Y);have ac:=Z hn;unfold Zf.val;have aw:2≤n∧n≤20∧1≤k∧k≤16∧1≤h∧h≤4:=Y;have a1:d.length=m:=by have:=N.len;simpa using this
 have HK:=Z L;have HH:=Z M;have ad:=N;have ae:=Z V;have q:=Z a1;have af:B≤f:=Y;clear J O hn L M N V a1;have qT:∀(w:U1) (a:X_) (n c R l:Nat),(binOp .neq 32 (.slice a n c) (.slice none R l)).run prog w=.ok (.bool (!a.isNone)) w:=fun w a n c R l=>run_neq_slice_nil_any w _ _ a n c R l underlying32;go_enter func200,ntmps200;go_wp2_with fail;rw[E];refine(Z84 ⟨P,Q,pS⟩ HP k h HK HH _).mono ?_;rintro e F ⟨A1,r,a2,rfl,a3,t⟩;rw[Xn,E]at a3 t;have ag:=HC.keep t Y;have a4:Below f w F:=((Z8 _ _).alloc (by rw[E];omega) _).trans (t.mono Y);have ah:=t.size;rw[Xn,E]at ah;clear t;go_wp2;go_loopw [7,15] (fun v i wr=>∃(j:Nat) (y:Z_) (z:X_) (C:Nat),j≤m∧i=.int .i64 (j:Int)∧v=.slice z (h+j) C∧Hid (Zq (f+1) wr (z,(h+j),C) y ((Y6 k h s d).take (h+j)))∧Hid (Below (f+1) F wr)) (fun _ i _=>m-(intOf i).toNat)
 ·exact⟨0,a2,A1,r,Y,rfl,rfl,Z (by show Zq (f+1) F (A1,h,r) a2 ((Y6 k h s d).take h);rw[Zg3];exact a3),Z (Z8 _ _)⟩
 ·obtain⟨j,y,z,C,hj,rfl,rfl,HO,D⟩:=hrel;by_cases G:j<m
  ·have ax:(j:Int)<(m:Int):=Y;have ai:=ag.keep D Y;obtain⟨c0,r,c2⟩:=ai;dsimp only at c0 r c2;have aj:f+1≤wr.heap.size:=Zc D.size;obtain⟨b,o,ea,ay,ck⟩:=((ad.below (a4.mono af)).below (D.mono Y)).get G (Z3B d j (by rw[q];exact G));have hx:=ae (d.getD j 0) (by rw[Z6,Z7 (by rw[q];exact G)];exact Zp _);obtain⟨x,S⟩:=Zb (d.getD j 0);rw[S]at ck hx;have HX:=Z S;subst ea;clear S;go_wp2_with fail;refine(Zel ⟨P,Q,pS⟩ HP n s x HN _ hs hx).mono ?_;rintro e w3 ⟨g3,rfl,az,a5,I⟩;have ak:OB (f+1) w3 (g3,n,n) (VE n (YQ n s x)):=Z0n a5 Y (by rw[←Z9Q];exact Z6M _ _ _ (Z4 _)) Y;have T:((Y6 k h s d).take (h+j)).length=h+j:=(by rw[ZK,Z0V,q];omega);have a6:=HO.below (I);have U:=a6.own;rw[T]at U;have al:=Z T;have am:=D.trans (I.mono aj);have an:f+1≤w3.heap.size:=Zc I.size;clear a5 T I c0 r c2;go_wp2_with (at_builtin;go_must (refine Y5 rfl (.tmp 25) (.tmp 27) 106 rfl (f+1) 32 i1 () 1 24 underlying106 a8 a9 aa ab rfl Y (z,(h+j),C) (h+j) y rfl (U.alloc _) _ _ 1 1 _ rfl (Sl.fresh _ _ _ _ 1 rfl) (by simp[Value.oneCell']) (h+j+1) rfl _ rfl Y Y (by rw[Xn];omega) ?_);intro A6 c6 w6 o6 g6 h6)
   have b6:Below (f+1) F w6:=Y9 (am.alloc an _) (U.alloc _) g6 (Z4 _) (by rw[Xn];omega);have ao:=(a6.below ((Z8 _ _).alloc (Z4 _) _)).push (x:=VE n (YQ n s x)) (OB.below (base:=f+1) ak ((Z8 _ _).alloc (Z4 _) _)) (by rw[al];exact o6) g6;have ap:Zq (f+1) w6 (A6,(h+(j+1)),c6) (y++ [.slice (some ⟨g3,0,none⟩) n n]) ((Y6 k h s d).take (h+(j+1))):=(by rw[←VU,ZeC k h s d j (by rw[q];exact G),HX,ac];exact ao);have aq:h+j+1=h+(j+1):=Y;rw[aq];go_roundw;·exact⟨j+1,_,A6,c6,Y,Zg,rfl,Z ap,Z b6⟩
   ·exact Zh
  ·have ar:j=m:=Y;subst ar;have a7:=HO.out;rw[ZP (by rw[Z0V,q];omega)]at a7;have av:=a4.trans (D.mono Y);go_wp2;go_ret;exact⟨z,C,y,rfl,a7.base Y,av⟩
theorem Zhh (q n:Nat):((q:Int)==(n:Int))=decide (q=n):=by
 by_cases h:q=n;·subst h;simp
 ·have a:¬(q:Int)=(n:Int):=Y;rw[decide_eq_false h];exact beq_eq_false_iff_ne.2 a
theorem Zfo (p:Zf)(z:p.Ok)(k h:Nat)(C:p.K=(k:Int))(D:p.H=(h:Int))(s B:Nat)(A:X_)(m c:Nat)(i:List Nat)(w:U1)(hs:s<4294967296)(E:Sl w B 1 A m (i.map ZM))(F:B≤w)(hm:m≤1000000)(I:∀x∈i,x≤65535):
  Calls prog 216 #[p.val,.int .u32 (s:Int),(A,m,c)] w fun e w'=>e=.returned (.int .i64 ((Yh (k+h) (Y6 k h s i)).1:Int))∧Below w w w':=by
 have J:=z;unfold Zf.Ok at J;have HP:=z;have L:=Ye.new w p 25;obtain⟨a,l⟩:∃g,w.heap.size=g:=⟨_,rfl⟩;rw[l]at L ⊢;have G:=Z l;obtain⟨b,d,f⟩:=p;dsimp only at J C D;obtain⟨n,M⟩:=Zb (k+h);have HN:=Z (show b+d=(n:Int) from Y);have N:=Z M;unfold Zf.val;have aa:2≤n∧n≤20∧1≤k∧k≤16∧1≤h∧h≤4:=Y;have O:i.length=m:=by have:=E.len;simpa using this
 have HK:=Z C;have HH:=Z D;have a2:=E;have a3:=Z I;have a4:=Z O;rw[l]at F;clear z l M C D E I O;go_enter func216,ntmps216;go_wp2_with fail;rw[G];obtain⟨P,Q,R⟩:=L;dsimp only at P Q R;have a5:Below a w (w.alloc (.cells #[b,d,f] 25)):=(Z8 _ _).alloc (by rw[G];exact Z4 _) _;have a6:=Z (show a<(w.alloc (.cells #[b,d,f] 25)).heap.size by rw[Xn,G];omega);refine oS [] (fun wx=>wx.cell? ⟨a,0,none⟩=some (.int .i64 b)∧wx.cell? ⟨a,1,none⟩=some (.int .i64 d)∧wx.cell? ⟨a,2,none⟩=some (.int .i64 f)∧Below a w wx∧a<wx) [1,2,3,0,4,5,6] (⟨P,Q,R,bq_ a5 1,a6⟩) fun hS=>?_;iterate 3 refine oV ?_
 refine oG fun K hK=>?_;go_simp;go_at_call 199;refine(Z4S _).mono ?_;rintro e w2 ⟨g,rfl,ab,S,j⟩;have o:=Ye.keep (p:=⟨b,d,f⟩) (g:=a) ⟨hS.1,hS.2.1,hS.2.2.1⟩ j hS.2.2.2.2;have T:=YI hS.2.2.2.2 j.size;have U:=hS.2.2.2.1.trans (j.mono (X5 hS.2.2.2.2));have a7:=S.lt;have ac:=j.size;clear j;go_wp2_with fail;refine oK hK ⟨o.1,o.2.1,o.2.2,U,T⟩ fun hS=>?_;clear o T U;refine oG fun K hK=>?_;go_simp;go_at_call 200;refine(Z8z ⟨b,d,f⟩ HP k h HK HH s B A m c i _ hs (a2.below (hS.2.2.2.1.mono F)) (Zj F (X5 hS.2.2.2.2)) hm a3).mono ?_;rintro e w3 ⟨A3,c3,a8,rfl,a9,q⟩;have t:=Ye.keep (p:=⟨b,d,f⟩) (g:=a) ⟨hS.1,hS.2.1,hS.2.2.1⟩ q hS.2.2.2.2;have V:=YI hS.2.2.2.2 q.size;have W:=hS.2.2.2.1.trans (q.mono (X5 hS.2.2.2.2));go_wp2_with fail;refine oK hK ⟨t.1,t.2.1,t.2.2,W,V⟩ fun hS=>?_;clear t V W;refine oG fun K hK=>?_;go_simp;go_at_call 271;refine(ZgO g w3 A3 (h+m) c3 n a8 (Y6 k h s i) _ (S.below q a7) (a9.read (by rw[Z0V,a4])) (Z4 _) Y Y Y Y (fun r hr=>by rw[←N];exact Z46 hr)).mono ?_;rintro e w4 ⟨rfl,v⟩;have y:=Ye.keep (p:=⟨b,d,f⟩) (g:=a) ⟨hS.1,hS.2.1,hS.2.2.1⟩ v hS.2.2.2.2;have a0:=YI hS.2.2.2.2 v.size;have a1:=hS.2.2.2.1.trans (v.mono (X5 hS.2.2.2.2));clear v;go_wp2_with fail;refine oK hK ⟨y.1,y.2.1,y.2.2,a1,a0⟩ fun hS=>?_;clear y a0 a1;refine oV ?_;refine oD ?_;go_wp2;go_ret;exact⟨by rw[N];rfl,hS.2.2.2.1⟩
theorem Z9U (p:Zf)(D:p.Ok)(k h:Nat)(E:p.K=(k:Int))(F:p.H=(h:Int))(s B:Nat)(A:X_)(m c:Nat)(j:List Nat)(b:Bool)(w:U1)(hs:s<4294967296)(G:Sl w B 1 A m (j.map ZM))(I:B≤w)(hm:m≤1000000)(O:∀x∈j,x≤65535)(l:decide ((Yh (k+h) (Y6 k h s j)).1=k+h)=b):
  Calls prog 153 #[p.val,.int .u32 (s:Int),(A,m,c)] w fun e w'=>e=.returned (.bool b)∧Below w w w':=by
 have P:=D;unfold Zf.Ok at P;have J:=D;have Q:=Ye.new w p 25;obtain⟨a,o⟩:∃g,w.heap.size=g:=⟨_,rfl⟩;rw[o]at Q ⊢;have L:=Z o;obtain⟨d,f,i⟩:=p;dsimp only at P E F;obtain⟨n,M⟩:=Zb (k+h);have HN:=Z (show d+f=(n:Int) from Y);have a4:=Z M;unfold Zf.val;have ab:2≤n∧n≤20∧1≤k∧k≤16∧1≤h∧h≤4:=Y;have R:j.length=m:=by have:=G.len;simpa using this
 have HK:=Z E;have HH:=Z F;have a5:=G;have a6:=Z O;have ac:=Z R;rw[o]at I;rw[M]at l;obtain⟨q,N⟩:=Zb ((Yh n (Y6 k h s j)).1);rw[N]at l;have a7:=Z N;have a8:=Z l;clear D o M E F G O R N l;go_enter func153,ntmps153;go_wp2_with fail;rw[L];obtain⟨S,T,U⟩:=Q;dsimp only at S T U;have a9:Below a w (w.alloc (.cells #[d,f,i] 25)):=(Z8 _ _).alloc (by rw[L];exact Z4 _) _;have aa:=Z (show a<(w.alloc (.cells #[d,f,i] 25)).heap.size by rw[Xn,L];omega);refine oS [] (fun wx=>wx.cell? ⟨a,0,none⟩=some (.int .i64 d)∧wx.cell? ⟨a,1,none⟩=some (.int .i64 f)∧wx.cell? ⟨a,2,none⟩=some (.int .i64 i)∧Below a w wx∧a<wx) [0,1,2,3,4,5,7,6,8,9,10,11] (⟨S,T,U,bq_ a9 1,aa⟩) fun hS=>?_;refine oV ?_;refine oG fun K hK=>?_;go_simp;go_at_call 78;refine(V9 ⟨d,f,i⟩ true _ (Zf.ok_may J)).mono ?_;rintro e w2 ⟨rfl,r⟩;have t:=Ye.keep (p:=⟨d,f,i⟩) (g:=a) ⟨hS.1,hS.2.1,hS.2.2.1⟩ r hS.2.2.2.2;have V:=YI hS.2.2.2.2 r.size;have W:=hS.2.2.2.1.trans (r.mono (X5 hS.2.2.2.2));clear r;go_wp2_with fail;refine oK hK ⟨t.1,t.2.1,t.2.2,W,V⟩ fun hS=>?_;clear t V W;iterate 5 refine oV ?_
 refine oG fun K hK=>?_;go_simp;go_at_call 216;refine(Zfo ⟨d,f,i⟩ J k h HK HH s B A m c j _ hs (a5.below (hS.2.2.2.1.mono I)) (Zj I (X5 hS.2.2.2.2)) hm a6).mono ?_;rintro e w3 ⟨rfl,v⟩;have y:=Ye.keep (p:=⟨d,f,i⟩) (g:=a) ⟨hS.1,hS.2.1,hS.2.2.1⟩ v hS.2.2.2.2;have a0:=YI hS.2.2.2.2 v.size;have a1:=hS.2.2.2.1.trans (v.mono (X5 hS.2.2.2.2));clear v;rw[a4];rw[a7];go_wp2_with fail;refine oK hK ⟨y.1,y.2.1,y.2.2,a1,a0⟩ fun hS=>?_;clear y a0 a1;refine oG fun K hK=>?_;go_simp;go_at_call 217;refine(Z3W ⟨d,f,i⟩ J n HN _).mono ?_;rintro e w4 ⟨rfl,z⟩;have C:=Ye.keep (p:=⟨d,f,i⟩) (g:=a) ⟨hS.1,hS.2.1,hS.2.2.1⟩ z hS.2.2.2.2;have a2:=YI hS.2.2.2.2 z.size;have a3:=hS.2.2.2.1.trans (z.mono (X5 hS.2.2.2.2));clear z;go_wp2_with fail;refine oK hK ⟨C.1,C.2.1,C.2.2,a3,a2⟩ fun hS=>?_;clear C a2 a3;iterate 3 refine oV ?_
 refine oD ?_;go_wp2;go_ret;exact⟨Xu (by rw[←a8];exact Zhh q n),hS.2.2.2.1⟩
theorem Z8G (p:Zf)(n:p.Ok)(k:Nat)(o:p.K=(k:Int))(w:U1):
  Calls prog 201 #[p.val] w fun e s=>∃A c,e=.returned (.slice A k c)∧s.ownsRow w 3 1 (A,k,c) k ((List.range k).map ZM)∧Below w w s:=by
 obtain⟨F,G,H,I,J⟩:=info_parts VC;have t:=n;unfold Zf.Ok at t;have HP:=n;have x:=Ye.new w p 25;obtain⟨a,q⟩:∃g,w.heap.size=g:=⟨_,rfl⟩;rw[q]at x ⊢;have h:=Z q;obtain⟨b,l,m⟩:=p;dsimp only at t o;have a2:1≤k∧k≤16:=Y;unfold Zf.val;have y:=Z o;clear n q o;go_enter func201,ntmps201;go_wp2_with fail;rw[h];obtain⟨L,M,N⟩:=x;dsimp only at L M N;have O:Below a w (w.alloc (.cells #[b,l,m] 25)):=(Z8 _ _).alloc (by rw[h];exact Z4 _) _;have a3:=Z (show a<(w.alloc (.cells #[b,l,m] 25)).heap.size by rw[Xn,h];omega);go_wp2;go_loopw [3,9] (fun v i wr=>∃(j:Nat) (d:X_) (f:Nat),j≤k∧i=.int .i64 (j:Int)∧v=.slice d j f∧Hid (wr.ownsRow (a+1) 3 1 (d,j,f) j ((List.range j).map ZM))∧Hid (Below (a+1) (w.alloc (.cells #[b,l,m] 25)) wr)) (fun _ i _=>k-(intOf i).toNat)
 ·exact⟨0,none,0,Y,rfl,rfl,Z (Yi _ _ _ _),Z (Z8 _ _)⟩
 ·obtain⟨j,d,f,hj,rfl,rfl,z,r⟩:=hrel;by_cases a4:j<k
  ·have P:(j:Int)<max 0 (min b 16):=Zc y.out;have B:=z.out;have Q:a+1≤wr.heap.size:=(by have:=r.size;rw[Xn,h]at this;omega);have a5:j≤16:=Y;go_wp2_with (at_builtin;go_must (refine Y5 rfl (.tmp 12) (.tmp 14) 22 rfl (a+1) 3 F Nat 1 8 underlying22 G H I J rfl Y (d,j,f) j ((List.range j).map ZM) rfl (B.alloc _) _ _ 1 1 _ rfl (Sl.fresh _ _ _ _ 1 rfl) (by simp[Value.oneCell']) (j+1) rfl _ rfl Y Y (by rw[Xn];omega) ?_);intro C D E R S T)
   have U:Below (a+1) (w.alloc (.cells #[b,l,m] 25)) E:=Y9 (r.alloc Q _) (B.alloc _) S (Z4 _) (by rw[Xn];omega);have V:E.ownsRow (a+1) 3 1 (C,(j+1),D) (j+1) ((List.range (j+1)).map ZM):=(by rw[Wp,ZV];exact R);clear T;go_roundw;·exact⟨j+1,C,D,Y,Zg,rfl,Z V,Z U⟩
   ·exact Zh
  ·have W:j=k:=Y;subst W;have a0:=O.trans (r.mono Y);have a1:=ZA (base':=a) z Y;have P:¬(j:Int)<max 0 (min b 16):=Zc y.out;go_wp2;go_ret;exact⟨d,f,rfl,a1,a0⟩
theorem Z7S (p:Zf)(n:p.Ok)(k h:Nat)(o:p.K=(k:Int))(q:p.H=(h:Int))(s:Nat)(b:Bool)(w:U1)(L:s<4294967296)(v:decide ((Yh (k+h) (Y6 k h s (List.range k))).1=k+h)=b):
  Calls prog 197 #[p.val,.int .u32 (s:Int)] w fun e M=>e=.returned (.bool b)∧Below w w M:=by
 have y:=n;unfold Zf.Ok at y;have z:=n;have A:=Ye.new w p 25;obtain⟨a,r⟩:∃g,w.heap.size=g:=⟨_,rfl⟩;rw[r]at A ⊢;have t:=Z r;obtain⟨c,d,f⟩:=p;dsimp only at y o q;unfold Zf.val;have W:1≤k∧k≤16∧1≤h∧h≤4:=Y;have B:=Z o;have N:=Z q;have O:=Z v;clear n r o q v;go_enter func197,ntmps197;go_wp2_with fail;rw[t];obtain⟨C,D,E⟩:=A;dsimp only at C D E;have P:Below a w (w.alloc (.cells #[c,d,f] 25)):=(Z8 _ _).alloc (by rw[t];exact Z4 _) _;have Q:=Z (show a<(w.alloc (.cells #[c,d,f] 25)).heap.size by rw[Xn,t];omega);refine oS [] (fun wx=>wx.cell? ⟨a,0,none⟩=some (.int .i64 c)∧wx.cell? ⟨a,1,none⟩=some (.int .i64 d)∧wx.cell? ⟨a,2,none⟩=some (.int .i64 f)∧Below a w wx∧a<wx) [0,1,2,3,4,5] (⟨C,D,E,bq_ P 1,Q⟩) fun hS=>?_;iterate 3 refine oV ?_
 refine oG fun K hK=>?_;go_simp;go_at_call 201;refine(Z8G ⟨c,d,f⟩ z k B _).mono ?_;rintro e R ⟨S,T,rfl,U,i⟩;have j:=Ye.keep (p:=⟨c,d,f⟩) (g:=a) ⟨hS.1,hS.2.1,hS.2.2.1⟩ i hS.2.2.2.2;have F:=YI hS.2.2.2.2 i.size;have G:=hS.2.2.2.1.trans (i.mono (X5 hS.2.2.2.2));clear i;go_wp2_with fail;refine oK hK ⟨j.1,j.2.1,j.2.2,G,F⟩ fun hS=>?_;clear j F G;refine oG fun K hK=>?_;go_simp;go_at_call 153;refine(Z9U ⟨c,d,f⟩ z k h B N s R S k T (List.range k) b _ L (Sl.own U) (Z4 _) Y (fun x V=>Zc (Ws.1 V)) O).mono ?_;rintro e w3 ⟨rfl,l⟩;have m:=Ye.keep (p:=⟨c,d,f⟩) (g:=a) ⟨hS.1,hS.2.1,hS.2.2.1⟩ l hS.2.2.2.2;have I:=YI hS.2.2.2.2 l.size;have J:=hS.2.2.2.1.trans (l.mono (X5 hS.2.2.2.2));clear l;go_wp2_with fail;refine oK hK ⟨m.1,m.2.1,m.2.2,J,I⟩ fun hS=>?_;clear m I J;refine oV ?_;refine oD ?_;go_wp2;go_ret;exact⟨rfl,hS.2.2.2.1⟩
def Vu (q k t:Int) (n:Nat):Y_:=ZN 4 q++ [Yg k 0,Yg t 0,Yg n 0]
theorem ZdO (l:0≤c∧c<4294967296)(a:0≤d∧d<256)(b:0≤z∧z<256)(m:n≤48):
  (Vu c d z n).map Za=[.int .u8 (c / 16777216),.int .u8 (c / 65536 % 256),.int .u8 (c / 256 % 256),.int .u8 (c % 256),.int .u8 d,.int .u8 z,.int .u8 (n:Int)]:=by
 have e:Za (Yg c 3)=.int .u8 (c / 16777216):=by unfold Za;rw[Z0c];congr 1;show c / 16777216 % 256=c / 16777216;omega
 have f:Za (Yg c 2)=.int .u8 (c / 65536 % 256):=by unfold Za;rw[Z0c];rfl
 have g:Za (Yg c 1)=.int .u8 (c / 256 % 256):=by unfold Za;rw[Z0c];rfl
 have h:Za (Yg c 0)=.int .u8 (c % 256):=by unfold Za;rw[Z0c];simp
 have i:=hi0 a;have j:=hi0 b;have k:=hi0 (x:=(n:Int)) Y;unfold Vu;simp only[ZN,ZV,WQ,Z07,Z0L,Z10,e,f,g,h,i,j,k]
theorem Zgc (q k t:Int)(B:Nat)(A:X_)(l:Y_)(n c:Nat)(w:U1)(E:0≤q∧q<4294967296)(F:0≤k∧k<256)(G:0≤t∧t<256)(h:Sl w B 1 A n (l.map Za))(H:B≤w)(I:n≤48):
  Calls prog 108 #[.int .i64 q,.int .i64 k,.int .i64 t,.slice A n c] w fun e j=>∃v,e=.returned v∧OB w j v (cellL 2 (Vu q k t n++l))∧Below w w j:=by
 obtain⟨J,L,M,N,O⟩:=info_parts WP;have b:=ZdO E F G I;have d:(Vu q k t n).length=7:=by have:=congrArg List.length b;simpa using this
 have m:=Row.new w 5 #[.int .u8 (q / 16777216),.int .u8 (q / 65536 % 256),.int .u8 (q / 256 % 256),.int .u8 (q % 256),.int .u8 k,.int .u8 t,.int .u8 (n:Int)];have f:Below w w (w.alloc (.cells #[.int .u8 (q / 16777216),.int .u8 (q / 65536 % 256),.int .u8 (q / 256 % 256),.int .u8 (q % 256),.int .u8 k,.int .u8 t,.int .u8 (n:Int)] 5)):=(Z8 _ _).alloc (Z4 _) _;have o:Row (w.alloc (.cells #[.int .u8 (q / 16777216),.int .u8 (q / 65536 % 256),.int .u8 (q / 256 % 256),.int .u8 (q % 256),.int .u8 k,.int .u8 t,.int .u8 (n:Int)] 5)) w.heap.size 5 ((Vu q k t n).map Za):=by rw[b];exact m
 have g:=Row.own (base:=w) (size:=1) (n:=7) (cap:=7) o (Z4 _) (Z4 _) (by unfold maxLen;omega) (by simp[d]);rw[ZP (by simp[d])]at g;have p:=h.below (f.mono H);have r:=Z g;have P:=Z p;have s:=f.size;clear m o g p b;go_enter func108,ntmps108;go_wp2_with (at_builtin;go_must (refine Y5 rfl (.tmp 29) (.tmp 30) 32 rfl w 5 J (.int .u8 0) 1 1 underlying32 L M N O rfl Y (.slice (some ⟨w.heap.size,0,none⟩) 7 7) 7 _ rfl r B A n c _ rfl P (Z2B _) (7+n) Y ((Vu q k t n++l).map Za) (by rw[ZV]) Y Y s ?_);intro x Q a y z _)
 have i:Below w w a:=Y9 f r z (Z4 _) s;have T:=Z (show(Vu q k t n++l).length=7+n by rw[Zw,d];have:=h.len;simp at this;omega);have C:Sl a a 1 x (7+n) ((Vu q k t n++l).map Za):=Sl.own y;refine(Z7b 2 a.heap.size x (Vu q k t n++l) (7+n) Q a Y C (Z4 _) Y).mono ?_;rintro e U ⟨v,rfl,D,R⟩;have S:=Z D;clear D y z C;go_wp2;go_ret;exact⟨v,rfl,ZA S i.size,i.trans (R.mono i.size)⟩
def Z0J (p:Y_):Nat:=(p.length+47) / 48
def VV (p:Y_) (j:Nat):Y_:=(p.drop (48*j)).take 48
def Z2_ (q:Int) (p:Y_) (j:Nat):Y_:=cellL 2 (Vu q j (Z0J p) (VV p j).length++VV p j)
def ZI (q:Int) (p:Y_):Z0:=(List.range (Z0J p)).map (Z2_ q p)
theorem Z3P (q:Int)(p:Y_):(ZI q p).length=Z0J p:=by simp[ZI]
theorem Z6c (p:Y_)(j:Nat):(VV p j).length=min (p.length-48*j) 48:=by unfold VV;simp;omega
section
open Go.Sort Go.Lib
section
variable {P:Program} {α:Type} [Inhabited α] {enc:α→List Value} {K:Nat}
omit [Inhabited α] in
theorem Z69 (a:∀x,(enc x).length=K):∀l:List α,(l.flatMap enc).length=l.length*K
 | []=>Ze
 |x::l=>by rw[Vb,Zw,a,Z69 a l,XQ,X9];omega
theorem Z7Y (hK:0<K)(a:∀x,(enc x).length=K)(l:List α):(flatK enc K l.toArray).toList=l.flatMap enc:=by
 apply VP;intro t;by_cases b:t<l.length*K
 ·have c:t / K<l.length:=(Nat.div_lt_iff_lt_mul hK).2 b;have d:t % K<K:=Vv _ hK;have e:=WW a l (t / K) (t % K) c d;rw[Nat.div_add_mod']at e;rw[e,Z0u];have i:l.getD (t / K) default=l[t / K]:=by rw[Z6,Z7 c];rfl
  have f:t % K<(enc l[t / K]).length:=by rw[a];exact d
  rw[i,Z7 f];have g:t<(flatK enc K l.toArray).size:=by simpa using b
  rw[Array.getElem?_eq_getElem g];congr 1;have h:=get_flatK enc K l.toArray t (by simpa using b);rw[getElem!_pos _ t g]at h;rw[h];have j:l.toArray[t / K]! =l[t / K]:=by rw[getElem!_pos _ _ (by simpa using c)];simp
  rw[j,getElem!_pos (enc l[t / K]) (t % K) f]
 ·rw[XX Zx,XX (by rw[Z69 a];omega)]
theorem Zdj (hK:0<K)(d:∀x,(enc x).length=K){w:U1}{T:TypeId}{g n cap:Nat}{a:Array U2}{l:List α}(c:w.heap[g]? =some (.cells a T (0,0)))(e:l.length=n)(f:a.toList.take (n*K)=l.flatMap enc):HoldsK enc K w g 0 l.toArray:=by
 intro j b;have h:j<n*K:=by rw[size_flatK]at b;simpa[e]using b
 refine⟨?_,by simp[World.frozen?,c]⟩;rw[Wz,cell_of_row w g j a T (0,0) c];have i:a.toList[j]? =(l.flatMap enc)[j]? :=by rw[←f,VW h]
 rw[←Z0u,i,←Z7Y hK d,Z0u,Array.getElem?_eq_getElem b,getElem!_pos _ j b];rfl
theorem Z9j {ρ:Go.Shelf.Ren}(L:SlLaysF0.n6 P ρ)(hK:0<K)(U:∀w,(isAgg (ρ.t 24)).run P w=.ok true w)(V:∀w,(Go.sizeOf (ρ.t 24)).run P w=.ok K w)(p:∀x,(enc x).length=K)(W:∀x,∀v∈enc x,v.oneCell'=true)
  (q:α→α→Int) (hO:SWO (ltOf q)) (f:Nat) {T:TypeId} (E n c:Nat) (A:X_) (l:List α) (w:U1) (eg:∀F w,(callFunc f F).run P w=.ok (.enter f F) w) (hc:∀a0 a1 N w,CmpLays P f #[] enc K q a0 a1 N w)
  (h:w.ownsRow E T K (A,n,c) n (l.flatMap enc)) (G:l.length=n) (hn:n≤1048576):
  Calls P (ρ.f 6) #[(A,n,c),.func (.func f) #[] #[]] w fun e r=>e=.returned (.tuple #[])∧∃s:List α,s.Perm l∧(∀i j,i<j→j<n→ltOf q (s.getD j default) (s.getD i default)=false)∧
   r.ownsRow E T K (A,n,c) n (s.flatMap enc)∧w.grownBy r (Value.slice A n c).ownBlock:=by
 rcases h.2 with ⟨z,h0⟩|⟨g,a8,B,z,hb,C,H,a2,I,ht⟩;·injection z with d J M;subst d J;refine(AnyF.slices_SortFunc_none L none c _ w).mono ?_;rintro e r ⟨rfl,rfl⟩;exact⟨rfl,l,.refl _,fun i j _ b=>absurd b Y,h,World.grownBy.refl _ _⟩
 ·injection z with d J M;subst d M;have O:g<w:=(Z5F.1 C).1;have D:l.toArray.size=n:=by simpa using G
  have hH:HoldsK enc K w g 0 l.toArray:=Zdj (cap:=c) hK p C G ht;have Q:=AnyQ.slices_SortFunc L K U V enc p W q hO f #[] g 0 c l.toArray w eg (hc g 0 _ w) hH O Y;rw[D]at Q;refine Q.mono ?_;rintro e r ⟨rfl,a,m,os,R,hs,rfl⟩;have y:a.size=n:=by rw[R.1,D]
  have hN:n*K≤B.size:=by rw[I];exact Z08 _ H
  have a3:(flatK enc K a).toList=a.toList.flatMap enc:=by rw[←Z7Y hK p]
  have S:(flatK enc K a).size=n*K:=by rw[size_flatK,y]
  refine⟨rfl,a.toList,?_,?_,⟨by rw[Z69 p,Z1U,y],.inr ⟨g,c,putCells id 0 (flatK enc K a) B,rfl,hb,?_,H,a2,by simp[putCells,I],?_⟩⟩,⟨rfl,rfl,rfl,?_,?_⟩⟩;·have o:=R.2.2;rw[←y,Array.extract_size]at o;rw[show l.toArray.extract 0 a.size=l.toArray by rw[y,←D,Array.extract_size]]at o;simpa using o
  ·intro i j a4 b;have o:=hs i j (ZY _) a4 b;have d:∀i,i<n→a[i]! =a.toList.getD i default:=fun i hi=>by rw[getElem!_pos a i Y,Z6,Z0u,Array.getElem?_eq_getElem Y];rfl
   rwa [d i Y,d j b]at o
  ·unfold sortWorldK putRowK;rw[heap_grow_old _ _ (by simpa[putRow,mapBlock]using O)];simp[putRow,mapBlock,Sort.ahead,Z2g,C,onCells]
  ·rw[←a3];apply VP;intro j;by_cases b:j<n*K;·rw[VW b,Z0u];have a5:j<B.size:=Y;simp[putCells,a5,S,b]
   ·rw[List.getElem?_take_eq_none Y,XX (by rw[Z1U,S];omega)]
  ·unfold sortWorldK putRowK;simp[putRow,mapBlock,grow,Sort.ahead]
  ·intro k a6 a7;unfold sortWorldK putRowK;rw[heap_grow_old _ _ (by simpa[putRow,mapBlock]using a6)];have:g≠k:=fun e=>a7 (by rw[e];rfl);simp[putRow,mapBlock,Sort.ahead,Z2g,this]
end
end
