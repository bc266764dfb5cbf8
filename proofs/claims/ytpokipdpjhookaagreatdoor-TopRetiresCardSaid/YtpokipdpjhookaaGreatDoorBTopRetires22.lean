/- ORs MatE Split DelS LaySort -/
import Derived.Shelf.SlSortCmp.WholeK
import Derived.Test.YtpokipdpjhookaaGreatDoorBTopRetires16
import Derived.Test.YtpokipdpjhookaaGreatDoorBTopRetires17
import Derived.Test.YtpokipdpjhookaaGreatDoorBTopRetires18
set_option maxHeartbeats 8000000
set_option maxRecDepth 20000
set_option linter.all false
namespace Go.Proofs
open Go Go.RowKit Tryz
variable {w v:World} {F:Nat→Prop} {n m k i j:Nat} {l L:List Value} {x:Value} {r:List Byte}
section
open Go.Sort Go.Lib
structure RD where
 r:Rec
 A:X_
 n:Nat
 c:Nat
instance:Inhabited RD:=⟨⟨Rec.zero,none,0,0⟩⟩
def RD.dv (x:RD):U2:= .slice x.A x.n x.c
def en2 (x:RD):Z_:= [.int .i64 x.r.O,.int .i64 x.r.B,.int .i64 x.r.I,.int .i64 x.r.P.K,.int .i64 x.r.P.H,.int .i64 x.r.P.S,.int .u32 (x.r.S.toNat:Int),x.dv]
theorem Z3t (x:RD):(en2 x).length=8:=rfl
theorem Z43 (x:RD):∀v∈en2 x,v.oneCell'=true:=by intro v a;simp only[en2,RD.dv,Xy,List.not_mem_nil,or_false]at a;rcases a with rfl|rfl|rfl|rfl|rfl|rfl|rfl|rfl <;> rfl
def ltD (a b:RD):Bool:=Vz a.r b.r
def cfD (a b:RD):Int:=Z30 a.r b.r
theorem ZjE (a b:RD):decide (cfD a b<0)=ltD a b:=Zin _ _
theorem Zaf:(fun x y=>decide (cfD x y<0))=ltD:=by funext a b;exact ZjE a b
theorem Zjd:We ltD:=⟨Z5k.asym,Z5k.tr,Z5k.tr',Z5k.le⟩
def RD.zero:RD:=⟨Rec.zero,none,0,0⟩
structure ORs (base:Nat) (w:World) (v:Value) (xs:List RD):Prop where
 own:w.ownsRow base 159 8 v xs.length (xs.flatMap en2)
 at_:∀x∈xs,OB base w x.dv x.r.D
theorem ORs.nil_ (base:Nat)(w:U1):ORs base w () []:=⟨Yi _ _ _ _,fun x a=>by cases a⟩
theorem ORs.below {base:Nat}{w':U1}{v:U2}{a:List RD}(h:ORs base w v a)(b:Below w w w'):ORs base w' v a:=
 ⟨h.own.kept (ZB b none) (by cases v.ownBlock <;> simp),fun x c=>(h.at_ x c).below b⟩
theorem ORs.base {base a:Nat}{w:U1}{v:U2}{b:List RD}(h:ORs base w v b)(c:a≤base):ORs a w v b:=⟨ZA h.own c,fun x d=>ZA (h.at_ x d) c⟩
theorem ORs.push {base:Nat}{w w':U1}{v v':U2}{b:List RD}{x:RD}(h:ORs base w v b)(c:OB base w x.dv x.r.D)(e:w'.ownsRow base 159 8 v' (b.length+1) (b.flatMap en2++en2 x))(d:w.grownBy w' v.ownBlock):ORs base w' v' (b++ [x]):=by
 refine⟨by simpa using e,fun y a=>?_⟩;rcases YZ.1 a with a|a;·exact(h.at_ y a).keep d (YF (h.at_ y a) h.own Z5)
 ·simp only[Yn]at a;subst a;exact c.keep d (YF c h.own Z5)
theorem Z5h:(∃d,prog.underlying 159=some d∧d.isRow=true)∧(prog.info? 159).map (·.size)=some 8:=⟨⟨_,rfl,rfl⟩,rfl⟩
theorem ZbK (a:Array U2)(w:U1):(callFunc 162 a).run prog w=.ok (.enter 162 a) w:=rfl
theorem Zdt (a b N:Nat)(w:U1):CmpLays prog 162 #[] en2 8 cfD a b N w:=by intro m d f _ x y;refine(Z8L x.r y.r x.dv y.dv _).mono ?_;rintro e g ⟨rfl,n,c,rfl⟩;exact⟨rfl,n,c,rfl⟩
theorem Zcx (k:Nat)(a:List RD)(A:X_)(n c:Nat)(w:U1)(h:ORs k w (A,n,c) a)(d:a.length=n)(r:n≤1048576):
  Calls prog 161 #[(A,n,c),.func (.func 162) #[] #[]] w fun e f=>e=.returned (.tuple #[])∧ORs k f (A,n,c) (Yc ltD a)∧w.grownBy f (Value.slice A n c).ownBlock:=by
 have i:=h.own;rw[d]at i;cases A with
 |none=>
  have b:n=0:=by
   rcases Z2E i with ⟨_,b,_⟩|⟨_,b,_⟩;·exact b
   ·cases b
  subst b;have j:a=[]:=V3 d;subst j;refine(Zbw none c _ w).mono ?_;rintro e f ⟨rfl,rfl⟩;exact⟨rfl,h,World.grownBy.refl _ _⟩
 |some ad=>
  obtain⟨g,D,rfl,s,l,t,v,y,z,R⟩:=Zo.start Z3t Z43 i d Z5h.1 Z5h.2;have B:=ZbR (cap:=c) (Zaf ▸ Zjd) R r Z43 ZbK (Zdt g 0 n w) z;refine B.mono ?_;rintro e f ⟨rfl,m⟩;rw[Zaf]at m;obtain⟨o,p⟩:=m.back Z3t l s y (Z4 n) t v;have C:(Yc ltD a).length=n:=by rw[Z0T,d]
  rw[ZP Y]at o;refine⟨rfl,⟨by rw[C];exact o,fun x j=>?_⟩,p⟩;have q:=h.at_ x (Z6b.1 j);exact q.keep p (own_ne q l Z5)
theorem Ze2 (r q:Rec)(d e:U2)(w:U1):Calls prog 164 #[r.val d,q.val e] w fun c f=>c=.returned (.bool (Wl Vz r q))∧∃n a,f=grow (w.drewN n) a:=by
 obtain⟨b,g⟩:=Zb (Wl Vz r q);have l:(Z30 r q==0)=b:=by rw[Zi8,g]
 obtain⟨h,i⟩:∃o:Obj,o=.cells #[.int .i64 r.O,.int .i64 r.B,.int .i64 r.I,.int .i64 r.P.K,.int .i64 r.P.H,.int .i64 r.P.S,.int .u32 (r.S.toNat:Int),d] 159:=⟨_,rfl⟩;obtain⟨j,k⟩:∃o:Obj,o=.cells #[.int .i64 q.O,.int .i64 q.B,.int .i64 q.I,.int .i64 q.P.K,.int .i64 q.P.H,.int .i64 q.P.S,.int .u32 (q.S.toNat:Int),e] 159:=⟨_,rfl⟩;rw[g];unfold Rec.val;go_enter func164,ntmps164;go_wp2_with fail;refine(Z8L r q d e _).mono ?_;rintro c f ⟨rfl,n,a,rfl⟩;go_wp2;go_ret;refine⟨rfl,n,#[h,j]++a,?_⟩;rw[i,k,alloc_eq_grow,alloc_eq_grow];show grow (grow (grow (w.drewN n) _) _) a=_;rw[grow_grow,grow_grow,←Array.append_assoc];rfl
theorem ZbU (a:Array U2)(w:U1):(callFunc 164 a).run prog w=.ok (.enter 164 a) w:=rfl
theorem Zd4 (a:U1)(b c N:Nat):EqL prog 164 en2 ltD a b c N:=by intro l W d x y;refine(Ze2 x.r y.r x.dv y.dv W).mono ?_;rintro e g ⟨rfl,n,f,rfl⟩;exact⟨rfl,d.grown n f⟩
theorem Zcq (w:U1):(zeroValue 159).run prog w=.ok (.agg (en2 RD.zero).toArray) w:=rfl
def ZjQ (g:Nat) (b:List RD) (w:U1) (v:U2) (e:Ending) (c:U1):Prop:=
 ∃(d:X_) (a f:Nat),e=.returned (.slice d a f)∧a=(WV ltD b).length∧ORs g c (.slice d a f) (WV ltD b)∧w.grownBy c v.ownBlock
theorem Zdh (j:Nat)(b:List RD)(A:X_)(n c:Nat)(w:U1)(h:ORs j w (A,n,c) b)(d:b.length=n)(s:n≤1048576):
  Calls prog 163 #[(A,n,c),.func (.func 164) #[] #[]] w (ZjQ j b w (A,n,c)):=by
 have f:=h.own;rw[d]at f;by_cases k:n=0;·subst k;have i:b=[]:=V3 d;subst i;refine(Zcn A c _ w).mono ?_;rintro e t ⟨rfl,rfl⟩;exact⟨A,0,c,rfl,rfl,h,World.grownBy.refl _ _⟩
 cases A with
 |none=>
  rcases Z2E f with ⟨_,a,_⟩|⟨_,a,_⟩;·exact absurd a k
  ·cases a
 |some ad=>obtain⟨g,G,rfl,v,l,m,o,y,z,R⟩:=Zo.start Z3t Z43 f d Z5h.1 Z5h.2;have B:=Zfj (cap:=c) R s Z43 ZbU (Zd4 w g 0 n) RD.zero _ Zcq rfl Y m (by unfold maxLen at o;omega) z;refine B.mono ?_;rintro e t ⟨H,C,rfl,D,a,E,F⟩;obtain⟨p,q⟩:=D.back Z3t l v y F m o;rw[E]at p;refine⟨_,C,c,rfl,a,⟨by rw[←a];exact p,fun x i=>?_⟩,q⟩;have r:=h.at_ x (ZaP i);exact r.keep q (own_ne r l Z5)
end
def Z0Q (a b:Zl) (k:Nat):Zl:=a.mapIdx fun i r=>if i<k then r++b.getD i [] else r
theorem Z1G (a b:Zl)(k:Nat):(Z0Q a b k).length=a.length:=by simp[Z0Q]
theorem Z48 (a b:Zl)(k i:Nat)(h:i<a.length):(Z0Q a b k).getD i []=if i<k then a.getD i []++b.getD i [] else a.getD i []:=by simp only[Z0Q,Z6,Z2W,Z7 h,Z0p,Yz]
theorem ZjL (a b:Zl):Z0Q a b 0=a:=Z1H (Z1G ..) fun j c=>by rw[Z1G]at c;rw[Z48 _ _ _ _ c,if_neg Y]
theorem ZfE (a b:Zl):Z0Q a b a.length=YK a b:=Z1H (by rw[Z1G,Z0U]) fun j c=>by rw[Z1G]at c;rw[Z48 _ _ _ _ c,Z41 _ _ _ c,if_pos c]
theorem Zee (a b:Zl)(k:Nat)(g:k<a.length):Z0Q a b (k+1)=(Z0Q a b k).set k (a.getD k []++b.getD k []):=Z1H (by rw[Z1G,Ya,Z1G]) fun j c=>by
 rw[Z1G]at c;rw[X4,Z1G,Z48 _ _ _ _ c,Z48 _ _ _ _ c];by_cases e:k=j;·subst e;rw[if_pos Y,if_pos ⟨rfl,c⟩]
 ·have f:∀X U8:Y_,(if k=j∧j<a.length then X else U8)=U8:=fun _ _=>if_neg (fun x=>e x.1);rw[f];by_cases d:j<k;·rw[if_pos d,if_pos Y]
  ·rw[if_neg d,if_neg Y]
theorem Zeg (n:Nat)(l:Zl)(k:Nat)(a:k<n):(VJ n l).take (k+1)=(VJ n l).take k++ [((Yh n l).2.getD k []).drop n]:=by rw[ZR (by rw[Z1E];exact a)];congr 2;unfold VJ;rw[List.getElem_map,List.getElem_range]
theorem Z3S (h:Only F w v){g o:Nat}(a:g<w)(b:¬F g):v.cell? (g,o)=w.cell? (g,o):=by have c:=h.block g a b;simp only[World.cell?,c]
theorem ZiD {a:Zl}{F:U0}(h:Zq n w (m,k,i) l a)(A:a.length=k)(D:WF l)(t:j<k)
  (E:Only F w v) (O:∀c,F c→(l.getD j undef).ownBlock=some c) (P:¬F m) (G:OB n v x r) (H:∀d,d<k→d≠j→∀c,(l.getD d undef).ownBlock=some c→x.ownBlock≠some c):
  Zq n (v.setCell (m,j) x) (m,k,i) (l.set j x) (a.set j r)∧WF (l.set j x):=by
 have g:l.length=k:=Zc h.own.1;have I:=h.own;rw[A]at I;have J:=Zu I E (fun c e B=>P (by injection e with e;subst e;exact B));obtain⟨S,T,U,e,_,L,_,_,_,_⟩:=XN J Y;injection e with e _ _;injection e with e;injection e with e _ _;subst e;have M:Only (fun q=>q=m) v (v.setCell (m,j) x):=Only.set (F:=fun q=>q=m) (Only.refl _ v) rfl j x;refine⟨⟨?_,fun d o=>?_⟩,Z7h fun d c o y z b=>?_⟩;·rw[Ya,A];exact Z0f J t x
 ·rw[Ya]at o;rw[X4,X4];have Q:d<k:=by rw[←A];exact o
  by_cases e:j=d;·subst e;rw[if_pos ⟨rfl,by rw[g];exact t⟩,if_pos ⟨rfl,o⟩];exact Zu G M (fun q C p=>X8 G L Z5 q C p)
  ·rw[if_neg (fun f=>e f.1),if_neg (fun f=>e f.1)];have s:=Zu (h.at_ d o) E (fun c y B=>Z2N D (g ▸ t) (g ▸ Q) e c (O c B) y);exact Zu s M (fun q C p=>X8 s L Z5 q C p)
 ·rw[Ya,g]at o y;rw[X4,X4];by_cases N:j=d;·subst N;rw[if_pos ⟨rfl,by rw[g];exact t⟩,if_neg (fun f=>z f.1)];intro s R;exact H c y (fun e=>z e.symm) b R s
  ·rw[if_neg (fun f=>N f.1)];by_cases p:j=c;·subst p;rw[if_pos ⟨rfl,by rw[g];exact t⟩];intro s;exact H d o (fun e=>z e) b s
   ·rw[if_neg (fun f=>p f.1)];exact Z2N D (g ▸ o) (g ▸ y) z b
theorem Z98 (g U Bb:Nat)(V Ab:X_)(d ca cb n s:Nat)(a5 aF:Z_)(a b:Zl)(w:U1)(hf:Yq w g)(ha:XL w U V d a5 a)(br:U≤w)(hb:XL w Bb Ab d aF b)(aG:Bb≤w)
  (ah:0<d) (a6:d≤1048576) (h0:0<n) (cs:0<s) (bs:n+s≤64) (aH:∀r∈a,r.length=n) (aI:∀r∈b,r.length=s) (M:(Yh n (YK a b)).1=n) (hz:∀i,n≤i→i<d→∀j,j<n+s→at2 (Yh n (YK a b)).2 i j=0):
  Calls prog 198 #[.pointer (some ⟨g,0,none⟩),.slice V d ca,.slice Ab d cb] w fun e w'=>∃A c C,e=.returned (.tuple #[.slice A n c,.int .i64 0])∧Zq w w' (.slice A n c) C (VJ n (YK a b))∧Below w w w':=by
 obtain⟨i0,bt,bv,bw,bz⟩:=info_parts WP;obtain⟨i1,bB,bC,bD,bE⟩:=info_parts Z02;have aJ:a.length=d:=ha.len;have aK:b.length=d:=hb.len;have ai:g<w:=hf.lt;have HF:=hf;have HA:=ha;have HB:=hb;have N:=Z aH;have aj:=Z aI;have D:=Z aJ;have aL:=Z aK;have HZ:=Z hz;have HR:=Z M;have ct:((d:Int)==0)=false:=by rw[beq_eq_false_iff_ne];omega
 obtain⟨t,ak⟩:∃q,w.heap.size=q:=⟨_,rfl⟩;rw[ak]at ai br aG ⊢;have aM:=Z ak;have cv:t≤w:=Y;clear hf ha hb aH aI aJ aK hz M ak;go_enter func198,ntmps198;go_wp2_with fail;refine(Z6P U V d ca n a5 a _ HA a6 N Y).mono ?_;rintro e w1 ⟨rfl,rfl⟩;go_wp2_with fail;refine(Z6P Bb Ab d cb s aF b _ HB a6 aj Y).mono ?_;rintro e w1 ⟨rfl,rfl⟩;go_wp2_with fail;refine(Z8M U V d ca n a5 a _ HA ah N).mono ?_;rintro e w1 ⟨rfl,rfl⟩;go_wp2_with fail;refine(Zae U V a5 a d ca _ HA Y a6 (fun i hi=>by have:(a.getD i []).length=n:=N _ (by rw[Z6,Z7 (by rw[D];exact hi)];exact Zp _);omega)).mono ?_;rintro e w2 ⟨A2,H,bF,rfl,a7,al,am⟩;rw[aM]at a7 am;obtain⟨h,rfl,W⟩:=Z7v (m:=n) a7 al D ah (Z3J N);have cw:=am.size;clear W;go_wp2;go_loopw [43] (fun q wr=>∃(i:Nat) (C:Z_),i≤d∧q=.int .i64 (i:Int)∧Hid (Zq t wr (.slice (some ⟨h,0,none⟩) d H) C (Z0Q a b i))∧Hid (WF C)∧Hid (Below t w wr)) (fun q _=>d-(intOf q).toNat)
 ·exact⟨0,bF,Y,rfl,Z (by rw[ZjL];exact a7),al,am⟩
 ·obtain⟨i,C,cy,rfl,I,HD,a0⟩:=hrel;have an:t≤wr:=Zc a0.size;by_cases y:i<d
  ·have cz:(i:Int)<(d:Int):=Y;have aO:i<a.length:=(by rw[D];exact y);have aP:(Z0Q a b i).getD i []=a.getD i []:=(by rw[Z48 _ _ _ _ aO,if_neg Y]);have ao:(a.getD i []).length=n:=N _ (by rw[Z6,Z7 aO];exact Zp _);have ap:(b.getD i []).length=s:=aj _ (by rw[Z6,Z7 (by rw[aL];exact y)];exact Zp _);have a8:(Z0Q a b i).length=d:=(by rw[Z1G,D]);have aq:C.length=d:=Zc I.own.1;have O:=I.at_ i (by rw[a8];exact y);rw[aP]at O;unfold OB at O;rw[ao]at O;obtain⟨G,ci,bG,ev,bH,ar,-,-,-,-⟩:=XN O h0;have cA:=ar.lt;rw[ev]at O;have a1:=I.own;rw[a8]at a1;have aQ:=Ww a1 y;have aR:C[i]? =some (C.getD i undef):=(by rw[Z6,Z7 (by rw[aq];exact y)];rfl);rw[aR,ev]at aQ;obtain⟨a9,bI⟩:=aQ;have av:¬h=G:=fun e=>X8 a1 ar Z5 h rfl e;have aT:∀q,(Value.slice (some ⟨h,0,none⟩) d H).ownBlock=some q→G≠q:=fun q P e=>av (by injection P with P;exact P.trans e.symm);have bJ:h<wr:=block_lt_of_cell a9;obtain⟨bb,bo,z,E,eb,cB,aw,bK,cC,aU⟩:=(HB.below (a0.mono aG)).get y;rw[ap]at aU aw bK;subst eb;have bL:=Z aT;have aV:=Z ev;have cD:s≤E:=Y;have cE:s≤64∧n≤64:=Y;have bM:=Z ao;have bO:=Z ap;have aW:=Z a8;have b0:=Z aq;clear aP aT aR ev ar ao ap a8 aq;clear bG;go_wp2_with fail;refine oS [10,12] (fun wx=>wx.cell? ⟨h,i,none⟩=some (.slice (some ⟨G,0,none⟩) n ci)∧wx.cell? ⟨bb,bo+i,none⟩=some (.slice z s E)) [0,1,2,3,4,5,6,7,8,9,10,11,12] (⟨a9,aw⟩) fun hS=>?_;refine oF ?_;refine oF ?_;(iterate 8 refine oV ?_);refine oM 10 fun K hK=>?_;refine Z2x (.tmp 51) (.tmp 55) 32 rfl t 5 i0 (.int .u8 0) 1 1 underlying32 bt bv bw bz rfl Y (.slice (some ⟨G,0,none⟩) n ci) n ((a.getD i []).map Za) (by rfl) (od_ O 1) _ z s E ((b.getD i []).map Za) (by rfl) (aU.drewN 1) (fun u hu=>by obtain⟨x,_,rfl⟩:=ZT.1 hu;rfl) (n+s) rfl _ rfl Y Y an ?_;rintro A6 c6 Q a2 b1 b2;have aa:Only (fun q=>q=G) wr Q:=(by have h1:Only (fun q=>q=G) (wr.drewN 1) Q:=Only.of_grown b1 (fun k e=>by injection e with e;exact e.symm);exact⟨h1.os,h1.tape,h1.output,h1.size,h1.block⟩);rw[←ZV]at a2;have bP:=(Ww (Zu a1 aa (fun q P e2=>bL q P e2.symm)) y).2;have bQ:=(Z3S aa (g:=h) (o:=i) bJ av).trans a9;have bR:=Z b2;clear b1 b2;refine oL hK ?_;refine oF ?_ (sP 10);refine oM 10 fun K hK=>?_;go_simp;refine oL hK ?_;refine oD ?_;have b3:(a.getD i []++b.getD i []).length=n+s:=(by rw[Zw,bM,bO]);have b4:OB t Q (.slice A6 (n+s) c6) (a.getD i []++b.getD i []):=(by unfold OB;rw[b3];exact a2);have ab:=ZiD (F:=fun q=>q=G) I aW HD y aa (fun k e=>by rw[e,aV];rfl) av b4 (fun j hj bT k R e=>by
    rcases bR.out with e2|e2;·rw[e2]at e;exact Z2N HD (by rw[b0];exact hj) (by rw[b0];exact y) bT k R (by rw[aV];exact e)
    ·rw[e2]at e;injection e with e;have h9:=(ZC (I.at_ j (by rw[aW];exact hj)) k R).2;rw[←e]at h9;exact absurd h9 (Nat.lt_irrefl _))
   rw[←Zee a b i (by rw[D];exact y)]at ab;have b5:=ab.1;have bU:=ab.2;have bV:t≤G:=bH;have bW:t≤h:=(ZC a1 h rfl).1;have b6:=(a0.trans (aa.below (B:=t) (fun q e=>by subst e;exact bV) an)).setCell (p:=(⟨h,i,none⟩:U3)) bW (.slice A6 (n+s) c6);clear ab b4 b3;generalize Q.setCell (h,i) (.slice A6 (n+s) c6)=w7 at b5 b6 ⊢;clear a9 aw bI bP bQ;go_wp2;go_roundw;·exact⟨i+1,_,Y,Zg,b5,bU,b6⟩
   ·exact Zh
  ·have ax:i=d:=Y;subst ax;have W:=I.out;rw[show Z0Q a b i=YK a b by rw[←D];exact ZfE a b]at W;have J:(YK a b).length=i:=(by rw[Z0U,D]);have b9:Wd (n+s) (YK a b):=Z4d (Z3J N) (Z3J aj) (by rw[D,aL]);obtain⟨cF,e',ba⟩:=Z7v (m:=n+s) W HD J ah b9;injection e' with e';injection e' with e' _ _;subst e';have c0:=HF.below a0 ai;clear W b9 J;go_wp2_with fail;refine(Z9e g _).mono ?_;rintro e w3 ⟨rfl,rfl⟩;go_wp2_with fail;refine(Z8h g h i H (n+s) n t C (YK a b) _ c0 ai ba an a6 Y bs Y).mono ?_;rintro e f ⟨rfl,cG,a3,bc⟩;have bd:(Yh n (YK a b)).1≤(YK a b).length:=(Z2A n (YK a b)).2;rw[HR]at bd ⊢;rw[Z0U,D]at bd;obtain⟨r,M⟩:=Zb ((Yh n (YK a b)).2);have ay:=HZ.out;rw[M]at a3 ay;have c1:=Z M;have ac:=a3.o.own;rw[a3.l]at ac;have c2:=(ZC ac h rfl);replace ac:=Z1k ac;have c3:=Z ay;have be:=a0.trans bc;have bf:t≤f:=YU be.size aM.out;have bg:0<n+s:=Y;clear M ay bc ba I HD a7 al;go_upto_region 13 with fail;go_cut [69,70,71] (fun c4 c5 cc wx=>∃(A9:X_) (c9:Nat),c4=.slice A9 (i-n) c9∧c5=.int .i64 ((i-n:Nat):Int)∧cc=.int .i64 0∧Hid (∀k,k<i-n→∃b o z E,A9=some ⟨b,o,none⟩∧f.cell? (b,o+k)=some (.slice z (n+s) E)∧Sl f f 1 z (n+s) ((r.getD (n+k) []).map Za))∧f=wx)
   ·have cH:n≤i:=Y;have bh:H≠n→∀k,k<i-n→∃b o z E,some (⟨h,n,none⟩:U3)=some ⟨b,o,none⟩∧f.cell? (b,o+k)=some (.slice z (n+s) E)∧Sl f f 1 z (n+s) ((r.getD (n+k) []).map Za):=fun _ k R=>by obtain⟨q,L,_,_,_,_,_,ad,J,_⟩:=a3.row bg (show n+k<i from Y);exact⟨h,n,_,L,rfl,J,Sl.own ad⟩
    have ae:=Z bh;have bi:(i:Int)-n=((i-n:Nat):Int):=Y;clear bh;by_cases bj:H=n;·have cI:i-n=0:=Y;have ax:i=n:=Y;subst bj;subst ax;go_wp2;go_meet;exact⟨_,_,by rw[W9],by rw[W9];rfl,rfl,Z (fun k R=>absurd R Y),rfl⟩
    ·have cJ:=Z bi;clear bi;go_wp2;go_meet;exact⟨some ⟨h,n,none⟩,_,by rfl,by rfl,rfl,Z (ae bj),rfl⟩
   ·obtain⟨A9,c9,rfl,rfl,rfl,cd,rfl⟩:=hcut;have cK:n≤i:=Y;go_wp2;go_loop [71] (fun q=>∃k:Nat,k≤i-n∧q=.int .i64 (k:Int)) (fun q=>(i-n)-(intOf q).toNat)
    ·exact⟨0,Y,rfl⟩
    ·obtain⟨k,R,rfl⟩:=hrel;by_cases ce:k<i-n
     ·have cL:(k:Int)<((i-n:Nat):Int):=Y;obtain⟨bx,ox,z,E,e9,cx,SX⟩:=cd k ce;have bk:∀j,j<n+s→(r.getD (n+k) []).getD j 0=0:=fun j hj=>c3 (n+k) Y Y j hj;subst e9;have cf:=Z bk;clear bk;go_wp2_with fail;refine(Zh0 f z (n+s) E (r.getD (n+k) []) _ SX cf Y).mono ?_;rintro e w5 ⟨rfl,rfl⟩;go_wp2;go_round;·exact⟨k+1,Y,Zg⟩
      ·exact Zh
     ·have cg:k=i-n:=Y;subst cg;have cM:n≤H:=Y;have cN:(n:Int)≤(i:Int):=Y;have cO:(H:Int)≤9223372036854775807:=Y;go_wp2;go_loopw [14,83] (fun v q wr=>∃(k:Nat) (af:Z_) (S:X_) (T:Nat),k≤n∧q=.int .i64 (k:Int)∧v=.slice S k T∧Hid (Zq f wr (.slice S k T) af ((VJ n (YK a b)).take k))∧Hid (Below f f wr)) (fun _ q _=>n-(intOf q).toNat)
      ·exact⟨0, [],none,0,Y,rfl,rfl,Z (Zq.nil_ _ _),Z (Z8 _ _)⟩
      ·obtain⟨k,af,S,T,cP,rfl,rfl,bl,a4⟩:=hrel;by_cases ch:k<n
       ·have cQ:(k:Int)<(n:Int):=Y;obtain⟨q,L,cj,cR,P,ck,cS,ad,J,_⟩:=a3.row bg (show k<i from Y);have cT:wr.cell? (h,k)=some (.slice (some ⟨q,0,none⟩) (n+s) L):=(a4.cell (p:=(h,k)) c2.2).trans J;have az:Sl f f 1 (some ⟨q,0,none⟩) (n+s) ((r.getD k []).map Za):=Sl.own ad;have aB:=az.cut (k:=n) (m:=n+s) (c:=L) Y (Z4 _) ck;rw[if_neg (show ¬L=n from Y),Wy,Wy,Z2l,ZP (by have:=az.len;rw[Z0r];omega),←List.map_drop]at aB;have bm:Sl wr f 1 (some ⟨q,n,none⟩) s (((r.getD k []).drop n).map Za):=(by have:=aB.below a4;simp only[Z0p,addr_add,Wz]at this;exact this);have cU:¬L=n:=Y;have cV:(n:Int)≤((n:Int)+s):=Y;have cW:n+s-n=s:=Y;have bn:((r.getD k []).drop n).length=s:=(by have:=bm.len;simpa using this);have cl:=Z bn;clear bn;have aC:f.heap.size≤wr.heap.size:=a4.size;clear az aB ad J cj;go_wp2_with fail;refine(Z0A f (some ⟨q,n,none⟩) ((r.getD k []).drop n) s (L-n) _ bm aC Y).mono ?_;rintro e Q ⟨v6,rfl,bp,ag⟩;have d0:=ag.size;have aD:((VJ n (YK a b)).take k).length=k:=(by rw[ZK,Z1E];omega);have a2:=bl.below ag;have aE:=a2.own;rw[aD]at aE;have cm:=Z aD;have cn:=a4.trans (ag.mono aC);have co:f.heap.size≤Q.heap.size:=Y;obtain⟨d1,d2,bq,_⟩:=Y8 bp;rw[cl]at bq;subst bq;clear ag aD;go_wp2_with (at_builtin;go_must (refine Y5 rfl (.tmp 87) (.tmp 92) 106 rfl f 32 i1 (.slice none 0 0) 1 24 underlying106 bB bC bD bE rfl Y (.slice S k T) k af rfl (aE.alloc _) _ _ 1 1 _ rfl (Sl.fresh _ _ _ _ 1 rfl) (by simp[Value.oneCell']) (k+1) rfl _ rfl Y Y Zx ?_);intro A7 c7 w7 o7 g7 h7)
        clear h7;have b7:Below f f w7:=Y9 (cn.alloc co _) (aE.alloc _) g7 (Z4 _) Zx;have cp:=(a2.below ((Z8 _ _).alloc (Z4 _) _)).push (x:=(r.getD k []).drop n) (OB.below (base:=f) (ZA bp aC) ((Z8 _ _).alloc (Z4 _) _)) (by rw[cm];exact o7) g7;go_roundw;·exact⟨k+1,_,A7,c7,Y,Zg,rfl,Z (by rw[Zeg n _ k ch,c1];exact cp),Z b7⟩
        ·exact Zh
       ·have cq:k=n:=Y;have ae:=bl.out;rw[ZP (by rw[Z1E];omega)]at ae;have cr:=be.trans (a4.mono bf);subst cq;go_wp2_with fail;refine bodyPost_ret (v:= .tuple #[.slice S k T,.int .i64 0]) (by simp[results,results198,go_sem]) rfl ⟨S,T,af,rfl,ae.base bf,cr⟩
def blk (w:Nat) (b:Y_) (i:Nat):Y_:=(b.drop (i*w)).take w++List.replicate (w-((b.drop (i*w)).take w).length) 0#8
theorem Z2s (w:Nat)(b:Y_)(i:Nat):(blk w b i).length=w:=by unfold blk;simp;omega
def blocks (p:Zf) (b:Y_):Z0:=(List.range (countP p b.length).toNat).map (blk p.size.toNat b)
theorem Zc_ (w:Nat)(b:Y_)(i:Nat):splice (List.replicate w (Value.int .u8 0)) 0 (((b.drop (i*w)).map Za).take w)=(blk w b i).map Za:=by unfold splice blk;rw[←Z1M];have a:((b.drop (i*w)).take w).length≤w:=Zx;generalize (b.drop (i*w)).take w=x at*;simp[Za]
theorem Zjs (l:Y_)(a:n=k)(b:i=m*k):splice (List.replicate k (Value.int .u8 0)) 0 (((l.drop i).map Za).take k)=(blk n l m).map Za:=by subst a b;exact Zc_ _ _ _
theorem Zj7 {g r s k z:Nat}{l:Y_}{w:U1}(a:s=z)(h:Row w r 5 ((blk s l k).map Za))(b:g≤r)(c:z≤384):OB g w (r,z,z) (blk s l k):=by subst a;have:=h.own (base:=g) (size:=1) (n:=s) (cap:=s) b (Z4 _) (by unfold maxLen;omega) (by simp[Z2s]);rw[Wy,ZP (by simp[Z2s])]at this;unfold OB;rw[Z2s];exact this
theorem Zco {wr:U1}(h:Below wr wr w)(b:w.grownBy v (some n))(c:wr.heap.size≤n):Below wr wr v:=
 h.grown b h.size (fun k a=>by injection a with a;omega)
theorem Zfm (p:Zf)(B:Nat)(A:X_)(n c:Nat)(l:Y_)(w:U1)(h:Sl w B 1 A n (l.map Za))(M:B≤w)(hn:n≤1048576)(hc:n≤c):
  Calls prog 136 #[p.val,(A,n,c)] w fun e N=>∃v b,e=.returned v∧Zq w N v b (blocks p l)∧Below w w N:=by
 have O:=Z (show l.length=n by have:=h.len;simpa using this);obtain⟨i0,P,a5,Q,a6⟩:=info_parts WP;obtain⟨i1,a7,a8,a9,aa⟩:=info_parts Z02;have ab:(prog.info? 5).map (·.size)=some 1:=by rw[P];simp[Q]
 obtain⟨m,R⟩:∃m:Nat,countP p n=(m:Int):=⟨(countP p n).toNat,Zc ((Z3m p n).1)⟩;have ai:m≤n:=Zc ((Z3m p n).2 Y);have d:=Z R;clear R;have T:p.val=.agg #[p.K,p.H,p.S]:=rfl;rw[T];clear T;go_enter func136,ntmps136;go_wp2_with fail;refine(Z3X p n m _ Y d).mono ?_;rintro e f ⟨rfl,x⟩;have U:=(Ye.new w p 25).keep x Ze;have y:Below w w f:=((Z8 _ _).alloc (Z4 _) _).trans (x.mono Ze);go_wp2_with fail;have V:=U.lt;clear x;generalize hg:w.heap.size=g at*;have W:=Z hg;clear hg;obtain⟨G,hG⟩:=WI f.heap.size;have g1:g≤G:=Y;have s1:G≤f:=Y;have V:g<G:=Y;have GG:=Z hG;clear hG;go_loopw [5,12] (fun v i wr=>∃(k:Nat) (b:Z_) (s:X_) (t:Nat),k≤m∧i=.int .i64 k∧v=.slice s k t∧Zq G wr (s,k,t) b ((List.range k).map (blk p.size.toNat l))∧Below G f wr) (fun _ i _=>m-(intOf i).toNat)
 ·exact⟨0, [],none,0,Y,rfl,rfl,Zq.nil_ _ _,Z8 _ _⟩
 ·obtain⟨k,b,s,t,hk,rfl,rfl,ho,a⟩:=hrel;have a0:=Z (show((List.range k).map (blk p.size.toNat l)).length=k from Ze);by_cases aj:k<m
  ·have C:p.may=true:=by
    by_cases hh:p.may=true;·exact hh
    ·have:=d.out;rw[Z3j (fun h=>hh h.1)]at this;omega
   have D:=Zf.may_ok C;have ac:=Zf.size_le D;obtain⟨z,E⟩:∃z:Nat,p.size=(z:Int):=⟨p.size.toNat,Y⟩;have ak:1≤z:=Y;have al:z≤384:=Y;have am:0<n:=by
    rcases VG n with F|F;·have:=d.out;rw[F]at this;rw[Z3j Ze]at this;omega
    ·exact F
   obtain⟨q,hq⟩:∃q:Nat,(k:Int)*z=(q:Int):=⟨k*z,Ze⟩;have an:q<n:=(by have h1:=d.out;rw[Z4F C Y,E]at h1;have h2:(k:Int)≤((n:Int)-1) / (z:Int):=Y;have h3:(k:Int)*z≤((n:Int)-1) / (z:Int)*(z:Int):=Int.mul_le_mul_of_nonneg_right h2 Y;have h4:=Int.ediv_mul_le ((n:Int)-1) (show(z:Int)≠0 from Y);omega);have a1:q=k*z:=(by have:((k*z:Nat):Int)=(q:Int):=(by rw[Z3E];exact hq);omega);have HZ:=Z E;have HQ:=Z a1;have a2:=Z (show p.size.toNat=z from Y);clear ac C E a1;have ad:¬c=q:=Y;have ao:=h.below (y.mono M);have pr:=U.keep a V;obtain⟨r0,r1,r2⟩:=pr;go_wp2_with fail;refine(Z44 p z _ D HZ).mono ?_;rintro e w2 ⟨rfl,j⟩;have p2:=Ye.keep ⟨r0,r1,r2⟩ j (Zc a.size);clear r0 r1 r2;go_wp2_with (at_make;refine Z0E _ rfl (.tmp 16) (.tmp 16) 32 rfl 5 i0 (.int .u8 0) 1 underlying32 P a5 Q a6 rfl .i64 .i64 _ _ z z rfl rfl rfl rfl Y Y Y ?_;intro w3 I J s3;obtain⟨d0,d1,d2⟩:=p2.keep J p2.lt)
   refine(Z44 p z _ D HZ).mono ?_;rintro e w4 ⟨rfl,a3⟩;have b4:Below wr wr w4:=(j.trans (J.mono j.size)).trans (a3.mono (Zj j.size J.size));have x4:=I.below a3 I.lt;generalize hr:w2.heap.size=r at*;have ae:wr.heap.size≤r:=Zc j.size;have HR:=Z hr;clear hr I;have sx:Sl w4 G 1 (A.map (·.add q)) (n-q) ((l.drop q).map Za):=(by have:=((h.below (y.mono M)).mono (by omega:B≤G)).below (a.trans (b4.mono (Zc a.size)));have:=this.cut (k:=q) (m:=n) (c:=c) Y Y hc;rw[if_neg ad,Wy,Wy,←List.map_drop,←Z1M,ZP (by rw[Z0r,O];omega)]at this;exact this);go_wp2_with (first
    | ((with_reducible show wpList _ _ _ (⟨some 25,_,_,_,_,_⟩::_) _ _);go_must (refine Z6E rfl (.tmp 18) (.tmp 24) 32 32 rfl 5 underlying32 ab _ _ z z (n-q) (c-q) rfl rfl r 0 _ 5 x4 G _ sx (fun _=>rfl) Zx (Z2B _) ?_);intro w5 x5 g5;rw[Zjs l a2 HQ]at x5;have ob:=Zj7 (g:=G) a2 x5 (Zc a.size) Y;have o:=Zco b4 g5 ae;have a4:=ho.below o;have L:=a4.own;rw[a0]at L)
    | (at_builtin;go_must (refine Y5 rfl (.tmp 26) (.tmp 28) 106 rfl G 32 i1 () 1 24 underlying106 a7 a8 a9 aa rfl Y (s,k,t) k b rfl (L.alloc _) _ _ 1 1 _ rfl (Sl.fresh _ _ _ _ 1 rfl) (by simp[Value.oneCell']) (k+1) rfl _ rfl Y Y (by have:=o.size;have:=a.size;simp;omega) ?_);intro A6 c6 w6 o6 g6 _))
   have b6:Below G f w6:=Y9 ((a.trans (o.mono (Zc a.size))).alloc (YU a.size o.size) _) (L.alloc _) g6 (Z4 _) (by have:=a.size;have:=o.size;simp;omega);have af:=(a4.below ((Z8 _ _).alloc (Z4 _) _)).push (ob.below ((Z8 _ _).alloc (Z4 _) _)) (by rw[a0];exact o6) g6;go_roundw;·exact⟨k+1,_,A6,c6,Y,Zg,rfl,by rw[Wp,ZV];exact af,b6⟩
   ·exact Zh
  ·have ag:m=k:=Y;subst ag;go_wp2;go_ret;refine⟨_,b,rfl,?_,?_⟩;·have ah:blocks p l=(List.range m).map (blk p.size.toNat l):=(by unfold blocks;rw[O,d];simp);rw[ah,W];exact ho.base g1
   ·rw[W];exact y.trans (a.mono g1)
def en1 (x:(Nat×Int)):Z_:= [.int .i64 (x.1:Int),.int .i64 x.2]
def Z7C (x:(Nat×Int)):U2:= .agg #[.int .i64 (x.1:Int),.int .i64 x.2]
theorem Z6O (x:(Nat×Int)):(en1 x).length=2:=rfl
theorem ZeW (g n c:Nat)(a:List (Nat×Int))(p:(Nat×Int)→Bool)(f:Nat)(A:Array U2)(o:Z_)(w:U1)(R:∀B w,(callFunc f B).run prog w=.ok (.enter f B) w)
  (H:Row w g 354 o) (I:o.take (n*2)=a.flatMap en1) (J:a.length=n) (S:n≤100000)
  (L:∀x∈a,∀d,Below w w d→Calls prog f (#[Z7C x]++A) d fun e M=>e=.returned (.bool (p x))∧Below d d M):
  Calls prog 333 #[(g,n,c),.func (.func f) #[] A] w fun e d=>((∃k:Nat,e=.returned (k:Int)∧k<n∧p (a.getD k default)=true∧∀j,j<k→p (a.getD j default)=false)∨(e=.returned (.int .i64 (-1))∧∀j,j<n→p (a.getD j default)=false))∧Below w w d:=by
 have N:=Z L;have C:=H;have l:∀j,j<n→∀t,t<2→o[j*2+t]? =(en1 (a.getD j default))[t]? :=fun j q t O=>by have m:=WW (enc:=en1) (K:=2) (fun _=>rfl) a j t Y O;rw[←I,VW Y]at m;exact m
 have P:=Z l;have Q:=Z J;go_enter func333,ntmps333;go_wp2;go_loopw [5,8] (fun _ i wr=>∃k:Nat,k≤n∧i=.int .i64 (k:Int)∧Hid (∀j,j<k→p (a.getD j default)=false)∧Hid (Below w w wr)) (fun _ i _=>n-(intOf i).toNat)
 ·exact⟨0,ZY _,rfl,Z (fun j q=>absurd q Y),Z (Z8 _ _)⟩
 ·obtain⟨k,T,rfl,r,h⟩:=hrel;by_cases s:k<n
  ·have U:(k:Int)<(n:Int):=Y;have D:=C.below h C.lt;have l:=P k s;obtain⟨x,v⟩:=Zb (a.getD k default);rw[v]at l;have V:wr.cell? (g,k*2)=some (.int .i64 (x.1:Int)):=(by rw[D.cell];exact by have:=l 0 Y;rwa [XV]at this);have W:wr.cell? (g,k*2+1)=some (.int .i64 x.2):=(by rw[D.cell];exact l 1 Y);have y:=N x (by rw[←v,Z6,Z7 (Q ▸ s)];exact Zp _) wr h;obtain⟨b,E⟩:=Zb (p x);rw[E]at y;have F:=Z v;have G:=Z E;cases b with
   |true=>
    go_wp2_with (go_at_fn f;go_must (refine(y).mono ?_);rintro e d ⟨rfl,z⟩)
    go_ret;exact⟨.inl ⟨k,rfl,s,by rw[F];exact G,r⟩,h.trans (z.mono h.size)⟩
   |false=>
    go_wp2_with (go_at_fn f;go_must (refine(y).mono ?_);rintro e d ⟨rfl,z⟩)
    go_roundw
    ·exact⟨k+1,Y,Zg,Z (fun j q=>by
     rcases Yf j k with m|m;·exact r j m
     ·have:j=k:=Y;rw[this,F];exact G),Z (h.trans (z.mono h.size))⟩
    ·exact Zh
  ·obtain rfl:k=n:=Y;go_wp2;go_ret;exact⟨.inr ⟨rfl,r⟩,h⟩
structure DlS (w0 wr:World) (g n:Nat) (xs:List (Nat×Int)) (q:(Nat×Int)→Bool) (cs:List Value) (i j:Nat) (cs':List Value):Prop where
 row:Row wr g 354 cs'
 len:cs'.length=cs.length
 cnt:((xs.take j).filter q).length=i
 tk:cs'.take (i*2)=((xs.take j).filter q).flatMap en1
 dr:cs'.drop (j*2)=cs.drop (j*2)
 on:Only (fun k=>k=g) w0 wr
theorem DlS.keep {wr:U1}{g:Nat}{b:List (Nat×Int)}{q:(Nat×Int)→Bool}(h:DlS w wr g n b q l m k L)(c:Below wr wr v):DlS w v g n b q l m k L:=
 ⟨h.row.below c h.row.lt,h.len,h.cnt,h.tk,h.dr,h.on.trans (Only.of_new (F:=fun a=>a=g) c) (fun _ _ e=>e)⟩
theorem DlS.skip {wr:U1}{a:List (Nat×Int)}{q:(Nat×Int)→Bool}(h:DlS w wr n m a q l k i L)(b:i<a.length)(c:q (a.getD i default)=false):DlS w wr n m a q l k (i+1) L:=by
 have e:(a.take (i+1)).filter q=(a.take i).filter q:=by rw[Z39 q a i b,c];simp
 refine⟨h.row,h.len,by rw[e];exact h.cnt,by rw[e];exact h.tk,?_,h.on⟩;rw[X9,←V4,←V4,h.dr]
theorem DlS.put {wr:U1}{i j:Nat}{a:List (Nat×Int)}{q:(Nat×Int)→Bool}(h:DlS w wr n m a q l i j L)(c:j<a.length)(d:q (a.getD j default)=true)(o:i≤j)(p:a.length*2≤l.length)(f:Row v n 354 (WB L (i*2) (en1 (a.getD j default))))(g:Only (fun k=>k=n) w v):DlS w v n m a q l (i+1) (j+1) (WB L (i*2) (en1 (a.getD j default))):=by
 have e:(a.take (j+1)).filter q=(a.take j).filter q++ [a.getD j default]:=by rw[Z39 q a j c,d];simp
 refine⟨f,by rw[Z2C];exact h.len,by rw[e,Zw,h.cnt];rfl,?_,?_,g⟩;·have b:=Z5u (en1 (a.getD j default)) L (i*2) (by rw[Z6O,h.len];omega);rw[Z6O]at b;rw[X9,b,h.tk,e,Vr];simp
 ·rw[Z4O _ _ _ _ (by rw[Z6O];omega),X9,←V4,←V4,h.dr]
theorem DlS.at_ {wr:U1}{a:List (Nat×Int)}{q:(Nat×Int)→Bool}(h:DlS w wr n m a q l k i L)(t:Nat):L[i*2+t]? =l[i*2+t]? :=by have:=congrArg (fun z=>z[t]?) h.dr;simpa only[Z0o]using this
theorem ZjT:∀w,(zeroValue 354).run prog w=.ok (.agg #[Nat,Nat]) w:=zeroValue354
theorem ZiK (f:Nat)(a:Array U2)(w:U1):Calls prog 333 #[(),.func (.func f) #[] a] w fun e b=>e=.returned (.int .i64 (-1))∧w=b:=by
 go_enter func333,ntmps333;go_wp2;go_loop [5,8] (fun _ i=>i=.int .i64 0) (fun _ _=>0)
 ·rfl
 ·subst hrel;go_wp2;go_ret;exact⟨rfl,rfl⟩
theorem Zj4 (f:Nat)(a:Array U2)(w:U1):Calls prog 277 #[(),.func (.func f) #[] a] w fun e b=>e=.returned ()∧w=b:=by go_enter func277,ntmps277;go_wp2_with fail;refine(ZiK f a w).mono ?_;rintro e b ⟨rfl,rfl⟩;go_wp2;go_ret;exact⟨rfl,rfl⟩
theorem Zdr (Q g n c:Nat)(a:List (Nat×Int))(p:(Nat×Int)→Bool)(f:Nat)(R:Array U2)(w:U1)(eg:∀W w,(callFunc f W).run prog w=.ok (.enter f W) w)
  (ho:w.ownsRow Q 354 2 (g,n,c) n (a.flatMap en1)) (hl:a.length=n) (hn:n≤100000)
  (hp:∀x∈a,∀d,Only (fun k=>k=g) w d→Calls prog f (#[Z7C x]++R) d fun e af=>e=.returned (.bool (p x))∧Below d d af):
  Calls prog 277 #[(g,n,c),.func (.func f) #[] R] w fun e d=>∃m,e=.returned (g,m,c)∧(a.filter fun x=> !p x).length=m∧d.ownsRow Q 354 2 (g,m,c) m ((a.filter fun x=> !p x).flatMap en1)∧Only (fun k=>k=g) w d:=by
 have HO:=ho;rcases ho.2 with ⟨q,_⟩|⟨g',c',a0,q,ag,ah,az,ai,a1,C⟩;·cases q
 injection q with q z S;injection q with q;injection q with q _ _;subst q S;have D:Row w g 354 a0.toList:=by simpa[Row]using ah
 obtain⟨s,a2⟩:=Zb a0.toList;rw[a2]at D C;have A:s.length=c*2:=by rw[←a2];simpa using a1
 have HP:=Z hp;have r:=Z hl;have aj:=Z C;have ak:=ZeW g n c a p f R s w eg D C hl hn (fun x v d E=>hp x v d (Only.of_new E));have B:∀j,j<n→∀t,t<2→s[j*2+t]? =(en1 (a.getD j default))[t]? :=fun j hj t ht=>by have q:=WW (enc:=en1) (K:=2) (fun _=>rfl) a j t Y ht;rw[←C,VW Y]at q;exact q
 have al:=Z B;have am:c≤9223372036854775807:=ai;go_enter func277,ntmps277;go_wp2_with fail;refine ak.mono ?_;rintro e w1 ⟨an,G⟩;rcases an with ⟨o,rfl,ao,a3,H⟩|⟨rfl,H⟩
 ·have aB:=Z a3;have aC:=Z H;have aD:((o:Int)== -1)=false:=beq_eq_false_iff_ne.2 Y;have I:(a.take o).filter (fun x=> !p x)=a.take o:=Z2k.2 (fun x v=>by obtain⟨i,J,rfl⟩:=ZZ v;rw[ZK]at J;have:=H i Y;rw[Z6,Z7 Y]at this;rw[List.getElem_take];simpa using this);have ap:Hid (DlS w w1 g n a (fun x=> !p x) s o (o+1) s):=by have h0:DlS w w1 g n a (fun x=> !p x) s o o s:=(by refine⟨D.below G D.lt,rfl,by rw[I,ZK,r];omega,?_,rfl,Only.of_new G⟩;rw[I];have z:(a.flatMap en1).take (o*2)=(a.take o).flatMap en1:=(by have S:a.flatMap en1=(a.take o).flatMap en1++(a.drop o).flatMap en1:=(by rw[←Vr,Vh]);rw[S,Z1t (by rw[Z28 (K:=2) (fun _=>rfl),ZK,r];rw[Z04 Y];exact Z4 _),ZP (by rw[Z28 (K:=2) (fun _=>rfl),ZK,r];rw[Z04 Y];exact Z4 _)]);rw[←z,←aj,Z3D,Z04 Y]);exact Z (h0.skip (r ▸ ao) (by rw[a3];rfl))
  go_wp2;go_loopw [5,6,7] (fun s5 T _ wr=>∃(i j:Nat) (L:Z_),s5=.int .i64 (i:Int)∧T=.int .i64 (j:Int)∧j≤n∧i<j∧Hid (DlS w wr g n a (fun x=> !p x) s i j L)) (fun _ T _ _=>n-(intOf T).toNat)
  ·exact⟨o,o+1,s,rfl,Zg,Y,Y,ap⟩
  ·obtain⟨i,j,L,rfl,rfl,aE,aF,l⟩:=hrel;by_cases M:j<n
   ·have aG:(j:Int)<(n:Int):=Y;have B:=al j M;obtain⟨x,v⟩:=Zb (a.getD j default);rw[v]at B;have a4:=l.row;have a5:=l.at_;have N:=l.len;have d0:wr.cell? (g,j*2)=some (.int .i64 (x.1:Int)):=(by rw[a4.cell];have:=a5 0;have z:=B 0 Y;rw[←this]at z;rwa [XV]at z);have d1:wr.cell? (g,j*2+1)=some (.int .i64 x.2):=(by rw[a4.cell];have:=a5 1;have z:=B 1 Y;rw[←this]at z;exact z);have a6:=HP x (by rw[←v,Z6,Z7 (r ▸ M)];exact Zp _);obtain⟨b,E⟩:=Zb (p x);simp only[E]at a6;have U:=Z v;have a7:=Z E;have a8:=Z a6;have aH:(i:Int)<(n:Int):=Y;cases b with
    |true=>
     go_wp2_with (go_at_fn f;go_must (refine(a8 _ (l.on.trans (Only.of_new (F:=fun k=>k=g) ((Z8 _ _).alloc (Z4 _) _)) (fun _ _ e=>e))).mono ?_);rintro e d ⟨rfl,O⟩;have y:=(l.keep ((Z8 _ _).alloc (Z4 _) _)).keep O)
     go_roundw;·exact⟨i,j+1,L,rfl,Zg,Y,Y,Z (y.skip (r ▸ M) (by rw[U,a7];rfl))⟩
     ·exact Zh
    |false=>
     have aq:=Z N;go_wp2_with (go_at_fn f;go_must (refine(a8 _ (l.on.trans (Only.of_new (F:=fun k=>k=g) ((Z8 _ _).alloc (Z4 _) _)) (fun _ _ e=>e))).mono ?_);rintro e d ⟨rfl,O⟩;have y:=(l.keep ((Z8 _ _).alloc (Z4 _) _)).keep O;have a9:=aq.out;obtain⟨ua,aI⟩:∃u,d.cell? ⟨g,i*2,none⟩=some u:=⟨_,(y.row.cell _).trans (Z7 (by rw[a9,A];omega))⟩;have aJ:=y.row.frozen (i*2);obtain⟨ub,aK⟩:∃u,d.cell? ⟨g,i*2+1,none⟩=some u:=⟨_,(y.row.cell _).trans (Z7 (by rw[a9,A];omega))⟩;have aL:=y.row.frozen (i*2+1);have aa:=(Row.new wr 354 #[(x.1:Int),.int .i64 x.2]).below O Ze;have aM:=Z9 aa 0;have aO:=Z9 aa 1)
     have ar:Row ((d.setCell (g,i*2) (x.1:Int)).setCell (g,i*2+1) (.int .i64 x.2)) g 354 (WB L (i*2) (en1 (a.getD j default))):=(by rw[U];exact((y.row).set (i*2) (x.1:Int)).set (i*2+1) (.int .i64 x.2));have av:Only (fun k=>k=g) w ((d.setCell (g,i*2) (x.1:Int)).setCell (g,i*2+1) (.int .i64 x.2)):=((y.on).set rfl (i*2) (x.1:Int)).set rfl (i*2+1) (.int .i64 x.2);have aw:=y.put (r ▸ M) (by rw[U,a7];rfl) Y (by rw[r,A];omega) ar av;go_roundw;·exact⟨i+1,j+1,_,Zg,Zg,Y,Y,aw⟩
     ·exact Zh
   ·obtain rfl:j=n:=Y;have N:=l.len;have a1:∀V,(Builtin.clear_ #[283] V #[.slice (some ⟨g,i*2,none⟩) (j-i) (c-i)]).run prog wr=.ok (.tuple #[]) (wr.setCells g (i*2) ((List.replicate (j-i) ()).flatMap fun _=>en1 ((0:Nat),(0:Int)))):=fun V=>by refine Z5Z (P:=prog) 2 Y wr 283 354 V _ _ underlying283 ZjT rfl rfl (by simp[en1,Value.oneCell']) g (i*2) (j-i) (c-i) Y (fun t ht=>?_);have ab:=l.row.cell (i*2+t);rw[Z7 (by rw[N,A];omega)]at ab;exact⟨by rw[ab];rfl,l.row.frozen _⟩
    have ax:=Row.setCells (w:=w) (((List.replicate (j-i) ()).flatMap fun _=>en1 ((0:Nat),(0:Int)))) _ (i*2) _ l.row;have ay:=Only.setCells (F:=fun k=>k=g) rfl (((List.replicate (j-i) ()).flatMap fun _=>en1 ((0:Nat),(0:Int)))) (i*2) _ l.on;have aP:¬c=i:=Y;have aQ:(i:Int)≤(j:Int):=Y;have aR:(i:Int)≤(c:Int):=Y;have aT:(j:Int)≤(c:Int):=Y;go_wp2;go_ret;have ac:(a.take j).filter (fun x=> !p x)=a.filter fun x=> !p x:=(by rw[ZP (by rw[r];exact Z4 _)]);have ad:=Row.own (base:=Q) (size:=2) (n:=i) (cap:=c) ax ag Y am (by rw[Z2C,N,A]);rw[Z4V _ _ _ _ Y,l.tk,ac]at ad;exact⟨i,rfl,by rw[←ac];exact l.cnt,ad,ay⟩
 ·have I:a.filter (fun x=> !p x)=a:=Z2k.2 (fun x v=>by obtain⟨i,J,rfl⟩:=ZZ v;have:=H i (r ▸ J);rw[Z6,Z7 J]at this;simpa using this);have ae:=Z I;go_wp2;go_ret;refine⟨n,rfl,by rw[ae];exact r,?_,Only.of_new G⟩;rw[ae];exact Zu HO (Only.of_new (F:=fun _=>False) G) (fun _ _ h=>h)
section
open Go.Shelf
def Zcs:Go.Shelf.Ren:=⟨fun|6=>204|15=>103|14=>260|28=>174|29=>175|20=>317|21=>318|22=>319|23=>320|24=>321|25=>322|26=>323|27=>324|46=>351|47=>234|48=>235|49=>352|50=>353|57=>365|n=>n,fun|22=>264|24=>269|25=>273|3=>3|39=>164|0=>0|53=>33|55=>236|4=>4|46=>229|45=>228|50=>195|5=>5|9=>9|66=>305|70=>309|76=>369|77=>370|n=>n,fun|n=>n⟩
theorem Zig:Go.Proofs.SlLaysF0.n6 prog Zcs:={
 mixed:=Zi
 f6:=⟨f204.name,Z5,func204.trans (congrArg some Zi)⟩
 f14:=⟨f260.name,Z5,func260.trans (congrArg some Zi)⟩
 f15:=func103.trans (congrArg some Zi)
 f20:=⟨f317.name,Z5,func317.trans (congrArg some Zi)⟩
 f21:=⟨f318.name,Z5,func318.trans (congrArg some Zi)⟩
 f22:=⟨f319.name,Z5,func319.trans (congrArg some Zi)⟩
 f23:=⟨f320.name,Z5,func320.trans (congrArg some Zi)⟩
 f24:=⟨f321.name,Z5,func321.trans (congrArg some Zi)⟩
 f25:=⟨f322.name,Z5,func322.trans (congrArg some Zi)⟩
 f26:=⟨f323.name,Z5,func323.trans (congrArg some Zi)⟩
 f27:=⟨f324.name,Z5,func324.trans (congrArg some Zi)⟩
 f28:=func174.trans (congrArg some Zi)
 f29:=func175.trans (congrArg some Zi)
 f46:=⟨f351.name,Z5,func351.trans (congrArg some Zi)⟩
 f47:=func234.trans (congrArg some Zi)
 f48:=func235.trans (congrArg some Zi)
 f49:=⟨f352.name,Z5,func352.trans (congrArg some Zi)⟩
 f50:=⟨f353.name,Z5,func353.trans (congrArg some Zi)⟩
 f57:=⟨f365.name,Z5,func365.trans (congrArg some Zi)⟩
 t0:=underlying0
 a0:=isAgg0
 z0:=sizeOf0
 v0:=zeroValue0
 t3:=underlying3
 a3:=isAgg3
 z3:=sizeOf3
 v3:=zeroValue3
 t4:=underlying4
 a4:=isAgg4
 z4:=sizeOf4
 v4:=zeroValue4
 t5:=underlying5
 a5:=isAgg5
 z5:=sizeOf5
 v5:=zeroValue5
 t9:=underlying9
 a9:=isAgg9
 z9:=sizeOf9
 v9:=zeroValue9
 t22:=underlying264
 a22:=isAgg264
 z22:=sizeOf264
 v22:=zeroValue264
 t25:=underlying273
 a25:=isAgg273
 z25:=sizeOf273
 v25:=zeroValue273
 t39:=underlying164
 a39:=isAgg164
 z39:=sizeOf164
 v39:=zeroValue164
 t45:=underlying228
 a45:=isAgg228
 z45:=sizeOf228
 v45:=zeroValue228
 t46:=underlying229
 a46:=isAgg229
 z46:=sizeOf229
 v46:=zeroValue229
 t50:=underlying195
 a50:=isAgg195
 z50:=sizeOf195
 v50:=zeroValue195
 t53:=underlying33
 a53:=isAgg33
 z53:=sizeOf33
 v53:=zeroValue33
 t55:=underlying236
 a55:=isAgg236
 z55:=sizeOf236
 v55:=zeroValue236
 t66:=underlying305
 a66:=isAgg305
 z66:=sizeOf305
 v66:=zeroValue305
 t70:=underlying309
 a70:=isAgg309
 z70:=sizeOf309
 v70:=zeroValue309
 t76:=underlying369
 a76:=isAgg369
 z76:=sizeOf369
 v76:=zeroValue369
 t77:=underlying370
 a77:=isAgg370
 z77:=sizeOf370
 v77:=zeroValue370}
def Zc7:Go.Shelf.Ren:=⟨fun|6=>142|15=>103|14=>211|28=>174|29=>175|20=>262|21=>263|22=>264|23=>265|24=>266|25=>267|26=>268|27=>269|46=>325|47=>234|48=>235|49=>326|50=>327|57=>354|n=>n,fun|22=>73|24=>116|25=>205|3=>3|39=>164|0=>0|53=>33|55=>236|4=>4|46=>229|45=>228|50=>195|5=>5|9=>9|66=>305|70=>309|76=>369|77=>370|n=>n,fun|n=>n⟩
theorem Zj5:Go.Proofs.SlLaysF0.n6 prog Zc7:={
 mixed:=Zi
 f6:=⟨f142.name,Z5,func142.trans (congrArg some Zi)⟩
 f14:=⟨f211.name,Z5,func211.trans (congrArg some Zi)⟩
 f15:=func103.trans (congrArg some Zi)
 f20:=⟨f262.name,Z5,func262.trans (congrArg some Zi)⟩
 f21:=⟨f263.name,Z5,func263.trans (congrArg some Zi)⟩
 f22:=⟨f264.name,Z5,func264.trans (congrArg some Zi)⟩
 f23:=⟨f265.name,Z5,func265.trans (congrArg some Zi)⟩
 f24:=⟨f266.name,Z5,func266.trans (congrArg some Zi)⟩
 f25:=⟨f267.name,Z5,func267.trans (congrArg some Zi)⟩
 f26:=⟨f268.name,Z5,func268.trans (congrArg some Zi)⟩
 f27:=⟨f269.name,Z5,func269.trans (congrArg some Zi)⟩
 f28:=func174.trans (congrArg some Zi)
 f29:=func175.trans (congrArg some Zi)
 f46:=⟨f325.name,Z5,func325.trans (congrArg some Zi)⟩
 f47:=func234.trans (congrArg some Zi)
 f48:=func235.trans (congrArg some Zi)
 f49:=⟨f326.name,Z5,func326.trans (congrArg some Zi)⟩
 f50:=⟨f327.name,Z5,func327.trans (congrArg some Zi)⟩
 f57:=⟨f354.name,Z5,func354.trans (congrArg some Zi)⟩
 t0:=underlying0
 a0:=isAgg0
 z0:=sizeOf0
 v0:=zeroValue0
 t3:=underlying3
 a3:=isAgg3
 z3:=sizeOf3
 v3:=zeroValue3
 t4:=underlying4
 a4:=isAgg4
 z4:=sizeOf4
 v4:=zeroValue4
 t5:=underlying5
 a5:=isAgg5
 z5:=sizeOf5
 v5:=zeroValue5
 t9:=underlying9
 a9:=isAgg9
 z9:=sizeOf9
 v9:=zeroValue9
 t22:=underlying73
 a22:=isAgg73
 z22:=sizeOf73
 v22:=zeroValue73
 t25:=underlying205
 a25:=isAgg205
 z25:=sizeOf205
 v25:=zeroValue205
 t39:=underlying164
 a39:=isAgg164
 z39:=sizeOf164
 v39:=zeroValue164
 t45:=underlying228
 a45:=isAgg228
 z45:=sizeOf228
 v45:=zeroValue228
 t46:=underlying229
 a46:=isAgg229
 z46:=sizeOf229
 v46:=zeroValue229
 t50:=underlying195
 a50:=isAgg195
 z50:=sizeOf195
 v50:=zeroValue195
 t53:=underlying33
 a53:=isAgg33
 z53:=sizeOf33
 v53:=zeroValue33
 t55:=underlying236
 a55:=isAgg236
 z55:=sizeOf236
 v55:=zeroValue236
 t66:=underlying305
 a66:=isAgg305
 z66:=sizeOf305
 v66:=zeroValue305
 t70:=underlying309
 a70:=isAgg309
 z70:=sizeOf309
 v70:=zeroValue309
 t76:=underlying369
 a76:=isAgg369
 z76:=sizeOf369
 v76:=zeroValue369
 t77:=underlying370
 a77:=isAgg370
 z77:=sizeOf370
 v77:=zeroValue370}
