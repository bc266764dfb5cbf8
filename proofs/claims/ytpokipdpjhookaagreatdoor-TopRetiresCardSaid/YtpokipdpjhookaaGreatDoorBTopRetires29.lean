/- StoMem Recs OwnGo EntCmp -/
import Derived.Test.YtpokipdpjhookaaGreatDoorBTopRetires21
import Derived.Test.YtpokipdpjhookaaGreatDoorBTopRetires22
import Derived.Test.YtpokipdpjhookaaGreatDoorBTopRetires23
import Derived.Test.YtpokipdpjhookaaGreatDoorBTopRetires24
set_option maxHeartbeats 8000000
set_option maxRecDepth 20000
set_option linter.all false
namespace Go.Proofs
open Go Go.RowKit Tryz
variable {n m k i:Nat} {w v:World} {x y:Value} {l L:List Value} {t:TypeId} {r:List Byte}
def Wj (G:U0) (w:U1) (p:U1→Prop):Prop:=∀w',Only G w w'→p w'
theorem Wj.now {G:U0}{w:U1}{p:U1→Prop}(h:Wj G w p):p w:=h w (Only.refl _ _)
theorem Wj.at_ {G:U0}{w w':U1}{p:U1→Prop}(h:Wj G w p)(a:Only G w w'):p w':=h w' a
theorem Wj.next {G G':U0}{w w':U1}{p:U1→Prop}(h:Wj G w p)(a:Only G w w')(b:∀k,k<w.heap.size→G' k→G k):Wj G' w' p:=fun c d=>h c (a.trans d b)
theorem Wj.ext {G:U0}{w w':U1}{p:U1→Prop}(h:Wj G w p)(b:Only G w w'):Wj (Ext G w w') w' p:=h.next b fun k c a=>by
 rcases a with a|a;·exact a
 ·omega
theorem Wj.new_ {G:U0}{w w':U1}{p:U1→Prop}(h:Wj G w p)(a:Below w w w'):Wj G w' p:=h.next (Only.of_new a) fun _ _ b=>b
theorem Wj.less {G a:U0}{w:U1}{p:U1→Prop}(h:Wj G w p)(b:∀k,a k→G k):Wj a w p:=h.next (Only.refl _ _) fun k _=>b k
theorem Z3s {a n b:Nat}{w w':U1}{e:TypeId}{v:U2}{c:Z_}{F:U0}(h:w.ownsRow a e b v n c)(d:∀k,F k→k<a)(f:Only F w w'):w'.ownsRow a e b v n c:=
 Zu h f fun k g i=>by have j:=(ZC h k g).1;have l:=d k i;omega
section
theorem XM.far {base:Nat}{w w':U1}{v:U2}{ts:Z_}{a:List Zr}{F:U0}(h:XM base w v ts a)(b:∀k,F k→k<base)(d:Only F w w'):XM base w' v ts a:=
 ⟨Z3s h.own b d,h.tl,fun i f=>by obtain⟨A,c,e,g⟩:=h.at_ i f;exact⟨A,c,e,Z3s g b d⟩⟩
theorem OM.far {base:Nat}{w w':U1}{m:Zd}{Ad Ao:X_}{nd cd no co:Nat}{ts:Z_}{F:U0}(h:OM base w m Ad nd cd Ao no co ts)(a:∀k,F k→k<base)(b:Only F w w'):OM base w' m Ad nd cd Ao no co ts:=
 ⟨Z3s h.d a b,h.dl,h.o.far a b,h.ol⟩
def Z0_ (G:U0) (w:U1) (m:Zd) (Ad:X_) (nd cd:Nat) (Ao:X_) (no co:Nat) (ts:Z_):Prop:=Wj G w fun w'=>RM w' w'.heap.size m Ad nd cd Ao no co ts
theorem OM.stb {a:Nat}{w:U1}{m:Zd}{Ad Ao:X_}{nd cd no co:Nat}{ts:Z_}{G:U0}(h:OM a w m Ad nd cd Ao no co ts)(b:∀k,G k→k<a):Z0_ G w m Ad nd cd Ao no co ts:=fun _ c=>(h.far b c).read
def X3 (gd:Nat→Nat) (fl:Nat→Option Dr) (s:Nat):U2:=match fl s with
 |none=>.pointer none
 |some _=>.pointer (some ⟨gd s,0,none⟩)
def Z3K (gd:Nat→Nat) (fl:Nat→Option Dr):Z_:=(List.range 64).map (X3 gd fl)
def Z0I (m:Zd) (a b:U2) (pg:Nat) (c:Int) (gd:Nat→Nat) (fl:Nat→Option Dr):Z_:= [.int .i64 m.seq,.int .i64 m.next,.int .i64 m.P.K,.int .i64 m.P.H,.int .i64 m.P.S,.int .i64 m.extra,a,b,.pointer (some ⟨pg,0,none⟩),.int .i64 c]++Z3K gd fl
def Zy (gs pg:Nat) (F:Nat→U0) (k:Nat):Prop:=k=gs∨k=pg∨∃s,F s k
structure SM (w:World) (gs pg:Nat) (gd:Nat→Nat) (F:Nat→Nat→Prop) (p:Pw) (fl:Nat→Option Dr) (m:Zd) (Ad:Option Addr) (nd cd:Nat) (Ao:Option Addr) (no co:Nat) (ts:List Value):Prop where
 row:Row w gs 77 (Z0I m (.slice Ad nd cd) (.slice Ao no co) pg p.offs gd fl)
 pow:Row w pg 123 (pw p)
 dr:∀s d,fl s=some d→Yj (fun k=>k=pg∨F s k) w (gd s) pg d∧d.s=p
 np:∀s,¬F s pg∧¬F s gs
 dj:∀s t k,F s k→F t k→s=t
 lt:∀s k,F s k→k<w.heap.size
 mani:Z0_ (Zy gs pg F) w m Ad nd cd Ao no co ts
theorem Yj.shift {F G:U0}{w w':U1}{g pg:Nat}{d:Dr}(h:Yj (fun k=>k=pg∨F k) w g pg d)(c:Only (fun k=>k=pg∨G k) w w')(t:Row w' pg 123 (pw d.s))(y:∀k,F k→¬G k):Yj (fun k=>k=pg∨F k) w' g pg d:=by
 obtain⟨z,A,B,C,h⟩:=h;have D:g≠pg:=h.ne;have n:=h.pow;have p:(32:TypeId)≠123:=Z5;have E:(5:TypeId)≠123:=Z5;have f:∀k,(k=pg∨F k)→k≠pg→¬(k=pg∨G k):=fun k a q i=>by
  rcases a with a|a;·exact q a
  ·rcases i with i|i;·exact q i
   ·exact y k a i
 have r:∀{m:Z_} {v:U2} {o:Z0},Zq 0 w v m o→∀x∈m,∀k,x.ownBlock=some k→k≠pg:=fun {m v o} c x e k a=>by have I:m.length=o.length:=Zc c.own.1;obtain⟨j,H,rfl⟩:=ZZ e;have:=c.at_ j Y;rw[Z6,Z7 H]at this;exact Yb this n E k a
 refine⟨z,A,B,C,⟨h.row.only c (f g h.fg D),t,h.fg,h.fp,fun k a=>YI (h.lt k a) c.size,?_,?_,h.sep,h.dist⟩⟩;·exact⟨h.l.own.only c (fun k a=>f k (h.l.iv k a) (Yb h.l.own.own n p k a)) (fun x e k a=>f k (h.l.is x e k a) (r h.l.own x e k a)),h.l.iv,h.l.is⟩
 ·exact⟨h.b.own.only c (fun k a=>f k (h.b.iv k a) (Yb h.b.own.own n p k a)) (fun x e k a=>f k (h.b.is x e k a) (r h.b.own x e k a)),h.b.iv,h.b.is⟩
theorem Yj.mono_ {F G:U0}{w:U1}{g pg:Nat}{d:Dr}(h:Yj F w g pg d)(a:∀k,F k→G k)(b:∀k,G k→k<w):Yj G w g pg d:=by obtain⟨c,e,f,i,h⟩:=h;exact⟨c,e,f,i,h.more a b⟩
theorem Yj.row_ {F:U0}{w:U1}{g pg:Nat}{d:Dr}(h:Yj F w g pg d):(∃a,Row w g 161 a)∧Row w pg 123 (pw d.s)∧F g:=by obtain⟨b,c,e,f,h⟩:=h;exact⟨⟨_,h.row⟩,h.pow,h.fg⟩
def Yw {α:Type} (f:Nat→α) (s:Nat) (x:α):Nat→α:=fun t=>if t=s then x else f t
theorem YV {α:Type}(f:Nat→α)(s:Nat)(x:α):Yw f s x s=x:=if_pos rfl
theorem YB {α:Type}{f:Nat→α}{s t:Nat}{x:α}(h:t≠s):Yw f s x t=f t:=if_neg h
section
variable {w w':U1} {gs pg:Nat} {gd:Nat→Nat} {F:Nat→U0} {p:Pw} {fl:Nat→Option Dr} {m:Zd} {Ad Ao:X_} {nd cd no co:Nat} {ts:Z_}
theorem SM.ne (h:SM w gs pg gd F p fl m Ad nd cd Ao no co ts):gs≠pg:=Z5x h.row h.pow Z5
theorem SM.mlt (h:SM w gs pg gd F p fl m Ad nd cd Ao no co ts):∀k,Zy gs pg F k→k<w:=fun k a=>by
 rcases a with rfl|rfl|⟨s,a⟩;·exact h.row.lt
 ·exact h.pow.lt
 ·exact h.lt s k a
theorem SM.new_ (h:SM w gs pg gd F p fl m Ad nd cd Ao no co ts)(a:Below w w w'):SM w' gs pg gd F p fl m Ad nd cd Ao no co ts:=
 ⟨h.row.below a h.row.lt,h.pow.below a h.pow.lt,fun s d b=>⟨(h.dr s d b).1.new_ a,(h.dr s d b).2⟩,h.np,h.dj,fun s k c=>YI (h.lt s k c) a.size,h.mani.new_ a⟩
theorem SM.drive (h:SM w gs pg gd F p fl m Ad nd cd Ao no co ts){s:Nat}{d j:Dr}(r:fl s=some d)(l:Only (fun k=>k=pg∨F s k) w w')(n:Yj (Ext (fun k=>k=pg∨F s k) w w') w' (gd s) pg j)(o:j.s=p):
  SM w' gs pg gd (Yw F s fun k=>F s k∨(w.heap.size≤k∧k<w')) p (Yw fl s (some j)) m Ad nd cd Ao no co ts:=by
 have q:Row w' pg 123 (pw p):=by rw[←o];exact n.row_.2.1
 have v:¬(gs=pg∨F s gs):=fun e=>by
  rcases e with e|e;·exact h.ne e
  ·exact(h.np s).2 e
 have y:=h.row.only l v;have C:=h.row.lt;have D:=h.pow.lt;have E:=l.size;have z:Z3K gd (Yw fl s (some j))=Z3K gd fl:=by
  unfold Z3K;refine Z1O fun t _=>?_;unfold X3;by_cases e:t=s;·subst e;rw[YV,r]
  ·rw[YB e]
 refine⟨?_,q,fun t x g=>?_,fun t=>?_,fun t u k f b=>?_,fun t k a=>?_,?_⟩;·unfold Z0I;rw[z];exact y
 ·by_cases e:t=s
  ·subst e;rw[YV]at g ⊢;injection g with g;subst g;refine⟨n.mono_ (fun k a=>?_) (fun k a=>?_),o⟩
   ·rcases a with (a|a)|a;·exact .inl a
    ·exact .inr (.inl a)
    ·exact .inr (.inr a)
   ·rcases a with a|a|a;·omega
    ·have:=h.lt t k a;omega
    ·exact a.2
  ·rw[YB e]at g ⊢;obtain⟨f,b⟩:=h.dr t x g;exact⟨f.shift l (b ▸ q) (fun k A B=>e (h.dj t s k A B)),b⟩
 ·by_cases e:t=s;·subst e;rw[YV];exact⟨fun a=>by rcases a with a|a;exact(h.np t).1 a;omega,fun a=>by rcases a with a|a;exact(h.np t).2 a;omega⟩
  ·rw[YB e];exact h.np t
 ·by_cases e:t=s
  ·by_cases i:u=s;·rw[e,i]
   ·rw[e,YV]at f;rw[YB i]at b;rcases f with f|f;·exact e.trans (h.dj s u k f b)
    ·have:=h.lt u k b;omega
  ·rw[YB e]at f;by_cases i:u=s
   ·rw[i,YV]at b;rcases b with b|b;·exact(h.dj t s k f b).trans i.symm
    ·have:=h.lt t k f;omega
   ·rw[YB i]at b;exact h.dj t u k f b
 ·by_cases e:t=s
  ·subst e;rw[YV]at a;rcases a with a|a;·have:=h.lt t k a;omega
   ·exact a.2
  ·rw[YB e]at a;have:=h.lt t k a;omega
 ·refine h.mani.next (l.mono fun k a=>?_) fun k a c=>?_
  ·rcases a with a|a;·exact .inr (.inl a)
   ·exact .inr (.inr ⟨s,a⟩)
  ·rcases c with c|c|⟨t,c⟩;·exact .inl c
   ·exact .inr (.inl c)
   ·refine .inr (.inr ?_);by_cases e:t=s
    ·subst e;rw[YV]at c;rcases c with c|c;·exact⟨t,c⟩
     ·omega
    ·rw[YB e]at c;exact⟨t,c⟩
end
section
variable {M:U0} {w w':U1} {gs pg:Nat} {p:Pw} {fl:Nat→Option Dr} {m:Zd}
end
end
def Z0O (m:Zd) (l:Z0):List Rec:=(l.filterMap Xo).filter (Vp m)
def YD (m:Zd) (l:Z0):List Rec:=WV Vz (Yc Vz (Z0O m l))
section
open Go.Sort Go.Lib
theorem Zq.grown {b:Z0}(h:Zq n w x l b)(c:w.ownsRow m t k y i L)(d:w.grownBy v y.ownBlock)(f:32≠t)(g:5≠t):Zq n v x l b:=
 ⟨h.own.kept d (YF h.own c f),fun a e=>(h.at_ a e).keep d (YF (h.at_ a e) c g)⟩
structure Z4z (w0 w:World) (Al:Option Addr) (nl cl:Nat) (vs:List Value) (L:List (List Byte)) (vo:Value) (xs:List RD):Prop where
 l:Zq w0.heap.size w (.slice Al nl cl) vs L
 o:ORs w0.heap.size w vo xs
 be:Below w0.heap.size w0 w
theorem Z4z.below {b w w':U1}{c:X_}{d e:Nat}{f:Z_}{L:Z0}{g:U2}{i:List RD}(h:Z4z b w c d e f L g i)(a:Below w w w'):Z4z b w' c d e f L g i:=
 ⟨h.l.below a,h.o.below a,h.be.trans (a.mono h.be.size)⟩
def ZjZ (g:U1) (h i:U2) (j:Nat) (m:Zd) (L:Z0) (a:Act) (w:U1):Prop:=
 ∃(k b c:Nat) (z:Int) (f l:X_) (n:Nat) (o:Z_) (d:List RD) (e:U2),z=(k:Int)-1∧(k≤b∧b=L.length∧b≤c∧c≤9223372036854775807)∧e=.slice l d.length n∧Z4z g w f b c o L e d∧Hid (d.map RD.r=Z0O m (L.take k))∧
 ∃p q s t v x y A B C D E F G H I J M N O P Q R S T U V W a0 a1 a2 a3 a4 a5:U2,a={ tmps:= #[h,i,p,.pointer (some ⟨j,0,none⟩),q,.slice f b c,e,.int .i64 z,s,t,v,x,y,A,B,C,D,E,F,G,H,I,J,M,N,O,P,Q,R,S,T,U,V,W,a0,a1,a2,a3,a4,a5],defers:= []}
def Zk4 (b:U1) (e f:U2) (m:Zd) (L:Z0) (a:Act) (w:U1):Prop:=
 ∃(g:X_) (h:Nat) (c:List RD) (d:U2),d=.slice g c.length h∧ORs b.heap.size w d c∧Below b.heap.size b w∧Hid (c.map RD.r=Z0O m L)∧
 ∃i j k l n o p q s t v x y z A B C D E F G H I J M N O P Q R S T U V W a0 a1:U2,a={ tmps:= #[e,f,i,j,k,l,d,n,o,p,q,s,t,v,x,y,z,A,B,C,D,E,F,G,H,I,J,M,N,O,P,Q,R,S,T,U,V,W,a0,a1],defers:= []}
theorem Zf9 {m:Zd}{l:Z0}(h:Xo r=none):Z0O m (l++ [r])=Z0O m l:=by simp[Z0O,h]
theorem Ze9 {m:Zd}{l:Z0}{a:Rec}(h:Xo r=some a):Z0O m (l++ [r])=Z0O m l++(if Vp m a then [a] else []):=by unfold Z0O;rw[List.filterMap_append,Vs];simp only[List.filterMap_cons,h,List.filterMap_nil,List.filter_cons,List.filter_nil]
theorem Row.sl8 (h:Row w n t l)(c:l.length=8)(a:n<m):Sl w m 8 (some ⟨n,0,none⟩) 1 l:=
 ⟨Y,fun _=>⟨n,0,rfl,a,fun j u b=>by rw[Wz,h.cell];exact b⟩⟩
def ZjX (w:U1) (a:List Rec) (e:Ending) (b:U1):Prop:=
 ∃(A:X_) (n c:Nat) (d:List RD),e=.returned (.slice A n c)∧n=a.length∧ORs w.heap.size b (.slice A n c) d∧d.map RD.r=a∧Below w.heap.size w b
theorem Z7W (m:Zd)(L:Z0):(Z0O m L).length≤L.length:=by unfold Z0O;exact Zj (Wx _ _) (List.length_filterMap_le _ _)
theorem ZgQ:(prog.info? 159).map (fun i=>(i.zero,i.size,i.bytes))=some (some (.agg #[Nat,Nat,Nat,Nat,Nat,Nat,.int .u32 0,()]),8,80):=Zi
theorem Z5S (F:U0)(g pg:Nat)(d:Dr)(mk:Nat)(m:Zd)(B:Nat)(G J:X_)(M N no Q:Nat)(ts:Z_)(w:U1)(h:Yj F w g pg d)(a4:DOk mk d)(hm:RM w B m G M N J no Q ts)(hB:B≤w)(b1:no≤9223372036854775807):
  Calls prog 100 #[(g,()),m.val (G,M,N) (J,no,Q)] w (ZjX w (YD m d.L)):=by
 have W:Below w w (w.alloc (.cells #[m.seq,m.next,m.P.K,m.P.H,m.P.S,m.extra,(G,M,N),(J,no,Q)] 75)):=(Z8 _ _).alloc (Z4 _) _;have H1:=Z (h.new_ W);have hx:=Row.new w 75 #[m.seq,m.next,m.P.K,m.P.H,m.P.S,m.extra,(G,M,N),(J,no,Q)];have HX:=Z hx;have HM:=Z (hm.below (W.mono hB));have c5:=a4.len;have c6:=a4.room;have HC:=Z a4.cells;clear h hm hx;unfold Zd.val;go_enter func100,ntmps100;go_wp2_with fail;generalize w.alloc (.cells #[m.seq,m.next,m.P.K,m.P.H,m.P.S,m.extra,(G,M,N),(J,no,Q)] 75)=w1 at*;obtain⟨MV,ab⟩:∃v,v=Value.agg #[.int .i64 m.seq,.int .i64 m.next,.int .i64 m.P.K,.int .i64 m.P.H,.int .i64 m.P.S,.int .i64 m.extra,.slice G M N,.slice J no Q]:=⟨_,rfl⟩;rw[←ab];have c9:=Z ab;clear ab;refine Z4B 0 1 (ZjZ w1 (g,()) MV w m d.L) (Zk4 w1 (g,()) MV m d.L) (fun a _=>d.L.length-(intOf (a.tmps.getD 7 undef)+1).toNat) rfl rfl ?_ ?_ ?_;·intro am;have HP:=Z am;clear am;go_wp2_with fail;refine(Z9J F g pg d mk _ H1 a4).mono ?_;rintro e w2 ⟨A,c,vs,rfl,HO,-,b2⟩;have R:=Z1k HO.own;go_wp2_with fail;refine wp_label ?_;simp only[Exit.then];rename_i K0 b3;refine b3 _ _ (HP _ _ ?_);refine⟨0,d.L.length,c,-1,A,none,0,vs, [],(),rfl,⟨ZY _,rfl,R.1,R.2⟩,rfl,⟨HO,ORs.nil_ _ _,b2⟩,by rfl,_,_,_,_,_,_,_,_,_,_,_,_,_,_,_,_,_,_,_,_,_,_,_,_,_,_,_,_,_,_,_,_,_,_,rfl⟩
 ·rintro a wo ⟨k,y,cl,z,Al,U,V,vs,f,vo,rfl,⟨hk,i,ac,ad⟩,rfl,a2,C,x2,x4,x8,x9,b4,b5,b6,b7,b9,ba,bc,bd,bf,bg,bh,bi,bj,bk,bl,bm,bn,bo,bp,bq,br,bs,bt,bv,bw,bx,bz,bB,bC,bD,rfl⟩;have a5:=Z i;by_cases bE:k<y
  ·have bF:(k:Int)<(y:Int):=Y;have an:=Zq.read a2.l i.symm;obtain⟨bb,o,A',c',rfl,ca,ao,ae,bG,af⟩:=an.get bE;obtain⟨cc,R⟩:=Zb (d.L.getD k []);rw[R]at ao af ae;have ap:cc.length=64:=(by rw[←R,Z6,Z7 Y];exact HC _ (Zp _));have aq:d.L.take (k+1)=d.L.take k++ [cc]:=(by rw[ZR Y,←R,Z6,Z7 Y];rfl);rw[ap]at ao af ae;have ar:=Z aq;have bH:f.length≤k:=(by have:=congrArg List.length C;rw[Zz]at this;have h2:=Z7W m (d.L.take k);rw[ZK]at h2;omega);have cb:f.length≤512:=Y;clear an aq R ap i;go_wp2_with fail;refine(Zc4 wo A' cc 64 c' wo af (Z4 _) Y ae bG).mono ?_;rintro e n ⟨dv,rfl,a3,a6⟩;obtain⟨p,q,rfl,ag,cd,_⟩:=Y8 a3;obtain⟨T,hT⟩:=Zb (Xo cc);rw[hT]at a3 ag ⊢;have a7:=a2.below a6;have a8:=HX.below a7.be HX.lt;have ce:w1.heap.size≤n.heap.size:=a7.be.size;have HT:=Z hT;clear hT;cases T with
   |none=>clear a8;simp only[Option.getD_none,Option.isSome_none,Rec.val,Rec.zero];go_wp2_with fail;refine wp_goto ?_;have a0:=Zf9 (m:=m) (l:=d.L.take k) HT;rw[←ar]at a0;have i:=a5.out;refine .inl ⟨rfl,⟨k+1,y,cl,k,some ⟨bb,o,none⟩,U,V,vs,f,_,Y,⟨Y,i,ac,ad⟩,rfl,a7.below ((Z8 _ _).alloc (Z4 _) _),by rw[a0];exact C,_,_,_,_,_,_,_,_,_,_,_,_,_,_,_,_,_,_,_,_,_,_,_,_,_,_,_,_,_,_,_,_,_,_,rfl⟩,?_⟩;simp[intOf];omega
   |some r=>
    simp only[Yz]at a3 ag;simp only[Yz,Option.isSome_some,Rec.val];obtain⟨s,ah⟩:=Zb r.D.length;rw[ah]at a3 ag ⊢;have bI:=Z ah;have cf:=a8.lt;have t:=a8.alloc (.cells #[r.O,r.B,r.I,r.P.K,r.P.H,r.P.S,.int .u32 (r.S.toNat:Int),(p,s,q)] 159);have j:=Row.new n 159 #[r.O,r.B,r.I,r.P.K,r.P.H,r.P.S,.int .u32 (r.S.toNat:Int),(p,s,q)];have av:Below n n (n.alloc (.cells #[r.O,r.B,r.I,r.P.K,r.P.H,r.P.S,.int .u32 (r.S.toNat:Int),(p,s,q)] 159)):=(Z8 _ _).alloc (Z4 _) _;obtain⟨g4,a1⟩:=Zb n.heap.size;rw[a1]at j;obtain⟨b,hb⟩:=Zb (Vp m r);have aw:=Z hb;have bJ:=Z a1;have a9:=Z av;clear ah a8 av hb a1;go_upto_region 7 with fail;(try rw[bJ]);generalize n.alloc (.cells #[r.O,r.B,r.I,r.P.K,r.P.H,r.P.S,.int .u32 (r.S.toNat:Int),(p,s,q)] 159)=w4 at*;have bK:=Z9 t 0;have bL:=Z9 t 1;have bM:=Z9 t 2;have bO:=Z9 t 3;have bP:=Z9 t 4;have bQ:=Z9 t 5;have bR:=Z9 t 6;have bT:=Z9 t 7;have ax:=Z9 j 0;have ay:=Z9 j 1;have az:=Z9 j 2;have aB:=Z9 j 3;have aC:=Z9 j 4;have aD:=Z9 j 5;have aE:=Z9 j 6;have aF:=Z9 j 7;have ai:=a7.below a9;clear t;go_wp2_with fail;have aG:B≤w1:=Zj hB W.size;refine(Zd7 m r B G J p M N no Q s q ts b w4 (HM.below (ai.be.mono aG)) (Zj aG ai.be.size) bI b1 aw).mono ?_;rintro e w5 ⟨rfl,aj⟩;have aH:=j.below aj j.lt;have aI:=ai.below aj;clear bK bL bM bO bP bQ bR bT ax ay az aB aC aD aE aF;obtain⟨ax,ay,az,aB,aC,aD,aE,aF⟩:=Row.c8 aH;clear aH;have a0:=Ze9 (m:=m) (l:=d.L.take k) HT;rw[←ar,aw]at a0;have aJ:=Z a0;clear a0;have i:=a5.out;have cg:=Z i;clear i;obtain⟨ir,aK,aL,aM,bU⟩:=info_parts ZgQ;cases b with
    |false=>go_wp2_with fail;refine wp_goto ?_;have i:=a5.out;refine .inl ⟨rfl,⟨k+1,y,cl,k,some ⟨bb,o,none⟩,U,V,vs,f,_,Y,⟨Y,i,ac,ad⟩,rfl,aI,by have:=aJ.out;simp only[Z2j,↓reduceIte,Wo]at this;rw[this];exact C,_,_,_,_,_,_,_,_,_,_,_,_,_,_,_,_,_,_,_,_,_,_,_,_,_,_,_,_,_,_,_,_,_,_,rfl⟩,?_⟩;simp[intOf];omega
    |true=>
     go_wp2_with (first
      | ((with_reducible show wpList _ _ _ (⟨some 34,_,_,_,_,_⟩::_) _ _);refine wpList_plain rfl (fun K hK=>?_);refine Z91 156 159 (.tmp 33) rfl _ _ _ _ _ _ _ _ rfl ir _ _ _ _ _ _ _ _ underlying156 aK aL aM ?_;rintro w6 g6 ak aO aP bV;refine hK _ _ ?_;clear hK K;have bW:=Z ak;have E:=aI.below (ak ▸ aP);have c0:=aO.lt;clear ak bV)
      | ((with_reducible show wpList _ _ _ (⟨some 35,_,_,_,_,_⟩::_) _ _);go_must (refine Y5 rfl (.tmp 32) (.tmp 34) 156 rfl w1 159 ir _ 8 80 underlying156 aK aL aM bU rfl Y (U,f.length,V) f.length (f.flatMap en2) rfl E.o.own w6 (some ⟨g6,0,none⟩) 1 1 (en2 ⟨r,p,s,q⟩) rfl (aO.sl8 rfl c0) (Z43 _) (f.length+1) rfl _ rfl Y Y E.be.size ?_);intro A7 c7 w7 aQ aa _))
     have aR:=ORs.push E.o (x:=⟨r,p,s,q⟩) (ZA ((((a3.below a9).below aj).below (bW ▸ aP))) a2.be.size) aQ aa;have aT:=Zq.grown E.l E.o.own aa Z5 Z5;have aU:=Y9 E.be E.o.own aa (Z4 _) E.be.size;have c1:Z4z w1 w7 (some ⟨bb,o,none⟩) y cl vs d.L (A7,(f.length+1),c7) (f++ [⟨r,p,s,q⟩]):=⟨aT,aR,aU⟩;clear aR aT aU aQ aa;refine wp_goto ?_;have i:=a5.out;refine .inl ⟨rfl,⟨k+1,y,cl,k,some ⟨bb,o,none⟩,A7,c7,vs,f++ [⟨r,p,s,q⟩],_,Y,⟨Y,i,ac,ad⟩,by rw[Zw];rfl,c1,by have:=aJ.out;simp only[if_true]at this;rw[this,ZV,C];rfl,_,_,_,_,_,_,_,_,_,_,_,_,_,_,_,_,_,_,_,_,_,_,_,_,_,_,_,_,_,_,_,_,_,_,rfl⟩,?_⟩;simp[intOf];omega
  ·have bF:¬(k:Int)<(y:Int):=Y;obtain rfl:k=y:=Y;go_wp2_with fail;refine wp_goto ?_;refine .inr ⟨rfl,U,V,f,_,rfl,a2.o,a2.be,?_,_,_,_,_,_,_,_,_,_,_,_,_,_,_,_,_,_,_,_,_,_,_,_,_,_,_,_,_,_,_,_,_,_,_,_,_,_,rfl⟩;have:=C.out;rwa [ZP Y]at this
 ·rintro a wo ⟨U,V,f,vo,rfl,HO,HB,C,x2,x3,x4,x5,x7,x8,x9,b4,b5,b6,b7,b9,ba,bc,bd,bf,bg,bh,bi,bj,bk,bl,bm,bn,bo,bp,bq,br,bs,bt,bv,bw,bx,bz,bB,bC,bD,rfl⟩;have bH:f.length≤512:=by have:=congrArg List.length C;rw[Zz]at this;have h2:=Z7W m d.L;omega
  skip;go_wp2_with fail;refine(Zcx w1 f U _ V wo HO rfl Y).mono ?_;rintro e n ⟨rfl,aV,aW⟩;have a6:=Y9 HB HO.own aW (Z4 _) HB.size;clear aW;go_wp2_with fail;refine(Zdh w1 (Yc ltD f) U _ V n aV (Z0T _) Y).mono ?_;rintro e w4 ⟨A4,n4,c4,rfl,b0,c2,a1⟩;have al:=aV.own;rw[Z0T]at al;have a9:=Y9 a6 al a1 (Z4 _) a6.size;have c3:=Z b0;clear a1 b0 al;go_wp2_with fail;simp only[Z06];go_ret;have hm:(WV ltD (Yc ltD f)).map RD.r=YD m d.L:=by rw[Ziz (lt:=ltD) (lt2:=Vz) RD.r (fun _ _=>rfl),ZdQ (lt:=ltD) (lt2:=Vz) RD.r (fun _ _=>rfl),C];rfl
  exact⟨A4,n4,c4,_,rfl,by rw[c3,←hm,Zz],c2.base W.size,hm,W.trans (a9.mono W.size)⟩
end
theorem Z5v:(prog.info? 75).map (fun i=>(i.zero,i.size,i.bytes))=some (some (.agg #[Nat,Nat,Nat,Nat,Nat,Nat,(),()]),8,96):=Zi
theorem Z8O:∀(d:List Zr) (b:Z_),d.length=b.length→(∀i,i<b.length→∃A n c,b.getD i undef=.slice A n c)→∀u∈YJ d b,u.oneCell'=true
 | [], [],_,_,u,a=>by simp[YJ]at a
 |e::d,t::b,hl,h,u,a=>by
  simp only[YJ]at a;rcases YZ.1 a with a|a;·obtain⟨A,n,c,f⟩:=h 0 Ze;simp only[List.getD_cons_zero]at f;subst f;unfold Zr.cells at a;simp only[Xy,List.not_mem_nil,or_false]at a;rcases a with rfl|rfl|rfl|rfl <;> rfl
  ·exact Z8O d b (by simpa using hl) (fun i g=>by have:=h (i+1) (by simpa using g);simpa using this) u a
 | [],_::_,hl,_,_,_=>by simp at hl
 |_::_, [],hl,_,_,_=>by simp at hl
theorem Zdn {a:List Zr}(c:a.length=l.length)(b:n<a.length):YJ a (l.set n x)=(YJ a l).set (n*4+3) x:=by have h:=Z8H a l n 3 x (a.getD n default) x c b Y rfl;rwa [show a.set n (a.getD n default)=a by rw[Z6,Z7 b];exact List.set_getElem_self b]at h
theorem Zd2 (B:Nat)(A:X_)(n c:Nat)(f:Z_)(g:List Zr)(w:U1)(h:V8 w B A n f g)(t:B≤w)(j:n≤1048576):
  Calls prog 157 #[(A,n,c)] w fun e q=>∃l d,e=.returned (.slice l n d)∧q.ownsRow w 116 4 (l,n,d) n (YJ g f)∧Below w w q:=by
 obtain⟨v,r,x,y,z⟩:=info_parts Zbj;have M:∀(w:U1) (a:X_) (n c m d:Nat),(binOp .eql 73 (.slice a n c) (.slice none m d)).run prog w=.ok (.bool a.isNone) w:=fun w a n c m d=>Lib.run_eql_slice_nil w _ _ a n c m d underlying73;have C:=h.len;have D:=h.tlen;have p:=Z8O g f Y (fun i r=>by obtain⟨l,d,e,_⟩:=h.at_ i Y;exact⟨_,_,_,e⟩);cases A with
 |none=>
  have E:n=0:=by
   rcases VG n with j|j;·exact j
   ·obtain⟨b,o,e,_⟩:=h.sl.at_ j;cases e
  subst E;have F:g=[]:=V3 C;subst F;have G:f=[]:=V3 D;subst G;clear h p;go_enter func157,ntmps157;go_wp2;go_ret;exact⟨none,0,rfl,Yi _ _ _ _,Z8 _ _⟩
 |some a=>
  have s:(w.alloc (.cells #[] 116)).ownsRow w.heap.size 116 4 (w.heap.size,0,0) 0 []:=World.ownsRow_made w #[] 0 (Z4 _) (ZY _) rfl;have k:Below w w (w.alloc (.cells #[] 116)):=(Z8 _ _).alloc (Z4 _) _;have H:=Z h.sl;have I:=Z p;clear h p;go_enter func157,ntmps157;go_wp2_with (at_builtin;go_must (refine Y5 rfl (.tmp 5) (.tmp 6) 73 rfl w 116 v _ 4 56 underlying73 r x y z rfl Y _ 0 [] rfl s w (some a) n c _ rfl ((H.mono t).below k) I n Y (YJ g f) rfl Y Y k.size ?_);intro N O P J L _)
  go_ret;exact⟨_,_,rfl,J,Y9 k s L (Z4 _) k.size⟩
def OMD (a:X_) (b c:Nat) (d:Z_) (no:Nat):Prop:=∀i,i<no→∀q,(Value.slice a b c).ownBlock=some q→(d.getD i undef).ownBlock≠some q
theorem Z5Q (B:Nat)(m:Zd)(D E:X_)(f F no G:Nat)(W:Z_)(w:U1)(h:RM w B m D f F E no G W)(hB:B≤w)(bd:f≤1000)(be:no≤1000)(an:∀e∈m.objs,e.tries.length≤1000):
  Calls prog 96 #[m.val (D,f,F) (E,no,G)] w fun e R=>∃l n s r ao,e=.returned (m.val (l,f,n) (s,no,r))∧OM w R m l f n s no r ao∧Below w w R∧OMD l f n ao no:=by
 have a1:Below w w (w.alloc (.cells #[m.seq,m.next,m.P.K,m.P.H,m.P.S,m.extra,(D,f,F),(E,no,G)] 75)):=(Z8 _ _).alloc (Z4 _) _;have r1:=Row.new w 75 #[m.seq,m.next,m.P.K,m.P.H,m.P.S,m.extra,(D,f,F),(E,no,G)];have r2:=Row.new (w.alloc (.cells #[m.seq,m.next,m.P.K,m.P.H,m.P.S,m.extra,(D,f,F),(E,no,G)] 75)) 75 #[Nat,Nat,Nat,Nat,Nat,Nat,(),()];have a2:Below w w ((w.alloc (.cells #[m.seq,m.next,m.P.K,m.P.H,m.P.S,m.extra,(D,f,F),(E,no,G)] 75)).alloc (.cells #[Nat,Nat,Nat,Nat,Nat,Nat,(),()] 75)):=a1.alloc (X5 Ze) _;have ac:=r1.below ((Z8 _ _).alloc (Z4 _) (.cells #[Nat,Nat,Nat,Nat,Nat,Nat,(),()] 75)) r1.lt;have ap:(w.alloc (.cells #[m.seq,m.next,m.P.K,m.P.H,m.P.S,m.extra,(D,f,F),(E,no,G)] 75)).heap.size=w.heap.size+1:=Ze;rw[ap]at r2;obtain⟨a,a7⟩:∃g,w.heap.size=g:=⟨_,rfl⟩;rw[a7]at ac r2 hB ⊢;rw[a7]at a2;have a0:=Z ac;have ad:=Z r2;have ae:=Z a2;have aq:=Z a7;have HM:=Z h;have aL:=Z an;clear h a1 a2 r1 ac r2 ap an a7;unfold Zd.val;go_enter func96,ntmps96;go_upto_region 1 with fail;rw[aq];generalize ((w.alloc (.cells #[m.seq,m.next,m.P.K,m.P.H,m.P.S,m.extra,(D,f,F),(E,no,G)] 75)).alloc (.cells #[Nat,Nat,Nat,Nat,Nat,Nat,(),()] 75))=w1 at a0 ad ae ⊢;have af:=a0.lt;have ag:a≤w1:=Y;have ar:a≤a:=Z4 _;have a8:B≤w1:=Y;have av:=Z (HM.below (ae.mono hB));have m6:=Z9 a0 6;have m7:=Z9 a0 7;go_cut [6,9] (fun s6 s9 wy=>∃(l:X_) (n:Nat) (s:X_) (r:Nat),s6=.slice l f n∧s9=.slice s no r∧Hid (Row wy a 75 [m.seq,m.next,m.P.K,m.P.H,m.P.S,m.extra,(l,f,n),(s,no,r)])∧Hid (wy.ownsRow a 3 1 (l,f,n) f (m.drives.map iv))∧Hid (wy.ownsRow a 116 4 (s,no,r) no (YJ m.objs W))∧Hid (Row wy (a+1) 75 [Nat,Nat,Nat,Nat,Nat,Nat,(),()])∧Hid (Below a w1 wy));·refine oS [7,9] (fun R=>Below w1 w1 R) [0,1,3,4,2,6,5,7,8,9] (bq_ (Z8 _ _) 1) fun hS=>?_;refine oV ?_;refine ZH (fun w hSw=>(hSw.cell (p:=⟨a,6,none⟩) af).trans m6) ?_;refine oV ?_;refine ZH (fun w hSw=>(hSw.cell (p:=⟨a,7,none⟩) af).trans m7) ?_;refine oG fun K hK=>?_;go_simp;go_at_call 99;refine(Z4K B D f F (m.drives.map iv) _ (av.below (hS.mono a8)).d (fun u hu=>by obtain⟨x,_,rfl⟩:=ZT.1 hu;rfl) (Zj a8 hS.size) Y).mono ?_;rintro e w6 ⟨l,n,rfl,T,a3⟩;have aM:=Z (ZA T (Zj ag hS.size));have a4:=hS.trans (a3.mono hS.size);clear T a3;go_wp2_with fail;refine oK hK a4 fun hS=>?_;refine oV ?_;refine oG fun K hK=>?_;go_simp;go_at_call 157;refine(Zd2 B E no G W m.objs _ (av.below (hS.mono a8)).o (Zj a8 hS.size) Y).mono ?_;rintro e w9 ⟨s,r,rfl,aw,ah⟩;have aO:=Z (ZA aw (Zj ag hS.size));have aP:=Z (aM.kept (ZB ah none) (by cases (Value.slice l f n).ownBlock <;> simp));have a4:=hS.trans (ah.mono hS.size);clear aw ah;go_wp2_with fail;refine oK hK a4 fun hS=>?_;refine oM 7 fun K hK=>?_;have C:=Z hS;have I:=Z (a0.below hS af);have z6:=Z9 I 6;have z7:=Z9 I 7;have f6:=I.frozen 6;have f7:=I.frozen 7;go_simp;refine oL hK ?_;refine oF ?_ (sP 7);refine oM 7 fun K hK=>?_;go_simp;refine oL hK ?_;refine oD ?_;go_wp2;go_meet;have ax:=(I.set 6 (l,f,n)).set 7 (s,no,r);simp only[YL,Xz]at ax;exact⟨l,n,s,r,rfl,rfl,Z ax,Z ((aP.farC I Z5 6 (l,f,n)).farC (I.set 6 _) Z5 7 (s,no,r)),Z ((aO.farC I Z5 6 (l,f,n)).farC (I.set 6 _) Z5 7 (s,no,r)),Z (((ad.below C ad.lt).only (((Only.refl (fun k=>k=a) _).set rfl 6 (l,f,n)).set rfl 7 (s,no,r)) (fun e=>Y))),Z ((C.mono ag).setCell (p:=⟨a,6,none⟩) ar (l,f,n) |>.setCell (p:=⟨a,7,none⟩) ar (s,no,r))⟩
 case rest=>
 obtain⟨l,n,s,r,rfl,rfl,ay,HD,HE,aQ,aR⟩:=hcut;generalize wc=w2 at*;have aT:=Z (ae.trans aR);have b7:=Z9 ay 7;have az:=HM.o.len;have aB:=HM.o.tlen;have J:=Z az;have aU:=Z aB;clear m6 m7 az aB;go_wp2_with fail;clear b7;go_loopw [3,15] (fun _ ix wr=>∃(k:Nat) (L:Z_),k≤no∧ix=.int .i64 (k:Int)∧Hid (Row wr a 75 [m.seq,m.next,m.P.K,m.P.H,m.P.S,m.extra,(l,f,n),(s,no,r)])∧Hid (wr.ownsRow a 3 1 (l,f,n) f (m.drives.map iv))∧Hid (wr.ownsRow a 116 4 (s,no,r) no (YJ m.objs L))∧Hid (L.length=no∧∀j,k≤j→L.getD j undef=W.getD j undef)∧
  Hid (∀j,j<k→∃A c,L.getD j undef=.slice A (m.objs.getD j default).tries.length c∧wr.ownsRow a 3 1 (.slice A (m.objs.getD j default).tries.length c) (m.objs.getD j default).tries.length ((m.objs.getD j default).tries.map iv)∧∀q,(Value.slice l f n).ownBlock=some q→(Value.slice A (m.objs.getD j default).tries.length c).ownBlock≠some q)∧Hid (Row wr (a+1) 75 [Nat,Nat,Nat,Nat,Nat,Nat,(),()])∧Hid (Below a w wr)) (fun _ ix _=>no-(intOf ix).toNat)
 case atStart=>exact⟨0,W,Y,rfl,ay,HD,HE,Z ⟨aU,fun _ _=>rfl⟩,Z (fun j hj=>absurd hj Y),aQ,aT⟩
 case round=>
  obtain⟨k,L,hk,rfl,a5,a9,a6,M,ai,N,HB⟩:=hrel;have U:=HB.size;rw[aq]at U;by_cases O:k<no
  ·have bf:(k:Int)<(no:Int):=Y;obtain⟨t,c',bg,e,aV,V,aW,b0,bh,bi⟩:=Z9D a6 Y;injection e with e Q e3;subst e e3;obtain⟨A9,c9,e9,b1,bj,aj⟩:=(HM.below (HB.mono hB)).o.at_ k O;obtain⟨x,hx⟩:=Zb (m.objs.getD k default);rw[hx]at e9 b1 aj;have b2:=Z hx;have aC:x∈m.objs:=(by rw[←hx,Z6,Z7 (by rw[J];exact O)];exact Zp _);have bk:=aL x aC;have aD:=Z6_ m.objs L k (by rw[J,M.1]) (by rw[J];exact O) 3 Y;have aE:L.getD k undef=.slice A9 x.tries.length c9:=(M.2 k (Z4 _)).trans e9;have aF:wr.cell? (t,k*4+3)=some (.slice A9 x.tries.length c9):=(by obtain⟨b,o,z,_,hc⟩:=(Sl.own a6).at_ Y;injection z with z;injection z with z Q _;subst z Q;have h9:=hc _ _ aD;rw[aE]at h9;simpa using h9);have aG:=V.frozen (k*4+3);have b7:=Z9 a5 7;have ak:=a5.lt;have aa:t<wr:=V.lt;have b3:a≠t:=Z5x a5 V Z5;have b4:a+1≠t:=Z5x N V Z5;have b5:=Z aj;have aH:=Z aF;have bl:=Z aG;have aI:=Z V;clear hx aC aD aE aF aG V e9 aj aW b0;go_upto_region 5 with fail;refine oS [12] (fun R=>Below wr wr R) [0,1,2,3,4,5,6,7,8,9,10,11,12] (bq_ (Z8 _ _) 1) fun hS=>?_;refine oV ?_;refine ZH (fun w hSw=>(hSw.cell (p:=⟨a,7,none⟩) ak).trans b7) ?_;refine oV ?_;refine oV ?_;refine ZH (fun w hSw=>(hSw.cell (p:=⟨a,7,none⟩) ak).trans b7) ?_;(iterate 3 refine oV ?_);refine ZH (fun w hSw=>(hSw.cell (p:=(t,k*4+3)) aa).trans aH) ?_;refine oG fun K hK=>?_;go_simp;go_at_call 99;refine(Z4K B A9 x.tries.length c9 (x.tries.map iv) _ (b5.below (hS.mono (Zj hB U))) (fun u hu=>by obtain⟨y,_,rfl⟩:=ZT.1 hu;rfl) (Zj hB (Zj U hS.size)) Y).mono ?_;rintro e w6 ⟨A6,c6,rfl,T,a3⟩;have b6:=Z (ZA T (Zj U hS.size));have b9:=Z (show ∀q,(Value.slice l f n).ownBlock=some q→(Value.slice A6 x.tries.length c6).ownBlock≠some q from fun q h1 h2=>by have h3:=(ZC a9 q h1).2;have h4:=(ZC T q h2).1;have:=hS.size;omega);have a4:=hS.trans (a3.mono hS.size);clear T a3;go_wp2_with fail;refine oK hK a4 fun hS=>?_;refine oV ?_;refine oV ?_;refine oM 12 fun K hK=>?_;have C:=Z hS;have ck:=(hS.cell (p:=(t,k*4+3)) aa).trans aH;have cf:=(aI.below hS aa).frozen (k*4+3);go_simp;refine oL hK ?_;refine oD ?_;go_wp2;go_roundw
   ·have aJ:Only (fun q=>q=t) w6 (w6.setCell (t,k*4+3) (A6,x.tries.length,c6)):=(Only.refl (fun q=>q=t) _).set rfl _ _;have ba:=a6.kept (ZB C none) (by cases (Value.slice (some ⟨t,0,none⟩) no r).ownBlock <;> simp);have al:=aI.below C aa;have aK:=Zgt (i:=k*4+3) ba Y (A6,x.tries.length,c6);rw[←Zdn (by rw[J,M.1]) (by rw[J];exact O)]at aK;refine⟨k+1,L.set k (A6,x.tries.length,c6),Y,Zg,Z ((a5.below C ak).only aJ b3),Z ((a9.kept (ZB C none) (by cases (Value.slice l f n).ownBlock <;> simp)).farC al Z5 _ _),Z aK,Z ⟨by rw[Ya];exact M.1,fun j hj=>?_⟩,Z (fun j hj=>?_),Z ((N.below C N.lt).only aJ b4),Z ((HB.trans (C.mono U)).setCell (p:=(t,k*4+3)) aV _)⟩;·rw[Z6v (by rw[M.1];exact O),if_neg Y];exact M.2 j Y
    ·by_cases bb:k=j;·subst bb;rw[Z6v (by rw[M.1];exact O),if_pos rfl,b2];exact⟨A6,c6,rfl,b6.farC al Z5 _ _,b9⟩
     ·rw[Z6v (by rw[M.1];exact O),if_neg Y];obtain⟨A,c,z,Q,e3⟩:=ai j Y;exact⟨A,c,z,(Q.kept (ZB C none) (by cases (Value.slice A (m.objs.getD j default).tries.length c).ownBlock <;> simp)).farC al Z5 _ _,e3⟩
   ·exact Zh
  ·obtain rfl:k=no:=Y;obtain⟨q0,q1,q2,q3,q4,q5,q6,q7⟩:=Row.c8 a5;obtain⟨z0,z1,z2,z3,z4,z5,z6,z7⟩:=Row.c8 N;obtain⟨f0,f1,f2,f3,f4,f5,f6,f7⟩:=Wt N;go_wp2_with fail;obtain⟨wf,am⟩:∃x,((((((((wr.setCell ⟨a+1,0,none⟩ (.int .i64 m.seq)).setCell ⟨a+1,1,none⟩ (.int .i64 m.next)).setCell ⟨a+1,2,none⟩ (.int .i64 m.P.K)).setCell ⟨a+1,3,none⟩ (.int .i64 m.P.H)).setCell ⟨a+1,4,none⟩ (.int .i64 m.P.S)).setCell ⟨a+1,5,none⟩ (.int .i64 m.extra)).setCell ⟨a+1,6,none⟩ (.slice l f n)).setCell ⟨a+1,7,none⟩ (.slice s k r))=x:=⟨_,rfl⟩;have ab:Only (fun q=>q=a+1) wr wf:=(by rw[←am];exact(((((((((Only.refl (fun q=>q=a+1) wr).set rfl 0 m.seq).set rfl 1 m.next).set rfl 2 m.P.K).set rfl 3 m.P.H).set rfl 4 m.P.S).set rfl 5 m.extra).set rfl 6 (l,f,n)).set rfl 7 (s,k,r)));have bc:Row wf (a+1) 75 [m.seq,m.next,m.P.K,m.P.H,m.P.S,m.extra,(l,f,n),(s,k,r)]:=(by rw[←am];have h9:=((((((((N.set 0 m.seq).set 1 m.next).set 2 m.P.K).set 3 m.P.H).set 4 m.P.S).set 5 m.extra).set 6 (l,f,n)).set 7 (s,k,r));simpa using h9);rw[am];refine bodyPost_ret (v:= .agg #[m.seq,m.next,m.P.K,m.P.H,m.P.S,m.extra,(l,f,n),(s,k,r)]) (results_cell_row rfl _ _ (a+1) 75 #[m.seq,m.next,m.P.K,m.P.H,m.P.S,m.extra,(l,f,n),(s,k,r)] (0,0) _ rfl bc rfl rfl (WK Z5v)) rfl ?_;refine⟨l,n,s,r,L,rfl,⟨Zu a9 ab (Yb a9 N Z5),HM.dl,⟨?_,by rw[M.1,J],fun i hi=>?_⟩,J⟩,HB.trans (ab.below (B:=a) (fun q e=>Y) U),fun i hi q h1 h2=>by obtain⟨A,c,z,_,e3⟩:=ai i hi;rw[z]at h2;exact e3 q h1 h2⟩;·rw[J];exact Zu a6 ab (Yb a6 N Z5)
   ·obtain⟨A,c,z,Q,_⟩:=ai i (by rw[←J];exact hi);exact⟨A,c,z,Zu Q ab (Yb Q N Z5)⟩
theorem Ziv {K:Nat}(h:Row w n t l)(a:l.length=K)(b:n<m):Sl w m K (some ⟨n,0,none⟩) 1 l:=
 ⟨by rw[a,Nat.one_mul],fun _=>⟨n,0,rfl,b,fun j u c=>by rw[Wz,h.cell];exact c⟩⟩
theorem Zfq {P:Program}{o:Oper}{a:Act}{K:V_}{Q:Exit→V_}(t e:TypeId)(x:Operand)(l:o.op=.buildSlice t 1 #[(0,x)])(b c d f:U2)(m:a.eval x=.agg #[b,c,d,f])
  (i:TypeInfo) (n p q r:U2) (s:P.underlying t=some (.slice e)) (v:P.info? e=some i) (y:i.zero=some (.agg #[n,p,q,r])) (k:i.size=4)
  (h:∀j g,w.heap.size=g→Row j g e [b,c,d,f]→Below g w j→j.heap.size=g+1→K (a.put o.dst (g,1,1)) j):Oper.wp P o a w K Q:=by
 refine wp_buildSlice t e 1 _ l #[b,c,d,f] i _ s v y (by rw[k];omega) (by rw[k];omega) ?_ ?_;·rw[k];simp[m,Instr.fill,Value.cells];apply Array.ext';simp[Z1P,Wp]
 ·exact h _ _ rfl (Row.new w e #[b,c,d,f]) ((Z8 _ _).alloc (Z4 _) _) Ze
section
open Go.Sort
def Z4x (a b:Y_):Int:=if Xh a b=true then -1 else if Xh b a=true then 1 else 0
theorem Z3c (a:Y_)(w:U1):Calls prog 212 #[.string (Zn a)] w fun e b=>e=.returned (.bool false)∧w=b:=by go_enter func212,ntmps212;go_wp2;go_ret;exact⟨Ze,rfl⟩
theorem Zfz (x y:Y_)(c:Int)(b:Z4x x y=c)(w:U1):Calls prog 144 #[.string (Zn x),.string (Zn y)] w fun e a=>e=.returned c∧w=a:=by
 obtain⟨g,h⟩:∃l,Xh x y=l:=⟨_,rfl⟩;obtain⟨d,i⟩:∃l,Xh y x=l:=⟨_,rfl⟩;have k:(Op.bytesLess (Zn x).toList (Zn y).toList)=g:=h;have m:(Op.bytesLess (Zn y).toList (Zn x).toList)=d:=i;unfold Z4x at b;rw[h,i]at b;have f:=Z b;cases g with
 |true=>
  go_enter func144,ntmps144;go_wp2_with (first| (go_at_call 212;go_must (first|refine(Z3c x _).mono ?_|refine(Z3c y _).mono ?_);rintro e a ⟨rfl,rfl⟩))
  go_ret;exact⟨YP (by have:=f.out;simpa using this),rfl⟩
 |false=>
  have n:((Zn x).toList==(Zn y).toList)= !d:=by have j:=Z7H (Zn y).toList (Zn x).toList;rw[k,m]at j;simpa using j.symm
  cases d with
  |true=>
   go_enter func144,ntmps144;go_wp2_with (first| (go_at_call 212;go_must (first|refine(Z3c x _).mono ?_|refine(Z3c y _).mono ?_);rintro e a ⟨rfl,rfl⟩))
   go_ret;exact⟨YP (by have:=f.out;simpa using this),rfl⟩
  |false=>
   go_enter func144,ntmps144;go_wp2_with (first| (go_at_call 212;go_must (first|refine(Z3c x _).mono ?_|refine(Z3c y _).mono ?_);rintro e a ⟨rfl,rfl⟩))
   go_ret;exact⟨YP (by have:=f.out;simpa using this),rfl⟩
abbrev WA:Type:=Zr×X_×Nat
def WA.tv (x:WA):U2:= .slice x.2.1 x.1.tries.length x.2.2
def Z31 (x:WA):Z_:=x.1.cells x.tv
def cfP (x y:WA):Int:=Z4x x.1.name y.1.name
theorem ltP (x y:WA):ltOf cfP x y=Xh x.1.name y.1.name:=by
 unfold ltOf cfP Z4x;cases h1:Xh x.1.name y.1.name
 ·cases h2:Xh y.1.name x.1.name <;> simp
 ·simp
theorem Zk8:SWO (ltOf cfP):=by
 refine⟨fun x=>by rw[ltP];exact Z6p _,fun x y z b a=>by rw[ltP]at b a ⊢;exact Z4C b a,fun x y z b a=>?_⟩
 ·rw[ltP]at b a ⊢;cases h9:Xh x.1.name z.1.name
  ·rfl
  ·exfalso;cases h3:Xh y.1.name x.1.name
   ·have:=Z92 b h3;rw[this,a]at h9;cases h9
   ·have:=Z4C h3 h9;rw[a]at this;cases this
instance:Inhabited WA:=⟨(default,none,0)⟩
theorem Zem (x y:WA)(w:U1):Calls prog 143 #[.agg (Z31 x).toArray,.agg (Z31 y).toArray] w fun t i=>t=.returned (.int .i64 (cfP x y))∧∃n v,i=grow (w.drewN n) v:=by
 obtain⟨a,c⟩:∃o:Obj,o=.cells #[.string (Zn x.1.name),.int .i64 x.1.obj,.int .i64 x.1.len,x.tv] 116:=⟨_,rfl⟩;obtain⟨j,d⟩:∃o:Obj,o=.cells #[.string (Zn y.1.name),.int .i64 y.1.obj,.int .i64 y.1.len,y.tv] 116:=⟨_,rfl⟩;obtain⟨k,b⟩:=WI ((w.alloc a).alloc j);have l:Row k w 116 [.string (Zn x.1.name),.int .i64 x.1.obj,.int .i64 x.1.len,x.tv]:=by rw[b,c];exact(Row.new w _ _).alloc _
 have m:Row k (w.heap.size+1) 116 [.string (Zn y.1.name),.int .i64 y.1.obj,.int .i64 y.1.len,y.tv]:=by have:=Row.new (w.alloc a) 116 #[.string (Zn y.1.name),.int .i64 y.1.obj,.int .i64 y.1.len,y.tv];rw[show(w.alloc a).heap.size=w.heap.size+1 from Ze]at this;rw[b,d];exact this
 have f:=Z l;have g:=Z m;have p:=Z b;have q:=Z c;have r:=Z d;have s:=Z (show Z4x x.1.name y.1.name=cfP x y from rfl);generalize cfP x y=cc at s ⊢;unfold Z31 Zr.cells iv WA.tv;unfold WA.tv at f g q r;obtain⟨B,h⟩:=Zb w.heap.size;rw[h]at f g;clear l m b c d;go_enter func143,ntmps143;go_upto_region 1 with fail;rw[←q,←r,←p];try rw[h]
 clear h;have z:=f.cell 0;have A:=g.cell 0;simp only[ZE]at z A;go_wp2_with (go_at_call 144;go_must (refine(Zfz x.1.name y.1.name _ s _).mono ?_);rintro e i ⟨rfl,rfl⟩)
 go_ret;refine⟨by rfl,0,#[a,j],?_⟩;rw[p];simp only[alloc_eq_grow,grow_grow];rfl
theorem Zdg (a b N:Nat)(w:U1):CmpLays prog 143 #[] Z31 4 cfP a b N w:=by intro m d f _ x y;refine(Zem x y _).mono ?_;rintro e g ⟨rfl,n,c,rfl⟩;exact⟨rfl,n,c,rfl⟩
theorem ZbN (a:Array U2)(w:U1):(callFunc 143 a).run prog w=.ok (.enter 143 a) w:=rfl
theorem Z5U:∀l:List WA,YJ (l.map Prod.fst) (l.map WA.tv)=l.flatMap Z31
 | []=>rfl
 |x::l=>by simp only[WQ,YJ,Vb,Z5U l];rfl
theorem ZdV (f n c:Nat)(A:X_)(l:List WA)(w:U1)(h:w.ownsRow f 116 4 (A,n,c) n (YJ (l.map Prod.fst) (l.map WA.tv)))(k:l.length=n)(t:n≤1048576):
  Calls prog 142 #[(A,n,c),.func (.func 143) #[] #[]] w fun e g=>e=.returned (.tuple #[])∧∃d:List WA,d.Perm l∧
   ((d.map Prod.fst).Pairwise fun a b=>Xh b.name a.name=false)∧g.ownsRow f 116 4 (A,n,c) n (YJ (d.map Prod.fst) (d.map WA.tv))∧w.grownBy g (Value.slice A n c).ownBlock:=by
 rw[Z5U]at h;have m:=Z9j Zj5 Y (fun _=>rfl) (fun _=>rfl) (K:=4) (enc:=Z31) (fun _=>rfl) (fun x v o=>by simp only[Z31,Zr.cells,Xy,List.not_mem_nil,or_false]at o;rcases o with rfl|rfl|rfl|rfl <;> rfl) cfP Zk8 143 f n c A l w ZbN (fun y z N w=>Zdg y z N w) h k t;change Calls prog 142 _ _ _ at m;refine m.mono ?_;rintro e g ⟨rfl,d,p,B,C,D⟩;have F:d.length=n:=p.length_eq.trans k;refine⟨rfl,d,p,?_,by rw[Z5U];exact C,D⟩;refine VH.2 fun i j q r E=>?_;rw[Zz]at q r;have s:=B i j E Y;rw[ltP,Z6,Z6,Z7 q,Z7 r]at s;simpa using s
