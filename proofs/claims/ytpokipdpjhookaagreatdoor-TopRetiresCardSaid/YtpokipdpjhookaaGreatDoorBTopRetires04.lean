/- Within Pre Bits LinMath SolMath DecMath LtMath -/
import Derived.BigGuardPart
import Derived.Test.YtpokipdpjhookaaGreatDoorBTopRetires00
set_option maxHeartbeats 8000000
set_option maxRecDepth 20000
set_option linter.all false
namespace Go.Proofs
open Go Go.RowKit Tryz
variable {c d:Int} {w v:World} {n m k i:Nat} {s:List Int}
theorem ZfK (x n:Int)(c:x<0)(d:1≤n):(x.tmod n<0→x.tmod n+n=x % n)∧(¬x.tmod n<0→x.tmod n=x % n)∧ -n<x.tmod n∧x.tmod n≤0:=by
 have e:=Int.emod_nonneg x (show n≠0 from Y);have f:=Int.emod_lt_of_pos x (show 0<n from Y);have g:(n.natAbs:Int)=n:=Y;rw[Int.tmod_eq_emod];by_cases a:n∣x;·have b:x % n=0:=Int.emod_eq_zero_of_dvd a;simp[a,b];omega
 ·have i:x % n≠0:=fun h=>a (Int.dvd_of_emod_eq_zero h);rw[if_neg (by simp[a];omega)];omega
theorem XU (x n:Int)(w:U1)(i: -9223372036854775808≤x)(j:x≤9223372036854775807)(d:1≤n)(k:n≤4611686018427387904):
  Calls prog 10 #[x,n] w fun e f=>e=.returned (.int .i64 (x % n))∧w=f:=by
 have l:=Int.emod_nonneg x (show n≠0 from Y);have m:=Int.emod_lt_of_pos x (show 0<n from Y);by_cases o:0≤x;·go_enter func10,ntmps10;go_wp2;go_ret;exact⟨rfl,rfl⟩
 ·obtain⟨a,b,p,q⟩:=ZfK x n Y d;by_cases c:x.tmod n<0;·have g:=Z (a c);clear a b;go_enter func10,ntmps10;go_wp2;go_ret;exact⟨YP g,rfl⟩
  ·have h:=Z (b c);clear a b;go_enter func10,ntmps10;go_wp2;go_ret;exact⟨YP h,rfl⟩
structure Zf where
 K:Int
 H:Int
 S:Int
def Zf.val (p:Zf):U2:= .agg #[.int .i64 p.K,.int .i64 p.H,.int .i64 p.S]
def Zf.Ok (p:Zf):Prop:=1≤p.K∧p.K≤16∧1≤p.H∧p.H≤4∧1≤p.S∧p.S≤24
def Zf.may (p:Zf):Bool:=decide (1≤p.K∧p.K≤16∧1≤p.H∧p.H≤4∧1≤p.S∧p.S≤24)
theorem Zf.may_ok {p:Zf}(h:p.may=true):p.Ok:=by unfold Zf.may at h;unfold Zf.Ok;exact of_decide_eq_true h
theorem Zf.ok_may {p:Zf}(h:p.Ok):p.may=true:=by unfold Zf.Ok at h;unfold Zf.may;exact decide_eq_true h
def Zf.size (p:Zf):Int:=p.K*p.S
theorem Zf.size_le {p:Zf}(h:p.Ok):1≤p.size∧p.size≤384:=by
 obtain⟨a,b,_,_,c,d⟩:=h;unfold Zf.size;constructor;·have:=Int.mul_le_mul a c Y Y;omega
 ·have:=Int.mul_le_mul b d Y Y;omega
def countP (p:Zf) (n:Int):Int:=if p.may=true∧0<n then (n-1) / p.size+1 else 0
theorem Z3j {p:Zf}(h:¬(p.may=true∧0<c)):countP p c=0:=if_neg h
theorem Z4F {p:Zf}(h:p.may=true)(a:0<c):countP p c=(c-1) / p.size+1:=if_pos ⟨h,a⟩
theorem Z3m (p:Zf)(n:Int):0≤countP p n∧(0≤n→countP p n≤n):=by
 unfold countP;split;·rename_i h;have:=(Zf.size_le (Zf.may_ok h.1)).1;have a:0≤(n-1) / p.size:=Int.ediv_nonneg Y Y;have b:(n-1) / p.size≤n-1:=Int.ediv_le_self _ Y;omega
 ·omega
def Ye (w:U1) (g:Nat) (p:Zf):Prop:=w.cell? ⟨g,0,none⟩=some (.int .i64 p.K)∧w.cell? ⟨g,1,none⟩=some (.int .i64 p.H)∧w.cell? ⟨g,2,none⟩=some (.int .i64 p.S)
theorem Ye.keep {g:Nat}{p:Zf}(h:Ye w g p)(a:Below n w v)(b:g<n):Ye v g p:=
 ⟨(a.cell (p:=g) b).trans h.1,(a.cell (p:=⟨g,1,none⟩) b).trans h.2.1,(a.cell (p:=⟨g,2,none⟩) b).trans h.2.2⟩
theorem Ye.new (w:U1)(p:Zf)(t:TypeId):Ye (w.alloc (.cells #[p.K,p.H,p.S] t)) w p:=
 ⟨World.cell?_alloc_at _ _ _ _ rfl,World.cell?_alloc_at _ _ _ _ rfl,World.cell?_alloc_at _ _ _ _ rfl⟩
theorem Ye.lt {p:Zf}(h:Ye w n p):n<w:=YC w _ h.1
theorem V9 (p:Zf)(r:Bool)(w:U1)(a:p.may=r):Calls prog 78 #[p.val] w fun e b=>e=.returned (.bool r)∧Below w w b:=by obtain⟨K,H,S⟩:=p;unfold Zf.val;have c:=Z a;go_enter func78,ntmps78;go_wp2;all_goals (go_ret;exact⟨Xu (by rw[←c];unfold Zf.may;dsimp only;first| (refine decide_eq_decide.2 ?_;omega)| (refine(decide_eq_false ?_).symm;omega)),(Z8 _ _).alloc (Z4 _) _⟩)
theorem x32 (a b:BitVec 32):bits .xor .u32 (a.toNat:Int) (b.toNat:Int)=((a ^^^ b).toNat:Int):=by rw[u32_xor_nat _ _ a.isLt b.isLt,BitVec.toNat_xor]
theorem Zka (a:BitVec 32)(b:BitVec 8):bits .xor .u32 (a.toNat:Int) (b.toNat:Int)=((a ^^^ b.setWidth 32).toNat:Int):=by have:=x32 a (b.setWidth 32);rw[Za_,Z2R (Zc b.isLt)]at this;exact this
theorem an1 (t:BitVec 32):bits .and .u32 (t.toNat:Int) 1=(t.toNat % 2:Int):=by have:=u32_and_nat t.toNat 1 t.isLt Y;rw[Nat.and_one_is_mod]at this;simpa using this
theorem Zb5 (t:BitVec 32):t.getLsbD 0=decide (t.toNat % 2=1):=by rw[BitVec.getLsbD,Nat.testBit_zero]
theorem Zjl (t:BitVec 32)(h:(bits .and .u32 (t.toNat:Int) 1==1)=true):bits .xor .u32 ((t.toNat:Int) / 2) 3988292384=((tb t).toNat:Int):=by
 rw[an1]at h;have a:t.getLsbD 0=true:=by rw[Zb5];simp at h ⊢;omega
 have e:(t.toNat:Int) / (2:Int)=((t >>> 1).toNat:Int):=by rw[Z4u,Z4s];omega
 have b:(3988292384:Int)=((0xedb88320#32).toNat:Int):=rfl;rw[e,b,x32];unfold tb;rw[a];rfl
theorem Zed (t:BitVec 32)(h:(bits .and .u32 (t.toNat:Int) 1==1)=false):((t.toNat:Int) / 2)=((tb t).toNat:Int):=by
 rw[an1]at h;have a:t.getLsbD 0=false:=by rw[Zb5];simp at h ⊢;omega
 have e:(t.toNat:Int) / (2:Int)=((t >>> 1).toNat:Int):=by rw[Z4u,Z4s];omega
 rw[e];unfold tb;rw[a];simp
theorem Zar (j:Nat)(s:BitVec 32):tn (j+1) s=tb (tn j s):=ZjG j 1 s
theorem Zef (s:BitVec 32)(l:Y_)(k:Nat)(h:k<l.length):Z3M s (l.take (k+1))=tn 8 (Z3M s (l.take k) ^^^ (l.getD k 0).setWidth 32):=by rw[ZR h];unfold Z3M;rw[Z2m];simp[by8,h]
def Zm (n:Nat):Y_:=List.replicate n 0
def YE:Nat→(Nat→Byte)→Byte
 |0,_=>0
 |k+1,f=>YE k f ^^^ f k
theorem bx0 (a:Byte):a ^^^ 0=a:=Z4p
theorem b0x (a:Byte):0 ^^^ a=a:=BitVec.zero_xor
theorem bxx (a:Byte):a ^^^ a=0:=BitVec.xor_self
theorem Z7u {a b:Byte}(h:a ^^^ b=0):a=b:=by
 have:a ^^^ b ^^^ b=b:=by rw[h,b0x]
 rwa [Z1w,bxx,bx0]at this
theorem Z1f {f g:Nat→Byte}(n:Nat)(h:∀j,j<n→f j=g j):YE n f=YE n g:=by
 induction n with
 |zero=>rfl
 |succ n ih=>rw[YE,YE,ih (fun j a=>h j Y),h n Y]
theorem Z4Q {f:Nat→Byte}(n:Nat)(h:∀j,j<n→f j=0):YE n f=0:=by
 induction n with
 |zero=>rfl
 |succ n ih=>rw[YE,ih (fun j a=>h j Y),h n Y,bx0]
theorem Z52 (f g:Nat→Byte)(n:Nat):YE n (fun j=>f j ^^^ g j)=YE n f ^^^ YE n g:=by
 induction n with
 |zero=>exact(bxx (0:Byte)).symm
 |succ n ih=>simp only[YE,ih];ac_rfl
theorem Z9I (c:Byte)(f:Nat→Byte)(n:Nat):YE n (fun j=>ZU c (f j))=ZU c (YE n f):=by
 induction n with
 |zero=>simp only[YE];rw[WN]
 |succ n ih=>simp only[YE,ih,Z6S]
theorem Z3u {f:Nat→Byte}(n i:Nat)(c:i<n)(h:∀j,j<n→j≠i→f j=0):YE n f=f i:=by
 induction n with
 |zero=>omega
 |succ n ih=>
  rw[YE];by_cases e:i=n;·subst e;rw[Z4Q i (fun j a=>h j Y Y),b0x]
  ·rw[ih Y (fun j a b=>h j Y b),h n Y Y,bx0]
theorem Z6U {f:Nat→Byte}(n i k:Nat)(b:i<n)(c:k<n)(d:i≠k)(h:∀j,j<n→j≠i→j≠k→f j=0):YE n f=f i ^^^ f k:=by
 have g:YE n f=YE n (fun j=>(if j=i then f j else 0) ^^^ (if j=i then 0 else f j)):=Z1f n (fun j _=>by
  by_cases e:j=i;·rw[if_pos e,if_pos e,bx0]
  ·rw[if_neg e,if_neg e,b0x])
 rw[g,Z52,Z3u n i b (fun j _ a=>if_neg a),Z3u n k c (fun j l a=>by
  by_cases e:j=i;·exact if_pos e
  ·simp only[if_neg e];exact h j l e a)]
 simp only[if_true];rw[if_neg (fun e=>d e.symm)]
def dot (r:Y_) (x:Nat→Byte):Byte:=YE r.length fun j=>ZU (r.getD j 0) (x j)
def VL (c:Byte) (r:Y_):Y_:=r.map (ZU c)
def Wi (c:Byte) (p r:Y_):Y_:=r.mapIdx fun j x=>x ^^^ ZU c (p.getD j 0)
theorem Z0Y (c:Byte)(r:Y_):(VL c r).length=r.length:=by simp[VL]
theorem VO (c:Byte)(p r:Y_):(Wi c p r).length=r.length:=by simp[Wi]
theorem Z74 (c:Byte)(r:Y_)(j:Nat):(VL c r).getD j 0=ZU c (r.getD j 0):=by
 simp only[VL,Z6,ZO];cases r[j]? with
 |none=>exact(WN c).symm
 |some x=>rfl
theorem Z3z (c:Byte)(p r:Y_)(j:Nat)(h:j<r.length):(Wi c p r).getD j 0=r.getD j 0 ^^^ ZU c (p.getD j 0):=by simp only[Wi,Z6,Z2W,Z7 h,Z0p,Yz]
theorem Zaq (c:Byte)(r:Y_)(x:Nat→Byte):dot (VL c r) x=ZU c (dot r x):=by unfold dot;rw[Z0Y,←Z9I];exact Z1f _ fun j _=>by rw[Z74,Z8r]
theorem ZeZ (a b c:Byte):ZU (a ^^^ b) c=ZU a c ^^^ ZU b c:=by rw[Z1B,Z6S,Z1B c,Z1B c]
theorem Z7j (c:Byte)(p r:Y_)(x:Nat→Byte)(h:p.length=r.length):dot (Wi c p r) x=dot r x ^^^ ZU c (dot p x):=by unfold dot;rw[VO,h,←Z9I,←Z52];exact Z1f _ fun j a=>by rw[Z3z c p r j a,ZeZ,Z8r]
theorem ZfY {a b:Byte}(h:a≠0)(e:ZU a b=0):b=0:=by
 by_cases c:b=0;·exact c
 ·exact absurd e (Z49 a b h c).1
abbrev Zl:=Z0
def at2 (a:Zl) (i j:Nat):Byte:=(a.getD i []).getD j 0
def sw2 (a:Zl) (i j:Nat):Zl:=(a.set i (a.getD j [])).set j (a.getD i [])
def elm (c b:Nat) (a:Zl):Zl:=a.mapIdx fun i r=>if i=b then r else Wi (r.getD c 0) (a.getD b []) r
def VA (a:Zl) (b c:Nat):Option Nat:=(List.range a.length).find? fun i=>decide (b≤i∧at2 a i c≠0)
def XT (a:Zl) (b i c:Nat):Zl:=(sw2 a b i).set b (VL (Z1_ (at2 (sw2 a b i) b c)) ((sw2 a b i).getD b []))
def Z09 (a:Nat) (s:Nat×Zl):Nat×Zl:=match VA s.2 s.1 a with
 |none=>s
 |some i=>(s.1+1,elm a s.1 (XT s.2 s.1 i a))
def X0:Nat→Nat×Zl→Nat×Zl
 |0,s=>s
 |k+1,s=>Z09 k (X0 k s)
def Yh (n:Nat) (a:Zl):Nat×Zl:=X0 n (0,a)
def Wd (m:Nat) (a:Zl):Prop:=∀i,i<a.length→(a.getD i []).length=m
theorem Z3J {m:Nat}{a:Zl}(h:∀r∈a,r.length=m):Wd m a:=fun i b=>by refine h _ ?_;rw[Z6,Z7 b];exact Zp _
def Vy (a:Zl) (x:Nat→Byte):Prop:=∀i,i<a.length→dot (a.getD i []) x=0
theorem X4 {α:Type}(l:List α)(i j:Nat)(v d:α):(l.set i v).getD j d=if i=j∧j<l.length then v else l.getD j d:=by
 simp only[Z6,List.getElem?_set];by_cases h:i=j
 ·subst h;by_cases a:i<l.length;·simp[a]
  ·simp[a]
 ·simp[h]
theorem sw3 (a:Zl)(i j k:Nat)(d:i<a.length)(f:j<a.length):(sw2 a i j).getD k []=if k=j then a.getD i [] else if k=i then a.getD j [] else a.getD k []:=by
 unfold sw2;rw[X4,X4,Ya];by_cases b:k=j;·subst b;simp[f]
 ·rw[if_neg (fun e=>b e.1.symm),if_neg b];by_cases c:k=i;·subst c;simp[d]
  ·rw[if_neg (fun e=>c e.1.symm),if_neg c]
theorem Z75 (a:Zl)(i j:Nat):(sw2 a i j).length=a.length:=by simp[sw2]
theorem VD (a:Zl)(t i c:Nat):(XT a t i c).length=a.length:=by simp[XT,Z75]
theorem Z2K (c t:Nat)(a:Zl):(elm c t a).length=a.length:=by simp[elm]
theorem Z7f (a:Zl)(t i c k:Nat)(d:t<a.length)(f:i<a.length):(XT a t i c).getD k []=
  if k=t then VL (Z1_ (at2 a i c)) (a.getD i []) else if k=i then a.getD t [] else a.getD k []:=by
 unfold XT;have g:(sw2 a t i).getD t []=a.getD i []:=by
  rw[sw3 a t i t d f];by_cases e:t=i;·rw[if_pos e,e]
  ·rw[if_neg e,if_pos rfl]
 have j:at2 (sw2 a t i) t c=at2 a i c:=by unfold at2;rw[g]
 rw[X4,Z75,j,g];by_cases e:k=t;·subst e;rw[if_pos ⟨rfl,d⟩,if_pos rfl]
 ·rw[if_neg (fun h=>e h.1.symm),if_neg e,sw3 a t i k d f];by_cases b:k=i;·rw[if_pos b,if_pos b]
  ·rw[if_neg b,if_neg b,if_neg e]
theorem Z5l (c t:Nat)(a:Zl)(k:Nat)(b:k<a.length):(elm c t a).getD k []=if k=t then a.getD k [] else Wi (at2 a k c) (a.getD t []) (a.getD k []):=by simp only[elm,at2,Z6,Z2W,Z7 b,Z0p,Yz]
theorem Z3p {a:Zl}(h:VA a n m=some k):n≤k∧k<a.length∧at2 a k m≠0:=by have c:=List.find?_some h;have b:=List.mem_of_find?_eq_some h;rw[Ws]at b;have:=of_decide_eq_true c;exact⟨this.1,b,this.2⟩
theorem Z9t {a:Zl}(h:VA a n m=none)(i:Nat)(b:n≤i)(c:i<a.length):at2 a i m=0:=by
 have:=List.find?_eq_none.1 h i (Ws.2 c);by_cases e:at2 a i m=0;·exact e
 ·exact absurd (decide_eq_true (And.intro b e)) this
theorem ZjH {a:Zl}{t c i:Nat}(d:t≤i)(l:i<a.length)(f:at2 a i c≠0)(m:∀j,t≤j→j<i→at2 a j c=0):VA a t c=some i:=by
 cases h:VA a t c with
 |none=>exact absurd (Z9t h i d l) f
 |some k=>
  have g:=Z3p h;rcases Nat.lt_trichotomy k i with e|e|e;·exact absurd (m k g.1 e) g.2.2
  ·rw[e]
  ·exfalso;have b:=h;unfold VA at b;rw[List.find?_range_eq_some]at b;have:=b.2.2 i e;rw[decide_eq_true (And.intro d f)]at this;exact absurd this Ze
theorem ZhS {a:Zl}(h:∀j,n≤j→j<a.length→at2 a j m=0):VA a n m=none:=by
 cases h':VA a n m with
 |none=>rfl
 |some k=>have b:=Z3p h';exact absurd (h k b.1 b.2.1) b.2.2
theorem ZgB {a:Zl}(l:Wd n a)(d:k<a.length)(j:i<a.length)(s:at2 a i m≠0)(x:Nat→Byte):
  Vy (elm m k (XT a k i m)) x↔Vy a x:=by
 have g:=fun b=>Z7f a k i m b d j;have q:=g k;rw[if_pos rfl]at q;have t:=Z9_ _ s;have r:∀b,b<a.length→((XT a k i m).getD b []).length=n:=fun b c=>by
  rw[g b];split;·rw[Z0Y];exact l i j
  ·split;·exact l k d
   ·exact l b c
 have o:∀b,b<a.length→dot ((elm m k (XT a k i m)).getD b []) x=if b=k then dot ((XT a k i m).getD b []) x else dot ((XT a k i m).getD b []) x ^^^ ZU (at2 (XT a k i m) b m) (dot ((XT a k i m).getD k []) x):=fun b c=>by
  rw[Z5l _ _ _ _ (by rw[VD];exact c)];split;·rfl
  ·rw[Z7j _ _ _ _ (by rw[r b c,r k d])]
 have v:Vy (elm m k (XT a k i m)) x↔Vy (XT a k i m) x:=by
  constructor
  ·intro h b c;rw[VD]at c;have f:=h k (by rw[Z2K,VD];exact d);rw[o k d,if_pos rfl]at f;by_cases e:b=k;·rw[e];exact f
   ·have:=h b (by rw[Z2K,VD];exact c);rw[o b c,if_neg e,f,WN,bx0]at this;exact this
  ·intro h b c;rw[Z2K,VD]at c;rw[o b c,h b (by rw[VD];exact c),h k (by rw[VD];exact d),WN,bx0];split <;> rfl
 rw[v];constructor
 ·intro h b c;have f:=h k (by rw[VD];exact d);rw[q,Zaq]at f;have w:dot (a.getD i []) x=0:=ZfY t.2 f;by_cases e:b=i;·rw[e];exact w
  ·by_cases p:b=k;·have:=h i (by rw[VD];exact j);rw[g i,if_neg (fun h=>e (p.trans h.symm)),if_pos rfl]at this;rw[p];exact this
   ·have:=h b (by rw[VD];exact c);rwa [g b,if_neg p,if_neg e]at this
 ·intro h b c;rw[VD]at c;rw[g b];split;·rw[Zaq,h i j,WN]
  ·split;·exact h k d
   ·exact h b c
theorem Zif {a:Zl}(c:Wd n a)(e:k<a.length)(f:i<a.length):Wd n (elm m k (XT a k i m)):=fun b d=>by
 rw[Z2K,VD]at d;have h:=Z7f a k i m b e f;have g:((XT a k i m).getD b []).length=n:=by
  rw[h];split;·rw[Z0Y];exact c i f
  ·split;·exact c k e
   ·exact c b d
 rw[Z5l _ _ _ _ (by rw[VD];exact d)];split;·exact g
 ·rw[VO];exact g
def Idn (c:Nat) (a:Zl):Prop:=∀i,i<a.length→∀j,j<c→at2 a i j=if i=j then 1 else 0
theorem Zgj {a:Zl}(f:Wd n a)(w:m<n)(g:k<a.length)(x:m≤k)(r:at2 a k m≠0)(h:Idn m a):Idn (m+1) (elm m m (XT a m k m)):=by
 have i:m<a.length:=Y;intro b c j d;rw[Z2K,VD]at c;have l:=fun b=>Z7f a m k m b i g;have s:=Z9_ _ r;have o:∀j,j<m+1→at2 (XT a m k m) m j=if m=j then 1 else 0:=fun j d=>by
  unfold at2;rw[l m,if_pos rfl,Z74];by_cases e:m=j;·subst e;rw[if_pos rfl];exact s.1
  ·rw[if_neg e];have:=h k g j Y;unfold at2 at this;rw[this,if_neg Y,WN]
 have t:∀b,b<a.length→b≠m→∀j,j<m→at2 (XT a m k m) b j=if b=j then 1 else 0:=fun b c v j d=>by
  unfold at2;rw[l b,if_neg v];by_cases e:b=k;·rw[if_pos e];have:=h m i j d;unfold at2 at this;rw[this,if_neg Y,if_neg Y]
  ·rw[if_neg e];exact h b c j d
 have y:((XT a m k m).getD b []).length=n:=by
  rw[l b];split;·rw[Z0Y];exact f k g
  ·split;·exact f m i
   ·exact f b c
 show((elm m m (XT a m k m)).getD b []).getD j 0=_;rw[Z5l _ _ _ _ (by rw[VD];exact c)];by_cases e:b=m;·rw[if_pos e,e];exact o j d
 ·rw[if_neg e,Z3z _ _ _ _ Y];have p:=o j d;unfold at2 at p;rw[p];by_cases q:m=j;·subst q;rw[if_pos rfl,if_neg e,Z1B,Z0m];exact bxx _
  ·rw[if_neg q,WN,bx0];exact t b c e j Y
theorem Zgg {a:Zl}(g:Wd n a)(p:m<n)(h:Idn m a)(k:VA a m m=none):
  ∃x:Nat→Byte,x m≠0∧(∀j,m<j→x j=0)∧Vy a x:=by
 refine⟨fun j=>if j=m then 1 else if j<m then at2 a j m else 0,by simp only[if_true];decide,fun j d=>?_,fun i b=>?_⟩;·show(if j=m then (1:Byte) else if j<m then at2 a j m else 0)=0;rw[if_neg Y,if_neg Y]
 ·have q:=g i b;unfold dot;by_cases e:i<m
  ·rw[Z6U _ i m Y Y Y (fun j d l o=>?_)];·simp only[if_true];rw[if_neg Y,if_pos e];have:=h i b i e;unfold at2 at this;rw[this,if_pos rfl,Z0m,Z1B,Z0m];exact bxx _
   ·simp only;by_cases c:j<m;·have:=h i b j c;unfold at2 at this;rw[this,if_neg (fun e=>l e.symm),WX]
    ·rw[if_neg o,if_neg c,WN]
  ·refine Z4Q _ fun j d=>?_;simp only;by_cases c:j<m;·have:=h i b j c;unfold at2 at this;rw[this,if_neg Y,WX]
   ·by_cases f:j=m;·have:=Z9t k i Y b;unfold at2 at this;rw[f,this,WX]
    ·rw[if_neg f,if_neg c,WN]
theorem Zgr (c:Nat)(s:Nat×Zl):(Z09 c s).2.length=s.2.length:=by
 unfold Z09;split;·rfl
 ·rw[Z2K,VD]
theorem Z2F (k:Nat)(s:Nat×Zl):(X0 k s).2.length=s.2.length:=by
 induction k with
 |zero=>rfl
 |succ k ih=>rw[X0,Zgr,ih]
theorem Z9O (c:Nat)(s:Nat×Zl)(h:s.1≤s.2.length):s.1≤(Z09 c s).1∧(Z09 c s).1≤s.1+1∧(Z09 c s).1≤s.2.length:=by
 unfold Z09;split;·exact⟨Z4 _,Y,h⟩
 ·rename_i i a;have:=Z3p a;exact⟨Ze,Ze,Zx⟩
theorem Z2A (k:Nat)(a:Zl):(X0 k (0,a)).1≤k∧(X0 k (0,a)).1≤a.length:=by
 induction k with
 |zero=>exact⟨Z4 _,ZY _⟩
 |succ k ih=>have b:=Z2F k (0,a);have:=Z9O k (X0 k (0,a)) (b ▸ ih.2);rw[X0];exact⟨Y,by rw[b]at this;exact this.2.2⟩
theorem Zdc (c:Nat)(s:Nat×Zl)(a:Wd n s.2)(x:Nat→Byte):Wd n (Z09 c s).2∧(Vy (Z09 c s).2 x↔Vy s.2 x):=by
 unfold Z09;split;·exact⟨a,Iff.rfl⟩
 ·rename_i i b;have h:=Z3p b;exact⟨Zif a Y h.2.1,ZgB a Y h.2.1 h.2.2 x⟩
theorem Z1g (k:Nat)(s:Nat×Zl)(a:Wd n s.2)(x:Nat→Byte):Wd n (X0 k s).2∧(Vy (X0 k s).2 x↔Vy s.2 x):=by
 induction k with
 |zero=>exact⟨a,Iff.rfl⟩
 |succ k ih=>have:=Zdc k (X0 k s) ih.1 x;exact⟨this.1,this.2.trans ih.2⟩
theorem Z56 (k:Nat)(a:Zl)(l:k≤n)(c:Wd n a)(h:(X0 k (0,a)).1=k):Idn k (X0 k (0,a)).2:=by
 induction k with
 |zero=>exact fun i _ j m=>Y
 |succ k ih=>
  have d:=Z2F k (0,a);have e:=Z2A k a;have o:=Z9O k (X0 k (0,a)) (d ▸ e.2);rw[X0]at h;have b:(X0 k (0,a)).1=k:=Y;have f:=ih Y b;have g:=(Z1g k (0,a) c (fun _=>0)).1;rw[X0];revert h;unfold Z09;rw[b];cases hb:VA (X0 k (0,a)).2 k k with
  |none=>intro h;simp only at h;omega
  |some i=>intro _;have:=Z3p hb;exact Zgj g Y this.2.1 this.1 this.2.2 f
theorem Zft (k:Nat)(a:Zl)(p:k≤n)(b:Wd n a)(h:(X0 k (0,a)).1≠k):
  ∃(x:Nat→Byte) (c:Nat),c<k∧x c≠0∧(∀j,c<j→x j=0)∧Vy a x:=by
 induction k with
 |zero=>exact absurd rfl h
 |succ k ih=>
  by_cases d:(X0 k (0,a)).1=k
  ·have l:=Z56 k a Y b d;have m:=(Z1g k (0,a) b (fun _=>0)).1;have q:=Z2F k (0,a);have r:=Z2A k a;have e:VA (X0 k (0,a)).2 k k=none:=by
    cases e:VA (X0 k (0,a)).2 k k with
    |none=>rfl
    |some i=>refine absurd ?_ h;rw[X0];unfold Z09;rw[d,e]
   obtain⟨x,g,f,o⟩:=Zgg m (show k<n from Y) l e;exact⟨x,k,Y,g,f,(Z1g k (0,a) b x).2.1 o⟩
  ·obtain⟨x,c,g,f⟩:=ih Y d;exact⟨x,c,Y,f⟩
def Wu (n:Nat) (a:Zl):Prop:=∀x:Nat→Byte,(∀j,n≤j→x j=0)→Vy a x→∀j,x j=0
theorem Z2M {a:Zl}(g:m≤n)(b:Wd n a):(Yh m a).1=m↔Wu m a:=by
 constructor
 ·intro h x k p j;by_cases l:m≤j;·exact k j l
  have o:=Z56 m a g b h;have q:=(Z1g m (0,a) b x).2.2 p;have r:=Z2F m (0,a);have A:=Z2A m a;have s:=(Z1g m (0,a) b x).1;have d:j<(X0 m (0,a)).2.length:=by rw[r];simp only;unfold Yh at h;omega
  have:=q j d;unfold dot at this;rw[Z3u _ j (by rw[s j d];omega) (fun i B t=>by
   by_cases v:i<m;·have:=o j d i v;unfold at2 at this;rw[this,if_neg (fun e=>t e.symm),WX]
   ·rw[k i Y,WN])]at this
  have f:=o j d j Y;unfold at2 at f;rwa [f,if_pos rfl,Z0m]at this
 ·intro h;by_cases e:(Yh m a).1=m;·exact e
  ·obtain⟨x,c,f,w,y,z⟩:=Zft m a g b e;exact absurd (h x (fun j l=>y j Y) z c) w
theorem Zhj (f:Nat→Byte)(n s:Nat):YE (n+s) f=YE n f ^^^ YE s (fun j=>f (n+j)):=by
 induction s with
 |zero=>exact(bx0 _).symm
 |succ s ih=>rw[show n+(s+1)=n+s+1 from Y,YE,ih,YE,Z1w]
def VX (n k:Nat) (x:Nat→Byte):Nat→Byte:=fun j=>if j<n then x j else if j=n+k then 1 else 0
theorem Zaw (a b:Y_)(x:Nat→Byte):dot (a++b) x=dot a x ^^^ dot b (fun j=>x (a.length+j)):=by
 unfold dot;rw[Zw,Zhj];congr 1;·exact Z1f _ fun j c=>by simp only[Z6,Yp c]
 ·exact Z1f _ fun j _=>by simp only[Z6];rw[Y7 Y,Z2l]
theorem Zgi (a b:Y_)(x:Nat→Byte)(k:Nat)(c:k<b.length):dot (a++b) (VX a.length k x)=dot a x ^^^ b.getD k 0:=by
 rw[Zaw];congr 1;·exact Z1f _ fun j d=>by simp only[VX,if_pos d]
 ·unfold dot;rw[Z3u _ k c (fun j _ e=>by simp only[VX];rw[if_neg Y,if_neg Y,WN])];simp only[VX];rw[if_neg Y,if_pos trivial,Z1B,Z0m]
theorem Z9v (a b:Y_)(x:Nat→Byte)(h:∀j,a.length≤j→x j=0):dot (a++b) x=dot a x:=by
 rw[Zaw];have:dot b (fun j=>x (a.length+j))=0:=Z4Q _ fun j _=>by simp only;rw[h _ Y,WN]
 rw[this,bx0]
def YK (a b:Zl):Zl:=a.mapIdx fun i r=>r++b.getD i []
theorem Z0U (a b:Zl):(YK a b).length=a.length:=by simp[YK]
theorem Z41 (a b:Zl)(i:Nat)(h:i<a.length):(YK a b).getD i []=a.getD i []++b.getD i []:=by simp only[YK,Z6,Z2W,Z7 h,Z0p,Yz]
theorem Z4d {a b:Zl}(d:Wd n a)(e:Wd m b)(f:a.length=b.length):Wd (n+m) (YK a b):=fun i c=>by rw[Z0U]at c;rw[Z41 a b i c,Zw,d i c,e i Y]
theorem Z6C {a b:Zl}(f:Wd n a):Wu n (YK a b)↔Wu n a:=by
 have g:∀x:Nat→Byte,(∀j,n≤j→x j=0)→(Vy (YK a b) x↔Vy a x):=fun x c=>by
  constructor;·intro h i d;have:=h i (by rw[Z0U];exact d);rwa [Z41 a b i d,Z9v _ _ _ (by rw[f i d];exact c)]at this
  ·intro h i d;rw[Z0U]at d;rw[Z41 a b i d,Z9v _ _ _ (by rw[f i d];exact c)];exact h i d
 exact⟨fun h x c e=>h x c ((g x c).2 e),fun h x c e=>h x c ((g x c).1 e)⟩
def Sol (a b:Zl) (s:Nat) (x:Nat→Nat→Byte):Prop:=∀i,i<a.length→∀k,k<s→dot (a.getD i []) (x k)=at2 b i k
theorem ZaU {a b:Zl}(f:Wd n a)(g:Wd m b)(l:a.length=b.length)(x:Nat→Nat→Byte):
  Sol a b m x↔∀k,k<m→Vy (YK a b) (VX n k (x k)):=by
 have e:∀i,i<a.length→∀k,k<m→dot ((YK a b).getD i []) (VX n k (x k))=dot (a.getD i []) (x k) ^^^ at2 b i k:=fun i c k d=>by have j:=f i c;have o:=g i Y;rw[Z41 a b i c,←j,Zgi _ _ _ _ Y];rfl
 constructor;·intro h k d i c;rw[Z0U]at c;rw[e i c k d,h i c k d,bxx]
 ·intro h i c k d;have:=h k d i (by rw[Z0U];exact c);rw[e i c k d]at this;exact Z7u this
theorem ZhG {l:Zl}(c:Wd (n+m) l)(t:Wu n l)(x:Nat→Nat→Byte)(v:∀k,k<m→Vy l (VX n k (x k))):
  n≤l.length∧(∀i,i<n→∀k,k<m→at2 (Yh n l).2 i (n+k)=x k i)∧∀i,n≤i→i<l.length→∀j,j<n+m→at2 (Yh n l).2 i j=0:=by
 have p:=(Z2M (show n≤n+m from Y) c).2 t;have d:=Z56 n l Y c p;have a:(Yh n l).2.length=l.length:=Z2F n (0,l);have B:=Z2A n l;have q:Wd (n+m) (Yh n l).2:=(Z1g n (0,l) c (fun _=>0)).1;have f:∀k,k<m→Vy (Yh n l).2 (VX n k (x k)):=fun k f=>(Z1g n (0,l) c _).2.2 (v k f);have w:n≤l.length:=by unfold Yh at p;omega
 have r:∀k,VX n k (x k) (n+k)=1:=fun k=>by simp only[VX];rw[if_neg Y,if_pos trivial]
 refine⟨w,fun i g k y=>?_,fun i g C j s=>?_⟩
 ·have:=f k y i (by rw[a];omega);unfold dot at this;rw[q i (by rw[a];omega),Z6U _ i (n+k) Y Y Y (fun j s h z=>by
   by_cases b:j<n;·have:=d i (show i<(Yh n l).2.length by rw[a];omega) j b;unfold at2 at this;unfold Yh;rw[this,if_neg (fun e=>h e.symm),WX]
   ·simp only[VX];rw[if_neg b,if_neg z,WN]),r k]at this
  have o:=d i (show i<(Yh n l).2.length by rw[a];omega) i g;unfold at2 at o;rw[if_pos rfl]at o;unfold Yh at this ⊢;rw[o,Z0m,Z1B,Z0m]at this;have A:VX n k (x k) i=x k i:=if_pos g;rw[A]at this;exact(Z7u this).symm
 ·by_cases b:j<n;·have:=d i (show i<(Yh n l).2.length by rw[a];omega) j b;rwa [if_neg Y]at this
  ·obtain⟨k,rfl⟩:∃k,j=n+k:=⟨j-n,Y⟩;have:=f k Y i (by rw[a];omega);unfold dot at this;rw[q i (by rw[a];omega),Z3u _ (n+k) Y (fun j s h=>by
    by_cases b:j<n;·have:=d i (show i<(Yh n l).2.length by rw[a];omega) j b;unfold at2 at this;unfold Yh;rw[this,if_neg Y,WX]
    ·simp only[VX];rw[if_neg b,if_neg h,WN]),r k,Z1B,Z0m]at this
   exact this
def VJ (n:Nat) (l:Zl):Zl:=(List.range n).map fun i=>((Yh n l).2.getD i []).drop n
theorem Za8 (n:Nat)(l:Zl)(i k:Nat)(a:i<n):at2 (VJ n l) i k=at2 (Yh n l).2 i (n+k):=by unfold at2 VJ;simp only[Z6,ZO,Vt a,Z0p,Yz,Z0o]
theorem Z1E (n:Nat)(l:Zl):(VJ n l).length=n:=by simp[VJ]
theorem Zau {l:Zl}(b:Wd (n+m) l)(e:n≤l.length):Wd m (VJ n l):=fun i a=>by rw[Z1E]at a;have c:(Yh n l).2.length=l.length:=Z2F n (0,l);have d:Wd (n+m) (Yh n l).2:=(Z1g n (0,l) b (fun _=>0)).1;have:=d i (by rw[c];omega);unfold VJ;simp only[Z6,ZO,Vt a,Z0p,Yz,Z0r];simp only[Z6]at this;omega
theorem Zgz {a b:Zl}(f:Wd n a)(l:Wd m b)(o:a.length=b.length)(s:a.length=n)(t:Wu n a):
  Sol a b m fun k j=>at2 (VJ n (YK a b)) j k:=by
 rw[ZaU f l o];intro k B;have c:=Z4d f l o;have v:Wu n (YK a b):=(Z6C f).2 t;have w:=(Z2M (show n≤n+m from Y) c).2 v;have p:=Z56 n _ Y c w;have x:(Yh n (YK a b)).2.length=n:=(Z2F n (0,YK a b)).trans ((Z0U a b).trans s);have y:Wd (n+m) (Yh n (YK a b)).2:=(Z1g n (0,YK a b) c (fun _=>0)).1;refine(Z1g n (0,YK a b) c _).2.1 fun i d=>?_;have g:i<n:=by rw[←x];exact d
 unfold dot;have q:=y i d;unfold Yh at q;rw[q,Z6U _ i (n+k) Y Y Y (fun j C z A=>by
  by_cases r:j<n;·have:=p i d j r;unfold at2 at this;rw[this,if_neg (fun e=>z e.symm),WX]
  ·simp only[VX];rw[if_neg r,if_neg A,WN])]
 have h:=p i d i g;unfold at2 at h;rw[if_pos rfl]at h;rw[h,Z0m,Z1B];simp only[VX];rw[if_pos g,if_neg Y,if_pos trivial,Z0m,Za8 n _ i k g];exact bxx _
def Ym (f:Nat→Byte):W_→Byte
 | []=>0
 |c::cs=>f c.toNat ^^^ Ym f cs
theorem Z2r {f g:Nat→Byte}:∀(a:W_),(∀c∈a,f c.toNat=g c.toNat)→Ym f a=Ym g a
 | [],_=>rfl
 |c::a,h=>by rw[Ym,Ym,h c (XP ..),Z2r a fun x b=>h x (XB _ b)]
theorem Z8Q {f:Nat→Byte}:∀(a:W_),(∀c∈a,f c.toNat=0)→Ym f a=0
 | [],_=>rfl
 |c::a,h=>by rw[Ym,h c (XP ..),Z8Q a fun x b=>h x (XB _ b),b0x]
theorem Z6L (f g:Nat→Byte):∀a:W_,Ym (fun c=>f c ^^^ g c) a=Ym f a ^^^ Ym g a
 | []=>(bxx (0:Byte)).symm
 |c::a=>by simp only[Ym,Z6L f g a];ac_rfl
theorem Z67 (f:Nat→Byte)(p:Int→Bool):∀a:W_,Ym f a=Ym f (a.filter p) ^^^ Ym f (a.filter fun c=> !p c)
 | []=>(bxx (0:Byte)).symm
 |c::a=>by
  rw[Ym,Z67 f p a];cases h:p c with
  |true=>rw[Z1v h,Z2h (by simp[h]),Ym];ac_rfl
  |false=>rw[Z2h (by simp[h]),Z1v (by simp[h]),Ym];ac_rfl
theorem filter_one {c:Int}:∀{a:W_},a.Nodup→c∈a→a.filter (fun x=>decide (x=c))=[c]
 | [],_,h=>by cases h
 |x::a,hn,h=>by
  rw[List.nodup_cons]at hn;by_cases e:x=c;·subst e;rw[Z1v Ze,List.filter_eq_nil_iff.2];intro y b;simp only[decide_eq_true_eq];exact fun e=>hn.1 (e ▸ b)
  ·rw[Z2h (by simp[e])];exact filter_one hn.2 ((Xy.1 h).resolve_left fun d=>e d.symm)
def but (c:Int) (a:W_):W_:=a.filter fun x=>decide (x≠c)
theorem Z9M (f:Nat→Byte)(a:s.Nodup)(h:c∈s):Ym f s=f c.toNat ^^^ Ym f (but c s):=by rw[Z67 f (fun x=>decide (x=c)),filter_one a h,Ym,Ym,bx0];congr 2;unfold but;congr 1;funext x;by_cases e:x=c <;> simp[e]
def VE (n:Nat) (a:W_):Y_:=a.foldl (fun r c=>r.set c.toNat 1) (List.replicate n 0)
theorem ZiO (r:Y_)(c:Nat)(x:Nat→Byte)(a:c<r.length)(b:r.getD c 0=0):dot (r.set c 1) x=dot r x ^^^ x c:=by
 unfold dot;rw[Ya];have:YE r.length (fun j=>ZU ((r.set c 1).getD j 0) (x j))=YE r.length (fun j=>ZU (r.getD j 0) (x j) ^^^ (if j=c then x c else 0)):=Z1f _ fun j _=>by
  rw[X4];by_cases e:c=j;·subst e;rw[if_pos ⟨rfl,a⟩,b,WX,b0x,if_pos rfl,Z0m]
  ·rw[if_neg (fun h=>e h.1),if_neg (fun h=>e h.symm),bx0]
 rw[this,Z52,Z3u _ c a (fun j _ d=>if_neg d),if_pos rfl]
theorem oneRow_aux (n:Nat)(x:Nat→Byte):∀(a:W_) (r:Y_),r.length=n→a.Nodup→(∀c∈a,0≤c∧c<(n:Int))→(∀c∈a,r.getD c.toNat 0=0)→
  dot (a.foldl (fun r c=>r.set c.toNat 1) r) x=dot r x ^^^ Ym x a
 | [],r,_,_,_,_=>(bx0 _).symm
 |c::a,r,hl,hn,hr,h0=>by rw[List.nodup_cons]at hn;have d:=hr c (XP ..);rw[Z1T,oneRow_aux n x a _ (by rw[Ya];exact hl) hn.2 (fun y b=>hr y (XB _ b)) (fun y b=>by have f:=hr y (XB _ b);rw[X4,if_neg (fun e=>hn.1 (by rw[show c=y from Y];exact b))];exact h0 y (XB _ b)),ZiO _ _ _ Y (h0 c (XP ..)),Ym,Z1w]
theorem Z23 (n:Nat)(x:Nat→Byte):dot (List.replicate n 0) x=0:=by unfold dot;refine Z4Q _ fun j _=>?_;rw[Z6,XY];split <;> exact WX _
theorem Z8l (n:Nat)(a:W_)(x:Nat→Byte)(b:a.Nodup)(d:∀c∈a,0≤c∧c<(n:Int)):dot (VE n a) x=Ym x a:=by unfold VE;rw[oneRow_aux n x a _ (Z0w ..) b d (fun c _=>by rw[Z6,XY];split <;> rfl),Z23,b0x]
theorem ZcF (n:Nat)(a:W_):(VE n a).length=n:=by
 unfold VE;have:∀(a:W_) (r:Y_),(a.foldl (fun r c=>r.set c.toNat 1) r).length=r.length:=fun a=>by
  induction a with
  |nil=>exact fun _=>rfl
  |cons c a ih=>exact fun r=>by rw[Z1T,ih,Ya]
 rw[this,Z0w]
structure ZJ where
 opn:List Bool
 used:List Bool
 steps:List (Nat×Int)
 dead:W_
def ZJ.isO (s:ZJ) (c:Int):Bool:=s.opn.getD c.toNat false
def ZJ.isU (s:ZJ) (i:Nat):Bool:=s.used.getD i false
def ZJ.new (n m:Nat):ZJ:=⟨List.replicate n true,List.replicate m false, [], []⟩
def ZJ.tell (s:ZJ) (i:Nat) (c:Int):ZJ:=⟨s.opn.set c.toNat false,s.used.set i true,s.steps++ [(i,c)],s.dead⟩
def ZJ.off (s:ZJ) (c:Int):ZJ:=⟨s.opn.set c.toNat false,s.used,s.steps,s.dead++ [c]⟩
def ZJ.os (s:ZJ) (r:W_):W_:=r.filter fun c=>s.isO c
structure Z18 (n:Nat) (L:List (List Int)) (s:ZJ):Prop where
 ol:s.opn.length=n
 ul:s.used.length=L.length
 st:∀k,k<s.steps.length→(s.steps.getD k (0,0)).1<L.length∧(s.steps.getD k (0,0)).2∈L.getD (s.steps.getD k (0,0)).1 []∧s.isO (s.steps.getD k (0,0)).2=false∧
  (s.steps.getD k (0,0)).2 ∉ s.dead∧(∀j,j<k→(s.steps.getD j (0,0)).2≠(s.steps.getD k (0,0)).2)∧
  ∀c∈L.getD (s.steps.getD k (0,0)).1 [],c≠(s.steps.getD k (0,0)).2→c∈s.dead∨∃j,j<k∧(s.steps.getD j (0,0)).2=c
 dd:∀c∈s.dead,0≤c∧c<(n:Int)∧s.isO c=false
 dn:s.dead.Nodup
 cl:∀c:Int,0≤c→c<(n:Int)→s.isO c=false→c∈s.dead∨∃k,k<s.steps.length∧(s.steps.getD k (0,0)).2=c
 us:∀i,i<L.length→(s.isU i=true↔∃k,k<s.steps.length∧(s.steps.getD k (0,0)).1=i)
 one:∀i,i<L.length→∀c,L.getD i []=[c]→c ∉ s.dead∧(s.isU i=true→s.isO c=false)
theorem Zg0 (n:Nat)(L:List (W_)):Z18 n L (ZJ.new n L.length) where
 ol:=by simp[ZJ.new]
 ul:=by simp[ZJ.new]
 st:=fun k a=>absurd a (by simp[ZJ.new])
 dd:=fun c f=>by cases f
 dn:=List.nodup_nil
 cl:=fun c e g b=>by exfalso;unfold ZJ.isO ZJ.new at b;rw[Z6,XY,if_pos Y]at b;cases b
 us:=fun i d=>by
  have e:(ZJ.new n L.length).isU i=false:=by unfold ZJ.isU ZJ.new;rw[Z6,XY,if_pos d];rfl
  rw[e];exact⟨fun h=>(by cases h),fun⟨k,a,_⟩=>absurd a (by simp[ZJ.new])⟩
 one:=fun i d c _=>⟨fun h=>(by cases h),fun h=>by unfold ZJ.isU ZJ.new at h;rw[Z6,XY,if_pos d]at h;cases h⟩
theorem Zam {o:List Bool}(b:0≤c)(f:0≤d)(a:c.toNat<o.length):(o.set c.toNat false).getD d.toNat false=if d=c then false else o.getD d.toNat false:=by
 rw[X4];by_cases e:d=c;·subst e;rw[if_pos ⟨rfl,a⟩,if_pos rfl]
 ·rw[if_neg (fun h=>e Y),if_neg e]
theorem ZeV {α:Type}(l:List α)(x d:α)(k:Nat):(l++ [x]).getD k d=if k=l.length then x else l.getD k d:=by
 simp only[Z6];by_cases h:k<l.length;·rw[Yp h,if_neg Y]
 ·by_cases e:k=l.length;·subst e;rw[if_pos rfl,Y7 Y];simp
  ·rw[if_neg e,Y7 Y,XX Zx,XX Y]
theorem ZdU {L:List (W_)}{s:ZJ}(h:Z18 n L s)(q:∀r∈L,∀c∈r,0≤c∧c<(n:Int))(t:m<L.length)(C:s.os (L.getD m [])=[c]):Z18 n L (s.tell m c):=by
 have i:c∈L.getD m []∧s.isO c=true:=by
  have:c∈s.os (L.getD m []):=by rw[C];exact Yn.2 rfl
  have:=YW.1 this;exact⟨this.1,this.2⟩
 have v:∀j,j<L.length→L.getD j []∈L:=fun j a=>by rw[Z6,Z7 a];exact Zp _
 have D:=q _ (v m t) c i.1;have J:c.toNat<s.opn.length:=by rw[h.ol];omega
 have l:∀x:Int,0≤x→(s.tell m c).isO x=if x=c then false else s.isO x:=fun x b=>Zam D.1 b J;have E:∀j,(s.tell m c).isU j=if m=j then true else s.isU j:=fun j=>by
  unfold ZJ.isU ZJ.tell;rw[X4];by_cases e:m=j;·subst e;rw[if_pos ⟨rfl,by rw[h.ul];exact t⟩,if_pos rfl]
  ·rw[if_neg (fun h=>e h.1),if_neg e]
 have g:∀k,(s.tell m c).steps.getD k (0,0)=if k=s.steps.length then (m,c) else s.steps.getD k (0,0):=fun k=>ZeV _ _ _ _;have o:(s.tell m c).steps.length=s.steps.length+1:=by simp[ZJ.tell]
 have M:c ∉ s.dead:=fun e=>by have:=(h.dd c e).2.2;rw[i.2]at this;cases this
 have N:∀j,j<s.steps.length→(s.steps.getD j (0,0)).2≠c:=fun j a e=>by have:=(h.st j a).2.2.1;rw[e,i.2]at this;cases this
 refine⟨by simp[ZJ.tell,h.ol],by simp[ZJ.tell,h.ul],fun k w=>?_,fun x b=>?_,h.dn,fun x F d y=>?_,fun j a=>?_,fun j a x b=>?_⟩
 ·rw[o]at w;rw[g k];by_cases e:k=s.steps.length
  ·rw[if_pos e];refine⟨t,i.1,by rw[l c D.1,if_pos rfl],M,fun j a=>?_,fun x b z=>?_⟩;·rw[g j,if_neg Y];exact N j Y
   ·have G:=q _ (v m t) x b;have A:s.isO x=false:=by
     cases A:s.isO x with
     |false=>rfl
     |true=>have:x∈s.os (L.getD m []):=YW.2 ⟨b,A⟩;rw[C]at this;exact absurd (Yn.1 this) z
    rcases h.cl x G.1 G.2 A with d|⟨j,a,d⟩;·exact .inl d
    ·exact .inr ⟨j,Y,by rw[g j,if_neg Y];exact d⟩
  ·rw[if_neg e];have O:k<s.steps.length:=Y;obtain⟨H,I,P,Q,R,S⟩:=h.st k O;refine⟨H,I,?_,Q,fun j a=>?_,fun x b z=>?_⟩
   ·rw[l _ (q _ (v _ H) _ I).1];split;·rfl
    ·exact P
   ·rw[g j,if_neg Y];exact R j a
   ·rcases S x b z with d|⟨j,a,d⟩;·exact .inl d
    ·exact .inr ⟨j,a,by rw[g j,if_neg Y];exact d⟩
 ·have:=h.dd x b;refine⟨this.1,this.2.1,?_⟩;rw[l x this.1];split;·rfl
  ·exact this.2.2
 ·rw[l x F]at y;by_cases e:x=c;·exact .inr ⟨s.steps.length,by rw[o];omega,by rw[g,if_pos rfl];exact e.symm⟩
  ·rw[if_neg e]at y;rcases h.cl x F d y with f|⟨k,w,f⟩;·exact .inl f
   ·exact .inr ⟨k,by rw[o];omega,by rw[g k,if_neg Y];exact f⟩
 ·rw[E j];by_cases e:m=j;·rw[if_pos e];exact⟨fun _=>⟨s.steps.length,by rw[o];omega,by rw[g,if_pos rfl];exact e⟩,fun _=>rfl⟩
  ·rw[if_neg e,h.us j a];constructor;·rintro⟨k,w,f⟩;exact⟨k,by rw[o];omega,by rw[g k,if_neg Y];exact f⟩
   ·rintro⟨k,w,f⟩;rw[g k]at f;by_cases p:k=s.steps.length;·rw[if_pos p]at f;exact absurd f e
    ·rw[if_neg p]at f;exact⟨k,Y,f⟩
 ·have d:=h.one j a x b;have T:=q _ (v j a) x (by rw[b];exact Yn.2 rfl);refine⟨d.1,fun B=>?_⟩;rw[l x T.1];rw[E j]at B;by_cases e:x=c;·rw[if_pos e]
  ·rw[if_neg e];by_cases p:m=j;·subst p;rw[b]at i;exact absurd (Yn.1 i.1).symm e
   ·rw[if_neg p]at B;exact d.2 B
theorem Zhv {L:List (W_)}{s:ZJ}(h:Z18 n L s)(t:0≤c)(F:c<(n:Int))(p:s.isO c=true)(G:∀i,i<L.length→s.isU i=false→(s.os (L.getD i [])).length≠1)(A:∀r∈L,∀c∈r,0≤c∧c<(n:Int)):Z18 n L (s.off c):=by
 have H:c.toNat<s.opn.length:=by rw[h.ol];omega
 have m:∀x:Int,0≤x→(s.off c).isO x=if x=c then false else s.isO x:=fun x f=>Zam t f H;have B:∀j,j<L.length→L.getD j []∈L:=fun j o=>by rw[Z6,Z7 o];exact Zp _
 have l:∀x,x∈(s.off c).dead↔x∈s.dead∨x=c:=fun x=>by unfold ZJ.off;rw[YZ,Yn]
 refine⟨by simp[ZJ.off,h.ol],h.ul,fun k I=>?_,fun x f=>?_,?_,fun x q J v=>?_,h.us,fun j o x f=>?_⟩
 ·obtain⟨C,D,w,M,N,O⟩:=h.st k I;refine⟨C,D,?_,fun e=>?_,N,fun x f P=>?_⟩
  ·show(s.off c).isO (s.steps.getD k (0,0)).2=false;rw[m _ (A _ (B _ C) _ D).1];split;·rfl
   ·exact w
  ·rcases(l _).1 e with g|g;·exact M g
   ·change (s.steps.getD k (0,0)).2=c at g;rw[g,p]at w;cases w
  ·rcases O x f P with d|d;·exact .inl ((l x).2 (.inl d))
   ·exact .inr d
 ·rcases(l x).1 f with d|d
  ·have:=h.dd x d;refine⟨this.1,this.2.1,?_⟩;rw[m x this.1];split;·rfl
   ·exact this.2.2
  ·subst d;exact⟨t,F,by rw[m x t,if_pos rfl]⟩
 ·show(s.dead++ [c]).Nodup;rw[List.nodup_append];refine⟨h.dn,Ze,fun a Q b E=>?_⟩;rw[Yn]at E;subst E;intro e;subst e;have:=(h.dd a Q).2.2;rw[p]at this;cases this
 ·rw[m x q]at v;by_cases e:x=c;·exact .inl ((l x).2 (.inr e))
  ·rw[if_neg e]at v;rcases h.cl x q J v with y|y;·exact .inl ((l x).2 (.inl y))
   ·exact .inr y
 ·have d:=h.one j o x f;have q:=A _ (B j o) x (by rw[f];exact Yn.2 rfl);refine⟨fun e=>?_,fun R=>?_⟩
  ·rcases(l x).1 e with g|g;·exact d.1 g
   ·subst g;have z:s.isU j=false:=by
     cases z:s.isU j with
     |false=>rfl
     |true=>have:=d.2 z;rw[p]at this;cases this
    refine G j o z ?_;unfold ZJ.os;rw[f,Z1v p];rfl
  ·rw[m x q.1];split;·rfl
   ·exact d.2 R
def Yd (a:Nat):Nat:=(a*6364136223846793005+1442695040888963407) % 18446744073709551616
def XH (a:Nat):Nat:=a / 4294967296
theorem Z3V (a:Nat):Yd a<18446744073709551616:=Vv _ Y
theorem ZfI (a:Nat)(h:a<18446744073709551616):XH a<4294967296:=by unfold XH;omega
def WO (l:Nat):Nat:=((List.range (l+1)).find? fun r=>decide (l≤r*r)).getD 0
def Z0R (r:Nat):Nat:=if r=0 then 0 else if r=1 then 1 else if r<4 then 2 else if r<8 then 3 else if r<16 then 4 else 5
def wgt (l k:Nat):Nat:=
 (if 1<k then 1048576 / (k*(k-1)) else 1048576 / l)+
 (if k<l / WO l then 1048576*WO l / (l*k) else if k=l / WO l then 1048576*WO l*Z0R (WO l) / l else 0)
theorem Z8a:∀l,l≤64→1≤l→(l≤WO l*WO l∧∀q,q<WO l→q*q<l)∧1≤WO l∧WO l≤8:=by decide+kernel
def Xr (l:Nat):Nat→Nat
 |0=>0
 |k+1=>Xr l k+wgt l (k+1)
def X7 (l:Nat):List Nat:=(List.range l).map fun i=>Xr l (i+1)
def Vk (t:List Nat) (x:Nat):Nat:=if t.getD (t.length-1) 0≤x then 0 else ((List.range t.length).find? fun i=>decide (x<t.getD i 0)).getD 0+1
theorem Z7g (t:List Nat)(x:Nat):Vk t x≤t.length:=by
 unfold Vk;split;·exact ZY _
 ·rename_i h;have a:0<t.length:=by
   rcases VG t.length with e|e;·rw[e]at h;have:t=[]:=List.length_eq_zero_iff.1 e;subst this;simp at h
   ·exact e
  cases hf:(List.range t.length).find? fun i=>decide (x<t.getD i 0) with
  |none=>simp;omega
  |some i=>have:=Ws.1 (List.mem_of_find?_eq_some hf);simp only[Yz];omega
def swN (l:List Nat) (i j:Nat):List Nat:=(l.set i (l.getD j 0)).set j (l.getD i 0)
def Vo (n:Nat):Nat→Nat×List Nat→Nat×List Nat
 |0,s=>s
 |i+1,s=>(Yd (Vo n i s).1,swN (Vo n i s).2 i (i+XH (Yd (Vo n i s).1) % (n-i)))
def Z33 (x:Nat):List Nat→List Nat
 | []=> [x]
 |y::l=>if x≤y then x::y::l else y::Z33 x l
def Z1R:List Nat→List Nat
 | []=> []
 |x::l=>Z33 x (Z1R l)
theorem Z6x (x:Nat):∀l,(Z33 x l).Perm (x::l)
 | []=>List.Perm.refl _
 |y::l=>by
  unfold Z33;split;·exact List.Perm.refl _
  ·exact((Z6x x l).cons y).trans (List.Perm.swap x y l)
theorem Z3R:∀l,(Z1R l).Perm l
 | []=>List.Perm.refl _
 |x::l=>(Z6x x _).trans ((Z3R l).cons x)
theorem Z85 (x:Nat):∀l:List Nat,l.Pairwise (· ≤ ·)→(Z33 x l).Pairwise (· ≤ ·)
 | [],_=>by simp[Z33]
 |y::l,h=>by
  unfold Z33;split
  ·rename_i b;exact VF.2 ⟨fun z a=>by
    rcases Xy.1 a with e|e;·omega
    ·have:=(VF.1 h).1 z e;omega,h⟩
  ·rename_i b;refine VF.2 ⟨fun z a=>?_,Z85 x l (VF.1 h).2⟩;rcases Xy.1 ((Z6x x l).mem_iff.1 a) with e|e;·omega
   ·exact(VF.1 h).1 z e
theorem Z5M:∀l,(Z1R l).Pairwise (· ≤ ·)
 | []=>List.Pairwise.nil
 |x::l=>Z85 x _ (Z5M l)
structure Inj (n:Nat) (l:List Nat):Prop where
 len:l.length=n
 lt:∀i,i<n→l.getD i 0<n
 inj:∀i j,i<n→j<n→l.getD i 0=l.getD j 0→i=j
theorem ZeF (n:Nat):Inj n (List.range n):=by
 have h:∀i,i<n→(List.range n).getD i 0=i:=fun i a=>by rw[Z6,Vt a];rfl
 exact⟨WZ,fun i a=>by rw[h i a];exact a,fun i j a b e=>by rwa [h i a,h j b]at e⟩
theorem ZiR (l:List Nat)(i j k:Nat)(c:i<l.length)(d:j<l.length):(swN l i j).getD k 0=if k=j then l.getD i 0 else if k=i then l.getD j 0 else l.getD k 0:=by
 unfold swN;rw[X4,X4,Ya];by_cases a:k=j;·subst a;simp[d]
 ·rw[if_neg (fun e=>a e.1.symm),if_neg a];by_cases b:k=i;·subst b;simp[c]
  ·rw[if_neg (fun e=>b e.1.symm),if_neg b]
theorem Zjv {l:List Nat}(h:Inj n l)(g:m<n)(i:k<n):Inj n (swN l m k):=by
 have p:=fun c=>ZiR l m k c (h.len ▸ g) (h.len ▸ i);refine⟨by unfold swN;simp[h.len],fun c w=>?_,fun a b q r e=>?_⟩
 ·rw[p c];split;·exact h.lt m g
  ·split;·exact h.lt k i
   ·exact h.lt c w
 ·have s:∀c,c<n→(swN l m k).getD c 0=l.getD (if c=k then m else if c=m then k else c) 0:=fun c _=>by
   rw[p c];by_cases j:c=k;·rw[if_pos j,if_pos j]
   ·rw[if_neg j,if_neg j];by_cases o:c=m;·rw[if_pos o,if_pos o]
    ·rw[if_neg o,if_neg o]
  rw[s a q,s b r]at e;have:=h.inj _ _ (by split;exact g;split;exact i;exact q) (by split;exact g;split;exact i;exact r) e;have x:∀a b:Nat,(if a=k then m else if a=m then k else a)=(if b=k then m else if b=m then k else b)→a=b:=fun a b=>by
   by_cases t:a=k
   ·rw[if_pos t];by_cases d:b=k;·rw[if_pos d];omega
    ·rw[if_neg d];by_cases f:b=m;·rw[if_pos f];omega
     ·rw[if_neg f];omega
   ·rw[if_neg t];by_cases v:a=m
    ·rw[if_pos v];by_cases d:b=k;·rw[if_pos d];omega
     ·rw[if_neg d];by_cases f:b=m;·rw[if_pos f];omega
      ·rw[if_neg f];omega
    ·rw[if_neg v];by_cases d:b=k;·rw[if_pos d];omega
     ·rw[if_neg d];by_cases f:b=m;·rw[if_pos f];omega
      ·rw[if_neg f];omega
  exact x a b this
theorem Z5o (n:Nat)(a:Nat):∀k,k≤n→Inj n (Vo n k (a,List.range n)).2
 |0,_=>ZeF n
 |k+1,hk=>by have b:=Z5o n a k Y;have:XH (Yd (Vo n k (a,List.range n)).1) % (n-k)<n-k:=Vv _ Y;exact Zjv b Y Y
def YQ (n b c:Nat):W_:=
 let a:=Yd (Yd (b ^^^ (c*2654435761 % 4294967296)));let k:=Vk (X7 n) (XH a % Xr n n);(Z1R ((Vo n k (a,List.range n)).2.take k)).map Int.ofNat
theorem Z0D (n f g:Nat):(∀c∈YQ n f g,0≤c∧c<(n:Int))∧(YQ n f g).Pairwise (· < ·):=by
 unfold YQ;simp only;generalize ha:Yd (Yd (f ^^^ (g*2654435761 % 4294967296)))=a;have m:Vk (X7 n) (XH a % Xr n n)≤n:=by
  have:=Z7g (X7 n) (XH a % Xr n n);have o:(X7 n).length=n:=by simp[X7]
  omega
 generalize Vk (X7 n) (XH a % Xr n n)=k at m ⊢;have d:=Z5o n a k m;generalize (Vo n k (a,List.range n)).2=l at d ⊢;have p:=Z3R (l.take k);have r:=Z5M (l.take k);have s:(l.take k).Nodup:=by unfold List.Nodup;rw[VH];intro i j t o A e;rw[ZK,d.len]at t o;rw[List.getElem_take,List.getElem_take]at e;have:=d.inj i j Y Y (by rw[Z6,Z6,Z7 (by rw[d.len];omega),Z7 (by rw[d.len];omega),e]);omega
 constructor;·intro c v;obtain⟨x,w,rfl⟩:=ZT.1 v;have y:=Z3F (p.mem_iff.1 w);obtain⟨i,q,e⟩:=ZZ y;have:=d.lt i (d.len ▸ q);rw[Z6,Z7 q,e]at this;simp only[Yz]at this;exact⟨Int.natCast_nonneg x,Int.ofNat_lt.2 this⟩
 ·have z:(Z1R (l.take k)).Nodup:=p.nodup_iff.2 s;rw[List.pairwise_map];refine List.Pairwise.imp ?_ (List.Pairwise.and r z);intro a b h;exact Int.ofNat_lt.2 (YU h.1 h.2)
theorem Z7_ (n a b:Nat):(YQ n a b).Nodup:=(Z0D n a b).2.imp fun h e=>Y
theorem Z4X (n a b:Nat):(YQ n a b).length≤n:=by
 unfold YQ;simp only;have c:=(Z3R ((Vo n (Vk (X7 n) (XH (Yd (Yd (a ^^^ (b*2654435761 % 4294967296)))) % Xr n n)) (Yd (Yd (a ^^^ (b*2654435761 % 4294967296))),List.range n)).2.take (Vk (X7 n) (XH (Yd (Yd (a ^^^ (b*2654435761 % 4294967296)))) % Xr n n)))).length_eq;have:=Z7g (X7 n) (XH (Yd (Yd (a ^^^ (b*2654435761 % 4294967296)))) % Xr n n);have d:(X7 n).length=n:=by simp[X7]
 rw[Zz,c,ZK];omega
