/- Mani3 Mani4 Counts StableNil Peel DecMath4 -/
import Derived.WalkLawsBesides
import Derived.Test.YtpokipdpjhookaaGreatDoorBTopRetires11
import Derived.Test.YtpokipdpjhookaaGreatDoorBTopRetires12
import Derived.Test.YtpokipdpjhookaaGreatDoorBTopRetires13
set_option maxHeartbeats 8000000
set_option maxRecDepth 20000
set_option linter.all false
namespace Go.Proofs
open Go Go.RowKit Tryz
variable {w:World} {n:Nat} {t:TypeId} {s:List Int} {c:Int}
def Z0H (w:U1) (g:Nat) (x:Zr) (tv:U2):Prop:=
 w.cell? ⟨g,0,none⟩=some (.string (Zn x.name))∧w.cell? ⟨g,1,none⟩=some (.int .i64 x.obj)∧w.cell? ⟨g,2,none⟩=some (.int .i64 x.len)∧w.cell? ⟨g,3,none⟩=some tv
abbrev Z1r (t:TypeId) (x:Zr) (tv:U2):Obj:= .cells #[.string (Zn x.name),.int .i64 x.obj,.int .i64 x.len,tv] t
theorem Z0H.of_row {x:Zr}{tv:U2}(h:Row w n t [.string (Zn x.name),x.obj,x.len,tv]):Z0H w n x tv:=
 ⟨h.cell 0,h.cell 1,h.cell 2,h.cell 3⟩
theorem Z0H.new (w:U1)(t:TypeId)(x:Zr)(a:U2):Z0H (w.alloc (Z1r t x a)) w x a:= .of_row (Row.new w t _)
theorem Zgm {k:Nat}(a:k<s.length)(h:decide (0≤s.getD k 0∧s.getD k 0≤15)=false):Z0k s=false:=by unfold Z0k;rw[List.all_eq_false];refine⟨s.getD k 0,?_,by rw[h];simp⟩;rw[Z6,Z7 a];exact Zp _
theorem Zfu (h:∀k,k<s.length→decide (0≤s.getD k 0∧s.getD k 0≤15)=true):Z0k s=true:=by unfold Z0k;rw[Wq];intro c b;obtain⟨k,a,rfl⟩:=ZZ b;have:=h k a;rwa [Z6,Z7 a]at this
theorem Zds (B:Nat)(A:X_)(l:W_)(n c:Nat)(b:Bool)(w:U1)(h:Sl w B 1 A n (l.map iv))(H:n≤9223372036854775807)(t:Z0k l=b):
  Calls prog 106 #[(A,n,c),.func (Fn.func 239) #[] #[]] w fun e C=>(∃r:Int,e=.returned r∧decide (0≤r)= !b)∧w=C:=by
 have g:=Z (show l.length=n by have:=h.len;simpa using this);have v:=Z t;clear t;go_enter func106,ntmps106;go_wp2;go_loop [8] (fun i=>∃k:Nat,k≤n∧i=.int .i64 k∧Hid (∀j,j<k→decide (0≤l.getD j 0∧l.getD j 0≤15)=true)) (fun i=>n-(intOf i).toNat)
 ·exact⟨0,ZY _,rfl,Z (fun j a=>absurd a Y)⟩
 ·obtain⟨k,I,rfl,y⟩:=hrel;by_cases m:k<n
  ·obtain⟨J,o,rfl,L,D⟩:=h.get m (Z4e l k (g ▸ m));obtain⟨x,p⟩:=Zb (l.getD k 0);have z:=Z p;rw[p]at D;clear p;obtain⟨E,q⟩:∃b,decide (0≤x∧x≤15)=b:=⟨_,rfl⟩;have f:=Z q;cases E with
   |false=>have F:b=false:=(by rw[←v];exact Zgm (k:=k) (g ▸ m) (z ▸ f));subst F;clear q;go_wp2_with fail;refine(Zaj x false w f).mono ?_;rintro e s ⟨rfl,d⟩;rw[←d];clear d s;go_wp2;go_ret;exact⟨⟨_,rfl,Ze⟩,rfl⟩
   |true=>
    clear q;go_wp2_with fail;refine(Zaj x true w f).mono ?_;rintro e s ⟨rfl,d⟩;rw[←d];clear d s;go_wp2;go_round
    ·exact⟨k+1,Y,Zg,Z (fun j a=>by
     rcases Yf j k with h|h;·exact y j h
     ·have e:j=k:=Y;rw[e,z];exact f)⟩
    ·exact Zh
  ·obtain rfl:k=n:=Y;have G:b=true:=(by rw[←v];exact Zfu (fun j a=>y j (by rw[g]at a;exact a)));subst G;go_wp2;go_ret;exact⟨⟨_,rfl,Ze⟩,rfl⟩
theorem Zcz (B:Nat)(A:X_)(l:W_)(n c:Nat)(b:Bool)(w:U1)(h:Sl w B 1 A n (l.map iv))(f:n≤9223372036854775807)(g:Z0k l=b):
  Calls prog 109 #[(A,n,c),.func (Fn.func 239) #[] #[]] w fun e i=>e=.returned (.bool (!b))∧w=i:=by
 go_enter func109,ntmps109;go_wp2_with fail;refine(Zds B A l n c b w h f g).mono ?_;rintro e j ⟨⟨r,rfl,a⟩,d⟩;rw[←d];clear d j;have k:=Z a;clear a;go_wp2;go_ret;exact⟨Xu k,rfl⟩
theorem ZeD (m:Zd)(x:Zr)(B:Nat)(i j g:X_)(k l no n d o:Nat)(b:Bool)(w:U1)(hs:Sl w B 1 g d (x.tries.map iv))(hB:B≤w)(a5:x.tries.length=d)(a6:d≤9223372036854775807)(a7:x.name.length≤1048576)
  (U:m.P.may=true) (ai:0≤m.next∧m.next≤16777216) (a8: -9223372036854775808≤x.len∧x.len≤9223372036854775807) (c:V6 m x=b):
  Calls prog 178 #[m.val (i,k,l) (j,no,n),x.val (g,d,o)] w fun e f=>e=.returned (.bool b)∧Below w w f:=by
 have a9:=Zf.may_ok U;obtain⟨k1,k2,_,_,s1,s2⟩:=a9;have V:=Zf.size_le (Zf.may_ok U);unfold Zf.size at V;obtain⟨y,W⟩:∃q,m.P.K*m.P.S=q:=⟨_,rfl⟩;rw[W]at V;have aj:IntKind.i64.wrap (y*8)=y*8:=by rw[Xe];omega
 obtain⟨z,A⟩:∃q,Z0l x.name=q:=⟨_,rfl⟩;obtain⟨C,D⟩:∃q,decide (0≤x.obj∧x.obj≤m.next-1)=q:=⟨_,rfl⟩;obtain⟨E,a⟩:∃q,decide (0≤x.len∧x.len≤y*8)=q:=⟨_,rfl⟩;obtain⟨F,G⟩:∃q,Z0k x.tries=q:=⟨_,rfl⟩;obtain⟨I,p⟩:∃q,countP m.P x.len=q:=⟨_,rfl⟩;have a0:b=(z && (C && (E && (F && decide ((d:Int)=I))))):=by rw[←c];unfold V6;rw[W,A,D,a,G,p,a5]
 have t:=Z a0;have H1:=Z A;have H2:=Z D;have H3:=Z a;have H4:=Z G;have HC:=Z p;have a1:=Z01.new w 75 m (i,k,l) (j,no,n);have J:Below w w (w.alloc (Z1l 75 m (i,k,l) (j,no,n))):=(Z8 _ _).alloc (Z4 _) _;have a2:=Z0H.new (w.alloc (Z1l 75 m (i,k,l) (j,no,n))) 116 x (g,d,o);have L:=J.alloc J.size (Z1r 116 x (g,d,o));have aa:=a1.keep ((Z8 (w.alloc (Z1l 75 m (i,k,l) (j,no,n))).heap.size _).alloc (Z4 _) (Z1r 116 x (g,d,o))) Ze;have a3:(w.alloc (Z1l 75 m (i,k,l) (j,no,n))).heap.size=w.heap.size+1:=Ze;rw[a3]at a2;clear a0 A D a G p c J a1 a3;unfold Zd.val Zr.val;go_enter func178,ntmps178;obtain⟨c0,c1,M,N,O,c5,c6,c7⟩:=aa;obtain⟨e0,e1,Q,R⟩:=a2;go_wp2_with fail;generalize (w.alloc (Z1l 75 m (i,k,l) (j,no,n))).alloc (Z1r 116 x (g,d,o))=w2 at*;have ab:=L.size;refine(Z9y x.name z w2 a7 H1).mono ?_;rintro e r ⟨rfl,a⟩;have ak:=a.size;replace c1:=ZF a c1;replace M:=ZF a M;replace N:=ZF a N;replace O:=ZF a O;replace e1:=ZF a e1;replace Q:=ZF a Q;replace R:=ZF a R;have s:=L.trans (a.mono ab);clear a L c0 c5 c6 c7 e0;cases z with
 |false=>
  have c:b=false:=by rw[t];rfl
  subst c;go_wp2;go_ret;exact⟨rfl,s⟩
 |true=>
 go_wp2_with fail;refine(Z1e x.obj 0 (m.next-1) C r H2).mono ?_;rintro e v ⟨rfl,h⟩;rw[←h];clear h v;cases C with
 |false=>
  have c:b=false:=by rw[t];rfl
  subst c;go_wp2;go_ret;exact⟨rfl,s⟩
 |true=>
 go_wp2_with fail;refine(Z1e x.len 0 (y*8) E r H3).mono ?_;rintro e v ⟨rfl,h⟩;rw[←h];clear h v;cases E with
 |false=>
  have c:b=false:=by rw[t];rfl
  subst c;go_wp2;go_ret;exact⟨rfl,s⟩
 |true=>
 have ac:=hs.below (s.mono hB);go_wp2_with fail;refine(Zcz B g x.tries d o F r ac a6 H4).mono ?_;rintro e v ⟨rfl,h⟩;rw[←h];clear h v;cases F with
 |false=>
  have c:b=false:=by rw[t];rfl
  subst c;go_wp2_with fail;go_quiet (fail)
  go_wp2;go_ret;exact⟨rfl,bq_ s _⟩
 |true=>
 have c:b=decide ((d:Int)=I):=by rw[t];rfl
 have ad:=Z c;obtain⟨P,T⟩:=Zb m.P;have p:=HC.out;have a4:Zf.val P=.agg #[m.P.K,m.P.H,m.P.S]:=by rw[←T];rfl
 rw[T]at p;have ae:=Z p;have af:=Z a4;clear c p T a4;go_wp2_with fail;go_region_held3 (fun f=>f.cell? (w.heap.size,2)=some (.int .i64 m.P.K)∧f.cell? (w.heap.size,3)=some (.int .i64 m.P.H)∧f.cell? (w.heap.size,4)=some (.int .i64 m.P.S)∧f.cell? ⟨w.heap.size+1,2,none⟩=some (.int .i64 x.len)∧f.cell? ⟨w.heap.size+1,3,none⟩=some (.slice g d o)∧Below r r f)
  (first
   |exact H5.drew ⟨M,N,O,Q,R,Z8 _ _⟩
   |exact H5.keep ag (by assumption)
   |exact H5.draws (by assumption) _)
  (first
   | (go_at_call 82;rw[←af];refine(Z3X P x.len I _ a8 ae).mono ?_;rintro e f ⟨rfl,ag⟩))
 have hh:=H5.below ‹_∧_∧_∧_∧_∧Below r r _›;have ah:=s.trans (hh.mono Y);go_wp2;go_ret;exact⟨Xu (by rw[ad];first|rfl|simp),ah⟩
theorem Zi2 {a:List Zr}{k:Nat}(b:k<a.length)(h:(a.getD k default).obj=c):a.all (fun y=> !decide (y.obj=c))=false:=by rw[List.all_eq_false];refine⟨a.getD k default,?_,by rw[decide_eq_true h];simp⟩;rw[Z6,Z7 b];exact Zp _
theorem Zhs {b:List Zr}(h:∀k,k<b.length→¬(b.getD k default).obj=c):b.all (fun y=> !decide (y.obj=c))=true:=by rw[Wq];intro a e;obtain⟨k,d,rfl⟩:=ZZ e;have:=h k d;rw[Z6,Z7 d]at this;simpa using this
theorem Z81 (y:Zr)(A:X_)(n c:Nat)(a:Nat)(o:Int)(b:Bool)(w:U1)(f:w.cell? (a,1)=some (.int .i64 o))(g:decide (y.obj=o)=b):
  Calls prog 180 #[y.val (A,n,c),(a,())] w fun e h=>e=.returned (.bool b)∧Below w w h:=by
 have i:=Z g;have j:=Z0H.new w 116 y (A,n,c);have d:=(Z8 w w).alloc (Z4 _) (Z1r 116 y (A,n,c));have l:=ZF d f;obtain⟨m,p,q,r⟩:=j;unfold Zr.val;go_enter func180,ntmps180;go_wp2;go_ret;exact⟨Xu (by rw[←i];first|rfl| (by_cases k:y.obj=o <;> simp[k])),d⟩
theorem Zdq (B:Nat)(A:X_)(n c:Nat)(Q:Z_)(m:List Zr)(a:Nat)(o:Int)(b:Bool)(w:U1)(h:V8 w B A n Q m)(R:B≤w.heap.size)(hn:n≤9223372036854775807)(d:w.cell? ⟨a,1,none⟩=some (.int .i64 o))(v:m.all (fun y=> !decide (y.obj=o))=b):
  Calls prog 146 #[.slice A n c,.func (Fn.func 180) #[] #[.pointer (some ⟨a,0,none⟩)]] w fun e S=>(∃r:Int,e=.returned (.int .i64 r)∧decide (0≤r)= !b)∧Below w.heap.size w S:=by
 have z:=Z h.len;have C:=Z v;have H:=h;have D:=Z d;clear v h d;go_enter func146,ntmps146;go_wp2;go_loopw [8] (fun i wr=>∃k:Nat,k≤n∧i=.int .i64 k∧Below w.heap.size w wr∧Hid (∀j,j<k→¬(m.getD j default).obj=o)) (fun i _=>n-(intOf i).toNat)
 ·exact⟨0,ZY _,rfl,Z8 _ _,Z (fun j l=>absurd l (by omega))⟩
 ·obtain⟨k,hk,rfl,f,E⟩:=hrel;have F:=f.size;by_cases G:k<n
  ·obtain⟨bb,o',I,J,rfl,a3,T,U,V,W,L,a4,M⟩:=(H.below (f.mono R)).get G;have N:wr.cell? ⟨a,1,none⟩=some (.int .i64 o):=(f.cell (p:=⟨a,1,none⟩) (YC w _ D)).trans D;obtain⟨x,d⟩:=Zb (m.getD k default);have O:=Z d;rw[d]at T U V W L M;have P:=Z N;clear d N M L;by_cases g:x.obj=o;·have a0:b=false:=(by rw[←C];exact Zi2 (k:=k) (z ▸ G) (O ▸ g));subst a0;have q:=Z (decide_eq_true g);clear g;go_wp2_with fail;refine(Z81 x I x.tries.length J a o true wr P q).mono ?_;rintro e w3 ⟨rfl,s⟩;have t:=f.trans (s.mono F);go_wp2;go_ret;exact⟨⟨_,rfl,by simp⟩,t⟩
   ·have q:=Z (decide_eq_false g);have a1:=Z g;clear g;go_wp2_with fail;refine(Z81 x I x.tries.length J a o false wr P q).mono ?_;rintro e w3 ⟨rfl,s⟩;have t:=f.trans (s.mono F);go_wp2;go_roundw
    ·exact⟨k+1,by omega,by go_num,t,Z (fun j l=>by
     rcases Yf j k with h|h;·exact E j h
     ·have e:j=k:=(by omega);rw[e,O];exact a1)⟩
    ·simp[intOf];omega
  ·obtain rfl:k=n:=by omega
   have a2:b=true:=(by rw[←C];exact Zhs (fun j l=>E j (by rw[z]at l;exact l)));subst a2;go_wp2;go_ret;exact⟨⟨_,rfl,by simp⟩,f⟩
theorem Z8j (B:Nat)(A:X_)(n c:Nat)(f:Z_)(a:List Zr)(d:Nat)(o:Int)(b:Bool)(w:U1)(h:V8 w B A n f a)(j:B≤w)(k:n≤9223372036854775807)(g:w.cell? (d,1)=some (.int .i64 o))(l:a.all (fun y=> !decide (y.obj=o))=b):
  Calls prog 179 #[(A,n,c),.func (Fn.func 180) #[] #[(d,())]] w fun e m=>e=.returned (.bool (!b))∧Below w w m:=by
 have p:=Z g;clear g;go_enter func179,ntmps179;go_wp2_with fail;refine(Zdq B A n c f a d o b w h j k p l).mono ?_;rintro e t ⟨⟨r,rfl,i⟩,q⟩;have s:=Z i;clear i;go_wp2;go_ret;exact⟨Xu s,q⟩
def Z19 (r:Rec) (y:Zr):Bool:=decide (y.obj=r.O) && (decide (r.B<(y.tries.length:Int)) && decide (r.S=Wm r.O r.B (y.tries.getD r.B.toNat 0)))
def Vp (m:Zd) (r:Rec):Bool:=r.may && (decide (r.P=m.P) && m.objs.any (Z19 r))
theorem Zim {a b:Zf}(c:a.K=b.K)(d:a.H=b.H)(e:a.S=b.S):a=b:=by cases a;cases b;simp only at c d e;rw[c,d,e]
theorem ZcS (r:Rec)(y:Zr)(A G:X_)(n c J L v B:Nat)(b:Bool)(w:U1)(x:Row w v 159 [r.O,r.B,r.I,r.P.K,r.P.H,r.P.S,.int .u32 (r.S.toNat:Int),(G,J,L)])
  (M:Sl w B 1 A n (y.tries.map iv)) (N:B≤w) (Q:y.tries.length=n) (R:0≤r.B) (a2:n≤9223372036854775807) (T:Z19 r y=b):
  Calls prog 231 #[y.val (A,n,c),(v,())] w fun e p=>e=.returned (.bool b)∧Below w w p:=by
 have i:=Z T;have U:=Z0H.new w 116 y (A,n,c);have q:=(Z8 w w).alloc (Z4 _) (Z1r 116 y (A,n,c));have s:=x.below q x.lt;have V:=M.below (q.mono N);obtain⟨e0,e1,e2,e3⟩:=U;have c0:=Z9 s 0;have c1:=Z9 s 1;have c4:=Z9 s 6;have j:=Z q;have l:=Z Q;obtain⟨O,rB,I,⟨K,H,S⟩,m,D⟩:=r;obtain⟨nm,a,yl,C⟩:=y;simp only at*;obtain⟨k,rfl⟩:=Z3I R;unfold Zr.val;unfold Z19 at i;simp only at*;by_cases d:a=O
 ·subst d;have W:(a==a)=true:=Ze;by_cases g:k<n
  ·obtain⟨bb,o,e9,a3,a0⟩:=V.get g (Z1i C k (l ▸ g));subst e9;have t:(k:Int)<(n:Int):=Y;obtain⟨z,E⟩:=Zb (C.getD k 0);rw[E]at a0;have F:=Z E;by_cases h:m=Wm a k z
   ·have f:b=true:=(by have:=i.out;rw[ZL,F,l,decide_eq_true h,decide_eq_true t]at this;simpa using this.symm);subst f;have t3:((m.toNat:Int)==((Wm a k z).toNat:Int))=true:=(by rw[h];simp);have H3:=Z h;go_enter func231,ntmps231;go_wp2_with fail;go_quiet ((go_at_call 94;exact Calls.quiet_of_same ((Z3Z a k z _).mono (fun e p ⟨d,g⟩=>⟨d,g.symm⟩))))
    go_wp2;go_ret;exact⟨rfl,bq_ j _⟩
   ·have f:b=false:=(by have:=i.out;rw[ZL,F,l,decide_eq_false h]at this;simpa using this.symm);subst f;have t3:((m.toNat:Int)==((Wm a k z).toNat:Int))=false:=(by have:m.toNat≠(Wm a k z).toNat:=fun h9=>h (Z0s h9);simp;omega);have H3:=Z h;go_enter func231,ntmps231;go_wp2_with fail;go_quiet ((go_at_call 94;exact Calls.quiet_of_same ((Z3Z a k z _).mono (fun e p ⟨d,g⟩=>⟨d,g.symm⟩))))
    go_wp2;go_ret;exact⟨rfl,bq_ j _⟩
  ·have t:¬(k:Int)<(n:Int):=Y;have a1:decide ((k:Int)<n)=false:=decide_eq_false t;have f:b=false:=(by have:=i.out;rw[l,a1]at this;simpa using this.symm);subst f;go_enter func231,ntmps231;go_wp2_with fail;go_quiet (fail)
   go_wp2;go_ret;exact⟨rfl,bq_ j _⟩
 ·have W:(a==O)=false:=by simp[d]
  have f:b=false:=by have:=i.out;rw[decide_eq_false d]at this;simpa using this.symm
  subst f;go_enter func231,ntmps231;go_wp2_with fail;go_quiet (fail)
  go_wp2;go_ret;exact⟨rfl,bq_ j _⟩
theorem Zas {α:Type}[Inhabited α]{es:List α}{p:α→Bool}{k:Nat}(a:k<es.length)(h:p (es.getD k default)=true):es.any p=true:=by rw[Z1u];exact⟨_,by rw[Z6,Z7 a];exact Zp _,h⟩
theorem Zb6 {α:Type}[Inhabited α]{es:List α}{p:α→Bool}(h:∀k,k<es.length→p (es.getD k default)=false):es.any p=false:=by rw[List.any_eq_false];intro x b;obtain⟨k,a,rfl⟩:=ZZ b;have:=h k a;rw[Z6,Z7 a]at this;simpa using this
def Z9N (r:Rec) (a:X_) (b c:Nat):Z_:= [.int .i64 r.O,.int .i64 r.B,.int .i64 r.I,.int .i64 r.P.K,.int .i64 r.P.H,.int .i64 r.P.S,.int .u32 (r.S.toNat:Int),.slice a b c]
theorem ZcJ (r:Rec)(B:Nat)(A o:X_)(n c p s:Nat)(M:Z_)(f:List Zr)(g:Nat)(b:Bool)(w:U1)(h:V8 w B A n M f)(t:B≤w)(hn:n≤9223372036854775807)(N:Row w g 159 (Z9N r o p s))(O:0≤r.B)(P:f.any (Z19 r)=b):
  Calls prog 146 #[(A,n,c),.func (Fn.func 231) #[] #[(g,())]] w fun e Q=>(∃z:Int,e=.returned z∧decide (0≤z)=b)∧Below w w Q:=by
 have v:=Z h.len;have y:=Z P;have H:=h;have C:=N;have R:=Z O;go_enter func146,ntmps146;go_wp2;go_loopw [8] (fun i wr=>∃k:Nat,k≤n∧i=.int .i64 k∧Below w w wr∧Hid (∀j,j<k→Z19 r (f.getD j default)=false)) (fun i _=>n-(intOf i).toNat)
 ·exact⟨0,ZY _,rfl,Z8 _ _,Z (fun j a=>absurd a Y)⟩
 ·obtain⟨k,hk,rfl,d,D⟩:=hrel;have E:=d.size;by_cases F:k<n
  ·obtain⟨bb,o',S,T,U,a4,V,W,e2,e3,a0,a5,G⟩:=(H.below (d.mono t)).get F;subst U;obtain⟨x,I⟩:=Zb (f.getD k default);have J:=Z I;rw[I]at V W e2 e3 a0 G;have a1:=C.below d C.lt;obtain⟨q,hq⟩:=Zb (Z19 r x);have l:=Z hq;have a2:x.tries.length≤9223372036854775807:=Y;go_wp2_with fail;refine(ZcS r x S o x.tries.length T p s g B q wr a1 G (Zj t E) rfl R a2 l).mono ?_;rintro e w3 ⟨rfl,a3⟩;have L:=d.trans (a3.mono E);cases q with
   |true=>have m:b=true:=(by rw[←y];exact Zas (k:=k) (v ▸ F) (J ▸ l));subst m;go_wp2;go_ret;exact⟨⟨_,rfl,Ze⟩,L⟩
   |false=>
    go_wp2;go_roundw
    ·exact⟨k+1,Y,Zg,L,Z (fun j a=>by
     rcases Yf j k with h|h;·exact D j h
     ·have e:j=k:=Y;rw[e,J];exact l)⟩
    ·exact Zh
  ·obtain rfl:k=n:=Y;have m:b=false:=(by rw[←y];exact Zb6 (fun j a=>D j (by rw[v]at a;exact a)));subst m;go_wp2;go_ret;exact⟨⟨_,rfl,Ze⟩,d⟩
theorem ZcE (r:Rec)(B:Nat)(A g:X_)(n c i j:Nat)(k:Z_)(d:List Zr)(f:Nat)(b:Bool)(w:U1)(h:V8 w B A n k d)(m:B≤w)(o:n≤9223372036854775807)(a:Row w f 159 (Z9N r g i j))(l:0≤r.B)(p:d.any (Z19 r)=b):
  Calls prog 179 #[(A,n,c),.func (Fn.func 231) #[] #[(f,())]] w fun e q=>e=.returned (.bool b)∧Below w w q:=by
 have s:=a;have t:=Z l;clear a l;go_enter func179,ntmps179;go_wp2_with fail;refine(ZcJ r B A g n c i j k d f b w h m o s t p).mono ?_;rintro e y ⟨⟨z,rfl,a⟩,v⟩;have x:=Z a;clear a;go_wp2;go_ret;exact⟨Xu x,v⟩
theorem Zd7 (m:Zd)(r:Rec)(B:Nat)(f a g:X_)(i j no c d k:Nat)(E:Z_)(b:Bool)(w:U1)(h:RM w B m f i j a no c E)(F:B≤w)(M:r.D.length=d)(N:no≤9223372036854775807)(Q:Vp m r=b):
  Calls prog 160 #[m.val (f,i,j) (a,no,c),r.val (g,d,k)] w fun e z=>e=.returned (.bool b)∧Below w w z:=by
 have s:=Z Q;unfold Vp at s;have R:=Z M;have T:=Row.new w 75 #[m.seq,m.next,m.P.K,m.P.H,m.P.S,m.extra,(f,i,j),(a,no,c)];have t:=Row.new (w.alloc (.cells #[m.seq,m.next,m.P.K,m.P.H,m.P.S,m.extra,(f,i,j),(a,no,c)] 75)) 159 #[r.O,r.B,r.I,r.P.K,r.P.H,r.P.S,.int .u32 (r.S.toNat:Int),(g,d,k)];have G:=T.alloc (.cells #[r.O,r.B,r.I,r.P.K,r.P.H,r.P.S,.int .u32 (r.S.toNat:Int),(g,d,k)] 159);have v:=((Z8 w w).alloc (Z4 _) (.cells #[m.seq,m.next,m.P.K,m.P.H,m.P.S,m.extra,(f,i,j),(a,no,c)] 75)).alloc Ze (.cells #[r.O,r.B,r.I,r.P.K,r.P.H,r.P.S,.int .u32 (r.S.toNat:Int),(g,d,k)] 159);have U:(w.alloc (.cells #[m.seq,m.next,m.P.K,m.P.H,m.P.S,m.extra,(f,i,j),(a,no,c)] 75)).heap.size=w.heap.size+1:=Ze;rw[U]at t;have V:=(h.below (v.mono F)).mono (Zj F v.size);have W:=v.size;obtain⟨J,a0⟩:∃q,r.may=q:=⟨_,rfl⟩;have l:=Z a0;obtain⟨x0,x1,x2,x3,x4,x5,x6,x7⟩:=Row.c8 t;unfold Zd.val Rec.val;go_enter func160,ntmps160;go_wp2_with fail;generalize (w.alloc (.cells #[m.seq,m.next,m.P.K,m.P.H,m.P.S,m.extra,(f,i,j),(a,no,c)] 75)).alloc (.cells #[r.O,r.B,r.I,r.P.K,r.P.H,r.P.S,.int .u32 (r.S.toNat:Int),(g,d,k)] 159)=w2 at*;refine(Z62 r g d k J w2 R l).mono ?_;rintro e n ⟨rfl,p⟩;have A:=v.trans (p.mono W);have a1:=p.size;have x:=G.below p G.lt;have y:=t.below p t.lt;have a2:=Z ((V.below p).mono a1);have m2:=Z9 x 2;have m3:=Z9 x 3;have m4:=Z9 x 4;have m7:=Z9 x 7;have r3:=Z9 y 3;have r4:=Z9 y 4;have r5:=Z9 y 5;cases J with
 |false=>
  have C:b=false:=by have:=s.out;rw[l]at this;simpa using this.symm
  subst C;go_wp2;go_ret;exact⟨rfl,A⟩
 |true=>
  have a3:0≤r.B:=by have:=l.out;unfold Rec.may at this;exact(of_decide_eq_true this).2.2.1
  obtain⟨q,L⟩:=Zb (m.objs.any (Z19 r));have HQ:=Z L;have a4:Calls prog 179 #[(a,no,c),.func (Fn.func 231) #[] #[.pointer (some ⟨w.heap.size+1,0,none⟩)]] n fun e z=>e=.returned (.bool q)∧Below n n z:=
   ZcE r n a g no c d k E m.objs _ q n a2.o (Z4 _) N y a3 L
  go_wp2_with fail;·have e3:r.P.K=m.P.K:=(by assumption);have e4:r.P.H=m.P.H:=(by assumption);have e5:r.P.S=m.P.S:=(by assumption);refine a4.mono ?_;rintro e w4 ⟨rfl,a5⟩;have a6:=A.trans (a5.mono Y);have a7:r.P=m.P:=Zim e3 e4 e5;have a8:b=q:=(by have:=s.out;rw[l,decide_eq_true a7,HQ]at this;simpa using this.symm);subst a8;go_wp2;go_ret;exact⟨rfl,a6⟩
  all_goals
   have C:b=false:=(by have:=s.out;rw[l,decide_eq_false (fun e=>by have e9:=congrArg Zf.K e;have e8:=congrArg Zf.H e;have e7:=congrArg Zf.S e;contradiction)]at this;simpa using this.symm);subst C;go_ret;exact⟨rfl,A⟩
theorem ZcZ (A:X_)(c:Nat)(b:U2)(w:U1):
  Calls prog 292 #[(A,0,c),Nat,Nat,b] w fun e d=>e=.returned (.tuple #[])∧w=d:=by
 go_enter func292,ntmps292;go_wp2;go_loopw [8] (fun a wr=>a=.int .i64 1∧w=wr) (fun _ _=>0)
 ·exact⟨rfl,rfl⟩
 ·obtain⟨rfl,rfl⟩:=hrel;go_wp2;go_end0;exact⟨rfl,rfl⟩
theorem Zd5 (A:X_)(c:Nat)(d:U2)(w:U1):
  Calls prog 232 #[(A,0,c),Nat,d] w fun e f=>e=.returned (.tuple #[])∧w=f:=by
 go_enter func232,ntmps232;go_wp2;go_loopw [7,8] (fun a b wr=>a=.int .i64 0∧b=.int .i64 20∧w=wr) (fun _ _ _=>0)
 ·exact⟨rfl,rfl,rfl⟩
 ·obtain⟨rfl,rfl,rfl⟩:=hrel;go_wp2_with fail;refine(ZcZ A c d w).mono ?_;rintro e g ⟨rfl,rfl⟩;go_wp2;go_loopw [6] (fun a wr=>a=.int .i64 20∧w=wr) (fun _ _=>0)
  ·exact⟨rfl,rfl⟩
  ·obtain⟨rfl,rfl⟩:=hrel;go_wp2;go_end0;exact⟨rfl,rfl⟩
theorem Zbw (A:X_)(c:Nat)(a:U2)(w:U1):
  Calls prog 161 #[(A,0,c),a] w fun e b=>e=.returned (.tuple #[])∧w=b:=by
 go_enter func161,ntmps161;go_wp2_with fail;refine(Zd5 A c a w).mono ?_;rintro e d ⟨rfl,rfl⟩;go_wp2;go_end0;exact⟨rfl,rfl⟩
theorem Zcn (A:X_)(c:Nat)(a:U2)(w:U1):
  Calls prog 163 #[(A,0,c),a] w fun e b=>e=.returned (.slice A 0 c)∧w=b:=by
 go_enter func163,ntmps163;go_wp2;go_ret;exact⟨rfl,rfl⟩
theorem ZaL {n:Int}{a:W_}(h:Z4j n a):∀j i,i<j→j<a.length→a.getD i 0<a.getD j 0
 |0,i,hi,_=>absurd hi Y
 |j+1,i,hi,hj=>by
  have b:=(h (j+1) hj).2.2 Y;rw[Nat.add_sub_cancel]at b;rcases Yf i j with c|c;·have:=ZaL h j i c Y;omega
  ·obtain rfl:i=j:=Y;exact b
theorem ZcA {n:Int}{a:W_}(h:Z4j n a):a.Nodup:=by unfold List.Nodup;rw[VH];intro i j c b d;have:=ZaL h j i d b;rw[Z6,Z6,Z7 c,Z7 b]at this;simp only[Yz]at this;omega
theorem Zgy {n:Int}{rows:List Zt}(h:Z2O n rows):Right n.toNat (rows.getD 0 default).data.length rows:=by
 obtain⟨k,_,d⟩:=h;have e:∀q∈rows,∃i,i<rows.length∧rows.getD i default=q:=fun q b=>by obtain⟨i,a,rfl⟩:=ZZ b;exact⟨i,a,by rw[Z6,Z7 a];rfl⟩
 refine⟨fun q b c g=>?_,fun q b=>?_,fun q b=>?_⟩;·obtain⟨i,a,rfl⟩:=e q b;obtain⟨j,f,rfl⟩:=ZZ g;have:=(d i a).1 j f;rw[Z6 (l:=(rows.getD i default).cols),Z7 f]at this;simp only[Yz]at this;omega
 ·obtain⟨i,a,rfl⟩:=e q b;exact ZcA (d i a).1
 ·obtain⟨i,a,rfl⟩:=e q b;exact(d i a).2
theorem ZbB {S:Zk}{rows:List Zt}{k:Nat}(a:k<rows.length)(h:S.opn (rows.getD k default).cols≠ []):S.left (rows.take (k+1))=S.left (rows.take k)++ [⟨S.opn (rows.getD k default).cols,S.rest (rows.getD k default)⟩]:=by unfold Zk.left;rw[ZR a,Vs,ZV];rw[Z6,Z7 a]at h ⊢;simp only[Yz]at h ⊢;rw[Z1v (by simpa using h)];rfl
theorem ZbI {S:Zk}{rows:List Zt}{k:Nat}(a:k<rows.length)(h:S.opn (rows.getD k default).cols=[]):S.left (rows.take (k+1))=S.left (rows.take k):=by unfold Zk.left;rw[ZR a,Vs,ZV];rw[Z6,Z7 a]at h;simp only[Yz]at h;rw[Z2h (by simp[h])];simp
theorem Zh_ (S:Zk)(rows:List Zt):(S.left rows).length≤rows.length:=by unfold Zk.left;rw[Zz];exact Wx _ _
section
structure Zbr (w wx:World) (N gp gk gv n c:Nat) (A:Option Addr):Prop where
 kv:KV w.heap.size N wx gk gv (List.replicate N (.slice none 0 0)) (Zk.new N)
 p:Row wx gp 348 [.slice A n c,.slice (some ⟨gk,0,none⟩) N N,.slice (some ⟨gv,0,none⟩) N N]
 be:Below w.heap.size w wx
 ne:gk≠gv
 ge:w.heap.size≤gp
theorem Zjr {base:Nat}{wx:U1}{N gk gv:Nat}(b:Row wx gk 4 (List.replicate N (.bool false)))(c:Row wx gv 32 (List.replicate N ()))(d:base≤gk)(e:base≤gv):KV base N wx gk gv (List.replicate N ()) (Zk.new N):=
 ⟨by unfold Zk.new;rw[List.map_replicate];exact b,c,by simp[Zk.new],Ze,by simp[Zk.new],fun i a=>by unfold Zk.new;rw[Z6,Z6,XY,XY,if_pos a,if_pos a];exact Yi _ _ _ _,d,e,fun i a _=>by rw[Z6,XY,if_pos a];rfl⟩
theorem ZaM (w wx:U1)(N gp gk gv n c:Nat)(A:X_)(a:Row wx gk 4 (List.replicate N (.bool false)))(b:Row wx gv 32 (List.replicate N ()))
  (d:Row wx gp 348 [(A,n,c),(gk,N,N),(gv,N,N)]) (e:w.heap.size≤gk) (f:w.heap.size≤gv) (g:gk≠gv) (h:w.heap.size≤gp) (i:Below w w wx):Zbr w wx N gp gk gv n c A:=
 ⟨Zjr a b e f,d,i,g,h⟩
theorem Za7 {w:U1}{g b:Nat}{t c:TypeId}{d f:Z_}(h:Row w g t d)(a:Row w b c f)(i:t≠c):g≠b:=fun e=>by subst e;unfold Row at h a;rw[h]at a;injection a with a;injection a with _ a;exact i a
theorem ZjP (w:U1)(x y:U2)(t:TypeId)(g:Nat)(a:w.heap.size=g):Sl (w.alloc (.cells #[x,y] t)) (g+1) 2 (some ⟨g,0,none⟩) 1 [x,y]:=by subst a;exact⟨rfl,fun _=>⟨_,0,rfl,Y,fun j u b=>by rw[Wz,cell_of_row _ _ j #[x,y] t (0,0) (heap_alloc_new w _)];simpa using b⟩⟩
section
variable {base N:Nat} {w0 w w':U1} {gp gk gv n c:Nat} {A:X_} {rows:List Zt} {vs:Z_} {S:Zk}
theorem PS.drewN_ (h:PS base N w0 w gp gk gv n c A rows vs S)(d:Nat):PS base N w0 (w.drewN d) gp gk gv n c A rows vs S:=
 ⟨h.r,h.kv.below (bq_ (Z8 _ _) d),h.p,bq_ h.be d⟩
theorem PS.app_ {v:U2}{m:Nat}{l:Z_}(h:PS base N w0 w gp gk gv n c A rows vs S)(b:w.ownsRow base 281 2 v m l)(a:w.grownBy w' v.ownBlock)(o:base≤w):PS base N w0 w' gp gk gv n c A rows vs S:=by
 have d:∀{g:Nat} {t:TypeId} {q:Z_},Row w g t q→281≠t→some g≠v.ownBlock:=fun s x e=>by
  rcases own_ne b s x with f|f;·rw[f]at e;cases e
  ·exact f e.symm
 exact⟨h.r,⟨h.kv.k.grown a (d h.kv.k Z5),h.kv.v.grown a (d h.kv.v Z5),h.kv.kl,h.kv.vl,h.kv.sl,fun i j=>(h.kv.at_ i j).keep a (YF (h.kv.at_ i j) b Z5),h.kv.gek,h.kv.gev,h.kv.nl⟩,h.p.grown a (d h.p Z5),h.be.grown a o (fun k y=>(b.lt k y).1)⟩
end
def Zk3 (w:U1) (m:Int) (rows:List Zt) (e:Ending) (w':U1):Prop:=
 Below w.heap.size w w'∧((¬Z2O m rows∧e=.returned (.tuple #[.slice none 0 0,.slice none 0 0,.slice none 0 0,.int .i64 1]))∨(Z2O m rows∧∃T,Reach m.toNat rows T∧Z7A rows T∧
  ((¬Z7y rows T∧e=.returned (.tuple #[.slice none 0 0,.slice none 0 0,.slice none 0 0,.int .i64 10]))∨
   (Z7y rows T∧∃a b c vs d,e=.returned (.tuple #[a,b,c,.int .i64 0])∧w'.ownsRow w.heap.size 4 1 a T.known.length (T.known.map Value.bool)∧Zq w.heap.size w' b vs T.vals∧Xa w.heap.size w' c d (T.left rows)∧∀i,i<T.known.length→T.known.getD i false=false→vs.getD i undef=.slice none 0 0))))
theorem ZfO (m:Int)(B:Nat)(A:X_)(n c:Nat)(ps:List (U2×U2))(rows:List Zt)(w:U1)(h:Z1A w B A n ps rows)(hB:B≤w)(hn:n≤1048576)
  (hm: -9223372036854775808≤m∧m≤9223372036854775807) (hz:∀q∈rows,∀x∈q.cols,-9223372036854775808≤x∧x≤9223372036854775807) (M:∀q∈rows,q.cols.length≤1048576) (J:∀q∈rows,q.data.length≤1048576):
  Calls prog 218 #[m,(A,n,c)] w (Zk3 w m rows):=by
 obtain⟨ib,aC,aD,aE,aF⟩:=info_parts Z9C;obtain⟨iw,aG,aH,aI,aJ⟩:=info_parts Z02;obtain⟨ie,bl,bm,bn,bo⟩:=info_parts ZjK;have H:=Z h;have HL:=Z h.len;have aK:=Z M;have bp:=Z J;have HZ:=Z hz;by_cases O:Z2O m rows
 ·have HR:=Z O;have hC:=Z8_ true m B A n c ps rows w h hB Y hm hz ⟨fun _=>O,fun _=>rfl⟩;have HC:=Z hC;have a8:=Zgy O;obtain⟨h0,bR,_⟩:=O;obtain⟨N,rfl⟩:=Z3I h0;rw[ZL]at a8;obtain⟨D,hD⟩:=Zb ((rows.getD 0 default).data.length);rw[hD]at a8;have bq:D≤1048576:=by
   rw[←hD];rcases VG rows.length with a|a;·rw[V3 a];exact ZY _
   ·exact bp _ (by rw[Z6,Z7 a];exact Zp _)
  have a9:=Z a8;clear h M J hz hC a8 hD h0;go_enter func218,ntmps218;go_wp2_with fail;refine HC.mono ?_;rintro e y ⟨rfl,b1⟩;have bT:=b1.size;have H1:=Z (H.below (b1.mono hB));go_upto_region 3 with fail;go_cut [8] (fun s8 wx=>∃gp gk gv:Nat,s8=.pointer (some ⟨gp,0,none⟩)∧Zbr w wx N gp gk gv n c A)
  ·refine oS [] (fun w'=>Below w w w') [0,1,3] (Z1d b1) fun hS=>?_;(iterate 3 refine oV ?_);refine oT 2 4 [4,5,6,7] [2,5,6,7] (fun K hK=>?_) fun K hK=>?_;·skip;(refine Xw (.tmp 17) (.tmp 17) 288 (by rfl) 4 ib (.bool false) 1 underlying288 aC aD aE aF rfl .i64 .i64 (N:Int) (N:Int) N N (by rfl) (by rfl) rfl rfl (Z4 _) Y Y ?_);intro wk rk bk sk;refine oK hK (hS.trans (bk.mono hS.size)) fun hS=>?_;refine oG fun K hK=>?_;(refine Xw (.tmp 19) (.tmp 19) 106 (by rfl) 32 iw () 24 underlying106 aG aH aI aJ rfl .i64 .i64 (N:Int) (N:Int) N N (by rfl) (by rfl) rfl rfl (Z4 _) Y Y ?_);intro wv rv bv sv;refine oK hK (hS.trans (bv.mono hS.size)) fun hS=>?_;refine oV ?_;refine oG fun K hK=>?_;go_simp;refine oK hK (hS.alloc hS.size _) fun hS=>?_;refine oV ?_;refine oD ?_;have L:wk.heap.size=y.heap.size+1:=sk;have e2:wv.heap.size=y.heap.size+1+1:=(by rw[sv,L]);have rp:=Row.new wv 348 #[(A,n,c),(y.heap.size,N,N),.slice (some ⟨(y.heap.size+1),0,none⟩) N N];rw[e2]at rp;rw[L]at rv;go_wp2;go_meet;exact⟨y.heap.size+1+1,y.heap.size,(y.heap.size+1),rfl,ZaM w _ N _ _ _ n c A ((rk.below bv rk.lt).alloc _) (rv.alloc _) rp Y Y Y Y hS⟩
   ·skip;(refine Xw (.tmp 19) (.tmp 19) 106 (by rfl) 32 iw () 24 underlying106 aG aH aI aJ rfl .i64 .i64 (N:Int) (N:Int) N N (by rfl) (by rfl) rfl rfl (Z4 _) Y Y ?_);intro wv rv bv sv;refine oK hK (hS.trans (bv.mono hS.size)) fun hS=>?_;refine oG fun K hK=>?_;(refine Xw (.tmp 17) (.tmp 17) 288 (by rfl) 4 ib (.bool false) 1 underlying288 aC aD aE aF rfl .i64 .i64 (N:Int) (N:Int) N N (by rfl) (by rfl) rfl rfl (Z4 _) Y Y ?_);intro wk rk bk sk;refine oK hK (hS.trans (bk.mono hS.size)) fun hS=>?_;refine oV ?_;refine oG fun K hK=>?_;go_simp;refine oK hK (hS.alloc hS.size _) fun hS=>?_;refine oV ?_;refine oD ?_;have L:wv.heap.size=y.heap.size+1:=sv;have e2:wk.heap.size=y.heap.size+1+1:=(by rw[sk,L]);have rp:=Row.new wk 348 #[(A,n,c),.slice (some ⟨(y.heap.size+1),0,none⟩) N N,(y.heap.size,N,N)];rw[e2]at rp;rw[L]at rk;go_wp2;go_meet;exact⟨y.heap.size+1+1,(y.heap.size+1),y.heap.size,rfl,ZaM w _ N _ _ _ n c A (rk.alloc _) ((rv.below bk rv.lt).alloc _) rp Y Y Y Y hS⟩
  case rest=>
  obtain⟨gp,gk,gv,rfl,P⟩:=hcut;have G:=Z P;have aL:=P.be.size;clear P;obtain⟨R,aM⟩:∃x,wc=x:=⟨_,rfl⟩;rw[aM]at G aL ⊢;clear aM;have aO:PS w N R R gp gk gv n c A rows (List.replicate N ()) (Zk.new N):=⟨.start,G.kv,G.p,Z8 _ _⟩;have br:gp≠gk:=Za7 G.p G.kv.k Z5;have bs:gp≠gv:=Za7 G.p G.kv.v Z5;have aP:=Z aO;have H2:=Z (H.below (G.be.mono Y));have bt:=G.ge;have bw:=G.ne;clear aO;go_wp2_with fail;refine(Zje (Zk.new N) D w N gp gk gv _ B A n c ps rows R aP H2 Y aL a9 Y hn aK bq bw br bs bt).mono ?_;rintro e w3 ⟨rfl,⟨vs,T,aQ,aR⟩,bx⟩;have aT:=Z aQ;have bz:=Z aR;clear aQ aR aP;go_wp2;go_loopw [6,27] (fun v i wr=>∃(k:Nat) (U:X_) (I V:Nat) (W:List (U2×U2)),k≤n∧i=.int .i64 (k:Int)∧v=.slice U I V∧Hid ((T.left (rows.take k)).length=I)∧PS w N R wr gp gk gv n c A rows vs T∧Xa w wr (U,I,V) W (T.left (rows.take k))∧R.heap.size≤wr.heap.size∧Hid (∀j,j<k→T.opn (rows.getD j default).cols=[]→∀b∈T.rest (rows.getD j default),b=0#8)) (fun _ i _=>n-(intOf i).toNat)
  ·exact⟨0,none,0,0, [],ZY _,rfl,rfl,Z rfl,bz,Xa.nil_ _ _,bx,Z (fun j hj=>absurd hj Y)⟩
  ·obtain⟨k,U,I,V,W,hk,rfl,rfl,a0,P,aU,bU,HK⟩:=hrel;have g:=Z P;have ae:=Z aU;have bV:I≤k:=(by rw[←a0];exact Zj (Zh_ _ _) (List.length_take_le _ _));have aa:Below w w wr:=G.be.trans (P.be);have bB:=Z aa;clear P aU;by_cases aV:k<n
   ·have aW:=H.below (aa.mono (by omega:B≤w));obtain⟨bb,o,A1,c1,A2,c2,eA,bW,e0,L,h1,h2,h3,h4,h5,h6⟩:=aW.get aV;subst eA;have af:k<rows.length:=(by rw[HL];exact aV);have a1:rows.getD k default∈rows:=(by rw[Z6,Z7 af];exact Zp _);have ab:=a9.rng _ a1;have ag:=aK _ a1;have ac:=a9.len _ a1;have ah:=ZbB (S:=T) af;have ai:=ZbI (S:=T) af;obtain⟨q,hq⟩:=Zb (rows.getD k default);rw[hq]at e0 L h1 h3 h4 h6 ab ag ac a1 ah ai;have HQ:=Z hq;obtain⟨nc,M⟩:=Zb q.cols.length;obtain⟨f,J⟩:=Zb q.data.length;rw[M]at e0 h1 h3 ag;rw[J]at L h4 h6;have aj:Hid (f=D):=Z (by rw[←J];exact ac);have c0:f≤1048576:=Zc aj.out;have ak:=g.r.form a9;have hx:=Row.new wr 281 #[(A1,nc,c1),(A2,f,c2)];have a3:Below wr wr (wr.alloc (.cells #[(A1,nc,c1),(A2,f,c2)] 281)):=(Z8 _ _).alloc (Z4 _) _;have x0:=Z9 hx 0;have x1:=Z9 hx 1;have b0:w.heap.size≤wr.heap.size:=Y;have b2:=g.below a3 b0;have al:=Z b2;have bC:=Z (ae.below a3 b0);have H3:=Z (h3.below (a3.mono Y));have H6:=Z (h6.below (a3.mono Y));have bD:=Z ab;have b3:=Z M;have am:=Z J;have bE:=Z ak;have bF:=Z a1;have bG:=Z ah;have bH:=Z ai;have b5:(T.rest q).length=f:=(by have a:=Z4N ak.len q.cols q.data (fun c hc=>(ab c hc).1) ac;rw[aj];exact a);have an:=Z b5;have c3:(wr.alloc (.cells #[(A1,nc,c1),(A2,f,c2)] 281)).heap.size=wr.heap.size+1:=Ze;clear ah ai aW hq M J h3 h6 ab a1 hx a3 b2 ak ac aa b5;go_wp2_with fail;generalize wr.alloc (.cells #[(A1,nc,c1),(A2,f,c2)] 281)=wx at*;refine(Z9Y q T w N gp gk gv vs (.slice (some ⟨bb,o,none⟩) n c) B A1 A2 c1 c2 nc f wx al.p al.kv H3 H6 b3 am Y bD Y (fun c h0 hk=>by rw[bE.len c h0 hk,aj]) Y ag).mono ?_;rintro e E ⟨z,C,l,s,rfl,ao,ap,b4⟩;obtain⟨t,a4⟩:=Zb ((T.opn q.cols).length);rw[a4,am];rw[a4]at ao;rw[am]at ap;have aq:=Z a4;have c4:t≤nc:=(by rw[←a4,←b3];exact Wx _ _);have bI:=b4.size;have ar:=Row.new E 281 #[(z,t,C),(l,f,s)];have ad:Below E E (E.alloc (.cells #[(z,t,C),(l,f,s)] 281)):=(Z8 _ _).alloc (Z4 _) _;have y0:=Z9 ar 0;have y1:=Z9 ar 1;have av:=b4.trans (ad.mono bI);have aw:=Z (al.below av Y);have b6:=Z (bC.below av Y);have bJ:=Z (ZA (base':=w) ((show OI _ _ _ _ from ao).below ad) Y);have ax:=Z (ZA (base':=w) ((show OB _ _ _ _ from ap).below ad) Y);have c5:(E.alloc (.cells #[(z,t,C),(l,f,s)] 281)).heap.size=E.heap.size+1:=Ze;clear a4 ao ap b4 ar ad av;by_cases c7:0<t
    ·have b7:T.opn q.cols≠ []:=fun e9=>by have:=aq.out;rw[e9]at this;simp at this;omega
     have a5:=bG b7;have a6:=Z a5;have c9:(0:Int)<(t:Int):=Y;clear a5;have a7:Below (E.alloc (.cells #[(z,t,C),(l,f,s)] 281)).heap.size (E.alloc (.cells #[(z,t,C),(l,f,s)] 281)) ((E.alloc (.cells #[(z,t,C),(l,f,s)] 281)).alloc (.cells #[(z,t,C),(l,f,s)] 281)):=(Z8 _ _).alloc (Z4 _) _;have bK:=Z (aw.below a7 Y);have b9:=Z (b6.below a7 Y);have ay:=b9.own;rw[a0]at ay;have ba:=Z ay;have bL:=Z ((show OI _ _ _ _ from bJ).below a7);have bM:=Z ((show OB _ _ _ _ from ax).below a7);have ca:((E.alloc (.cells #[(z,t,C),(l,f,s)] 281)).alloc (.cells #[(z,t,C),(l,f,s)] 281)).heap.size=(E.alloc (.cells #[(z,t,C),(l,f,s)] 281)).heap.size+1:=Ze;clear a7 ay;go_wp2_with (at_builtin;go_must (refine Y5 rfl (.tmp 38) (.tmp 40) 279 rfl w 281 ie (.agg #[(),()]) 2 48 underlying279 bl bm bn bo rfl Y (U,I,V) I (eqC W) rfl ba _ _ 1 1 [(z,t,C),(l,f,s)] rfl (ZjP _ _ _ _ _ Ze) (by simp[Value.oneCell']) (I+1) rfl _ rfl Y Y Y ?_);intro A6 c6 w6 o6 g6 _)
     have bc:Xa w w6 (A6,(I+1),c6) (W++ [(.slice z t C,.slice l f s)]) (T.left (rows.take (k+1))):=by
      rw[a6];refine b9.app (ps2:= [(.slice z t C,.slice l f s)]) (rows2:= [⟨T.opn q.cols,T.rest q⟩]) rfl (fun i F=>?_) ?_ g6 Y
      ·obtain rfl:i=0:=by simpa using F
       exact⟨.inr (by have a:=bL.out;rw[←aq]at a ⊢;exact a),.inr (by have a:=bM.out;rw[←an]at a ⊢;exact a)⟩
      ·rw[a0];exact o6
     have bd:PS w N R w6 gp gk gv n (_) (some ⟨bb,o,none⟩) rows vs T:=bK.app_ ba g6 Y;have cb:=g6.size;have bO:=Z bc;have bP:=Z bd;clear bc bd o6 g6;go_roundw
     ·exact⟨k+1,A6,I+1,c6,_,Y,Zg,rfl,Z (by rw[a6,Zw,a0];rfl),bP,bO,Y,Z (fun j hj Q=>by
      rcases Yf j k with a|a;·exact HK j a Q
      ·obtain rfl:j=k:=Y;rw[HQ]at Q;exact absurd Q b7)⟩
     ·exact Zh
    ·obtain rfl:t=0:=Y;have bf:T.opn q.cols=[]:=V3 aq;have a5:=bH bf;have a6:=Z a5;have bg:Hid (Sl (E.alloc (.cells #[(z,0,C),(l,f,s)] 281)) (E.alloc (.cells #[(z,0,C),(l,f,s)] 281)).heap.size 1 l f ((T.rest q).map Za)):=Z (by have a:=ax.out;rw[an]at a;exact Sl.own a);have a:=ax.out;rw[an]at a;have bQ:=Z1k a;clear a;obtain⟨bh,bi⟩:=bQ;clear a5;go_wp2_with fail;by_cases a2:∀i,i<(T.rest q).length→(T.rest q).getD i 0=0#8
     ·refine(Z8y true _ l (T.rest q) f s _ bg bh bi (iff_of_true rfl a2)).mono ?_;rintro e w6 ⟨rfl,d,rfl⟩;have az:=Z a2;clear a2;go_wp2;go_roundw
      ·exact⟨k+1,U,I,V,W,Y,Zg,rfl,Z (by rw[a6];exact a0),aw.drewN_ d,by rw[a6];exact b6.below (bq_ (Z8 _ _) d) Y,by simp[World.drewN];omega,Z (fun j hj Q b aB=>by
       rcases Yf j k with a|a;·exact HK j a Q b aB
       ·obtain rfl:j=k:=Y;rw[HQ]at aB;obtain⟨i,F,rfl⟩:=ZZ aB;have:=az i F;rwa [Z6,Z7 F]at this)⟩
      ·exact Zh
     ·refine(Z8y false _ l (T.rest q) f s _ bg bh bi (iff_of_false (fun a=>Bool.noConfusion a) a2)).mono ?_;rintro e w6 ⟨rfl,d,rfl⟩;have az:=Z a2;clear a2;go_wp2_with fail;refine bodyPost_ret (v:= .tuple #[(),(),(),(10:Int)]) (by simp[results,results218,go_sem]) rfl ⟨?_,.inr ⟨HR,T,g.r,aT,.inl ⟨fun hs=>?_,rfl⟩⟩⟩;·exact bq_ (G.be.trans aw.be) d
      ·refine az (fun i F=>?_);have:=hs q bF bf ((T.rest q)[i]) (Zp _);rw[Z6,Z7 F];exact this
   ·obtain rfl:k=n:=Y;have bj:rows.take k=rows:=(by rw[←HL,Xm]);rw[bj]at a0 ae;have p1:=Z9 g.p 1;have p2:=Z9 g.p 2;clear bj aa;go_wp2_with fail;go_quiet (fail)
    go_wp2_with fail;refine bodyPost_ret (v:= .tuple #[(gk,N,N),(gv,N,N),(U,I,V),Nat]) (by simp[results,results218,go_sem]) rfl ⟨?_,.inr ⟨HR,T,g.r,aT,.inr ⟨fun q hq Q=>?_,_,_,_,vs,W,rfl,?_,?_,?_,fun i F a=>g.kv.nl i (by rw[←g.kv.kl];exact F) a⟩⟩⟩;·exact bq_ bB _
    ·obtain⟨i,F,rfl⟩:=ZZ hq;have:=HK i (by rw[←HL];exact F);rw[Z6,Z7 F]at this;exact this Q
    ·have a:=Row.own (base:=w) (size:=1) (n:=N) (cap:=N) g.kv.k (Zc g.kv.gek) (Z4 _) (by unfold maxLen;omega) (by simp[g.kv.kl]);rw[ZP (by simp[g.kv.kl])]at a;rw[g.kv.kl];exact a
    ·have a:=Row.own (base:=w) (size:=1) (n:=N) (cap:=N) g.kv.v (Zc g.kv.gev) (Z4 _) (by unfold maxLen;omega) (by simp[g.kv.vl]);rw[ZP (by simp[g.kv.vl])]at a;refine⟨by rw[g.kv.sl];exact a,fun i F=>?_⟩;exact ZA ((g.kv.at_ i (by rw[←g.kv.sl];exact F)).below (bq_ (Z8 _ _) _)) Y
    ·exact(ae.below (bq_ (Z8 _ _) _) Y)
 ·have HC:=Z (Z8_ false m B A n c ps rows w h hB Y hm hz (iff_of_false (fun a=>Bool.noConfusion a) O));have HR:=Z O;clear h M J hz O;go_enter func218,ntmps218;go_wp2_with fail;refine HC.mono ?_;rintro e y ⟨rfl,b1⟩;go_wp2_with fail;exact bodyPost_ret (v:= .tuple #[(),(),(),(1:Int)]) (by simp[results,results218,go_sem]) rfl ⟨b1,.inl ⟨HR,rfl⟩⟩
end
theorem Zeb {n S:Nat}{f:List Zt}{T:Zk}{v:Int→Y_}{A:List (Nat×Int)}{h:W_}{left:List Nat}(E:Right n S f)(F:Made n S v f)(G:Reach n f T)
  (p:Z3G n ((T.left f).map Zt.cols) T.kn A h left) (H:∀q∈T.left f,q.cols.length≤64):∀a t b,A=a++t::b→
  t.1<(T.left f).length∧0≤t.2∧t.2<(n:Int)∧((T.left f).getD t.1 default).data.length=S∧((T.left f).getD t.1 default).cols.length≤64∧
  ∀c∈((T.left f).getD t.1 default).cols,0≤c∧c<(n:Int)∧(c≠t.2→Gd h.length S (a.foldl (stepW h.length (T.left f)) (Yy h.length S h h.length ⟨List.replicate n [],List.replicate n []⟩)) c):=by
 have o:=Z4W E F G;have m:=Z5Y (S:=S) (s:=⟨List.replicate n [],List.replicate n []⟩) (show(List.replicate n ([]:Y_)).length=n from Ze) (show(List.replicate n ([]:Y_)).length=n from Ze) (fun c d=>⟨(p.dd c d).1,(p.dd c d).2.1⟩) p.dn h.length (Z4 _);have B:∀c∈h,∃i,i<h.length∧h.getD i 0=c:=fun c d=>by obtain⟨i,j,e⟩:=ZZ d;exact⟨i,j,by rw[Z6,Z7 j,e];rfl⟩
 have I:StW n S (T.left f) h (XD v) [] (Yy h.length S h h.length ⟨List.replicate n [],List.replicate n []⟩):=by
  refine⟨m.1,m.2.1,fun c d=>?_,fun y i j=>?_,fun y t r=>(by cases r),fun k C c d=>?_⟩
  ·rcases d with d|⟨t,r,_⟩;·obtain⟨i,j,rfl⟩:=B c d;exact⟨by rw[(m.2.2 i j).1];simp[Zm],by rw[(m.2.2 i j).2];simp[Zm]⟩
   ·cases r
  ·rw[(m.2.2 i j).1];exact Z5c _ _ _ j
  ·rcases d with d|⟨t,r,_⟩;·obtain⟨i,j,rfl⟩:=B c d;unfold at2;rw[(m.2.2 i j).1,(m.2.2 i j).2,Z5c _ _ _ j];have:(Zm S).getD k 0=0:=Z3Q S k;rw[this,bx0]
   ·cases r
 intro a t b e;have J:=Z9d p (fun q l=>⟨(o q l).1,(o q l).2.1,fun c d=>⟨((o q l).2.2.1 c d).1,((o q l).2.2.1 c d).2.1⟩⟩) (fun q l k C=>(o q l).2.2.2 k C) I a (t::b) e;obtain⟨x,z,-,-,D⟩:=p.st a t b e;rw[Zz]at x;have L:((T.left f).map Zt.cols).getD t.1 []=((T.left f).getD t.1 default).cols:=by rw[Z6,Z6,ZO,Z7 x];rfl
 rw[L]at z D;have l:(T.left f).getD t.1 default∈T.left f:=by rw[Z6,Z7 x];exact Zp _
 have w:=o _ l;exact⟨x,(w.2.2.1 _ z).1,(w.2.2.1 _ z).2.1,w.2.1,H _ l,fun c d=>⟨(w.2.2.1 c d).1,(w.2.2.1 c d).2.1,fun M=>J.g c (D c d M)⟩⟩
