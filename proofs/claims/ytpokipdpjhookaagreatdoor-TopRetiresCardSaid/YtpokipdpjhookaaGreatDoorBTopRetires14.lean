/- Data StbR MatMem MatC MatD -/
import Derived.Deep.DeepCutAuto
import Derived.Test.YtpokipdpjhookaaGreatDoorBTopRetires01
import Derived.Test.YtpokipdpjhookaaGreatDoorBTopRetires10
set_option maxHeartbeats 8000000
set_option maxRecDepth 20000
set_option linter.all false
namespace Go.Proofs
open Go Go.RowKit Tryz
variable {w:World} {n m k i j:Nat} {t:TypeId} {x:Value} {r:List Byte} {c:Int} {l:List Value}
theorem Zgp (h:w.ownsRow n t 1 x m (r.map Za++ [.int .u8 c]))(a:0≤c)(d:c≤255):∃b:Byte,w.ownsRow n t 1 x m ((r++ [b]).map Za):=
 ⟨BitVec.ofNat 8 c.toNat,by rw[ZV,WQ,Z07,Zc2 a d];exact h⟩
theorem Zgo (n:Nat)(x:Int)(w:U1)(F:n≤1048576)(G: -9223372036854775808≤x∧x≤9223372036854775807):
  Calls prog 36 #[.int .i64 n,.int .i64 x] w fun e f=>∃A c l,e=.returned (.slice A n c)∧l.length=n∧OB w f (.slice A n c) l∧Below w w f:=by
 obtain⟨k,m,o,p,q⟩:=info_parts WP;generalize hg:w.heap.size=g at*;have H:g≤w:=Y;have I:=Z hg;go_enter func36,ntmps36;go_wp2;go_loopw [5,6] (fun v i wr=>∃(j:Nat) (A:X_) (c:Nat) (l:Y_),j≤n∧i=.int .i64 j∧v=.slice A j c∧wr.ownsRow g 5 1 (.slice A j c) j (l.map Za)∧Below g w wr) (fun _ i _=>n-(intOf i).toNat)
 ·exact⟨0,none,0, [],Y,rfl,rfl,Yi _ _ _ _,Z8 _ _⟩
 ·obtain⟨j,A,c,l,J,rfl,rfl,a,d⟩:=hrel;have r:g≤wr:=Zc d.size;by_cases L:j<n
  ·go_wp2_with (at_builtin;go_must (refine Y5 rfl (.tmp 12) (.tmp 23) 32 rfl g 5 k (.int .u8 0) 1 1 underlying32 m o p q rfl Y (.slice A j c) j _ rfl (a.alloc _) _ _ 1 1 _ rfl (Sl.fresh _ _ _ _ 1 rfl) (by simp[Value.oneCell']) (j+1) Y _ rfl Y Y Zx ?_);intro s t y z B _)
   have C:Below g w y:=Y9 (d.alloc r _) (a.alloc _) B (Z4 _) Zx;obtain⟨b,D⟩:=Zgp z Y Y;go_roundw;·exact⟨j+1,s,t,l++ [b],Y,Zg,rfl,D,C⟩
   ·exact Zh
  ·have E:n=j:=Y;subst E;go_wp2;go_ret;have h:l.length=n:=(by have:=a.1;simpa using this);exact⟨A,c,l,rfl,h,by unfold OB;rw[h];exact a,d⟩
section
open Go.Sort Go.Lib
variable {α:Type} [Inhabited α] {enc:α→List Value} {w0 W:World} {blk off N cap:Nat} {l:List α} {g:Nat} {cf:α→α→Int}
theorem Z61 (R:WU prog 159 enc w0 blk off N)(hN:N≤1048576)(I:∀x,∀v∈enc x,v.oneCell'=true){A X M U8 S:List α}{a b n:Nat}(fv:U2)(h:Zo enc w0 blk off N (A++(X++(M++(U8++S)))) W)(J:A.length=a)(f:X.length=n)(g:U8.length=n)(L:a+n+M.length=b):
  Calls prog 359 #[.slice (some ⟨blk,off,none⟩) N cap,a,b,n,fv] W fun e z=>e=.returned (.tuple #[])∧Zo enc w0 blk off N (A++(U8++(M++(X++S)))) z:=by
 have HL:=h.1;have HH:=Z h;have O:=Z f;have P:=Z g;have Q:=Z J;have HB:=Z L;have aa:b+n≤N:=by have:=h.1;simp only[Zw]at this;omega
 have ab:a+n≤b:=Y;clear h f g J L HL;go_enter func359,ntmps359;go_wp2;go_loopw [10] (fun i wr=>∃k:Nat,k≤n∧i=.int .i64 (k:Int)∧Zo enc w0 blk off N (swr A X M U8 S k) wr) (fun i _=>n-(intOf i).toNat)
 ·exact⟨0,ZY _,rfl,by rw[Zf2];exact HH⟩
 ·obtain⟨k,hk,rfl,T⟩:=hrel;have d:=Z T;clear T;by_cases a5:k<n
  ·have a6:(k:Int)<(n:Int):=Y;obtain⟨j,a7⟩:=Zb (a+k);obtain⟨l,a8⟩:=Zb (b+k);obtain⟨m,o,p,x,y,q,U,r,B⟩:∃m o p x y,swr A X M U8 S k=m++x::(o++y::p)∧swr A X M U8 S (k+1)=m++y::(o++x::p)∧m.length=j∧j+1+o.length=l:=
    Zfv O P a5 (Zc Q.out) (YU Q.out HB.out)
   have ac:(j:Int)<(N:Int):=Y;have ad:(l:Int)<(N:Int):=Y;have ae:IntKind.i64.wrap ((a:Int)+k)=(j:Int):=(by rw[Xe];omega);have af:IntKind.i64.wrap ((b:Int)+k)=(l:Int):=(by rw[Xe];omega);have a9:=Z U;clear a7 a8 U;go_wp2_with fail;have f:=Zo.pre R d q r;have g:=Zo.pre R d (A:=m++x::o) (S:=p) (x:=y) (i:=l) (by rw[q];simp) (by simp at r B ⊢;omega);have s:=d.sts R f g;have V:=d.exch R q r B;have C:=d.drew.ld R f;have D:=d.drew.ld R g;have t:=Z V.1;have E:(enc x).length=8:=R.hk x;have F:(enc y).length=8:=R.hk y;have a0:(enc x).toArray.all (·.oneCell')=true:=(by simpa using I x);have a1:(enc y).toArray.all (·.oneCell')=true:=(by simpa using I y);clear f g q r B V;obtain⟨G,a2⟩:∃c,c=enc x:=⟨_,rfl⟩;obtain⟨H,a3⟩:∃c,c=enc y:=⟨_,rfl⟩;rw[←a2]at C E a0 t;rw[←a3]at D F a1 t s;clear a2 a3;obtain⟨wq,a4⟩:=WI wr;rw[←a4]at C D s t ⊢;clear d a4;refine oS [21,23] (fun z=>z=wq.drew) [0,1,2,3,4,5,6,7,8,9,10,11,12,13,14,15,16,17,18,19,20,21,22,23] (rfl) fun hS=>?_;(iterate 4 refine oV ?_);refine oF ?_;refine oF ?_;refine oF ?_;refine oF ?_;(iterate 5 refine oV ?_);refine oC (y:=fun w hSw=>by rw[hSw];apply Pure.val;refine(WL 159 (.tmp 28) rfl (by go_simp;first|done|rfl) D).trans ?_;with_reducible rfl) (h:= ?_);refine oF ?_;refine oF ?_;refine oF ?_;refine oF ?_;refine oF ?_;refine oC (y:=fun w hSw=>by rw[hSw];apply Pure.val;refine(WL 159 (.tmp 34) rfl (by go_simp;first|done|rfl) C).trans ?_;with_reducible rfl) (h:= ?_);refine oV ?_;refine oM 21 fun K hK=>?_;refine wp_store_mid 159 (.tmp 36) (.tmp 29) rfl blk (off+j*8) (H).toArray (by go_simp;first|done|rfl) (by go_simp;first|done|rfl) (by rw[show(H).toArray.size=8 by simp[F]];exact s.1) (by rw[show(H).toArray.size=8 by simp[F]];exact R.size) a1 ?_;refine oL hK ?_;refine oF ?_ (sP 21);refine oM 21 fun K hK=>?_;refine wp_store_mid 159 (.tmp 37) (.tmp 35) rfl blk (off+l*8) (G).toArray (by go_simp;first|done|rfl) (by go_simp;first|done|rfl) (by rw[show(G).toArray.size=8 by simp[E]];exact s.2) (by rw[show(G).toArray.size=8 by simp[E]];exact R.size) a0 ?_;refine oL hK ?_;refine oD ?_;go_wp2;go_roundw;·exact⟨k+1,Y,Zg,by rw[a9];exact t⟩
   ·simp[intOf] <;> omega
  ·have a6:¬(k:Int)<(n:Int):=Y;obtain rfl:k=n:=Y;go_wp2;go_end0;exact⟨rfl,by have:=d.out;rwa [Zix O P]at this⟩
theorem ZdH (R:WU prog 159 enc w0 blk off N)(F:N≤1048576)(G:∀x,∀v∈enc x,v.oneCell'=true){A X U8 S:List α}{a m b:Nat}(C:U2)(h:Zo enc w0 blk off N (A++(X++(U8++S))) W)(L:A.length=a)(hx:a+X.length=m)(hy:m+U8.length=b)(a7:a<m)(a8:m<b):
  Calls prog 340 #[.slice (some ⟨blk,off,none⟩) N cap,a,m,b,C] W fun e w'=>e=.returned (.tuple #[])∧Zo enc w0 blk off N (A++(U8++(X++S))) w':=by
 have a9:b≤N:=by have:=h.1;simp only[Zw]at this;omega
 obtain⟨D,O⟩:=Zb X.length;obtain⟨E,P⟩:=Zb U8.length;have HA:=Z L;have HI:=Z O;have HJ:=Z P;have HH:=Z h;have aa:a+D=m:=Y;have ab:m+E=b:=Y;have a0:IntKind.i64.wrap ((m:Int)-a)=(D:Int):=by rw[Xe];omega
 have a1:IntKind.i64.wrap ((b:Int)-m)=(E:Int):=by rw[Xe];omega
 have a2:(m:Int)-a=(D:Int):=Y;have a3:(b:Int)-m=(E:Int):=Y;clear h O P L hx hy;go_enter func340,ntmps340;go_wp2;go_loopw [10,11] (fun vi vj wr=>∃(i j:Nat) (p d c f:List α),vi=.int .i64 (i:Int)∧vj=.int .i64 (j:Int)∧0<i∧0<j∧i≤m∧m+j≤b∧Zo enc w0 blk off N (p++(d++(c++f))) wr∧Hid (p.length+i=m∧d.length=i∧c.length=j∧A++(U8++(X++S))=p++(c++(d++f)))) (fun i j _=>(intOf i).toNat+(intOf j).toNat)
 ·exact⟨D,E,A,X,U8,S,rfl,rfl,Y,Y,Y,Y,HH,⟨Zc HA.out,HI,HJ,rfl⟩⟩
 ·obtain⟨i,j,p,d,c,f,rfl,rfl,hi,hj,a4,a5,Q,w⟩:=hrel;have H:=Z Q;clear Q a0 a1 a2 a3;rcases Nat.lt_trichotomy i j with I|I|I
  ·have T:¬(i:Int)=(j:Int):=Y;have t2:¬(j:Int)<(i:Int):=Y;obtain⟨r,U⟩:=Zb (m-i);obtain⟨V,ac⟩:=Zb (m+j-i);obtain⟨g,a6⟩:=Zb (j-i);have y:(m:Int)-i=(r:Int):=Y;have e2:(m:Int)+j-i=(V:Int):=Y;have J:(j:Int)-i=(g:Int):=Y;obtain⟨q,l,o,k⟩:=w.out;have s:=Z61 (cap:=cap) R F G (A:=p) (X:=d) (M:=c.take g) (U8:=c.drop g) (S:=f) (a:=r) (b:=V) (n:=i) C (W:=wr) (by have:=H.out;rwa [show c++f=c.take g++(c.drop g++f) by rw[←YH,Vh]]at this) Y l Zx Zx;have z:=Z s;clear q l o k s;go_wp2_with fail;(try rw[y,e2]);refine z.mono ?_;rintro e w2 ⟨rfl,t⟩;have B:=Z t;clear t;go_wp2_with fail;(try rw[J]);go_roundw;·refine⟨i,g,p,c.drop g,c.take g,d++f,rfl,rfl,hi,Y,a4,Y,by have:=B.out;simpa using this,?_⟩;obtain⟨q,l,o,k⟩:=w.out;refine⟨q,Zx,Zx,?_⟩;rw[k,←YH (c.take g),Vh]
   ·simp[intOf] <;> omega
  ·subst I;have T:(i:Int)=(i:Int):=rfl;obtain⟨r,U⟩:=Zb (m-i);have y:(m:Int)-i=(r:Int):=Y;obtain⟨q,l,o,k⟩:=w.out;have s:=Z61 (cap:=cap) R F G (A:=p) (X:=d) (M:= []) (U8:=c) (S:=f) (a:=r) (b:=m) (n:=i) C (W:=wr) (by have:=H.out;simpa using this) Y l o Zx;have z:=Z s;clear q l o k s;go_wp2_with fail;(try rw[y]);refine z.mono ?_;rintro e w2 ⟨rfl,t⟩;have B:=Z t;clear t;go_wp2;go_end0;refine⟨rfl,?_⟩;obtain⟨q,l,o,k⟩:=w.out;rw[k];simpa using B.out
  ·have T:¬(i:Int)=(j:Int):=Y;have t2:(j:Int)<(i:Int):=Y;obtain⟨r,U⟩:=Zb (m-i);obtain⟨g,a6⟩:=Zb (i-j);have y:(m:Int)-i=(r:Int):=Y;have J:(i:Int)-j=(g:Int):=Y;obtain⟨q,l,o,k⟩:=w.out;have s:=Z61 (cap:=cap) R F G (A:=p) (X:=d.take j) (M:=d.drop j) (U8:=c) (S:=f) (a:=r) (b:=m) (n:=j) C (W:=wr) (by have:=H.out;rwa [show d++(c++f)=d.take j++(d.drop j++(c++f)) by rw[←YH (d.take j),Vh]]at this) Y Zx o Zx;have z:=Z s;clear q l o k s;go_wp2_with fail;(try rw[y]);refine z.mono ?_;rintro e w2 ⟨rfl,t⟩;have B:=Z t;clear t;go_wp2_with fail;(try rw[J]);go_roundw;·refine⟨g,j,p++c,d.drop j,d.take j,f,rfl,rfl,Y,hj,Y,a5,by have:=B.out;simpa using this,?_⟩;obtain⟨q,l,o,k⟩:=w;refine⟨Zx,Zx,Zx,?_⟩;rw[k,←YH (d.take j),Vh,YH]
   ·simp[intOf] <;> omega
theorem Z9m (ho:We fun x y=>decide (cf x y<0))(R:WU prog 159 enc w0 blk off N)(hN:N≤1048576)(h1:∀x,∀v∈enc x,v.oneCell'=true)(eg:∀a0 w,(callFunc g a0).run prog w=.ok (.enter g a0) w)(hC:CmpLays prog g #[] enc 8 cf blk off N w0){A L S:List α}{a b:Nat}(h:Zo enc w0 blk off N (A++(L++S)) W)(ha:A.length=a)(hb:a+L.length=b):
  Calls prog 292 #[.slice (some ⟨blk,off,none⟩) N cap,a,b,.func (.func g) #[] #[]] W fun e G=>e=.returned (.tuple #[])∧Zo enc w0 blk off N (A++(Yc (fun x y=>decide (cf x y<0)) L++S)) G:=by
 have aq:b≤N:=by have:=h.1;simp only[Zw]at this;omega
 have ar:a≤b:=Y;have HA:=Z ha;have D:=Z hb;have HH:=Z h;have HC:=Z hC;have HO:=Z ho;clear h ha hb hC ho;go_enter func292,ntmps292;go_wp2;go_loopw [8] (fun vi wr=>∃(i:Nat),vi=.int .i64 (i:Int)∧a<i∧i≤b+1∧(i≤b∨a=b)∧Zo enc w0 blk off N (A++(Yc (fun x y=>decide (cf x y<0)) (L.take (i-a))++(L.drop (i-a)++S))) wr) (fun i _=>b+1-(intOf i).toNat)
 ·refine⟨a+1,Zg,Y,Y,Y,?_⟩;have e:Yc (fun x y=>decide (cf x y<0)) (L.take (a+1-a))=L.take (a+1-a):=by
   rw[show a+1-a=1 from Y];cases L with
   |nil=>rfl
   |cons x L=>rfl
  rw[e,←YH (List.take _ _),Vh];exact HH
 ·obtain⟨i,rfl,av,aw,ax,k⟩:=hrel;have d:=Z k;clear k;by_cases ay:i<b
  ·have ah:(i:Int)<(b:Int):=Y;obtain⟨x,a1,a2⟩:∃x,L.drop (i-a)=x::L.drop (i-a+1)∧L.take (i-a+1)=L.take (i-a)++ [x]:=by have:i-a<L.length:=Zc D.out;exact⟨L[i-a],Z0q this,ZR this⟩
   obtain⟨U9,C⟩:=Zb (Yc (fun x y=>decide (cf x y<0)) (L.take (i-a)));have a3:Xi (fun x y=>decide (cf x y<0)) U9:=(by rw[←C];exact Z3h HO _);have a4:U9.length=i-a:=(by rw[←C,Z0T];simp;have:=D.out;omega);have a5:Yc (fun x y=>decide (cf x y<0)) (L.take (i-a+1))=ins (fun x y=>decide (cf x y<0)) x U9:=(by rw[a2,Z8u,C]);have k:=d.out;rw[C,a1]at k;clear d;have d:=Z k;have ai:=Z a5;have aj:=Z a3;have ak:=Z a4;clear k a5 a3 a4 C a1 a2;obtain⟨p,H⟩:=Zb (L.drop (i-a+1)++S);have al:=Z H;have k:=d.out;simp only[Z0L]at k;rw[H]at k;clear H d;have d:=Z k;clear k;go_wp2;go_loopw [9] (fun vj am=>∃(j:Nat) (m l:List α),vj=.int .i64 (j:Int)∧a≤j∧j≤i∧Zo enc w0 blk off N (A++(m++(x::(l++p)))) am∧Hid (a+m.length=j∧U9=m++l∧∀y∈l,cf x y<0)) (fun j _=>(intOf j).toNat)
   ·exact⟨i,U9, [],rfl,Y,Z4 _,by simpa using d.out,⟨Zc ak.out,Ze,fun y q=>by cases q⟩⟩
   ·obtain⟨j,m,l,rfl,az,aB,a6,t⟩:=hrel;clear d;have d:=Z a6;clear a6;have a7:(∀y∈m,¬cf x y<0)→A++(m++(x::(l++p)))=A++(Yc (fun x y=>decide (cf x y<0)) (L.take (i+1-a))++(L.drop (i+1-a)++S)):=fun hn=>by obtain⟨_,I,J⟩:=t.out;rw[show i+1-a=i-a+1 from Y,ai,I,Zap (fun y q=>by simpa using hn y q) (fun y q=>by simpa using J y q),al];simp
    have a8:=Z a7;clear a7;by_cases aC:a<j
    ·have aD:(a:Int)<(j:Int):=Y;obtain⟨n,rfl⟩:∃n,j=n+1:=⟨j-1,Y⟩;obtain⟨o,y,f⟩:∃o y,m=o++ [y]:=by have:0<m.length:=Zc t.1;exact⟨m.dropLast,m.getLast (List.ne_nil_of_length_pos this),(List.dropLast_concat_getLast _).symm⟩
     subst f;obtain⟨r,an⟩:=Zb (n+1);have M:A++(o++ [y]++(x::(l++p)))=(A++o)++y::([]++x::(l++p)):=Ze;have s:(A++o).length=n:=(by have:=t.1;have:=HA.out;simp at*;omega);have B:n+1+([]:List α).length=r:=(by simpa using an);have p1:=Zo.pre R d (A:=A++(o++ [y])) (S:=l++p) (x:=x) (i:=r) Ze (by simp at*;omega);have p2:=Zo.pre R d M s;have P1:=Z p1;have P2:=Z p2;have HL:=Z M;have ao:=Z s;have ap:=Z B;have ci:(r:Int)<(N:Int):=Y;have aE:(n:Int)<(N:Int):=Y;have c4:(n:Int)+1=(r:Int):=Y;have c5:(a:Int)<(r:Int):=Y;have c6:IntKind.i64.wrap ((r:Int)-1)=(n:Int):=(by rw[Xe];omega);clear p1 p2 M s B;have aF:(fun b=>b) (decide ((a:Int)<r))=true:=(by simp[c5]);go_wp2_with fail;(try rw[c4]);refine oS [] (Zo enc w0 blk off N (A++(o++ [y]++(x::(l++p))))) [0,1,2,3,4,5,6,7,8,9,10,11,12,13,14,15,16] (d.drew) fun hS=>?_;(iterate 8 refine oV ?_);refine oC (y:=fun w hSw=>by apply Pure.val;refine(WL 159 (.tmp 25) rfl (by go_simp;first|done|rfl) (Zo.ld hSw R P1)).trans ?_;with_reducible rfl) (h:= ?_);(iterate 4 refine oV ?_);refine oC (y:=fun w hSw=>by apply Pure.val;refine(WL 159 (.tmp 30) rfl (by go_simp;first|done|rfl) (Zo.ld hSw R P2)).trans ?_;with_reducible rfl) (h:= ?_);refine oG fun K hK=>?_;go_simp
     first
      | (go_at_fn g)
      |skip
     refine((Zo.cmp0 hS HC x y)).mono ?_;rintro e wz ⟨rfl,a9⟩;go_wp2_with fail;refine oK hK a9 fun hS=>?_;clear a9;refine oV ?_;refine oV ?_;refine oD ?_;have O:=Z hS;clear d hS;by_cases aa:cf x y<0
     ·have d:=Z (show Zo enc w0 blk off N ((A++o)++y::([]++x::(l++p))) wz by rw[←HL];exact O);clear O;have s:=ao.out;have B:=ap.out;go_wp2_with fail;have P:=Zo.pre R d rfl s;have q:=Zo.pre R d (A:=(A++o)++y::([]:List α)) (S:=(l++p)) (x:=x) (i:=r) Ze (by simp at s B ⊢;omega);have E:=d.sts R q P;have ab:=d.exch R rfl s B;have Q:=d.drew.ld R P;have T:=d.drew.ld R q;have F:=Z ab.2;have U:(enc y).length=8:=R.hk y;have V:(enc x).length=8:=R.hk x;have ac:(enc y).toArray.all (·.oneCell')=true:=(by simpa using h1 y);have ad:(enc x).toArray.all (·.oneCell')=true:=(by simpa using h1 x);clear P q s B ab;obtain⟨ex,ae⟩:∃c,c=enc y:=⟨_,rfl⟩;obtain⟨ey,af⟩:∃c,c=enc x:=⟨_,rfl⟩;rw[←ae]at Q U ac F E;rw[←af]at T V ad F;clear ae af;obtain⟨wq,ag⟩:=WI wz;rw[←ag]at Q T E F ⊢;clear d ag;refine oS [15,17] (fun G=>G=wq.drew) [0,1,2,3,4,5,6,7,8,9,10,11,12,13,14,15,16,17] (rfl) fun hS=>?_;refine oV ?_;refine oV ?_;refine oF ?_;refine oF ?_;refine oF ?_;(iterate 4 refine oV ?_);refine oC (y:=fun w hSw=>by rw[hSw];apply Pure.val;refine(WL 159 (.tmp 45) rfl (by go_simp;first|done|rfl) Q).trans ?_;with_reducible rfl) (h:= ?_);refine oF ?_;refine oF ?_;refine oF ?_;refine oC (y:=fun w hSw=>by rw[hSw];apply Pure.val;refine(WL 159 (.tmp 49) rfl (by go_simp;first|done|rfl) T).trans ?_;with_reducible rfl) (h:= ?_);refine oV ?_;refine oM 15 fun K hK=>?_;refine wp_store_mid 159 (.tmp 51) (.tmp 46) rfl blk (off+r*8) (ex).toArray (by go_simp;first|done|rfl) (by go_simp;first|done|rfl) (by rw[show(ex).toArray.size=8 by simp[U]];exact E.1) (by rw[show(ex).toArray.size=8 by simp[U]];exact R.size) ac ?_;refine oL hK ?_;refine oF ?_ (sP 15);refine oM 15 fun K hK=>?_;refine wp_store_mid 159 (.tmp 52) (.tmp 50) rfl blk (off+n*8) (ey).toArray (by go_simp;first|done|rfl) (by go_simp;first|done|rfl) (by rw[show(ey).toArray.size=8 by simp[V]];exact E.2) (by rw[show(ey).toArray.size=8 by simp[V]];exact R.size) ad ?_;refine oL hK ?_;refine oD ?_;go_wp2;go_roundw
      ·refine⟨n,o,y::l,Zg,Y,Y,by have:=F.out;simpa using this,?_⟩;obtain⟨f1,I,J⟩:=t.out;refine⟨by simp at f1;omega,by rw[I];simp,fun z f=>?_⟩;rcases Xy.1 f with rfl|f;·exact aa
       ·exact J z f
      ·simp[intOf] <;> omega
     ·go_wp2;go_roundw
      ·refine⟨i+1,Zg,Y,Y,Y,?_⟩;rw[←a8];·exact O
       ·intro z f;have hp:=t.2.1;have k:=aj.out;rw[hp]at k;rcases YZ.1 f with f|f;·have h3:=(Z2P.1 (Z2P.1 k).1).2.2 z f y Ze;have:=HO.le (x:=z) (y:=y) (z:=x) h3 (by simpa using aa);simpa using this
        ·simp only[Yn]at f;subst f;omega
      ·simp[intOf] <;> omega
    ·have aG:decide ((j:Int) > (a:Int))=false:=decide_eq_false Y;have aH:¬(a:Int)<(j:Int):=Y;go_wp2_with fail;refine oS [] (Zo enc w0 blk off N (A++(m++(x::(l++p))))) [0,1,2,3,4,5,6,7,8,9,10,11,12,13,14,15,16] (d.drew) fun hS=>?_;(iterate 4 refine oV ?_);refine oN ?_;refine oN ?_;refine oN ?_;refine oN ?_;refine oN ?_;refine oN ?_;refine oN ?_;refine oN ?_;refine oN ?_;refine oN ?_;refine oN ?_;refine oN ?_;refine oV ?_;refine oD ?_;go_wp2;go_roundw
     ·refine⟨i+1,Zg,Y,Y,Y,?_⟩;rw[←a8];·exact hS
      ·intro z f;have:m=[]:=V3 (Zc t.1);rw[this]at f;cases f
     ·simp[intOf] <;> omega
  ·have ah:¬(i:Int)<(b:Int):=Y;go_wp2;go_end0;refine⟨rfl,?_⟩;have:=d.out;rwa [ZP (Zc D.out),Z11 (Zc D.out),Z10]at this
end
section
theorem X8 {base g:Nat}{w:U1}{e t:TypeId}{c n:Nat}{v:U2}{d cs:Z_}(h:w.ownsRow base e c v n d)(f:Row w g t cs)(i:e≠t):∀k,v.ownBlock=some k→k≠g:=fun k a j=>by
 subst j;rcases own_ne h f i with b|b;·rw[b]at a;cases a
 ·exact b a
theorem Z2N {vs:Z_}(h:WF vs){i j:Nat}(b:i<vs.length)(c:j<vs.length)(g:i≠j)(k:Nat)(a:(vs.getD i undef).ownBlock=some k):(vs.getD j undef).ownBlock≠some k:=by
 have d:=VH.1 h;rw[Z6,Z7 b]at a;rw[Z6,Z7 c];simp only[Yz]at a ⊢;rcases Yf i j with e|e;·exact d i j b c e k a
 ·intro f;exact d j i c b Y k f a
theorem Z7h {vs:Z_}(h:∀i j,i<vs.length→j<vs.length→i≠j→∀k,(vs.getD i undef).ownBlock=some k→(vs.getD j undef).ownBlock≠some k):WF vs:=by unfold WF;rw[VH];intro i j a b d k c;have:=h i j a b Y k;rw[Z6,Z7 a,Z6,Z7 b]at this;exact this c
structure MX (base gl n c m:Nat) (w:World) (vs:List Value) (a:Zl):Prop where
 o:Zq base w (.slice (some ⟨gl,0,none⟩) n c) vs a
 d:WF vs
 l:a.length=n
 wd:Wd m a
section
variable {base gl n c m:Nat} {w w':U1} {vs:Z_} {a:Zl}
theorem MX.vl (h:MX base gl n c m w vs a):vs.length=n:=by have:=h.o.own.1;rw[h.l]at this;omega
theorem MX.row (h:MX base gl n c m w vs a)(p:0<m){i:Nat}(e:i<n):∃g b,vs.getD i undef=.slice (some ⟨g,0,none⟩) m b∧base≤g∧g<w∧m≤b∧b≤9223372036854775807∧
  w.ownsRow base 5 1 (g,m,b) m ((a.getD i []).map Za)∧w.cell? (gl,i)=some (.slice (some ⟨g,0,none⟩) m b)∧w.frozen? ⟨gl,i,none⟩=false:=by
 have d:=h.o.at_ i (h.l ▸ e);have q:=h.wd i (h.l ▸ e);unfold OB at d;rw[q]at d;obtain⟨g,b,y,f,r,s,z,A,t,v⟩:=XN d p;have k:=h.o.own;rw[h.l]at k;have j:=Ww k e;rw[f]at d;have x:vs[i]? =some (vs.getD i undef):=by rw[Z6,Z7 (h.vl ▸ e)];rfl
 rw[x,f]at j;exact⟨g,b,f,r,s.lt,t,by simp only[maxLen]at v;omega,d,j.1,j.2⟩
theorem MX.below (h:MX base gl n c m w vs a)(b:Below w w w'):MX base gl n c m w' vs a:=⟨h.o.below b,h.d,h.l,h.wd⟩
theorem MX.upd (h:MX base gl n c m w vs a){i g r:Nat}{l:Y_}(s:i<n)(k:vs.getD i undef=.slice (some ⟨g,0,none⟩) m r)(t:l.length=m)(v:0<m)
  (A:w'.ownsRow base 5 1 (g,m,r) m (l.map Za)) (y:Only (fun q=>q=g) w w'):MX base gl n c m w' vs (a.set i l):=by
 obtain⟨F,G,z,_,_,_,_,B,_,_⟩:=h.row v s;rw[k]at z;injection z with f _ C;injection f with f;injection f with f _ _;subst f C;obtain⟨H,I,J,e,_,D,_,_,_,_⟩:=XN B v;injection e with e _ _;injection e with e;injection e with e _ _;subst e;refine⟨⟨?_,fun j b=>?_⟩,h.d,by rw[Ya];exact h.l,fun j b=>?_⟩;·rw[Ya];exact Zu h.o.own y (fun q p e=>X8 h.o.own D Z5 q p e)
 ·rw[Ya]at b;rw[X4];by_cases e:i=j;·subst e;rw[if_pos ⟨rfl,b⟩,k];unfold OB;rw[t];exact A
  ·rw[if_neg (fun x=>e x.1)];refine Zu (h.o.at_ j b) y (fun q p E=>?_);subst E;exact Z2N h.d (h.vl ▸ s) (by rw[h.vl,←h.l];exact b) e q (by rw[k];rfl) p
 ·rw[Ya]at b;rw[X4];split;·exact t
  ·exact h.wd j b
theorem MX.put (h:MX base gl n c m w vs a){i:Nat}{xv:U2}{l:Y_}(r:i<n)(G:l.length=m)(A:OB base w xv l)(B:∀j,j<n→j≠i→∀k,(vs.getD j undef).ownBlock=some k→xv.ownBlock≠some k):
  MX base gl n c m (w.setCell (gl,i) xv) (vs.set i xv) (a.set i l):=by
 have t:=h.o.own;rw[h.l]at t;obtain⟨I,J,L,e,_,C,_,_,_,_⟩:=XN t Y;injection e with e _ _;injection e with e;injection e with e _ _;subst e;have D:Only (fun q=>q=gl) w (w.setCell (gl,i) xv):=Only.set (F:=fun q=>q=gl) (Only.refl _ w) rfl i xv;have g:=h.vl;refine⟨⟨?_,fun j f=>?_⟩,Z7h fun j k f v s b=>?_,by rw[Ya];exact h.l,fun j f=>?_⟩;·rw[Ya,h.l];exact Z0f t r xv
 ·rw[Ya]at f;rw[X4,X4];have M:j<n:=by rw[←h.l];exact f
  by_cases e:i=j;·subst e;rw[if_pos ⟨rfl,by rw[g];exact r⟩,if_pos ⟨rfl,f⟩];exact Zu A D (fun q y p=>X8 A C Z5 q y p)
  ·rw[if_neg (fun x=>e x.1),if_neg (fun x=>e x.1)];exact Zu (h.o.at_ j f) D (fun q y p=>X8 (h.o.at_ j f) C Z5 q y p)
 ·rw[Ya,g]at f v;rw[X4,X4];by_cases E:i=j;·subst E;rw[if_pos ⟨rfl,by rw[g];exact r⟩,if_neg (fun x=>s x.1)];intro z H;exact B k v (fun e=>s e.symm) b H z
  ·rw[if_neg (fun x=>E x.1)];by_cases p:i=k;·subst p;rw[if_pos ⟨rfl,by rw[g];exact r⟩];intro z;exact B j f (fun e=>s e) b z
   ·rw[if_neg (fun x=>p x.1)];exact Z2N h.d (g ▸ f) (g ▸ v) s b
 ·rw[Ya]at f;rw[X4];split;·exact G
  ·exact h.wd j f
end
def swV (vs:Z_) (i j:Nat):Z_:=(vs.set i (vs.getD j undef)).set j (vs.getD i undef)
theorem ZiN (vs:Z_)(i j k:Nat)(c:i<vs.length)(d:j<vs.length):(swV vs i j).getD k undef=if k=j then vs.getD i undef else if k=i then vs.getD j undef else vs.getD k undef:=by
 unfold swV;rw[X4,X4,Ya];by_cases a:k=j;·subst a;simp[d]
 ·rw[if_neg (fun e=>a e.1.symm),if_neg a];by_cases b:k=i;·subst b;simp[c]
  ·rw[if_neg (fun e=>b e.1.symm),if_neg b]
theorem MX.swap {base gl n c m:Nat}{w:U1}{vs:Z_}{a:Zl}(h:MX base gl n c m w vs a){i j:Nat}(x:i<n)(y:j<n):
  MX base gl n c m ((w.setCell (gl,i) (vs.getD j undef)).setCell (gl,j) (vs.getD i undef)) (swV vs i j) (sw2 a i j):=by
 have C:=h.o.own;rw[h.l]at C;obtain⟨V,W,a0,e,_,I,_,_,_,_⟩:=XN C Y;injection e with e _ _;injection e with e;injection e with e _ _;subst e;have J:Only (fun q=>q=gl) w ((w.setCell (gl,i) (vs.getD j undef)).setCell (gl,j) (vs.getD i undef)):=Only.set (F:=fun q=>q=gl) (Only.set (F:=fun q=>q=gl) (Only.refl _ w) rfl i _) rfl j _;have t:=h.vl;have L:=fun k=>ZiN vs i j k (t ▸ x) (t ▸ y);have M:=fun k=>sw3 a i j k (h.l ▸ x) (h.l ▸ y);have N:(swV vs i j).length=n:=by unfold swV;rw[Ya,Ya];exact t
 have z:(sw2 a i j).length=n:=by rw[Z75];exact h.l
 have A:∀k,k<n→∃q,q<n∧(swV vs i j).getD k undef=vs.getD q undef∧(sw2 a i j).getD k []=a.getD q []∧q=(if k=j then i else if k=i then j else k):=fun k f=>by
  rw[L k,M k];by_cases r:k=j;·rw[if_pos r,if_pos r,if_pos r];exact⟨i,x,rfl,rfl,rfl⟩
  ·rw[if_neg r,if_neg r,if_neg r];by_cases s:k=i;·rw[if_pos s,if_pos s,if_pos s];exact⟨j,y,rfl,rfl,rfl⟩
   ·rw[if_neg s,if_neg s,if_neg s];exact⟨k,f,rfl,rfl,rfl⟩
 refine⟨⟨?_,fun k f=>?_⟩,Z7h fun k l f E O b=>?_,z,fun k f=>?_⟩;·rw[z];exact Z0f (Z0f C x _) y _
 ·rw[z]at f;obtain⟨q,B,D,v,_⟩:=A k f;rw[D,v];exact Zu (h.o.at_ q (h.l ▸ B)) J (fun b P Q=>X8 (h.o.at_ q (h.l ▸ B)) I Z5 b P Q)
 ·rw[N]at f E;obtain⟨q1,R,D,_,S⟩:=A k f;obtain⟨q2,T,v,_,U⟩:=A l E;rw[D,v];refine Z2N h.d (t ▸ R) (t ▸ T) (fun e=>O ?_) b;rw[S,U]at e;by_cases G:k=j
  ·rw[if_pos G]at e;by_cases g:l=j;·omega
   ·rw[if_neg g]at e;by_cases p:l=i;·rw[if_pos p]at e;omega
    ·rw[if_neg p]at e;omega
  ·rw[if_neg G]at e;by_cases H:k=i
   ·rw[if_pos H]at e;by_cases g:l=j;·rw[if_pos g]at e;omega
    ·rw[if_neg g]at e;by_cases p:l=i;·omega
     ·rw[if_neg p]at e;omega
   ·rw[if_neg H]at e;by_cases g:l=j;·rw[if_pos g]at e;omega
    ·rw[if_neg g]at e;by_cases p:l=i;·rw[if_pos p]at e;omega
     ·rw[if_neg p]at e;omega
 ·rw[z]at f;obtain⟨q,B,_,v,_⟩:=A k f;rw[v];exact h.wd q (h.l ▸ B)
end
def Z0a (c b:Nat) (a:Zl) (i:Nat):Zl:=a.mapIdx fun j r=>if j<i∧j≠b then Wi (r.getD c 0) (a.getD b []) r else r
theorem Z0X (b c:Nat)(a:Zl)(i:Nat):(Z0a b c a i).length=a.length:=by simp[Z0a]
theorem Z29 (c b:Nat)(a:Zl)(i j:Nat)(h:j<a.length):(Z0a c b a i).getD j []=if j<i∧j≠b then Wi (at2 a j c) (a.getD b []) (a.getD j []) else a.getD j []:=by simp only[Z0a,at2,Z6,Z2W,Z7 h,Z0p,Yz]
theorem Z1H {a b:Zl}(d:a.length=b.length)(h:∀j,j<a.length→a.getD j []=b.getD j []):a=b:=by
 apply VP;intro j;by_cases c:j<a.length;·have:=h j c;rw[Z6,Z6,Z7 c,Z7 Y]at this;rw[Z7 c,Z7 Y];simpa using this
 ·rw[XX Y,XX Y]
theorem ZjI (c d:Nat)(a:Zl):Z0a c d a 0=a:=Z1H (Z0X ..) fun j b=>by rw[Z0X]at b;rw[Z29 _ _ _ _ _ b,if_neg Y]
theorem ZgT (d c:Nat)(a:Zl):Z0a d c a a.length=elm d c a:=Z1H (by rw[Z0X,Z2K]) fun j b=>by
 rw[Z0X]at b;rw[Z29 _ _ _ _ _ b,Z5l _ _ _ _ b];by_cases e:j=c;·rw[if_neg (fun h=>h.2 e),if_pos e]
 ·rw[if_pos ⟨b,e⟩,if_neg e]
theorem Zg9 (f b:Nat)(a:Zl)(i:Nat)(h:i=b):Z0a f b a (i+1)=Z0a f b a i:=Z1H (by rw[Z0X,Z0X]) fun j c=>by
 rw[Z0X]at c;rw[Z29 _ _ _ _ _ c,Z29 _ _ _ _ _ c];by_cases e:j<i∧j≠b;·rw[if_pos e,if_pos ⟨Y,e.2⟩]
 ·rw[if_neg e,if_neg (fun d=>e ⟨YU d.1 d.2,d.2⟩)]
theorem ZeU (f b:Nat)(a:Zl)(i:Nat)(k:i<a.length)(h:i≠b):Z0a f b a (i+1)=(Z0a f b a i).set i (Wi (at2 a i f) (a.getD b []) (a.getD i [])):=Z1H (by rw[Z0X,Ya,Z0X]) fun j c=>by
 rw[Z0X]at c;rw[X4,Z0X,Z29 _ _ _ _ _ c,Z29 _ _ _ _ _ c];by_cases e:i=j;·subst e;rw[if_pos ⟨Y,h⟩,if_pos ⟨rfl,c⟩]
 ·have g:∀X U8:Y_,(if i=j∧j<a.length then X else U8)=U8:=fun _ _=>if_neg (fun x=>e x.1);rw[g];by_cases d:j<i∧j≠b;·rw[if_pos d,if_pos ⟨Y,d.2⟩]
  ·rw[if_neg d,if_neg (fun x=>d ⟨Zc x.1,x.2⟩)]
theorem MX.drewN {w:U1}{a:Zl}(h:MX n m k i j w l a)(d:Nat):MX n m k i j (w.drewN d) l a:=h.below (bq_ (Z8 _ _) d)
theorem Yq.below {w':U1}{g B:Nat}(h:Yq w g)(a:Below B w w')(b:g<B):Yq w' g:=Row.below h a b
theorem Z8h (g s n c m D C:Nat)(vs:Z_)(a:Zl)(w:U1)(hf:Yq w g)(ac:g<C)(h:MX C s n c m w vs a)(L:C≤w)(hn:n≤1048576)(M:0<m)(b3:m≤64)(hc:D≤m):
  Calls prog 252 #[(g,()),(s,n,c),(D:Int)] w fun e w'=>e=.returned (.int .i64 ((Yh D a).1:Int))∧∃I,MX C s n c m w' I (Yh D a).2∧Below C w w':=by
 have HF:=Z hf;have H:=Z h;have HL:=Z h.l;have bD:=Z h.wd;obtain⟨R,hR⟩:=Zb (Yh D a);rw[hR];have HR:=Z hR;clear hf h hR;go_enter func252,ntmps252;go_wp2;go_loopw [7,12] (fun t i wr=>∃(k:Nat) (I:Z_),k≤D∧i=.int .i64 (k:Int)∧t=.int .i64 ((X0 k (0,a)).1:Int)∧Hid (MX C s n c m wr I (X0 k (0,a)).2)∧Hid (Below C w wr)) (fun _ i _=>D-(intOf i).toNat)
 ·exact⟨0,vs,Y,rfl,rfl,H,Z (Z8 _ _)⟩
 ·obtain⟨k,I,hk,rfl,rfl,E,HB⟩:=hrel;obtain⟨f,a7⟩:∃t,(X0 k (0,a)).1=t:=⟨_,rfl⟩;obtain⟨b,hb⟩:=Zb ((X0 k (0,a)).2);have aC:=Z2A k a;rw[a7,HL]at aC;rw[a7];rw[hb]at E;have ad:=Z (show X0 k (0,a)=(f,b) by rw[←a7,←hb]);clear a7 hb;by_cases bE:k<D
  ·have bF:(k:Int)<(D:Int):=Y;have a0:b.length=n:=E.l;obtain⟨r,hr⟩:=Zb (bgI b f k);have ae:=Z hr;clear hr;go_wp2_with fail;refine(Zdv wr (some ⟨s,0,none⟩) n c f k m I b _ (E.o.read a0) hn E.wd aC.2 Y b3 r ae).mono ?_;rintro e w1 ⟨rfl,rfl⟩;cases hbg:VA b f k with
   |none=>
    obtain rfl:r= -1:=by rw[←ae];unfold bgI;rw[hbg]
    have a1:X0 (k+1) (0,a)=(f,b):=(by rw[X0,ad];unfold Z09;simp only[hbg]);have S:=Z a1;clear a1;go_wp2;go_roundw;·exact⟨k+1,I,Y,Zg,by rw[S],by rw[S];exact E,HB⟩
    ·exact Zh
   |some i=>
    have T:=Z3p hbg;rw[a0]at T;obtain rfl:r=(i:Int):=by rw[←ae];unfold bgI;rw[hbg]
    have G:f<n:=Y;have a1:X0 (k+1) (0,a)=(f+1,elm k f (XT b f i k)):=(by rw[X0,ad];unfold Z09;simp only[hbg]);have S:=Z a1;have bG:=Z hbg;obtain⟨N,O,aD,_,bH,_,_,b4,ci,_⟩:=E.row M T.2.1;obtain⟨gq,a8,a2,_,bI,_,_,a3,ct,_⟩:=E.row M G;have bJ:¬(i:Int)<0:=Y;have bK:(i:Int)<(n:Int):=Y;have bL:(f:Int)<(n:Int):=Y;have ho:=E.o.own;rw[a0]at ho;have fz:∀q,(wr.drewN 1).frozen? ⟨s,q,none⟩=false:=fun q=>by obtain⟨gx,cx,b5,e,_,af,_,_,_,_⟩:=XN ho Y;injection e with e _ _;injection e with e;injection e with e _ _;subst e;exact af.frozen q
    have ag:=(E.drewN 1).swap G T.2.1;rw[aD,a2]at ag;have aE:∀q,((wr.drewN 1).setCell (s,f) (N,m,O)).frozen? ⟨s,q,none⟩=false:=fun q=>by obtain⟨gx,cx,b5,e,_,af,_,_,_,_⟩:=XN ho Y;injection e with e _ _;injection e with e;injection e with e _ _;subst e;exact(Row.set (w:=wr.drewN 1) af f _).frozen q
    obtain⟨u2,b6⟩:∃u,(wr.setCell ⟨s,f,none⟩ (.slice (some ⟨N,0,none⟩) m O)).cell? ⟨s,i,none⟩=some u:=by have:=Z0f ho G (N,m,O);have U:=(Ww this T.2.1).1;rw[U];exact⟨_,Z7 (Zc this.1)⟩
    have aF:=Z ag;clear ag b4 a3 ho hbg a1 aD a2;go_wp2_with fail;refine oS [13,15] (fun wx=>wx.cell? ⟨s,i,none⟩=some (.slice (some ⟨N,0,none⟩) m O)∧wx.cell? ⟨s,f,none⟩=some (.slice (some ⟨gq,0,none⟩) m a8)) [0,1,2,3,4,5,6,7,8,9,10,11,12,13,14,15] (⟨ci,ct⟩) fun hS=>?_;refine oV ?_;refine oV ?_;refine oF ?_;refine oF ?_;(iterate 9 refine oV ?_);refine oM 13 fun K hK=>?_;have f1:=fz f;go_simp;refine oL hK ?_;refine oF ?_ (sP 13);refine oM 13 fun K hK=>?_;have f2:=aE i;go_simp;refine oL hK ?_;refine oD ?_;change (Exit.then _ _) Exit.normal _ (((wr.drewN 1).setCell (s,f) (N,m,O)).setCell (s,i) (gq,m,a8));have ah:C≤s:=(ZC E.o.own s rfl).1;have ai:=Z (((bq_ HB 1).setCell (p:=(⟨s,f,none⟩:U3)) ah (N,m,O)).setCell (p:=(⟨s,i,none⟩:U3)) ah (gq,m,a8));have F:=aF;generalize ((wr.drewN 1).setCell (s,f) (N,m,O)).setCell (s,i) (gq,m,a8)=w7 at F ai ⊢;have a4:=ai;clear aF fz aE b6 f1 f2 ci ct ai;have aG:(sw2 b f i).getD f []=b.getD i []:=by
     rw[sw3 b f i f (by rw[a0];exact G) (by rw[a0];exact T.2.1)];by_cases e:f=i;·rw[if_pos e,e]
     ·rw[if_neg e,if_pos rfl]
    have a9:=Z (show(sw2 b f i).set f (VL (Z1_ (at2 (sw2 b f i) f k)) ((sw2 b f i).getD f []))=XT b f i k from rfl);generalize swV I f i=vs7 at F;have aH:=F.l;have aI:at2 (sw2 b f i) f k≠0:=(by unfold at2;rw[aG];exact T.2.2);generalize sw2 b f i=b7 at F aH a9 aI;clear aG;obtain⟨gt,aJ,a2,bM,bO,bP,bQ,a3,c7,f7⟩:=F.row M G;have aj:(b7.getD f []).length=m:=F.wd f (by rw[aH];exact G);have aa:=(Y8 a3);obtain⟨V,W,eS,_,_,aa⟩:=aa;injection eS with b9 _ ba;subst b9 ba;have P:=(Ww a3 (show k<m from Y)).1;rw[XF _ k (by rw[aj];omega)]at P;obtain⟨y,hy⟩:=Zb ((b7.getD f []).getD k 0);rw[hy]at P;have ak:at2 b7 f k=y:=hy;obtain⟨iv,al⟩:∃v,Z1_ y=v:=⟨_,rfl⟩;rw[ak,al]at a9;have bb:=Z al;have HY:=Z ak;have aK:=Z aa;have bR:=y.isLt;have bc:(k:Int)<(m:Int):=Y;unfold Za at P;have bd:=Z a2;clear hy ak al aa a2 a3;have bT:(0:Int)≤(i:Int):=Y;go_wp2_with fail;refine oS [18] (fun wx=>wx.cell? ⟨s,f,none⟩=some (.slice (some ⟨gt,0,none⟩) m aJ)∧wx.cell? ⟨gt,k,none⟩=some (.int .u8 (y.toNat:Int))∧Below C w wx∧MX C s n c m wx vs7 b7) [0,1,2,3,4,5,6,7,8,9,10,12,13,14,15,11,16,17,18] (⟨c7,P,bq_ a4 1,F.drewN 1⟩) fun hS=>?_;(iterate 15 refine oV ?_);refine oG fun K hK=>?_;go_simp;go_at_call 311;refine(Zia g y _ _ (HF.below hS.2.2.1 ac) rfl).mono ?_;rintro e w5 ⟨rfl,d,rfl⟩;rw[bb];unfold Za;go_wp2_with fail;refine oK hK ⟨c7,P,bq_ a4 (1+d),F.drewN (1+d)⟩ fun hS=>?_;refine oG fun K hK=>?_;go_simp;go_at_call 310;refine(ZeG g iv w7 (some ⟨gt,0,none⟩) m aJ (b7.getD f []) _ (HF.below hS.2.2.1 ac) (aK.drewN (1+d)) (Z4 _) Y).mono ?_;rintro e w5 ⟨V,W,rfl,aL,L⟩;have am:=hS.2.2.2.below L;have an:=hS.2.2.1.trans (L.mono (by have:=a4.size;have U:w7.heap.size=(w7.drewN (1+d)).heap.size:=rfl;omega));have ao:=Z aL;have k1:=(L.cell (p:=(s,f)) (block_lt_of_cell hS.1)).trans c7;have k2:=(L.cell (p:=(gt,k)) (block_lt_of_cell hS.2.1)).trans P;have be:=L.size;clear L aL;go_wp2_with fail;refine oK hK ⟨k1,k2,an,am⟩ fun hS=>?_;clear k1 k2;refine oV ?_;refine oM 18 fun K hK=>?_;obtain⟨_,_,_,_,_,_,_,_,_,bf⟩:=hS.2.2.2.row M G;have bg:=hS.1;go_simp;refine oL hK ?_;refine oD ?_;change (Exit.then _ _) Exit.normal _ (w5.setCell (s,f) (V,m,W));have Q:=am.put (i:=f) (xv:= .slice V m W) (l:=VL iv (b7.getD f [])) G (by rw[Z0Y,aj]) (by
     have:=ao.out;unfold OB at this ⊢;exact ZA this (by have:=a4.size;have U:w7.heap.size=(w7.drewN (1+d)).heap.size:=rfl;omega)) (fun j hj bU q h1 U=>by
     have h3:=(F.o.lt _ (by rw[Z6,Z7 (by rw[F.vl];exact hj)];exact Zp _) q h1).2;have h4:=(ZC ao q U).1;have h5:w7.heap.size=(w7.drewN (1+d)).heap.size:=rfl;omega)
    rw[a9]at Q;have ap:=an.setCell (p:=(⟨s,f,none⟩:U3)) ah (V,m,W);generalize vs7.set f (V,m,W)=vs8 at Q;generalize w5.setCell (s,f) (V,m,W)=w8 at Q ap ⊢;obtain⟨A,aM⟩:=Zb (XT b f i k);rw[aM]at Q S;have bh:=Z Q;have bi:=Z ap;have bj:A.length=n:=Q.l;clear aM Q ap an am bg bf ao a9 HY P c7 f7 aK bd F a4 aj aI be;go_wp2;go_loopw [55] (fun ii aO=>∃(q:Nat),q≤n∧ii=.int .i64 (q:Int)∧Hid (MX C s n c m aO vs8 (Z0a k f A q))∧Hid (Below C w aO)) (fun ii _=>n-(intOf ii).toNat)
    ·exact⟨0,Y,rfl,by rw[ZjI];exact bh,bi⟩
    ·obtain⟨q,hq,rfl,J,a5⟩:=hrel;by_cases aq:q<n
     ·have bV:(q:Int)<(n:Int):=Y;by_cases ar:q=f
      ·subst ar;go_wp2;go_roundw;·exact⟨q+1,Y,Zg,by rw[Zg9 _ _ _ _ rfl];exact J,a5⟩
       ·exact Zh
      ·have bW:¬(q:Int)=(f:Int):=Y;have aP:q<A.length:=Y;have bk:f<A.length:=Y;have aQ:(Z0a k f A q).getD q []=A.getD q []:=(by rw[Z29 _ _ _ _ _ aP,if_neg Y]);have aR:(Z0a k f A q).getD f []=A.getD f []:=(by rw[Z29 _ _ _ _ _ bk,if_neg (fun x=>x.2 rfl)]);obtain⟨g2,c2,av,bl,c0,_,_,a6,d2,_⟩:=J.row M aq;obtain⟨g3,c3,aT,c1,c4,_,_,aw,d3,_⟩:=J.row M G;rw[aQ]at a6;rw[aR]at aw;have ax:(A.getD q []).length=m:=(by have:=a6.1;simpa using this);obtain⟨A3,c5,e3,_,_,aU⟩:=Y8 aw;injection e3 with e3 _ bm;subst e3 bm;have dz:=(Ww a6 (show k<m from Y)).1;rw[XF _ k (by rw[ax];omega)]at dz;obtain⟨z,hz⟩:=Zb ((A.getD q []).getD k 0);rw[hz]at dz;have ay:=ZeU k f A q aP ar;have aV:at2 A q k=z:=hz;rw[aV]at ay;have bn:=Z ay.symm;have c6:=z.isLt;have aW:∀b o,(some ⟨g3,0,none⟩:X_)=some ⟨b,o,none⟩→b≠g2:=fun b o e=>by injection e with e;injection e with e _ _;subst e;have b0:=J.vl;intro e;subst e;exact Z2N J.d (by rw[b0];exact aq) (by rw[b0];exact G) ar g3 (by rw[av];rfl) (by rw[aT];rfl)
       have bo:=Z aW;have b1:=HF.below a5 ac;have bp:=Z (show g≠g2 from Y);have bq:=Z b1;have br:=Z aU;have bs:=Z a6;have bt:=Z av;have bv:=Z ax;have c9:(k:Int)<(m:Int):=bc;unfold Za at dz;clear aQ aR av aT a6 aw ax aU ay hz aV aW b1;go_wp2_with fail;refine oS [16] (fun wx=>wx.cell? ⟨s,q,none⟩=some (.slice (some ⟨g2,0,none⟩) m c2)∧wx.cell? ⟨s,f,none⟩=some (.slice (some ⟨g3,0,none⟩) m c3)∧wx.cell? ⟨g2,k,none⟩=some (.int .u8 (z.toNat:Int))) [0,1,2,3,4,5,6,7,8,9,10,11,12,13,14,15,16] (⟨d2,d3,dz⟩) fun hS=>?_;refine oV ?_;refine oF ?_;refine oF ?_;(iterate 13 refine oV ?_);refine oM 16 fun K hK=>?_;go_simp;go_at_call 312;refine(ZgU g z wr C (some ⟨g3,0,none⟩) m c3 g2 c2 (A.getD f []) (A.getD q []) _ (bq.drewN 1) (br.drewN 1) bo bp (od_ bs 1) Y).mono ?_;rintro e w9 ⟨rfl,b2,az⟩;have aB:=(J.drewN 1).upd aq bt (by rw[VO,bv]) M b2 az;rw[bn]at aB;have bw:=Z aB;have bx:=Z ((bq_ a5 1).trans (az.below (B:=C) (fun _ e=>by subst e;exact bl) (by have:=a5.size;have U:wr.heap.size=(wr.drewN 1).heap.size:=rfl;omega)));clear b2 az aB;go_wp2_with fail;refine oL hK ?_;refine oD ?_;go_wp2;go_roundw;·exact⟨q+1,Y,Zg,bw,bx⟩
       ·exact Zh
     ·have bz:q=n:=Y;have ab:Z0a k f A q=elm k f A:=(by rw[bz,←bj];exact ZgT k f A);rw[ab]at J;have bB:=J;have ca:¬(q:Int)<(n:Int):=Y;clear ab;go_wp2;go_roundw;·exact⟨k+1,vs8,Y,Zg,by rw[S];go_num,by rw[S];exact bB,a5⟩
      ·exact Zh
  ·have bC:k=D:=Y;have ab:(f,b)=R:=(by rw[←ad,←HR,bC];rfl);have h9:¬(k:Int)<(D:Int):=Y;go_wp2;go_ret;rw[←ab];exact⟨rfl,⟨I,E⟩,HB⟩
theorem Z7v {f n m:Nat}{w:U1}{A:X_}{c:Nat}{d:Z_}{a:Zl}(h:Zq f w (A,n,c) d a)(j:WF d)(g:a.length=n)(k:0<n)(l:Wd m a):
  ∃b,A=some ⟨b,0,none⟩∧MX f b n c m w d a:=by
 have i:=h.own;rw[g]at i;obtain⟨b,p,q,e,_⟩:=XN i k;injection e with e _ o;subst e o;exact⟨b,rfl,⟨h,j,g,l⟩⟩
theorem Zci (g B:Nat)(A:X_)(n c m:Nat)(f:Z_)(a:Zl)(w:U1)(t:Yq w g)(h:XL w B A n f a)(I:B≤w)(v:0<n)(j:n≤1048576)(J:0<m)(x:m≤64)(L:∀r∈a,r.length=m):
  Calls prog 299 #[(g,()),(A,n,c)] w fun e M=>∃N O,e=.returned (.slice N (Yh m a).1 O)∧Below w w M:=by
 have P:=t;have H:=h;have b:=Z L;have Q:a.length=n:=h.len;have d:=Z Q;obtain⟨R,y⟩:=Zb (Yh m a);rw[y];have S:=Z y;have z:=t.lt;go_enter func299,ntmps299;go_wp2_with fail;refine(Z6P B A n c m f a _ H j b x).mono ?_;rintro e w1 ⟨rfl,rfl⟩;go_wp2_with fail;refine(Zae B A f a n c _ H I j (fun i T=>by have:(a.getD i []).length=m:=b _ (by rw[Z6,Z7 (d ▸ T)];exact Zp _);omega)).mono ?_;rintro e U ⟨A2,k,C,rfl,D,V,p⟩;obtain⟨E,rfl,W⟩:=Z7v (m:=m) D V d v (Z3J b);have a0:=D.read d;have a1:=P.below p z;have a2:=p.size;go_wp2_with fail;refine(Z9e g _).mono ?_;rintro e w3 ⟨rfl,rfl⟩;go_wp2_with fail;refine(Z8M U (some ⟨E,0,none⟩) n k m C a _ a0 v b).mono ?_;rintro e w3 ⟨rfl,rfl⟩;go_wp2_with fail;refine(Z8h g E n k m m w C a _ a1 z W a2 j J x (Z4 _)).mono ?_;rintro e w4 ⟨rfl,a4,q,a3⟩;have F:(Yh m a).1≤n:=by have:=(Z2A m a).2;rw[d]at this;exact this
 rw[S]at q F ⊢;have s:=q.o.own;rw[q.l]at s;replace s:=Z1k s;obtain⟨r,G⟩:=Zb R.1;rw[G]at F ⊢;have a5:r≤k:=Y;go_wp2;go_ret;rw[G];exact⟨_,_,rfl,p.trans a3⟩
theorem ZgO (g B:Nat)(A:X_)(n c m:Nat)(b:Z_)(a:Zl)(w:U1)(d:Yq w g)(h:XL w B A n b a)(f:B≤w)(i:0<n)(j:n≤1048576)(k:0<m)(l:m≤64)(o:∀r∈a,r.length=m):
  Calls prog 271 #[(g,()),(A,n,c)] w fun e p=>e=.returned (.int .i64 ((Yh m a).1:Int))∧Below w w p:=by
 have q:=d;have H:=h;have s:=Z o;go_enter func271,ntmps271;go_wp2_with fail;refine(Zci g B A n c m b a _ q H f i j k l s).mono ?_;rintro e v ⟨x,y,rfl,t⟩;go_wp2;go_ret;exact⟨rfl,t⟩
