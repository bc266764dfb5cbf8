/- Num Params Chunk Keep Sum -/
import Derived.Deep.DeepMust
import Derived.Lib.SlBytesConst
import Derived.Test.YtpokipdpjhookaaGreatDoorBTopRetires01
import Derived.Test.YtpokipdpjhookaaGreatDoorBTopRetires04
set_option maxHeartbeats 8000000
set_option maxRecDepth 20000
set_option linter.all false
namespace Go.Proofs
open Go Go.RowKit Tryz
variable {s:List Int}
def Z0t (l:W_) (k:Int):Int:=if 0≤k∧k<(l.length:Int) then l.getD k.toNat 0 else 0
theorem Z9K (h:∀z∈s,-9223372036854775808≤z∧z≤9223372036854775807)(k:Int): -9223372036854775808≤Z0t s k∧Z0t s k≤9223372036854775807:=by
 unfold Z0t;split;·rename_i a;have:k.toNat<s.length:=Y;rw[Z6,Z7 this];exact h _ (Zp _)
 ·omega
theorem Z2L (B:Nat)(A:X_)(n c:Nat)(l:W_)(k r:Int)(w:U1)(h:Sl w B 1 A n (l.map (Value.int .i64)))(q:n≤9223372036854775807)(f:0≤k∧k≤9223372036854775807)(d:Z0t l k=r):
  Calls prog 11 #[(A,n,c),k] w fun e g=>e=.returned r∧w=g:=by
 have s:l.length=n:=by have:=h.len;simpa using this
 obtain⟨j,rfl⟩:=Z3I f.1;by_cases i:j<n
 ·obtain⟨b,o,rfl,_,m⟩:=h.get i (by rw[ZO,Z7 (show j<l.length from Y)];rfl);have a:l[j]'Y=r:=by rw[←d];unfold Z0t;rw[if_pos Y,ZL,Z6,Z7 (show j<l.length from Y)];rfl
  rw[a]at m;go_enter func11,ntmps11;go_wp2;go_ret;exact⟨rfl,rfl⟩
 ·have a:0=r:=by rw[←d];unfold Z0t;rw[if_neg Y]
  have p:=Z a;go_enter func11,ntmps11;go_wp2;go_ret;exact⟨YP p,rfl⟩
def Z78 (a b c:Int):Zf:=⟨1+a % 6,1+b % 3,1+c % 9⟩
theorem ZeM (p:Zf)(a b c:Int)(w:U1)(d: -9223372036854775808≤a∧a≤9223372036854775807)(f: -9223372036854775808≤b∧b≤9223372036854775807)(g: -9223372036854775808≤c∧c≤9223372036854775807)(o:Z78 a b c=p):
  Calls prog 32 #[a,b,c] w fun e q=>e=.returned (.agg #[p.K,p.H,p.S])∧Below w w q:=by
 subst o;obtain⟨x,r⟩:=Zb (a % 6);obtain⟨y,s⟩:=Zb (b % 3);obtain⟨z,t⟩:=Zb (c % 9);have h:0≤x∧x≤5:=Y;have i:0≤y∧y≤2:=Y;have j:0≤z∧z≤8:=Y;obtain⟨h,A⟩:=h;obtain⟨i,B⟩:=i;obtain⟨j,C⟩:=j;have k:=Z r;have l:=Z s;have m:=Z t;go_enter func32,ntmps32;go_wp2_with fail;refine(XU a 6 _ d.1 d.2 Y Y).mono ?_;rintro e n ⟨rfl,rfl⟩;rw[k];go_wp2_with fail;refine(XU b 3 _ f.1 f.2 Y Y).mono ?_;rintro e n ⟨rfl,rfl⟩;rw[l];go_wp2_with fail;refine(XU c 9 _ g.1 g.2 Y Y).mono ?_;rintro e n ⟨rfl,rfl⟩;rw[m];go_wp2;refine bodyPost_ret (v:= .agg #[.int .i64 (1+x),.int .i64 (1+y),.int .i64 (1+z)]) (by simp[results,results32,go_sem]) rfl ⟨?_,(Z8 _ _).alloc (Z4 _) _⟩;rw[←k,←l,←m];rfl
theorem Z44 (p:Zf)(r:Int)(w:U1)(h:p.Ok)(a:p.size=r):Calls prog 135 #[p.val] w fun e b=>e=.returned r∧Below w w b:=by subst a;have c:=Zf.size_le h;obtain⟨d,f,_,_,g,i⟩:=h;obtain⟨K,H,S⟩:=p;unfold Zf.val Zf.size at*;dsimp only at*;go_enter func135,ntmps135;go_wp2;go_ret;exact⟨rfl,(Z8 _ _).alloc (Z4 _) _⟩
theorem Z3X (p:Zf)(n m:Int)(w:U1)(y: -9223372036854775808≤n∧n≤9223372036854775807)(r:countP p n=m):Calls prog 82 #[p.val,n] w fun e s=>e=.returned m∧Below w w s:=by
 have f:=Z r;by_cases a:p.may=true
 ·have k:=Zf.may_ok a;have z:=Zf.size_le k;by_cases l:0<n;·have c:countP p n=(n-1) / p.size+1:=Z4F a l;have A:0≤(n-1) / p.size:=Int.ediv_nonneg Y Y;have B:(n-1) / p.size≤n-1:=Int.ediv_le_self _ Y;obtain⟨K,H,S⟩:=p;have g:=Z c;have i:=Z a;generalize hsv:Zf.size ⟨K,H,S⟩=sv at*;have t:=Z hsv;unfold Zf.val at*;go_enter func82,ntmps82;go_wp2_with fail;refine(V9 ⟨K,H,S⟩ true _ i).mono ?_;rintro e d ⟨rfl,b⟩;have j:∀o,o<3→d.cell? (w.heap.size,o)=(w.alloc (.cells #[K,H,S] 25)).cell? (w.heap.size,o):=fun o _=>b.cell (p:=(w.heap.size,o)) Ze;have q:Below w w d:=((Z8 _ _).alloc (Z4 _) _).trans (b.mono Ze);have C:=j 0 Y;have D:=j 1 Y;have E:=j 2 Y;go_wp2_with fail;refine(Z44 ⟨K,H,S⟩ sv _ k t).mono ?_;rintro e F ⟨rfl,v⟩;go_wp2;go_ret;exact⟨YP (g.symm.trans f),q.trans (v.mono q.size)⟩
  ·have c:countP p n=0:=Z3j (fun h=>l h.2);obtain⟨K,H,S⟩:=p;have g:=Z c;have i:=Z a;unfold Zf.val at*;go_enter func82,ntmps82;go_wp2_with fail;refine(V9 ⟨K,H,S⟩ true _ i).mono ?_;rintro e d ⟨rfl,b⟩;go_wp2;go_ret;exact⟨YP (g.symm.trans f),((Z8 _ _).alloc (Z4 _) _).trans (b.mono Ze)⟩
 ·have x:p.may=false:=by simpa using a
  have c:countP p n=0:=Z3j (fun h=>a h.1);obtain⟨K,H,S⟩:=p;unfold Zf.val at*;go_enter func82,ntmps82;go_wp2_with fail;refine(V9 ⟨K,H,S⟩ false _ x).mono ?_;rintro e d ⟨rfl,b⟩;go_wp2;go_ret;exact⟨YP (c.symm.trans f),((Z8 _ _).alloc (Z4 _) _).trans (b.mono Ze)⟩
theorem Z5y (l:Y_)(k:Nat)(h:k<l.length):(l.map Za)[k]? =some (Za (l.getD k 0)):=by rw[ZO,Z7 h];simp[h]
theorem ZbL (l a:Y_)(k:Nat)(h:k<l.length)(b:k<a.length)(d:l.take k=a.take k)(c:l.getD k 0=a.getD k 0):l.take (k+1)=a.take (k+1):=by rw[ZR h,ZR b,d];simp[h,b]at c;rw[c]
theorem Zi3 {x y:Byte}(h:((x.toNat:Int) !=(y.toNat:Int))=true):x≠y:=by rintro rfl;simp at h
theorem Zio {x y:Byte}(h:((x.toNat:Int) !=(y.toNat:Int))=false):x=y:=by simp at h;exact Z0s Y
theorem ZgA (B:Nat)(A q:X_)(l a:Y_)(n f c C:Nat)(w:U1)(h:Sl w B 1 A n (l.map Za))(r:Sl w B 1 q f (a.map Za))(M:n≤9223372036854775807)(N:f≤9223372036854775807):
  Calls prog 75 #[(A,n,c),(q,f,C)] w fun e D=>e=.returned (.bool (decide (l=a)))∧∃d,D=w.drewN d:=by
 have j:=Z (show l.length=n by have:=h.len;simpa using this);have m:=Z (show a.length=f by have:=r.len;simpa using this);by_cases s:n=f
 ·subst s;have t:((n:Int) !=(n:Int))=false:=Ze;go_enter func75,ntmps75;go_wp2;go_loopw [13] (fun i wr=>∃k d:Nat,k≤n∧i=.int .i64 k∧Hid (l.take k=a.take k)∧wr=w.drewN d) (fun i _=>n-(intOf i).toNat)
  ·exact⟨0,0,ZY _,rfl,rfl,rfl⟩
  ·obtain⟨k,d,O,rfl,v,rfl⟩:=hrel;by_cases g:k<n
   ·have P:(k:Int)<(n:Int):=Y;have Q:(0:Int)≤(k:Int):=Y;obtain⟨b,o,rfl,t,E⟩:=h.get g (Z5y l k (j ▸ g));obtain⟨R,S,rfl,T,F⟩:=r.get g (Z5y a k (m ▸ g));have G:=Z (ZbL l a k (j ▸ g) (m ▸ g) v);generalize hx:l.getD k 0=x at*;generalize hy:a.getD k 0=y at*;have H:=Z hx;have I:=Z hy;unfold Za at E F;go_wp2;go_quiet (fail)
    go_wp2;·have p:decide (l=a)=false:=(by have J:=Zi3 (x:=x) (y:=y) (by assumption);simp;rintro rfl;exact J (H.symm.trans I));go_ret;exact⟨Xu p.symm,_,World.drewN_drewN _ _ _⟩
    ·go_roundw;·exact⟨k+1,_,Y,Zg,G (Zio (by assumption)),rfl⟩
     ·exact Zh
   ·have L:decide (l=a)=true:=(by have z:=v.out;rw[ZP (by rw[j];omega),ZP (by rw[m];omega)]at z;simpa using z);go_wp2;go_ret;exact⟨Xu L.symm,_,rfl⟩
 ·have t:((n:Int) !=(f:Int))=true:=Zx;have p:decide (l=a)=false:=by simp;rintro rfl;exact s (j.symm.trans m)
  go_enter func75,ntmps75;go_wp2;go_ret;exact⟨Xu p.symm,0,rfl⟩
theorem ZiY (r:Bool)(B:Nat)(A b:X_)(l f:Y_)(n a c g:Nat)(w:U1)(h:Sl w B 1 A n (l.map Za))(i:Sl w B 1 b a (f.map Za))(j:n≤9223372036854775807)(k:a≤9223372036854775807)(m:decide (l=f)=r):
  Calls prog 75 #[(A,n,c),(b,a,g)] w fun e o=>e=.returned (.bool r)∧∃d,o=w.drewN d:=by
 subst m;exact ZgA B A b l f n a c g w h i j k
theorem ZiQ (s:BitVec 32):bits .xor .u32 IntKind.u32.max (s.toNat:Int)=((~~~ s).toNat:Int):=by have h:=x32 (~~~ 0#32) s;have e:IntKind.u32.max=((~~~ 0#32:BitVec 32).toNat:Int):=Z5;rw[e,h];congr 1
theorem Ziw (B:Nat)(A:X_)(l:Y_)(c:Nat)(w:U1)(h:Sl w B 1 A l.length (l.map Za))(v:l.length≤9223372036854775807):
  Calls prog 195 #[(A,l.length,c)] w fun e m=>e=.returned (.int .u32 ((crc l).toNat:Int))∧w=m:=by
 go_enter func195,ntmps195;go_wp2;go_loop [3,9] (fun s i=>∃k:Nat,k≤l.length∧i=.int .i64 k∧s=.int .u32 ((Z3M (~~~ 0#32) (l.take k)).toNat:Int)) (fun _ i=>l.length-(intOf i).toNat)
 ·exact⟨0,ZY _,rfl,rfl⟩
 ·obtain⟨k,y,rfl,rfl⟩:=hrel;generalize hs:Z3M (~~~ 0#32) (l.take k)=s;have f:=Z hs;clear hs;by_cases a:k<l.length
  ·obtain⟨b,o,rfl,z,g⟩:=h.at_ Y;have C:w.cell? (b,o+k)=some (.int .u8 ((l.getD k 0).toNat:Int)):=g k _ (by rw[ZO,Z7 a];simp[Za,a]);have D:=(l.getD k 0).isLt;have E:=s.isLt;generalize hx:l.getD k 0=x at*;have n:=Z hx;clear hx g h;go_wp2;go_loop [3,17] (fun p i=>∃j:Nat,j≤8∧i=.int .i64 j∧p=.int .u32 ((tn j (s ^^^ x.setWidth 32)).toNat:Int)) (fun _ i=>8-(intOf i).toNat)
   ·exact⟨0,Y,rfl,by rw[Zka];rfl⟩
   ·obtain⟨j,F,rfl,rfl⟩:=hrel;generalize ht:tn j (s ^^^ x.setWidth 32)=t;have d:=Z ht;clear ht;have G:=t.isLt;go_wp2
    ·go_round;·exact⟨j+1,Y,Zg,by rw[Zjl t (by assumption),Zar,d]⟩
     ·exact Zh
    ·go_round;·exact⟨j+1,Y,Zg,by rw[Zed t (by assumption),Zar,d]⟩
     ·exact Zh
    ·have q:j=8:=Y;go_round;·exact⟨k+1,Y,Zg,by rw[Zef _ _ _ a,n,f,←d,q]⟩
     ·exact Zh
  ·have r:k=l.length:=Y;go_wp2;go_ret;exact⟨YP (by rw[ZiQ];unfold crc;rw[←f,r,Xm]),rfl⟩
theorem ZiB (B:Nat)(A:X_)(l:Y_)(n c:Nat)(w:U1)(h:Sl w B 1 A n (l.map Za))(a:n≤9223372036854775807):
  Calls prog 195 #[(A,n,c)] w fun e b=>e=.returned (.int .u32 ((crc l).toNat:Int))∧w=b:=by
 have e:l.length=n:=by have:=h.len;simpa using this
 subst e;exact Ziw B A l c w h a
