/- Lists Sep Iv Equal Drive PeelMath Eqs Gf1 Gf2 Clone OwnPut -/
import Derived.Deep.DeepMust
import Derived.BigQuiet
import Derived.StillTailTactics
import Derived.Lib.Bytes
import Derived.Lib.SliceRun
import Derived.BigGuardPart
import Derived.Deep.WholeRow
import Derived.Test.YtpokipdpjhookaaGreatDoorBTopRetires00
set_option maxHeartbeats 8000000
set_option maxRecDepth 20000
set_option linter.all false
namespace Go.Proofs
open Go Go.RowKit Tryz
variable {w v:World} {n m k i j N:Nat} {r R:List Byte} {l L:List Value} {A:Option Addr} {x y:Value} {t T:TypeId}
theorem WP:(prog.info? 5).map (fun i=>(i.zero,i.size,i.bytes))=some (some (.int .u8 0),1,1):=Zi
theorem Z02:(prog.info? 32).map (fun i=>(i.zero,i.size,i.bytes))=some (some (.slice none 0 0),1,24):=Zi
theorem XF (l:Y_)(k:Nat)(h:k<l.length):(l.map Za)[k]? =some (Za (l.getD k 0)):=by rw[ZO,Z7 h];simp[h]
theorem Z2B (l:Y_):∀v∈l.map Za,v.oneCell'=true:=by intro v a;obtain⟨b,_,rfl⟩:=ZT.1 a;rfl
theorem bq_ {B:Nat}(h:Below B w v)(n:Nat):Below B w (v.drewN n):=⟨h.os,h.tape,h.output,h.size,h.block⟩
theorem ZB {w':U1}(h:Below w w w')(a:Option Nat):w.grownBy w' a:=⟨h.os,h.tape,h.output,h.size,fun k b _=>h.block k b⟩
def RB (w:U1) (B:Nat) (v:U2) (l:Y_):Prop:=∃A c,v=.slice A l.length c∧l.length≤c∧c≤9223372036854775807∧Sl w B 1 A l.length (l.map Za)
theorem RB.keep {w a:U1}{B:Nat}{v:U2}{l:Y_}(h:RB w B v l)(b:Below B w a):RB a B v l:=by obtain⟨A,c,e,d,f,g⟩:=h;exact⟨A,c,e,d,f,g.below b⟩
theorem RB.mono {B:Nat}{v:U2}(h:RB w B v r)(a:B≤n):RB w n v r:=by obtain⟨A,c,e,b,d,f⟩:=h;exact⟨A,c,e,b,d,f.mono a⟩
structure XL (w:World) (B:Nat) (A:Option Addr) (n:Nat) (vs:List Value) (ls:List (List Byte)):Prop where
 sl:Sl w B 1 A n vs
 len:ls.length=n
 at_:∀i,i<n→RB w B (vs.getD i undef) (ls.getD i [])
theorem XL.below {w':U1}{B n:Nat}{A:X_}{a:Z0}(h:XL w B A n l a)(b:Below B w w'):XL w' B A n l a:=
 ⟨h.sl.below b,h.len,fun i c=>(h.at_ i c).keep b⟩
theorem XL.mono {w:U1}{B a n:Nat}{A:X_}{b:Z_}{c:Z0}(h:XL w B A n b c)(d:B≤a):XL w a A n b c:=
 ⟨h.sl.mono d,h.len,fun i e=>(h.at_ i e).mono d⟩
theorem XL.get {a:Z0}(h:XL w n A m l a){k:Nat}(f:k<m):
  ∃b o d c,A=some ⟨b,o,none⟩∧b<n∧w.cell? (b,o+k)=some (.slice d (a.getD k []).length c)∧(a.getD k []).length≤c∧c≤9223372036854775807∧Sl w n 1 d (a.getD k []).length ((a.getD k []).map Za):=by
 have g:k<l.length:=Zc h.sl.len;obtain⟨d,c,e,i,j,p⟩:=h.at_ k f;obtain⟨b,o,q,r,s⟩:=h.sl.get f (Z7 g);rw[Z6,Z7 g]at e;exact⟨b,o,d,c,q,r,by rw[s];exact congrArg some e,i,j,p⟩
def OB (base:Nat) (w:U1) (v:U2) (l:Y_):Prop:=w.ownsRow base 5 1 v l.length (l.map Za)
theorem OB.read {base:Nat}(h:OB base w x r):RB w w x r:=Y8 h
theorem OB.keep {a:Nat}{w b:U1}{v:U2}{l:Y_}{row:Option Nat}(h:OB a w v l)(c:w.grownBy b row)(d:v.ownBlock=none∨v.ownBlock≠row):OB a b v l:=h.kept c d
theorem OB.below {base:Nat}{w':U1}{v:U2}(h:OB base w v r)(a:Below w w w'):OB base w' v r:=
 h.kept (ZB a none) (by cases v.ownBlock <;> simp)
theorem own_ne {b:Array U2}{c:Nat×Nat}(h:w.ownsRow n t m x k l)(d:w.heap[i]? =some (.cells b T c))(e:t≠T):x.ownBlock=none∨x.ownBlock≠some i:=by
 rcases h.2 with ⟨rfl,_⟩|⟨f,o,p,rfl,_,a,_⟩;·exact .inl rfl
 ·refine .inr fun g=>?_;have:f=i:=by simpa[Value.ownBlock]using g
  subst this;rw[d]at a;injection a with a;injection a with _ j;exact e j.symm
theorem YF (h:w.ownsRow n t k x j l)(a:w.ownsRow m T i y N L)(b:t≠T):x.ownBlock=none∨x.ownBlock≠y.ownBlock:=by
 rcases a.2 with ⟨rfl,_⟩|⟨d,e,f,rfl,_,c,_⟩
 ·cases hv:x.ownBlock
  ·exact .inl rfl
  ·exact .inr (by simp[Value.ownBlock])
 ·exact own_ne h c b
def Seg (b:Nat) (w:U1) (v:U2) (l:Y_):Prop:=
 ∃A c,v=.slice A l.length c∧l.length≤c∧c≤9223372036854775807∧(0<l.length→∃g a,A=some ⟨g,0,none⟩∧b≤g∧Row w g 5 a∧a.take l.length=l.map Za)
theorem Seg.nil_ (base:Nat)(w:U1):Seg base w () []:=⟨none,0,rfl,Z4 _,Y,fun h=>absurd h Ze⟩
theorem Seg.read {base:Nat}(h:Seg base w x r):RB w w x r:=by
 obtain⟨A,c,rfl,d,e,f⟩:=h;refine⟨A,c,rfl,d,e,Ze,fun i=>?_⟩;obtain⟨g,l,rfl,_,b,k⟩:=f i;refine⟨g,0,rfl,b.lt,fun j u a=>?_⟩;rw[Wz,b.cell];rw[←k,Z0K]at a;split at a;·exact a
 ·cases a
theorem OB.seg (h:OB n w x r):Seg n w x r:=by
 obtain⟨A,c,rfl,b,d,_⟩:=Y8 h;refine⟨A,c,rfl,b,d,fun l=>?_⟩;rcases h.2 with ⟨a,m⟩|⟨g,o,e,a,f,i,_,_,_,j⟩;·omega
 ·injection a with k p q;exact⟨g,e.toList,k,f,by simpa[Row]using i,by simpa using j⟩
theorem Seg.below {base:Nat}{w':U1}{v:U2}(h:Seg base w v r)(b:Below w w w'):Seg base w' v r:=by obtain⟨A,c,e,d,f,i⟩:=h;refine⟨A,c,e,d,f,fun j=>?_⟩;obtain⟨g,k,l,m,a,n⟩:=i j;exact⟨g,k,l,m,a.below b a.lt,n⟩
theorem Seg.base {base a:Nat}{w:U1}{v:U2}{l:Y_}(h:Seg base w v l)(o:a≤base):Seg a w v l:=by obtain⟨A,c,e,b,d,f⟩:=h;refine⟨A,c,e,b,d,fun i=>?_⟩;obtain⟨g,j,k,p,m,n⟩:=f i;exact⟨g,j,k,Y,m,n⟩
theorem OB.front {b:Nat}{w:U1}{A:X_}{n c m c':Nat}{l:Y_}(h:OB b w (A,n,c) l)(d:m≤l.length)(y:m≤c')(f:c'≤9223372036854775807):Seg b w (A,m,c') (l.take m):=by
 have a:(l.take m).length=m:=by simp[d]
 have i:=h.seg;obtain⟨z,c',e,B,C,j⟩:=i;injection e with k o p;subst k o p;refine⟨A,_,by rw[a],Y,f,fun q=>?_⟩;rw[a]at q;obtain⟨g,r,s,t,v,x⟩:=j Y;refine⟨g,r,s,t,v,?_⟩;rw[a,Z1M,←x,Z3D,Z04 d]
structure Zq (base:Nat) (w:World) (v:Value) (vs:List Value) (ls:List (List Byte)):Prop where
 own:w.ownsRow base 32 1 v ls.length vs
 at_:∀i,i<ls.length→OB base w (vs.getD i undef) (ls.getD i [])
theorem Zq.nil_ (base:Nat)(w:U1):Zq base w () [] []:=⟨Yi _ _ _ _,fun i a=>absurd a Ze⟩
theorem Zq.below {base:Nat}{w':U1}{v:U2}{a:Z0}(h:Zq base w v l a)(b:Below w w w'):Zq base w' v l a:=
 ⟨h.own.kept (ZB b none) (by cases v.ownBlock <;> simp),fun i c=>(h.at_ i c).below b⟩
theorem Zq.push {base:Nat}{w w':U1}{v v':U2}{b:Z_}{a:Z0}{c:U2}{x:Y_}(h:Zq base w v b a)(e:OB base w c x)
  (g:w'.ownsRow base 32 1 v' (a.length+1) (b++ [c])) (f:w.grownBy w' v.ownBlock):Zq base w' v' (b++ [c]) (a++ [x]):=by
 have j:b.length=a.length:=Zc h.own.1;refine⟨by simpa using g,fun i k=>?_⟩;simp only[Zw,Z05]at k;by_cases d:i<a.length;·rw[Z6,Z6,Yp Y,Yp d,←Z6,←Z6];exact(h.at_ i d).keep f (YF (h.at_ i d) h.own Z5)
 ·have l:i=a.length:=Y;subst l;rw[Z6,Z6,Y7 Y,Y7 Y];simp only[j,W9,ZE,Yz];exact e.keep f (YF e h.own Z5)
theorem Zq.read {base:Nat}{a:Z0}(h:Zq base w (A,n,m) l a)(b:a.length=n):XL w w A n l a:=by subst b;exact⟨Sl.own h.own,rfl,fun i c=>(h.at_ i c).read⟩
theorem ZA {base base':Nat}(h:w.ownsRow base t n x m l)(e:base'≤base):w.ownsRow base' t n x m l:=by
 refine⟨h.1,?_⟩;rcases h.2 with a|⟨g,b,c,d,f,r⟩;·exact .inl a
 ·exact .inr ⟨g,b,c,d,Y,r⟩
theorem Zq.base {base a:Nat}{w:U1}{v:U2}{b:Z_}{c:Z0}(h:Zq base w v b c)(d:a≤base):Zq a w v b c:=
 ⟨ZA h.own d,fun i e=>ZA (h.at_ i e) d⟩
theorem Zq.form {a:Z0}(h:Zq n w x l a):∃A c,x=.slice A a.length c∧a.length≤c∧c≤9223372036854775807:=by obtain⟨A,c,e,b,d,_⟩:=Y8 h.own;exact⟨A,c,e,b,d⟩
section
structure Only (F:Nat→Prop) (w w':World):Prop where
 os:w'.os=w.os
 tape:w'.tape=w.tape
 output:w'.output=w.output
 size:w.heap.size≤w'.heap.size
 block:∀k,k<w.heap.size→¬F k→w'.heap[k]? =w.heap[k]?
section
variable {F G:U0} {w w' w'':U1}
theorem Only.refl (F:U0)(w:U1):Only F w w:=⟨rfl,rfl,rfl,Z4 _,fun _ _ _=>rfl⟩
theorem Only.trans (h:Only F w w')(a:Only G w' w'')(d:∀k,k<w.heap.size→G k→F k):Only F w w'':=
 ⟨a.os.trans h.os,a.tape.trans h.tape,a.output.trans h.output,Zj h.size a.size,fun k b c=>
  (a.block k (YI b h.size) (fun e=>c (d k b e))).trans (h.block k b c)⟩
theorem Only.mono (h:Only F w w')(a:∀k,F k→G k):Only G w w':=⟨h.os,h.tape,h.output,h.size,fun k b c=>h.block k b (fun d=>c (a k d))⟩
theorem Only.of_new (h:Below w w w'):Only F w w':=⟨h.os,h.tape,h.output,h.size,fun k a _=>h.block k a⟩
theorem Only.of_grown {a:Option Nat}(h:w.grownBy w' a)(b:∀k,a=some k→F k):Only F w w':=
 ⟨h.os,h.tape,h.output,h.size,fun k c d=>h.block k c (fun e=>d (b k e.symm))⟩
theorem Only.below {B:Nat}(h:Only F w w')(a:∀k,F k→B≤k)(c:B≤w):Below B w w':=
 ⟨h.os,h.tape,h.output,h.size,fun k d=>h.block k Y (fun b=>Zc (a k b))⟩
theorem Only.set {g:Nat}(h:Only F w w')(b:F g)(i:Nat)(v:U2):Only F w (w'.setCell (g,i) v):=
 ⟨h.os,h.tape,h.output,by simpa[World.setCell]using h.size,fun k c a=>(Below.heap_setCell w' ⟨g,i,none⟩ v k (fun e=>a (e ▸ b))).trans (h.block k c a)⟩
theorem Only.drewN (h:Only F w w')(n:Nat):Only F w (w'.drewN n):=⟨h.os,h.tape,h.output,h.size,h.block⟩
theorem Only.drew (h:Only F w w'):Only F w w'.drew:=⟨h.os,h.tape,h.output,h.size,h.block⟩
def Ext (F:U0) (w w':U1):U0:=fun k=>F k∨(w.heap.size≤k∧k<w'.heap.size)
def In (v:U2) (F:U0):Prop:=∀k,v.ownBlock=some k→F k
theorem In.mono {v:U2}(h:In v F)(a:∀k,F k→G k):In v G:=fun k b=>a k (h k b)
theorem Zjm (F:U0):In () F:=fun k h=>by cases h
end
theorem Zu {G:U0}{w w':U1}{base n c:Nat}{e:TypeId}{v:U2}{d:Z_}(h:w.ownsRow base e c v n d)(i:Only G w w')(j:∀k,v.ownBlock=some k→¬G k):w'.ownsRow base e c v n d:=by
 refine⟨h.1,?_⟩;rcases h.2 with l|⟨g,m,o,f,p,a,r⟩;·exact .inl l
 ·have b:g<w:=by
   rcases Yf g w.heap.size with b|q;·exact b
   ·rw[Array.getElem?_eq_none q]at a;cases a
  exact .inr ⟨g,m,o,f,p,(i.block g b (j g (by rw[f];rfl))).trans a,r⟩
theorem Row.only {G:U0}{w w':U1}{g:Nat}{t:TypeId}{cs:Z_}(h:Row w g t cs)(a:Only G w w')(b:¬G g):Row w' g t cs:=(a.block g h.lt b).trans h
end
theorem Zq.only {G:U0}{w w':U1}{base:Nat}{v:U2}{a:Z_}{b:Z0}(h:Zq base w v a b)(c:Only G w w')(d:∀k,v.ownBlock=some k→¬G k)(e:∀x∈a,∀k,x.ownBlock=some k→¬G k):Zq base w' v a b:=
 ⟨Zu h.own c d,fun i f=>Zu (h.at_ i f) c (by have g:a.length=b.length:=Zc h.own.1;rw[Z6,Z7 Y];exact e _ (Zp _))⟩
structure XE (F:Nat→Prop) (w:World) (v:Value) (vs:List Value) (ls:List (List Byte)):Prop where
 own:Zq 0 w v vs ls
 iv:In v F
 is:∀x∈vs,In x F
theorem XE.nil_ (F:U0)(w:U1):XE F w () [] []:=⟨Zq.nil_ _ _,Zjm F,fun x a=>by cases a⟩
theorem XE.mono {F G:U0}{w:U1}{v:U2}{a:Z_}{b:Z0}(h:XE F w v a b)(c:∀k,F k→G k):XE G w v a b:=
 ⟨h.own,h.iv.mono c,fun x d=>(h.is x d).mono c⟩
theorem XE.only {F G:U0}{w w':U1}{v:U2}{b:Z_}{c:Z0}(h:XE F w v b c)(e:Only G w w')(d:∀k,F k→¬G k):XE F w' v b c:=
 ⟨h.own.only e (fun k a=>d k (h.iv k a)) (fun x f k a=>d k (h.is x f k a)),h.iv,h.is⟩
theorem XE.len {F:U0}{w:U1}{v:U2}{a:Z_}{b:Z0}(h:XE F w v a b):a.length=b.length:=Zc h.own.own.1
def WF (c:Z_):Prop:=c.Pairwise fun a b=>∀k,a.ownBlock=some k→b.ownBlock≠some k
def iv (z:Int):U2:= .int .i64 z
theorem VC:(prog.info? 3).map (fun i=>(i.zero,i.size,i.bytes))=some (some (.int .i64 0),1,8):=Zi
theorem Z1i (l:W_)(k:Nat)(h:k<l.length):(l.map iv)[k]? =some (.int .i64 (l.getD k 0)):=by rw[ZO,Z7 h];simp[h,iv]
def nums (l:Y_):W_:=l.map fun b=>(b.toNat:Int)
theorem Zhz (h:strOfNums (nums r)=strOfNums (nums R)):r=R:=by
 have a:(strOfNums (nums r)).data.toList=(strOfNums (nums R)).data.toList:=by rw[h]
 rw[strOfNums_data,strOfNums_data]at a;unfold nums at a;rw[WS,WS]at a;refine(List.map_inj_right ?_).1 a;intro x y b;have c:=congrArg UInt8.toNat b;simp[UInt8.toNat_ofNat']at c;have d:=x.isLt;have e:=y.isLt;apply Z0s;omega
theorem Sl.convert {P:Program}(h:Sl w n 1 A m (r.map Za))(c:Nat)(a e d:TypeId)
  (g:P.underlying a=some (.slice e)) (j:P.underlying e=some (.int .u8)) (k:P.underlying d=some .string):
  (Go.convert a d (A,m,c)).run P w=.ok (.string (strOfNums (nums r))) w:=by
 have l:r.length=m:=by have:=h.len;simpa using this
 rcases VG m with f|f
 ·subst f;obtain rfl:r=[]:=V3 l;rw[run_convert_bytes_string w a d e _ 0 c g j k];cases A <;> simp[Conv.bytesToString,loadCells]
  all_goals rfl
 ·obtain⟨b,o,rfl,_,p⟩:=h.at_ f;refine run_convert_bytes_arg (P:=P) w a e g j b o m c (nums r) (by simp[nums,l]) (fun i q=>?_) d k;have:=p i (Za (r.getD i 0)) (by rw[ZO,Z7 (show i<r.length from Y)];simp[show i<r.length from Y]);rw[this];simp[nums,Za,Z6,ZO,Z7 (show i<r.length from Y)]
theorem Z42 (r:Bool)(B:Nat)(A g:X_)(l a:Y_)(n i c j:Nat)(w:U1)(h:Sl w B 1 A n (l.map Za))(k:Sl w B 1 g i (a.map Za))(m:decide (l=a)=r):
  Calls prog 124 #[(A,n,c),(g,i,j)] w fun e o=>e=.returned (.bool r)∧w=o:=by
 have p:=h.convert (P:=prog) c 32 5 9 underlying32 underlying5 underlying9;have q:=k.convert (P:=prog) j 32 5 9 underlying32 underlying5 underlying9;clear h k;have b:((strOfNums (nums l)).toList==(strOfNums (nums a)).toList)=r:=by
  rw[←m];by_cases h:l=a;·subst h;simp
  ·have:(strOfNums (nums l)).toList≠(strOfNums (nums a)).toList:=fun e=>h (Zhz (by rw[Lib.strOfNums_toList,Lib.strOfNums_toList]at e;unfold Lib.bytesOf at e;unfold strOfNums;rw[e]));simp[h,this]
 obtain⟨v,d⟩:∃s,strOfNums (nums l)=s:=⟨_,rfl⟩;obtain⟨x,f⟩:∃s,strOfNums (nums a)=s:=⟨_,rfl⟩;rw[d]at p;rw[f]at q;rw[d,f]at b;have t:=Z b;clear b d f m;go_enter func124,ntmps124;go_wp2;go_ret;exact⟨Xu t,rfl⟩
theorem Z0A (B:Nat)(A:X_)(l:Y_)(n c:Nat)(w:U1)(h:Sl w B 1 A n (l.map Za))(p:B≤w)(d:n≤1048576):
  Calls prog 127 #[.slice A n c] w fun e j=>∃v,e=.returned v∧OB w j v l∧Below w w j:=by
 have k:=Z (show l.length=n by have:=h.len;simpa using this);obtain⟨q,r,s,t,x⟩:=info_parts WP;have D:∀(w:U1) (a:X_) (n c g i:Nat),(binOp .eql 32 (.slice a n c) (.slice none g i)).run prog w=.ok (.bool a.isNone) w:=fun w a n c g i=>Lib.run_eql_slice_nil w _ _ a n c g i underlying32;cases A with
 |none=>
  have y:n=0:=by
   rcases VG n with d|d;·exact d
   ·obtain⟨b,o,e,_⟩:=h.at_ d;cases e
  subst y;obtain rfl:l=[]:=V3 k;go_enter func127,ntmps127;go_wp2;go_ret;exact⟨_,rfl,Yi _ _ _ _,Z8 _ _⟩
 |some a=>
  have m:(w.alloc (.cells #[] 5)).ownsRow w.heap.size 5 1 (.slice (some ⟨w.heap.size,0,none⟩) 0 0) 0 []:=World.ownsRow_made w #[] 0 (Z4 _) (ZY _) rfl;have f:Below w w (w.alloc (.cells #[] 5)):=(Z8 _ _).alloc (Z4 _) _;go_enter func127,ntmps127;go_wp2_with (at_builtin;go_must (refine Y5 rfl (.tmp 5) (.tmp 6) 32 rfl w 5 q (.int .u8 0) 1 1 underlying32 r s t x rfl Y _ 0 [] rfl m w (some a) n c _ rfl ((h.mono p).below f) (Z2B _) n Y (l.map Za) rfl Y Y f.size ?_);intro E F G z C _)
  go_ret;exact⟨_,rfl,by unfold OB;rw[k];exact z,Y9 f m C (Z4 _) f.size⟩
theorem Zq.lt {base:Nat}{v:U2}{a:Z0}(h:Zq base w v l a):∀x∈l,∀k,x.ownBlock=some k→base≤k∧k<w:=fun x b k c=>by have e:l.length=a.length:=Zc h.own.1;obtain⟨i,d,rfl⟩:=ZZ b;have:=h.at_ i Y;rw[Z6,Z7 d]at this;exact ZC this k c
theorem Z6j {m:Nat}(d:WF l)(h:∀a∈l,∀k,a.ownBlock=some k→k<m)(f:∀k,x.ownBlock=some k→m≤k):WF (l++ [x]):=by unfold WF;rw[Z2P];refine⟨d,List.pairwise_singleton _ _,fun a g b c k i e=>?_⟩;rw[Yn]at c;subst c;have:=h a g k i;have:=f k e;omega
theorem Zhc (B:Nat)(A:X_)(R:Z_)(d:Z0)(n c:Nat)(w:U1)(h:XL w B A n R d)(S:B≤w.heap.size)(hn:n≤1048576)(C:∀i,i<n→(d.getD i []).length≤1048576):
  Calls prog 187 #[.slice A n c] w fun e D=>∃E F f,e=.returned (.slice E n F)∧Zq w.heap.size D (.slice E n F) f d∧WF f∧Below w.heap.size w D:=by
 have H:=Z h.len;have T:=Z C;obtain⟨U,V,W,a0,a1⟩:=info_parts Z02;clear C;generalize hg:w.heap.size=G at*;have HG:=Z hg;clear hg;go_enter func187,ntmps187;go_wp2_with fail;go_loopw [3,8] (fun v i wr=>∃(k:Nat) (f:Z_) (g:X_) (j:Nat),k≤n∧i=.int .i64 k∧v=.slice g k j∧Zq G wr (.slice g k j) f (d.take k)∧WF f∧Below G w wr) (fun _ i _=>n-(intOf i).toNat)
 ·exact⟨0, [],none,0,by omega,rfl,rfl,Zq.nil_ _ _,List.Pairwise.nil,Below.refl _ _⟩
 ·obtain⟨k,f,g,j,m,rfl,rfl,p,r,q⟩:=hrel;have s:G≤wr.heap.size:=by have:=q.size;have:=HG.out;omega
  by_cases t:k<n
  ·obtain⟨b,o,A1,c1,rfl,hb,hc,a8,a9,a2⟩:=((h.mono S).below q).get t;have I:k<d.length:=(by rw[H.out];exact t);have a3:=Z (show d.take (k+1)=d.take k++ [d.getD k []] by rw[ZR I];simp[I]);have J:=Z (show(d.take k).length=k by simp;omega);have aa:=T.out k t;generalize d.getD k []=x at*;generalize hlx:x.length=lx at*;have HX:=Z hlx;clear hlx;go_wp2_with fail;refine(Z0A G A1 x lx c1 _ a2 s (by omega)).mono ?_;rintro e w2 ⟨v2,rfl,y,l⟩;obtain⟨A2,c2,L,a4,ab,_⟩:=y.read;rw[HX.out]at L a4;subst L;have M:∀a∈f,∀k,a.ownBlock=some k→k<wr.heap.size:=fun a ha k m=>(p.lt a ha k m).2;have N:∀k,(Value.slice A2 lx c2).ownBlock=some k→wr.heap.size≤k:=fun k m=>(ZC y k m).1;have O:=Z6j r M N;have a5:=Z O;clear M N r O;have P:=p.below l;have z:=P.own;rw[J.out]at z;go_wp2_with (at_builtin;go_must (refine Y5 rfl (.tmp 12) (.tmp 15) 106 rfl G 32 U (.slice none 0 0) 1 24 underlying106 V W a0 a1 rfl (by omega) (.slice g k j) k f rfl (z.alloc _) _ _ 1 1 _ rfl (Sl.fresh _ _ _ _ 1 rfl) (by simp[Value.oneCell']) (k+1) rfl _ rfl (by omega) (by omega) (by have:=l.size;simp;omega) ?_);intro A6 c6 w6 o6 Q _)
   have b6:Below G w w6:=Y9 ((q.trans (l.mono s)).alloc (by have:=l.size;omega) _) (z.alloc _) Q (Z4 _) (by have:=l.size;simp;omega);have a6:=(P.below ((Below.refl _ _).alloc (Z4 _) _)).push (x:=x) (OB.below (base:=G) (ZA y s) ((Below.refl _ _).alloc (Z4 _) _)) (by rw[J.out];exact o6) Q;go_roundw;·exact⟨k+1,_,A6,c6,by omega,by go_num,rfl,by rw[a3.out];exact a6,a5.out,b6⟩
   ·simp[intOf];omega
  ·have a7:n=k:=(by omega);subst a7;go_wp2_with fail;go_ret;rw[ZP (by rw[H.out];omega)]at p;exact⟨g,j,f,rfl,p,r,q⟩
section
structure Zt where
 cols:W_
 data:List (BitVec 8)
deriving DecidableEq
instance:Inhabited Zt:=⟨⟨[], []⟩⟩
def Yl (s v:List (BitVec 8)):List (BitVec 8):=List.zipWith (· ^^^ ·) s v
theorem Z0d (s v:List (BitVec 8)):(Yl s v).length=min s.length v.length:=by unfold Yl;simp
theorem Z2a (s v:List (BitVec 8))(i:Nat):(Yl s v)[i]? =(match s[i]?,v[i]? with|some a,some b=>some (a ^^^ b)|_,_=>none):=by unfold Yl;rw[List.getElem?_zipWith];cases s[i]? <;> cases v[i]? <;> rfl
theorem Z8s (s a b:List (BitVec 8)):Yl (Yl s a) b=Yl (Yl s b) a:=by
 apply VP;intro i;rw[Z2a,Z2a,Z2a,Z2a];cases s[i]? <;> cases a[i]? <;> cases b[i]? <;> simp only
 rename_i x y z;rw[Z1w,Z1w,BitVec.xor_comm y z]
structure Zk where
 known:List Bool
 vals:List (List (BitVec 8))
def Zk.new (n:Nat):Zk:=⟨List.replicate n false,List.replicate n []⟩
def Zk.kn (S:Zk) (c:Int):Bool:=S.known.getD c.toNat false
def Zk.val (S:Zk) (c:Int):List (BitVec 8):=S.vals.getD c.toNat []
def Zk.opn (S:Zk) (a:W_):W_:=a.filter fun c=> !S.kn c
def Zk.stepD (S:Zk) (s:List (BitVec 8)) (c:Int):List (BitVec 8):=if S.kn c then Yl s (S.val c) else s
def Zk.rest (S:Zk) (q:Zt):List (BitVec 8):=q.cols.foldl S.stepD q.data
def Zk.put (S:Zk) (c:Int) (v:List (BitVec 8)):Zk:=⟨S.known.set c.toNat true,S.vals.set c.toNat v⟩
structure Right (n:Nat) (D:Nat) (rows:List Zt):Prop where
 rng:∀q∈rows,∀c∈q.cols,0≤c∧c<(n:Int)
 nd:∀q∈rows,q.cols.Nodup
 len:∀q∈rows,q.data.length=D
inductive Reach (n:Nat) (rows:List Zt):Zk→Prop where
 |start:Reach n rows (Zk.new n)
 |step {S:Zk} {q:Zt} {c:Int}:Reach n rows S→q∈rows→S.opn q.cols=[c]→Reach n rows (S.put c (S.rest q))
def Z7A (rows:List Zt) (S:Zk):Prop:=∀q∈rows,(S.opn q.cols).length≠1
def Z7y (rows:List Zt) (S:Zk):Prop:=∀q∈rows,S.opn q.cols=[]→∀b∈S.rest q,b=0#8
theorem Z3g {α:Type}{l:List α}{i j:Nat}{a z:α}(b:i<l.length):(l.set i a).getD j z=if j=i then a else l.getD j z:=by
 simp only[Z6];split;·rename_i h;subst h;simp[b]
 ·rename_i h;rw[List.getElem?_set_ne (fun e=>h e.symm)]
theorem Z3y {S:Zk}{a:W_}{c:Int}:c∈S.opn a↔c∈a∧S.kn c=false:=by unfold Zk.opn;rw[YW];cases S.kn c <;> simp
section
variable {n D:Nat} {rows:List Zt} {S T:Zk}
structure Form (n D:Nat) (S:Zk):Prop where
 kl:S.known.length=n
 vl:S.vals.length=n
 len:∀c:Int,0≤c→S.kn c=true→(S.val c).length=D
 no:∀c:Int,0≤c→S.kn c=false→S.val c=[]
theorem Z4N {S:Zk}(h:∀c:Int,0≤c→S.kn c=true→(S.val c).length=D):∀(a:W_) (s:List (BitVec 8)),(∀c∈a,0≤c)→s.length=D→(a.foldl S.stepD s).length=D
 | [],_,_,hs=>hs
 |c::a,s,hc,hs=>by
  rw[Z1T];refine Z4N h a _ (fun x b=>hc x (XB _ b)) ?_;unfold Zk.stepD;split;·rename_i d;rw[Z0d,hs,h c (hc c (XP ..)) d];omega
  ·exact hs
theorem Z7q {c a:Int}{v:List (BitVec 8)}(d:0≤c)(e:0≤a)(b:c.toNat<S.known.length):(S.put c v).kn a=if a=c then true else S.kn a:=by
 unfold Zk.put Zk.kn;rw[Z3g b];by_cases h:a=c;·subst h;simp
 ·rw[if_neg h,if_neg Y]
theorem Z7d {c a:Int}{v:List (BitVec 8)}(d:0≤c)(e:0≤a)(b:c.toNat<S.vals.length):(S.put c v).val a=if a=c then v else S.val a:=by
 unfold Zk.put Zk.val;rw[Z3g b];by_cases h:a=c;·subst h;simp
 ·rw[if_neg h,if_neg Y]
theorem Form.new_ (n D:Nat):Form n D (Zk.new n):=
 ⟨by simp[Zk.new],by simp[Zk.new],fun c _ a=>by
  unfold Zk.new Zk.kn at a;rw[Z6,XY]at a;split at a <;> simp at a,fun c _ _=>by
  unfold Zk.new Zk.val;rw[Z6,XY];split <;> rfl⟩
theorem Form.put_ {q:Zt}{c:Int}(g:Right n D rows)(h:Form n D S)(i:q∈rows)(l:c∈S.opn q.cols):Form n D (S.put c (S.rest q)):=by
 have m:=Z3y.1 l;have f:=g.rng q i c m.1;have o:(S.rest q).length=D:=Z4N h.len _ _ (fun x p=>(g.rng q i x p).1) (g.len q i);have j:c.toNat<S.known.length:=by rw[h.kl];omega
 have k:c.toNat<S.vals.length:=by rw[h.vl];omega
 refine⟨by unfold Zk.put;rw[Ya];exact h.kl,by unfold Zk.put;rw[Ya];exact h.vl,fun d b a=>?_,fun d b a=>?_⟩
 ·rw[Z7q f.1 b j]at a;rw[Z7d f.1 b k];by_cases e:d=c;·rw[if_pos e];exact o
  ·rw[if_neg e]at a ⊢;exact h.len d b a
 ·rw[Z7q f.1 b j]at a;rw[Z7d f.1 b k];by_cases e:d=c;·rw[if_pos e]at a;cases a
  ·rw[if_neg e]at a ⊢;exact h.no d b a
theorem Reach.form (a:Right n D rows)(h:Reach n rows S):Form n D S:=by
 induction h with
 |start=>exact Form.new_ n D
 |step _ hq ho ih=>exact ih.put_ a hq (by rw[ho];exact Yn.2 rfl)
theorem Z7O (S:Zk):∀(a:W_) (s:List (BitVec 8)),a.foldl S.stepD s=(a.filter fun c=>S.kn c).foldl (fun s c=>Yl s (S.val c)) s
 | [],_=>rfl
 |c::a,s=>by
  rw[Z1T,Z7O S a];unfold Zk.stepD;cases hk:S.kn c with
  |true=>rw[Z1v (by simpa using hk),Z1T,if_pos rfl]
  |false=>rw[Z2h (by simp[hk]),if_neg Ze]
theorem Z8g {f:Int→List (BitVec 8)}{a b:W_}(h:a.Perm b):∀s,a.foldl (fun s c=>Yl s (f c)) s=b.foldl (fun s c=>Yl s (f c)) s:=by
 induction h with
 |nil=>exact fun _=>rfl
 |cons x _ ih=>exact fun s=>ih _
 |swap x y l=>exact fun s=>by simp only[Z1T];rw[Z8s]
 |trans _ _ ih1 ih2=>exact fun s=>(ih1 s).trans (ih2 s)
theorem Z89 {f g:Int→List (BitVec 8)}:∀(a:W_) (s:List (BitVec 8)),(∀c∈a,f c=g c)→a.foldl (fun s c=>Yl s (f c)) s=a.foldl (fun s c=>Yl s (g c)) s
 | [],_,_=>rfl
 |c::a,s,h=>by rw[Z1T,Z1T,h c (XP ..)];exact Z89 a _ (fun x b=>h x (XB _ b))
end
end
section
theorem ZjK:(prog.info? 281).map (fun i=>(i.zero,i.size,i.bytes))=some (some (.agg #[(),()]),2,48):=Zi
theorem Z9C:(prog.info? 4).map (fun i=>(i.zero,i.size,i.bytes))=some (some (.bool false),1,1):=Zi
def RI (w:U1) (B:Nat) (v:U2) (l:W_):Prop:=∃A c,v=.slice A l.length c∧l.length≤c∧c≤9223372036854775807∧Sl w B 1 A l.length (l.map iv)
theorem RI.keep {w w':U1}{B:Nat}{v:U2}{l:W_}(h:RI w B v l)(a:Below B w w'):RI w' B v l:=by obtain⟨A,c,e,b,d,f⟩:=h;exact⟨A,c,e,b,d,f.below a⟩
theorem RI.mono {w:U1}{B B':Nat}{v:U2}{l:W_}(h:RI w B v l)(a:B≤B'):RI w B' v l:=by obtain⟨A,c,e,b,d,f⟩:=h;exact⟨A,c,e,b,d,f.mono a⟩
def OI (base:Nat) (w:U1) (v:U2) (l:W_):Prop:=w.ownsRow base 3 1 v l.length (l.map iv)
theorem OI.read {base:Nat}{w:U1}{v:U2}{l:W_}(h:OI base w v l):RI w w v l:=Y8 h
theorem OI.below {base:Nat}{w w':U1}{v:U2}{l:W_}(h:OI base w v l)(a:Below w w w'):OI base w' v l:=
 h.kept (ZB a none) (by cases v.ownBlock <;> simp)
def eqC (ps:List (U2×U2)):Z_:=ps.flatMap fun p=> [p.1,p.2]
theorem Zj9 (a b:List (U2×U2)):eqC (a++b)=eqC a++eqC b:=by unfold eqC;rw[Vr]
theorem Z76:∀(ps:List (U2×U2)) (k:Nat),k<ps.length→(eqC ps)[k*2]? =some (ps.getD k (undef,undef)).1∧(eqC ps)[k*2+1]? =some (ps.getD k (undef,undef)).2
 | [],k,h=>absurd h Ze
 |p::ps,0,_=>⟨rfl,rfl⟩
 |p::ps,k+1,h=>by have:=Z76 ps k (by simpa using h);unfold eqC at this ⊢;rw[Vb,show(k+1)*2=k*2+2 from Y,show k*2+2+1=(k*2+1)+2 from Y];exact⟨by rw[Y7 Ze];simpa using this.1,by rw[Y7 Ze];simpa using this.2⟩
def EqV (w:U1) (B:Nat) (p:U2×U2) (q:Zt):Prop:=RI w B p.1 q.cols∧RB w B p.2 q.data
structure Z1A (w:World) (B:Nat) (A:Option Addr) (n:Nat) (ps:List (Value×Value)) (rows:List Zt):Prop where
 sl:Sl w B 2 A n (eqC ps)
 pl:ps.length=n
 len:rows.length=n
 at_:∀i,i<n→EqV w B (ps.getD i (undef,undef)) (rows.getD i default)
section
variable {w w':U1} {B B' n:Nat} {A:X_} {ps:List (U2×U2)} {rows:List Zt}
theorem EqV.keep {p:U2×U2}{q:Zt}(h:EqV w B p q)(a:Below B w w'):EqV w' B p q:=⟨h.1.keep a,h.2.keep a⟩
theorem Z1A.below (h:Z1A w B A n ps rows)(a:Below B w w'):Z1A w' B A n ps rows:=⟨h.sl.below a,h.pl,h.len,fun i b=>(h.at_ i b).keep a⟩
theorem Z1A.get (h:Z1A w B A n ps rows){k:Nat}(f:k<n):
  ∃b o d a e c,A=some ⟨b,o,none⟩∧b<B∧w.cell? (b,o+k*2)=some (.slice d (rows.getD k default).cols.length a)∧w.cell? (b,o+k*2+1)=some (.slice e (rows.getD k default).data.length c)∧
   (rows.getD k default).cols.length≤a∧a≤9223372036854775807∧Sl w B 1 d (rows.getD k default).cols.length ((rows.getD k default).cols.map iv)∧
   (rows.getD k default).data.length≤c∧c≤9223372036854775807∧Sl w B 1 e (rows.getD k default).data.length ((rows.getD k default).data.map Za):=by
 obtain⟨b,o,i,j,g⟩:=h.sl.at_ Y;obtain⟨l,m⟩:=Z76 ps k (h.pl ▸ f);obtain⟨⟨d,a,p,q,r,s⟩,e,c,t,v,x,y⟩:=h.at_ k f;exact⟨b,o,d,a,e,c,i,j,by rw[←p];exact g _ _ l,by rw[←t,VU];exact g _ _ m,q,r,s,v,x,y⟩
end
def KI (base:Nat) (w:U1) (v:U2) (l:W_):Prop:=RI w base v l∨OI base w v l
def KB (base:Nat) (w:U1) (v:U2) (l:Y_):Prop:=RB w base v l∨OB base w v l
structure Xa (base:Nat) (w:World) (v:Value) (ps:List (Value×Value)) (rows:List Zt):Prop where
 own:w.ownsRow base 281 2 v rows.length (eqC ps)
 pl:ps.length=rows.length
 at_:∀i,i<rows.length→KI base w (ps.getD i (undef,undef)).1 (rows.getD i default).cols∧KB base w (ps.getD i (undef,undef)).2 (rows.getD i default).data
section
variable {base:Nat} {w w':U1} {v v':U2} {ps:List (U2×U2)} {rows:List Zt} {l:W_} {s:Y_}
theorem KI.below (h:KI base w v l)(a:Below w w w')(b:base≤w):KI base w' v l:=h.elim (fun h=>.inl (h.keep (a.mono b))) (fun h=>.inr (h.below a))
theorem KB.below (h:KB base w v s)(a:Below w w w')(b:base≤w):KB base w' v s:=h.elim (fun h=>.inl (h.keep (a.mono b))) (fun h=>.inr (h.below a))
theorem KI.read (h:KI base w v l)(a:base≤w):RI w w v l:=h.elim (fun h=>h.mono a) (fun h=>h.read)
theorem KB.read (h:KB base w v s)(a:base≤w):RB w w v s:=h.elim (fun h=>h.mono a) (fun h=>h.read)
theorem KI.grown {a:Option Nat}(h:KI base w v l)(b:w.grownBy w' a)(c:∀k,a=some k→base≤k)(d:base≤w)(e:∀h:OI base w v l,v.ownBlock=none∨v.ownBlock≠a):KI base w' v l:=
 h.elim (fun h=>.inl (h.keep ((Z8 _ _).grown b d c))) (fun h=>.inr (World.ownsRow.kept h b (e h)))
theorem KB.grown {a:Option Nat}(h:KB base w v s)(b:w.grownBy w' a)(c:∀k,a=some k→base≤k)(d:base≤w)(e:∀h:OB base w v s,v.ownBlock=none∨v.ownBlock≠a):KB base w' v s:=
 h.elim (fun h=>.inl (h.keep ((Z8 _ _).grown b d c))) (fun h=>.inr (World.ownsRow.kept h b (e h)))
theorem Xa.nil_ (base:Nat)(w:U1):Xa base w () [] []:=⟨Yi _ _ _ _,rfl,fun i a=>absurd a Ze⟩
theorem Xa.below (h:Xa base w v ps rows)(a:Below w w w')(b:base≤w):Xa base w' v ps rows:=
 ⟨h.own.kept (ZB a none) (by cases v.ownBlock <;> simp),h.pl,fun i c=>⟨(h.at_ i c).1.below a b,(h.at_ i c).2.below a b⟩⟩
theorem Xa.form (h:Xa base w v ps rows):∃A c,v=.slice A rows.length c∧rows.length≤c∧c≤9223372036854775807:=by obtain⟨A,c,e,a,b,_⟩:=Y8 h.own;exact⟨A,c,e,a,b⟩
theorem Xa.read {A:X_}{n c:Nat}(h:Xa base w (A,n,c) ps rows)(d:rows.length=n)(a:base≤w):Z1A w w A n ps rows:=by subst d;exact⟨Sl.own h.own,h.pl,rfl,fun i b=>⟨(h.at_ i b).1.read a,(h.at_ i b).2.read a⟩⟩
theorem Xa.app {ps2:List (U2×U2)}{rows2:List Zt}(h:Xa base w v ps rows)(o:ps2.length=rows2.length)(f:∀i,i<rows2.length→KI base w (ps2.getD i (undef,undef)).1 (rows2.getD i default).cols∧KB base w (ps2.getD i (undef,undef)).2 (rows2.getD i default).data)
  (p:w'.ownsRow base 281 2 v' (rows.length+rows2.length) (eqC ps++eqC ps2)) (g:w.grownBy w' v.ownBlock) (j:base≤w):Xa base w' v' (ps++ps2) (rows++rows2):=by
 have m:∀(a:U2) (l:W_),KI base w a l→KI base w' a l:=fun a l c=>c.grown g (fun k e=>(h.own.lt k e).1) j (fun d=>YF d h.own Z5);have n:∀(a:U2) (l:Y_),KB base w a l→KB base w' a l:=fun a l c=>c.grown g (fun k e=>(h.own.lt k e).1) j (fun d=>YF d h.own Z5);refine⟨by rw[Zj9,Zw];exact p,by simp[h.pl,o],fun i q=>?_⟩;simp only[Zw]at q;simp only[Z6];by_cases b:i<rows.length;·rw[Yp (h.pl ▸ b),Yp b];simp only[←Z6];exact⟨m _ _ (h.at_ i b).1,n _ _ (h.at_ i b).2⟩
 ·rw[Y7 (by rw[h.pl];omega),Y7 Y,h.pl];simp only[←Z6];exact⟨m _ _ (f _ Y).1,n _ _ (f _ Y).2⟩
end
end
theorem b8x (a b:BitVec 8):bits .xor .u8 (a.toNat:Int) (b.toNat:Int)=((a ^^^ b).toNat:Int):=by rw[u8_xor_nat _ _ a.isLt b.isLt,BitVec.toNat_xor]
theorem b8a (a b:BitVec 8):bits .and .u8 (a.toNat:Int) (b.toNat:Int)=((a &&& b).toNat:Int):=by rw[u8_and_nat _ _ a.isLt b.isLt,BitVec.toNat_and]
theorem Z7T {P:Program}{a:Act}{Q:Exit→V_}{c X:Code}(l:Nat)(J:V_)(μ:Act→U1→Nat)(g:findLabel c l=some (Code.skip.seq X))
  (first:(∀a w,J a w→X.wp P (Exit.jump l J Q) a w)→c.wp P (Exit.jump l J Q) a w)
  (f:∀a w,J a w→X.wp P (Exit.jump l (fun b d=>J b d∧μ b d<μ a w) Q) a w):(Code.scope c).wp P Q a w:=by
 refine wp_scope_jumps l J μ g (first fun a w h=>?_) (fun a w h=>wp_seq (wp_skip (f a w h)));refine wp_mono (f a w h) fun e b d h=>?_;cases e <;> first|exact h|exact⟨h.1,h.2.1⟩
theorem sh1 (x:BitVec 8):(x.toNat:Int)*(2:Int) % (256:Int)=((x <<< 1).toNat:Int):=by rw[BitVec.toNat_shiftLeft,Nat.shiftLeft_eq];omega
theorem hf1 (x:BitVec 8):(x.toNat:Int) / (2:Int)=((x >>> 1).toNat:Int):=by rw[Z4u,Z4s];omega
theorem Z9G (x:Byte)(h:(bits .and .u8 (x.toNat:Int) 128 !=0)=true):bits .xor .u8 ((x.toNat:Int)*2 % 256) 27=((VK x).toNat:Int):=by
 have a:=b8a x 128;have e:((128:BitVec 8).toNat:Int)=128:=rfl;rw[e]at a;rw[a]at h;have c:x &&& 128≠0:=fun e=>by rw[e]at h;simp at h
 have b:=b8x (x <<< 1) 27;have d:((27:BitVec 8).toNat:Int)=27:=rfl;rw[d]at b;rw[sh1,b];unfold VK;rw[if_neg c]
theorem ZaO (x:Byte)(h:(bits .and .u8 (x.toNat:Int) 128 !=0)=false):(x.toNat:Int)*(2:Int) % (256:Int)=((VK x).toNat:Int):=by
 have a:=b8a x 128;have e:((128:BitVec 8).toNat:Int)=128:=rfl;rw[e]at a;rw[a]at h;have b:x &&& 128=0:=by
  apply Z0s;have:((x &&& 128).toNat:Int)=0:=by simpa using h
  have c:(0:BitVec 8).toNat=0:=rfl;omega
 rw[sh1];unfold VK;rw[if_pos b,show x <<< 1 ^^^ (0:Byte)=x <<< 1 from Z4p]
theorem Zb4 (y:Byte):bits .and .u8 (y.toNat:Int) 1=((y &&& 1).toNat:Int):=b8a y 1
theorem ZaK {y:Byte}(h:(bits .and .u8 (y.toNat:Int) 1==1)=true):y &&& 1=1:=by
 rw[Zb4]at h;apply Z0s;have:((y &&& 1).toNat:Int)=1:=by simpa using h
 have a:(1:BitVec 8).toNat=1:=rfl;omega
theorem Zb7 {y:Byte}(h:(bits .and .u8 (y.toNat:Int) 1==1)=false):¬y &&& 1=1:=fun e=>by rw[Zb4,e]at h;simp at h
theorem ZhL {x y o:Byte}(a:y.toNat<2 ^ n)(c:(y.toNat:Int)≠0):∃b,(y >>> 1).toNat<2 ^ b∧gtm n x y o=gtm b (VK x) (y >>> 1) (if y &&& 1=1 then o ^^^ x else o):=by
 cases n with
 |zero=>exfalso;simp at a;omega
 |succ n=>refine⟨n,by rw[Z4u,Z4s];rw[Nat.pow_succ]at a;omega,?_⟩;rw[gtm,if_neg (fun e=>c (by rw[e];rfl))]
theorem Zj3 (k:Nat)(x o:Byte):gtm k x 0 o=o:=by
 cases k with
 |zero=>rfl
 |succ k=>rw[gtm,if_pos rfl]
def Zkc (r:Byte) (b:U1) (a:Act) (w:U1):Prop:=
 ∃(k:Nat) (x y o:Byte),w=b∧y.toNat<2 ^ k∧gtm k x y o=r∧
 ∃c d e f g h i j l m n p q s t v z A B C D:U2,a={ tmps:= #[Za x,Za y,undef,undef,c,Za o,d,e,f,g,h,i,j,l,m,n,p,q,s,t,v,z,A,B,C,D],defers:= []}
theorem ZeA (x y r:Byte)(w:U1)(i:gtm 8 x y 0=r):Calls prog 315 #[Za x,Za y] w fun e p=>e=.returned (Za r)∧w=p:=by
 have j:=Z i;clear i;unfold Za;go_enter func315,ntmps315;go_wp2_with fail;refine Z7T 0 (Zkc r w) (fun a _=>(intOf (a.tmps.getD 1 undef)).toNat) rfl ?_ ?_;·intro l;have q:=Z l;clear l;go_wp2_with fail;refine wp_label ?_;simp only[Exit.then];rename_i D s;refine s _ _ (q _ _ ?_);exact⟨8,x,y,0,rfl,y.isLt,j,_,_,_,_,_,_,_,_,_,_,_,_,_,_,_,_,_,_,_,_,_,rfl⟩
 ·rintro a E ⟨k,x,y,o,rfl,t,m,F,G,H,I,J,L,M,N,O,P,Q,R,S,T,U,V,W,a0,a1,a2,a3,rfl⟩;have f:=Z m;clear m j;have hx:=x.isLt;have hy:=y.isLt;have ho:=o.isLt;unfold Za;by_cases v:(y.toNat:Int)=0;·have z:y=0:=(by apply Z0s;have:(0:Byte).toNat=0:=rfl;omega);have a4:o=r:=(by have:=f.out;rwa [z,Zj3]at this);go_wp2_with fail;simp only[Exit.jump];rename_i Q2 A Q1 B;clear B A;go_ret;exact⟨rfl,rfl⟩
  ·have n:=ZhL (x:=x) (o:=o) t v;have C:=Z n;clear n;have a5:((y >>> 1).toNat:Int)<(y.toNat:Int):=(by rw[←hf1];omega);go_wp2_with fail;all_goals refine wp_goto ?_
   all_goals obtain⟨g,h,b⟩:=C
   ·rename_i c d;rw[if_pos (ZaK c)]at b;rw[Z9G x d,hf1 y,b8x o x];exact⟨rfl,⟨g,VK x,y >>> 1,_,rfl,h,b.symm.trans f,_,_,_,_,_,_,_,_,_,_,_,_,_,_,_,_,_,_,_,_,_,rfl⟩,show((y >>> 1).toNat:Int).toNat<(y.toNat:Int).toNat from Y⟩
   ·rename_i c d;rw[if_pos (ZaK c)]at b;rw[ZaO x d,hf1 y,b8x o x];exact⟨rfl,⟨g,VK x,y >>> 1,_,rfl,h,b.symm.trans f,_,_,_,_,_,_,_,_,_,_,_,_,_,_,_,_,_,_,_,_,_,rfl⟩,show((y >>> 1).toNat:Int).toNat<(y.toNat:Int).toNat from Y⟩
   ·rename_i c d;rw[if_neg (Zb7 c)]at b;rw[Z9G x d,hf1 y];exact⟨rfl,⟨g,VK x,y >>> 1,_,rfl,h,b.symm.trans f,_,_,_,_,_,_,_,_,_,_,_,_,_,_,_,_,_,_,_,_,_,rfl⟩,show((y >>> 1).toNat:Int).toNat<(y.toNat:Int).toNat from Y⟩
   ·rename_i c d;rw[if_neg (Zb7 c)]at b;rw[ZaO x d,hf1 y];exact⟨rfl,⟨g,VK x,y >>> 1,_,rfl,h,b.symm.trans f,_,_,_,_,_,_,_,_,_,_,_,_,_,_,_,_,_,_,_,_,_,rfl⟩,show((y >>> 1).toNat:Int).toNat<(y.toNat:Int).toNat from Y⟩
def Z4y (k:Nat):Z_:=(Z1c.take k).map (fun(n:Nat)=>(.int .u8 (n:Int):U2))
def XR (k:Nat):Z_:=Z4y k++List.replicate (255-k) (.int .u8 0)
theorem Z5g (k:Nat)(h:k≤255):(XR k).length=255:=by unfold XR Z4y;rw[Zw,Zz,ZK,Z1F,Z0w];omega
theorem Zah:∀i,i<256→Z1c.getD i 0<256:=by decide+kernel
theorem Zbg (k:Nat)(h:k<256):((gx k).toNat:Int)=((Z1c.getD k 0:Nat):Int):=by unfold gx;rw[Z2Y,Z2R (Zah k h)]
theorem Zg4 (k:Nat)(h:k<255):(XR k).set k (Za (gx k))=XR (k+1):=by
 unfold XR Z4y Za;have a:(List.map (fun(n:Nat)=>(.int .u8 (n:Int):U2)) (Z1c.take k)).length=k:=by rw[Zz,ZK,Z1F];omega
 rw[Wn _ _ Y,a,W9,Zbg k Y,ZR (by rw[Z1F];omega),ZV,YH];congr 1;rw[show 255-k=(255-(k+1))+1 from Y,Z3H,YL];rw[Z6,Z7 (by rw[Z1F];omega)];rfl
theorem Row.setRow (h:Row w n t l)(a:Z_):Row (w.setRow n a.toArray) n t a:=setRow_heap w n _ _ t (0,0) h
theorem _root_.Go.RowKit.Below.setRow (h:Below n w v)(b:n≤m)(a:Array U2):Below n w (v.setRow m a):=
 h.trans ⟨rfl,rfl,rfl,Ze,fun k c=>setRow_other _ _ _ _ Y⟩
theorem Zbx {P:Program}{b:Array Oper}{rest:List Oper}{o:Oper}{a:Act}{Q:Exit→V_}(e:o.guard=none)(c:TypeId)(x:Operand)(f:o.op=.box c x)
  (d:Array U2) (g:a.eval x=.agg d) (h:wpList P b Q rest (a.put o.dst (w.heap.size,())) (w.alloc (.cells d c))):wpList P b Q (o::rest) a w:=
 wpList_plain e fun K hK=>by unfold Oper.wp execOp;simp only[f,g,Instr.box,newVar,Value.cells];exact hK _ _ h
theorem Z4h:(prog.info? 325).map (fun i=>(i.zero,i.size,i.bytes))=some (some (.agg (XR 0).toArray),255,255):=Zi
theorem WK {P:Program}{v:U2}(h:(P.info? t).map (fun i=>(i.zero,i.size,i.bytes))=some (some v,n,m)):(P.info? t).map (·.size)=some n:=by
 cases hq:P.info? t with
 |none=>rw[hq]at h;cases h
 |some i=>rw[hq]at h;simp at h ⊢;exact h.2.1
theorem Zaz:(XR 255).toArray.all (·.oneCell')=true:=Zi
theorem Za5:zeroCells325.toList=XR 0:=Zi
theorem Zdd (w:U1):Calls prog 255 #[] w fun e j=>e=.returned (.agg (XR 255).toArray)∧Below w w j:=by
 have b:=Row.new w 325 zeroCells325;have c:Below w w (w.alloc (.cells zeroCells325 325)):=(Z8 _ _).alloc (Z4 _) _;rw[Za5]at b;go_enter func255,ntmps255;go_wp2_with fail;generalize w.alloc (.cells zeroCells325 325)=w1 at b c ⊢;have l:=b.lt;obtain⟨g,f⟩:=Zb w.heap.size;rw[f]at b c l ⊢;go_loopw [1,3] (fun x i wr=>∃k:Nat,k≤255∧i=.int .i64 (k:Int)∧x=.int .u8 ((gx k).toNat:Int)∧Hid (Row wr g 325 (XR k))∧Below g w wr) (fun _ i _=>255-(intOf i).toNat)
 ·exact⟨0,Y,rfl,by rw[Z5w.2];rfl,Z b,c⟩
 ·obtain⟨k,m,rfl,rfl,a,h⟩:=hrel;have p:=(gx k).isLt;by_cases d:k<255
  ·have n:=a.cell k;rw[Z7 (by rw[Z5g k m];exact d)]at n;have q:=a.frozen k;go_wp2_with fail;refine(ZeA (gx k) 3 _ _ (ZjC k d)).mono ?_;rintro e r ⟨rfl,rfl⟩;unfold Za;go_wp2;go_roundw;·exact⟨k+1,Y,Zg,rfl,Z ((a.set k _).to (Zg4 k d)),h.setCell (Z4 g) _⟩
   ·exact Zh
  ·have o:k=255:=Y;subst o;go_wp2_with (first| ((with_reducible show wpList _ _ _ (⟨some 12,_,_,_,_,_⟩::_) _ _);go_must (refine wpList_load_row rfl 325 _ rfl g rfl 325 (XR 255).toArray (0,0) _ a rfl rfl (WK Z4h) ?_))| ((with_reducible show wpList _ _ _ (⟨none,_,_,_,_,_⟩::_) _ _);go_must (refine wpList_store_row rfl 325 _ _ rfl g (XR 255).toArray rfl rfl 325 _ a (WK Z4h) rfl Zaz ?_)))
   refine bodyPost_ret (v:= .agg (XR 255).toArray) (results_cell_row rfl _ _ g 325 (XR 255).toArray (0,0) _ rfl (a.setRow _) rfl rfl (WK Z4h)) rfl ⟨rfl,by rw[f];exact h.setRow (Z4 g) _⟩
theorem Z7k:(prog.info? 327).map (fun i=>(i.zero,i.size,i.bytes))=some (some (.agg ((Z2i 0).map fun(n:Nat)=>(.int .i64 (n:Int):U2)).toArray),256,2048):=Zi
theorem Zha:zeroCells327.toList=(Z2i 0).map fun(n:Nat)=>(.int .i64 (n:Int):U2):=Zi
def Z2p (k:Nat):Z_:=(Z2i k).map fun(n:Nat)=>(.int .i64 (n:Int):U2)
theorem ZdT (k:Nat):(Z2i k).length=256:=by
 induction k with
 |zero=>rfl
 |succ k ih=>rw[Z2i,Ya,ih]
def Z17:Z_:=Z32.map fun(n:Nat)=>(.int .i64 (n:Int):U2)
theorem ZhN:Z2p 255=Z17:=by unfold Z2p Z17;rw[Zfg]
theorem Zeu (a:Array U2)(b:a=(XR 255).toArray)(k:Nat)(c:k<255)(w:U1):(Instr.index 325 (.agg a) (k:Int)).run prog w=.ok (.int .u8 ((Z1c.getD k 0:Nat):Int)) w:=by
 have d:a[k]? =some (.int .u8 ((Z1c.getD k 0:Nat):Int)):=by subst b;unfold XR Z4y;simp only[List.getElem?_toArray];rw[Yp (by rw[Zz,ZK,Z1F];omega),ZO,Z0K,if_pos c,Z6,Z7 (by rw[Z1F];omega)];rfl
 unfold Instr.index;have e:(underlying 325).run prog w=.ok (.array 255 5) w:=rfl;have f:(sizeOf 5).run prog w=.ok 1 w:=rfl;have g:(isAgg 5).run prog w=.ok false w:=rfl;simp only[Sem.run_bind,asIntOf,Sem.run_pure,Result.andThen_ok,e];rw[if_pos ⟨Y,Y⟩];simp only[Sem.run_bind,f,Result.andThen_ok,part,g,ZL,Wy];rw[d];rfl
theorem ZfZ (k:Nat):(Z2p k).set (Z1c.getD k 0) (k:Int)=Z2p (k+1):=by unfold Z2p;rw[Z2i,XZ]
theorem Zhf (k:Nat):(Z2p k).length=256:=by unfold Z2p;rw[Zz,ZdT]
theorem Zi1:Z17.toArray.all (·.oneCell')=true:=Zi
theorem ZhM (a:Array U2)(j:a=(XR 255).toArray)(w:U1):Calls prog 256 #[.agg a] w fun e s=>e=.returned (.agg Z17.toArray)∧Below w w s:=by
 have l:=Z j;clear j;have m:(prog.info? 325).map (·.size)=some a.size:=by rw[l];exact WK Z4h
 have t:=Z m;clear m;have c:=Row.new (w.alloc (.cells a 325)) 327 zeroCells327;have d:Below w w ((w.alloc (.cells a 325)).alloc (.cells zeroCells327 327)):=((Z8 _ _).alloc (Z4 _) _).alloc Ze _;rw[Zha]at c;have n:(w.alloc (.cells a 325)).heap.size=w.heap.size+1:=Ze;rw[n]at c;go_enter func256,ntmps256;go_wp2_with (first| ((with_reducible show wpList _ _ _ (⟨some 1,_,_,_,_,_⟩::_) _ _);go_must (refine Zbx rfl 325 _ rfl a rfl ?_))| ((with_reducible show wpList _ _ _ (⟨some 5,_,_,_,_,_⟩::_) _ _);go_must (refine wpList_load_row rfl 325 _ rfl w rfl 325 a (0,0) _ (heap_alloc2_old w _ _) rfl rfl t ?_)))
 generalize (w.alloc (.cells a 325)).alloc (.cells zeroCells327 327)=w1 at c d ⊢;obtain⟨g,f⟩:=Zb (w.heap.size+1);obtain⟨B,o⟩:=Zb w.heap.size;rw[f]at c ⊢;rw[o]at d ⊢;have p:B≤g:=Y;have E:=Z f;clear n f;go_loopw [6] (fun i wr=>∃k:Nat,k≤255∧i=.int .i64 (k:Int)∧Hid (Row wr g 327 (Z2p k))∧Below B w wr) (fun i _=>255-(intOf i).toNat)
 ·exact⟨0,Y,rfl,Z c,d⟩
 ·obtain⟨k,F,rfl,b,q⟩:=hrel;by_cases y:k<255
  ·have z:=Zeu a l k y;obtain⟨x,h⟩:=Zb (Z1c.getD k 0);have r:=Zah k Y;rw[h]at z r;have A:=Z h;clear h;have C:=b.cell x;rw[Z7 (by rw[Zhf k];exact r)]at C;have G:=b.frozen x;have H:(x:Int)<256:=Y;go_wp2;go_roundw;·exact⟨k+1,Y,Zg,Z ((b.set x _).to (by rw[←A];exact ZfZ k)),q.setCell p _⟩
   ·exact Zh
  ·have D:k=255:=Y;subst D;rw[ZhN]at b;go_wp2_with (first| ((with_reducible show wpList _ _ _ (⟨some 14,_,_,_,_,_⟩::_) _ _);go_must (refine wpList_load_row rfl 327 _ rfl g rfl 327 Z17.toArray (0,0) _ b rfl rfl (WK Z7k) ?_))| ((with_reducible show wpList _ _ _ (⟨none,_,_,_,_,_⟩::_) _ _);go_must (refine wpList_store_row rfl 327 _ _ rfl g Z17.toArray rfl rfl 327 _ b (WK Z7k) rfl Zi1 ?_)))
   refine bodyPost_ret (v:= .agg Z17.toArray) (results_cell_row rfl _ _ g 327 Z17.toArray (0,0) _ rfl (b.setRow _) rfl rfl (WK Z7k)) rfl ⟨rfl,by rw[o];exact q.setRow p _⟩
theorem Z4K (B:Nat)(A:X_)(n c:Nat)(f:Z_)(w:U1)(h:Sl w B 1 A n f)(p:∀u∈f,u.oneCell'=true)(q:B≤w)(g:n≤1048576):
  Calls prog 99 #[(A,n,c)] w fun e k=>∃l d,e=.returned (.slice l n d)∧k.ownsRow w 3 1 (l,n,d) n f∧Below w w k:=by
 obtain⟨r,s,t,v,x⟩:=info_parts VC;have E:∀(w:U1) (a:X_) (n c j d:Nat),(binOp .eql 22 (.slice a n c) (.slice none j d)).run prog w=.ok (.bool a.isNone) w:=fun w a n c j d=>Lib.run_eql_slice_nil w _ _ a n c j d underlying22;cases A with
 |none=>
  have y:n=0:=by
   rcases VG n with g|g;·exact g
   ·obtain⟨b,o,e,_⟩:=h.at_ g;cases e
  subst y;have z:f=[]:=V3 (by simpa using h.len);subst z;go_enter func99,ntmps99;go_wp2;go_ret;exact⟨none,0,rfl,Yi _ _ _ _,Z8 _ _⟩
 |some a=>
  have m:(w.alloc (.cells #[] 3)).ownsRow w.heap.size 3 1 (w.heap.size,0,0) 0 []:=World.ownsRow_made w #[] 0 (Z4 _) (ZY _) rfl;have i:Below w w (w.alloc (.cells #[] 3)):=(Z8 _ _).alloc (Z4 _) _;go_enter func99,ntmps99;go_wp2_with (at_builtin;go_must (refine Y5 rfl (.tmp 5) (.tmp 6) 22 rfl w 3 r Nat 1 8 underlying22 s t v x rfl Y _ 0 [] rfl m w (some a) n c _ rfl ((h.mono q).below i) p n Y f rfl Y Y i.size ?_);intro F G H C D _)
  go_ret;exact⟨_,_,rfl,C,Y9 i m D (Z4 _) i.size⟩
theorem Zgu (h:w.ownsRow n t 1 (A,m,k) m l)(q:0<m):
  ∃g a,A=some ⟨g,0,none⟩∧n≤g∧Row w g t a∧a.length=k∧a.take m=l∧m≤k∧k≤maxLen:=by
 rcases h.2 with ⟨_,r⟩|⟨g,s,a,b,c,d,e,f,i,j⟩;·omega
 ·injection b with o _ p;subst o p;exact⟨g,a.toList,rfl,c,by simpa[Row]using d,by simpa using i,by simpa using j,e,f⟩
theorem ZiL (h:w.ownsRow n t 1 (A,m,k) m (r.map Za)){i:Nat}(l:i<m)(b:Byte):
  ∃g,A=some ⟨g,0,none⟩∧n≤g∧g<w∧w.cell? (g,i)=some (.int .u8 ((r.getD i 0).toNat:Int))∧w.frozen? ⟨g,i,none⟩=false∧
   (w.setCell (g,i) (Za b)).ownsRow n t 1 (A,m,k) m ((r.set i b).map Za):=by
 obtain⟨c,o,e,d,a,p,f,q,s⟩:=Zgu h Y;subst e;have v:r.length=m:=by have:=h.1;simpa using this
 refine⟨c,rfl,d,a.lt,?_,a.frozen i,?_⟩;·rw[a.cell i];have j:(r.map Za)[i]? =some (Za (r.getD i 0)):=XF r i Y;rw[←f,Z0K,if_pos l]at j;exact j
 ·refine⟨by have:=h.1;simpa using this,.inr ⟨c,k,(o.set i (Za b)).toArray,rfl,d,a.set i _,q,s,by simpa using p,?_⟩⟩;simp only[Wy,Z2T];rw[List.take_set,f,XZ]
theorem x8' (a b:BitVec 8):bits .xor .u8 (a.toNat:Int) (b.toNat:Int)=((a ^^^ b).toNat:Int):=by rw[u8_xor_nat _ _ a.isLt b.isLt,BitVec.toNat_xor]
