/- DrvOps Appd CptR Order Cell Take CodeMath -/
import Derived.Test.YtpokipdpjhookaaGreatDoorBTopRetires09
import Derived.Test.YtpokipdpjhookaaGreatDoorBTopRetires11
import Derived.Test.YtpokipdpjhookaaGreatDoorBTopRetires12
set_option maxHeartbeats 8000000
set_option maxRecDepth 20000
set_option linter.all false
namespace Go.Proofs
open Go Go.RowKit Tryz
variable {w v u:World} {t T:TypeId} {n m k i:Nat} {x y V:Value} {l L q:List Value} {r:List Byte} {c:Int}
section
theorem Z5x {w:U1}{g b:Nat}{t c:TypeId}{d f:Z_}(h:Row w g t d)(a:Row w b c f)(i:t≠c):g≠b:=fun e=>by subst e;unfold Row at h a;rw[h]at a;injection a with a;injection a with _ a _;exact i a
section
variable {F:U0} {w:U1} {g pg:Nat} {lv bv:U2} {lvs bvs:Z_} {d:Dr}
theorem YM.ne (h:YM F w g pg lv lvs bv bvs d):g≠pg:=Z5x h.row h.pow Z5
theorem YM.setWait (h:YM F w g pg lv lvs bv bvs d)(n:Nat):YM F (w.setCell (g,3) n) g pg lv lvs bv bvs { d with wait:=n}:=
 ⟨h.row.set 3 _,h.pow.far (Ne.symm h.ne) _,h.fg,h.fp,fun k a=>by simpa[World.setCell]using h.lt k a,h.l.far h.row Z5 Z5 _ _,h.b.far h.row Z5 Z5 _ _,h.sep,h.dist⟩
theorem YM.setB (h:YM F w g pg lv lvs bv bvs d){a:U2}{b:Z_}{c:Z0}(e:XE F w a b c)(f:∀k,lv.ownBlock=some k→a.ownBlock≠some k)(i:WF (lvs++b)):
  YM F (w.setCell (g,4) a) g pg lv lvs a b { d with B:=c}:=
 ⟨h.row.set 4 a,h.pow.far (Ne.symm h.ne) _,h.fg,h.fp,fun k j=>by simpa[World.setCell]using h.lt k j,h.l.far h.row Z5 Z5 _ _,e.far h.row Z5 Z5 _ _,f,i⟩
theorem YM.setHas (h:YM F w g pg lv lvs bv bvs d)(b:Bool):YM F (w.setCell (g,5) (.bool b)) g pg lv lvs bv bvs { d with has:=b}:=
 ⟨h.row.set 5 _,h.pow.far (Ne.symm h.ne) _,h.fg,h.fp,fun k a=>by simpa[World.setCell]using h.lt k a,h.l.far h.row Z5 Z5 _ _,h.b.far h.row Z5 Z5 _ _,h.sep,h.dist⟩
theorem Zfe {a b:Z_}(h:WF (a++b)):WF a:=(Z2P.1 h).1
theorem YM.noB (h:YM F w g pg lv lvs bv bvs d):YM F (w.setCell (g,4) ()) g pg lv lvs () [] { d with B:= []}:=
 h.setB (XE.nil_ F w) (fun k _ e=>by cases e) (by rw[Wo];exact Zfe h.dist)
theorem YM.went (h:YM F w g pg lv lvs bv bvs d):YM F ((w.setCell (g,4) ()).setCell (g,5) (.bool false)) g pg lv lvs () [] d.went:=h.noB.setHas false
theorem YM.power (h:YM F w g pg lv lvs bv bvs d){c:U1}{i:Pw}(r:Row c pg 123 (pw i))(m:w.grownBy c (some pg)):YM F c g pg lv lvs bv bvs { d with s:=i}:=by
 have n:Only (fun k=>k=pg) w c:=Only.of_grown m (fun k e=>by injection e with e;exact e.symm);have o:∀{v:U2} {p:Z_} {q:Z0},XE F w v p q→XE F c v p q:=fun a=>
  ⟨a.own.only n (fun k f e=>Yb a.own.own h.pow Z5 k f e) (fun y t k f e=>by have z:=a.len;obtain⟨j,x,rfl⟩:=ZZ t;have:=a.own.at_ j Y;rw[Z6,Z7 x]at this;exact Yb this h.pow Z5 k f e),a.iv,a.is⟩
 exact⟨h.row.only n h.ne,r,h.fg,h.fp,fun k f=>YI (h.lt k f) m.size,o h.l,o h.b,h.sep,h.dist⟩
end
theorem Za2 (n pg:Nat)(s:Pw)(w:U1)(f:1≤n)(h:n≤512)(a:Row w pg 123 (pw s)):
  Calls prog 48 #[n,(pg,())] w fun e b=>∃g,e=.returned (g,())∧w.heap.size≤g∧Yj (fun k=>k=g∨k=pg) b g pg (Dr.new s n)∧Below w w b:=by
 have c:=Row.new w 161 #[(pg,()),n,(),Nat,(),.bool false,.bool false];have i:=a.lt;go_enter func48,ntmps48;go_wp2;go_ret;refine⟨w.heap.size,rfl,Z4 _,⟨.slice none 0 0, [],(), [],c,a.alloc _,.inl rfl,.inr rfl,fun k d=>?_,XE.nil_ _ _,XE.nil_ _ _,fun k e=>(by cases e),List.Pairwise.nil⟩,(Z8 _ _).alloc (Z4 _) _⟩;rcases d with rfl|rfl <;> simp <;> omega
theorem Z95 (F:U0)(g pg:Nat)(d:Dr)(w:U1)(h:Yj F w g pg d):Calls prog 188 #[(g,())] w fun e a=>e=.returned Nat∧Yj F a g pg d.went∧Only F w a:=by obtain⟨lv,lvs,bv,bvs,h⟩:=h;have b:=h.row.cell 4;have c:=h.row.cell 5;have l:=h.row.frozen 4;have m:=h.row.frozen 5;have f:(Vd pg d lv bv)[4]? =some bv:=rfl;have i:(Vd pg d lv bv)[5]? =some (.bool d.has):=rfl;rw[f]at b;rw[i]at c;have j:=h.went;have k:Only F w ((w.setCell (g,4) ()).setCell (g,5) (.bool false)):=((Only.refl F w).set h.fg 4 _).set h.fg 5 _;go_enter func188,ntmps188;go_wp2;go_ret;exact⟨rfl,⟨_,_,_,_,j⟩,k⟩
end
structure Xq (t:TypeId) (base:Nat) (w w':World) (v v':Value) (n:Nat) (xs:List Value):Prop where
 own:w'.ownsRow base t 1 v' n xs
 grow:w.grownBy w' v.ownBlock
 wh:v'.ownBlock=v.ownBlock∨∃g,v'.ownBlock=some g∧w.heap.size≤g
theorem Z5T {r b:Option Nat}(h:w.grownBy v r)(a:v.grownBy u b)(f:b=r∨∃g,b=some g∧w.heap.size≤g):w.grownBy u r:=
 ⟨a.os.trans h.os,a.tape.trans h.tape,a.output.trans h.output,Zj h.size a.size,fun k c d=>by
  refine(a.block k (YI c h.size) ?_).trans (h.block k c d);rcases f with rfl|⟨g,rfl,i⟩;·exact d
  ·intro e;injection e with e;omega⟩
theorem Zc9 {r:Option Nat}(h:w.grownBy v r)(o:Obj):w.grownBy (v.alloc o) r:=
 ⟨h.os,h.tape,h.output,by have:=h.size;simp;omega,fun k a b=>(Below.heap_alloc v o k (YI a h.size)).trans (h.block k a b)⟩
theorem Zcj {r:Option Nat}(h:w.grownBy v r)(a:Below v v u):w.grownBy u r:=
 ⟨a.os.trans h.os,a.tape.trans h.tape,a.output.trans h.output,Zj h.size a.size,fun k b c=>(a.block k (YI b h.size)).trans (h.block k b c)⟩
theorem Xq.refl {t:TypeId}{base n:Nat}{w:U1}{v:U2}{a:Z_}(h:w.ownsRow base t 1 v n a):Xq t base w w v v n a:=⟨h,⟨rfl,rfl,rfl,Z4 _,fun _ _ _=>rfl⟩,.inl rfl⟩
theorem Xq.trans {t:TypeId}{base n b:Nat}{w c d:U1}{v f i:U2}{k j:Z_}(h:Xq t base w c v f n k)(a:Xq t base c d f i b j):Xq t base w d v i b j:=by
 refine⟨a.own,Z5T h.grow a.grow h.wh,?_⟩;rcases a.wh with e|⟨g,e,l⟩;·rw[e];exact h.wh
 ·exact .inr ⟨g,e,Zj h.grow.size l⟩
theorem Xq.step {t:TypeId}{b n g:Nat}{w c d:U1}{v f a:U2}{j i:Z_}(h:Xq t b w c v f n j)(o:Obj)(k:d.ownsRow b t 1 a g i)(l:(c.alloc o).grownBy d f.ownBlock)
  (m:a.ownBlock=f.ownBlock∨a.ownBlock=some (c.alloc o).heap.size):Xq t b w d v a g i:=by
 have p:=h.grow.size;refine⟨k,Z5T (Zc9 h.grow o) l h.wh,?_⟩;rcases m with e|e;·rw[e];exact h.wh
 ·exact .inr ⟨_,e,Zx⟩
theorem Xq.step0 (h:Xq t n w v x y m l)(a:u.ownsRow n t 1 V k L)(b:v.grownBy u y.ownBlock)
  (c:V.ownBlock=y.ownBlock∨V.ownBlock=some v):Xq t n w u x V k L:=by
 have d:=h.grow.size;refine⟨a,Z5T h.grow b h.wh,?_⟩;rcases c with e|e;·rw[e];exact h.wh
 ·exact .inr ⟨_,e,Y⟩
theorem Xq.more (h:Xq t n w v x y m l)(a:Below v v u):Xq t n w u x y m l:=
 ⟨h.own.kept (show v.grownBy u none from⟨a.os,a.tape,a.output,a.size,fun k b _=>a.block k b⟩) (by cases y.ownBlock <;> simp),Zcj h.grow a,h.wh⟩
theorem Xq.below {t:TypeId}{base n:Nat}{w a:U1}{v b:U2}{c:Z_}(h:Xq t base w a v b n c)(d:∀k,v.ownBlock=some k→base≤k)(e:base≤w):Below base w a:=
 (Z8 base w).grown h.grow e d
theorem Row.appd (h:Row w k T L)(b:w.ownsRow n t 1 x i q)(c:Xq t n w v x y m l)(d:t≠T):Row v k T L:=by
 refine h.grown c.grow ?_;rcases b.2 with ⟨rfl,_⟩|⟨g,j,o,rfl,_,a,_⟩;·intro e;cases e
 ·intro e;injection e with e;subst e;unfold Row at h;rw[h]at a;injection a with a;injection a with _ f _;exact d f.symm
theorem Row.appd1 (h:Row w m T l)(b:w.ownsRow n t 1 x k L)(c:w.grownBy v x.ownBlock)(d:t≠T):Row v m T l:=by
 refine h.grown c ?_;rcases b.2 with ⟨rfl,_⟩|⟨g,i,j,rfl,_,a,_⟩;·intro e;cases e
 ·intro e;injection e with e;subst e;unfold Row at h;rw[h]at a;injection a with a;injection a with _ f _;exact d f.symm
theorem _root_.Go.World.ownsRow.drew_ (h:w.ownsRow n t m x k l):w.drew.ownsRow n t m x k l:=h
theorem Xq.drew_ (h:Xq t n w v x y m l):Xq t n w v.drew x y m l:=⟨h.own,⟨h.grow.os,h.grow.tape,h.grow.output,h.grow.size,h.grow.block⟩,h.wh⟩
theorem ZeE (h:w.ownsRow n t 1 x m (r.map Za++ [.int .u8 c])){b:Byte}(a:(b.toNat:Int)=c):w.ownsRow n t 1 x m ((r++ [b]).map Za):=by rw[ZV,WQ,Z07,Za,a];exact h
theorem Z4E (a:Nat)(A:X_)(n c:Nat)(l:Y_)(x:Int)(k:Nat)(w:U1)(q:w.ownsRow a 5 1 (.slice A n c) n (l.map Za))(R:n≤1048576)(S:a≤w.heap.size)(T: -9223372036854775808≤x∧x≤9223372036854775807)(U:k≤7):
  Calls prog 181 #[(A,n,c),x,k] w fun e r=>∃h o,e=.returned (.slice h (n+k) o)∧Xq 5 a w r (.slice A n c) (.slice h (n+k) o) (n+k) ((l++ZN k x).map Za):=by
 obtain⟨s,t,y,z,B⟩:=info_parts WP;go_enter func181,ntmps181;go_wp2;go_loopw [0,7] (fun v i wr=>∃(j:Nat) (b:X_) (m d:Nat) (f:Y_),j≤k∧m+j=n+k∧i=.int .i64 ((j:Int)-1)∧v=.slice b m d∧f++ZN j x=l++ZN k x∧Xq 5 a w wr (.slice A n c) (.slice b m d) m (f.map Za)) (fun _ i _=>(intOf i+1).toNat)
 ·exact⟨k,A,n,c,l,Y,rfl,rfl,rfl,rfl,.refl q⟩
 ·obtain⟨j,b,m,d,f,V,W,rfl,rfl,p,g⟩:=hrel;have a0:a≤wr.heap.size:=Zc g.grow.size;by_cases a1:0<j
  ·obtain⟨i,rfl⟩:∃i,j=i+1:=⟨j-1,Y⟩;have C:=Z p;have D:((i+1:Nat):Int)-1=(i:Int):=Y;rw[D];have E:=Z (Z0c x i);have a2:IntKind.i64.wrap (8*(i:Int))=8*(i:Int):=(by rw[Xe];omega);have F:=Z g;have G:=g.own;go_wp2_with (at_builtin;go_must (refine Y5 rfl (.tmp 14) (.tmp 20) 32 rfl a 5 s (.int .u8 0) 1 1 underlying32 t y z B rfl Y (.slice b m d) m _ rfl (G.alloc _) _ _ 1 1 _ rfl (Sl.fresh _ _ _ _ 1 rfl) (by simp[Value.oneCell']) (m+1) Y _ rfl Y Y Zx ?_);intro H I w2 J L M)
   have N:=F.step _ (ZeE J E) L M;go_roundw;·exact⟨i,H,m+1,I,f++ [Yg x i],Y,Y,rfl,rfl,by rw[←C,YH];rfl,N⟩
   ·simp[intOf]
  ·have O:j=0:=Y;subst O;obtain rfl:m=n+k:=Y;have a3:¬(0:Int)≤ -1:=Y;have P:f=l++ZN k x:=(by simpa[ZN]using p);have Q:=Z P;go_wp2;go_ret;exact⟨b,d,rfl,by rw[←ZV,←Q];exact g⟩
section
open Go.Sort Go.Lib
variable {α:Type} [Inhabited α] {enc:α→List Value} {w0 W:World} {blk off N cap:Nat} {l:List α} {g:Nat} {lt:α→α→Bool}
theorem Zfj (R:WU prog 159 enc w0 blk off N)(hN:N≤1048576)(h1:∀x,∀v∈enc x,v.oneCell'=true)(eg:∀a9 w,(callFunc g a9).run prog w=.ok (.enter g a9) w)(hE:EqL prog g enc lt w0 blk off N)(z:α)(zv:U2)(aa:∀w,(zeroValue 159).run prog w=.ok zv w)(ab:zv.cells=(enc z).toArray)
  (aE:1≤N) (aF:N≤cap) (aG:cap≤9223372036854775807) (h:Zo enc w0 blk off N l W):
  Calls prog 163 #[.slice (some ⟨blk,off,none⟩) N cap,.func (.func g) #[] #[]] W (Zkd enc w0 blk off N cap lt l):=by
 have HH:=h;have HE:=hE;have f:=Z h.1;have am:=Z aa;have an:=Z ab;have L:∃d,prog.underlying 159=some d∧d.isRow=true:=R.agg;obtain⟨dd,ac,ad⟩:=L;have ao:=Z ac;have ap:=Z ad;clear h hE aa ab ac ad;by_cases h2:N<2
 ·have aq:(N:Int)<2:=Y;go_enter func163,ntmps163;go_wp2;go_ret;have s:=f.out;match l,s with
  | [],s=>simp at s;omega
  | [x],_=>
   refine⟨[x],N,rfl,HH,?_,?_,Z4 _⟩;·have:N=1:=Y;simp[WV,XW,this]
   ·have:N=1:=Y;simp[WV,XW,this]
  |x::y::r,s=>simp at s;omega
 have aq:¬(N:Int)<2:=Y;go_enter func163,ntmps163;go_wp2;go_loopw [5] (fun v wr=>∃k:Nat,v=.int .i64 (k:Int)∧1≤k∧k≤N∧Zo enc w0 blk off N l wr∧Hid (WV lt l=l.take k++XW lt (l[k-1]!) (l.drop k))) (fun v _=>N-(intOf v).toNat)
 ·refine⟨1,rfl,Z4 _,Y,HH,?_⟩;have s:=f.out;match l,s with
  | [],s=>simp at s;omega
  |x::r,_=>exact rfl
 ·obtain⟨k,rfl,aH,aI,p,HF⟩:=hrel;by_cases aJ:k<N
  ·have ar:(k:Int)<(N:Int):=Y;obtain⟨O,Q⟩:=Zb (k-1);obtain⟨x,E⟩:=Zb (l[k]!);obtain⟨y,hy⟩:=Zb (l[O]!);have F:l[k]? =some x:=(by rw[←E];exact getD_some (Zc f.out));have G:l[O]? =some y:=(by rw[←hy];exact getD_some (Zc f.out));have a2:l.drop k=x::l.drop (k+1):=(by rw[←E,getElem!_pos l k (Zc f.out)];exact Z0q (Zc f.out));have ae:l.take (k+1)=l.take k++ [x]:=(by rw[←E,getElem!_pos l k (Zc f.out)];exact ZR (Zc f.out));have A:=HF.out;rw[Q,hy,a2]at A;have S:=Z F;have P2:=Z G;have HX:=Z E;have av:=Z ae;have af:=Z A;have aK:=Z a2;have c1:(O:Int)<(N:Int):=Y;have c2:IntKind.i64.wrap ((k:Int)-1)=(O:Int):=(by rw[Xe];omega);have aw:=Z Q;clear F G E hy A a2 ae Q;go_wp2_with fail;refine oS [] (Zo enc w0 blk off N (l)) [0,1,2,3,4,5,6,7,8,9,10] (p.drew) fun hS=>?_;(iterate 4 refine oV ?_);refine oC (y:=fun w hSw=>by apply Pure.val;refine(WL 159 (.tmp 21) rfl (by go_simp;first|done|rfl) (Zo.ld' hSw R S Y)).trans ?_;with_reducible rfl) (h:= ?_);(iterate 4 refine oV ?_);refine oC (y:=fun w hSw=>by apply Pure.val;refine(WL 159 (.tmp 26) rfl (by go_simp;first|done|rfl) (Zo.ld' hSw R P2 Y)).trans ?_;with_reducible rfl) (h:= ?_);refine oG fun K hK=>?_;go_simp
   first
    | (go_at_fn g)
    |skip
   refine(HE _ _ hS x y).mono ?_;rintro e wz ⟨rfl,H⟩;go_wp2_with fail;refine oK hK H fun hS=>?_;clear H;refine oD ?_;have a3:=Z hS;clear p hS c2 HF;have Q:=aw.out;have aL:¬cap=k:=Y;have aM:¬k=cap:=Y;have aO:(k:Int)≤(N:Int):=Y;generalize wz=wl at*;go_wp2_with fail
   ·rename_i he K0 K1;have ax:=Z he;clear he;obtain⟨M,o⟩:=Zb (N-k);obtain⟨C,hC⟩:=Zb (cap-k);rw[o,hC];have aP:M≤1048576:=Y;have B:=Z o;have HC:=Z hC;clear o hC;go_loopw [5,7] (fun v5 v7 wr=>∃(a b:Nat) (m:List α),v5=.int .i64 (a:Int)∧v7=.int .i64 (b:Int)∧1≤b∧b≤M∧k≤a∧a+1≤k+b∧Zo enc w0 blk off N m wr∧Hid (m.drop (k+b-1)=l.drop (k+b-1)∧WV lt l=m.take a++XW lt (l[k+b-1]!) (l.drop (k+b)))) (fun _ v _=>M-(intOf v).toNat)
    ·refine⟨k,1,l,rfl,rfl,Z4 _,Zc B.out,Z4 _,Y,a3,rfl,?_⟩;rw[af,show k+1-1=k from Y,HX];simp only[XW,ax.out,if_true]
    ·obtain⟨a,b,m,rfl,rfl,aQ,aR,aT,aU,hs,T⟩:=hrel;have p:=Z hs;clear hs a3;by_cases aV:b<M
     ·have ay:(b:Int)<(M:Int):=Y;have o:=B.out;have U:=f.out;have I:=p.1;obtain⟨q,D⟩:=Zb (b-1);obtain⟨j,t⟩:=Zb (k+b);obtain⟨n,V⟩:=Zb (l[j]!);obtain⟨J,a4⟩:=Zb (l[k+q]!);obtain⟨g1,g2⟩:=T.out;have a5:∀i,m[j-1+i]? =l[j-1+i]? :=fun i=>by have:=congrArg (fun z=>z[i]?) g1;simp only[Z0o]at this;rw[t]at this;exact this
      have F:m[j]? =some n:=(by rw[show j=j-1+1 from Y,a5,show j-1+1=j from Y,←V];exact getD_some Y);have G:m[k+q]? =some J:=(by rw[show k+q=j-1+0 from Y,a5,show j-1+0=k+q from Y,←a4];exact getD_some Y);obtain⟨u,L⟩:∃u,m[a]? =some u:=⟨_,getD_some Y⟩;have ag:l.drop j=n::l.drop (j+1):=(by rw[←V,getElem!_pos l j Y];exact Z0q Y);have ah:WV lt l=m.take a++XW lt J (n::l.drop (j+1)):=(by rw[g2,t,ag,show j-1=k+q from Y,a4]);have S:=Z F;have P2:=Z G;have ai:=Z V;have aj:=Z ah;have HU:=Z L;have HJ:=Z t;have HQ:=Z D;have az:=Z I;have c1:(q:Int)<(M:Int):=Y;have c2:IntKind.i64.wrap ((b:Int)-1)=(q:Int):=(by rw[Xe];omega);have c3:off+k*8+b*8=off+j*8:=Y;have C3:=Z c3;have aB:(a:Int)<(N:Int):=Y;clear F G V a4 L ag ah a5 g1 g2 t D o U I c3;go_wp2_with fail;refine oS [] (Zo enc w0 blk off N (m)) [0,1,2,3,4,5,6,7,8,9,10,11] (p.drew) fun hS=>?_;(iterate 4 refine oV ?_);refine oC (y:=fun w hSw=>by apply Pure.val;refine(WL 159 (.tmp 41) rfl (by go_simp;first|done|rfl) (Zo.ld' hSw R S (by first|omega|exact C3))).trans ?_;with_reducible rfl) (h:= ?_);(iterate 4 refine oV ?_);refine oC (y:=fun w hSw=>by apply Pure.val;refine(WL 159 (.tmp 46) rfl (by go_simp;first|done|rfl) (Zo.ld' hSw R P2 (by first|omega|exact C3))).trans ?_;with_reducible rfl) (h:= ?_);refine oG fun K hK=>?_;go_simp
      first
       | (go_at_fn g)
       |skip
      refine(HE _ _ hS n J).mono ?_;rintro e wz ⟨rfl,H⟩;go_wp2_with fail;refine oK hK H fun hS=>?_;clear H;refine oV ?_;refine oD ?_;have a0:=Z hS;clear p hS c2;have t:=HJ.out;have D:=HQ.out;have o:=B.out;have hr:=(a0.range R S).1;rw[←C3]at hr;have ht:=(a0.range R HU).2;have a6:=a0.put R (i:=a) Y n;have a1:(enc n).length=8:=R.hk n;have ak:(enc n).toArray.all (·.oneCell')=true:=(by simpa using h1 n);obtain⟨ex,al⟩:∃c,c=enc n:=⟨_,rfl⟩;rw[←al]at hr a6 a1 ak;have HR:=Z hr;have HT:=Z ht;have HP:=Z a6;clear hr ht a6 al t D o;go_wp2_with (first
       | ((with_reducible show wpList _ _ _ (⟨some 55,_,_,_,_,_⟩::_) _ _);go_must (refine wpList_load_mid rfl 159 (.tmp 54) rfl blk (off+k*8+b*8) rfl ex dd HR ao ap (by rw[a1];exact R.size) ?_))
       | ((with_reducible show wpList _ _ _ (⟨none,_,_,_,_,_⟩::_) _ _);go_must (refine wpList_store_mid rfl 159 (.tmp 56) (.tmp 55) rfl blk (off+a*8) ex.toArray rfl rfl (by rw[show ex.toArray.size=8 by simp[a1]];exact HT) (by rw[show ex.toArray.size=8 by simp[a1]];exact R.size) ak ?_)))
      ·skip;rename_i a7;have a8:Wl lt n J=false:=(by simpa using a7);have t:=HJ.out;have D:=HQ.out;have o:=B.out;have I:=az.out;go_roundw
       ·refine⟨a+1,b+1,m.set a n,Zg,Zg,Y,Y,Y,Y,by have:=HP.out;simpa using this,?_⟩;refine⟨?_,?_⟩;·rw[List.drop_set,if_pos Y];have:=congrArg (fun z=>z.drop 1) T.1;simp only[V4]at this;rwa [show k+b-1+1=k+(b+1)-1 from Y]at this
        ·rw[aj,show k+(b+1)-1=j from Y,ai,show k+(b+1)=j+1 from Y];simp only[XW,a8,Z2j,↓reduceIte];rw[List.take_set,ZR Y,Wn _ _ (by rw[ZK];omega),show a-(m.take a).length=0 by rw[ZK];omega];simp
       ·simp[intOf] <;> omega
      ·skip;rename_i a7;have a8:Wl lt n J=true:=(by simpa using a7);have t:=HJ.out;have D:=HQ.out;have o:=B.out;go_roundw
       ·refine⟨a,b+1,m,Zg,Zg,Y,Y,Y,Y,a0,?_⟩;refine⟨?_,?_⟩;·have:=congrArg (fun z=>z.drop 1) T.1;simp only[V4]at this;rwa [show k+b-1+1=k+(b+1)-1 from Y]at this
        ·rw[aj,show k+(b+1)-1=j from Y,ai,show k+(b+1)=j+1 from Y];simp only[XW,a8,if_true]
       ·simp[intOf] <;> omega
     ·have ay:¬(b:Int)<(M:Int):=Y;have o:=B.out;have U:=f.out;have aB:a<N:=Y;have aC:=p.zero R (i:=a) Y z;have aW:¬cap=a:=Y;have b0:(a:Int)≤(N:Int):=Y;have b1:(a:Int)≤(cap:Int):=Y;have b2:∀ty,(Builtin.clear_ #[156] ty #[.slice (some ⟨blk,off+a*8,none⟩) (N-a) (cap-a)]).run prog wr=.ok (.tuple #[]) (wr.setCells blk (off+a*8) ((List.replicate (N-a) z).flatMap enc)):=fun ty=>by have:=ZcL (P:=prog) wr 156 159 ty zv (enc z) underlying156 am an (R.hk z) (h1 z) blk (off+a*8) (N-a) (cap-a) Y (by intro j t;have I:=p.1;have:=(p.range R (getD_some (l:=m) (i:=a+j / 8) Y)).2 (j % 8) Y;rwa [show off+(a+j / 8)*8+j % 8=off+a*8+j from Y]at this);rw[this,Zey]
      clear o U;go_wp2;go_ret;have hg:=T.2;have o:=B.out;have U:=f.out;rw[Z11 Y]at hg;simp only[XW,Wo]at hg;have I:=p.1;exact⟨_,a,rfl,aC,by rw[hg,ZK];omega,by rw[hg,Z1t (by rw[ZK];omega),ZP (by rw[ZK];omega)],Y⟩
   ·rename_i aD;go_roundw;·refine⟨k+1,Zg,Y,Y,a3,?_⟩;show WV lt l=_;rw[af,show k+1-1=k from Y,HX,av];simp only[XW,aD,Z2j,↓reduceIte,YH,Z0L,Z10]
    ·simp[intOf] <;> omega
  ·have ar:¬(k:Int)<(N:Int):=Y;obtain rfl:k=N:=Y;go_wp2;go_ret;have A:=HF.out;rw[Z11 (Zc f.out),ZP (Zc f.out)]at A;simp only[XW,Wo]at A;exact⟨l,k,rfl,p,by rw[A,f],by rw[A,ZP (Zc f.out)],Z4 _⟩
end
def Yv (a b:Int):Int:=if a<b then -1 else if b<a then 1 else 0
def orI (a b c:Int):Int:=if a≠0 then a else if b≠0 then b else c
def Z30 (r q:Rec):Int:=orI (Yv r.O q.O) (Yv r.B q.B) (Yv r.I q.I)
theorem Zin (r q:Rec):decide (Z30 r q<0)=Vz r q:=by
 unfold Z30 Vz orI Yv;congr 1;apply propext;constructor
 ·intro h;repeat' split at h
  all_goals omega
 ·intro h;repeat' split
  all_goals omega
theorem Zi8 (r q:Rec):(Z30 r q==0)=Wl Vz r q:=by
 rw[Bool.eq_iff_iff];unfold Wl Vz Z30 orI Yv;simp only[beq_iff_eq,Xp,Bool.not_eq_true',decide_eq_false_iff_not];constructor
 ·intro h;repeat' split at h
  all_goals omega
 ·intro h;repeat' split
  all_goals omega
section
open Go.Sort
theorem Z55 (a b c:Int)(f:Yv a b=c)(w:U1):Calls prog 208 #[a,b] w fun e g=>e=.returned c∧w=g:=by
 have d:=Z f;unfold Yv at d;rcases Int.lt_trichotomy a b with h|h|h;·have i:¬b<a:=Y;go_enter func208,ntmps208;go_wp2;go_ret;exact⟨YP (by rw[←d,if_pos h]),rfl⟩
 ·subst h;go_enter func208,ntmps208;go_wp2;go_ret;exact⟨YP (by rw[←d];simp),rfl⟩
 ·have i:¬a<b:=Y;go_enter func208,ntmps208;go_wp2;go_ret;exact⟨YP (by rw[←d,if_neg Y,if_pos h]),rfl⟩
theorem Zj2 (g:Nat)(a b c d:Int)(w:U1)(p:w.cell? g=some (.int .i64 a))(q:w.cell? (g,1)=some (.int .i64 b))(r:w.cell? (g,2)=some (.int .i64 c))(n:orI a b c=d):Calls prog 206 #[(g,3,3)] w fun e o=>e=.returned d∧w=o:=by
 have l:=Z n;unfold orI at l;go_enter func206,ntmps206;go_wp2;go_loop [8] (fun v=>∃k:Nat,k≤3∧v=.int .i64 (k:Int)∧Hid ((0<k→a=0)∧(1<k→b=0)∧(2<k→c=0))) (fun v=>3-(intOf v).toNat)
 ·exact⟨0,Y,rfl,⟨fun h=>Y,fun h=>Y,fun h=>Y⟩⟩
 ·obtain⟨k,s,rfl,j⟩:=hrel;obtain rfl|rfl|rfl|rfl:k=0∨k=1∨k=2∨k=3:=Y
  ·by_cases f:a=0
   ·subst f;go_wp2;go_round;·exact⟨1,Y,by first|rfl|trivial,⟨fun _=>(by first|rfl|trivial),fun h=>Y,fun h=>Y⟩⟩
    ·simp[intOf]
   ·go_wp2;go_ret;exact⟨YP (by rw[←l,if_pos f]),rfl⟩
  ·have f:=j.1 Y;by_cases i:b=0
   ·subst i;go_wp2;go_round;·exact⟨2,Y,by first|rfl|trivial,⟨fun _=>f,fun _=>(by first|rfl|trivial),fun h=>Y⟩⟩
    ·simp[intOf]
   ·go_wp2;go_ret;exact⟨YP (by rw[←l,if_neg (by simp[f]),if_pos i]),rfl⟩
  ·have f:=j.1 Y;have i:=j.2.1 Y;by_cases m:c=0
   ·subst m;go_wp2;go_round;·exact⟨3,Y,by first|rfl|trivial,⟨fun _=>f,fun _=>i,fun _=>(by first|rfl|trivial)⟩⟩
    ·simp[intOf]
   ·go_wp2;go_ret;exact⟨YP (by rw[←l,if_neg (by simp[f]),if_neg (by simp[i])]),rfl⟩
  ·have f:=j.1 Y;have i:=j.2.1 Y;have m:=j.2.2 Y;go_wp2;go_ret;exact⟨YP (by rw[←l,if_neg (by simp[f]),if_neg (by simp[i]),m]),rfl⟩
theorem Zbd:(prog.info? 3).map (fun i=>(i.zero,i.size,i.bytes))=some (some (.int .i64 0),1,8):=Zi
theorem Z8L (r q:Rec)(d e:U2)(w:U1):Calls prog 162 #[r.val d,q.val e] w fun E a=>E=.returned (.int .i64 (Z30 r q))∧∃n os,a=grow (w.drewN n) os:=by
 obtain⟨ii,a0,a1,a2,a5⟩:=info_parts Zbd;obtain⟨k,z⟩:∃o:Obj,o=.cells #[.int .i64 r.O,.int .i64 r.B,.int .i64 r.I,.int .i64 r.P.K,.int .i64 r.P.H,.int .i64 r.P.S,.int .u32 (r.S.toNat:Int),d] 159:=⟨_,rfl⟩;obtain⟨F,A⟩:∃o:Obj,o=.cells #[.int .i64 q.O,.int .i64 q.B,.int .i64 q.I,.int .i64 q.P.K,.int .i64 q.P.H,.int .i64 q.P.S,.int .u32 (q.S.toNat:Int),e] 159:=⟨_,rfl⟩;obtain⟨f,j⟩:=WI ((w.alloc k).alloc F);have l:Row f w.heap.size 159 [.int .i64 r.O,.int .i64 r.B,.int .i64 r.I,.int .i64 r.P.K,.int .i64 r.P.H,.int .i64 r.P.S,.int .u32 (r.S.toNat:Int),d]:=by rw[j,z];exact(Row.new w _ _).alloc _
 have m:Row f (w.heap.size+1) 159 [.int .i64 q.O,.int .i64 q.B,.int .i64 q.I,.int .i64 q.P.K,.int .i64 q.P.H,.int .i64 q.P.S,.int .u32 (q.S.toNat:Int),e]:=by have:=Row.new (w.alloc k) 159 #[.int .i64 q.O,.int .i64 q.B,.int .i64 q.I,.int .i64 q.P.K,.int .i64 q.P.H,.int .i64 q.P.S,.int .u32 (q.S.toNat:Int),e];rw[show(w.alloc k).heap.size=w.heap.size+1 from Ze]at this;rw[j,A];exact this
 have G:f.heap.size=w.heap.size+2:=by rw[j];simp
 have s:=Z G;have J:=Z j;have a3:=Z z;have a4:=Z A;obtain⟨c,t⟩:=Zb w.heap.size;rw[t]at l m s;have a6:=Z t;clear G j z A;unfold Rec.val;go_enter func162,ntmps162;go_upto_region 1 with fail;rw[←a3,←a4,←J];try rw[t]
 clear t;have C:c<c+2:=Y;have D:c+1<c+2:=Y;have L:=Z9 l 0;have M:=Z9 l 1;have N:=Z9 l 2;have Q:=Z9 m 0;have R:=Z9 m 1;have T:=Z9 m 2;have g:∀a,Below (c+2) f a→∀b i,b<c+2→a.cell? ⟨b,i,none⟩=f.cell? ⟨b,i,none⟩:=fun a h b i hb=>h.cell (p:=⟨b,i,none⟩) hb;have x0:Hid (∀a,Below (c+2) f a→a.cell? ⟨c,0,none⟩=some (.int .i64 r.O)):=Z (fun a h=>(g a h _ _ C).trans L);have x1:Hid (∀a,Below (c+2) f a→a.cell? ⟨c,1,none⟩=some (.int .i64 r.B)):=Z (fun a h=>(g a h _ _ C).trans M);have x2:Hid (∀a,Below (c+2) f a→a.cell? ⟨c,2,none⟩=some (.int .i64 r.I)):=Z (fun a h=>(g a h _ _ C).trans N);have y0:Hid (∀a,Below (c+2) f a→a.cell? ⟨c+1,0,none⟩=some (.int .i64 q.O)):=Z (fun a h=>(g a h _ _ D).trans Q);have y1:Hid (∀a,Below (c+2) f a→a.cell? ⟨c+1,1,none⟩=some (.int .i64 q.B)):=Z (fun a h=>(g a h _ _ D).trans R);have y2:Hid (∀a,Below (c+2) f a→a.cell? ⟨c+1,2,none⟩=some (.int .i64 q.I)):=Z (fun a h=>(g a h _ _ D).trans T);clear g L M N Q R T;refine oS [] (fun a=>Below (c+2) f a) [0,1,2,3,4,5,6,7,8,9,10,11,12,13,14,15,16,17] (bq_ (Z8 _ _) 1) fun hS=>?_;refine oV ?_;refine ZH (fun w hSw=>x0 _ hSw) ?_;refine oV ?_;refine ZH (fun w hSw=>y0 _ hSw) ?_;refine oC (v:= ?_) (y:=fun w hSw=>by refine Pure.call 208 #[.int .i64 r.O,.int .i64 q.O] (by go_simp;first|done|rfl) ?_;refine(Z55 r.O q.O _ rfl w).mono ?_;rintro e a ⟨rfl,rfl⟩;refine⟨?_,rfl⟩;with_reducible rfl) (h:= ?_);refine oV ?_;refine ZH (fun w hSw=>x1 _ hSw) ?_;refine oV ?_;refine ZH (fun w hSw=>y1 _ hSw) ?_;refine oC (v:= ?_) (y:=fun w hSw=>by refine Pure.call 208 #[.int .i64 r.B,.int .i64 q.B] (by go_simp;first|done|rfl) ?_;refine(Z55 r.B q.B _ rfl w).mono ?_;rintro e a ⟨rfl,rfl⟩;refine⟨?_,rfl⟩;with_reducible rfl) (h:= ?_);refine oV ?_;refine ZH (fun w hSw=>x2 _ hSw) ?_;refine oV ?_;refine ZH (fun w hSw=>y2 _ hSw) ?_;refine oC (v:= ?_) (y:=fun w hSw=>by refine Pure.call 208 #[.int .i64 r.I,.int .i64 q.I] (by go_simp;first|done|rfl) ?_;refine(Z55 r.I q.I _ rfl w).mono ?_;rintro e a ⟨rfl,rfl⟩;refine⟨?_,rfl⟩;with_reducible rfl) (h:= ?_);refine oG fun K hK=>?_;refine Zfk 22 3 (.tmp 9) (.tmp 14) (.tmp 19) (by rfl) (.int .i64 (Yv r.O q.O)) (.int .i64 (Yv r.B q.B)) (.int .i64 (Yv r.I q.I)) (by rfl) (by rfl) (by rfl) rfl rfl rfl ii (.int .i64 0) underlying22 a0 a1 a2 rfl ?_;refine oK hK (hS.alloc (by rw[show f.drew.heap.size=f.heap.size from rfl,s];omega) _) fun hS=>?_;refine oG fun K hK=>?_;go_simp;go_at_call 206;have x:Row (f.drew.alloc (.cells #[.int .i64 (Yv r.O q.O),.int .i64 (Yv r.B q.B),.int .i64 (Yv r.I q.I)] 3)) (c+2) 3 [.int .i64 (Yv r.O q.O),.int .i64 (Yv r.B q.B),.int .i64 (Yv r.I q.I)]:=by have:=Row.new f.drew 3 #[.int .i64 (Yv r.O q.O),.int .i64 (Yv r.B q.B),.int .i64 (Yv r.I q.I)];rwa [show f.drew.heap.size=f.heap.size from rfl,s]at this
 have U:=Z9 x 0;have V:=Z9 x 1;have W:=Z9 x 2;rw[s];refine(Zj2 (c+2) _ _ _ _ _ U V W rfl).mono ?_;rintro E wz ⟨rfl,rfl⟩;clear x U V W;go_wp2_with fail;refine oK hK hS fun hS=>?_;refine oV ?_;refine oD ?_;go_wp2;go_ret;refine⟨rfl,1,#[k,F,.cells #[.int .i64 (Yv r.O q.O),.int .i64 (Yv r.B q.B),.int .i64 (Yv r.I q.I)] 3],?_⟩;rw[J];simp only[alloc_eq_grow,grow_grow,drew_grow];rfl
end
theorem VN (h:Below n w v)(g i:Nat)(b:n≤g)(c:n≤v)(a:U2):Below n w (v.setCell (g,i) a):=
 Zd1 h ⟨rfl,rfl,rfl,by simp[World.setCell],fun k _ d=>Below.heap_setCell v ⟨g,i,none⟩ a k (fun e=>d (by rw[e]))⟩ b c
theorem Zi4 (a b c d v:U2)(B:Z_):splice (splice (List.replicate 64 v) 0 [a,b,c,d]) 4 B=[a,b,c,d]++(B++List.replicate (60-B.length) v):=by have e:splice (List.replicate 64 v) 0 [a,b,c,d]=[a,b,c,d]++List.replicate 60 v:=rfl;rw[e];unfold splice;rw[Z1t Ze,List.drop_append,List.drop_of_length_le Ze,Z10,List.drop_replicate];congr 3;simp
theorem ZiU (k:Byte)(b:Y_)(c:b.length≤55):
  splice (splice (List.replicate 64 (Value.int .u8 0)) 0 (([0x57#8,0x73#8,1#8,k].map Za).take 64)) 4 ((b.map Za).take 60)=(front k b++List.replicate 5 0#8).map Za:=by
 have e:(b.map Za).take 60=b.map Za:=ZP Zx;have a:([0x57#8,0x73#8,1#8,k].map Za).take 64=[Za 0x57#8,Za 0x73#8,Za 1#8,Za k]:=rfl;rw[e,a,Zi4];unfold front pad;rw[ZV,ZV,ZV,List.map_replicate,List.map_replicate,Zz,YH,YH,List.replicate_append_replicate];rw[show 55-b.length+5=60-b.length from Y];rfl
def pRw (k:Byte) (b:Y_) (s:BitVec 32) (i:Nat):Y_:=front k b++((le4 s).take i++List.replicate (5-i) 0#8)
theorem pRs (k:Byte)(b:Y_)(s:BitVec 32)(i:Nat)(d:i<4)(a:b.length≤55):
  ((pRw k b s i).map Za).set (59+i) (Za ((le4 s).getD i 0))=(pRw k b s (i+1)).map Za:=by
 have c:=Z4R (k:=k) a;unfold pRw;rw[←XZ];congr 1;rw[Wn _ _ Y,c];congr 1;obtain rfl|rfl|rfl|rfl:i=0∨i=1∨i=2∨i=3:=Y
 all_goals simp[le4,List.replicate]
theorem Zcr (k:Byte)(b:Y_)(a:b.length≤55):((pRw k b (crc (front k b)) 4).map Za).set 63 (Za 0xa5#8)=(frame k b).map Za:=by have c:=Z4R (k:=k) a;unfold pRw frame;rw[←XZ];congr 1;rw[Wn _ _ Y,c,YH];congr 1
theorem Zjn (s:BitVec 32)(i:Nat)(a:i<4):Za ((le4 s).getD i 0)=.int .u8 ((s.toNat:Int) / 2 ^ (8*i) % 256):=by
 have h:=s.isLt;obtain rfl|rfl|rfl|rfl:i=0∨i=1∨i=2∨i=3:=Y
 all_goals
  simp[le4,Za,Za_,Z4u,Z4s]
theorem Z7b (a:Int)(B:Nat)(A:X_)(l:Y_)(n c:Nat)(w:U1)(b: -9223372036854775808≤a∧a≤9223372036854775807)(h:Sl w B 1 A n (l.map Za))(W:B≤w)(hn:n≤1048576):
  Calls prog 128 #[a,(A,n,c)] w fun e G=>∃v,e=.returned v∧OB w G v (cellL a l)∧Below w w G:=by
 have hl:l.length=n:=by have:=h.len;simpa using this
 have HL:=Z hl;obtain⟨i0,H,a0,I,a1⟩:=info_parts WP;have J:(prog.info? 5).map (·.size)=some 1:=by rw[H];simp[I]
 by_cases x:1≤a∧a≤255∧l.length≤55
 ·have p:=Z (Z3l x);obtain⟨y,L,q⟩:=x;have ac:n≤55:=Y;obtain⟨k,M⟩:=Zb (BitVec.ofNat 8 a.toNat);have a2:a=(k.toNat:Int):=by rw[←M,Z2Y];omega
  rw[M]at p;subst a2;have ad:=k.isLt;have a3:=Z (ZiU k l q);have a4:=Z4R (k:=k) q;have o:=Z a4;have z:=Z q;go_enter func128,ntmps128;go_wp2_with (first
   | (at_make;refine Z0E _ rfl (.const (64:Int)) (.const (64:Int)) 32 rfl 5 i0 (.int .u8 0) 1 underlying32 H a0 I a1 rfl .i64 .i64 _ _ 64 64 rfl rfl rfl Y Y Y Y ?_;intro r r1 N s1;have a5:r.heap.size=w.heap.size+1:=Y)
   | ((with_reducible show wpList _ _ _ (⟨some 24,_,_,_,_,_⟩::_) _ _);go_must (refine Z6E rfl (.tmp 20) (.tmp 23) 32 32 rfl 5 underlying32 J _ _ 64 64 4 4 rfl rfl w 0 _ 5 (r1.alloc _) _ ([0x57#8,0x73#8,1#8,k].map Za) (by have O:=Sl.fresh r ([0x57#8,0x73#8,1#8,k].map Za) 5 (0,0) 4 rfl;rw[a5]at O;exact O) (fun _=>rfl) Ze (Z2B _) ?_);intro w2 r2 P)
   | ((with_reducible show wpList _ _ _ (⟨some 28,_,_,_,_,_⟩::_) _ _);go_must (refine Z6E rfl (.tmp 26) (.tmp 27) 32 32 rfl 5 underlying32 J _ _ 60 60 n c rfl rfl w 4 _ 5 r2 B _ (h.below (((N.alloc (show w.heap.size≤r.heap.size from Y) _).grown P Zx (fun k b=>by injection b with b;omega)).mono W)) (fun _=>rfl) (by simp[splice];omega) (Z2B _) ?_);intro C D g3))
  have Q:Below w w w2:=(N.alloc (show w.heap.size≤r.heap.size from Y) _).grown P Zx (fun k b=>by injection b with b;omega);have b3:Below w w C:=Q.grown g3 Q.size (fun k b=>by injection b with b;omega);rw[a3]at D;have s3:Sl C (w.heap.size+1) 1 (some ⟨w.heap.size,0,none⟩) 59 ((front k l).map Za):=by have:=D.sl (B:=w.heap.size+1) (m:=59) Y (by rw[Zz,Zw,o];simp);rwa [ZV,Z1t (by rw[Zz,o];omega),ZP (by rw[Zz,o];omega)]at this
  refine(ZiB _ _ (front k l) 59 _ _ s3 Y).mono ?_;rintro e w4 ⟨rfl,rfl⟩;have R:Row C w 5 ((pRw k l (crc (front k l)) 0).map Za):=D;obtain⟨s,S⟩:=Zb (crc (front k l));have ae:=s.isLt;have T:=Z (Zcr k l z);rw[S]at T R ⊢;have HS:=Z S;have E:=Z (Z3T (k:=k) z);generalize hg:w.heap.size=g at*;have af:g≤w:=Y;have HG:=Z hg;go_wp2;go_loopw [32] (fun i wr=>∃j:Nat,j≤4∧i=.int .i64 j∧Row wr g 5 ((pRw k l s j).map Za)∧Below g w wr) (fun i _=>4-(intOf i).toNat)
  ·exact⟨0,Y,rfl,R,b3⟩
  ·obtain⟨j,hj,rfl,f,t⟩:=hrel;by_cases U:j<4
   ·have a6:=Z (pRs k l s j U z);have a7:=Z (Zjn s j U);have F:=Z (show(pRw k l s j).length=64 by unfold pRw;rw[Zw,Zw,o,ZK,Z79,Z0w];omega);have a8:=f.frozen (59+j);have d:=f.cell (59+j);rw[Z5y _ _ (by rw[F];omega)]at d;generalize (pRw k l s j).getD (59+j) 0=old at d;have a9:wr.cell? (g,59+j)=some (.int .u8 (old.toNat:Int)):=d;go_wp2_with fail;rw[←a7];go_roundw;·exact⟨j+1,Y,Zg,(f.set (59+j) _).to a6,VN t _ _ (Z4 _) (Zc t.size) _⟩
    ·exact Zh
   ·have aa:j=4:=Y;subst aa;have F:=Z (show(pRw k l s 4).length=64 by unfold pRw;rw[Zw,Zw,o,ZK,Z79,Z0w];omega);have a8:=f.frozen 63;have d:=f.cell 63;rw[Z5y _ _ (by rw[F];omega)]at d;generalize (pRw k l s 4).getD 63 0=old at d;have a9:wr.cell? (g,63)=some (.int .u8 (old.toNat:Int)):=d;go_wp2;go_ret;have r5:=(f.set 63 (Za 0xa5#8)).to T;have V:=r5.own (base:=g) (size:=1) (n:=64) (cap:=64) (Z4 _) (Z4 _) (by unfold maxLen;omega) (by rw[Zz,E]);rw[HG];refine⟨_,rfl,?_,VN t _ _ (Z4 _) (Zc t.size) _⟩;rw[p];unfold OB;rw[E];rw[ZP (by rw[Zz,E];omega)]at V;exact V
 ·have p:=Z (Z9H x);have ab:a<1∨(1≤a∧255<a)∨(1≤a∧a≤255∧55<n):=Y;rw[p];rcases ab with y|⟨y,L⟩|⟨y,L,q⟩
  all_goals
   go_enter func128,ntmps128;go_wp2_with fail;all_goals try omega
   go_ret;exact⟨_,rfl,Yi _ _ _ _,Z8 _ _⟩
def tkV (t:Option (Byte×Y_)):U2:= .int .i64 (((t.getD (0#8, [])).1.toNat:Nat):Int)
theorem Zht (B:Nat)(A:X_)(l:Y_)(n c:Nat)(w:U1)(h:Sl w B 1 A n (l.map Za))(F:B≤w)(hn:n≤1048576)(hc:n≤c)(a2:c≤9223372036854775807):
  Calls prog 65 #[(A,n,c)] w fun e i=>∃v,e=.returned (.tuple #[tkV (Vq l),v,.bool (Vq l).isSome])∧OB w i v ((Vq l).getD (0#8, [])).2∧Below w w i:=by
 have f:l.length=n:=by have:=h.len;simpa using this
 have HL:=Z f;by_cases V:n=64
 ·subst V;obtain⟨b,o,rfl,W,r⟩:=h.at_ Y;obtain⟨k,s⟩:=Zb (l.getD 3 0);have G:w.cell? (b,o+3)=some (.int .u8 (k.toNat:Int)):=by rw[r 3 _ (XF l 3 Y),s];rfl
  have a3:=k.isLt;have H:Sl w B 1 (some ⟨b,o+4,none⟩) 55 (((l.drop 4).take 55).map Za):=by refine⟨by simp[f],fun _=>⟨b,o+4,rfl,W,fun j u I=>?_⟩⟩;have hj:j<55:=(by have:=(Z4m.1 I).1;simp[f]at this;omega);have:=r (4+j) u (by rw[←I];simp[ZO,Z0K,hj,Z0o]);rw[←VU]at this;exact this
  obtain⟨x,m⟩:=Zb ((l.drop 4).take 55);rw[m]at H;have J:Vq l=if cellL (k.toNat:Int) x=l then some (k,x) else none:=by unfold Vq;rw[s,m,f];simp
  have L:=Z J;have M:x.length=55:=by rw[←m];simp[f]
  have N:=Z M;have a4:¬c=4:=Y;have a5:IntKind.i64.wrap (k.toNat:Int)=(k.toNat:Int):=by rw[Xe];omega
  have a6:59≤c:=Y;have a7:(59:Int)≤(c:Int):=Y;clear s m J M f r;go_enter func65,ntmps65;go_wp2_with fail;go_region_held3 (fun i=>i.cell? (b,o+3)=some (.int .u8 (k.toNat:Int))∧Below w w i)
   (first
    |exact⟨G,bq_ (Z8 _ _) 1⟩
    |exact⟨t.cell (p:=(b,o+3)) (by show b<_;simp;omega) |>.trans G,(bq_ (Z8 _ _) 1).trans t⟩)
   (first
    | (go_at_call 127;refine(Z0A B _ x 55 _ _ (H.below (bq_ (Z8 _ _) 1)) Zx Y).mono ?_;rintro e O ⟨v,rfl,P,t⟩))
  obtain⟨y,z,rfl,a0,a8,Q⟩:=P.read;rw[N]at a0 Q ⊢;have C:Below w w O:=(bq_ (Z8 _ _) 1).trans t;have a9:=h.below (C.mono F);clear ‹O.cell? _=_∧_›;go_wp2_with fail;refine(Z7b (k.toNat:Int) _ y x 55 z _ Y Q (Z4 _) Y).mono ?_;rintro e D ⟨vp,rfl,a1,R⟩;obtain⟨Ap,cp,rfl,aa,ab,S⟩:=a1.read;have q:Below w w D:=C.trans (R.mono C.size);have T:=h.below (q.mono F);have ac:=q.size;have U:=P.below (R.mono (Z4 _));rw[N]at U;generalize hcl:cellL (k.toNat:Int) x=cl at*;have ad:=Z hcl;clear hcl;by_cases g:cl=l
  ·have a:Vq l=some (k,x):=(by rw[L,if_pos g]);have d:=Z a;have E:=Z g;clear a g;go_wp2_with fail;refine(Z42 true D _ _ l cl _ _ _ _ _ (T.mono Y) S (decide_eq_true E.symm)).mono ?_;rintro e w3 ⟨rfl,rfl⟩;go_wp2_with fail;refine bodyPost_ret (v:= .tuple #[(k.toNat:Int),(y,55,z),.bool true]) (by simp[results,results65,go_sem]) rfl ⟨.slice y 55 z,?_,?_,q⟩;·rw[d];rfl
   ·rw[d];exact U
  ·have a:Vq l=none:=(by rw[L,if_neg g]);have d:=Z a;have E:=Z g;clear a g;go_wp2_with fail;refine(Z42 false D _ _ l cl _ _ _ _ _ (T.mono Y) S (decide_eq_false (fun e=>E e.symm))).mono ?_;rintro e w3 ⟨rfl,rfl⟩;go_wp2_with fail;refine bodyPost_ret (v:= .tuple #[Nat,(),.bool false]) (by simp[results,results65,go_sem]) rfl ⟨.slice none 0 0,?_,?_,q⟩;·rw[d];rfl
   ·rw[d];exact Yi _ _ _ _
 ·have a:Vq l=none:=by unfold Vq;rw[if_neg Y]
  have d:=Z a;clear a;have ae:((n:Int) !=64)=true:=Zx;go_enter func65,ntmps65;go_wp2_with fail;refine bodyPost_ret (v:= .tuple #[Nat,(),.bool false]) (by simp[results,results65,go_sem]) rfl ⟨.slice none 0 0,?_,?_,Z8 _ _⟩;·rw[d];rfl
  ·rw[d];exact Yi _ _ _ _
section
def preRow (k h j:Nat):Y_:=(List.range (k+h)).map fun i=>if i<k then gx ((j+1)*(i+1) % 255) else if i=k+j then 1 else 0
def YR (k h:Nat):Zl:=(List.range h).map (preRow k h)
def ltM (n seed:Nat) (a:List Nat):Zl:=a.map fun b=>VE n (YQ n seed b)
def Y6 (k h seed:Nat) (ids:List Nat):Zl:=YR k h++ltM (k+h) seed ids
def WE (i s:Nat) (data:Y_):Y_:=(data.drop (i*s)).take s
def XC (k h s:Nat) (data:Y_):Zl:=List.replicate h (Zm s)++(List.range k).map fun i=>WE i s data
def Vl (k h s seed:Nat) (data:Y_):Zl:=VJ (k+h) (YK (Y6 k h seed (List.range k)) (XC k h s data))
def XA (k h s seed:Nat) (data:Y_) (c:Int):Y_:=(Vl k h s seed data).getD c.toNat []
def Z0P (k h s seed:Nat) (data:Y_) (a:Nat):Y_:=YS (XA k h s seed data) (YQ (k+h) seed a) (VS s)
theorem Z64 (k h j:Nat):(preRow k h j).length=k+h:=by simp[preRow]
theorem Z46 {k h seed:Nat}{ids:List Nat}{r:Y_}(b:r∈Y6 k h seed ids):r.length=k+h:=by
 unfold Y6 YR ltM at b;rcases YZ.1 b with a|a;·obtain⟨j,_,rfl⟩:=ZT.1 a;exact Z64 k h j
 ·obtain⟨c,_,rfl⟩:=ZT.1 a;exact ZcF _ _
theorem Z3C (k h seed:Nat)(a:List Nat):Wd (k+h) (Y6 k h seed a):=Z3J fun _ b=>Z46 b
theorem Z0V (k h seed:Nat)(a:List Nat):(Y6 k h seed a).length=h+a.length:=by simp[Y6,YR,ltM]
theorem Z3x (k h s:Nat)(data:Y_):(XC k h s data).length=h+k:=by simp[XC]
theorem Z3v {k s:Nat}{data:Y_}(a:data.length=k*s){i:Nat}(b:i<k):(WE i s data).length=s:=by unfold WE;have:(i+1)*s≤k*s:=Z08 _ Y;rw[X9]at this;rw[ZK,Z0r];omega
theorem Z5s {k h s:Nat}{data:Y_}(c:data.length=k*s):Wd s (XC k h s data):=Z3J fun r b=>by
 unfold XC at b;rcases YZ.1 b with a|a;·rw[List.eq_of_mem_replicate a];simp[Zm]
 ·obtain⟨i,d,rfl⟩:=ZT.1 a;exact Z3v c (Ws.1 d)
theorem Ziy {k h seed:Nat}{ids b:List Nat}(d:∀i∈ids,i∈b)(e:Wu (k+h) (Y6 k h seed ids)):Wu (k+h) (Y6 k h seed b):=fun x f g=>
 e x f (Z4c.2 fun r c=>Z4c.1 g r (by
  unfold Y6 at c ⊢;rcases YZ.1 c with a|a;·exact Z16 _ a
  ·unfold ltM at a ⊢;obtain⟨i,j,rfl⟩:=ZT.1 a;exact Z13 _ (ZT.2 ⟨i,d i j,rfl⟩)))
section
variable {k h s seed:Nat} {data:Y_}
theorem ZaT (a:Wu (k+h) (Y6 k h seed (List.range k)))(b:data.length=k*s):Sol (Y6 k h seed (List.range k)) (XC k h s data) s fun j c=>at2 (Vl k h s seed data) c j:=
 Zgz (Z3C _ _ _ _) (Z5s b) (by rw[Z0V,Z3x,WZ]) (by rw[Z0V,WZ];omega) a
theorem Zb8 (a:data.length=k*s):(Vl k h s seed data).length=k+h∧Wd s (Vl k h s seed data):=by
 have b:(Y6 k h seed (List.range k)).length=(XC k h s data).length:=by rw[Z0V,Z3x,WZ]
 refine⟨Z1E _ _,Zau (Z4d (Z3C _ _ _ _) (Z5s a) b) ?_⟩;rw[Z0U,Z0V,WZ];omega
theorem ZhA (j c:Nat):at2 (Vl k h s seed data) c j=if c<k+h then XD (XA k h s seed data) c j else 0:=by
 split;·unfold XD XA at2;rw[ZL]
 ·unfold at2;have:(Vl k h s seed data).length=k+h:=Z1E _ _;rw[Z6 (l:=Vl k h s seed data),XX Y];rfl
theorem Z5a (a:data.length=k*s):∀c:Int,0≤c→c<((k+h:Nat):Int)→(XA k h s seed data c).length=s:=fun c b d=>by have:=Zb8 (h:=h) (seed:=seed) a;exact this.2 c.toNat (by rw[this.1];omega)
theorem Z3w (b:data.length=k*s)(a:Nat):(Z0P k h s seed data a).length=s:=
 Z3n _ _ (fun c d=>by have:=(Z0D (k+h) seed a).1 c d;exact Z5a b c this.1 this.2) (by simp[VS])
theorem Zhd (n:Wu (k+h) (Y6 k h seed (List.range k)))(b:data.length=k*s){a:Nat}(d:a<k):Z0P k h s seed data a=WE a s data:=by
 apply VP;intro j;by_cases f:j<s
 ·have g:=ZaT n b (h+a) (by rw[Z0V,WZ];omega) j f;have o:(Y6 k h seed (List.range k)).getD (h+a) []=VE (k+h) (YQ (k+h) seed a):=by unfold Y6 ltM;rw[Z6,Y7 (by simp[YR])];simp only[YR,Zz,WZ,Z2l,ZO];rw[Vt d];rfl
  have p:at2 (XC k h s data) (h+a) j=(WE a s data).getD j 0:=by unfold at2 XC;rw[Z6 (l:=List.replicate h (Zm s)++_),Y7 Ze];simp only[Z0w,Z2l,ZO];rw[Vt d];rfl
  rw[o,p,Z8l _ _ _ (Z7_ ..) (Z0D ..).1]at g;have i:=Z6y (v:=XA k h s seed data) j f (YQ (k+h) seed a) (VS s) (fun c e=>by have:=(Z0D (k+h) seed a).1 c e;exact⟨this.1,Z5a b c this.1 this.2⟩) (by simp[VS]);rw[Z3Q,b0x]at i;have q:Ym (fun c=>XD (XA k h s seed data) c j) (YQ (k+h) seed a)=Ym (fun c=>at2 (Vl k h s seed data) c j) (YQ (k+h) seed a):=Z2r _ fun c e=>by have:=(Z0D (k+h) seed a).1 c e;rw[ZhA,if_pos Y]
  have m:(Z0P k h s seed data a).getD j 0=(WE a s data).getD j 0:=i.trans (q.trans g);have r:=Z3w (h:=h) (seed:=seed) b a;have t:=Z3v b d;rw[Z6,Z6,Z7 Y,Z7 Y]at m;rw[Z7 Y,Z7 Y];simpa using m
 ·rw[XX (by rw[Z3w b];omega),XX (by rw[Z3v b d];omega)]
def Yt (n seed:Nat) (l:List (Nat×Y_)):List Zt:=l.map fun x=>⟨YQ n seed x.1,x.2⟩
theorem Zf3 {l:List (Nat×Y_)}(b:∀x∈l,x.2.length=s):Right (k+h) s (Yt (k+h) seed l):=by
 refine⟨fun q a c d=>?_,fun q a=>?_,fun q a=>?_⟩ <;> obtain⟨x,e,rfl⟩:=ZT.1 a
 ·exact(Z0D _ _ _).1 c d
 ·exact Z7_ _ _ _
 ·exact b x e
theorem ZhI (a:data.length=k*s){l:List (Nat×Y_)}(b:∀x∈l,x.2=Z0P k h s seed data x.1):Made (k+h) s (XA k h s seed data) (Yt (k+h) seed l):=
 ⟨fun q c=>by obtain⟨x,d,rfl⟩:=ZT.1 c;exact b x d,Z5a a⟩
theorem ZiI (n seed:Nat)(l:List (Nat×Y_)):(Yt n seed l).map (fun q=>VE n q.cols)=ltM n seed (l.map Prod.fst):=by unfold Yt ltM;rw[WS,WS];rfl
theorem ZaG:∀(k:Nat) {data:Y_},data.length=k*s→(List.range k).flatMap (fun i=>WE i s data)=data
 |0,data,h=>by rw[Nat.zero_mul]at h;rw[List.length_eq_zero_iff.1 h];rfl
 |k+1,data,h=>by
  rw[X9]at h;rw[Wp,Vr,Vb,List.flatMap_nil,Wo];have a:(data.take (k*s)).length=k*s:=by rw[ZK];omega
  have b:(List.range k).flatMap (fun i=>WE i s data)=(List.range k).flatMap (fun i=>WE i s (data.take (k*s))):=by rw[List.flatMap_def,List.flatMap_def];congr 1;apply Z1O;intro i c;have:=Ws.1 c;have d:(i+1)*s≤k*s:=Z08 _ Y;rw[X9]at d;unfold WE;rw[List.drop_take,Z3D,Z04 Y]
  rw[b,ZaG k a];unfold WE;rw[ZP (l:=data.drop (k*s)) (by rw[Z0r];omega),Vh]
end
end
