/- Places StoB STry -/
import Derived.Test.YtpokipdpjhookaaGreatDoorBTopRetires32
set_option maxHeartbeats 8000000
set_option maxRecDepth 20000
set_option linter.all false
namespace Go.Proofs
open Go Go.RowKit Tryz
variable {n:Nat} {c:Int}
def Xf (n:Nat):W_:=(List.range n).map fun i:Nat=>(i:Int)
theorem Z2t (n:Nat):(Xf n).length=n:=by simp[Xf]
theorem Zca (n:Nat):Xf (n+1)=Xf n++ [(n:Int)]:=by unfold Xf;rw[Wp];simp
theorem Z0b:c∈Xf n↔∃i:Nat,i<n∧c=(i:Int):=by unfold Xf;simp only[ZT,Ws];exact⟨fun⟨i,h,e⟩=>⟨i,h,e.symm⟩,fun⟨i,h,e⟩=>⟨i,h,e.symm⟩⟩
theorem ZbY (A:X_)(n c:Nat)(d:W_)(w:U1)(h:Sl w w 1 A n (d.map iv))(hn:0<n∧n≤64)(r:∀x∈d,0<x∧x≤512):
  Calls prog 77 #[.slice A n c] w fun e s=>∃a b,e=.returned (.tuple #[.slice a n b,.bool true])∧s.ownsRow w 3 1 (.slice a n b) n ((Xf n).map iv)∧Below w w s:=by
 obtain⟨t,y,z,B,J⟩:=info_parts VC;have C:d.length=n:=by have:=h.len;simpa using this
 have L:=Z h;have M:=Z r;have N:=Z C;clear h r C;go_enter func77,ntmps77;go_wp2;go_loopw [4,9] (fun v i wr=>∃(k:Nat) (a:X_) (b:Nat),k≤n∧i=.int .i64 (k:Int)∧v=.slice a k b∧Hid (wr.ownsRow w 3 1 (.slice a k b) k ((Xf k).map iv))∧Hid (Below w w wr)) (fun _ i _=>n-(intOf i).toNat)
 ·exact⟨0,none,0,Y,rfl,rfl,Z ⟨rfl,.inl ⟨rfl,rfl⟩⟩,Z (Z8 _ _)⟩
 ·obtain⟨k,a,b,hk,rfl,rfl,D,f⟩:=hrel;have O:=f.size;by_cases E:k<n
  ·have a3:(k:Int)<(n:Int):=Y;have j:k<d.length:=(by rw[N];exact E);obtain⟨be,oe,rfl,a4,P⟩:=(L.below f).get E (Xx d k j);obtain⟨x,l⟩:=Zb (d.getD k 0);have F:=M x (by rw[←l,Z6,Z7 j];exact Zp _);rw[l]at P;have a5:decide (x<0)=false:=decide_eq_false Y;have a6:decide (512<x)=false:=decide_eq_false Y;have a7:(0:Int)<x:=F.1;have Q:k+1≤maxLen:=(by unfold maxLen;omega);clear l F j;go_wp2_with (first
    | ((with_reducible refine Xk 24 ?_);refine wpList_plain rfl (fun K hK=>?_);refine WJ 22 3 (.tmp 23) rfl (.int .i64 (k:Int)) rfl rfl t _ underlying22 y z B rfl ?_;rintro g R m o p S;refine hK _ _ ?_;clear hK K;go_must (have T:=Z o);go_must (have U:=o.lt);go_must (have G:=Z (D.kept (ZB (show Below wr wr g by rw[m];exact p) none) (by cases (Value.slice a k b).ownBlock <;> simp)));go_must (have V:=Z (show Below wr wr g by rw[m];exact p));go_must (have a8:=(show wr.heap.size≤g.heap.size from Y));clear o p m S)
    | ((with_reducible refine Xk 25 ?_);go_must (refine Y5 rfl (.tmp 22) (.tmp 24) 22 rfl w 3 t _ 1 8 underlying22 y z B J rfl Y (.slice a k b) k _ rfl G g (some ⟨R,0,none⟩) 1 1 [iv (k:Int)] rfl (T.sl U (Z4 _)) (by simp[Value.oneCell',iv]) (k+1) rfl _ rfl Q Y Y ?_);intro W c4 w4 H I a0;go_must (have a1:=Z H);go_must (have a2:=Z I);clear H I a0)
    |fail)
   go_roundw;·exact⟨k+1,W,c4,Y,Zg,rfl,Z (by rw[Zca];simpa using a1.out),Z ((f.trans (V.mono O)).grown a2 Y (fun q hq=>(ZC G q hq).1))⟩
   ·exact Zh
  ·obtain rfl:k=n:=Y;have h1:(k:Int)≤64:=Y;have h2:(0:Int)<(k:Int):=Y;have h3:decide ((k:Int)≤64)=true:=decide_eq_true h1;have h4:decide ((0:Int)<(k:Int))=true:=decide_eq_true h2;go_wp2;go_ret2;exact⟨a,b,rfl,D,f⟩
theorem ZbS (s:ByteArray)(w:U1)(c:s.size≤281474976710656):Calls prog 98 #[.string s] w fun e a=>e=.returned (.string s)∧Below w w a:=by have b:=Any.stringslite_Clone ZhP s w c;change Calls prog 158 _ _ _ at b;go_enter func98,ntmps98;go_wp2_with fail;refine b.mono ?_;rintro e a ⟨rfl,d⟩;go_wp2;go_ret;exact⟨rfl,d⟩
theorem Z6n (O pg:Nat)(gd:Nat→Nat)(F:Nat→U0)(p:Pw)(fl:Nat→Option Dr)(m:Zd)(Q R:X_)(b T no U:Nat)(V:Z_)(w:U1)(h:SM w O pg gd F p fl m Q b T R no U V)(C:m.may=true):
  Calls prog 44 #[(O,())] w fun e W=>∃f j k l s,e=.returned (m.val (f,b,j) (k,no,l))∧OM w W m f b j k no l s∧Below w w W∧OMD f b j s no:=by
 have D:=Z0e C;have a8:b≤64:=by rw[←h.mani.now.dl];exact D.1
 have a9:no≤12:=by rw[←h.mani.now.o.len];exact D.2
 have t:Below w w (w.alloc (.cells #[Nat,Nat,Nat,Nat,Nat,Nat,(),()] 75)):=(Z8 _ _).alloc (Z4 _) _;have E:=Row.new w 75 #[Nat,Nat,Nat,Nat,Nat,Nat,(),()];have G:=h.new_ t;obtain⟨a,y⟩:∃g,w.heap.size=g:=⟨_,rfl⟩;rw[y]at E t;obtain⟨c0,c1,c2,c3,c4,c5,c6,c7⟩:=G.cells.1;have HM:=Z G.mani.now;have I:=Z E;have HA:=Z t;have HG:=Z y;have a4:=Z (show ∀e∈m.objs,e.tries.length≤1000 from fun e he=>Zc ((Z0i C he).tlen));rw[y];clear h G C D E t y;go_enter func44,ntmps44;go_upto_region 1 with fail;rw[HG];generalize (w.alloc (.cells #[Nat,Nat,Nat,Nat,Nat,Nat,(),()] 75))=w1 at HM I HA c0 c1 c2 c3 c4 c5 c6 c7 ⊢;have a0:=I.lt;have J:=Z5Q w1 m Q R b T no U V w1 HM (Z4 _) Y Y a4;unfold Zd.val at J;have HC:=Z J;clear J;go_wp2_with (go_at_call 96;go_must (refine HC.mono ?_);rintro e L ⟨f,j,k,l,s,rfl,a1,M,a2⟩;go_must (have a5:=Z a2);clear a2;go_must (have a6:=Z a1);go_must (have a3:=Z M);go_must (have r:=Z (I.below M a0));clear a1 M c0 c1 c2 c3 c4 c5 c6 c7;obtain⟨z0,z1,z2,z3,z4,z5,z6,z7⟩:=Row.c8 r;obtain⟨f0,f1,f2,f3,f4,f5,f6,f7⟩:=Wt r)
 obtain⟨wf,N⟩:∃x,((((((((L.setCell ⟨a,0,none⟩ (.int .i64 m.seq)).setCell ⟨a,1,none⟩ (.int .i64 m.next)).setCell ⟨a,2,none⟩ (.int .i64 m.P.K)).setCell ⟨a,3,none⟩ (.int .i64 m.P.H)).setCell ⟨a,4,none⟩ (.int .i64 m.P.S)).setCell ⟨a,5,none⟩ (.int .i64 m.extra)).setCell ⟨a,6,none⟩ (.slice f b j)).setCell ⟨a,7,none⟩ (.slice k no l))=x:=⟨_,rfl⟩;have z:Only (fun q=>q=a) L wf:=by rw[←N];exact(((((((((Only.refl (fun q=>q=a) L).set rfl 0 m.seq).set rfl 1 m.next).set rfl 2 m.P.K).set rfl 3 m.P.H).set rfl 4 m.P.S).set rfl 5 m.extra).set rfl 6 (f,b,j)).set rfl 7 (k,no,l))
 have a7:Row wf a 75 [m.seq,m.next,m.P.K,m.P.H,m.P.S,m.extra,(f,b,j),(k,no,l)]:=by rw[←N];have h9:=((((((((r.set 0 m.seq).set 1 m.next).set 2 m.P.K).set 3 m.P.H).set 4 m.P.S).set 5 m.extra).set 6 (f,b,j)).set 7 (k,no,l));simpa using h9
 rw[N];have aa:=a3.size;refine bodyPost_ret (v:= .agg #[m.seq,m.next,m.P.K,m.P.H,m.P.S,m.extra,(f,b,j),(k,no,l)]) (results_cell_row rfl _ _ a 75 #[m.seq,m.next,m.P.K,m.P.H,m.P.S,m.extra,(f,b,j),(k,no,l)] (0,0) _ rfl a7 rfl rfl (WK Z5v)) rfl ?_;have n:=a6.out;refine⟨f,j,k,l,s,rfl,⟨ZA (Zu n.d z (Yb n.d r Z5)) Y,n.dl,⟨ZA (Zu n.o.own z (Yb n.o.own r Z5)) Y,n.o.tl,fun i hi=>?_⟩,n.ol⟩,HA.trans ((a3.mono (X5 a0)).trans (z.below (B:=a) (fun q e=>Y) Y)),a5⟩;obtain⟨A,c,e1,e2⟩:=n.o.at_ i hi;exact⟨A,c,e1,ZA (Zu e2 z (Yb e2 r Z5)) Y⟩
theorem Zi7:(prog.info? 9).map (fun i=>(i.zero,i.size,i.bytes))=some (some (.string ⟨#[]⟩),1,16):=Zi
def VT (e:Zr):U2:= .string (Zn e.name)
theorem Zfs (t V:Nat)(W:Nat→Nat)(F:Nat→U0)(p:Pw)(fl:Nat→Option Dr)(m:Zd)(Ad Ao:X_)(nd cd no co:Nat)(ts:Z_)(w:U1)(h:SM w t V W F p fl m Ad nd cd Ao no co ts)(ad:p.off=false)(v:m.may=true):
  Calls prog 40 #[(t,())] w fun e w'=>∃c d,e=.returned (.slice c no d)∧w'.ownsRow w 9 1 (c,no,d) no (m.objs.map VT)∧Below w w w':=by
 obtain⟨is,a0,a1,a2,ae⟩:=info_parts Zi7;have hl:=Z0e v;have az:no≤12:=by rw[←h.mani.now.o.len];exact hl.2
 have HN:=Z (show ∀e∈m.objs,e.name.length≤12 from fun e he=>(Z0i v he).nlen.2);have a3:=Z h.mani.now.o.len;have y:=Z h;clear h v hl;go_enter func40,ntmps40;go_wp2_with fail;refine(Z53 t V W F p fl m Ad Ao nd cd no co ts w y ad).mono ?_;rintro e j ⟨rfl,f⟩;have af:=Z f;have z:=f.size;have c7:=(y.new_ f).cells.1.2.2.2.2.2.2.2;have ag:=Z (y.mani.now.o.below f);clear f;go_wp2_with fail;clear c7;go_loopw [3,14] (fun s3 i wr=>∃(k a:Nat) (b:X_),s3=.slice b k a∧k≤no∧i=.int .i64 (k:Int)∧Hid (wr.ownsRow j 9 1 (b,k,a) k ((m.objs.take k).map VT))∧Hid (Below j j wr)) (fun _ i _=>no-(intOf i).toNat)
 ·exact⟨0,0,none,rfl,Y,rfl,Z (Yi _ _ _ _),Z (Z8 _ _)⟩
 ·obtain⟨k,a,b,rfl,hk,rfl,A,l⟩:=hrel;have ah:=l.size;by_cases a4:k<no
  ·have aB:(k:Int)<(no:Int):=Y;have q:k<m.objs.length:=(by rw[a3];exact a4);obtain⟨be,oe,c,d,eA,aC,B,e1,e2,C,ai,aD,a5⟩:=(ag.below (l.mono z)).get a4;subst eA;have D:m.objs.getD k default∈m.objs:=(by rw[Z6,Z7 q];exact Zp _);have E:=ZR q;have G:m.objs[k]=m.objs.getD k default:=(by rw[Z6,Z7 q];rfl);obtain⟨x,hx⟩:=Zb (m.objs.getD k default);rw[hx]at G B e1 e2 C ai a5 D;rw[G]at E;have HQ:=Z (show(m.objs.take (k+1)).map VT=(m.objs.take k).map VT++ [.string (Zn x.name)] by rw[E];simp[VT]);have aj:=HN x D;have H:(Zn x.name).size≤281474976710656:=(by unfold Zn;show((x.name.map UInt8.ofBitVec).toArray).size≤_;simp;omega);obtain⟨s,hs⟩:=Zb (Zn x.name);rw[hs]at HQ H B;have ak:=Z H;obtain⟨I,a6⟩:∃n,x.tries.length=n:=⟨_,rfl⟩;rw[a6]at C;have J:Below wr wr (wr.alloc (.cells #[.string s,x.obj,x.len,(c,I,d)] 116)):=(Z8 _ _).alloc (Z4 _) _;have L:=Row.new wr 116 #[.string s,x.obj,x.len,(c,I,d)];obtain⟨g5,M⟩:∃g,wr.heap.size=g:=⟨_,rfl⟩;have a7:=A.kept (ZB J none) (by cases (Value.slice b k a).ownBlock <;> simp);have N:=Z (l.trans (J.mono ah));rw[M]at L;have a8:=Z L;have a9:=Z a7;have al:=Z M;clear J L a7 hx G D E a5 q M aj H hs a6;go_upto_region 7 with fail;rw[al];generalize (wr.alloc (.cells #[.string s,x.obj,x.len,(c,I,d)] 116))=wv at a8 a9 N ⊢;clear B e1 e2 C;have x0:=a8.cell 0;simp only[ZE]at x0;have am:=N.size;go_wp2_with fail;refine(ZbS s wv ak).mono ?_;rintro e r ⟨rfl,O⟩;have an:=Z (a9.kept (ZB O none) (by cases (Value.slice b k a).ownBlock <;> simp));have aa:=Z (N.trans (O.mono am));have ao:=aa.size;clear O x0;go_wp2_with (first
    | ((with_reducible show wpList _ _ _ (⟨some 22,_,_,_,_,_⟩::_) _ _);refine wpList_plain rfl (fun K hK=>?_);refine WJ 37 9 (.tmp 21) rfl (.string s) rfl rfl is _ underlying37 a0 a1 a2 rfl ?_;rintro P g7 Q R S ap;refine hK _ _ ?_;clear hK K;go_must (have aq:=Z R);go_must (have ar:=R.lt);go_must (have ab:=Z (an.kept (ZB (show Below r r P by rw[Q];exact S) none) (by cases (Value.slice b k a).ownBlock <;> simp)));go_must (have T:=Z (aa.trans ((show Below r r P by rw[Q];exact S).mono ao)));clear R S Q ap)
    | ((with_reducible show wpList _ _ _ (⟨some 23,_,_,_,_,_⟩::_) _ _);go_must (refine Y5 rfl (.tmp 18) (.tmp 22) 37 rfl j 9 is _ 1 16 underlying37 a0 a1 a2 ae rfl Y (b,k,a) k _ rfl ab P (some ⟨g7,0,none⟩) 1 1 [.string s] rfl (aq.sl ar (Z4 _)) (by simp[Value.oneCell']) (k+1) rfl _ rfl Y Y T.size ?_);intro A8 c8 w8 U ac av;go_must (have aw:=Z (Y9 T ab ac (Z4 _) T.size));rw[←HQ]at U;have ax:=Z U;clear U ac av))
   go_roundw;·exact⟨k+1,_,_,rfl,Y,Zg,ax,aw⟩
   ·exact Zh
  ·obtain rfl:k=no:=Y;have ay:m.objs.take k=m.objs:=(by rw[←a3];exact Xm);rw[ay]at A;go_wp2;go_ret;exact⟨_,_,rfl,ZA A z,af.trans (l.mono z)⟩
theorem Z68 (P:Zf)(s:BitVec 32):(Yh (P.K.toNat+P.H.toNat) (Y6 P.K.toNat P.H.toNat s.toNat (List.range P.K.toNat))).1=P.K.toNat+P.H.toNat↔Z03 P s:=
 Z2M (Z4 _) (Z3C _ _ _ _)
def Z1V (p:Zf) (o b:Int):Prop:=∀t:Nat,t<16→¬Z03 p (Wm o b (t:Int))
theorem Zh9 (p:Zf)(m:p.Ok)(o b:Int)(w:U1):
  Calls prog 134 #[p.val,o,b] w fun e d=>∃(t:Int) (a:Bool),e=.returned (.tuple #[t,.bool a])∧(a=true→0≤t∧t<16∧Z03 p (Wm o b t))∧(a=false→Z1V p o b)∧Below w w d:=by
 have r:=m;unfold Zf.Ok at r;have I:=Z m;have J:=Z (show p.K=(p.K.toNat:Int) from Y);have L:=Z (show p.H=(p.H.toNat:Int) from Y);have f:=Z (Ye.new w p 25);have s:Below w w (w.alloc (.cells #[p.K,p.H,p.S] 25)):=(Z8 _ _).alloc (Z4 _) _;have l:=Z s;obtain⟨Q,n⟩:∃g,w.heap.size=g:=⟨_,rfl⟩;rw[n]at f;have M:=Z n;clear m n s r;unfold Zf.val;go_enter func134,ntmps134;go_upto_region 1 with fail;rw[M];generalize (w.alloc (.cells #[p.K,p.H,p.S] 25))=w1 at f l ⊢;have x:=l.size;go_wp2;go_loopw [9] (fun i wr=>∃k:Nat,k≤16∧i=.int .i64 (k:Int)∧Hid (∀t:Nat,t<k→¬Z03 p (Wm o b (t:Int)))∧Hid (Below w1 w1 wr)) (fun i _=>16-(intOf i).toNat)
 ·exact⟨0,Y,rfl,Z (fun t h=>absurd h Y),Z (Z8 _ _)⟩
 ·obtain⟨t,R,rfl,z,c⟩:=hrel;have A:=c.size;by_cases T:t<16
  ·have U:(t:Int)<16:=Y;have B:=Z (Ye.keep f c f.lt);have N:=B.lt;obtain⟨a,C⟩:∃a,decide ((Yh (p.K.toNat+p.H.toNat) (Y6 p.K.toNat p.H.toNat (Wm o b (t:Int)).toNat (List.range p.K.toNat))).1=p.K.toNat+p.H.toNat)=a:=⟨_,rfl⟩;have q:=Z C;clear C;go_upto_region 4 with fail;go_cut [17] (fun O wy=>O=.bool a∧Hid (Below wr wr wy));·refine oS [] (fun d=>Below wr wr d) [0,1,2,3,4,5] (bq_ (Z8 _ _) 1) fun hS=>?_;refine oC (y:=fun w hSw=>by obtain⟨V,W,q2⟩:=Ye.keep B hSw N;exact Y4) (h:= ?_);(iterate 3 refine oV ?_);refine oC (v:= ?_) (y:=fun w hSw=>by refine Pure.call 94 #[o,b,(t:Int)] (by go_simp;first|done|rfl) ?_;refine(Z3Z o b (t:Int) w).mono ?_;rintro e d ⟨rfl,rfl⟩;refine⟨?_,rfl⟩;with_reducible rfl) (h:= ?_);refine oG fun K hK=>?_;go_simp;go_at_call 197;refine(Z7S p I p.K.toNat p.H.toNat J L (Wm o b (t:Int)).toNat a _ (Wm o b (t:Int)).isLt q).mono ?_;rintro e w6 ⟨rfl,D⟩;have P:=hS.trans (D.mono hS.size);clear D;go_wp2_with fail;refine oK hK P fun hS=>?_;refine oD ?_;go_wp2;go_meet;exact⟨rfl,Z hS⟩
   case rest=>
   obtain⟨rfl,E⟩:=hcut;generalize wc=w5 at*;cases a with
   |true=>go_wp2;go_ret2;exact⟨(t:Int),true,rfl,fun _=>⟨Y,Y,(Z68 _ _).1 (of_decide_eq_true q)⟩,fun h=>absurd h Z5,l.trans ((c.trans (E.mono A)).mono x)⟩
   |false=>
    go_wp2;go_roundw
    ·exact⟨t+1,Y,Zg,Z (fun j hj F=>by
     rcases Yf j t with G|G;·exact z j G F
     ·obtain rfl:j=t:=Y;exact absurd ((Z68 _ _).2 F) (of_decide_eq_false q)),Z (c.trans (E.mono A))⟩
    ·exact Zh
  ·obtain rfl:t=16:=Y;go_wp2;go_ret2;exact⟨0,false,rfl,fun h=>absurd h Z5,fun _=>z,l.trans (c.mono x)⟩
theorem ZdE (p:Zf)(E:p.Ok)(o:Int)(n:Nat)(hn:n≤8)(w:U1):
  Calls prog 81 #[p.val,o,(n:Int)] w fun e r=>(∃v,e=.returned (.tuple #[v,.bool false])∧(∃i:Nat,i<n∧Z1V p o (i:Int))∧Below w w r)∨∃(A:X_) (c:Nat) (a:W_),e=.returned (.tuple #[(A,n,c),.bool true])∧a.length=n∧(∀i,i<n→0≤a.getD i 0∧a.getD i 0<16∧Z03 p (Wm o (i:Int) (a.getD i 0)))∧r.ownsRow w 3 1 (A,n,c) n (a.map iv)∧Below w w r:=by
 obtain⟨F,G,I,J,a0⟩:=info_parts VC;have HP:=Z E;have f:=Z (Ye.new w p 25);have L:Below w w (w.alloc (.cells #[p.K,p.H,p.S] 25)):=(Z8 _ _).alloc (Z4 _) _;have j:=Z L;obtain⟨gp,s⟩:∃g,w.heap.size=g:=⟨_,rfl⟩;rw[s]at f;have a1:=Z s;clear E s L;unfold Zf.val;go_enter func81,ntmps81;go_upto_region 1 with fail;rw[a1];generalize (w.alloc (.cells #[p.K,p.H,p.S] 25))=w1 at f j ⊢;have x:=j.size;go_wp2;go_loopw [8,13] (fun v i wr=>∃(k:Nat) (A:X_) (c:Nat) (a:W_),k≤n∧i=.int .i64 (k:Int)∧v=.slice A k c∧a.length=k∧Hid (∀i,i<k→0≤a.getD i 0∧a.getD i 0<16∧Z03 p (Wm o (i:Int) (a.getD i 0)))∧Hid (wr.ownsRow w1 3 1 (A,k,c) k (a.map iv))∧Hid (Below w1 w1 wr)) (fun _ i _=>n-(intOf i).toNat)
 ·exact⟨0,none,0, [],Y,rfl,rfl,rfl,Z (fun i M=>absurd M Y),Z ⟨rfl,.inl ⟨rfl,rfl⟩⟩,Z (Z8 _ _)⟩
 ·obtain⟨k,A,c,a,hk,rfl,rfl,y,N,O,b⟩:=hrel;have P:=b.size;have a2:=Z (Ye.keep f b f.lt);obtain⟨q0,q1,q2⟩:=a2;by_cases a3:k<n
  ·have ah:(k:Int)<(n:Int):=Y;have z:=Zh9 p HP o (k:Int) wr;unfold Zf.val at z;have a4:=Z z;clear z;go_upto_region 5 with fail;go_wp2_with fail;refine a4.mono ?_;rintro e d ⟨t,ok,rfl,Q,R,l⟩;have a5:=Z Q;have a6:=Z R;have T:=Z l;have a7:=Z (O.kept (ZB l none) (by cases (Value.slice A k c).ownBlock <;> simp));have ai:=l.size;clear Q R l q0 q1 q2;cases ok with
   |false=>go_wp2;go_ret2;exact .inl ⟨_,rfl,⟨k,a3,by simpa using a6.out⟩,j.trans ((b.trans (T.mono P)).mono x)⟩
   |true=>
    have a8:k+1≤maxLen:=(by unfold maxLen;omega);go_wp2_with (first
     | ((with_reducible show wpList _ _ _ (⟨some 27,_,_,_,_,_⟩::_) _ _);refine wpList_plain rfl (fun K hK=>?_);refine WJ 22 3 (.tmp 26) rfl t rfl rfl F _ underlying22 G I J rfl ?_;rintro m g3 B C D a9;refine hK _ _ ?_;clear hK K;go_must (have aa:=Z C);go_must (have ab:=C.lt);go_must (have U:=Z (a7.kept (ZB (show Below d d m by rw[B];exact D) none) (by cases (Value.slice A k c).ownBlock <;> simp)));go_must (have ac:=Z (show Below d d m by rw[B];exact D));go_must (have aj:=(show d.heap.size≤m.heap.size from Y));clear C D B a9)
     | ((with_reducible show wpList _ _ _ (⟨some 28,_,_,_,_,_⟩::_) _ _);go_must (refine Y5 rfl (.tmp 25) (.tmp 27) 22 rfl w1 3 F _ 1 8 underlying22 G I J a0 rfl Y (A,k,c) k _ rfl U m (some ⟨g3,0,none⟩) 1 1 [iv t] rfl (aa.sl ab (Z4 _)) (by simp[Value.oneCell',iv]) (k+1) rfl _ rfl a8 Y Y ?_);intro A4 c4 w4 V W ad;go_must (have ae:=Z V);go_must (have af:=Z W);clear V W ad)
     |fail)
    go_roundw
    ·have ag:Below w1 w1 w4:=((b.trans (T.mono P)).trans (ac.mono Y)).grown af Y (fun q hq=>(ZC U q hq).1);refine⟨k+1,A4,c4,a++ [t],Y,Zg,rfl,by simp[y],Z (fun i M=>?_),Z (by simpa using ae.out),Z ag⟩;by_cases h:i<k;·rw[Z6,Yp Y,←Z6];exact N i h
     ·obtain rfl:i=k:=Y;rw[Z6,Y7 Y,y];simpa using a5.out
    ·exact Zh
  ·obtain rfl:k=n:=Y;go_wp2;go_ret2;exact .inr ⟨A,c,a,rfl,y,N,ZA O x,j.trans (b.mono x)⟩
