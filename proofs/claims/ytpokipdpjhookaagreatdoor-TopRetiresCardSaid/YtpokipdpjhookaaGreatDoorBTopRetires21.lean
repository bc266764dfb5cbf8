/- RdEnt OwnMani May Pack WayOrd Dj ManiEdit SameMani -/
import Derived.Shelf.SlSortCmp.WholeK
import Derived.Deep.CutBlock
import Derived.Test.YtpokipdpjhookaaGreatDoorBTopRetires16
import Derived.Test.YtpokipdpjhookaaGreatDoorBTopRetires17
set_option maxHeartbeats 8000000
set_option maxRecDepth 20000
set_option linter.all false
namespace Go.Proofs
open Go Go.RowKit Tryz
variable {w v:World} {n m k i:Nat} {A:Option Addr} {r:List Byte} {l:List Value} {x:Value}
theorem ZgI {P:Program}{c:Nat}(f g e:TypeId)(l:P.underlying f=some (.slice e))(p:P.underlying e=some (.int .u8))(q:P.underlying g=some .string)(h:Sl w n 1 A m (r.map Za)):
  (convert f g (A,m,c)).run P w=.ok (.string (Zn r)) w:=by
 have s:r.length=m:=by have:=h.len;simpa using this
 rcases A with _|a
 ·have d:m=0:=by
   rcases VG m with d|d;·exact d
   ·obtain⟨_,_,y,_⟩:=h.at_ d;cases y
  subst d;have:r=[]:=V3 s;subst this;exact run_convert_bytes_nil w f e l p 0 c g q
 ·rw[run_convert_bytes_string w f g e (some a) m c l p q];have i:=run_loadCells_list (P:=P) w a ((r.map (fun b:Byte=>(b.toNat:Int))).map (Value.int .u8)) (fun j v t=>by have C:j<r.length:=(by have:=(Z4m.1 t).1;simpa using this);obtain⟨b,o,k,_,z⟩:=h.at_ Y;injection k with k;subst k;rw[addr_add];refine z j v ?_;rw[←t,WS];rfl);simp only[Zz]at i;rw[s]at i;rw[run_bytesToString w a m c _ i,foldl_push_bytes];congr 2;unfold Zn;congr 1;have B:ByteArray.empty.data= #[]:=rfl;rw[B,Array.empty_append,WS];congr 1;apply Z1O;intro x _;apply UInt8.toNat_inj.1;have:=x.isLt;simp
section
theorem Zbj:(prog.info? 116).map (fun i=>(i.zero,i.size,i.bytes))=some (some (.agg #[.string ⟨#[]⟩,Nat,Nat,()]),4,56):=Zi
structure XM (base:Nat) (w:World) (v:Value) (ts:List Value) (es:List Zr):Prop where
 own:w.ownsRow base 116 4 v es.length (YJ es ts)
 tl:ts.length=es.length
 at_:∀i,i<es.length→∃A c,ts.getD i undef=.slice A (es.getD i default).tries.length c∧w.ownsRow base 3 1 (.slice A (es.getD i default).tries.length c) (es.getD i default).tries.length ((es.getD i default).tries.map iv)
section
variable {base:Nat} {w w':U1} {v v':U2} {ts:Z_} {es:List Zr}
theorem XM.nil_ (base:Nat)(w:U1):XM base w () [] []:=⟨Yi _ _ _ _,rfl,fun i a=>absurd a Ze⟩
theorem XM.below (h:XM base w v ts es)(a:Below w w w'):XM base w' v ts es:=
 ⟨h.own.kept (ZB a none) (by cases v.ownBlock <;> simp),h.tl,fun i b=>by obtain⟨A,c,e,d⟩:=h.at_ i b;exact⟨A,c,e,d.kept (ZB a none) (by cases (Value.slice A _ c).ownBlock <;> simp)⟩⟩
theorem XM.other {g:Nat}{t:TypeId}{f:Z_}(h:XM base w v ts es)(a:w.grownBy w' (some g))(b:Row w g t f)(j:116≠t)(k:3≠t):XM base w' v ts es:=
 ⟨h.own.kept a (own_ne h.own b j),h.tl,fun i l=>by obtain⟨A,c,e,d⟩:=h.at_ i l;exact⟨A,c,e,d.kept a (own_ne d b k)⟩⟩
theorem XM.push {tv:U2}{x:Zr}(h:XM base w v ts es){A:X_}{c:Nat}(b:tv=.slice A x.tries.length c)(d:w.ownsRow base 3 1 tv x.tries.length (x.tries.map iv))
  (j:w'.ownsRow base 116 4 v' (es.length+1) (YJ es ts++x.cells tv)) (f:w.grownBy w' v.ownBlock):XM base w' v' (ts++ [tv]) (es++ [x]):=by
 refine⟨by rw[Z65 x tv es ts h.tl.symm];simpa using j,by simp[h.tl],fun i k=>?_⟩;simp only[Zw,Z05]at k;by_cases a:i<es.length;·rw[Z6,Z6,Yp (h.tl ▸ a),Yp a,←Z6,←Z6];obtain⟨l,m,e,g⟩:=h.at_ i a;exact⟨l,m,e,g.kept f (YF g h.own Z5)⟩
 ·have n:i=es.length:=Y;subst n;rw[Z6,Z6,Y7 (by rw[h.tl];exact Z4 _),Y7 (Z4 _),h.tl];simp only[W9,ZE,Yz];exact⟨A,c,b,by rw[←b];exact d.kept f (YF d h.own Z5)⟩
theorem XM.read {A:X_}{n c:Nat}(h:XM base w (A,n,c) ts es)(d:es.length=n):V8 w w A n ts es:=by subst d;refine⟨Sl.own h.own,rfl,h.tl,fun i f=>?_⟩;obtain⟨g,j,e,a⟩:=h.at_ i f;have b:=Z1k a;exact⟨g,j,e,b.1,b.2,Sl.own a⟩
end
structure OM (base:Nat) (w:World) (m:Zd) (Ad:Option Addr) (nd cd:Nat) (Ao:Option Addr) (no co:Nat) (ts:List Value):Prop where
 d:w.ownsRow base 3 1 (.slice Ad nd cd) nd (m.drives.map iv)
 dl:m.drives.length=nd
 o:XM base w (.slice Ao no co) ts m.objs
 ol:m.objs.length=no
theorem OM.read {base:Nat}{w:U1}{m:Zd}{a b:X_}{c e no f:Nat}{ts:Z_}(h:OM base w m a c e b no f ts):RM w w m a c e b no f ts:=by refine⟨Sl.own h.d,h.dl,Z1k h.d,h.o.read h.ol,?_⟩;have:=h.o.own;rw[h.ol]at this;exact Z1k this
theorem OM.below {base:Nat}{w w':U1}{m:Zd}{a e:X_}{b c no f:Nat}{ts:Z_}(h:OM base w m a b c e no f ts)(g:Below w w w'):OM base w' m a b c e no f ts:=
 ⟨h.d.kept (ZB g none) (by cases (Value.slice a b c).ownBlock <;> simp),h.dl,h.o.below g,h.ol⟩
end
theorem Z7H:∀(a b:List UInt8),(!Op.bytesLess a b)=(Op.bytesLess b a ||b==a)
 | [], []=>rfl
 | [],_::_=>rfl
 |_::_, []=>rfl
 |x::a,y::b=>by
  have g:=Z7H a b;unfold Op.bytesLess;have i:(y::b==x::a)=(y==x && b==a):=rfl;rw[i];rcases Nat.lt_trichotomy x.toNat y.toNat with h|h|h;·have f:x<y:=UInt8.lt_iff_toNat_lt.2 h;have d:¬y<x:=fun c=>Zc (UInt8.lt_iff_toNat_lt.1 c);have c:(y==x)=false:=(by rw[beq_eq_false_iff_ne];intro e;rw[e]at h;omega);simp[f,d,c]
  ·have e:x=y:=UInt8.toNat_inj.1 h;subst e;have d:¬x<x:=fun c=>Zc (UInt8.lt_iff_toNat_lt.1 c);simp[d,g]
  ·have f:y<x:=UInt8.lt_iff_toNat_lt.2 h;have d:¬x<y:=fun c=>Zc (UInt8.lt_iff_toNat_lt.1 c);have c:(x==y)=false:=(by rw[beq_eq_false_iff_ne];intro e;rw[e]at h;omega);simp[f,d,c]
theorem Z70 (m:Zd)(B:Nat)(I Ao:X_)(J L no F:Nat)(ts:Z_)(b:Bool)(w:U1)(h:RM w B m I J L Ao no F ts)(N:B≤w)(aJ:M64 m)(aK:∀e∈m.objs,e.name.length≤1048576)(f:m.may=b):
  Calls prog 104 #[m.val (I,J,L) (Ao,no,F)] w fun e a=>e=.returned (.bool b)∧Below w w a:=by
 have HB:=Z f;obtain⟨b1,aj⟩:∃q,decide (1≤m.seq∧m.seq≤2147483647)=q:=⟨_,rfl⟩;obtain⟨b2,ak⟩:∃q,decide (0≤m.next∧m.next≤16777216)=q:=⟨_,rfl⟩;obtain⟨b3,al⟩:∃q,m.P.may=q:=⟨_,rfl⟩;obtain⟨b4,am⟩:∃q,decide (0≤m.extra∧m.extra≤16)=q:=⟨_,rfl⟩;obtain⟨b5,an⟩:∃q,VR m.drives 63=q:=⟨_,rfl⟩;have aL:b=((b1 && (b2 && (b3 && b4))) && (b5 && (decide (no≤12) && (List.range no).all (Z0G m)))):=by rw[←f];unfold Zd.may preB;rw[aj,ak,al,am,an,h.o.len]
 have HA:=Z aL;have H1:=Z aj;have H2:=Z ak;have H3:=Z al;have H4:=Z am;have bc:=Z an;have HR:=h;have bd:=aJ;have be:=Z aK;have br:=h.dl;have bs:=h.dc;have bt:=h.oc;have bf:=Z01.new w 75 m (I,J,L) (Ao,no,F);have a5:Below w w (w.alloc (Z1l 75 m (I,J,L) (Ao,no,F))):=(Z8 _ _).alloc (Z4 _) _;obtain⟨P,ao⟩:=Zb m.P;have bg:=Z ao;have bh:=Z (show Zf.val P=.agg #[m.P.K,m.P.H,m.P.S] by rw[←ao];rfl);clear aL aj ak al am an f h aJ aK ao;unfold Zd.val;go_enter func104,ntmps104;obtain⟨l,r,s,t,v,z,A,C⟩:=bf;go_wp2_with fail;generalize w.alloc (Z1l 75 m (I,J,L) (Ao,no,F))=w2 at*;have aM:=a5.size;refine(Z1e m.seq 1 2147483647 b1 w2 H1).mono ?_;rintro e R ⟨rfl,a6⟩;rw[←a6];clear a6 R;cases b1 with
 |false=>
  have f:b=false:=by rw[HA];rfl
  subst f;go_wp2;go_ret;exact⟨rfl,a5⟩
 |true=>
 go_wp2_with fail;refine(Z1e m.next 0 16777216 b2 w2 H2).mono ?_;rintro e R ⟨rfl,a6⟩;rw[←a6];clear a6 R;cases b2 with
 |false=>
  have f:b=false:=by rw[HA];rfl
  subst f;go_wp2;go_ret;exact⟨rfl,a5⟩
 |true=>
 go_wp2_with fail;rw[←bh];refine(V9 P b3 w2 (bg ▸ H3)).mono ?_;rintro e R ⟨rfl,g⟩;replace l:=ZF g l;replace r:=ZF g r;replace s:=ZF g s;replace t:=ZF g t;replace v:=ZF g v;replace z:=ZF g z;replace A:=ZF g A;replace C:=ZF g C;have a1:=a5.trans (g.mono aM);have aO:=a1.size;clear g a5 aM;cases b3 with
 |false=>
  have f:b=false:=by rw[HA];rfl
  subst f;go_wp2;go_ret;exact⟨rfl,a1⟩
 |true=>
 go_wp2_with fail;refine(Z1e m.extra 0 16 b4 R H4).mono ?_;rintro e E ⟨rfl,aP⟩;rw[←aP];clear aP E;cases b4 with
 |false=>
  have f:b=false:=by rw[HA];rfl
  subst f;go_wp2;go_ret;exact⟨rfl,a1⟩
 |true=>
 have a7:=HR.below (a1.mono N);have aQ:=a7.d;go_wp2_with fail;refine(ZfB B I m.drives J L 63 b5 R aQ Y bc).mono ?_;rintro e E ⟨rfl,dd,rfl⟩;have g:=bq_ (Z8 R R) dd;replace l:=ZF g l;replace r:=ZF g r;replace s:=ZF g s;replace t:=ZF g t;replace v:=ZF g v;replace z:=ZF g z;replace A:=ZF g A;replace C:=ZF g C;have ad:=a1.trans (g.mono aO);have bi:=ad.size;clear g a1 aO aQ a7;generalize R.drewN dd=E at*;cases b5 with
 |false=>
  have f:b=false:=by rw[HA];rfl
  subst f;go_wp2;go_ret;exact⟨rfl,ad⟩
 |true=>
 by_cases bv:12<no
 ·have f:b=false:=by rw[HA,decide_eq_false (show ¬no≤12 from Y)];rfl
  subst f;go_wp2;go_ret;exact⟨rfl,ad⟩
 have f:b=(List.range no).all (Z0G m):=by rw[HA,decide_eq_true (show no≤12 from Y)];rfl
 have a8:=Z f;have ap:=H2.out;rw[decide_eq_true_eq]at ap;have bj:=Z ap;clear f ap;go_wp2;go_loopw [40] (fun i wr=>∃k:Nat,k≤no∧i=.int .i64 k∧Below E E wr∧Hid (∀j,j<k→Z0G m j=true)) (fun i _=>no-(intOf i).toNat)
 ·exact⟨0,ZY _,rfl,Z8 _ _,Z (fun j hj=>absurd hj Y)⟩
 ·obtain⟨k,hk,rfl,G,HK⟩:=hrel;have aR:=G.size;have ae:=ad.trans (G.mono bi);have aq:=ae.size;by_cases a2:k<no
  ·have a7:=HR.below (ae.mono N);have a9:=a7.o;obtain⟨O,o,U,V,rfl,W,e0,e1,e2,e3,aT,bw,ar⟩:=a9.get a2;have av:0<k→wr.cell? (O,o+(k-1)*4)=some (.string (Zn (VQ m (k-1)).name)):=fun h0=>by obtain⟨b2,o2,_,_,e,_,h2,_⟩:=a9.get (k:=k-1) Y;injection e with e;injection e with e1 e2;subst e1 e2;exact h2
   have aw:m.objs.getD k default∈m.objs:=(by have:k<m.objs.length:=(by rw[a9.len];exact a2);rw[Z6,Z7 this];exact Zp _);have ax:=be _ aw;have ay:=bd.objs _ aw;have a3:=a9.take hk;obtain⟨x,hx⟩:=Zb (m.objs.getD k default);have HX:=Z (show VQ m k=x from hx);rw[hx]at e0 e1 e2 e3 aT ar ax ay;obtain⟨nt,az⟩:∃n,x.tries.length=n:=⟨_,rfl⟩;rw[az]at e3 aT ar;have aU:=Z az;obtain⟨y,hy⟩:=Zb ((VQ m (k-1)).name);have HY:=Z hy;rw[hy]at av;obtain⟨p1,aB⟩:∃q,V6 m x=q:=⟨_,rfl⟩;have af:=Z aB;obtain⟨p3,aC⟩:∃q,(m.objs.take k).all (fun y=> !decide (y.obj=x.obj))=q:=⟨_,rfl⟩;have aV:=Z aC;have aW:Z0G m k=(p1 && ((decide (k=0) ||Xh y x.name) && p3)):=(by unfold Z0G;rw[HX,aB,HY,aC]);have a4:=Z aW;replace l:=(G.cell (p:=w) (YC E _ l)).trans l;replace r:=(G.cell (p:=⟨w.heap.size,1,none⟩) (YC E _ r)).trans r;replace s:=(G.cell (p:=⟨w.heap.size,2,none⟩) (YC E _ s)).trans s;replace t:=(G.cell (p:=⟨w.heap.size,3,none⟩) (YC E _ t)).trans t;replace v:=(G.cell (p:=⟨w.heap.size,4,none⟩) (YC E _ v)).trans v;replace z:=(G.cell (p:=⟨w.heap.size,5,none⟩) (YC E _ z)).trans z;replace A:=(G.cell (p:=⟨w.heap.size,6,none⟩) (YC E _ A)).trans A;replace C:=(G.cell (p:=⟨w.heap.size,7,none⟩) (YC E _ C)).trans C;have bk:=Z0H.new wr 116 x (U,nt,V);have D:=(Z8 wr wr).alloc (Z4 _) (Z1r 116 x (U,nt,V));obtain⟨f0,f1,f2,f3⟩:=bk;have ag:=D.size;have ah:=fun h0=>ZF D (av h0);have b0:=(a3.below (D.mono (Zj N aq)));have bl:=Z ax;have bm:=Z ay;clear aW aB aC hx az ax ay a9 a7 aw a3 av hy;go_wp2_with fail;generalize wr.alloc (Z1r 116 x (U,nt,V))=wx at*;replace l:=ZF D l;replace r:=ZF D r;replace s:=ZF D s;replace t:=ZF D t;replace v:=ZF D v;replace z:=ZF D z;replace A:=ZF D A;replace C:=ZF D C;have b6:=D;have aa:=ae.trans (D.mono aq);have Q:=aa.size;have bn:=(ar.below (D.mono (Zj N aq)));have ab:=Z (fun(b':Bool) (bo:V6 m x=b') (a:U1) (b7:Below wx.heap.size wx a)=>ZeD m x B I (some ⟨O,o,none⟩) U J L no F nt V b' a (bn.below (b7.mono (Zj N Q))) (Zj (Zj N Q) b7.size) aU Y bl H3 bj bm.2.1 bo);unfold Zd.val Zr.val at ab;rw[aU]at*;clear e0 e1 e2 e3 D;cases p1 with
   |false=>have f:b=false:=(by rw[a8];exact Z36 a2 (by rw[a4,Bool.false_and]));subst f;clear ah;refine ZG.begin (S:=(fun a=>a.cell? ⟨w.heap.size,0,none⟩=some (.int .i64 m.seq)∧a.cell? ⟨w.heap.size,1,none⟩=some (.int .i64 m.next)∧a.cell? ⟨w.heap.size,2,none⟩=some (.int .i64 m.P.K)∧a.cell? ⟨w.heap.size,3,none⟩=some (.int .i64 m.P.H)∧a.cell? ⟨w.heap.size,4,none⟩=some (.int .i64 m.P.S)∧a.cell? ⟨w.heap.size,5,none⟩=some (.int .i64 m.extra)∧a.cell? ⟨w.heap.size,6,none⟩=some (.slice I J L)∧a.cell? ⟨w.heap.size,7,none⟩=some (.slice (some ⟨O,o,none⟩) no F)∧a.cell? ⟨wr.heap.size,0,none⟩=some (.string (Zn x.name))∧a.cell? ⟨wr.heap.size,1,none⟩=some (.int .i64 x.obj)∧a.cell? ⟨wr.heap.size,2,none⟩=some (.int .i64 x.len)∧a.cell? ⟨wr.heap.size,3,none⟩=some (.slice U nt V)∧Below wx wx a)) [0,1,2,3,4,5,6,7,8,9,10,11,12,13,14,15,16,17,18,19] Zi (H12.drew ⟨l,r,s,t,v,z,A,C,f0,f1,f2,f3,Z8 _ _⟩) (fun hS=>?_);(iterate 2 (refine ZG.yV hS ?_;try simp only[bS,bN,bA,bY,bX]));refine ZG.gA fun K hK=>?_;have c:=H12.below hS;go_simp;go_at_call 178;refine(ab false af _ c).mono ?_;rintro e a ⟨rfl,W⟩;go_wp2;refine hK _ _ (H12.keep W hS) (fun M=>?_);clear c;clear hK K hS;have hS:=M;clear M;(try simp only[bS,bN,bA,bY,bX]);(iterate 2 (refine ZG.yV hS ?_;try simp only[bS,bN,bA,bY,bX]));(iterate 14 (refine ZG.nA hS ?_;try simp only[bS,bN,bA,bY,bX]));(refine ZG.yV hS ?_;try simp only[bS,bN,bA,bY,bX]);refine ZG.done Zi ?_;have a0:=hS;have c:=H12.below hS;clear hS;have T:=aa.trans (c.mono Q);clear l r s t v z A C f0 f1 f2 f3;clear a0;go_wp2;go_ret;exact⟨rfl,T⟩
   |true=>
   by_cases b9:k=0
   ·subst b9;clear ah;refine ZG.begin (S:=(fun a=>a.cell? ⟨w.heap.size,0,none⟩=some (.int .i64 m.seq)∧a.cell? ⟨w.heap.size,1,none⟩=some (.int .i64 m.next)∧a.cell? ⟨w.heap.size,2,none⟩=some (.int .i64 m.P.K)∧a.cell? ⟨w.heap.size,3,none⟩=some (.int .i64 m.P.H)∧a.cell? ⟨w.heap.size,4,none⟩=some (.int .i64 m.P.S)∧a.cell? ⟨w.heap.size,5,none⟩=some (.int .i64 m.extra)∧a.cell? ⟨w.heap.size,6,none⟩=some (.slice I J L)∧a.cell? ⟨w.heap.size,7,none⟩=some (.slice (some ⟨O,o,none⟩) no F)∧a.cell? ⟨wr.heap.size,0,none⟩=some (.string (Zn x.name))∧a.cell? ⟨wr.heap.size,1,none⟩=some (.int .i64 x.obj)∧a.cell? ⟨wr.heap.size,2,none⟩=some (.int .i64 x.len)∧a.cell? ⟨wr.heap.size,3,none⟩=some (.slice U nt V)∧Below wx wx a)) [0,1,2,3,4,5,6,7,8,9,10,11,12,13,14,15,16,17,18,19] Zi (H12.drew ⟨l,r,s,t,v,z,A,C,f0,f1,f2,f3,Z8 _ _⟩) (fun hS=>?_);(iterate 2 (refine ZG.yV hS ?_;try simp only[bS,bN,bA,bY,bX]));refine ZG.gA fun K hK=>?_;have c:=H12.below hS;go_simp;go_at_call 178;refine(ab true af _ c).mono ?_;rintro e a ⟨rfl,W⟩;go_wp2;refine hK _ _ (H12.keep W hS) (fun M=>?_);clear c;clear hK K hS;have hS:=M;clear M;(try simp only[bS,bN,bA,bY,bX]);(iterate 5 (refine ZG.yV hS ?_;try simp only[bS,bN,bA,bY,bX]));(iterate 10 (refine ZG.nA hS ?_;try simp only[bS,bN,bA,bY,bX]));(iterate 2 (refine ZG.yV hS ?_;try simp only[bS,bN,bA,bY,bX]));refine ZG.done Zi ?_;have a0:=hS;have c:=H12.below hS;clear hS;have T:=aa.trans (c.mono Q);clear l r s t v z A C f0 f1 f2 f3;obtain⟨q0,q1,q2,q3,q4,q5,q6,q7,q8,q9,aD,aE,_⟩:=a0;(try dsimp only at q0 q1 q2 q3 q4 q5 q6 q7 q8 q9 aD aE);have a3:=b0.below (c.mono (Zj N Q));have aF:=T.size;go_wp2_with fail;refine(Z8j wx (some ⟨O,o,none⟩) 0 F (ts.take 0) (m.objs.take 0) wr.heap.size x.obj p3 _ (a3.mono (Zj N Q)) c.size Y (by assumption) aV).mono ?_;rintro e w6 ⟨rfl,ac⟩;have aG:=T.trans (ac.mono aF);have aH:=G.trans (((b6.trans (c.mono ag)).trans (ac.mono (Zj ag c.size))).mono aR);cases p3 with
    |false=>have f:b=false:=(by rw[a8];exact Z36 a2 (by rw[a4];simp));subst f;go_wp2;go_ret;exact⟨rfl,aG⟩
    |true=>
     have hs:Z0G m 0=true:=(by rw[a4];rfl);have HS:=Z hs;clear hs;go_wp2;go_roundw
     ·exact⟨0+1,Y,by first|rfl|go_num,aH,Z (fun j hj=>by
      rcases Yf j 0 with h|h;·exact HK j h
      ·have e:j=0:=Y;rw[e];exact HS)⟩
     ·exact Zh
   ·have ai:=ah Y;have bx:(0:Int)<(k:Int):=Y;have bz:0<k:=Y;have bB:(0:Int)≤(k:Int)-1:=Y;have ba:IntKind.i64.wrap ((k:Int)-1)=((k-1:Nat):Int):=(by rw[Xe];omega);have bC:(0:Int)≤((k-1:Nat):Int):=Y;have bD:((k-1:Nat):Int)<(no:Int):=Y;clear ah;obtain⟨ls,aI⟩:∃q,Xh y x.name=q:=⟨_,rfl⟩;have bE:(Op.bytesLess (Zn y).toList (Zn x.name).toList)=ls:=aI;have bb:=Z aI;clear aI;cases ls with
    |false=>have f:b=false:=(by rw[a8];exact Z36 a2 (by rw[a4,bb];simp[b9]));subst f;refine ZG.begin (S:=(fun a=>a.cell? ⟨w.heap.size,0,none⟩=some (.int .i64 m.seq)∧a.cell? ⟨w.heap.size,1,none⟩=some (.int .i64 m.next)∧a.cell? ⟨w.heap.size,2,none⟩=some (.int .i64 m.P.K)∧a.cell? ⟨w.heap.size,3,none⟩=some (.int .i64 m.P.H)∧a.cell? ⟨w.heap.size,4,none⟩=some (.int .i64 m.P.S)∧a.cell? ⟨w.heap.size,5,none⟩=some (.int .i64 m.extra)∧a.cell? ⟨w.heap.size,6,none⟩=some (.slice I J L)∧a.cell? ⟨w.heap.size,7,none⟩=some (.slice (some ⟨O,o,none⟩) no F)∧a.cell? ⟨wr.heap.size,0,none⟩=some (.string (Zn x.name))∧a.cell? ⟨wr.heap.size,1,none⟩=some (.int .i64 x.obj)∧a.cell? ⟨wr.heap.size,2,none⟩=some (.int .i64 x.len)∧a.cell? ⟨wr.heap.size,3,none⟩=some (.slice U nt V)∧a.cell? ⟨O,o+(k-1)*4,none⟩=some (.string (Zn y))∧Below wx wx a)) [0,1,2,3,4,5,6,7,8,9,10,11,12,13,14,15,16,17,18,19] Zi (H13.drew ⟨l,r,s,t,v,z,A,C,f0,f1,f2,f3,ai,Z8 _ _⟩) (fun hS=>?_);(iterate 2 (refine ZG.yV hS ?_;try simp only[bS,bN,bA,bY,bX]));refine ZG.gA fun K hK=>?_;have c:=H13.below hS;go_simp;go_at_call 178;refine(ab true af _ c).mono ?_;rintro e a ⟨rfl,W⟩;go_wp2;refine hK _ _ (H13.keep W hS) (fun M=>?_);clear c;clear hK K hS;have hS:=M;clear M;(try simp only[bS,bN,bA,bY,bX]);(iterate 17 (refine ZG.yV hS ?_;try simp only[bS,bN,bA,bY,bX]));refine ZG.done Zi ?_;have a0:=hS;have c:=H13.below hS;clear hS;have T:=aa.trans (c.mono Q);clear l r s t v z A C f0 f1 f2 f3 ai;clear ba;clear a0;go_wp2;go_ret;exact⟨rfl,T⟩
    |true=>
     refine ZG.begin (S:=(fun a=>a.cell? ⟨w.heap.size,0,none⟩=some (.int .i64 m.seq)∧a.cell? ⟨w.heap.size,1,none⟩=some (.int .i64 m.next)∧a.cell? ⟨w.heap.size,2,none⟩=some (.int .i64 m.P.K)∧a.cell? ⟨w.heap.size,3,none⟩=some (.int .i64 m.P.H)∧a.cell? ⟨w.heap.size,4,none⟩=some (.int .i64 m.P.S)∧a.cell? ⟨w.heap.size,5,none⟩=some (.int .i64 m.extra)∧a.cell? ⟨w.heap.size,6,none⟩=some (.slice I J L)∧a.cell? ⟨w.heap.size,7,none⟩=some (.slice (some ⟨O,o,none⟩) no F)∧a.cell? ⟨wr.heap.size,0,none⟩=some (.string (Zn x.name))∧a.cell? ⟨wr.heap.size,1,none⟩=some (.int .i64 x.obj)∧a.cell? ⟨wr.heap.size,2,none⟩=some (.int .i64 x.len)∧a.cell? ⟨wr.heap.size,3,none⟩=some (.slice U nt V)∧a.cell? ⟨O,o+(k-1)*4,none⟩=some (.string (Zn y))∧Below wx wx a)) [0,1,2,3,4,5,6,7,8,9,10,11,12,13,14,15,16,17,18,19] Zi (H13.drew ⟨l,r,s,t,v,z,A,C,f0,f1,f2,f3,ai,Z8 _ _⟩) (fun hS=>?_);(iterate 2 (refine ZG.yV hS ?_;try simp only[bS,bN,bA,bY,bX]));refine ZG.gA fun K hK=>?_;have c:=H13.below hS;go_simp;go_at_call 178;refine(ab true af _ c).mono ?_;rintro e a ⟨rfl,W⟩;go_wp2;refine hK _ _ (H13.keep W hS) (fun M=>?_);clear c;clear hK K hS;have hS:=M;clear M;(try simp only[bS,bN,bA,bY,bX]);(iterate 17 (refine ZG.yV hS ?_;try simp only[bS,bN,bA,bY,bX]));refine ZG.done Zi ?_;have a0:=hS;have c:=H13.below hS;clear hS;have T:=aa.trans (c.mono Q);clear l r s t v z A C f0 f1 f2 f3 ai;clear ba;obtain⟨q0,q1,q2,q3,q4,q5,q6,q7,q8,q9,aD,aE,bp,_⟩:=a0;(try dsimp only at q0 q1 q2 q3 q4 q5 q6 q7 q8 q9 aD aE bp);have a3:=b0.below (c.mono (Zj N Q));have aF:=T.size;go_wp2_with fail;refine(Z8j wx (some ⟨O,o,none⟩) k F (ts.take k) (m.objs.take k) wr x.obj p3 _ (a3.mono (Zj N Q)) c.size Y (by assumption) aV).mono ?_;rintro e w6 ⟨rfl,ac⟩;have aG:=T.trans (ac.mono aF);have aH:=G.trans (((b6.trans (c.mono ag)).trans (ac.mono (Zj ag c.size))).mono aR);cases p3 with
     |false=>have f:b=false:=(by rw[a8];exact Z36 a2 (by rw[a4];simp));subst f;go_wp2;go_ret;exact⟨rfl,aG⟩
     |true=>
      have hs:Z0G m k=true:=(by rw[a4];rw[bb];simp);have HS:=Z hs;clear hs;go_wp2;go_roundw
      ·exact⟨k+1,Y,by first|rfl|go_num,aH,Z (fun j hj=>by
       rcases Yf j k with h|h;·exact HK j h
       ·have e:j=k:=Y;rw[e];exact HS)⟩
      ·exact Zh
  ·obtain rfl:k=no:=Y;have bq:b=true:=(by rw[a8];exact Z5L (fun j hj=>HK j hj));subst bq;go_wp2;go_ret;exact⟨rfl,ae⟩
theorem Z5V (h:Below n w.drew v):Below n w v:=⟨h.os,h.tape,h.output,h.size,h.block⟩
theorem ZfS (m:Zd)(B:Nat)(N O:X_)(t Q no R:Nat)(ts:Z_)(w:U1)(h:RM w B m N t Q O no R ts)(hB:B≤w)(bg:M64 m)(bh:∀e∈m.objs,e.name.length≤1048576):
  Calls prog 107 #[m.val (N,t,Q) (O,no,R)] w fun e s=>∃E f I,e=.returned (.slice E f I)∧(pack m).length=f∧f≤1000∧OB w s (E,f,I) (pack m)∧Below w w s:=by
 obtain⟨i0,hi,a1,a2,a3⟩:=info_parts WP;obtain⟨b,hb⟩:∃q,m.may=q:=⟨_,rfl⟩;have HB:=Z hb;have HR:=Z h;have bO:=Z bg;have bP:=Z bh;have ax:=h.dl;have cL:=h.dc;have cM:=h.oc;have ay:=h.o.len;have hm:=Row.new w 75 #[m.seq,m.next,m.P.K,m.P.H,m.P.S,m.extra,(N,t,Q),(O,no,R)];have ae:Below w w (w.alloc (Z1l 75 m (N,t,Q) (O,no,R))):=(Z8 _ _).alloc (Z4 _) _;have bi:=Z (fun(s:U1) (af:Below w.heap.size w s)=>Z70 m B N O t Q no R ts b s (HR.below (af.mono hB)) (Zj hB af.size) bO bP HB);unfold Zd.val at bi;clear hb h bg bh;unfold Zd.val;go_enter func107,ntmps107;obtain⟨c0,c1,c2,c3,c4,c5,c6,c7⟩:=Z01.of_row (m:=m) (dv:= .slice N t Q) (ov:= .slice O no R) hm;go_wp2_with fail;generalize w.alloc (Z1l 75 m (N,t,Q) (O,no,R))=w2 at*;have bj:=ae.size;clear c0 c1 c2 c3 c4 c5 c6 c7;refine(bi w2 ae).mono ?_;rintro e c ⟨rfl,az⟩;have ag:=ae.trans (az.mono bj);have aB:=hm.below az hm.lt;have aC:=ag.size;clear hm az ae bj;cases b with
 |false=>
  have J:pack m=[]:=by unfold pack;rw[HB];rfl
  go_wp2;go_ret;exact⟨none,0,0,rfl,by rw[J];rfl,Y,by rw[J];exact Yi _ _ _ _,ag⟩
 |true=>
 have J:=Yo HB;have HP:=Z J;have bQ:=Z (show pack m=Z4q m by unfold pack;rw[HB];rfl);have cN:=J.seq;have cO:=J.next;have cP:t≤64:=by rw[←ax];exact Z6N J.drives
 have cQ:no≤12:=by rw[←ay];exact J.olen
 obtain⟨k1,k2,k3,k4,k5,k6⟩:=Zf.may_ok J.P;have cR:=J.extra;have a8:=Z ax;have ah:=Z ay;have cS:=Z aB;clear J ax ay;obtain⟨c0,c1,c2,c3,c4,c5,c6,c7⟩:=Z01.of_row (m:=m) (dv:= .slice N t Q) (ov:= .slice O no R) aB;clear aB;obtain⟨G,hG⟩:=Zb c.heap.size;have y:=Z hG;clear hG;have bk:=Z (fun(s:U1) (af:Below c.heap.size c s)=>HR.below ((ag.trans (af.mono aC)).mono hB));go_wp2_with fail;refine ZG.begin (S:=(fun s=>s.cell? ⟨w.heap.size,0,none⟩=some (.int .i64 m.seq)∧s.cell? ⟨w.heap.size,1,none⟩=some (.int .i64 m.next)∧Below c c s)) [0,1,3,4,2,5,6] Zi (H2.drew ⟨c0,c1,Z8 _ _⟩) (fun hS=>?_);iterate 4 (refine ZG.yV hS ?_;try simp only[bS,bN,bA,bY,bX])
 refine ZG.gA fun K hK=>?_;go_simp;go_at_call 181;refine(Z4E c none 0 0 [] m.seq 4 c.drew (Yi _ _ _ _) Y (show c.heap.size≤c.drew.heap.size from Z4 _) Y Y).mono ?_;rintro e w4 ⟨A4,bR,rfl,a9⟩;simp only[Wz,Z10]at a9 ⊢;have aD:=Z5V (a9.below (fun k a=>by cases a) (Z4 _));go_wp2;refine hK _ _ (H2.at_ c0 c1 aD) (fun r=>?_);clear hK K hS;have hS:=r;clear r;try simp only[bS,bN,bA,bY,bX]
 refine ZG.gA fun K hK=>?_;go_simp;go_at_call 181;refine(Z4E c A4 4 bR (ZN 4 m.seq) m.next 4 _ a9.own Y aD.size Y Y).mono ?_;rintro e w5 ⟨A5,aE,rfl,a4⟩;have L:=a9.trans a4;try simp only[Nat.reduceAdd]at L ⊢
 have bl:=Z5V (L.below (fun k a=>by cases a) (Z4 _));go_wp2;refine hK _ _ (H2.at_ c0 c1 bl) (fun r=>?_);clear bl a4;clear hK K hS;have hS:=r;clear r;try simp only[bS,bN,bA,bY,bX]
 (refine ZG.yV hS ?_;try simp only[bS,bN,bA,bY,bX]);refine ZG.done Zi ?_;have W:=Z5V ((show Xq 5 c.heap.size c.drew w5 () (A5,8,aE) 8 ((ZN 4 m.seq++ZN 4 m.next).map Za) from L).below (fun k a=>by cases a) (Z4 _));have a4:Xq 5 c.heap.size c w5 () (A5,8,aE) 8 ((ZN 4 m.seq++ZN 4 m.next).map Za):=⟨L.own,⟨L.grow.os,L.grow.tape,L.grow.output,L.grow.size,L.grow.block⟩,L.wh⟩;clear L hS a9 aD;have bm:=Z a4;have aF:=a4.own;clear a4;have d2:=ZF W c2;have d3:=ZF W c3;have d4:=ZF W c4;have d5:=ZF W c5;have d6:=ZF W c6;have d7:=ZF W c7;have bT:=Z (show[b8 m.P.K,b8 m.P.H,b8 m.P.S,b8 m.extra,b8 (t:Int)].map Za=[.int .u8 m.P.K,.int .u8 m.P.H,.int .u8 m.P.S,.int .u8 m.extra,.int .u8 (t:Int)] by simp only[WQ,Z07];rw[Z1J Y,Z1J Y,Z1J Y,Z1J Y,Z1J Y]);rw[y]at aF;have bU:G≤w5:=by rw[←y];exact W.size
 have cT:(t:Int)≤64:=Y;have cU:(no:Int)≤12:=Y;go_wp2_with (at_builtin;go_must (refine Y5 rfl (.tmp 19) (.tmp 39) 32 rfl G 5 i0 (.int .u8 0) 1 1 underlying32 hi a1 a2 a3 rfl Y (A5,8,aE) 8 _ rfl (aF.alloc _) _ _ 5 5 _ rfl (Sl.fresh _ _ _ _ 5 rfl) (by simp[Value.oneCell']) (13) Y ((Z1W m).map Za) (by rw[←bT,←ZV];unfold Z1W;rw[a8]) Y Y (by have:=bU;simp;omega) ?_);intro A6 bV w6 o6 g6 bW;have aG:=bm.step _ (by rw[y];exact o6) g6 bW;have bn:=aG.below (fun k a=>by cases a) (Z4 _);have c9:=Z aG;have f6:=ZF bn c6;have f7:=ZF bn c7;clear aG)
 clear d2 d3 d4 d5 d6 d7 aF bm;go_loopw [3,44] (fun v i wr=>∃(k:Nat) (A:X_) (n T:Nat),k≤t∧i=.int .i64 k∧v=.slice A n T∧n=13+k∧Xq 5 c.heap.size c wr () (A,n,T) n ((Z1W m++(m.drives.take k).map b8).map Za)) (fun _ i _=>t-(intOf i).toNat)
 ·exact⟨0,A6,13,bV,Y,rfl,rfl,rfl,by have:=c9.out;simpa using this⟩
 ·obtain⟨k,A,n,aa,a,rfl,rfl,hn,C⟩:=hrel;have aH:=C.below (fun k a=>by cases a) (Z4 _);have HA:=Z C;have HN:=Z hn;have cV:n≤13+64:=Y;clear hn;have ai:=C.own;rw[y]at ai;have bo:G≤wr:=by rw[←y];exact aH.size
  clear C;by_cases aj:k<t
  ·have ab:=bk wr aH;obtain⟨bb,o,rfl,ca,cb⟩:=ab.d.get aj (Z4e m.drives k (by rw[a8];exact aj));have hz:=Z4a HP.drives (i:=k) (by rw[a8];exact aj);have aI:=Z (Zag (l:=m.drives) (k:=k) (by rw[a8];exact aj));obtain⟨z,a0⟩:=Zb (m.drives.getD k 0);have HZ:=Z a0;rw[a0]at cb hz;have aJ:=Z (show[b8 z].map Za=[.int .u8 z] by simp only[WQ,Z07];rw[Z1J Y]);clear a0 ab;go_wp2_with (at_builtin;go_must (refine Y5 rfl (.tmp 48) (.tmp 51) 32 rfl G 5 i0 (.int .u8 0) 1 1 underlying32 hi a1 a2 a3 rfl Y (A,n,aa) n _ rfl (ai.alloc _) _ _ 1 1 _ rfl (Sl.fresh _ _ _ _ 1 rfl) (by simp[Value.oneCell']) (n+1) Y ((Z1W m++(m.drives.take (k+1)).map b8).map Za) (by rw[aI,HZ,←YH,ZV (l₂:= [b8 z]),aJ]) Y Y (by have:=bo;simp;omega) ?_);intro A2 aK cc o2 g2 aL;have aM:=HA.step _ (by rw[y];exact o2) g2 aL)
   go_roundw;·exact⟨k+1,A2,n+1,aK,Y,Zg,rfl,Zc HN.out,aM⟩
   ·exact Zh
  ·obtain rfl:k=t:=Y;have cd:=Z (show m.drives.take k=m.drives from ZP (by rw[a8];exact Z4 _));have g7:=ZF aH c7;have ce:=Z (show[b8 (no:Int)].map Za=[.int .u8 (no:Int)] by simp only[WQ,Z07];rw[Z1J Y]);obtain⟨wl,cf⟩:∃wl:U1,wl=wr:=⟨_,rfl⟩;subst cf;go_wp2_with (at_builtin;go_must (refine Y5 rfl (.tmp 54) (.tmp 59) 32 rfl G 5 i0 (.int .u8 0) 1 1 underlying32 hi a1 a2 a3 rfl Y (A,n,aa) n _ rfl (ai.alloc _) _ _ 1 1 _ rfl (Sl.fresh _ _ _ _ 1 rfl) (by simp[Value.oneCell']) (n+1) Y ((Z1W m++m.drives.map b8++ [b8 (no:Int)]).map Za) (by rw[cd,ZV (l₂:= [b8 (no:Int)]),ce]) Y Y (by have:=bo;simp;omega) ?_);intro A7 cg w7 o7 ch ci;have aO:=HA.step _ (by rw[y];exact o7) ch ci;have cj:=aO.below (fun k a=>by cases a) (Z4 _);have bp:=Z aO;have e7:=ZF cj c7;clear aO)
   obtain⟨hd,aP⟩:∃l,Z1W m++m.drives.map b8++ [b8 (no:Int)]=l:=⟨_,rfl⟩;rw[aP]at bp;have ck:=Z aP;clear aP HA ai g7;go_loopw [3,64] (fun v i wr=>∃(j:Nat) (A:X_) (f T:Nat),j≤no∧i=.int .i64 j∧v=.slice A f T∧f≤78+26*j∧Xq 5 c.heap.size c wr () (A,f,T) f ((hd++(m.objs.take j).flatMap Vg).map Za)) (fun _ i _=>no-(intOf i).toNat)
   ·exact⟨0,A7,n+1,cg,Y,rfl,rfl,Zc HN.out,by have:=bp.out;simpa using this⟩
   ·obtain⟨j,A,f,aa,hj,rfl,rfl,cW,C⟩:=hrel;have ak:=C.below (fun k a=>by cases a) (Z4 _);have HA:=Z C;clear C;by_cases aQ:j<no
    ·have ab:=bk wr ak;obtain⟨bb,o,E,I,rfl,ca,e0,e1,e2,e3,bq,d0,al⟩:=ab.o.get aQ;have U:=Z7p HP (i:=j) (by rw[ah];exact aQ);have br:=Z (ZeT (es:=m.objs) (k:=j) (by rw[ah];exact aQ));obtain⟨x,hx⟩:=Zb (m.objs.getD j default);rw[hx]at e0 e1 e2 e3 bq al U br;have cl:=Z U;have cm:=U.nlen;have d1:=U.obj;have d8:=U.len;have d9:=U.len2;have cn:=U.tlen;obtain⟨F,aR⟩:∃n,x.tries.length=n:=⟨_,rfl⟩;rw[aR]at e3 bq al cn;have am:=Z aR;have co:=Z al;obtain⟨D,an⟩:∃n,x.name.length=n:=⟨_,rfl⟩;rw[an]at cm;have cp:=Z an;have aT:=Z6l x.name;rw[an]at aT;have bs:=Z aT;have da:(1:Int)≤(D:Int):=Y;have db:(D:Int)≤12:=Y;have bt:=Row.new wr 116 #[.string (Zn x.name),x.obj,x.len,(E,F,I)];have aU:=(Z8 wr wr).alloc (Z4 _) (Z1r 116 x (E,F,I));have aV:=HA.more aU;have bv:=Z aV;have cq:=aV.own;have dd:G≤wr:=(by rw[←y];exact ak.size);have a5:=Z bt;clear hx ab U aR al an aT aV bt;obtain⟨f0,f1,f2,f3⟩:=Z0H.of_row (x:=x) (tv:= .slice E F I) a5;go_wp2_with fail;generalize a6:wr.alloc (Z1r 116 x (E,F,I))=wx at*;clear a6 f0 f1 f2 f3 e0 e1 e2 e3;obtain⟨gx,a6⟩:∃g,wr.heap.size=g:=⟨_,rfl⟩;have de:G≤gx:=Y;rw[a6]at a5;have df:=aU.size;rw[a6];obtain⟨f0,f1,f2,f3⟩:=Z0H.of_row (x:=x) (tv:= .slice E F I) a5;have dg:=Z a6;clear a6 aU;have aW:=bv.below (fun k a=>by cases a) (Z4 _);have cr:IntKind.u8.wrap (((Zn x.name).size:Nat):Int)=(D:Int):=(by rw[bs,IntKind.wrap_u8];omega);refine ZG.begin (S:=(fun s=>s.cell? ⟨gx,0,none⟩=some (.string (Zn x.name))∧Below c c s)) [0,1,2,3,4,7,8,5,6,9,10] Zi (⟨a5.drew.cell 0,Z1d aW⟩) (fun hS=>?_);(iterate 7 (refine ZG.yV hS ?_;try simp only[bS,bN,bA,bY,bX]));refine ZG.gA fun K hK=>?_;have ao:=cq;rw[y]at ao;have bw:=bv.out;go_simp;refine hK _ _ ⟨((a5.alloc _).drew).cell 0,Z1d (aW.alloc aW.size _)⟩ (fun r=>?_);clear hK K hS;have hS:=r;clear r;(try simp only[bS,bN,bA,bY,bX]);refine ZG.gA fun K hK=>?_;refine Z2x (.tmp 68) (.tmp 73) 32 rfl G 5 i0 (.int .u8 0) 1 1 underlying32 hi a1 a2 a3 rfl Y (A,f,aa) f _ rfl ((ao.alloc _).drew_) _ _ 1 1 _ rfl ((Sl.fresh wx _ _ _ 1 rfl).drew) (by simp[Value.oneCell']) (f+1) rfl ((hd++(m.objs.take j).flatMap Vg++ [b8 (D:Int)]).map Za) (by rw[ZV (l₂:= [b8 (D:Int)])];simp only[WQ,Z07];rw[Z1J Y]) Y Y Zx ?_;intro A8 cs w8 o8 g8 bx;have b0:=bw.step (.cells #[.int .u8 (D:Int)] 5) (by rw[y];exact o8) ⟨g8.os,g8.tape,g8.output,g8.size,g8.block⟩ bx;have b1:=((a5.alloc (.cells #[.int .u8 (D:Int)] 5)).drew).appd1 ((ao.alloc _).drew_) g8 Z5;have b2:=b0.below (fun k a=>by cases a) (Z4 _);refine hK _ _ ⟨b1.cell 0,b2⟩ (fun r=>?_);clear hK K hS;have hS:=r;clear r;(try simp only[bS,bN,bA,bY,bX]);refine ZG.gA fun K hK=>?_;refine ZbG (.tmp 74) (.tmp 76) 32 9 rfl G 5 i0 underlying32 underlying9 hi a1 a2 a3 (A8,(f+1),cs) (f+1) _ rfl o8 (Zn x.name) rfl (f+1+D) (by rw[bs]) ((hd++(m.objs.take j).flatMap Vg++ [b8 (D:Int)]++x.name).map Za) (by rw[ZbC,←ZV]) Y (by rw[←y];exact b2.size) ?_;intro A9 ct w9 o9 g9 bz;have b3:=b0.step0 (by rw[y];exact o9) g9 bz;have ap:=b1.appd1 o8 g9 Z5;have bB:=b3.below (fun k a=>by cases a) (Z4 _);have b4:=Z b3;refine hK _ _ ⟨ap.cell 0,bB⟩ (fun r=>?_);clear bB b3 b1 b0 bw ao o9 o8 g9 g8 bx bz b2;clear hK K hS;have hS:=r;clear r;(try simp only[bS,bN,bA,bY,bX]);(refine ZG.yV hS ?_;try simp only[bS,bN,bA,bY,bX]);refine ZG.done Zi ?_;clear cr;clear f0 f1 f2 f3 hS;have b5:Hid (Row w9 gx 116 [.string (Zn x.name),x.obj,x.len,(E,F,I)]):=Z ap;obtain⟨f0,f1,f2,f3⟩:=Z0H.of_row (x:=x) (tv:= .slice E F I) ap;have b6:=b4.below (fun k a=>by cases a) (Z4 _);have dh:G≤w9:=(by rw[←y];exact b6.size);have a7:=b4.own;clear ap;go_wp2_with fail;refine ZG.begin (S:=(fun s=>s.cell? ⟨gx,1,none⟩=some (.int .i64 x.obj)∧s.cell? ⟨gx,2,none⟩=some (.int .i64 x.len)∧Below c c s)) [0,1,2,4,5,3,6,7] Zi (⟨b5.drew.cell 1,b5.drew.cell 2,Z1d b6⟩) (fun hS=>?_);(iterate 5 (refine ZG.yV hS ?_;try simp only[bS,bN,bA,bY,bX]));refine ZG.gA fun K hK=>?_;go_simp;go_at_call 181;refine(Z4E c A9 (f+1+D) ct _ x.obj 3 w9.drew a7.drew_ Y (Zj b6.size (Z4 _)) Y Y).mono ?_;rintro e di ⟨cv,cw,rfl,ac⟩;have aq:=b5.drew.appd a7.drew_ ac Z5;have b7:=b4.drew_.trans ac
     have b9:=b7.below (fun k a=>by cases a) (Z4 _);go_wp2;refine hK _ _ ⟨aq.cell 1,aq.cell 2,b9⟩ (fun r=>?_);clear hK K hS;have hS:=r;clear r;(try simp only[bS,bN,bA,bY,bX]);refine ZG.gA fun K hK=>?_;go_simp;go_at_call 181;refine(Z4E c cv (f+1+D+3) cw _ x.len 2 _ ac.own Y b9.size Y Y).mono ?_;rintro e dj ⟨cx,cy,rfl,ba⟩;have ar:=aq.appd ac.own ba Z5;have bc:=b7.trans ba;have av:=Z bc;have bC:=bc.below (fun k a=>by cases a) (Z4 _);go_wp2;refine hK _ _ ⟨ar.cell 1,ar.cell 2,bC⟩ (fun r=>?_);clear bC bc ba aq b7 ac b9;clear hK K hS;have hS:=r;clear r;(try simp only[bS,bN,bA,bY,bX]);(refine ZG.yV hS ?_;try simp only[bS,bN,bA,bY,bX]);refine ZG.done Zi ?_;clear f0 f1 f2 f3 hS;obtain⟨f0,f1,f2,f3⟩:=Z0H.of_row (x:=x) (tv:= .slice E F I) ar;clear ar f0 f1 f2;have dk:=av.below (fun k a=>by cases a) (Z4 _);obtain⟨he,bd⟩:∃l,hd++(m.objs.take j).flatMap Vg++ [b8 (D:Int)]++x.name++ZN 3 x.obj++ZN 2 x.len=l:=⟨_,rfl⟩;rw[bd]at av;have cz:=Z bd;obtain⟨ad,bD⟩:∃q,f+1+D+3+2=q:=⟨_,rfl⟩;rw[bD]at av ⊢;have dm:ad≤78+26*j+18:=Y;clear bd bD;obtain⟨wm,cA⟩:∃wm:U1,wm=wr:=⟨_,rfl⟩;subst cA;go_wp2;go_loopw [3,88] (fun v i wr=>∃(q:Nat) (A:X_) (f T:Nat),q≤F∧i=.int .i64 q∧v=.slice A f T∧f=ad+q∧Xq 5 c.heap.size c wr () (A,f,T) f ((he++(x.tries.take q).map b8).map Za)) (fun _ i _=>F-(intOf i).toNat)
     ·exact⟨0,cx,ad,cy,Y,rfl,rfl,rfl,by have:=av.out;simpa using this⟩
     ·obtain⟨q,bE,V,bF,hq,rfl,rfl,bG,C⟩:=hrel;have bH:=C.below (fun k a=>by cases a) (Z4 _);have bI:=Z C;have cB:=Z bG;have dn:V≤ad+8:=Y;have dp:V≤ad+q:=Y;clear bG;have bJ:=C.own;rw[y]at bJ;have cC:G≤wr:=(by rw[←y];exact bH.size);clear C;by_cases aw:q<F
      ·obtain⟨M,ot,cD,dq,cE⟩:∃M ot,E=some ⟨M,ot,none⟩∧M<c.heap.size∧wr.cell? ⟨M,ot+q,none⟩=some (.int .i64 (x.tries.getD q 0)):=by have cF:=co.out;obtain⟨M,ot,e1,hl,hc⟩:=cF.get aw (Z4e x.tries q (by rw[am];exact aw));have be:M<c:=Zc hB;refine⟨M,ot,e1,be,?_⟩;have e3:=ak.cell (p:=(M,ot+q)) be;have e4:=bH.cell (p:=(M,ot+q)) be;rw[e4,←e3];exact hc
       have hz:=Z9r cl.tries (k:=q) (by rw[am];exact aw);have aI:=Z (Zag (l:=x.tries) (k:=q) (by rw[am];exact aw));obtain⟨z,a0⟩:=Zb (x.tries.getD q 0);have HZ:=Z a0;rw[a0]at cE hz;have aJ:=Z (show[b8 z].map Za=[.int .u8 z] by simp only[WQ,Z07];rw[Z1J Y]);subst cD;clear a0;go_wp2_with (at_builtin;go_must (refine Y5 rfl (.tmp 92) (.tmp 95) 32 rfl G 5 i0 (.int .u8 0) 1 1 underlying32 hi a1 a2 a3 rfl Y (bE,V,bF) V _ rfl (bJ.alloc _) _ _ 1 1 _ rfl (Sl.fresh _ _ _ _ 1 rfl) (by simp[Value.oneCell']) (V+1) Y ((he++(x.tries.take (q+1)).map b8).map Za) (by rw[aI,HZ,←YH,ZV (l₂:= [b8 z]),aJ]) Y Y (by have:=cC;simp;omega) ?_);intro A2 aK cc o2 g2 aL;have aM:=bI.step _ (by rw[y];exact o2) g2 aL)
       go_roundw;·exact⟨q+1,A2,V+1,aK,Y,Zg,rfl,Zc cB.out,aM⟩
       ·exact Zh
      ·obtain rfl:q=F:=Y;have cG:=Z (show x.tries.take q=x.tries from ZP (by rw[am];exact Z4 _));have bK:he++x.tries.map b8=hd++(m.objs.take (j+1)).flatMap Vg:=(by rw[br,←cz];unfold Vg;rw[cp];simp only[YH]);have cH:=Z bK;clear bK;have cI:V≤78+26*(j+1):=Y;go_wp2;go_roundw;·exact⟨j+1,bE,V,bF,Y,Zg,rfl,cI,by have:=bI.out;rw[cG,cH]at this;exact this⟩
       ·exact Zh
    ·obtain rfl:j=no:=Y;have cJ:=Z (show m.objs.take j=m.objs from ZP (by rw[ah];exact Z4 _));have a7:=HA.own;rw[cJ]at a7;have bf:(hd++m.objs.flatMap Vg)=pack m:=(by rw[bQ,←ck];unfold Z4q;rw[ah]);have cK:=Z bf;have bL:(pack m).length=f:=(by have:=a7.1;rw[bf]at this;simpa using this);have bM:=Z bL;clear bf bL;go_wp2;go_ret;refine⟨A,f,aa,rfl,bM,Y,?_,ag.trans (ak.mono aC)⟩;unfold OB;rw[bM,←cK];exact ZA a7 aC
section
open Go.Sort Go.Lib
def Wh:List Nat:= [0,4607182418800017408,4611686018427387904,4616189618054758400,4617315517961601024,4620693217682128896,4621256167635550208,4621819117588971520,4623507967449235456,4625196817309499392,4625478292286210048,4625759767262920704,4626322717216342016,4627730092099895296,4628011567076605952,4628855992006737920,4629700416936869888,4629981891913580544,4630263366890291200,4630404104378646528,4630826316843712512,4630967054332067840,4631530004285489152,4632092954238910464,4632233691727265792,4632515166703976448,4632655904192331776,4633359591634108416,4633781804099174400,4634204016564240384,4634274385308418048,4634485491540951040,4634766966517661696,4634837335261839360,4634907704006017024,4635329916471083008,4635681760191971328,4635963235168681984,4636596553866280960,4636737291354636288,4637652085028945920,4638707616191610880]
theorem ZiZ:plS.all (fun a=>plS.all fun c=>match floatBits .add .f64 a c with|some r=>Wh.contains r|none=>false)=true:=by decide+kernel
theorem ZjM (b:n∈plS)(c:m∈plS):∃i:Fin 42,floatBits .add .f64 n m=some (Wh.getD i.val 0):=by
 have:=Wq.1 (Wq.1 ZiZ n b) m c;cases h:floatBits .add .f64 n m with
 |none=>rw[h]at this;cases this
 |some r=>
  rw[h]at this;have d:r∈Wh:=by simpa using this
  obtain⟨i,a,e⟩:=ZZ d;exact⟨⟨i,a⟩,by rw[Z6,Z7 a,←e];rfl⟩
theorem Zib (b:n∈plC)(c:m∈plC)(d:k∈plC)(e:i∈plC):∃(x y p q:Nat) (a:Fin 42),floatBits .sub .f64 n k=some x∧floatBits .sub .f64 m i=some y∧floatBits .mul .f64 x x=some p∧floatBits .mul .f64 y y=some q∧floatBits .add .f64 p q=some (Wh.getD a.val 0):=by obtain⟨x,f,g⟩:=ZaY b d;obtain⟨y,h,j⟩:=ZaY c e;obtain⟨p,l,o⟩:=Zb2 g;obtain⟨q,r,s⟩:=Zb2 j;obtain⟨a,t⟩:=ZjM o s;exact⟨x,y,p,q,a,f,h,l,r,t⟩
theorem Zhw:(List.range 42).all (fun i=>(List.range 42).all fun j=>FloatKind.f64.format.order (Wh.getD i 0) (Wh.getD j 0)==some (compare i j))=true:=by decide+kernel
theorem Z77 (i j:Fin 42):FloatKind.f64.format.order (Wh.getD i.val 0) (Wh.getD j.val 0)=some (compare i.val j.val):=by have:=Wq.1 (Wq.1 Zhw i.val (Ws.2 i.isLt)) j.val (Ws.2 j.isLt);simpa using this
abbrev Z34:=Nat×Fin 42
def Z0S (x:Z34):Z_:= [.int .i64 (x.1:Int),.float .f64 (Wh.getD x.2.val 0)]
def cfF (x y:Z34):Int:=if Yv x.2.val y.2.val≠0 then Yv x.2.val y.2.val else Yv x.1 y.1
theorem Zjo (x y:Z34):decide (cfF x y<0)=decide (x.2.val<y.2.val∨x.2.val=y.2.val∧x.1<y.1):=by unfold cfF Yv;refine decide_eq_decide.2 ?_;split <;> (repeat' split) <;> omega
end
theorem Z6v (a:n<l.length):(l.set n x).getD m undef=if m=n then x else l.getD m undef:=by
 simp only[Z6];split;·rename_i h;subst h;simp[a]
 ·rename_i h;rw[List.getElem?_set_ne (fun e=>h e.symm)]
theorem Z8H:∀(a:List Zr) (ts:Z_) (k j:Nat) (u:U2) (b:Zr) (c:U2),a.length=ts.length→k<a.length→j<4→b.cells c=((a.getD k default).cells (ts.getD k undef)).set j u→YJ (a.set k b) (ts.set k c)=(YJ a ts).set (k*4+j) u
 |e::a,t::ts,0,j,u,b,c,_,_,hj,h=>by simp only[YL,YJ,Nat.zero_mul,Wz];rw[List.set_append_left _ _ (by show j<4;exact hj),h];rfl
 |e::a,t::ts,k+1,j,u,b,c,hl,hk,hj,h=>by simp only[Xz,YJ];rw[Z8H a ts k j u b c (by simpa using hl) (by simpa using hk) hj h,Wn _ _ (by show 4≤_;omega)];show _=_++(YJ a ts).set ((k+1)*4+j-4) u;rw[show(k+1)*4+j-4=k*4+j from Y]
 | [],_,_,_,_,_,_,_,hk,_,_=>by simp at hk
 |_::_, [],_,_,_,_,_,hl,_,_,_=>by simp at hl
theorem Z9D {w:U1}{base b n:Nat}{t:TypeId}{v:U2}{d:Z_}(h:w.ownsRow base t b v n d)(p:0<n):
  ∃g c a,v=.slice (some ⟨g,0,none⟩) n c∧base≤g∧Row w g t a∧a.length=c*b∧a.take (n*b)=d∧n≤c∧c≤maxLen:=by
 rcases h.2 with ⟨e,q⟩|⟨g,f,a,e,i,j,k,l,m,o⟩;·omega
 ·exact⟨g,f,a.toList,e,i,by simpa[Row]using j,by simpa using m,by simpa using o,k,l⟩
theorem Zgt {w:U1}{base a n c g i:Nat}{t:TypeId}{b:Z_}(h:w.ownsRow base t a (g,n,c) n b)(d:0<n)(u:U2):
  (w.setCell (g,i) u).ownsRow base t a (g,n,c) n (b.set i u):=by
 obtain⟨r,s,f,e,j,k,l,m,o,p⟩:=Z9D h d;injection e with e v q;injection e with e;injection e with e _ _;subst e q;refine⟨by rw[Ya];exact h.1,.inr ⟨g,c,(f.set i u).toArray,rfl,j,k.set i _,o,p,by simpa using l,?_⟩⟩;rw[←m];simp only[Z2T,List.take_set]
section
section
variable {base:Nat} {w w':U1} {g:Nat} {m:Zd} {Ad Ao:X_} {nd cd no co:Nat} {ts:Z_}
end
end
theorem Zgx (a b:Y_):((Zn a).toList==(Zn b).toList)=decide (a=b):=by
 rw[Bool.eq_iff_iff];simp only[beq_iff_eq,decide_eq_true_eq];constructor;·intro h;apply Zgw;rw[ByteArray.toList_eq,ByteArray.toList_eq]at h;apply ByteArray.ext;exact Array.toList_inj.1 h
 ·rintro rfl;rfl
