/- LayS LayK LayA LayP -/
import Derived.Test.YtpokipdpjhookaaGreatDoorBTopRetires32
import Derived.Test.YtpokipdpjhookaaGreatDoorBTopRetires33
set_option maxHeartbeats 8000000
set_option maxRecDepth 20000
set_option linter.all false
namespace Go.Proofs
open Go Go.RowKit Tryz
variable {w v:World} {n m k i:Nat} {x y:Value} {l L:List Value} {t:TypeId} {A:Option Addr} {F:Nat→Prop}
structure Vm (base:Nat) (w:World) (v:Value) (q:List ((Nat×List Byte)×Value)):Prop where
 own:w.ownsRow base 210 2 v q.length (q.flatMap Z20)
 at_:∀x∈q,OB base w x.2 x.1.2
theorem Vm.nil_ (base:Nat)(w:U1):Vm base w () []:=⟨Yi _ _ _ _,fun x a=>by cases a⟩
theorem Vm.below {base:Nat}{w':U1}{v:U2}{q:List ((Nat×Y_)×U2)}(h:Vm base w v q)(a:Below w w w'):Vm base w' v q:=
 ⟨h.own.kept (ZB a none) (by cases v.ownBlock <;> simp),fun x b=>(h.at_ x b).below a⟩
theorem Vm.push {base:Nat}{w w':U1}{v v':U2}{q:List ((Nat×Y_)×U2)}{x:(Nat×Y_)×U2}(h:Vm base w v q)(b:OB base w x.2 x.1.2)(d:w'.ownsRow base 210 2 v' (q.length+1) (q.flatMap Z20++Z20 x))(c:w.grownBy w' v.ownBlock):Vm base w' v' (q++ [x]):=by
 refine⟨by simpa using d,fun y a=>?_⟩;rcases YZ.1 a with a|a;·exact(h.at_ y a).keep c (YF (h.at_ y a) h.own Z5)
 ·simp only[Yn]at a;subst a;exact b.keep c (YF b h.own Z5)
theorem ORs.other {w':U1}{b:List RD}(h:ORs n w x b)(c:w.ownsRow m t i y k l)(d:w.grownBy w' y.ownBlock)(f:159≠t)(g:5≠t):ORs n w' x b:=
 ⟨h.own.kept d (YF h.own c f),fun a e=>(h.at_ a e).keep d (YF (h.at_ a e) c g)⟩
theorem Vm.read {base:Nat}{q:List ((Nat×Y_)×U2)}(h:Vm base w (A,n,m) q)(a:q.length=n):RSy w w A n q:=by subst a;exact⟨Sl.own h.own,rfl,fun x b=>(h.at_ x b).read⟩
def Yu (a:Nat→Option Dr) (s:Nat):Z0:=match a s with
 |some d=>d.L
 |none=> []
theorem YO {a:Nat→Option Dr}{d:Dr}(h:a n=some d):Yu a n=d.L:=by unfold Yu;rw[h]
def Z0z (o b:Int) (a:List Rec):List (Nat×Y_):=(a.filter fun r=>decide (r.O=o∧r.B=b)).map fun r=>(r.I.toNat,r.D)
theorem Zet {m:Zd}{L:Nat→Z0}{a:W_}{o b:Int}{k:Nat}(c:k<a.length){s:Nat}(d:a[k]=(s:Int)):Vw m L (a.take (k+1)) o b=Vw m L (a.take k) o b++Z0z o b (YD m (L s)):=by rw[ZR c,d];unfold Vw Z0z;rw[Vr];simp
theorem Zg7 {o b:Int}{a:List Rec}(c:n<a.length)(h:a[n].O=o∧a[n].B=b):Z0z o b (a.take (n+1))=Z0z o b (a.take n)++ [(a[n].I.toNat,a[n].D)]:=by unfold Z0z;rw[ZR c,Vs,ZV];congr 1;rw[Z1v (by simpa using h)];rfl
theorem Zj0 {o b:Int}{a:List Rec}(c:n<a.length)(h:¬(a[n].O=o∧a[n].B=b)):Z0z o b (a.take (n+1))=Z0z o b (a.take n):=by unfold Z0z;rw[ZR c,Vs,Z2h (by simpa using h)];simp
theorem Zhu (o b:Int)(a:List Rec):(Z0z o b a).length≤a.length:=by unfold Z0z;rw[Zz];exact Wx _ _
theorem Z6D {m:Zd}{L:Nat→Z0}{o b:Int}{M:Nat}:∀{sl:W_},(∀s∈sl,(L s.toNat).length≤M)→(Vw m L sl o b).length≤sl.length*M
 | [],_=>by simp[Vw]
 |s::sl,h=>by have h1:=Z6D (m:=m) (o:=o) (b:=b) (sl:=sl) fun t ht=>h t (XB _ ht);have h2:=h s (XP ..);have h3:=Z3f m (L s.toNat);have h4:=Z5p (L s.toNat);have h5:=Zhu o b (YD m (L s.toNat));have e:Vw m L (s::sl) o b=Z0z o b (YD m (L s.toNat))++Vw m L sl o b:=rfl;rw[e,Zw,XQ,X9];omega
theorem Zic:(prog.info? 210).map (fun i=>(i.zero,i.size,i.bytes))=some (some (.agg #[Nat,()]),2,32):=Zi
theorem Zdf (gs pg:Nat)(gd:Nat→Nat)(F:Nat→U0)(p:Pw)(z:Nat→Option Dr)(m0:Zd)(Ad Ao:X_)(nd cd no co:Nat)(ts:Z_)
  (m:Zd) (B J N O Q:Nat) (R T:X_) (aP:Z_) (n c mk:Nat) (A:X_) (a:W_) (o b:Int) (w:U1)
  (h:SM w gs pg gd F p z m0 Ad nd cd Ao no co ts) (hm:RM w B m R J N T O Q aP) (ar:B≤w) (ah:Sl w w 1 A n (a.map iv)) (hl:Z1Q z a) (aQ:∀s d,z s=some d→DOk mk d) (hn:n≤64)
  (hI:∀s∈a,∀r∈YD m (Yu z s.toNat),0≤r.I):
  Calls prog 92 #[.func (.func 30) #[(gs,())] #[],(A,n,c),m.val (R,J,N) (T,O,Q),o,b] w fun e w'=>∃A' n' c' q,e=.returned (.slice A' n' c')∧q.length=n'∧Vm w w' (A',n',c') q∧q.map Prod.fst=Vw m (Yu z) a o b∧Below w w w':=by
 obtain⟨is,aR,aT,aU,bq⟩:=info_parts Zic;have aV:a.length=n:=by have:=ah.len;simpa using this
 have eg:∀aW w,(callFunc 30 aW).run prog w=.ok (.enter 30 aW) w:=fun _ _=>rfl;obtain⟨E,ai⟩:∃g,w.heap.size=g:=⟨_,rfl⟩;have G:Below w w (w.alloc (.cells #[m.seq,m.next,m.P.K,m.P.H,m.P.S,m.extra,(R,J,N),(T,O,Q)] 75)):=(Z8 _ _).alloc (Z4 _) _;have W:=Row.new w 75 #[m.seq,m.next,m.P.K,m.P.H,m.P.S,m.extra,(R,J,N),(T,O,Q)];rw[ai]at W G ar ah;have b0:=Z W;have b1:=Z G;have a0:=Z ai;have br:=Z h;have HM:=Z hm;have bs:=Z ah;have b2:=Z hl;have b3:=Z aV;have b4:=Z aQ;have HI:=Z hI;rw[ai];clear G W ai h hm ah hl aV aQ hI;unfold Zd.val;go_enter func92,ntmps92;go_upto_region 1 with fail;rw[a0];generalize w.alloc (.cells #[m.seq,m.next,m.P.K,m.P.H,m.P.S,m.extra,(R,J,N),(T,O,Q)] 75)=w1 at b0 b1 ⊢;go_wp2;go_loopw [11,18] (fun av i wr=>∃(k n1 ca:Nat) (Aa:X_) (q:List ((Nat×Y_)×U2)),av=.slice Aa n1 ca∧k≤n∧i=.int .i64 (k:Int)∧Hid (q.length=n1)∧Hid (Vm E wr (Aa,n1,ca) q)∧Hid (q.map Prod.fst=Vw m (Yu z) (a.take k) o b)∧Hid (Below E w wr)∧Hid (Row wr E 75 [m.seq,m.next,m.P.K,m.P.H,m.P.S,m.extra,(R,J,N),(T,O,Q)])) (fun _ i _=>n-(intOf i).toNat)
 ·exact⟨0,0,0,none, [],rfl,Y,rfl,Z rfl,Z (Vm.nil_ _ _),Z rfl,b1,b0⟩
 ·obtain⟨k,n1,ca,Aa,q,rfl,hk,rfl,aw,HO,HQ,HB,C⟩:=hrel;have a7:=HB.size;rw[a0]at a7;by_cases b5:k<n
  ·have c7:(k:Int)<(n:Int):=Y;have a8:k<a.length:=(by rw[b3];exact b5);obtain⟨be,oe,rfl,cb,ck⟩:=(bs.below HB).get b5 (Xx a k a8);obtain⟨s,d,ax,bt,a2,bv⟩:=b2 (a.getD k 0) (by rw[Z6,Z7 a8];exact Zp _);have b6:a[k]=a.getD k 0:=(by rw[Z6,Z7 a8];rfl);have ay:a[k]=(s:Int):=b6.trans ax;have bw:=Z (Zet (m:=m) (L:=Yu z) (o:=o) (b:=b) a8 ay);have b7:=Z (show ∀r∈YD m d.L,0≤r.I from fun r hr=>HI (s:Int) (by rw[←ay];exact Zp _) r (by rw[ZL,YO a2];exact hr));have bx:=Z (YO a2);rw[ax]at ck;have b9:=Z (br.new_ (show Below w w wr by rw[a0];exact HB));have az:=(b9.dr s d a2).1;have aB:X3 gd z s=.pointer (some ⟨gd s,0,none⟩):=(by unfold X3;rw[a2]);obtain⟨g,hg⟩:=Zb (gd s);rw[hg]at aB az;have bz:=Z az;have bB:=Z aB;have aC:=Z (b4 s d a2);have ba:=HQ.out;have aD:=congrArg List.length ba;rw[Zz,aw]at aD;have cc:n1≤64*512:=(by rw[aD];refine Zj (Z6D (M:=512) fun t ht=>?_) (VI (by rw[ZK];omega) (Z4 _));obtain⟨s',d',e1,_,e3,_⟩:=b2 t (Z3F ht);rw[e1,ZL,YO e3];have:=b4 s' d' e3;have h1:=this.len;have h2:=this.room;omega);have bC:=C.lt;have bD:=Z (show Z01 wr E m (R,J,N) (T,O,Q) from⟨C.cell 0,C.cell 1,C.cell 2,C.cell 3,C.cell 4,C.cell 5,C.cell 6,C.cell 7⟩);clear b6 ax ay a2 az aB bv hg a8 ba aD;go_upto_region 5 with fail;go_cut [26,27,28] (fun bE bF bG wy=>∃(A9:X_) (f c9:Nat) (D:List RD),bE=.slice A9 f c9∧bF=.int .i64 (f:Int)∧bG=.int .i64 0∧Hid (f=(YD m d.L).length)∧Hid (D.map RD.r=YD m d.L)∧Hid (ORs E wy (A9,f,c9) D)∧Hid (Below wr wr wy));·refine oS [] (fun w'=>Below wr wr w') [0,1,2,3,6,4,5] (bq_ (Z8 _ _) 1) fun hS=>?_;refine oV ?_;refine oV ?_;refine oC (v:= ?_) (y:=fun w hSw=>by refine Pure.call 30 #[(gs,()),(s:Int)] (by go_simp;first|done|rfl) ?_;refine(Z22 gs pg gd F p z m0 Ad Ao nd cd no co ts s w (b9.new_ hSw) bt _ bB).mono ?_;rintro e w' ⟨rfl,rfl⟩;refine⟨?_,rfl⟩;with_reducible rfl) (h:= ?_);refine oC (y:=fun w hSw=>by obtain⟨q0,q1,U,q3,q4,q5,q6,q7⟩:=bD.keep hSw bC;exact Y4) (h:= ?_);refine oV ?_;refine oG fun K hK=>?_;go_simp;go_at_call 100;refine(Z5S _ g pg d mk m B R T J N O Q aP _ (bz.new_ hS) aC (HM.below ((HB.trans (hS.mono a7)).mono ar)) (Zj ar (Zj a7 hS.size)) (Zj HM.oc.1 HM.oc.2)).mono ?_;rintro e w6 ⟨A9,f,c9,D,rfl,aE,bb,a3,bc⟩;have aF:=Z (bb.base (Zj a7 hS.size));have a1:=Z aE;have a9:=Z a3;have bH:=hS.trans (bc.mono hS.size);clear bb aE a3 bc;go_wp2_with fail;refine oK hK bH fun hS=>?_;refine oV ?_;refine oD ?_;go_wp2;go_meet;exact⟨A9,f,c9,D,rfl,rfl,rfl,a1,a9,aF,Z hS⟩
   case rest=>
   obtain⟨A9,f,c9,D,rfl,rfl,rfl,a1,a9,aF,aj⟩:=hcut;generalize wc=w5 at*;have ce:=aj.size;have bd:(YD m d.L).length≤512:=(by have h1:=Z3f m d.L;have h2:=Z5p d.L;have h3:=aC.len;have h4:=aC.room;omega);have bf:D.length=f:=(by have:=congrArg List.length a9;rw[Zz]at this;rw[this,a1]);have bg:=Z bf;have bI:=Z (HO.below aj);have bJ:=Z (HB.trans (aj.mono a7));have aE:f≤512:=(by rw[a1];exact bd);obtain⟨rs,aG⟩:=Zb (YD m d.L);rw[aG]at a1 a9 b7;have bK:=Z aG;clear bd bf aG ck;go_wp2;go_loopw [11,28] (fun av i wr=>∃(j l ca:Nat) (Aa:X_) (U:List ((Nat×Y_)×U2)),av=.slice Aa l ca∧j≤f∧l≤n1+j∧i=.int .i64 (j:Int)∧Hid (U.length=l)∧Hid (Vm E wr (Aa,l,ca) U)∧Hid (U.map Prod.fst=Vw m (Yu z) (a.take k) o b++Z0z o b (rs.take j))∧Hid (ORs E wr (A9,f,c9) D)∧Hid (Below E w wr)∧Hid (Row wr E 75 [m.seq,m.next,m.P.K,m.P.H,m.P.S,m.extra,(R,J,N),(T,O,Q)])) (fun _ i _=>f-(intOf i).toNat)
   ·exact⟨0,n1,ca,Aa,q,rfl,Y,Y,rfl,aw,bI,Z (by rw[HQ];simp[Z0z]),aF,bJ,Z (C.below aj C.lt)⟩
   ·obtain⟨j,l,bL,bM,U,rfl,hj,cf,rfl,a4,bh,ak,aH,aI,aJ⟩:=hrel;have bi:=aI.size;rw[a0]at bi;by_cases bj:j<f
    ·have cg:(j:Int)<(f:Int):=Y;have al:j<D.length:=(by rw[bg];exact bj);have am:j<rs.length:=(by rw[←a1];exact bj);have aK:=aH.own;rw[bg]at aK;obtain⟨bO,bP,rfl,_,hc⟩:=(Sl.own aK).at_ Y;obtain⟨x,hx⟩:=Zb (D[j]);have a3:rs[j]=x.r:=(by have h9:=a9.out;have h8:(D.map RD.r)[j]? =rs[j]? :=(by rw[h9]);rw[ZO,Z7 al,Z7 am,hx]at h8;simpa using h8.symm);have V:∀t,t<8→∀v,(en2 x)[t]? =some v→wr.cell? (bO,bP+(j*8+t))=some v:=fun t ht v hv=>hc _ _ (by rw[WW (enc:=en2) (K:=8) (fun _=>rfl) D j t al ht,Z6,Z7 al];simp only[Yz,hx];exact hv);have d0:=V 0 Y _ rfl;have d1:=V 1 Y _ rfl;have d2:=V 2 Y _ rfl;have d3:=V 3 Y _ rfl;have d4:=V 4 Y _ rfl;have d5:=V 5 Y _ rfl;have d6:=V 6 Y _ rfl;have d7:=V 7 Y _ rfl;simp only[←VU,XV,RD.dv]at d0 d1 d2 d3 d4 d5 d6 d7;have aa:=aH.at_ x (by rw[←hx];exact Zp _);have bk:=b7 rs[j] (Zp _);rw[a3]at bk;have an:=Z (fun h=>Zg7 (o:=o) (b:=b) am h);have ao:=Z (fun h=>Zj0 (o:=o) (b:=b) am h);rw[a3]at an ao;obtain⟨⟨xO,xB,xI,xP,xS,xD⟩,xA,xn,xc⟩:=x;obtain⟨xK,xH,xZ⟩:=xP;dsimp only at d0 d1 d2 d3 d4 d5 d6 d7 aa bk an ao;unfold RD.dv at aa;dsimp only at aa;obtain⟨xi,bl⟩:∃t:Nat,xI.toNat=t:=⟨_,rfl⟩;have bQ:xI=(xi:Int):=Y;rw[bl]at an;subst bQ;have G:Below wr wr (wr.alloc (.cells #[xO,xB,(xi:Int),xK,xH,xZ,.int .u32 (xS.toNat:Int),(xA,xn,xc)] 159)):=(Z8 _ _).alloc (Z4 _) _;have W:=Row.new wr 159 #[xO,xB,(xi:Int),xK,xH,xZ,.int .u32 (xS.toNat:Int),(xA,xn,xc)];obtain⟨g5,aL⟩:∃g,wr.heap.size=g:=⟨_,rfl⟩;have bm:=Z (aa.below G);have ap:=Z (bh.below G);have aq:=Z (aH.below G);have ab:=Z (aJ.below G aJ.lt);have ac:=Z (aI.trans (G.mono bi));rw[aL]at W;have ad:=Z W;have bR:=Z aL;clear aK G W aa hx a3 V hc al am aL bl;go_upto_region 8 with fail;rw[bR];generalize (wr.alloc (.cells #[xO,xB,(xi:Int),xK,xH,xZ,.int .u32 (xS.toNat:Int),(xA,xn,xc)] 159))=wv at bm ap aq ab ac ad ⊢;clear d0 d1 d2 d3 d4 d5 d6 d7;have x0:=Z9 ad 0;have x1:=Z9 ad 1;have x2:=Z9 ad 2;have x5:=Z9 ad 7;have bn:=ac.size;rw[a0]at bn;by_cases hO:xO=o
     ·by_cases bo:xB=b
      ·subst hO bo;have ae:=Z (an ⟨rfl,rfl⟩);go_wp2_with (first
        | ((with_reducible refine Xk 48 ?_);refine wpList_plain rfl (fun K hK=>?_);refine Z2y 146 210 (.tmp 47) rfl (xi:Int) (xA,xn,xc) rfl is _ _ underlying146 aR aT aU ?_;rintro w7 g7 a5 aM a6 bT;refine hK _ _ ?_;clear hK K;go_must (have bU:=Z aM);go_must (have ch:=aM.lt);go_must (have af:=Z (ap.below (show Below wv wv w7 by rw[a5];exact a6)));go_must (have bV:=Z (bm.below (show Below wv wv w7 by rw[a5];exact a6)));go_must (have bW:=Z (ab.below (show Below wv wv w7 by rw[a5];exact a6) ab.lt));go_must (have c0:=Z (aq.below (show Below wv wv w7 by rw[a5];exact a6)));go_must (have aO:=Z (ac.trans ((show Below wv wv w7 by rw[a5];exact a6).mono bn)));clear aM a6 a5 bT)
        | ((with_reducible refine Xk 49 ?_);go_must (refine Y5 rfl (.tmp 42) (.tmp 48) 146 rfl E 210 is _ 2 32 underlying146 aR aT aU bq rfl Y (bM,l,bL) l _ rfl (by have h9:=af.own;rw[a4]at h9;exact h9) (g7+1) (some ⟨g7,0,none⟩) 1 1 [(xi:Int),(xA,xn,xc)] rfl (Z2I bU rfl (Z1L _)) (by simp[Value.oneCell']) (l+1) rfl _ rfl Y Y (YU aO.size a0.out) ?_);intro A8 c8 w8 bp ag _;go_must (have c1:=Z (Y9 aO af.own ag (Z4 _) (YU aO.size a0.out)));go_must (have c2:=Z (af.push (x:=((xi,xD),.slice xA xn xc)) bV (by rw[a4];exact bp) ag));go_must (have c3:=Z (Wv bW af.own ag Z5));go_must (have c4:=Z (c0.other af.own ag Z5 Z5));clear bp ag))
       go_roundw;·exact⟨j+1,l+1,_,_,_,rfl,Y,Y,Zg,Z (by rw[Zw,a4];rfl),c2,Z (by rw[ZV,ak,ae,YH];rfl),c4,c1,c3⟩
       ·exact Zh
      ·subst hO;have ae:=Z (ao (fun h=>bo h.2));go_wp2;go_roundw;·exact⟨j+1,l,_,_,U,rfl,Y,Y,Zg,a4,ap,Z (by rw[ak,ae]),aq,ac,ab⟩
       ·exact Zh
     ·have ae:=Z (ao (fun h=>hO h.1));go_wp2;go_roundw;·exact⟨j+1,l,_,_,U,rfl,Y,Y,Zg,a4,ap,Z (by rw[ak,ae]),aq,ac,ab⟩
      ·exact Zh
    ·obtain rfl:j=f:=Y;have c5:=Z (show U.map Prod.fst=Vw m (Yu z) (a.take (k+1)) o b by rw[ak,bw,bx,bK,a1,Xm]);go_wp2;go_roundw;·exact⟨k+1,l,_,_,U,rfl,Y,Zg,a4,bh,c5,aI,aJ⟩
     ·exact Zh
  ·obtain rfl:k=n:=Y;have c6:a.take k=a:=(by rw[←b3];exact Xm);rw[c6]at HQ;go_wp2;go_ret;exact⟨_,_,_,_,rfl,aw,HO,HQ,HB⟩
structure DG (d:Dr):Prop where
 s:d.s=Pw.new
 lost:d.lost=false
 ok:DOk 0 d
theorem DG.append {d:Dr}(h:DG d){l:Y_}(c:l.length=64)(f:d.L.length<d.room):(d.append l).2=0∧DG (d.append l).1∧(d.append l).1.L=d.L++ [l]∧(d.append l).1.room=d.room:=by
 have e:d.append l=({ d with L:=d.L++ [l],wait:=d.wait+1,s:=d.s.step}.went,0):=by unfold Dr.append;rw[if_neg Y,h.lost,if_neg Ze,if_neg Y,h.s,if_neg Z5,if_pos (by rfl)]
 rw[e];have b:=h.ok;refine⟨rfl,⟨?_,h.lost,⟨b.room,?_,ZY _,?_,fun x a=>?_,(fun x a=>by cases a),?_,?_⟩⟩,rfl,rfl⟩;·show d.s.step=Pw.new;rw[h.s];rfl
 ·show(d.L++ [l]).length≤d.room;rw[Zw,Z05];omega
 ·show d.wait+1≤(d.L++ [l]).length;have:=b.wait;rw[Zw,Z05];omega
 ·rcases YZ.1 a with a|a;·exact b.cells x a
  ·rw[Yn]at a;subst a;exact c
 ·show 0≤d.s.step.left∧d.s.step.left≤_;rw[h.s];decide
 ·show 0≤d.s.step.offs∧d.s.step.offs≤_;rw[h.s];decide
theorem DG.sync {d:Dr}(h:DG d):d.sync.2=0∧DG d.sync.1∧d.sync.1.L=d.L∧d.sync.1.room=d.room:=by
 have e:d.sync=({ d with wait:=0,s:=d.s.step}.went,0):=by unfold Dr.sync;rw[h.lost,if_neg Ze,h.s,if_pos (by rfl)]
 rw[e];have a:=h.ok;refine⟨rfl,⟨?_,h.lost,⟨a.room,a.len,ZY _,ZY _,a.cells,(fun x b=>by cases b),?_,?_⟩⟩,rfl,rfl⟩;·show d.s.step=Pw.new;rw[h.s];rfl
 ·show 0≤d.s.step.left∧d.s.step.left≤_;rw[h.s];decide
 ·show 0≤d.s.step.offs∧d.s.step.offs≤_;rw[h.s];decide
theorem DG.new_ {n:Nat}(h:1≤n∧n≤512):DG (Dr.new Pw.new n):=
 ⟨rfl,rfl,⟨h,ZY _,ZY _,Z4 _,(fun x a=>by cases a),(fun x a=>by cases a),(show 0≤Pw.new.left∧Pw.new.left≤9223372036854775807 from Z5),(show 0≤Pw.new.offs∧Pw.new.offs≤(0:Nat) from Z5)⟩⟩
section
def FG (fl:Nat→Option Dr):Prop:=∀s d,fl s=some d→DG d
def XJ (P:Nat→Z0) (fl b:Nat→Option Dr):Prop:=∀s,(fl s=none→b s=none)∧∀d,fl s=some d→∃a,b s=some a∧a.room=d.room∧a.L=d.L++P s
theorem XJ.refl (fl:Nat→Option Dr):XJ (fun _=> []) fl fl:=fun _=>⟨id,fun d h=>⟨d,h,rfl,Ze⟩⟩
theorem XJ.trans {P Q:Nat→Z0}{fl a b:Nat→Option Dr}(h:XJ P fl a)(c:XJ Q a b):XJ (fun s=>P s++Q s) fl b:=fun s=>⟨fun e=>(c s).1 ((h s).1 e),fun d f=>by obtain⟨g,i,j,k⟩:=(h s).2 d f;obtain⟨l,m,n,o⟩:=(c s).2 g i;exact⟨l,m,n.trans j,by rw[o,k,YH]⟩⟩
theorem XJ.to {P Q:Nat→Z0}{fl a:Nat→Option Dr}(h:XJ P fl a)(e:∀s,P s=Q s):XJ Q fl a:=fun s=>⟨(h s).1,fun d b=>by obtain⟨c,f,g,i⟩:=(h s).2 d b;exact⟨c,f,g,by rw[i,e]⟩⟩
theorem XJ.one {fl:Nat→Option Dr}{s:Nat}{d b:Dr}(f:fl s=some d){l:Z0}(h:b.room=d.room)(i:b.L=d.L++l):XJ (fun t=>if t=s then l else []) fl (Yw fl s (some b)):=fun t=>by
 by_cases e:t=s;·subst e;refine⟨fun c=>(by rw[f]at c;cases c),fun g a=>?_⟩;rw[f]at a;injection a with a;subst a;exact⟨b,YV _ _ _,h,by dsimp only;rw[if_pos rfl];exact i⟩
 ·refine⟨fun c=>by rw[YB e];exact c,fun g a=>⟨g,by rw[YB e];exact a,rfl,by dsimp only;rw[if_neg e];simp⟩⟩
theorem FG.upd {fl:Nat→Option Dr}(h:FG fl)(s:Nat){d:Dr}(b:DG d):FG (Yw fl s (some d)):=fun t x a=>by
 by_cases e:t=s;·subst e;rw[YV]at a;injection a with a;exact a ▸ b
 ·rw[YB e]at a;exact h t x a
theorem FG.ok {fl:Nat→Option Dr}(h:FG fl):∀s d,fl s=some d→DOk 0 d:=fun s d a=>(h s d a).ok
def XO (fl:Nat→Option Dr) (l:W_):Prop:=∀x∈l,∃s d,x=((s:Nat):Int)∧s<64∧fl s=some d
theorem XO.live {fl:Nat→Option Dr}{l:W_}(h:XO fl l)(b:FG fl):Z1Q fl l:=fun x c=>by obtain⟨s,d,e,f,a⟩:=h x c;exact⟨s,d,e,f,a,(b s d a).lost⟩
theorem XO.adds {P:Nat→Z0}{fl a:Nat→Option Dr}{l:W_}(h:XO fl l)(b:XJ P fl a):XO a l:=fun x c=>by obtain⟨s,d,e,f,g⟩:=h x c;obtain⟨i,j,_⟩:=(b s).2 d g;exact⟨s,i,e,f,j⟩
structure SS (M0:Nat→Prop) (w0 w:World) (gs pg:Nat) (gd:Nat→Nat) (F:Nat→Nat→Prop) (fl0 fl:Nat→Option Dr) (P:Nat→List (List Byte)) (m:Zd) (Ad:Option Addr) (nd cd:Nat) (Ao:Option Addr) (no co:Nat) (ts:List Value):Prop where
 sm:SM w gs pg gd F Pw.new fl m Ad nd cd Ao no co ts
 fg:FG fl
 ad:XJ P fl0 fl
 mu:∀k,Zy gs pg F k→Ext M0 w0 w k
 on:Only M0 w0 w
 m0:Z0_ M0 w0 m Ad nd cd Ao no co ts
section
variable {M0:U0} {w0 w w':U1} {gs pg:Nat} {gd:Nat→Nat} {F:Nat→U0} {fl0 fl:Nat→Option Dr} {P:Nat→Z0} {m:Zd} {Ad Ao:X_} {nd cd no co:Nat} {ts:Z_}
theorem SS.start (h:SM w gs pg gd F Pw.new fl m Ad nd cd Ao no co ts)(a:FG fl):SS (Zy gs pg F) w w gs pg gd F fl fl (fun _=> []) m Ad nd cd Ao no co ts:=
 ⟨h,a,XJ.refl _,fun k b=>.inl b,Only.refl _ _,h.mani⟩
theorem SS.new_ (h:SS M0 w0 w gs pg gd F fl0 fl P m Ad nd cd Ao no co ts)(b:Below w w w'):SS M0 w0 w' gs pg gd F fl0 fl P m Ad nd cd Ao no co ts:=
 ⟨h.sm.new_ b,h.fg,h.ad,fun k c=>by
  rcases h.mu k c with a|a;·exact .inl a
  ·exact .inr ⟨a.1,YI a.2 b.size⟩,h.on.trans (Only.of_new (F:=M0) b) fun _ _ c=>c,h.m0⟩
theorem SS.step (h:SS M0 w0 w gs pg gd F fl0 fl P m Ad nd cd Ao no co ts){s:Nat}{d f:Dr}(j:fl s=some d){l:Z0}(g:Only (fun k=>k=pg∨F s k) w w')(q:Yj (Ext (fun k=>k=pg∨F s k) w w') w' (gd s) pg f)(n:DG f)(r:f.room=d.room)(v:f.L=d.L++l):
  ∃o x,SS M0 w0 w' gs pg gd o fl0 x (fun t=>P t++if t=s then l else []) m Ad nd cd Ao no co ts∧∀k,k<w.heap.size→Zy gs pg o k→Zy gs pg F k:=by
 have y:∀k,(k=pg∨F s k)→Zy gs pg F k:=fun k a=>by
  rcases a with a|a;·exact .inr (.inl a)
  ·exact .inr (.inr ⟨s,a⟩)
 have z:=g.size;have A:=h.on.size;have p:∀k,Zy gs pg (Yw F s fun k=>F s k∨(w.heap.size≤k∧k<w')) k→Zy gs pg F k∨(w.heap.size≤k∧k<w'):=fun k a=>by
  rcases a with a|a|⟨t,a⟩;·exact .inl (.inl a)
  ·exact .inl (.inr (.inl a))
  ·by_cases e:t=s
   ·rw[e,YV]at a;rcases a with a|a;·exact .inl (.inr (.inr ⟨s,a⟩))
    ·exact .inr a
   ·rw[YB e]at a;exact .inl (.inr (.inr ⟨t,a⟩))
 refine⟨_,_,⟨h.sm.drive j g q n.s,h.fg.upd s n,h.ad.trans (XJ.one j r v),fun k a=>?_,h.on.trans g fun k a i=>?_,h.m0⟩,fun k a i=>?_⟩
 ·rcases p k a with b|b
  ·rcases h.mu k b with c|c;·exact .inl c
   ·exact .inr ⟨c.1,Y⟩
  ·exact .inr ⟨Y,b.2⟩
 ·rcases h.mu k (y k i) with c|c;·exact c
  ·omega
 ·rcases p k i with b|b;·exact b
  ·omega
theorem SS.to (h:SS M0 w0 w gs pg gd F fl0 fl P m Ad nd cd Ao no co ts){Q:Nat→Z0}(e:∀s,P s=Q s):SS M0 w0 w gs pg gd F fl0 fl Q m Ad nd cd Ao no co ts:=⟨h.sm,h.fg,h.ad.to e,h.mu,h.on,h.m0⟩
theorem SS.other (h:SS M0 w0 w gs pg gd F fl0 fl P m Ad nd cd Ao no co ts){G:U0}(c:Only G w w')(f:∀k,G k→¬Zy gs pg F k∧w0.heap.size≤k):SS M0 w0 w' gs pg gd F fl0 fl P m Ad nd cd Ao no co ts:=by
 have g:Only M0 w0 w':=h.on.trans c fun k a j=>Zc ((f k j).2);have l:=c.size;refine⟨⟨h.sm.row.only c fun e=>(f _ e).1 (.inl rfl),h.sm.pow.only c fun e=>(f _ e).1 (.inr (.inl rfl)),fun s d i=>⟨(h.sm.dr s d i).1.only c fun k a e=>(f _ e).1 ?_,(h.sm.dr s d i).2⟩,h.sm.np,h.sm.dj,fun s k a=>YI (h.sm.lt s k a) l,h.m0.next g fun k a n=>?_⟩,h.fg,h.ad,fun k a=>?_,g,h.m0⟩
 ·rcases a with a|a;·exact .inr (.inl a)
  ·exact .inr (.inr ⟨s,a⟩)
 ·rcases h.mu k n with b|b;·exact b
  ·omega
 ·rcases h.mu k a with b|b;·exact .inl b
  ·exact .inr ⟨b.1,Y⟩
theorem SS.more (h:SS M0 w0 w gs pg gd F fl0 fl P m Ad nd cd Ao no co ts){d:Nat→U0}{e:Nat→Option Dr}{Q:Nat→Z0}(a:SS (Zy gs pg F) w w' gs pg gd d fl e Q m Ad nd cd Ao no co ts):SS M0 w0 w' gs pg gd d fl0 e (fun s=>P s++Q s) m Ad nd cd Ao no co ts:=by
 have i:=a.on.size;have j:=h.on.size;refine⟨a.sm,a.fg,h.ad.trans a.ad,fun k f=>?_,h.on.trans a.on fun k f g=>?_,h.m0⟩
 ·rcases a.mu k f with c|c
  ·rcases h.mu k c with b|b;·exact .inl b
   ·exact .inr ⟨b.1,Y⟩
  ·exact .inr ⟨Y,c.2⟩
 ·rcases h.mu k g with b|b;·exact b
  ·omega
theorem Yj.ext_ {G:U0}{g:Nat}{d:Dr}(h:Yj G w' g pg d):Yj (Ext G w w') w' g pg d:=by
 have b:∀k,G k→k<w':=by obtain⟨c,e,f,i,h⟩:=h;exact h.lt
 exact h.mono_ (fun k a=>.inl a) fun k a=>by
  rcases a with a|a;·exact b k a
  ·exact a.2
end
end
theorem Zcf (a b:Nat)(j:Nat→Nat)(F:Nat→U0)(o:Nat→Option Dr)(m:Zd)(D E:X_)(G H no I:Nat)(J:Z_)(B n c:Nat)(A:X_)(l:W_)(w:U1)
  (h:SM w a b j F Pw.new o m D G H E no I J) (hg:FG o) (S:Sl w B 1 A n (l.map iv)) (hB:B≤w) (hn:n≤1000000) (hl:XO o l):
  Calls prog 120 #[.func (.func 30) #[(a,())] #[],(A,n,c)] w fun e T=>e=.returned Nat∧∃F' a8,SS (Zy a b F) w T a b j F' o a8 (fun _=> []) m D G H E no I J:=by
 have az:l.length=n:=by have:=S.len;simpa using this
 have eg:∀U w,(callFunc 30 U).run prog w=.ok (.enter 30 U) w:=fun _ _=>rfl;have V:=SS.start h hg;have a9:=S;have aa:=hl;go_enter func120,ntmps120;go_wp2_with fail;refine(Z4K B A n c (l.map iv) w a9 (fun u hu=>by obtain⟨y,_,rfl⟩:=ZT.1 hu;rfl) hB Y).mono ?_;rintro e w1 ⟨v,p,rfl,W,a0⟩;go_wp2_with fail;refine(Z6a w v n p l w1 W Y).mono ?_;rintro e w2 ⟨rfl,a1,ab⟩;have a2:=Y9 a0 W ab (Z4 _) a0.size;go_wp2_with fail;refine(ZbJ w v n p (XI l) w2 a1 Y).mono ?_;rintro e w3 ⟨f,rfl,P,a3,aB,ac⟩;have ae:=Y9 a2 a1 ac (Z4 _) a2.size;have HZ:=Z (show ∀x∈Lib.compact (XI l),x∈l from fun x hx=>(Z3k l).mem_iff.1 (Zck hx));obtain⟨L,af⟩:=Zb (Lib.compact (XI l));rw[af]at P a3 HZ;have ag:=Z a3;have ah:=V.new_ ae;have ai:=Z (show ∀k,(Value.slice v f p).ownBlock=some k→¬Zy a b F k from fun k hk g=>by have h1:=(ZC P k hk).1;have h2:=V.sm.mlt k g;omega);go_wp2;go_loopw [15] (fun i wr=>∃(k:Nat) (z:Nat→U0) (C:Nat→Option Dr),k≤f∧i=.int .i64 (k:Int)∧Hid (SS (Zy a b F) w wr a b j z o C (fun _=> []) m D G H E no I J)∧Hid (wr.ownsRow w 3 1 (v,f,p) f (L.map iv))∧Hid (∀k,(Value.slice v f p).ownBlock=some k→¬Zy a b z k)) (fun i _=>f-(intOf i).toNat)
 ·exact⟨0,F,o,Y,rfl,ah,P,ai⟩
 ·obtain⟨k,z,C,hk,rfl,r,R,HN⟩:=hrel;by_cases a4:k<f
  ·have aC:(k:Int)<(f:Int):=Y;have a5:k<L.length:=(by rw[ag];exact a4);obtain⟨be,oe,rfl,aD,ck⟩:=(Sl.own R).get a4 (Xx L k a5);obtain⟨s,d,aj,ak,M⟩:=(aa.adds r.ad) (L.getD k 0) (HZ _ (by rw[Z6,Z7 a5];exact Zp _));rw[aj]at ck;have al:X3 j C s=.pointer (some ⟨j s,0,none⟩):=(by unfold X3;rw[M]);have am:=Z (r.sm.dr s d M).1;have a6:=r.fg s d M;have an:=Z M;have ao:=Z22 a b j z Pw.new C m D E G H no I J s wr r.sm ak _ al;go_wp2_with (first
    | (go_at_fn 30;go_must (refine ao.mono ?_);rintro e T ⟨rfl,rfl⟩)
    |fail)
   refine(ZdY _ (j s) b d 0 wr am a6.ok Y).mono ?_;rintro e w6 ⟨rfl,ap,a7⟩;have N:=a6.sync;rw[N.1];obtain⟨F6,aq,ar,av⟩:=r.step (l:= []) an a7 ap.ext_ N.2.1 N.2.2.2 (by rw[N.2.2.1,Wo]);have aw:=ar.to (Q:=fun _=> []) (fun t=>Ze);have ax:=Z (show ∀q,(Value.slice (some ⟨be,oe,none⟩) f p).ownBlock=some q→¬Zy a b F6 q from fun q O g=>HN q O (av q (ZC R q O).2 g));have ay:=(Zu R a7 (fun q O g=>HN q O (by
    rcases g with g|g;·exact .inr (.inl g)
    ·exact .inr (.inr ⟨s,g⟩))))
   go_wp2;go_roundw;·exact⟨k+1,F6,aq,Y,Zg,aw,ay,ax⟩
   ·exact Zh
  ·go_wp2;go_ret;exact⟨rfl,z,C,r⟩
def ZQ (q:List (Nat×Y_)) (s:Nat):Z0:=(q.filter fun x=>decide (x.1=s)).map Prod.snd
theorem Z7Q (q:List (Nat×Y_))(x:Nat×Y_)(s:Nat):ZQ (q++ [x]) s=ZQ q s++if s=x.1 then [x.2] else []:=by
 unfold ZQ;rw[Vs,ZV];congr 1;by_cases h:x.1=s;·rw[Z1v (by simpa using h),if_pos h.symm];rfl
 ·rw[Z2h (by simpa using h),if_neg (fun e=>h e.symm)];rfl
theorem Z82 (a b:List (Nat×Y_))(s:Nat):ZQ (a++b) s=ZQ a s++ZQ b s:=by unfold ZQ;rw[Vs,ZV]
theorem Zcl {q:List (Nat×Y_)}{k:Nat}(b:k<q.length):(ZQ (q.take k) q[k].1).length<(ZQ q q[k].1).length:=by
 obtain⟨s,a⟩:=Zb (q[k].1);have c:ZQ q s=ZQ (q.take k) s++ZQ (q[k]::q.drop (k+1)) s:=by rw[←Z82,←Z0q b,Vh]
 have d:1≤(ZQ (q[k]::q.drop (k+1)) s).length:=by unfold ZQ;rw[Z1v (by simpa using a),WQ,XQ];omega
 rw[a,c,Zw];omega
theorem Z4H (b f:Nat)(C:Nat→Nat)(F:Nat→U0)(o:Nat→Option Dr)(m:Zd)(G H:X_)(I J no M:Nat)(N:Z_)(n c:Nat)(A:X_)(q:List ((Nat×Y_)×U2))(w:U1)
  (h:SM w b f C F Pw.new o m G I J H no M N) (hg:FG o) (hq:Wj (Zy b f F) w fun O=>RSy O O A n q) (hn:n≤100000) (hs:∀x∈q,x.1.1<64∧x.1.2.length=64)
  (hr:∀x∈q,∃d,o x.1.1=some d∧d.L.length+(ZQ (q.map Prod.fst) x.1.1).length≤d.room):
  Calls prog 59 #[.func (.func 30) #[(b,())] #[],(A,n,c)] w fun e O=>e=.returned Nat∧∃F' aV,SS (Zy b f F) w O b f C F' o aV (ZQ (q.map Prod.fst)) m G I J H no M N:=by
 obtain⟨ii,an,ao,ap,aW⟩:=info_parts VC;have aq:q.length=n:=hq.now.len;have eg:∀ar w,(callFunc 30 ar).run prog w=.ok (.enter 30 ar) w:=fun _ _=>rfl;have b0:=Z (SS.start h hg);have HQ:=Z hq;have av:=Z aq;have HS:=Z hs;have HR:=Z hr;have b1:=Z (show SS (Zy b f F) w w b f C F o o (ZQ ((q.take 0).map Prod.fst)) m G I J H no M N from b0.to fun s=>rfl);clear h hg hq hs hr aq;go_enter func59,ntmps59;go_wp2;go_loopw [5,11] (fun s5 i wr=>∃(k r:Nat) (z:X_) (P:W_) (B:Nat→U0) (a0:Nat→Option Dr),s5=.slice z k r∧k≤n∧i=.int .i64 (k:Int)∧Hid (SS (Zy b f F) w wr b f C B o a0 (ZQ ((q.take k).map Prod.fst)) m G I J H no M N)∧Hid (wr.ownsRow w 3 1 (z,k,r) k (P.map iv))∧Hid (∀a,(Value.slice z k r).ownBlock=some a→¬Zy b f B a)∧Hid (XO o P)) (fun _ i _=>n-(intOf i).toNat)
 ·exact⟨0,0,none, [],F,o,rfl,Y,rfl,b1,Z (Yi _ _ _ _),Z (fun a T=>by cases T),Z (fun x hx=>by cases hx)⟩
 ·obtain⟨k,r,z,P,B,a0,rfl,D,rfl,j,HO,HN,aw⟩:=hrel;have bx:=j.on.size;by_cases ax:k<n
  ·have bz:(k:Int)<(n:Int):=Y;have a6:k<q.length:=(by rw[av];exact ax);have ay:=HQ.at_ j.on;have b2:=ay;obtain⟨be,oe,x,rfl,U,a7,d0,d1⟩:=(HQ wr j.on).get ax;have b3:=(HQ wr j.on).at_ x a7;obtain⟨Ax,cx,a9,b4,bB,aa⟩:=b3;obtain⟨ab,ac⟩:=HS x a7;obtain⟨dd,ae,b5⟩:=HR x a7;obtain⟨d,a2,b6,az⟩:=(j.ad x.1.1).2 dd ae;rw[Z7 a6]at U;injection U with U;have aB:(q.take (k+1)).map Prod.fst=(q.take k).map Prod.fst++ [x.1]:=(by rw[ZR a6,U];simp);have b7:(ZQ ((q.take k).map Prod.fst) x.1.1).length<(ZQ (q.map Prod.fst) x.1.1).length:=(by have h9:=Zcl (q:=q.map Prod.fst) (k:=k) (by rw[Zz];exact a6);rw[List.getElem_map,U,←Z1M]at h9;exact h9);have aC:d.L.length<d.room:=(by rw[az,b6,Zw];omega);rw[ac]at a9 b4 aa;rw[a9]at d1;obtain⟨s,V⟩:=Zb x.1.1;have aD:X3 C a0 s=.pointer (some ⟨C s,0,none⟩):=(by rw[←V];unfold X3;rw[a2]);have b9:=Z (show XO o (P++ [(s:Int)]) from fun y W=>by
    rcases YZ.1 W with W|W;·exact aw y W
    ·rw[Yn]at W;exact⟨s,dd,W,by rw[←V];exact ab,by rw[←V];exact ae⟩)
   have ba:=Z (show ∀t,ZQ ((q.take (k+1)).map Prod.fst) t=ZQ ((q.take k).map Prod.fst) t++if t=s then [x.1.2] else [] from fun t=>by rw[aB,Z7Q,V]);rw[V]at d0 a2 ab;have aE:=Z (j.fg s d a2);have aF:=Z a2;have bb:=Z aC;have bc:=Z ac;have bd:=Z aD;have a1:Below wr wr (wr.alloc (.cells #[(s:Int),(Ax,64,cx)] 140)):=(Z8 _ _).alloc (Z4 _) _;have r1:=Row.new wr 140 #[(s:Int),(Ax,64,cx)];obtain⟨g5,af⟩:∃g,wr.heap.size=g:=⟨_,rfl⟩;have a8:=Z (j.new_ a1);have aG:=Z ((aa.below a1).mono a1.size);have ag:=Z (HO.kept (ZB a1 none) (by cases (Value.slice z k r).ownBlock <;> simp));have bf:=Z (show ¬Zy b f B g5 from fun E=>Zc (j.sm.mlt g5 E));rw[af]at r1;have a3:=Z r1;have bg:=Z af;clear a1 r1 af ay b2 a9 aa ae b5 a2 az U a7 aB b7 aC ac aD V a6;go_upto_region 5 with fail;rw[bg];generalize (wr.alloc (.cells #[(s:Int),(Ax,64,cx)] 140))=wv at a8 aG ag a3 ⊢;clear d0 d1;have aH:=a3.lt;have x0:=Z9 a3 0;have x1:=Z9 a3 1;go_cut [8] (fun s8 wy=>∃(l:Nat→U0) (R:Nat→Option Dr),s8=.int .i64 0∧Hid (SS (Zy b f F) w wy b f C l o R (fun t=>ZQ ((q.take k).map Prod.fst) t++if t=s then [x.1.2] else []) m G I J H no M N)∧Hid (∀k,k<wv.heap.size→Zy b f l k→Zy b f B k)∧Hid (Only (Zy b f B) wv wy))
   ·refine oS [6] (fun O=>Below wv wv O) [0,1,2,3,4,5,6,7] (bq_ (Z8 _ _) 1) fun hS=>?_;refine oV ?_;refine oV ?_;refine ZH (fun w hSw=>(hSw.cell (p:=g5) aH).trans x0) ?_;refine oC (v:= ?_) (y:=fun w hSw=>by refine Pure.call 30 #[(b,()),(s:Int)] (by go_simp;first|done|rfl) ?_;refine(Z22 b f C B Pw.new a0 m G H I J no M N s w (a8.new_ hSw).sm ab _ bd).mono ?_;rintro e O ⟨rfl,rfl⟩;refine⟨?_,rfl⟩;with_reducible rfl) (h:= ?_);refine oV ?_;refine ZH (fun w hSw=>(hSw.cell (p:=⟨g5,1,none⟩) aH).trans x1) ?_;refine oM 6 fun K hK=>?_;go_simp;go_at_call 119;refine(Zcb _ (C s) f d 0 wv.heap.size Ax x.1.2 64 cx _ ((a8.new_ hS).sm.dr s d aF).1 aE.ok Y (aG.below hS) hS.size Y).mono ?_;rintro e S ⟨rfl,aI,ah⟩;have a4:=aE.append bc bb;obtain⟨l,R,aJ,aK⟩:=(a8.new_ hS).step aF ah aI a4.2.1 a4.2.2.2 a4.2.2.1;rw[a4.1];have a5:=Z aJ;have bh:=Z (show ∀k,k<wv.heap.size→Zy b f l k→Zy b f B k from fun k D=>aK k (YI D hS.size));have bi:=Z (show Only (Zy b f B) wv S from(Only.of_new (F:=Zy b f B) hS).trans ah fun k _ D=>by
     rcases D with D|D;·exact .inr (.inl D)
     ·exact .inr (.inr ⟨s,D⟩))
    clear aI aJ aK a4 ah;go_wp2_with fail;refine oL hK ?_;refine oF ?_ (sP 6);refine oD ?_;go_wp2;go_meet;exact⟨l,R,rfl,a5,bh,bi⟩
   case rest=>
   obtain⟨l,R,rfl,a5,bj,aL⟩:=hcut;generalize wc=S at*;have aM:=Z (a5.to (Q:=ZQ ((q.take (k+1)).map Prod.fst)) (fun t=>(ba t).symm));have bk:=Z (Zu ag aL (fun a T E=>HN a T E));have bl:=Z (show ∀a,(Value.slice z k r).ownBlock=some a→¬Zy b f l a from fun a T E=>HN a T (bj a (ZC ag a T).2 E));have y0:=(a3.only aL bf).cell 0;simp only[ZE]at y0;have bC:=aM.on.size;clear x0 x1;go_wp2_with (first
    | ((with_reducible refine Xk 28 ?_);refine wpList_plain rfl (fun K hK=>?_);refine WJ 22 3 (.tmp 27) rfl (s:Int) rfl rfl ii _ underlying22 an ao ap rfl ?_;rintro w8 g8 ai aj ak bm;refine hK _ _ ?_;clear hK K;go_must (have bn:=Z aj);go_must (have bo:=aj.lt);go_must (have aO:=Z (bk.kept (ZB (show Below S S w8 by rw[ai];exact ak) none) (by cases (Value.slice z k r).ownBlock <;> simp)));go_must (have al:=Z (aM.new_ (show Below S S w8 by rw[ai];exact ak)));clear aj ak ai bm)
    | ((with_reducible refine Xk 29 ?_);go_must (refine Y5 rfl (.tmp 25) (.tmp 28) 22 rfl w 3 ii _ 1 8 underlying22 an ao ap aW rfl Y (z,k,r) k _ rfl aO w8 (some ⟨g8,0,none⟩) 1 1 [iv (s:Int)] rfl (bn.sl bo (Z4 _)) (by simp[Value.oneCell',iv]) (k+1) rfl _ rfl Y Y al.on.size ?_);intro A9 c9 w9 aP aQ aR;go_must (have bp:=Z aP);go_must (have bq:=Z aQ);go_must (have br:=Z aR);clear aP aQ aR))
   have am:∀a,(Value.slice z k r).ownBlock=some a→¬Zy b f l a:=bl;have aT:=al.other (Only.of_grown (F:=fun a=>(Value.slice z k r).ownBlock=some a) bq (fun a e=>e)) (fun a e=>⟨am a e,(ZC aO a e).1⟩);have bs:=Z aT;have bt:=Z (show ∀a,(Value.slice A9 (k+1) c9).ownBlock=some a→¬Zy b f l a from fun a e E=>by
    rcases br.out with e9|e9;·rw[e9]at e;exact am a e E
    ·rw[e9]at e;injection e with e;have:=al.sm.mlt a E;omega)
   have bv:=Z (show w9.ownsRow w 3 1 (A9,(k+1),c9) (k+1) ((P++ [(s:Int)]).map iv) by rw[ZV];exact bp);clear am aT;go_roundw;·exact⟨k+1,c9,A9,P++ [(s:Int)],l,R,rfl,Y,Zg,bs,bv,bt,b9⟩
   ·exact Zh
  ·obtain rfl:k=n:=Y;have bw:q.take k=q:=(by rw[←av];exact Xm);rw[bw]at j;go_wp2_with fail;refine(Zcf b f C B a0 m G H I J no M N wr k r z P wr j.sm j.fg (Sl.own HO) (Z4 _) Y (aw.adds j.ad)).mono ?_;rintro e S ⟨rfl,l,R,aU⟩;have a5:=Z (j.more aU);clear aU;go_wp2;go_ret;exact⟨rfl,l,R,a5.to fun s=>Ze⟩
structure YN (base:Nat) (w:World) (v:Value) (q:List ((Nat×List Byte)×Value)):Prop where
 own:w.ownsRow base 140 2 v q.length (q.flatMap Z20)
 at_:∀x∈q,OB base w x.2 x.1.2
theorem YN.nil_ (base:Nat)(w:U1):YN base w () []:=⟨Yi _ _ _ _,fun x a=>by cases a⟩
theorem YN.below {base:Nat}{w':U1}{v:U2}{q:List ((Nat×Y_)×U2)}(h:YN base w v q)(a:Below w w w'):YN base w' v q:=
 ⟨h.own.kept (ZB a none) (by cases v.ownBlock <;> simp),fun x b=>(h.at_ x b).below a⟩
theorem YN.push {base:Nat}{w w':U1}{v v':U2}{q:List ((Nat×Y_)×U2)}{x:(Nat×Y_)×U2}(h:YN base w v q)(b:OB base w x.2 x.1.2)(d:w'.ownsRow base 140 2 v' (q.length+1) (q.flatMap Z20++Z20 x))(c:w.grownBy w' v.ownBlock):YN base w' v' (q++ [x]):=by
 refine⟨by simpa using d,fun y a=>?_⟩;rcases YZ.1 a with a|a;·exact(h.at_ y a).keep c (YF (h.at_ y a) h.own Z5)
 ·simp only[Yn]at a;subst a;exact b.keep c (YF b h.own Z5)
theorem YN.read {base:Nat}{q:List ((Nat×Y_)×U2)}(h:YN base w (A,n,m) q)(a:q.length=n):RSy w w A n q:=by subst a;exact⟨Sl.own h.own,rfl,fun x b=>(h.at_ x b).read⟩
theorem YN.base {base a:Nat}{w:U1}{v:U2}{q:List ((Nat×Y_)×U2)}(h:YN base w v q)(b:a≤base):YN a w v q:=⟨ZA h.own b,fun x c=>ZA (h.at_ x c) b⟩
theorem YN.far {base:Nat}{q:List ((Nat×Y_)×U2)}(h:YN base w x q)(b:∀k,F k→k<base)(c:Only F w v):YN base v x q:=
 ⟨Z3s h.own b c,fun a d=>Z3s (h.at_ a d) b c⟩
theorem YN.stb {q:List ((Nat×Y_)×U2)}{G:U0}(h:YN n w (A,m,k) q)(c:q.length=m)(d:∀a,G a→a<n):Wj G w fun b=>RSy b b A m q:=fun _ e=>(h.far d e).read c
theorem Zq.other {w':U1}{b:Z0}(h:Zq n w x l b)(c:w.ownsRow m t i y k L)(d:w.grownBy w' y.ownBlock)(f:32≠t)(g:5≠t):Zq n w' x l b:=
 ⟨h.own.kept d (YF h.own c f),fun a e=>(h.at_ a e).keep d (YF (h.at_ a e) c g)⟩
def pgQ (m:Zd) (l:W_):List (Nat×Y_):=l.flatMap fun s=>(ZI m.seq (pack m)).map fun c=>(s.toNat,c)
theorem Z7n:(prog.info? 140).map (fun i=>(i.zero,i.size,i.bytes))=some (some (.agg #[Nat,()]),2,32):=Zi
theorem Z7P (m:Zd)(B t v no y:Nat)(z C:X_)(ts:Z_)(n c:Nat)(A:X_)(l:W_)(w:U1)
  (hm:RM w B m z t v C no y ts) (hB:B≤w) (ag:m.may=true) (L:Sl w w 1 A n (l.map iv)) (hn:n≤64) (hl:∀x∈l,0≤x):
  Calls prog 60 #[m.val (z,t,v) (C,no,y),(A,n,c)] w fun e w'=>∃A' n' c' q,e=.returned (.slice A' n' c')∧q.length=n'∧YN w w' (A',n',c') q∧q.map Prod.fst=pgQ m l∧Below w w w':=by
 obtain⟨is,ah,ai,aj,aE⟩:=info_parts Z7n;have ak:l.length=n:=by have:=L.len;simpa using this
 obtain⟨f,M⟩:∃g,w.heap.size=g:=⟨_,rfl⟩;have a1:Below w w (w.alloc (.cells #[m.seq,m.next,m.P.K,m.P.H,m.P.S,m.extra,(z,t,v),(C,no,y)] 75)):=(Z8 _ _).alloc (Z4 _) _;have r1:=Row.new w 75 #[m.seq,m.next,m.P.K,m.P.H,m.P.S,m.extra,(z,t,v),(C,no,y)];rw[M]at r1 a1 hB L;have a3:=Z r1;have N:=Z a1;have F:=Z M;have HM:=Z hm;have al:=Z ag;have aF:=Z L;have am:=Z ak;have aG:=Z hl;rw[M];clear a1 r1 M hm ag L ak hl;unfold Zd.val;go_enter func60,ntmps60;go_upto_region 1 with fail;rw[F];generalize w.alloc (.cells #[m.seq,m.next,m.P.K,m.P.H,m.P.S,m.extra,(z,t,v),(C,no,y)] 75)=w1 at a3 N ⊢;have b7:=N.size;obtain⟨m0,m1,m2,m3,m4,m5,m6,m7⟩:=Row.c8 a3;have b9:=a3.lt;have a4:=Z3d m B z C t v no y ts w1 (HM.below (N.mono hB)) Y (Z2S al) (Z2u al);unfold Zd.val at a4;have HC:=Z a4;clear a4;go_wp2_with fail;refine HC.mono ?_;rintro e w2 ⟨A2,c2,G,rfl,O,an⟩;have ao:=Z1D m;obtain⟨a,a5⟩:∃p,ZI m.seq (pack m)=p:=⟨_,rfl⟩;rw[a5]at O ao ⊢;have aH:=Z a5;obtain⟨d,a6⟩:∃p,a.length=p:=⟨_,rfl⟩;rw[a6]at O ao ⊢;have a7:=Z a6;have aI:=Z (O.base (show f≤w1.heap.size from Y));have aJ:=Z (N.trans (an.mono (show f≤w1.heap.size from Y)));clear O an a5 a6 m0 m1 m2 m3 m4 m5 m6 m7;go_wp2;go_loopw [6,15] (fun s6 i wr=>∃(k h o:Nat) (r:X_) (q:List ((Nat×Y_)×U2)),s6=.slice r h o∧k≤n∧Hid (h=k*d)∧i=.int .i64 (k:Int)∧Hid (q.length=h)∧Hid (YN f wr (r,h,o) q)∧Hid (q.map Prod.fst=(l.take k).flatMap fun s=>a.map fun c=>(s.toNat,c))∧Hid (Zq f wr (A2,d,c2) G a)∧Hid (Below f w wr)) (fun _ i _=>n-(intOf i).toNat)
 ·exact⟨0,0,0,none, [],rfl,Y,Z (Nat.zero_mul _).symm,rfl,Z rfl,Z (YN.nil_ _ _),Z rfl,aI,aJ⟩
 ·obtain⟨k,h,o,r,q,rfl,hk,ap,rfl,aq,HO,HQ,HV,Q⟩:=hrel;have aK:=Q.size;rw[F]at aK;by_cases ar:k<n
  ·have ba:(k:Int)<(n:Int):=Y;have R:k<l.length:=(by rw[am];exact ar);have aL:k*d≤64*9:=VI Y Y;have bb:h≤64*9:=(by rw[ap];exact aL);obtain⟨be,oe,rfl,bc,ck⟩:=(aF.below Q).get ar (Xx l k R);have av:l[k]=l.getD k 0:=(by rw[Z6,Z7 R];rfl);have aM:=aG l[k] (Zp _);obtain⟨s,hs⟩:∃s:Nat,l.getD k 0=(s:Int):=⟨(l.getD k 0).toNat,Y⟩;have a8:=ZR R;rw[av,hs]at a8;have aO:=Z (show(l.take (k+1)).flatMap (fun s=>a.map fun c=>(s.toNat,c))=(l.take k).flatMap (fun s=>a.map fun c=>(s.toNat,c))++a.map fun c=>(s,c) by rw[a8,Vr];simp);rw[hs]at ck;clear av aM hs a8 R;go_wp2;go_loopw [6,21] (fun s6 i wr=>∃(j b o:Nat) (r:X_) (D:List ((Nat×Y_)×U2)),s6=.slice r b o∧j≤d∧Hid (b=h+j)∧i=.int .i64 (j:Int)∧Hid (D.length=b)∧Hid (YN f wr (r,b,o) D)∧Hid (D.map Prod.fst=((l.take k).flatMap fun s=>a.map fun c=>(s.toNat,c))++(a.take j).map fun c=>(s,c))∧Hid (Zq f wr (A2,d,c2) G a)∧Hid (Below f w wr)) (fun _ i _=>d-(intOf i).toNat)
   ·exact⟨0,h,o,r,q,rfl,Y,Z rfl,rfl,aq,HO,Z (by rw[HQ];simp),HV,Q⟩
   ·obtain⟨j,b,aP,aQ,D,rfl,hj,a9,rfl,T,aw,ax,U,aa⟩:=hrel;have ay:=aa.size;rw[F]at ay;by_cases az:j<d
    ·have bd:(j:Int)<(d:Int):=Y;have ab:j<a.length:=(by rw[a7];exact az);have V:=U.own;rw[a7]at V;have aR:G.length=d:=(by have:=V.1;simpa using this);obtain⟨bf,bg,rfl,_,cv⟩:=(Sl.own V).get az (show G[j]? =some (G.getD j undef) by rw[Z6,Z7 Y];rfl);have E:=U.at_ j Y;obtain⟨Ac,cc,aB,-,-,-⟩:=Y8 E;rw[aB]at cv E;obtain⟨x,hx⟩:=Zb (a.getD j []);rw[hx]at cv E;have aC:a[j]=x:=(by rw[←hx,Z6,Z7 ab];rfl);have ac:=ZR ab;rw[aC]at ac;obtain⟨nx,ad⟩:∃n,x.length=n:=⟨_,rfl⟩;rw[ad]at cv E;have aT:=Z ac;have bh:=Z ad;have aU:=Z E;have bi:b≤64*9+9:=(by rw[a9];omega);clear E aB hx aC ad V aR ab ac;go_wp2_with (first
      | ((with_reducible show wpList _ _ _ (⟨some 29,_,_,_,_,_⟩::_) _ _);refine wpList_plain rfl (fun K hK=>?_);refine Z2y 102 140 (.tmp 28) rfl (s:Int) (Ac,nx,cc) rfl is _ _ underlying102 ah ai aj ?_;rintro W g7 I ae J aV;refine hK _ _ ?_;clear hK K;go_must (have aW:=Z ae);go_must (have bj:=ae.lt);go_must (have a0:=Z (aw.below (show Below wr wr W by rw[I];exact J)));go_must (have b0:=Z (aU.below (show Below wr wr W by rw[I];exact J)));go_must (have b1:=Z (U.below (show Below wr wr W by rw[I];exact J)));go_must (have af:=Z (aa.trans ((show Below wr wr W by rw[I];exact J).mono ay)));clear ae J I aV)
      | ((with_reducible show wpList _ _ _ (⟨some 30,_,_,_,_,_⟩::_) _ _);go_must (refine Y5 rfl (.tmp 25) (.tmp 29) 102 rfl f 140 is _ 2 32 underlying102 ah ai aj aE rfl Y (aQ,b,aP) b _ rfl (by have h9:=a0.own;rw[T]at h9;exact h9) (g7+1) (some ⟨g7,0,none⟩) 1 1 [(s:Int),(Ac,nx,cc)] rfl (Z2I aW rfl (Z1L _)) (by simp[Value.oneCell']) (b+1) rfl _ rfl Y Y (YU af.size F.out) ?_);intro A8 c8 w8 aD a2 _;go_must (have b2:=Z (Y9 af a0.own a2 (Z4 _) (YU af.size F.out)));go_must (have b3:=Z (a0.push (x:=((s,x),.slice Ac nx cc)) b0 (by rw[T];exact aD) a2));go_must (have b4:=Z (b1.other a0.own a2 Z5 Z5));clear aD a2))
     go_roundw;·exact⟨j+1,b+1,_,_,_,rfl,Y,Z (by rw[a9];omega),Zg,Z (by rw[Zw,T];rfl),b3,Z (by rw[ZV,ax,aT,ZV,YH];rfl),b4,b2⟩
     ·exact Zh
    ·obtain rfl:j=d:=Y;have b5:=Z (show D.map Prod.fst=(l.take (k+1)).flatMap (fun s=>a.map fun c=>(s.toNat,c)) by rw[ax,aO,←a7,Xm]);go_wp2;go_roundw;·exact⟨k+1,b,_,_,D,rfl,Y,Z (by rw[a9,ap,X9]),Zg,T,aw,b5,U,aa⟩
     ·exact Zh
  ·obtain rfl:k=n:=Y;have b6:l.take k=l:=(by rw[←am];exact Xm);rw[b6]at HQ;go_wp2;go_ret;exact⟨_,_,_,_,rfl,aq,HO,by rw[HQ];unfold pgQ;rw[aH],Q⟩
