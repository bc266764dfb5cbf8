/- Retire TopMath -/
import Derived.Laws.EntriesVeiled
import Derived.Test.YtpokipdpjhookaaGreatDoorBTopRetires44
import Derived.Test.YtpokipdpjhookaaGreatDoorBTopRetires45
set_option maxHeartbeats 8000000
set_option maxRecDepth 20000
set_option linter.all false
namespace Go.Proofs
open Go Go.RowKit Tryz
variable {n m k i j:Nat} {w v:World} {A B:Option Addr} {l L:List Value} {t:TypeId} {x:Value} {F:Nat→Prop}
theorem OM.base_ {a:Zd}{no:Nat}(h:OM n w a A k i B no j l)(f:m≤n):OM m w a A k i B no j l:=
 ⟨ZA h.d f,h.dl,⟨ZA h.o.own f,h.o.tl,fun b g=>by obtain⟨e,c,p,q⟩:=h.o.at_ b g;exact⟨e,c,p,ZA q f⟩⟩,h.ol⟩
theorem Z0j (h:w.ownsRow n t k x m l)(a:Below w w v):v.ownsRow n t k x m l:=Zu h (Only.of_new (F:=fun _=>False) a) fun _ _ h=>h
theorem OM.onlyT {a:Zd}{no:Nat}(h:OM n w a A m k B no i l)(s:Only F w v)(x:∀b,F b→∃r t,Row w b t r∧3≠t∧116≠t):OM n v a A m k B no i l:=
 ⟨Zu h.d s fun b g j=>by obtain⟨r,t,p,q,_⟩:=x b j;exact Yb h.d p q b g rfl,h.dl,⟨Zu h.o.own s fun b g j=>by obtain⟨r,t,p,_,q⟩:=x b j;exact Yb h.o.own p q b g rfl,h.o.tl,fun e z=>by obtain⟨f,c,C,y⟩:=h.o.at_ e z;exact⟨f,c,C,Zu y s fun b g j=>by obtain⟨r,t,p,q,_⟩:=x b j;exact Yb y p q b g rfl⟩⟩,h.ol⟩
theorem OM.farT {a:Zd}{no:Nat}(h:OM n w a A m k B no i l)(d:Row w j t L)(f:3≠t)(g:116≠t)(b:Nat)(v:U2):OM n (w.setCell (j,b) v) a A m k B no i l:=
 h.onlyT ((Only.refl (fun c=>c=j) w).set rfl b v) fun c e=>⟨L,t,by subst e;exact d,f,g⟩
theorem Zi5:(prog.info? 99).map (fun i=>(i.zero,i.size,i.bytes))=some (some .nilFunc,1,8):=Zi
theorem Zc6 (C I:Nat)(Q:Nat→Nat)(F:Nat→U0)(E:Nat→Option Dr)(m:Zd)(Ad Ao:X_)(b cd no co:Nat)(ts:Z_)(z N:Nat)(d0:Dr)(w:U1)
  (h:SM w C I Q F Pw.new E m Ad b cd Ao no co ts) (hg:FG E) (aU:m.may=true) (br:(ZX m z).may=true) (hl:XO E m.drives) (cm:m.drives.Nodup) (bs:z<64) (hz:E z=some d0) (cn:(z:Int)∈m.drives) (cq:(ZX m z).drives≠ [])
  (hN:(YD m d0.L).length≤N) (cr:∀s d,E s=some d→(s:Int)∈(ZX m z).drives→(ZI (m.seq+1) (pack (ZX m z))).length+N+d.L.length≤d.room):
  Calls prog 22 #[(C,()),(z:Int)] w fun e w'=>e=.returned Nat∧∃q a8,MvQ (ZX m z).drives ((YD m d0.L).filter (fun r=> !((WY m E (ZX m z).drives).any (Z12 r)))) q a8∧WH (Zy C I F) w w' C I Q (Yw E z none) (fun s=>ZQ (q.map Prod.fst) s++if (s:Int)∈(ZX m z).drives then ZI (m.seq+1) (pack (ZX m z)) else []) (ZX m z):=by
 have cs:=Z0e aU;have eF:b≤64:=by rw[←h.mani.now.dl];exact cs.1
 have eG:m.seq+1≤2147483647:=(Yo br).seq.2;have eH:=(Yo aU).seq.1;have ct:m.drives.contains (z:Int)=true:=List.contains_iff_mem.2 cn;obtain⟨R,bt⟩:∃g,w.heap.size=g:=⟨_,rfl⟩;have a1:=(Z8 w w).alloc (Z4 _) (.cells #[(z:Int)] 3);have r1:=Row.new w 3 #[(z:Int)];rw[bt]at r1;have bv:=Z ((SS.start h hg).new_ a1);have bw:=Z r1;have cv:=Z bt;have cw:=Z (show ¬Zy C I F R from fun hk=>Zc (h.mlt R hk));have cx:=Z aU;have aV:=Z br;have HL:=Z hl;have dD:=Z (hl.live hg);have dE:=Z cm;have HZ:=Z hz;have dF:=Z ct;have dG:=Z cq;have HN:=Z hN;have dH:=Z cr;clear h hg aU br hl cm hz cn cq hN cr cs ct a1 r1 bt;go_enter func22,ntmps22;go_upto_region 1 with fail;rw[cv];generalize (w.alloc (.cells #[(z:Int)] 3))=w1 at bv bw ⊢;go_wp2_with fail;refine(Z9E C I Q F Pw.new E m Ad Ao b cd no co ts w1 bv.sm rfl).mono ?_;rintro e w2 ⟨rfl,bx⟩;have cy:=Z (bv.new_ bx);have cz:=Z (bw.below bx bw.lt);clear bx;have O:=Z6n C I Q F Pw.new E m Ad Ao b cd no co ts w2 cy.sm cx;unfold Zd.val at O;have HC:=Z O;clear O;go_wp2_with fail;refine HC.mono ?_;rintro e w3 ⟨aa,ab,ag,ah,dI,rfl,aB,aW,b0⟩;have dJ:=aW.size;have cA:R<w2:=cz.lt;obtain⟨gm,bz⟩:∃g,w3.heap.size=g:=⟨_,rfl⟩;have a4:Below w3 w3 (w3.alloc (.cells #[m.seq,m.next,m.P.K,m.P.H,m.P.S,m.extra,(aa,b,ab),(ag,no,ah)] 75)):=(Z8 _ _).alloc (Z4 _) _;have r4:=Row.new w3 75 #[m.seq,m.next,m.P.K,m.P.H,m.P.S,m.extra,(aa,b,ab),(ag,no,ah)];rw[bz]at r4;have cB:=Z ((cy.new_ aW).new_ a4);have b1:=Z ((cz.below aW cA).below a4 (YI cA dJ));have bB:=Z (aB.below a4);have aC:=Z r4;have dK:=Z bz;clear aB aW b0 a4 r4 bz HC;go_upto_region 4 with fail;rw[dK];generalize (w3.alloc (.cells #[m.seq,m.next,m.P.K,m.P.H,m.P.S,m.extra,(aa,b,ab),(ag,no,ah)] 75))=w4 at cB b1 bB aC ⊢;have dL:=aC.lt;have n0:=Z9 aC 0;have n6:=Z9 aC 6;have z0:=Z9 b1 0;have dM:=Z (Sl.own bB.d);go_wp2_with fail;refine(Z8E _ b ab aa m.drives (z:Int) true _ dM Y dF).mono ?_;rintro e w' ⟨rfl,rfl⟩;obtain⟨dN,dO,dP,_,_⟩:=info_parts Zi5;go_upto_region 7 with ((with_reducible refine Xk 6 ?_);refine wpList_plain rfl (fun K hK=>?_);refine Z2z 99 rfl dN _ dO dP ?_;rintro wo go bC cC cD dQ;refine hK _ _ ?_;clear hK K;go_must (have b2:=Z (show Row wo go 99 [.nilFunc] from cC));go_must (have cE:=Z (show Below w4 w4 wo by rw[bC];exact cD));go_must (have o0:=b2.cell 0);go_must (have fo:=b2.frozen 0);simp only[ZE]at o0;go_must (have eI:=Nat.le_of_eq bC);clear bC cC cD dQ)
 have r6:=b2.set 0 (.func (.func 52) #[] #[(R,())]);have b5:=((Only.of_new (F:=fun k=>k=go) cE).set rfl 0 (.func (.func 52) #[] #[(R,())])).below (B:=w4) (fun k e=>Y) (Z4 _);simp only[YL]at r6;have aD:=Z b5;have b3:=Z r6;clear b2 cE o0 fo r6 b5 n0 n6 z0;generalize (wo.setCell go (.func (.func 52) #[] #[(R,())]))=w5 at aD b3 ⊢;have ak:=Z (cB.new_ aD);have aE:=Z (b1.below aD b1.lt);have al:=Z (aC.below aD dL);have cF:=Z (bB.below aD);have a9:R<w5∧gm<w5∧go<w5:=⟨aE.lt,al.lt,b3.lt⟩;go_cut [7] (fun s7 wy=>∃(p:Nat) (U:X_) (V:Nat) (W:X_) (a0:Nat) (a2:Z_),s7=.pointer (some ⟨p,0,none⟩)∧w5.heap.size≤p∧Hid (Row wy p 104 (Xg C m m (aa,b,ab) (ag,no,ah) (U,b,V) (W,no,a0) () 0 (fun _=>0) ()))∧Hid (OM w5 wy m U b V W no a0 a2)∧Hid (OMD U b V a2 no)∧Hid (Below w5 w5 wy));·refine oS [] (fun w'=>Below w5 w5 w') [0,1,2,3,4,5,6] (bq_ (Z8 _ _) 1) fun hS=>?_;refine oV ?_;refine oC (y:=fun w hSw=>by obtain⟨n0,n1,n2,t,n4,n5,n6,n7⟩:=(al.below hSw al.lt).c8;exact Y4) (h:= ?_);refine oV ?_;refine oG fun K hK=>?_;go_simp;go_at_call 44;have O:=Z6n C I Q F Pw.new E m Ad Ao b cd no co ts _ (ak.sm.new_ hS) cx;unfold Zd.val at O;refine O.mono ?_;clear O;rintro e w7 ⟨U,V,W,a0,a2,rfl,aB,M,b0⟩;have bD:=Z (show OM w5 w7 m U b V W no a0 a2 from aB.base_ hS.size);have dR:=Z b0;have aF:=hS.trans (M.mono hS.size);clear aB M b0;go_wp2_with fail;refine oK hK aF fun hS=>?_;refine oV ?_;refine oG fun K hK=>?_;(refine Z7s 104 (.tmp 27) (by rfl) _ (by rfl) ?_);intro w8 p bE r8 b8 s8;have dS:=Z (Row.to (cs':=Xg C m m (aa,b,ab) (ag,no,ah) (U,b,V) (W,no,a0) () 0 (fun _=>0) ()) r8 Zi);have dT:=Z (bD.below (bE ▸ b8:Below _ _ w8));have dU:w5.heap.size≤p:=Zc hS.size;have aF:=hS.trans (b8.mono (by rw[←bE];exact hS.size));clear r8 b8 s8 bE;refine oK hK aF fun hS=>?_;refine oV ?_;refine oD ?_;go_wp2;go_meet;exact⟨p,U,V,W,a0,a2,rfl,dU,dS,dT,dR,Z hS⟩
 case rest=>
 obtain⟨p,U,V,W,a0,a2,rfl,eJ,am,T,dV,a5⟩:=hcut;generalize wc=w6 at*;have b4:=Z (ak.new_ a5);have dW:=a5.size;have cG:=am.lt;have bF:w.heap.size≤p:=Zc cv.out;have b6:=Z (show ¬Zy C I F p from fun hk=>Zc (ak.sm.mlt p hk));go_wp2_with fail;refine(Z1C C I Q F Pw.new E m Ad Ao b cd no co ts w6 b4.sm dD Y).mono ?_;rintro e w7 ⟨Al,cl,rfl,cH,M⟩;have bG:=Z (b4.new_ M);have cI:=Z M;have aG:=Z cH;have e0:=M.size;have cJ:=Z ((aE.below a5 a9.1).below M Y);have cK:=Z ((b3.below a5 a9.2.2).below M Y);have e4:=Z ((al.below a5 a9.2.1).below M Y);have e5:=Z (am.below M cG);have bD:=Z (T.below M);have e6:=Z ((cF.below a5).below M);clear cH M;go_wp2_with fail;have e2:∀aH w,(callFunc 54 aH).run prog w=.ok (.enter 54 aH) w:=fun _ _=>rfl;refine(Z6K w6 b (Al,b,cl) m.drives (fun x=>decide (x=(z:Int))) 54 #[(go,())] w7 e2 aG (by have:=bG.sm.mani.now.dl;exact this) Y (fun x hx w' ho=>ZgC go R z x w' ((cK.only ho (fun h=>Zc ((ZC aG go h).1))).cell 0) ((cJ.only ho (fun h=>Zc ((ZC aG R h).1))).cell 0))).mono ?_;rintro e w8 ⟨v8,rfl,bH,aI,cL⟩;obtain⟨J,b7⟩:∃l,m.drives.filter (fun x=> !(decide (x=(z:Int))))=l:=⟨_,rfl⟩;have ai:=Z b7;rw[b7]at aI;obtain⟨t,b9⟩:∃n,J.length=n:=⟨_,rfl⟩;rw[b9]at aI;have eK:t≤b:=by rw[←b9,←b7,←bG.sm.mani.now.dl];exact Wx _ _
 obtain⟨A3,c3,rfl,_⟩:=Y8 aI;have ac:=Z b9;have bI:=Z (cI.trans (cL.below (fun k e=>(ZC aG k e).1) e0));have bJ:=Z aI;have eL:=bI.size;have aJ:=Z (am.below bI cG);have eM:∀k,(Value.slice A3 t c3).ownBlock=some k→w6.heap.size≤k:=fun k e=>(ZC bJ k e).1;clear b7 b9 bH aI cL bG aG cJ cK e4 e5 bD e6 cI;have ba:=(MvC.of aJ).l;have e7:=aJ.frozen 17;go_upto_region 9 with fail;have bb:=aJ.set 17 (A3,t,c3);rw[Zhx]at bb;have bK:=bJ.farC aJ Z5 17 (A3,t,c3);have bL:Only (fun k=>k=p) w6 (w8.setCell (p,17) (A3,t,c3)):=(Only.of_new (F:=fun k=>k=p) bI).set rfl 17 _;generalize (w8.setCell (p,17) (A3,t,c3))=w9 at bb bK bL ⊢;have an:=Z bb;have cM:=Z bK;have aK:=Z bL;have eN:=aK.size;clear bb bK bL ba e7 aJ bJ;have e8:∀k,k<w6.heap.size→k≠p→w9.heap[k]? =w6.heap[k]? :=fun k a f=>aK.block k a f;have ba:=(MvC.of an).l;have n0:=(((al.below a5 a9.2.1).only aK Y).cell 0);simp only[ZE]at n0;have bM:0<t:=by rw[←ac,←ai];exact List.length_pos_iff.2 dG
 have e9:((t:Int)==0)=false:=Zx;have ea:¬(2147483647:Int)≤m.seq:=Y;have p9:=(Z4b an).1;have f9:=an.frozen 9;have bc:IntKind.i64.wrap (m.seq+1)=m.seq+1:=by simp[IntKind.wrap,IntKind.bits,IntKind.signed];omega
 go_upto_region 12 with fail;try rw[bc]
 have bd:=an.set 9 (.int .i64 (m.seq+1));rw[Zhp]at bd;have bO:=cM.farC an Z5 9 (.int .i64 (m.seq+1));have bP:=aK.set rfl 9 (.int .i64 (m.seq+1));generalize (w9.setCell (p,9) (.int .i64 (m.seq+1)))=w10 at bd bO bP ⊢;have bf:=Z bd;have bQ:=Z bO;have ao:=Z bP;have eO:=ao.size;clear bd bO bP p9 f9 bc ba n0 e9 ea e8 an cM aK;have bR:=T.d;have aL:=Z (Zu bR ao (fun k a e=>by subst e;exact Yb bR am Z5 _ a rfl));have cN:=Z ((b3.below a5 a9.2.2).only ao Y);have cO:=Z ((aE.below a5 a9.1).only ao Y);have bT:=(Z4b bf).2.2.2.2.2.2.1;clear bR;go_wp2_with fail;have e3:∀aH w,(callFunc 55 aH).run prog w=.ok (.enter 55 aH) w:=fun _ _=>rfl;refine(Z6K w5 b (U,b,V) m.drives (fun x=>decide (x=(z:Int))) 55 #[(go,())] w10 e3 aL (by have:=b4.sm.mani.now.dl;exact this) Y (fun x hx w' ho=>Zho go R z x w' ((cN.only ho (fun h=>Zc ((ZC aL go h).1))).cell 0) ((cO.only ho (fun h=>Zc ((ZC aL R h).1))).cell 0))).mono ?_;rintro e eb ⟨eP,rfl,bH,bg,bh⟩;rw[ai,ac]at bg;obtain⟨a6,a7,rfl,_⟩:=Y8 bg;have cP:=bf.only bh (fun h=>Yb aL bf Z5 _ h rfl);have cQ:=Zu bQ bh (fun k a f=>YU ((ZC bQ k a).1) ((ZC T.d k f).2));have cR:=Z ((ao.mono (G:=fun k=>k=p∨(Value.slice U b V).ownBlock=some k) fun _ e=>.inl e).trans (bh.mono (G:=fun k=>k=p∨(Value.slice U b V).ownBlock=some k) fun _ e=>.inr e) (fun _ _ e=>e));have ap:=Z cP;have cS:=Z cQ;have cT:=Z bg;clear bH bg bh cP cQ bT;have bT:=(Z4b ap).2.2.2.2.2.2.1;have ec:=ap.frozen 15;go_upto_region 13 with fail;have ed:=Z (show({ ({ m with seq:=m.seq+1}:Zd) with drives:=J}:Zd)=ZX m z by unfold ZX;rw[ai]);have bi:=ap.set 15 (a6,t,a7);rw[Zhl J,ed]at bi;have bU:=cS.farC ap Z5 15 (a6,t,a7);have bV:=cT.farC ap Z5 15 (a6,t,a7);have aq:=cR.set (.inl rfl) 15 (a6,t,a7);generalize (eb.setCell (p,15) (a6,t,a7))=w12 at bi bU bV aq ⊢;have cU:XM w5 w12 (W,no,a0) a2 m.objs:=⟨Zu T.o.own aq (fun k a f=>f.elim (fun e=>by subst e;exact Yb T.o.own am Z5 _ a rfl) fun D=>Z37 T.o.own T.d Z5 k a D),T.o.tl,fun i hi=>by obtain⟨A,c,e1,e2⟩:=T.o.at_ i hi;refine⟨A,c,e1,Zu e2 aq (fun k a f=>f.elim (fun e=>by subst e;exact Yb e2 am Z5 _ a rfl) fun D=>dV i (by rw[←T.ol];exact hi) k D (by rw[e1];exact a))⟩⟩;have bj:(ZX m z).drives=J:=ai;have eQ:=Z bj;have bk:=Z (show OM w5 w12 (ZX m z) a6 t a7 W no a0 a2 from⟨by rw[bj];exact bV,by rw[bj];exact ac,cU,T.ol⟩);have aM:=Z bi;have cV:=Z bU;have cW:=Z aq;have eR:=aq.size;clear bi bU bV aq cU bj bT ec bf bQ ao aL cN cO ap cS cR cT;have O:=Z3d (ZX m z) w12 a6 W t a7 no a0 a2 w12 bk.read (Z4 _) (Z2S aV) (Z2u aV);unfold Zd.val at O;have HC:=Z O;clear O;obtain⟨p0,p1,p2,p3,p4,p5,p6,p7⟩:=Z4b aM;obtain⟨mR,bW⟩:∃y,ZX m z=y:=⟨_,rfl⟩;rw[bW]at HC p0 p1 p2 p3 p4 p5 aM bk aV;have aO:=Z bW;have ee:=Z1D mR;obtain⟨np,ar⟩:∃k,(ZI mR.seq (pack mR)).length=k:=⟨_,rfl⟩;rw[ar]at ee;have c0:=Z ar;clear bW ar;go_wp2_with fail;refine HC.mono ?_;rintro e ef ⟨A4,c4,eS,rfl,-,c1⟩;have bl:=Z c1;have av:=Z (aM.below c1 aM.lt);clear c1 p0 p1 p2 p3 p4 p5 p6 p7 HC;have eg:=(MvC.of av).pg;have eh:=av.frozen 18;have ar:=c0.out;go_upto_region 14 with fail;try rw[ar]
 have bm:=av.set 18 (np:Int);rw[ZgF]at bm;have c2:=(Z0j cV bl).farC av Z5 18 (np:Int);have bn:=(cW.trans (Only.of_new (F:=fun k=>k=p∨(Value.slice U b V).ownBlock=some k) bl) (fun _ _ e=>e)).set (.inl rfl) 18 (np:Int);have c5:=(bk.below bl).farT av Z5 Z5 18 (np:Int);generalize (ef.setCell (p,18) (np:Int))=w14 at bm c2 bn c5 ⊢;have aP:=Z (a5.trans (bn.below (B:=w5) (fun k e=>e.elim (fun e=>Y) fun h=>(ZC T.d k h).1) dW));have HG:=Z (show ∀k,(k=p∨(Value.slice U b V).ownBlock=some k)→¬Zy C I F k∧w.heap.size≤k from fun k e=>e.elim (fun e=>by subst e;exact⟨b6,bF⟩) fun h=>⟨fun hk=>YU (ak.sm.mlt k hk) ((ZC T.d k h).1),YU ((ZC T.d k h).1) ak.on.size⟩);have c6:=Z (b4.other bn HG);have aw:=Z bm;have aQ:=Z c2;have d2:=Z c5;have eT:=aP.size;have ei:=Z (cF.below aP);have z0:=(aE.below aP a9.1).cell 0;simp only[ZE]at z0;clear bm c2 bn c5 eg eh ar aM cV cW bk av bl;have c7:mR.seq=m.seq+1:=by rw[←aO];rfl
 have c9:mR.drives=J:=by rw[←aO];exact ai
 have ax:=Z (show XO E J from fun x hx=>HL x (by rw[←ai]at hx;exact(YW.1 hx).1));have d3:=Z (show J.Nodup by rw[←ai];exact dE.filter _);have ca:=Z (show ∀s d,E s=some d→(s:Int)∈J→np+N+d.L.length≤d.room from fun s d a f=>by have D:=dH s d a (by rw[aO,c9];exact f);rw[aO,←c7,c0]at D;exact D);have d4:=Z c7;have ay:=Z c9;clear c7 c9;go_wp2_with fail;refine(ZdF C I Q F E m Ad Ao b cd no co ts p mR aa ag ab ah dI (a6,t,a7) (W,no,a0) A3 t c3 J np z N d0 (Zy C I F) w E (fun _=> []) w14 c6 bF aw (ei.stbT (G:=fun k=>k=p) (fun k e=>.inr ⟨_,_,by subst e;exact aw,Z5,Z5⟩)) (fun w' ho=>Sl.own (Zu aQ ho (fun k a e=>by subst e;exact Yb aQ aw Z5 _ a rfl))) ax d3 bM Y b6 bs HZ HN ca).mono ?_;rintro e cb ⟨rfl,a8,Ap,nq,cp,q,cc,d5,d6,bo,aj⟩;have aR:=Z cc;have d7:=Z d5;have ej:=Z d6;have az:=Z bo;have d8:=Z (c6.other aj (fun k e=>by subst e;exact⟨b6,bF⟩));have ek:=Z (Zu aQ aj (fun k a e=>by subst e;exact Yb aQ aw Z5 _ a rfl));have el:=Z (show OM w5 cb mR a6 t a7 W no a0 a2 from d2.onlyT aj (fun k e=>⟨_,_,by subst e;exact aw,Z5,Z5⟩));have d9:=Z ((al.below aP a9.2.1).only aj Y);have da:=Z ((aE.below aP a9.1).only aj Y);have eU:=aj.size;have ce:∀s,a8 s≤N:=fun s=>by rw[bo.gt s];refine Zj (Z5N _ _) ?_;rw[Zz,bo.len];exact Zj (Wx _ _) HN
 have eV:=Z ce;have cf:=Z (show ∀s d,E s=some d→(s:Int)∈J→np+a8 s+d.L.length≤d.room from fun s d a f=>YU (ca s d a f) (ce s));have ba:=(MvC.of cc).l;clear cc d5 d6 bo aj z0 ce aw aQ d2 c6;go_wp2;go_loopw [85] (fun ix wr=>∃k:Nat,k≤t∧ix=.int .i64 (k:Int)∧Hid (Below cb cb wr)) (fun ix _=>t-(intOf ix).toNat)
 ·exact⟨0,Y,rfl,Z (Z8 _ _)⟩
 ·obtain⟨k,hk,rfl,a3⟩:=hrel;have bc:=a3.size;by_cases db:k<t
  ·have eW:(k:Int)<(t:Int):=Y;have cg:k<J.length:=(by rw[ac];exact db);obtain⟨be,oe,rfl,f0,ck⟩:=(Sl.own (Z0j ek a3)).get db (Xx J k cg);have bp:J.getD k 0∈J:=(by rw[Z6,Z7 cg];exact Zp _);obtain⟨s,d,dc,dd,aT⟩:=ax (J.getD k 0) bp;rw[dc]at ck bp;have ae:=Z (d8.new_ a3);have ch:=Z (ae.fg s d aT);have em:=Z aT;have en:=Z (show X3 Q E s=.pointer (some ⟨Q s,0,none⟩) by unfold X3;rw[aT]);have de:=Z (cf s d aT bp);have df:=Z (MvC.of (aR.below a3 aR.lt));have dg:=Z (d9.below a3 d9.lt);have dh:p<wr:=Zc aR.lt;have eo:=dg.lt;have f1:(s:Int)<64:=Y;have f2:np+a8 s≤512:=(by have a:=de.out;have f:=ch.ok.room.2;omega);clear cg bp dc aT;go_upto_region 19 with fail;go_cut [10] (fun ep wy=>ep=.int .i64 0∧Hid (Below wr wr wy));·refine oS [] (fun w'=>Below wr wr w') [0,1,2,3,4,5,6,7,8,9,10,11,12,13,14,15,16] (bq_ (Z8 _ _) 1) fun hS=>?_;refine oV ?_;refine oV ?_;refine oC (v:= ?_) (y:=fun w hSw=>by refine Pure.call 30 #[(C,()),(s:Int)] (by go_simp;first|done|rfl) ?_;refine(Z22 C I Q F Pw.new E m Ad Ao b cd no co ts s w (ae.new_ hSw).sm dd _ en).mono ?_;rintro e w' ⟨rfl,rfl⟩;refine⟨?_,rfl⟩;with_reducible rfl) (h:= ?_);refine oC (y:=fun w hSw=>by obtain⟨n0,n1,n2,t,n4,n5,n6,n7⟩:=(dg.below hSw eo).c8;exact Y4) (h:= ?_);(iterate 3 refine oV ?_);refine oC (y:=fun w hSw=>by obtain⟨v0,v1,v2,v3,v4,v5,v6,v7,v8,eq,er,vg⟩:=df.keep hSw dh;exact Y4) (h:= ?_);(iterate 5 refine oV ?_);refine oC (y:=fun w hSw=>by obtain⟨v0,v1,v2,v3,v4,v5,v6,v7,v8,eq,er,vg⟩:=df.keep hSw dh;have vq:=vg s dd;exact Y4) (h:= ?_);refine oV ?_;refine oG fun K hK=>?_;go_simp;rw[show IntKind.i64.wrap ((np:Int)+(a8 s:Int))=((np+a8 s:Nat):Int) by simp[IntKind.wrap,IntKind.bits,IntKind.signed];omega];go_at_call 58;refine(Z9i _ (Q s) I d _ m (aa,b,ab) (ag,no,ah) (np+a8 s) _ (by rfl) ((ae.new_ hS).sm.dr s d em).1 ch.lost ch.ok.room.2 de).mono ?_;rintro e w7 ⟨rfl,M⟩;have aF:=hS.trans (M.mono hS.size);clear M;go_wp2_with fail;refine oK hK aF fun hS=>?_;refine oV ?_;refine oD ?_;go_wp2;go_meet;exact⟨rfl,Z hS⟩
   case rest=>
   obtain⟨rfl,es⟩:=hcut;generalize wc=w9 at*;clear ck;go_wp2;go_roundw;·exact⟨k+1,Y,Zg,Z (a3.trans (es.mono bc))⟩
   ·exact Zh
  ·obtain rfl:k=t:=Y;have ae:=Z (d8.new_ a3);have di:=Z (aR.below a3 aR.lt);have et:=Z (ej.below a3);have ev:=Z (el.below a3);have dj:=Z (da.below a3 da.lt);have ew:=(di.cell 83).trans Z7c;have dk:=Z (show ∀k,Zy C I F k→k<w5.heap.size from ak.sm.mlt);have dm:=Z (show ∀x∈q,∃d,x.1.1<64∧(x.1.1:Int)∈J∧E x.1.1=some d∧x.1.2.length=64 from fun x hx=>by obtain⟨j,hj,rfl⟩:=ZZ hx;have bq:=hj;rw[az.len]at bq;obtain⟨s,v,a,f⟩:=az.at_ j bq;rw[Z7 hj]at a;injection a with a;rw[a];obtain⟨s',d,e,hs,hd⟩:=ax _ f;have e2:s=s':=Y;refine⟨d,by dsimp only;omega,f,by rw[←e2]at hd;exact hd,Z51 ?_⟩;rw[Z6,Z7 bq];have D:=(Z24 (YW.1 (Zp bq)).1).2;unfold Vp at D;simp only[Xp]at D;exact D.1);have f3:nq≤512:=(by have a:=az.len;have f:=Wx (fun r=> !((WY m E J).any (Z12 r))) (YD m d0.L);have D:=HN.out;obtain⟨s,d,e,hs,hd⟩:=ax (J.getD 0 0) (by rw[Z6,Z7 (by rw[ac];exact bM)];exact Zp _);have h4:=ca s d hd (by rw[←e,Z6,Z7 (by rw[ac];exact bM)];exact Zp _);have h5:=(ae.fg s d hd).ok.room.2;rw[d7]at a;omega);go_wp2_with fail;refine(Z4H C I Q F E m Ad Ao b cd no co ts nq cp Ap q wr ae.sm ae.fg (et.stb d7 (fun k hk=>Zc (dk k hk))) Y (fun y hy=>by obtain⟨d,a,f,D,h4⟩:=dm y hy;exact⟨a,h4⟩) (fun y hy=>by obtain⟨d,a,f,D,h4⟩:=dm y hy;have h5:=cf y.1.1 d D f;rw[az.gt]at h5;exact⟨d,D,Y⟩)).mono ?_;rintro e wa ⟨rfl,F3,ex,af⟩;have ci:=Z (ae.more af);have ey:=Z (di.only af.on b6);have ez:=Z (dj.only af.on cw);have eA:=Z (((ev.stb (G:=Zy C I F) dk).ext af.on).less af.mu);have dn:=Z af.ad;have eB:=Z (show ¬Zy C I F3 R from fun hk=>(af.mu R hk).elim cw fun h=>Zc dj.lt);clear af ew;obtain⟨p0,p1,p2,p3,p4,p5,p6,p7⟩:=Z4b ey;have O:=Z87 C I Q F3 ex m mR Ad Ao b cd no co ts a6 W k a7 no a0 a2 wa ci.sm ci.fg eA aV d4 (by rw[ay];exact ax.adds dn) (by rw[ay];intro e;rw[e]at ac;have:=ac.out;simp at this;omega) (by rw[ay];exact d3) (fun s d a f=>by rw[ay]at f;obtain⟨s',d1,e,hs,hd⟩:=ax _ f;have e2:s'=s:=Y;subst e2;obtain⟨d',D,h4,h5⟩:=(dn s').2 d1 hd;rw[a]at D;injection D with D;subst D;have h6:=cf s' d1 hd f;rw[az.gt]at h6;rw[h4,h5,Zw,c0];omega);unfold Zd.val at O;have HC:=Z O;clear O;go_wp2_with fail;refine HC.mono ?_;rintro e wb ⟨rfl,cj⟩;have dp:=ez.out;obtain⟨F4,dq,ds,dt,dw,dx,dy,dz,dA,a,f,D,h4,h5,h6⟩:=ci.then_ cj;have eC:=Z (show Row wb R 3 [(z:Int)] from by obtain⟨_,_,_,_,_,_,_,_,_,_,_,_,_,h9,_⟩:=cj;exact dp.only h9 eB);have H1:=Z a;have H2:=Z f;have H3:=Z D;have H4:=Z h4;have H5:=Z h5;have H6:=Z h6;clear cj dp a f D h4 h5 h6 p0 p1 p2 p3 p4 p5 p6 p7 HC;have z0:=eC.cell 0;simp only[ZE]at z0;go_wp2_with fail;refine(Z9W C I Q F4 Pw.new dq mR ds dx dt dw dy dz dA z none wb H1 bs).mono ?_;rintro e wd ⟨rfl,dB⟩;have eD:=Z dB;clear dB z0;go_wp2;go_ret;rw[aO,←d4,ay];refine⟨rfl,q,a8,az,?_⟩;have dC:=(SS.start H1 H2).setn bs;have eE:(wb.setCell (C,10+z) (.pointer none)).heap.size=wb.heap.size:=(by simp[World.setCell]);rw[eD];refine⟨F4,Yw dq z none,ds,dt,dw,dx,dy,dz,dA,dC.sm,dC.fg,fun s=>?_,fun k hk=>(H4 k hk).imp id fun h=>⟨h.1,by rw[eE];exact h.2⟩,H5.set (.inl rfl) _ _,H6.next ((Only.refl _ _).set (.inr (.inl rfl)) _ _) fun _ _ h=>h⟩;by_cases e:s=z;·rw[e,YV,YV];exact⟨fun _=>rfl,fun d hd=>by cases hd⟩
   ·rw[YB e,YB e];refine⟨(H3 s).1,fun d hd=>?_⟩;obtain⟨d',h7,h8,h9⟩:=(H3 s).2 d hd;refine⟨d',h7,h8,?_⟩;rw[h9];dsimp only;rw[Z10,ay]
theorem Z7l {l:W_}{b:Int}(h:∀y∈l,0≤y∧y≤b)(f:l.Pairwise (· < ·)):VR l b=true:=by
 unfold VR;rw[Wq];intro i a;rw[Ws]at a;unfold Z0W;have e:∀j (c:j<l.length),l.getD j 0=l[j]:=fun j c=>by rw[Z6,Z7 c];rfl
 simp only[Xp,Bool.or_eq_true,decide_eq_true_eq];rw[e i a];refine⟨h _ (Zp a),?_⟩;rcases VG i with d|d;·exact .inl d
 ·rw[e (i-1) Y];exact .inr (VH.1 f (i-1) i Y a Y)
theorem Zff {α:Type}(f:α→Nat){l a:List α}(h:l.Perm a):ZW f l=ZW f a:=by
 induction h with
 |nil=>rfl
 |cons x _ ih=>simp only[ZW,ih]
 |swap x y l=>simp only[ZW];omega
 |trans _ _ h1 h2=>exact h1.trans h2
theorem Z9o {α:Type}(f:α→Nat):∀l a:List α,ZW f (l++a)=ZW f l+ZW f a
 | [],a=>by simp[ZW]
 |x::l,a=>by simp only[Z0L,ZW,Z9o f l a];omega
theorem Z3U {α:Type}{f g:α→Nat}:∀{l:List α},(∀x∈l,f x=g x)→ZW f l=ZW g l
 | [],_=>rfl
 |x::l,h=>by simp only[ZW,h x (XP ..),Z3U fun y a=>h y (XB _ a)]
theorem Z9F {α:Type}{f:α→Nat}:∀{l:List α} {x y:α},x∈l→y∈l→x≠y→f x+f y≤ZW f l
 |z::l,x,y,hx,hy,hne=>by
  simp only[ZW];rcases Xy.1 hx with e|h1
  ·rcases Xy.1 hy with e'|h2;·exact absurd (e.trans e'.symm) hne
   ·have:=Z5f (f:=f) h2;rw[e];omega
  ·rcases Xy.1 hy with e'|h2;·have:=Z5f (f:=f) h1;rw[e'];omega
   ·have:=Z9F (f:=f) h1 h2 hne;omega
theorem Z6I {f:Int→Nat}{z:Int}:∀{l:W_},z∈l→l.Nodup→ZW f (l.filter fun x=> !(decide (x=z)))+f z=ZW f l
 |x::l,h,hn=>by
  have hx:=(List.nodup_cons.1 hn).1;by_cases e:x=z;·subst e;have:(x::l).filter (fun y=> !(decide (y=x)))=l:=(by rw[Z2h Ze,Z2k];intro y hy;have:y≠x:=fun e=>hx (e ▸ hy);simpa using this);rw[this];simp only[ZW];omega
  ·have hz:z∈l:=by
    rcases Xy.1 h with h1|h1;·exact absurd h1.symm e
    ·exact h1
   rw[Z1v (by simpa using e)];have:=Z6I (f:=f) hz (List.nodup_cons.1 hn).2;simp only[ZW];omega
theorem Z9Z {l:Z0}(h:∀c∈l,(Xo c).isSome=true):YT l=l.length:=by unfold YT;exact List.countP_eq_length.2 fun c a=>h c a
section
structure Xb (m:Zd) (D:Int→List Byte) (fl:Nat→Option Dr) (c R b nd rm:Nat):Prop where
 sto:WG m D (Yu fl)
 sl:XO fl m.drives
 room:∀s d,fl s=some d→(s:Int)∈m.drives→rm≤d.room∧d.L.length≤YT d.L+3*c
 sum:ZW (fun s:Int=>YT (Yu fl s.toNat)) m.drives≤R
 K:m.P.K≤6
 ex:m.extra≤6
 dl:m.drives.length≤nd
 ob:m.objs.length≤b
 tr:∀e∈m.objs,e.tries.length≤4
 seq:m.seq=(c:Int)
section
variable {m:Zd} {D:Int→Y_} {fl fl':Nat→Option Dr} {c R b nd rm:Nat}
theorem Z5z {n:Zd}(h:n.may=true)(g:n.drives.length≤6)(i:n.objs.length≤5)(j:∀e∈n.objs,e.tries.length≤4):(ZI n.seq (pack n)).length≤3:=by have:=ZfH h (a:=6) (b:=5) (c:=12) (d:=4) g i (fun e f=>⟨(Z0i h f).nlen.2,j e f⟩);rw[Z3P];unfold Z0J;omega
theorem Xb.cells (h:Xb m D fl c R b nd rm){s:Nat}{d:Dr}(a:fl s=some d)(e:(s:Int)∈m.drives):YT d.L≤R∧d.L.length≤R+3*c:=by have g:=Z5f (f:=fun s:Int=>YT (Yu fl s.toNat)) e;have i:=h.sum;have j:=(h.room s d a e).2;rw[ZL,YO a]at g;omega
theorem Xb.may (h:Xb m D fl c R b nd rm):m.may=true:=h.sto.may
theorem Xb.nodup (h:Xb m D fl c R b nd rm):m.drives.Nodup:=Z3b (Yo h.may).drives
theorem Z4g {P:Nat→Z0}(b:XJ P fl fl'){s:Nat}{d:Dr}(a:fl s=some d):Yu fl' s=Yu fl s++P s:=by obtain⟨f,c,_,e⟩:=(b s).2 d a;rw[YO c,YO a,e]
theorem Z3_ {P:Nat→Z0}(c:XJ P fl fl'){s:Nat}{b:Dr}(a:fl' s=some b):∃d,fl s=some d∧b.room=d.room∧b.L=d.L++P s:=by
 cases e:fl s with
 |none=>rw[(c s).1 e]at a;cases a
 |some d=>obtain⟨i,f,g,h⟩:=(c s).2 d e;rw[f]at a;injection a with a;subst a;exact⟨d,rfl,g,h⟩
theorem Z15 (h:XO fl m.drives){s:Int}(a:s∈m.drives):∃t d,s=((t:Nat):Int)∧t<64∧fl t=some d∧s.toNat=t:=by obtain⟨t,d,e,b,c⟩:=h s a;exact⟨t,d,e,b,c,by rw[e];exact ZL t⟩
theorem Zbf {P:Zf}(a:P.may=true){n:Nat}(c:(n:Int)≤3*P.K*P.S+1):(countP P (n:Int)).toNat≤4:=by
 by_cases b:0<(n:Int)
 ·rw[Z4F a b];have d:=Zf.may_ok a;unfold Zf.Ok at d;unfold Zf.size;have i:((n:Int)-1) / (P.K*P.S)≤3:=by have f:0<P.K*P.S:=Int.mul_pos Y Y;refine Int.le_of_lt_add_one ((Int.ediv_lt_iff_lt_mul f).2 ?_);have e:3*P.K*P.S=3*(P.K*P.S):=Int.mul_assoc ..;rw[e]at c;have g:(3+1)*(P.K*P.S)=3*(P.K*P.S)+P.K*P.S:=(by rw[Int.add_mul,Int.one_mul]);rw[g];omega
  omega
 ·rw[Z3j (fun h=>b h.2)];decide
theorem Xb.put (h:Xb m D fl c R b nd rm)(hb:b<5)(a3:nd≤6){nm l:Y_}{x:Zr}{p:List Zr}{q:List (Nat×Y_)}{C:Nat}(n:Z5B m nm l x p q C)(ab:m.P.K+m.extra=(C:Int))(hn:(l.length:Int)≤3*m.P.K*m.P.S+1)
  (J:XJ (fun s=>ZQ q s++if (s:Int)∈m.drives then ZI (m.seq+1) (pack (YY m p)) else []) fl fl'):Xb (YY m p) (fun z=>if z=m.next then l else D z) fl' (c+1) (R+48) (b+1) nd rm:=by
 have E:=h.may;have a4:=Zf.may_ok (Yo E).P;unfold Zf.Ok at a4;have ac:=(Yo E).extra;have a5:x∈(YY m p).objs:=n.perm.mem_iff.2 (Z13 _ (Yn.2 rfl));have F:=Z0i n.may a5;have Q:x.tries.length≤4:=by have o:=F.count;have g:=Zbf (Yo E).P hn;rw[n.xl]at o;have M:((x.tries.length:Nat):Int)=countP m.P (l.length:Int):=o;omega
 have a6:C≤12:=YU h.K h.ex;have ad:q.length≤48:=by rw[n.pcs.len,XV];exact Zj (VI Q a6) Z5
 have a7:(YY m p).objs.length=m.objs.length+1:=by rw[show(YY m p).objs=p from rfl,n.perm.length_eq,Zw];rfl
 have T:∀e,e∈(YY m p).objs↔e∈m.objs∨e=x:=fun e=>by rw[show(YY m p).objs=p from rfl,n.perm.mem_iff,YZ,Yn]
 have U:∀e∈(YY m p).objs,e.tries.length≤4:=fun e he=>by
  rcases(T e).1 he with o|rfl;·exact h.tr e o
  ·exact Q
 have ae:(ZI (m.seq+1) (pack (YY m p))).length≤3:=Z5z n.may (Zj h.dl a3) (Zc h.ob) U;have a8:(fun z=>if z=m.next then l else D z) x.obj=l:=by dsimp only;rw[if_pos n.xo]
 have V:∀i j,Z1a m x l i j=V5 m.P (fun z=>if z=m.next then l else D z) x i j:=fun i j=>by unfold Z1a V5 Z1z;rw[a8]
 have a9:(blocks m.P l).length=x.tries.length:=by have M:((x.tries.length:Nat):Int)=countP m.P x.len:=F.count;unfold blocks;rw[Zz,WZ,←n.xl,←M,ZL]
 have aa:0≤x.obj∧x.obj≤16777215:=by have o:=F.obj;have g:=(Yo n.may).next;omega
 have W:∀i j,i<x.tries.length→j<C→(Z1a m x l i j).may=true:=fun i j v w=>Za1 E aa (nb:=x.tries.length) F.tlen a9 Y v w;have a0:∀s,∀c∈ZQ q s,(Xo c).isSome=true∧c.length=64∧∃i j,i<x.tries.length∧j<C∧c=Yr (Z1a m x l i j):=fun s c f=>by unfold ZQ at f;obtain⟨y,A,rfl⟩:=ZT.1 f;obtain⟨_,i,j,v,w,e⟩:=n.pcs.all y (YW.1 A).1;rw[e,Z47 (W i j v w)];exact⟨rfl,Z51 (W i j v w),i,j,v,w,rfl⟩
 have B:∀s d,fl s=some d→(s:Int)∈m.drives→Yu fl' s=d.L++(ZQ q s++ZI (m.seq+1) (pack (YY m p))):=fun s d G k=>by rw[Z4g J G,YO G,if_pos k]
 have a1:∀s d,fl s=some d→(s:Int)∈m.drives→YT (Yu fl' s)=YT d.L+(ZQ q s).length:=fun s d G k=>by rw[B s d G k,Z3r,Z3r,Z21,Z9Z fun c f=>(a0 s c f).1];rfl
 refine⟨?_,fun y A=>(h.sl.adds J) y A,?_,?_,h.K,h.ex,h.dl,by rw[a7];have:=h.ob;omega,U,by show m.seq+1=_;rw[h.seq];simp⟩
 ·refine h.sto.put (x:=x) n.may rfl rfl n.xo T rfl rfl (fun z hz=>if_neg hz) (by rw[if_pos n.xo];exact n.xl.symm) n.right ?_ ?_ ?_ ?_;·intro s k c f;obtain⟨t,d,e,o,g,r⟩:=Z15 h.sl k;rw[r,B t d g (e ▸ k)];exact Z13 _ (Z13 _ f)
  ·intro s k c f;obtain⟨t,d,e,o,g,r⟩:=Z15 h.sl k;rw[r]at f ⊢;rw[B t d g (e ▸ k)];rw[YO g]at f;exact Z16 _ f
  ·intro s k c f;obtain⟨t,d,e,o,g,r⟩:=Z15 h.sl k;have N:s∈m.drives:=k;rw[r,B t d g (e ▸ N)]at f;rcases YZ.1 f with f|f;·exact⟨h.sto.len s N c (by rw[r,YO g];exact f),.inr (.inl ⟨s,N,by rw[r,YO g];exact f⟩)⟩
   ·rcases YZ.1 f with f|f;·obtain⟨_,h4,i,j,v,w,H⟩:=a0 t c f;exact⟨h4,.inr (.inr ⟨i,j,v,by rw[H,V]⟩)⟩
    ·exact⟨Z2D f,.inl (Z3e f)⟩
  ·intro i v j w;obtain⟨y,A,e⟩:=n.pcs.has i j (.inl ⟨v,Y⟩);have O:=(n.pcs.all y A).1;obtain⟨t,d,I,o,g,r⟩:=Z15 h.sl O;have e3:y.1=t:=Y;refine⟨(t:Int),I ▸ O,?_⟩;rw[ZL,B t d g (I ▸ O),←V,←e];refine Z13 _ (Z16 _ ?_);unfold ZQ;exact ZT.2 ⟨y,YW.2 ⟨A,decide_eq_true e3⟩,rfl⟩
 ·intro s d' a2 k;obtain⟨d,o,g,M⟩:=Z3_ J a2;have h4:=h.room s d o k;have H:=B s d o k;have h6:=a1 s d o k;rw[YO a2]at H h6;refine⟨Y,?_⟩;rw[h6,H,Zw,Zw];omega
 ·have I:ZW (fun s:Int=>YT (Yu fl' s.toNat)) m.drives=ZW (fun s:Int=>YT (Yu fl s.toNat)+q.countP fun y=>decide ((y.1:Int)=s)) m.drives:=Z3U fun s k=>by obtain⟨t,d,e,o,g,r⟩:=Z15 h.sl k;rw[r,a1 t d g (e ▸ k),YO g];congr 1;unfold ZQ;rw[Zz,←List.countP_eq_length_filter];refine List.countP_congr fun y _=>?_;rw[e];simp only[decide_eq_true_eq];omega
  have r:ZW (fun s:Int=>q.countP fun y=>decide ((y.1:Int)=s)) m.drives≤q.length:=Z60 (fun(s:Int) (y:Nat×Y_)=>decide ((y.1:Int)=s)) m.drives q (fun y _ a _ b _ o g=>by have o:=of_decide_eq_true o;have g:=of_decide_eq_true g;omega) h.nodup;show ZW (fun s:Int=>YT (Yu fl' s.toNat)) m.drives≤_;rw[I,Z5d];have:=h.sum;omega
theorem Z90 (h:m.may=true)(f:m.seq<2147483647){s:Nat}(k:s<64)(g:(s:Int) ∉ m.drives):(X6 m s).may=true:=by
 have c:=Z3k (m.drives++ [(s:Int)]);refine Z8t h f rfl rfl rfl rfl ?_ rfl;refine Z7l (fun y a=>?_) ?_
 ·rcases YZ.1 (c.mem_iff.1 a) with b|b;·exact Za4 (Yo h).drives y b
  ·rw[Yn]at b;omega
 ·have i:(XI (m.drives++ [(s:Int)])).Nodup:=c.nodup_iff.2 (by rw[List.nodup_append];refine⟨Z3b (Yo h).drives,Ze,fun x j y a e=>?_⟩;rw[Yn]at a;exact g (by rw[←a,←e];exact j));exact((Z7Z _).and i).imp fun d=>YU d.1 d.2
theorem Z9B (h:m.may=true)(a:m.seq<2147483647)(z:Nat):(ZX m z).may=true:=by refine Z8t h a rfl rfl rfl rfl ?_ rfl;exact Z7l (fun y b=>Za4 (Yo h).drives y (YW.1 b).1) ((Z8X (Yo h).drives).filter _)
theorem Z0B (s:Nat)(x:Int):x∈(X6 m s).drives↔x∈m.drives∨x=(s:Int):=by show x∈XI (m.drives++ [(s:Int)])↔_;rw[(Z3k _).mem_iff,YZ,Yn]
theorem Z2G (z:Nat)(x:Int):x∈(ZX m z).drives↔x∈m.drives∧x≠(z:Int):=by show x∈m.drives.filter _↔_;rw[YW];simp
theorem Xb.add (h:Xb m D fl c R b nd rm)(I:b≤5)(U:nd≤5)(V:c≤100){s r:Nat}(E:s<64)(J:rm≤r)(z:(s:Int) ∉ m.drives)
  (q:XJ (fun t=>if (t:Int)∈(X6 m s).drives then ZI (m.seq+1) (pack (X6 m s)) else []) (Yw fl s (some (Dr.new Pw.new r))) fl'):Xb (X6 m s) D fl' (c+1) R b (nd+1) rm:=by
 have M:=h.may;have W:=h.seq;have F:=Z90 M Y E z;have N:(X6 m s).drives.length=m.drives.length+1:=by show(XI (m.drives++ [(s:Int)])).length=_;rw[Z40,Zw];rfl
 have a0:(ZI (m.seq+1) (pack (X6 m s))).length≤3:=Z5z F (Zc h.dl) (Zj h.ob I) h.tr;have v:Yu fl' s=ZI (m.seq+1) (pack (X6 m s)):=by rw[Z4g q (YV _ _ _),if_pos ((Z0B s _).2 (.inr rfl)),YO (YV _ _ _)];rfl
 have w:∀t d,fl t=some d→(t:Int)∈m.drives→Yu fl' t=d.L++ZI (m.seq+1) (pack (X6 m s)):=fun t d O A=>by
  have y:t≠s:=fun e=>z (e ▸ A);have p:Yw fl s (some (Dr.new Pw.new r)) t=some d:=by rw[YB y];exact O
  rw[Z4g q p,YO p,if_pos ((Z0B s _).2 (.inl A))]
 have P:XO fl' (X6 m s).drives:=fun x k=>by
  rcases(Z0B s x).1 k with a|a;·obtain⟨t,d,e,g,f⟩:=h.sl x a;have y:t≠s:=fun l=>z (by rw[←l,←e];exact a);obtain⟨B,n,_⟩:=(q t).2 d (by rw[YB y];exact f);exact⟨t,B,e,g,n⟩
  ·obtain⟨B,n,_⟩:=(q s).2 _ (YV _ _ _);exact⟨s,B,a,E,n⟩
 refine⟨?_,P,?_,?_,h.K,h.ex,by rw[N];have:=h.dl;omega,h.ob,h.tr,by show m.seq+1=_;rw[h.seq];simp⟩
 ·refine h.sto.same F rfl rfl rfl (Int.le_refl _) (fun e=>by have:=(Z0B (m:=m) s (s:Int)).2 (.inr rfl);rw[e]at this;cases this) ?_ ?_ ?_
  ·intro x k G o;rcases(Z0B s x).1 k with a|a;·obtain⟨t,d,e,g,f,l⟩:=Z15 h.sl a;rw[l,w t d f (e ▸ a)];exact Z13 _ o
   ·rw[a,ZL,v];exact o
  ·intro x k G o;rcases(Z0B s x).1 k with a|a
   ·obtain⟨t,d,e,g,f,l⟩:=Z15 h.sl a;rw[l,w t d f (e ▸ a)]at o;rcases YZ.1 o with n|n;·exact⟨h.sto.len x a G (by rw[l,YO f];exact n),.inr ⟨x,a,by rw[l,YO f];exact n⟩⟩
    ·exact⟨Z2D n,.inl (Z3e n)⟩
   ·rw[a,ZL,v]at o;exact⟨Z2D o,.inl (Z3e o)⟩
  ·intro e Q i S j T;obtain⟨x,k,a⟩:=h.sto.cov e Q i S j T;obtain⟨t,d,C,g,f,l⟩:=Z15 h.sl k;refine⟨x,(Z0B s x).2 (.inl k),?_⟩;rw[l,w t d f (C ▸ k)];rw[l,YO f]at a;exact Z16 _ a
 ·intro t B p A;rcases(Z0B s (t:Int)).1 A with a|a;·have y:t≠s:=fun e=>z (e ▸ a);obtain⟨d,g,f,_⟩:=Z3_ q p;rw[YB y]at g;have n:=h.room t d g a;have H:=w t d g a;rw[YO p]at H;rw[H,Z3r,Z21,Zw];omega
  ·have e:t=s:=Y;subst e;obtain⟨d,g,f,_⟩:=Z3_ q p;rw[YV]at g;injection g with g;subst g;rw[YO p]at v;refine⟨by rw[f];exact J,?_⟩;rw[v,Z21];omega
 ·show ZW _ (XI (m.drives++ [(s:Int)]))≤R;rw[Zff _ (Z3k _),Z9o];have C:ZW (fun x:Int=>YT (Yu fl' x.toNat)) m.drives=ZW (fun x:Int=>YT (Yu fl x.toNat)) m.drives:=Z3U fun x k=>by obtain⟨t,d,e,g,f,l⟩:=Z15 h.sl k;rw[l,w t d f (e ▸ k),YO f,Z3r,Z21,XV]
  rw[C];simp only[ZW,ZL,v,Z21];have:=h.sum;omega
theorem Xb.out (h:Xb m D fl c R b nd rm)(hb:b≤5)(al:nd≤6)(hc:c≤100){z:Nat}{F:Dr}(V:fl z=some F)(P:(z:Int)∈m.drives)(ab:(ZX m z).drives≠ []){q:List ((Nat×Y_)×U2)}{ac:Nat→Nat}
  (J:MvQ (ZX m z).drives ((YD m F.L).filter (fun r=> !((WY m fl (ZX m z).drives).any (Z12 r)))) q ac)
  (W:XJ (fun s=>ZQ (q.map Prod.fst) s++if (s:Int)∈(ZX m z).drives then ZI (m.seq+1) (pack (ZX m z)) else []) (Yw fl z none) fl'):Xb (ZX m z) D fl' (c+1) R b (nd-1) rm:=by
 have ad:=h.may;have am:=h.seq;have a0:=Z9B ad Y z;have an:(ZX m z).drives.length+1≤m.drives.length:=by
  have g:=Z6I (f:=fun _=>1) P h.nodup;have k:∀l:W_,ZW (fun _=>1) l=l.length:=fun l=>by induction l with|nil=>rfl|cons a l ih=>simp only[ZW,ih,XQ];omega
  rw[k,k]at g;exact Nat.le_of_eq g
 have ao:(ZI (m.seq+1) (pack (ZX m z))).length≤3:=Z5z a0 (Zc h.dl) (Zj h.ob hb) h.tr;obtain⟨C,Q⟩:∃l,(YD m F.L).filter (fun r=> !((WY m fl (ZX m z).drives).any (Z12 r)))=l:=⟨_,rfl⟩;rw[Q]at J;have a4:∀r∈C,r∈YD m F.L:=fun r B=>by rw[←Q]at B;exact(YW.1 B).1
 have ae:∀y∈q.map Prod.fst,(y.1:Int)∈(ZX m z).drives∧∃r∈C,y.2=Yr r:=fun y hy=>by
  obtain⟨y',af,rfl⟩:=ZT.1 hy;obtain⟨j,M,rfl⟩:=ZZ af;have a5:j<C.length:=by rw[←J.len];exact M
  obtain⟨s,v,g,k⟩:=J.at_ j a5;rw[Z7 M]at g;injection g with g;rw[g];exact⟨k,_,by rw[Z6,Z7 a5];exact Zp _,rfl⟩
 have ap:C.length≤YT F.L:=by rw[←Q];exact Zj (Wx _ _) (Z3f m F.L)
 have a6:∀s,∀x∈ZQ (q.map Prod.fst) s,(Xo x).isSome=true∧x.length=64∧∃r∈C,x=Yr r:=fun s x i=>by
  unfold ZQ at i;obtain⟨y,hy,rfl⟩:=ZT.1 i;obtain⟨_,r,B,e⟩:=ae y (YW.1 hy).1;have a7:r.may=true:=by have g:=(Z24 (a4 r B)).2;unfold Vp at g;simp only[Xp]at g;exact g.1
  rw[e,Z47 a7];exact⟨rfl,Z51 a7,r,B,rfl⟩
 have a1:(z:Int) ∉ (ZX m z).drives:=fun hm=>((Z2G z _).1 hm).2 rfl;have G:∀s d,fl s=some d→(s:Int)∈(ZX m z).drives→Yu fl' s=d.L++(ZQ (q.map Prod.fst) s++ZI (m.seq+1) (pack (ZX m z))):=fun s d hd n=>by
  have a2:s≠z:=fun e=>a1 (e ▸ n);have N:Yw fl z none s=some d:=by rw[YB a2];exact hd
  rw[Z4g W N,YO N,if_pos n]
 have a8:∀s d,fl s=some d→(s:Int)∈(ZX m z).drives→YT (Yu fl' s)=YT d.L+(ZQ (q.map Prod.fst) s).length:=fun s d hd n=>by rw[G s d hd n,Z3r,Z3r,Z21,Z9Z fun x i=>(a6 s x i).1];rfl
 have a3:∀x∈(ZX m z).drives,x∈m.drives:=fun x i=>((Z2G z x).1 i).1;have H:∀x∈(ZX m z).drives,∃t d,x=((t:Nat):Int)∧t<64∧fl t=some d∧x.toNat=t:=fun x i=>Z15 h.sl (a3 x i);have ag:XO fl' (ZX m z).drives:=fun x i=>by obtain⟨t,d,e,k,A,_⟩:=H x i;have ah:t≠z:=fun w=>a1 ((show x=(z:Int) from Y) ▸ i);obtain⟨d',o,_⟩:=(W t).2 d (by rw[YB ah];exact A);exact⟨t,d',e,k,o⟩
 refine⟨?_,ag,?_,?_,h.K,h.ex,Zc h.dl,h.ob,h.tr,by show m.seq+1=_;rw[h.seq];simp⟩
 ·refine h.sto.same a0 rfl rfl rfl (Int.le_refl _) ab ?_ ?_ ?_;·intro x i S E;obtain⟨t,d,e,k,A,w⟩:=H x i;rw[w,G t d A (e ▸ i)];exact Z13 _ (Z13 _ E)
  ·intro x i S E;obtain⟨t,d,e,k,A,w⟩:=H x i;have a9:=a3 x i;rw[w,G t d A (e ▸ i)]at E;rcases YZ.1 E with o|o;·exact⟨h.sto.len x a9 S (by rw[w,YO A];exact o),.inr ⟨x,a9,by rw[w,YO A];exact o⟩⟩
   ·rcases YZ.1 o with o|o;·obtain⟨_,I,r,B,T⟩:=a6 t S o;obtain⟨⟨c',ai,aj⟩,_⟩:=Z24 (a4 r B);refine⟨I,.inr ⟨(z:Int),P,?_⟩⟩;rw[ZL,YO V,T,(Z4L aj).2];exact ai
    ·exact⟨Z2D o,.inl (Z3e o)⟩
  ·refine h.sto.away P (Z2G z) ?_ ?_;·intro x i S E;obtain⟨t,d,e,k,A,w⟩:=H x i;rw[w]at E ⊢;rw[G t d A (e ▸ i)];rw[YO A]at E;exact Z16 _ E
   ·intro r B;rw[ZL,YO V]at B;by_cases aa:(WY m fl (ZX m z).drives).any (Z12 r)=true;·obtain⟨p,U,hk⟩:=Z1u.1 aa;unfold WY at U;obtain⟨s,n,U⟩:=List.mem_flatMap.1 U;exact .inl ⟨s,n,p,U,of_decide_eq_true hk⟩
    ·have ak:r∈C:=(by rw[←Q];exact YW.2 ⟨B,by simpa using aa⟩);obtain⟨j,M,rfl⟩:=ZZ ak;obtain⟨s,v,g,k⟩:=J.at_ j M;rw[Z6,Z7 M]at g;obtain⟨t,d,e,A,o,w⟩:=H _ k;have O:s=t:=Y;refine .inr ⟨(s:Int),k,?_⟩;rw[ZL,O,G t d o (e ▸ k)];refine Z13 _ (Z16 _ ?_);unfold ZQ;have I:((s,Yr C[j]),v)∈q:=List.mem_of_getElem? g;exact ZT.2 ⟨(s,Yr C[j]),YW.2 ⟨ZT.2 ⟨_,I,rfl⟩,decide_eq_true O⟩,rfl⟩
 ·intro s d' N n;have a2:s≠z:=fun e=>a1 (e ▸ n);obtain⟨d,g,k,A⟩:=Z3_ W N;rw[YB a2]at g;have o:=h.room s d g (a3 _ n);have I:=G s d g n;have T:=a8 s d g n;rw[YO N]at I T;refine⟨Y,?_⟩;rw[T,I,Zw,Zw];omega
 ·have e1:ZW (fun s:Int=>YT (Yu fl' s.toNat)) (ZX m z).drives=ZW (fun s:Int=>YT (Yu fl s.toNat)+(q.map Prod.fst).countP fun y=>decide ((y.1:Int)=s)) (ZX m z).drives:=Z3U fun s n=>by obtain⟨t,d,e,g,k,w⟩:=H s n;rw[w,a8 t d k (e ▸ n),YO k];congr 1;unfold ZQ;rw[Zz,←List.countP_eq_length_filter];refine List.countP_congr fun y _=>?_;rw[e];simp only[decide_eq_true_eq];omega
  have w:ZW (fun s:Int=>(q.map Prod.fst).countP fun y=>decide ((y.1:Int)=s)) (ZX m z).drives≤(q.map Prod.fst).length:=Z60 (fun(s:Int) (y:Nat×Y_)=>decide ((y.1:Int)=s)) (ZX m z).drives (q.map Prod.fst) (fun y _ a _ b _ g k=>by have g:=of_decide_eq_true g;have k:=of_decide_eq_true k;omega) (Z3b (Yo a0).drives);have O:=Z6I (f:=fun s:Int=>YT (Yu fl s.toNat)) P h.nodup;rw[ZL,YO V]at O;rw[Zz,J.len]at w;show ZW (fun s:Int=>YT (Yu fl' s.toNat)) (ZX m z).drives≤_;rw[e1,Z5d];have e5:ZW (fun s:Int=>YT (Yu fl s.toNat)) (ZX m z).drives+YT F.L=ZW (fun s:Int=>YT (Yu fl s.toNat)) m.drives:=O;have:=h.sum;omega
end
end
