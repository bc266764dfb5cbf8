/- Turn Commit AddK Add -/
import Derived.Test.YtpokipdpjhookaaGreatDoorBTopRetires34
import Derived.Test.YtpokipdpjhookaaGreatDoorBTopRetires36
set_option maxHeartbeats 8000000
set_option maxRecDepth 20000
set_option linter.all false
namespace Go.Proofs
open Go Go.RowKit Tryz
variable {w v:World} {n m k i j N:Nat} {F:Nat→Prop} {s:List Int} {t T:TypeId} {x y:Value} {l L:List Value}
def WH (e:U0) (a w:U1) (b c:Nat) (n:Nat→Nat) (o:Nat→Option Dr) (P:Nat→Z0) (m:Zd):Prop:=
 ∃F d f g h i no j l,SM w b c n F Pw.new d m f g h i no j l∧FG d∧XJ P o d∧(∀k,Zy b c F k→Ext e a w k)∧Only e a w∧Z0_ (fun k=>k<a.heap.size∨Zy b c F k) w m f g h i no j l
theorem WH.since {M0:U0}{w0:U1}{f:Nat→Nat}{g:Nat→Option Dr}{P:Nat→Z0}{a:Zd}(h:WH F w v n m f g P a)(i:Only M0 w0 w)(j:∀k,F k→Ext M0 w0 w k):WH M0 w0 v n m f g P a:=by
 obtain⟨b,o,p,q,r,s,no,t,x,y,z,A,B,l,d⟩:=h;have D:=i.size;have E:=l.size;refine⟨b,o,p,q,r,s,no,t,x,y,z,A,fun k e=>?_,i.trans l (fun k e C=>?_),d.less fun k e=>e.imp_left fun h=>Y⟩
 ·rcases B k e with d|d
  ·rcases j k d with c|c;·exact .inl c
   ·exact .inr ⟨c.1,Y⟩
  ·exact .inr ⟨Y,d.2⟩
 ·rcases j k C with c|c;·exact c
  ·omega
theorem Z3Y (m:Zd)(s:Nat):∀{l:W_},(∀x∈l,0≤x)→l.Nodup→ZQ (pgQ m l) s=if (s:Int)∈l then ZI m.seq (pack m) else []
 | [],_,_=>by simp[pgQ,ZQ]
 |x::l,h0,hn=>by
  have ih:=Z3Y m s (l:=l) (fun y hy=>h0 y (XB _ hy)) (List.nodup_cons.1 hn).2;have e:pgQ m (x::l)=((ZI m.seq (pack m)).map fun c=>(x.toNat,c))++pgQ m l:=rfl;rw[e,Z82,ih];have hx:=h0 x (XP ..);have e2:ZQ ((ZI m.seq (pack m)).map fun c=>(x.toNat,c)) s=if x.toNat=s then ZI m.seq (pack m) else []:=by
   unfold ZQ;by_cases h:x.toNat=s;·rw[if_pos h,Z2k.2 (fun y hy=>by obtain⟨c,_,rfl⟩:=ZT.1 hy;simpa using h),WS];exact List.map_id' _
   ·rw[if_neg h,List.filter_eq_nil_iff.2 (fun y hy=>by obtain⟨c,_,rfl⟩:=ZT.1 hy;simpa using h)];rfl
  rw[e2];by_cases h:x.toNat=s;·have hs:(s:Int)=x:=Y;have hnot:(s:Int) ∉ l:=(by rw[hs];exact(List.nodup_cons.1 hn).1);rw[if_pos h,if_neg hnot,if_pos (by rw[hs];exact XP ..),Wo]
  ·have hs:¬(s:Int)=x:=Y;rw[if_neg h,Z10];by_cases hm:(s:Int)∈l;·rw[if_pos hm,if_pos (XB _ hm)]
   ·rw[if_neg hm,if_neg (fun hc=>by
     rcases Xy.1 hc with hc|hc;·exact hs hc
     ·exact hm hc)]
theorem Z7e (m:Zd):∀l:W_,(pgQ m l).length≤l.length*9
 | []=>by simp[pgQ]
 |x::l=>by have a:=Z7e m l;have b:=Z1D m;have e:pgQ m (x::l)=((ZI m.seq (pack m)).map fun c=>(x.toNat,c))++pgQ m l:=rfl;rw[e,Zw,Zz,XQ,X9];omega
theorem Zao {m:Zd}{x:Nat×Y_}(h:x∈pgQ m s):(∃y∈s,x.1=y.toNat)∧x.2∈ZI m.seq (pack m):=by unfold pgQ at h;obtain⟨y,a,h⟩:=List.mem_flatMap.1 h;obtain⟨c,b,rfl⟩:=ZT.1 h;exact⟨⟨y,a,rfl⟩,b⟩
theorem Z99 (b r:Nat)(gd:Nat→Nat)(F:Nat→U0)(E:Nat→Option Dr)(m a:Zd)(Ad Ao:X_)(nd cd no co:Nat)(ts:Z_)(I J:X_)(j M p N:Nat)(a7:Z_)(n c:Nat)(A:X_)(l:W_)(w:U1)
  (h:SM w b r gd F Pw.new E m Ad nd cd Ao no co ts) (hg:FG E) (hm:Z0_ (Zy b r F) w a I j M J p N a7) (a3:a.may=true) (al:Sl w w 1 A n (l.map iv)) (hn:n≤64) (hl:XO E l) (am:l.Nodup)
  (an:∀s d,E s=some d→(s:Int)∈l→d.L.length+(ZI a.seq (pack a)).length≤d.room):
  Calls prog 88 #[(b,()),a.val (I,j,M) (J,p,N),(A,n,c)] w fun e w'=>e=.returned Nat∧WH (Zy b r F) w w' b r gd E (fun s=>if (s:Int)∈l then ZI a.seq (pack a) else []) a:=by
 have a1:Below w w (w.alloc (.cells #[a.seq,a.next,a.P.K,a.P.H,a.P.S,a.extra,(I,j,M),(J,p,N)] 75)):=(Z8 _ _).alloc (Z4 _) _;have r1:=Row.new w 75 #[a.seq,a.next,a.P.K,a.P.H,a.P.S,a.extra,(I,j,M),(J,p,N)];obtain⟨gb,a8⟩:∃g,w.heap.size=g:=⟨_,rfl⟩;have ao:∀x∈l,0≤x:=fun x O=>by obtain⟨s,d,e,_⟩:=hl x O;omega
 have a9:=Z0e a3;have aW:j≤64:=by rw[←hm.now.dl];exact a9.1
 have b0:p≤12:=by rw[←hm.now.o.len];exact a9.2
 have aB:=Z (show ∀e∈a.objs,e.tries.length≤1000 from fun e he=>Zc ((Z0i a3 he).tlen));have aC:=Z (show ¬Zy b r F gb from fun i=>Zc (h.mlt gb i));have aa:=Z ((SS.start h hg).new_ a1);have HM:=Z hm;have ap:=Z (hm.new_ a1);have ab:=Z (al.below a1);have aD:=Z a3;have HL:=Z hl;have ac:=Z ao;have aq:=Z am;have aE:=Z an;rw[a8]at r1;have a4:=Z r1;have aF:=Z a8;have HA:=Z a1;clear h hg hm a3 al hl ao am an a9 r1 a8 a1;unfold Zd.val;go_enter func88,ntmps88;go_upto_region 1 with fail;rw[aF];generalize (w.alloc (.cells #[a.seq,a.next,a.P.K,a.P.H,a.P.S,a.extra,(I,j,M),(J,p,N)] 75))=w1 at aa ap ab a4 HA ⊢;have aG:=HA.size;obtain⟨m0,m1,m2,m3,m4,m5,m6,m7⟩:=Row.c8 a4;have R:=Z7P a w1 j M p N I J a7 n c A l w1 ap.now (Z4 _) aD (ab.mono aG) hn ac;unfold Zd.val at R;have HC:=Z R;clear R;go_wp2_with fail;refine HC.mono ?_;rintro e w2 ⟨A2,n2,c2,q,rfl,ae,ar,a0,af⟩;have ag:=Z (aa.new_ af);have aH:=Z (a4.below af a4.lt);have b1:=Z1D a;have b2:n2≤64*9:=by
  rw[←ae,←Zz (f:=Prod.fst),a0];have b3:l.length=n:=by have:=ab.len;simpa using this
  exact Zj (Z7e a l) (VI Y (Z4 _))
 have aI:=Z (ar.stb (G:=Zy b r F) ae (fun k i=>aa.sm.mlt k i));have aJ:=Z a0;have av:=Z (show ∀x∈q,(x.1.1<64∧x.1.2.length=64)∧∃d,E x.1.1=some d∧d.L.length+(ZQ (q.map Prod.fst) x.1.1).length≤d.room from fun x O=>by
  have U:x.1∈pgQ a l:=by rw[←a0];exact Z2U O
  obtain⟨⟨y,hy,e1⟩,h2⟩:=Zao U;obtain⟨s,d,e,hs,hd⟩:=HL y hy;have e3:x.1.1=s:=Y;refine⟨⟨Y,Z2D h2⟩,d,by rw[e3];exact hd,?_⟩;rw[a0,e3,Z3Y a s ac aq,if_pos (by rw[←e];exact hy)];exact aE s d hd (by rw[←e];exact hy))
 clear ae ar a0 af m0 m1 m2 m3 m4 m5 m6 m7;go_wp2_with fail;refine(Z4H b r gd F E m Ad Ao nd cd no co ts n2 c2 A2 q w2 ag.sm ag.fg aI Y (fun x O=>(av x O).1) (fun x O=>(av x O).2)).mono ?_;rintro e w3 ⟨rfl,F3,ah,ai⟩;have a2:=Z ((ag.more ai).to (Q:=fun s=>if (s:Int)∈l then ZI a.seq (pack a) else []) (fun s=>by rw[Z10,aJ,Z3Y a s ac aq]));have aK:=Z (aH.only ai.on aC);have aL:=Z (HM.at_ a2.on);clear ai;obtain⟨m0,m1,m2,m3,m4,m5,m6,m7⟩:=Row.c8 aK;have R:=Z5Q w3 a I J j M p N a7 w3 aL (Z4 _) Y Y aB;unfold Zd.val at R;have aM:=Z R;clear R;go_wp2_with (go_at_call 96;go_must (refine aM.mono ?_);rintro e w4 ⟨z,B,C,D,a5,rfl,aw,aj,-⟩;go_must (have aO:=Z aw);go_must (have V:=Z (a2.new_ aj));go_must (have b4:=Z aj);go_must (have t:=Z V.sm.row);clear aw aj m0 m1 m2 m3 m4 m5 m6 m7;have z0:=t.cell 0;have z1:=t.cell 1;have z2:=t.cell 2;have z3:=t.cell 3;have z4:=t.cell 4;have z5:=t.cell 5;have z6:=t.cell 6;have z7:=t.cell 7;unfold Z0I at z0 z1 z2 z3 z4 z5 z6 z7;simp only[Z0L,Xd,ZE]at z0 z1 z2 z3 z4 z5 z6 z7;obtain⟨f0,f1,f2,f3,f4,f5,f6,f7⟩:=Wt t)
 obtain⟨W,a6⟩:∃x,((((((((w4.setCell ⟨b,0,none⟩ (.int .i64 a.seq)).setCell ⟨b,1,none⟩ (.int .i64 a.next)).setCell ⟨b,2,none⟩ (.int .i64 a.P.K)).setCell ⟨b,3,none⟩ (.int .i64 a.P.H)).setCell ⟨b,4,none⟩ (.int .i64 a.P.S)).setCell ⟨b,5,none⟩ (.int .i64 a.extra)).setCell ⟨b,6,none⟩ (.slice z j B)).setCell ⟨b,7,none⟩ (.slice C p D))=x:=⟨_,rfl⟩;have T:Only (fun q=>q=b) w4 W:=by rw[←a6];exact(((((((((Only.refl (fun q=>q=b) w4).set rfl 0 a.seq).set rfl 1 a.next).set rfl 2 a.P.K).set rfl 3 a.P.H).set rfl 4 a.P.S).set rfl 5 a.extra).set rfl 6 (z,j,B)).set rfl 7 (C,p,D))
 have ax:Row W b 77 (Z0I a (z,j,B) (C,p,D) r Pw.new.offs gd ah):=by rw[←a6];have h9:=((((((((t.set 0 a.seq).set 1 a.next).set 2 a.P.K).set 3 a.P.H).set 4 a.P.S).set 5 a.extra).set 6 (z,j,B)).set 7 (C,p,D));unfold Z0I at h9 ⊢;simpa using h9
 rw[a6];clear a6 z0 z1 z2 z3 z4 z5 z6 z7 f0 f1 f2 f3 f4 f5 f6 f7;have v:=V.sm;have aP:=a2.sm.row.lt;have ak:Z0_ (fun k=>k<w.heap.size∨Zy b r F3 k) W a z j B C p D a5:=(aO.far (fun k e=>Y) T).stb fun k i=>by
  rcases i with i|i;·exact YI i a2.on.size
  ·exact a2.sm.mlt k i
 have ay:Z0_ (Zy b r F3) W a z j B C p D a5:=ak.less fun k i=>.inr i;have aQ:=Z ak;have az:SM W b r gd F3 Pw.new ah a z j B C p D a5:=by
  refine⟨ax,v.pow.only T v.ne.symm,fun s d hs=>⟨(v.dr s d hs).1.only T fun k i e=>?_,(v.dr s d hs).2⟩,v.np,v.dj,fun s k i=>YI (v.lt s k i) T.size,ay⟩;subst e;rcases i with i|i;·exact v.ne i
  ·exact(v.np s).2 i
 have HF:=Z az;have aR:=Z V.fg;have aT:=Z V.ad;have aU:=Z (show ∀k,Zy b r F3 k→Ext (Zy b r F) w W k from fun k i=>by
  rcases V.mu k i with U|U;·exact .inl U
  ·exact .inr ⟨U.1,YI U.2 T.size⟩)
 have aV:=Z (V.on.trans T fun k _ e=>by subst e;exact .inl rfl);clear T ax v ay az aP ak;go_wp2;go_ret;exact⟨rfl,F3,ah,z,j,B,C,p,D,a5,HF,aR,aT,aU,aV,aQ⟩
theorem ZeH (g t:Nat)(b:Nat→Nat)(F:Nat→U0)(i:Nat→Option Dr)(m:Zd)(v x:X_)(z A no B:Nat)(S:Z_)(f:Nat)(C:Array U2)(c j s n:Nat)(d:Dr)(w:U1)
  (h:SM w g t b F Pw.new i m v z A x no B S) (k:Row w c 28 [(g,())]) (l:Row w j 141 [.func (.func f) #[] C]) (T:s<64) (o:i s=some d) (D:DG d) (E:n+d.L.length≤d.room)
  (eg:∀G w,(callFunc f G).run prog w=.ok (.enter f G) w) (H:∀a,Below w w a→Calls prog f (#[.int .i64 (s:Int)]++C) a fun e U=>e=.returned (n:Int)∧Below a a U):
  Calls prog 145 #[(s:Int),(c,()),(j,())] w fun e a=>e=.returned (.bool false)∧Below w w a:=by
 have I:=h.row.lt;have J:=k.lt;have V:=l.lt;have q:=k.cell 0;have M:=l.cell 0;simp only[ZE]at q M;have W:=Z h.cells.1;have N:=h.cells.2.2.2 s T;have O:X3 b i s=.pointer (some ⟨b s,0,none⟩):=by unfold X3;rw[o]
 rw[O]at N;have a0:=Z h;have a1:=Z o;have P:=Z D;have a2:=Z E;have HN:=Z H;have a3:(s:Int)<64:=Y;clear h k l o D E H O;go_enter func145,ntmps145;go_upto_region 1 with fail;refine oS [] (fun a=>Below w w a) [0,1,2,3,4,5,6,7,8,9,10,11,12,13,14,15] (bq_ (Z8 _ _) 1) fun hS=>?_;refine ZH (fun w hSw=>(hSw.cell (p:=c) J).trans q) ?_;iterate 4 refine oV ?_
 refine ZH (fun w hSw=>(hSw.cell (p:=⟨g,10+s,none⟩) I).trans N) ?_;refine ZH (fun w hSw=>(hSw.cell (p:=c) J).trans q) ?_;refine oV ?_;refine oV ?_;refine oC (y:=fun w hSw=>by obtain⟨q0,q1,q2,q3,q4,q5,q6,q7⟩:=W.keep hSw I;exact Y4) (h:= ?_);refine ZH (fun w hSw=>(hSw.cell (p:=j) V).trans M) ?_;refine oV ?_;refine oG fun K hK=>?_;go_simp;go_at_fn f
 refine(HN _ hS).mono ?_;rintro e w6 ⟨rfl,Q⟩;have r:=hS.trans (Q.mono hS.size);clear Q;go_wp2_with fail;refine oK hK r fun hS=>?_;refine oG fun K hK=>?_;go_simp;go_at_call 114;refine(Z6e _ (b s) t d _ m (v,z,A) (x,no,B) n _ (by rfl) ((a0.new_ hS).dr s d a1).1 P.lost P.ok.room.2 a2).mono ?_;rintro e w7 ⟨rfl,R⟩;have r:=hS.trans (R.mono hS.size);clear R;go_wp2_with fail;refine oK hK r fun hS=>?_;refine oV ?_;refine oV ?_;refine oD ?_;go_wp2;go_ret;exact⟨rfl,hS⟩
theorem Z8F (a J:Nat)(M:Nat→Nat)(F:Nat→U0)(j:Nat→Option Dr)(m:Zd)(N O:X_)(P Q no R:Nat)(S:Z_)(f:Nat)(i:Array U2)(v:Nat→Nat)(n c:Nat)(A:X_)(l:W_)(w:U1)
  (h:SM w a J M F Pw.new j m N P Q O no R S) (T:FG j) (U:Sl w w 1 A n (l.map iv)) (hn:n≤64) (V:XO j l) (W:∀s d,j s=some d→(s:Int)∈l→v s+d.L.length≤d.room)
  (eg:∀k w,(callFunc f k).run prog w=.ok (.enter f k) w) (hc:∀x∈l,∀b,Below w w b→Calls prog f (#[.int .i64 x]++i) b fun e y=>e=.returned (v x.toNat:Int)∧Below b b y):
  Calls prog 86 #[(a,()),(A,n,c),.func (.func f) #[] i] w fun e b=>e=.returned (.bool true)∧Below w w b:=by
 have a1:Below w w (w.alloc (.cells #[(a,())] 28)):=(Z8 _ _).alloc (Z4 _) _;have z:=Row.new w 28 #[(a,())];have p:=a1.alloc (X5 Ze) (.cells #[.func (.func f) #[] i] 141);have B:=z.below ((Z8 _ _).alloc (Z4 _) (.cells #[.func (.func f) #[] i] 141)) z.lt;have q:=Row.new (w.alloc (.cells #[(a,())] 28)) 141 #[.func (.func f) #[] i];rw[show(w.alloc (.cells #[(a,())] 28)).heap.size=w.heap.size+1 from Ze]at q;have ef:∀k w,(callFunc 145 k).run prog w=.ok (.enter 145 k) w:=fun _ _=>rfl;obtain⟨r,C⟩:∃g,w.heap.size=g:=⟨_,rfl⟩;rw[C]at B q;have a0:=Z (h.new_ p);have D:=Z B;have E:=Z q;have t:=Z p;have a2:=Z (U.below p);have a5:=Z C;have HG:=Z T;have HL:=Z V;have a6:=Z W;have HC:=Z hc;clear h T U V W hc a1 p z B q C;go_enter func86,ntmps86;go_upto_region 1 with fail;rw[a5];generalize ((w.alloc (.cells #[(a,())] 28)).alloc (.cells #[.func (.func f) #[] i] 141))=w1 at a0 D E t a2 ⊢;have G:=t.size;go_wp2_with fail;refine(Z6h w1 n c A l 145 #[(r,()),.pointer (some ⟨r+1,0,none⟩)] (fun _=>false) false w1 ef (a2.mono G) (Z4 _) Y Ze (fun x H b o=>by obtain⟨s,d,e,hs,I⟩:=HL x H;subst e;have a3:=HC (s:Int) H;rw[ZL]at a3;exact ZeH a J M F j m N O P Q no R S f i r (r+1) s (v s) d b (a0.new_ o) (D.below o D.lt) (E.below o E.lt) hs I (HG s d I) (a6 s d I H) eg (fun y a7=>a3 y (t.trans ((o.trans (a7.mono o.size)).mono G))))).mono ?_;rintro e w2 ⟨rfl,a4⟩;have a8:=Z a4;clear a4;go_wp2;go_ret;exact⟨rfl,t.trans (a8.mono G)⟩
theorem Z94 (v H:Nat)(q:Nat→Nat)(F:Nat→U0)(g:Nat→Option Dr)(m:Zd)(I J:X_)(M N no O:Nat)(ts:Z_)(f:Nat)(z:Array U2)(r:Nat→Nat)(n c:Nat)(A:X_)(l:W_)(w:U1)
  (h:SM w v H q F Pw.new g m I M N J no O ts) (P:FG g) (B:Sl w w 1 A n (l.map iv)) (hn:n≤64) (Q:XO g l) (R:∀s d,g s=some d→(s:Int)∈l→r s+d.L.length≤d.room)
  (eg:∀S w,(callFunc f S).run prog w=.ok (.enter f S) w) (T:∀x∈l,∀a,Below w w a→Calls prog f (#[.int .i64 x]++z) a fun e C=>e=.returned (r x.toNat:Int)∧Below a a C):
  Calls prog 87 #[(v,()),(A,n,c),.func (.func f) #[] z] w fun e a=>e=.returned Nat∧Below w w a:=by
 have U:l.length=n:=by have:=B.len;simpa using this
 have a6:=Z h;have a7:=Z B;have HG:=Z P;have HL:=Z Q;have a8:=Z U;have a9:=Z R;have HN:=Z (show ∀x:Int,x∈l→∀a,Below w w a→Calls prog f (#[.int .i64 x]++z) a fun e C=>e=.returned (r x.toNat:Int)∧Below a a C from T);clear h P B Q U R T;go_enter func87,ntmps87;go_wp2;go_loopw [12] (fun i wr=>∃k:Nat,k≤n∧i=.int .i64 (k:Int)∧Hid (Below w w wr)) (fun i _=>n-(intOf i).toNat)
 ·exact⟨0,Y,rfl,Z (Z8 _ _)⟩
 ·obtain⟨k,hk,rfl,b⟩:=hrel;have V:=b.size;by_cases W:k<n
  ·have ag:(k:Int)<(n:Int):=Y;have D:k<l.length:=(by rw[a8];exact W);obtain⟨be,oe,rfl,ah,ck⟩:=(a7.below b).get W (Xx l k D);have j:l.getD k 0∈l:=(by rw[Z6,Z7 D];exact Zp _);obtain⟨s,d,a0,aa,o⟩:=HL (l.getD k 0) j;rw[a0]at ck j;have ab:=Z j;have t:=Z (a6.new_ b);have a1:=t.row.lt;have ac:=Z t.cells.1;have E:=t.cells.2.2.2 s aa;have a2:X3 q g s=.pointer (some ⟨q s,0,none⟩):=(by unfold X3;rw[o]);rw[a2]at E;have ad:=Z o;have a3:=Z (HG s d o);have ae:=Z (a9 s d o j);have ai:(s:Int)<64:=Y;clear a0 o a2 D j;go_upto_region 4 with fail;go_cut [9] (fun s9 wy=>s9=.int .i64 0∧Hid (Below wr wr wy))
   ·refine oS [] (fun a=>Below wr wr a) [0,1,2,3,4,5,6,7,8,9,10,11,12,13,14] (bq_ (Z8 _ _) 1) fun hS=>?_;(iterate 5 refine oV ?_);refine ZH (fun w hSw=>(hSw.cell (p:=⟨v,10+s,none⟩) a1).trans E) ?_;(iterate 3 refine oV ?_);refine oC (y:=fun w hSw=>by obtain⟨q0,q1,q2,q3,q4,q5,q6,q7⟩:=ac.keep hSw a1;exact Y4) (h:= ?_);refine oV ?_;refine oV ?_;refine oG fun K hK=>?_;go_simp;go_at_fn f
    refine(HN (s:Int) ab _ (b.trans (hS.mono V))).mono ?_;rintro e w6 ⟨rfl,a4⟩;have G:=hS.trans (a4.mono hS.size);clear a4;go_wp2_with fail;refine oK hK G fun hS=>?_;refine oG fun K hK=>?_;go_simp;go_at_call 58;refine(Z9i _ (q s) H d _ m (I,M,N) (J,no,O) (r s) _ (by rfl) ((t.new_ hS).dr s d ad).1 a3.lost a3.ok.room.2 ae).mono ?_;rintro e w7 ⟨rfl,a5⟩;have G:=hS.trans (a5.mono hS.size);clear a5;go_wp2_with fail;refine oK hK G fun hS=>?_;refine oV ?_;refine oD ?_;go_wp2;go_meet;exact⟨rfl,Z hS⟩
   case rest=>
   obtain⟨rfl,af⟩:=hcut;generalize wc=w5 at*;clear E;go_wp2;go_roundw;·exact⟨k+1,Y,Zg,Z (b.trans (af.mono V))⟩
   ·exact Zh
  ·obtain rfl:k=n:=Y;go_wp2;go_ret;exact⟨rfl,b⟩
theorem Z8f (g n:Nat)(x:Int)(w:U1)(a:Row w g 3 [(n:Int)]):Calls prog 105 #[x,(g,())] w fun e b=>e=.returned (n:Int)∧Below w w b:=by have c:=a.cell 0;simp only[ZE]at c;go_enter func105,ntmps105;go_wp2;go_ret;exact⟨rfl,Z8 _ _⟩
theorem Z87 (c q:Nat)(A:Nat→Nat)(F:Nat→U0)(i:Nat→Option Dr)(m a:Zd)(I J:X_)(M N no O:Nat)(Q:Z_)(j r:X_)(b o t v:Nat)(a4:Z_)(w:U1)
  (h:SM w c q A F Pw.new i m I M N J no O Q) (hg:FG i) (hm:Z0_ (Zy c q F) w a j b o r t v a4) (a6:a.may=true) (av:a.seq=m.seq+1) (hl:XO i a.drives) (aw:a.drives≠ []) (ax:a.drives.Nodup)
  (ay:∀s d,i s=some d→(s:Int)∈a.drives→(ZI a.seq (pack a)).length+d.L.length≤d.room):
  Calls prog 51 #[(c,()),a.val (j,b,o) (r,t,v)] w fun e B=>e=.returned Nat∧WH (Zy c q F) w B c q A i (fun s=>if (s:Int)∈a.drives then ZI a.seq (pack a) else []) a:=by
 have az:=Z0e a6;have aa:b≤64:=by rw[←hm.now.dl];exact az.1
 have bh:0<b:=by
  rw[←hm.now.dl];cases hd:a.drives with
  |nil=>exact absurd hd aw
  |cons x l=>simp
 have bi:¬((b:Int)=0):=Y;have aR:=(Z9x a6);have a1:Below w w (w.alloc (.cells #[a.seq,a.next,a.P.K,a.P.H,a.P.S,a.extra,(j,b,o),(r,t,v)] 75)):=(Z8 _ _).alloc (Z4 _) _;have r1:=Row.new w 75 #[a.seq,a.next,a.P.K,a.P.H,a.P.S,a.extra,(j,b,o),(r,t,v)];obtain⟨gb,ab⟩:∃g,w.heap.size=g:=⟨_,rfl⟩;rw[ab]at r1;have ac:=Z ((SS.start h hg).new_ a1);have aB:=Z (hm.new_ a1);have ad:=Z r1;have aT:=Z ab;have R:=Z a6;have HL:=Z hl;have aU:=Z ax;have aC:=Z ay;have ae:=Z av;clear h hg hm a6 hl aw ax ay az a1 r1 ab av;unfold Zd.val;go_enter func51,ntmps51;go_upto_region 1 with fail;rw[aT];generalize (w.alloc (.cells #[a.seq,a.next,a.P.K,a.P.H,a.P.S,a.extra,(j,b,o),(r,t,v)] 75))=wa at ac aB ad ⊢;go_wp2_with fail;refine(Z53 c q A F Pw.new i m I J M N no O Q wa ac.sm rfl).mono ?_;rintro e T ⟨rfl,a7⟩;have af:=Z (ac.new_ a7);have aD:=Z (aB.new_ a7);have f:=Z (ad.below a7 ad.lt);clear a7;have ag:=f.lt;have aV:=af.sm.row.lt;have b0:=f.cell 0;simp only[ZE]at b0;have s0:=af.sm.cells.1.1;rw[ae]at b0;have aW:=Z (show Z01 T gb a (j,b,o) (r,t,v) from⟨f.cell 0,f.cell 1,f.cell 2,f.cell 3,f.cell 4,f.cell 5,f.cell 6,f.cell 7⟩);have bj:m.seq+1≤2147483647:=by rw[←ae];exact aR.2
 have bk:0≤m.seq:=Zc ae.out;go_upto_region 3 with fail;go_cut [24] (fun b1 wy=>b1=.bool false∧Hid (Below T T wy))
 ·refine oS [] (fun B=>Below T T B) [0,1,2,3,4,5,6,7,8,9,10,11,12,13] (bq_ (Z8 _ _) 1) fun hS=>?_;refine oC (y:=fun w hSw=>by obtain⟨q0,q1,q2,q3,q4,q5,q6,q7⟩:=aW.keep hSw ag;exact Y4) (h:= ?_);refine oG fun K hK=>?_;go_simp;go_at_call 104;refine(Z70 a T j r b o t v a4 true _ (aD.now.below hS) hS.size (Z2S R) (Z2u R) R).mono ?_;rintro e w6 ⟨rfl,z⟩;have b2:=hS.trans (z.mono hS.size);clear z;go_wp2_with fail;refine oK hK b2 fun hS=>?_;iterate 3 refine oV ?_
  refine ZH (fun w hSw=>(hSw.cell (p:=gb) ag).trans b0) ?_;iterate 4 refine oV ?_
  refine ZH (fun w hSw=>(hSw.cell (p:=c) aV).trans s0) ?_;iterate 3 refine oV ?_
  refine oD ?_;go_wp2;go_meet;exact⟨by rw[show IntKind.i64.wrap (m.seq+1)=m.seq+1 by simp[IntKind.wrap,IntKind.bits,IntKind.signed];omega];simp,Z hS⟩
 case rest=>
 obtain⟨rfl,ah⟩:=hcut;generalize wc=w2 at*;have ai:=Z (af.new_ ah);have aE:=Z (aD.new_ ah);have aj:=Z (f.below ah ag);obtain⟨V,W,m2,m3,m4,m5,m6,m7⟩:=Row.c8 aj;clear b0 s0;go_wp2_with fail;refine(Z88 c q A F Pw.new i m I J M N no O Q w2 b o j a.drives w2 ai.sm aE.now.d (Z4 _) (HL.live ai.fg) Y).mono ?_;rintro e w3 ⟨C,D,rfl,aF,a8⟩;have b3:=Z (ai.new_ a8);have aG:=Z (aE.new_ a8);have ak:=Z (aj.below a8 aj.lt);have b4:=Z aF;clear aF a8 V W m2 m3 m4 m5 m6 m7;obtain⟨V,W,m2,m3,m4,m5,m6,m7⟩:=Row.c8 ak;have E:=Z3d a w3 j r b o t v a4 w3 aG.now (Z4 _) (Z2S R) (Z2u R);unfold Zd.val at E;have HC:=Z E;clear E;go_wp2_with fail;refine HC.mono ?_;rintro e U ⟨A4,c4,bl,rfl,b5,a0⟩;obtain⟨G,aH⟩:∃n,(ZI a.seq (pack a)).length=n:=⟨_,rfl⟩;have b6:=Z (b3.new_ a0);have b7:=Z (aG.new_ a0);have aI:=Z (ak.below a0 ak.lt);have b9:=Z (b4.kept (ZB a0 none) (by cases (Value.slice C b D).ownBlock <;> simp));have al:=aC.out;rw[aH]at al ⊢;have aJ:=Z al;clear b5 a0 V W m2 m3 m4 m5 m6 m7 al;obtain⟨g6,am⟩:∃g,U.heap.size=g:=⟨_,rfl⟩;have ba:=Z am;have a5:Below U U (U.alloc (.cells #[(G:Int)] 3)):=(Z8 _ _).alloc (Z4 _) _;have r5:=Row.new U 3 #[(G:Int)];rw[am]at r5;have a9:=Z (b6.new_ a5);have aK:=Z (b7.new_ a5);have an:=Z (aI.below a5 aI.lt);have ao:=Z (b9.kept (ZB a5 none) (by cases (Value.slice C b D).ownBlock <;> simp));have a2:=Z r5;clear a5 r5 am;go_upto_region 7 with fail;rw[ba];generalize (U.alloc (.cells #[(G:Int)] 3))=w5 at a9 aK an ao a2 ⊢;have ef:∀aL w,(callFunc 105 aL).run prog w=.ok (.enter 105 aL) w:=fun _ _=>rfl;go_wp2_with fail;refine(Z8F c q A F i m I J M N no O Q 105 #[(g6,())] (fun _=>G) b D C a.drives w5 a9.sm a9.fg (Sl.own ao) aa HL aJ ef (fun x _ B ap=>Z8f g6 G x B (a2.below ap a2.lt))).mono ?_;rintro e w6 ⟨rfl,z⟩;have aq:=Z (a9.new_ z);have bb:=Z (aK.new_ z);have aM:=Z (an.below z an.lt);have aO:=Z (ao.kept (ZB z none) (by cases (Value.slice C b D).ownBlock <;> simp));have aP:=Z (a2.below z a2.lt);clear z;go_wp2_with fail;refine(Z94 c q A F i m I J M N no O Q 105 #[(g6,())] (fun _=>G) b D C a.drives w6 aq.sm aq.fg (Sl.own aO) aa HL aJ ef (fun x _ B ap=>Z8f g6 G x B (aP.below ap aP.lt))).mono ?_;rintro e w7 ⟨rfl,a3⟩;have ar:=Z (aq.new_ a3);have bc:=Z (bb.new_ a3);have bd:=Z (aM.below a3 aM.lt);have be:=Z (aO.kept (ZB a3 none) (by cases (Value.slice C b D).ownBlock <;> simp));clear a3;obtain⟨V,W,m2,m3,m4,m5,m6,m7⟩:=Row.c8 bd;have E:=Z99 c q A F i m a I J M N no O Q j r b o t v a4 b D C a.drives w7 ar.sm ar.fg bc R (Sl.own be) aa HL aU (fun s d h1 h2=>Zc (aC s d h1 h2));unfold Zd.val at E;have bf:=Z E;clear E;go_wp2_with fail;refine bf.mono ?_;rintro e w8 ⟨rfl,aQ⟩;rw[aH]at*;have bg:=Z aQ;clear aQ V W m2 m3 m4 m5 m6 m7;go_wp2;go_ret;exact⟨rfl,bg.since ar.on fun k hk=>.inl hk⟩
section
theorem OM.stbT {a:Nat}{w:U1}{m:Zd}{Ad Ao:X_}{nd cd no co:Nat}{ts:Z_}{G:U0}(h:OM a w m Ad nd cd Ao no co ts)(s:∀k,G k→k<a∨∃p t,Row w k t p∧3≠t∧116≠t):Z0_ G w m Ad nd cd Ao no co ts:=fun w' x=>by
 have f:∀{n g:Nat} {e:TypeId} {v:U2} {j:Z_},w.ownsRow a e g v n j→(e=3∨e=116)→w'.ownsRow a e g v n j:=fun {n g e v j} b y=>Zu b x fun k l z=>by
  rcases s k z with q|⟨p,t,r,q,B⟩;·have:=(ZC b k l).1;omega
  ·rcases y with rfl|rfl;·exact Yb b r q k l rfl
   ·exact Yb b r B k l rfl
 refine OM.read (base:=a) ⟨f h.d (.inl rfl),h.dl,⟨f h.o.own (.inr rfl),h.o.tl,fun i C=>?_⟩,h.ol⟩;obtain⟨A,c,D,E⟩:=h.o.at_ i C;exact⟨A,c,D,f E (.inl rfl)⟩
theorem Z8d (m:Zd)(a b:U2)(pg:Nat)(c:Int)(gd:Nat→Nat)(fl:Nat→Option Dr){s:Nat}(j:s<64)(g:Nat)(o:Option Dr){v:U2}(f:v=X3 (Yw gd s g) (Yw fl s o) s):
  (Z0I m a b pg c gd fl).set (10+s) v=Z0I m a b pg c (Yw gd s g) (Yw fl s o):=by
 unfold Z0I;rw[Wn _ _ Ze];congr 1;rw[show 10+s-_=s from Ze];unfold Z3K;refine List.ext_getElem Ze fun i k l=>?_;rw[List.getElem_set];simp only[List.getElem_map,List.getElem_range];split;·rename_i h;subst h;exact f
 ·rename_i h;have d:i≠s:=fun e=>h e.symm;unfold X3;rw[YB d,YB d]
section
variable {M0:U0} {w0 w w':U1} {gs pg:Nat} {gd:Nat→Nat} {F:Nat→U0} {fl0 fl:Nat→Option Dr} {P:Nat→Z0} {m:Zd} {Ad Ao:X_} {nd cd no co:Nat} {ts:Z_}
theorem SS.setd (h:SS M0 w0 w gs pg gd F fl0 fl P m Ad nd cd Ao no co ts){s g:Nat}{d:Dr}(z:s<64)(A:Yj (fun k=>k=g∨k=pg) w g pg d)(o:DG d)(j:∀k,Zy gs pg F k→k≠g)(D:w0.heap.size≤g)(p:g<w):
  SS M0 w0 (w.setCell (gs,10+s) (g,())) gs pg (Yw gd s g) (Yw F s fun k=>k=g) (Yw fl s (some d)) (Yw fl s (some d)) (fun _=> []) m Ad nd cd Ao no co ts:=by
 have l:Only (fun k=>k=gs) w (w.setCell (gs,10+s) (g,())):=(Only.refl (fun k=>k=gs) _).set rfl _ _;have q:Only M0 w0 (w.setCell (gs,10+s) (g,())):=h.on.trans l fun k a e=>by
  subst e;rcases h.mu k (.inl rfl) with b|b;·exact b
  ·omega
 have n:(w.setCell (gs,10+s) (g,())).heap.size=w.heap.size:=by simp[World.setCell]
 have r:∀k,Zy gs pg (Yw F s fun k=>k=g) k→Zy gs pg F k∨k=g:=fun k a=>by
  rcases a with a|a|⟨t,a⟩;·exact .inl (.inl a)
  ·exact .inl (.inr (.inl a))
  ·by_cases e:t=s;·rw[e,YV]at a;exact .inr a
   ·rw[YB e]at a;exact .inl (.inr (.inr ⟨t,a⟩))
 have v:gs≠g:=j gs (.inl rfl);have B:pg≠g:=j pg (.inr (.inl rfl));refine⟨⟨?_,h.sm.pow.only l h.sm.ne.symm,fun t x f=>?_,fun t=>?_,fun t u k b c=>?_,fun t k a=>?_,h.m0.next q fun k a C=>?_⟩,h.fg.upd s o,XJ.refl _,fun k a=>?_,q,h.m0⟩;·have y:=h.sm.row.set (10+s) (g,());rw[Z8d m _ _ pg _ gd fl z g (some d) (by unfold X3;rw[YV,YV])]at y;exact y
 ·by_cases e:t=s
  ·subst e;rw[YV]at f ⊢;injection f with f;subst f;rw[YV];refine⟨(A.only l fun k a e=>?_).mono_ (fun k a=>?_) (fun k a=>?_),o.s⟩
   ·subst e;rcases a with a|a;·exact v a
    ·exact h.sm.ne a
   ·rcases a with a|a;·exact .inr a
    ·exact .inl a
   ·rw[n];rcases a with a|a;·rw[a];exact h.sm.pow.lt
    ·rw[a];exact p
  ·rw[YB e]at f ⊢;rw[YB e];refine⟨(h.sm.dr t x f).1.only l fun k a e=>?_,(h.sm.dr t x f).2⟩;subst e;rcases a with a|a;·exact h.sm.ne a
   ·exact(h.sm.np t).2 a
 ·by_cases e:t=s;·subst e;rw[YV];exact⟨B,v⟩
  ·rw[YB e];exact h.sm.np t
 ·by_cases e:t=s
  ·by_cases i:u=s;·rw[e,i]
   ·rw[e,YV]at b;rw[YB i]at c;exact absurd b (j k (.inr (.inr ⟨u,c⟩)))
  ·rw[YB e]at b;by_cases i:u=s;·rw[i,YV]at c;exact absurd c (j k (.inr (.inr ⟨t,b⟩)))
   ·rw[YB i]at c;exact h.sm.dj t u k b c
 ·rw[n];by_cases e:t=s;·rw[e,YV]at a;rw[a];exact p
  ·rw[YB e]at a;exact h.sm.lt t k a
 ·rcases r k C with b|b
  ·rcases h.mu k b with c|c;·exact c
   ·omega
  ·omega
 ·rcases r k a with b|b
  ·rcases h.mu k b with c|c;·exact .inl c
   ·exact .inr ⟨c.1,by rw[n];exact c.2⟩
  ·exact .inr ⟨Y,by rw[n];omega⟩
theorem SS.setn (h:SS M0 w0 w gs pg gd F fl0 fl P m Ad nd cd Ao no co ts){s:Nat}(l:s<64):
  SS M0 w0 (w.setCell (gs,10+s) (.pointer none)) gs pg gd F (Yw fl s none) (Yw fl s none) (fun _=> []) m Ad nd cd Ao no co ts:=by
 have d:Only (fun k=>k=gs) w (w.setCell (gs,10+s) (.pointer none)):=(Only.refl (fun k=>k=gs) _).set rfl _ _;have f:Only M0 w0 (w.setCell (gs,10+s) (.pointer none)):=h.on.trans d fun k a e=>by
  subst e;rcases h.mu k (.inl rfl) with g|g;·exact g
  ·omega
 have i:(w.setCell (gs,10+s) (.pointer none)).heap.size=w.heap.size:=by simp[World.setCell]
 have n:Yw gd s (gd s)=gd:=by funext t;unfold Yw;split <;> simp_all
 refine⟨⟨?_,h.sm.pow.only d h.sm.ne.symm,fun t x b=>?_,h.sm.np,h.sm.dj,fun t k a=>by rw[i];exact h.sm.lt t k a,h.m0.next f fun k a o=>?_⟩,fun t x b=>?_,XJ.refl _,fun k a=>?_,f,h.m0⟩;·have j:=h.sm.row.set (10+s) (.pointer none);rw[Z8d m _ _ pg _ gd fl l (gd s) none (by unfold X3;rw[YV]),n]at j;exact j
 ·by_cases e:t=s;·rw[e,YV]at b;cases b
  ·rw[YB e]at b;refine⟨(h.sm.dr t x b).1.only d fun k a e=>?_,(h.sm.dr t x b).2⟩;subst e;rcases a with a|a;·exact h.sm.ne a
   ·exact(h.sm.np t).2 a
 ·rcases h.mu k o with c|c;·exact c
  ·omega
 ·by_cases e:t=s;·rw[e,YV]at b;cases b
  ·rw[YB e]at b;exact h.fg t x b
 ·rcases h.mu k a with c|c;·exact .inl c
  ·exact .inr ⟨c.1,by rw[i];exact c.2⟩
end
theorem Z9W (gs pg:Nat)(gd:Nat→Nat)(F:Nat→U0)(p:Pw)(fl:Nat→Option Dr)(m:Zd)(Ad Ao:X_)(nd cd no co:Nat)(ts:Z_)(s:Nat)(A:X_)(w:U1)(h:SM w gs pg gd F p fl m Ad nd cd Ao no co ts)(a:s<64):
  Calls prog 47 #[(gs,()),(s:Int),.pointer A] w fun e w'=>e=.returned (.tuple #[])∧w'=w.setCell (gs,10+s) (.pointer A):=by
 have c:=h.cells.2.2.2 s a;have f:=h.row.frozen (10+s);have d:(s:Int)<64:=Y;have g:(0:Int)≤(s:Int):=Y;obtain⟨v,b⟩:=Zb (X3 gd fl s);rw[b]at c;go_enter func47,ntmps47;go_wp2;go_end0;exact⟨rfl,rfl⟩
theorem Z9E (gs pg:Nat)(gd:Nat→Nat)(F:Nat→U0)(p:Pw)(fl:Nat→Option Dr)(m:Zd)(Ad Ao:X_)(nd cd no co:Nat)(ts:Z_)(w:U1)(h:SM w gs pg gd F p fl m Ad nd cd Ao no co ts)(a:p.off=false):
  Calls prog 43 #[(gs,())] w fun e w'=>e=.returned (.bool false)∧Below w w w':=by
 have H:=h;go_enter func43,ntmps43;go_wp2_with fail;refine(Z6u gs pg gd F p fl m Ad Ao nd cd no co ts w H a).mono ?_;rintro e w' ⟨rfl,b⟩;go_wp2;go_ret;exact⟨rfl,b⟩
theorem ZdA (s c:Nat)(a:s<64)(b:1≤c)(d:c≤512)(w:U1):Calls prog 45 #[(s:Int),(c:Int)] w fun e w'=>e=.returned (.bool true)∧w=w':=by have f:(s:Int)<64:=Y;have g:(1:Int)≤(c:Int):=Y;have h:(c:Int)≤512:=Y;go_enter func45,ntmps45;go_wp2;go_ret;exact⟨rfl,rfl⟩
end
theorem Z37 (h:w.ownsRow n t j x k l)(d:w.ownsRow m T N y i L)(e:t≠T):∀a,x.ownBlock=some a→¬y.ownBlock=some a:=fun a f b=>by
 rcases d.2 with ⟨c,_⟩|⟨g,s,o,c,_,p,_⟩;·rw[c]at b;cases b
 ·rw[c]at b;have q:g=a:=by simpa[Value.ownBlock]using b
  subst q;have r:Row w g T o.toList:=by simpa[Row]using p
  exact Yb h r e g f rfl
def X6 (m:Zd) (s:Nat):Zd:={ m with seq:=m.seq+1,drives:=XI (m.drives++ [(s:Int)])}
theorem ZgM (n r:Nat)(gd:Nat→Nat)(F:Nat→U0)(D:Nat→Option Dr)(m:Zd)(Ad Ao:X_)(f cd no co:Nat)(ts:Z_)(s c:Nat)(w:U1)
  (h:SM w n r gd F Pw.new D m Ad f cd Ao no co ts) (hg:FG D) (ah:m.may=true) (av:(X6 m s).may=true) (hl:XO D m.drives) (aV:m.drives.Nodup) (hs:s<64) (aw:(s:Int) ∉ m.drives) (hc:1≤c) (ax:c≤512)
  (aW:∀t d,D t=some d→(t:Int)∈m.drives→(ZI (m.seq+1) (pack (X6 m s))).length+d.L.length≤d.room) (b0:(ZI (m.seq+1) (pack (X6 m s))).length≤c):
  Calls prog 21 #[(n,()),(s:Int),(c:Int)] w fun e w'=>e=.returned Nat∧∃bH,WH (Zy n r F) w w' n r bH (Yw D s (some (Dr.new Pw.new c))) (fun t=>if (t:Int)∈(X6 m s).drives then ZI (m.seq+1) (pack (X6 m s)) else []) (X6 m s):=by
 obtain⟨ii,b1,b2,b3,bI⟩:=info_parts VC;have b4:=Z0e ah;have cv:f≤64:=by rw[←h.mani.now.dl];exact b4.1
 have b5:=(Yo av).seq;have cw:m.seq+1≤2147483647:=b5.2;have cx:=(Yo ah).seq.1;have b6:m.drives.contains (s:Int)=false:=by
  cases hcc:m.drives.contains (s:Int)
  ·rfl
  ·exact absurd (List.contains_iff_mem.1 hcc) aw
 have b7:=Z (SS.start h hg);have bJ:=Z ah;have bK:=Z av;have HL:=Z hl;have bL:=Z aV;have b9:=Z aw;have bM:=Z b6;have bO:=Z aW;have bP:=Z b0;clear h hg ah av hl aV aw aW b0 b4 b5 b6;go_enter func21,ntmps21;go_wp2_with fail;refine(Z9E n r gd F Pw.new D m Ad Ao f cd no co ts w b7.sm rfl).mono ?_;rintro e E ⟨rfl,ba⟩;have Q:=Z (b7.new_ ba);clear ba;have N:=Z6n n r gd F Pw.new D m Ad Ao f cd no co ts E Q.sm bJ;unfold Zd.val at N;have HC:=Z N;clear N;go_wp2_with fail;refine HC.mono ?_;rintro e w2 ⟨R,T,U,V,a8,rfl,bb,ay,bc⟩;have a2:=Z bb;have az:=Z bc;have bd:=Z (Q.new_ ay);have cy:=ay.size;have cz:w.heap.size≤E.heap.size:=Q.on.size;obtain⟨p,aB⟩:∃g,w2.heap.size=g:=⟨_,rfl⟩;have a3:Below w2 w2 (w2.alloc (.cells #[m.seq,m.next,m.P.K,m.P.H,m.P.S,m.extra,(R,f,T),(U,no,V)] 75)):=(Z8 _ _).alloc (Z4 _) _;have r3:=Row.new w2 75 #[m.seq,m.next,m.P.K,m.P.H,m.P.S,m.extra,(R,f,T),(U,no,V)];have a4:=Z (bd.new_ a3);have aC:=Z (a2.below a3);rw[aB]at r3;have a9:=Z r3;have aD:=Z aB;have aE:=Z (show ¬Zy n r F p from fun a=>Zc (bd.sm.mlt p a));clear bb bc ay a3 r3 aB;go_upto_region 4 with fail;rw[aD];generalize (w2.alloc (.cells #[m.seq,m.next,m.P.K,m.P.H,m.P.S,m.extra,(R,f,T),(U,no,V)] 75))=w3 at a4 aC a9 ⊢;have bQ:=a9.lt;have n0:=Z9 a9 0;have I:=Z9 a9 6;have bR:=Z (Sl.own aC.d);have cA:(s:Int)<64:=Y;have cB:¬(2147483647:Int)≤m.seq:=Y;go_wp2_with (first
  | (go_at_call 45;go_must (refine(ZdA s c hs hc ax _).mono ?_);rintro e w' ⟨rfl,rfl⟩)
  | (go_at_call 46;go_must (refine(Z8E _ f T R m.drives (s:Int) false _ bR Y bM).mono ?_);rintro e w' ⟨rfl,rfl⟩)
  | (go_at_call 49;go_must (refine(ZcR n r gd F Pw.new D m Ad Ao f cd no co ts _ a4.sm).mono ?_);rintro e w' ⟨rfl,rfl⟩)
  |fail)
 refine(Za2 c r Pw.new w3 hc ax a4.sm.pow).mono ?_;rintro e w4 ⟨g,rfl,cC,ai,aj⟩;have be:=Z (a4.new_ aj);have bT:=Z (a9.below aj bQ);have bU:=Z (aC.below aj);have bV:=Z ai;have bW:g<w4:=by obtain⟨lv,cD,bv,cE,l⟩:=ai;exact l.lt g (.inl rfl)
 have c0:=Z ai.row_.1;have bf:=Z (show ∀k,Zy n r F k→k≠g from fun k a e=>Zc (a4.sm.mlt k a));have aF:p≠g:=Y;clear ai aj n0 I;go_wp2_with fail;refine(Z9W n r gd F Pw.new D m Ad Ao f cd no co ts s (some ⟨g,0,none⟩) w4 be.sm hs).mono ?_;rintro e w5 ⟨rfl,bg⟩;have aG:=be.setd hs bV (DG.new_ ⟨hc,ax⟩) bf (Zc a4.on.size) bW;have aa:Only (fun k=>k=n) w4 (w4.setCell (n,10+s) (g,())):=(Only.refl (fun k=>k=n) _).set rfl _ _;have cF:n<E:=Q.sm.row.lt;have bh:p≠n:=fun e=>aE (.inl e);rw[←bg]at aG aa;have c1:=Z aG;have W:=Z (bT.only aa bh);have bi:=Z (bU.far (fun k e=>Y) aa);have c2:=Z (show ∃j,Row w5 g 161 j from by obtain⟨j,l⟩:=c0;exact⟨j,l.only aa (fun e=>bf n (.inl rfl) e.symm)⟩);clear aG aa bg;have n0:=Z9 W 0;have I:=Z9 W 6;have f0:=W.frozen 0;have f6:=W.frozen 6;have bj:IntKind.i64.wrap (m.seq+1)=m.seq+1:=by simp[IntKind.wrap,IntKind.bits,IntKind.signed];omega
 have aH:¬Zy n r (Yw F s fun k=>k=g) p:=fun a=>by
  rcases a with a|a|⟨t,a⟩;·exact bh a
  ·exact aE (.inr (.inl a))
  ·by_cases e:t=s;·rw[e,YV]at a;exact aF a
   ·rw[YB e]at a;exact aE (.inr (.inr ⟨t,a⟩))
 have bk:w.heap.size≤p:=Zc aD.out;have aI:Only (fun k=>k=p) w5 (w5.setCell p (.int .i64 (m.seq+1))):=(Only.refl (fun k=>k=p) _).set rfl _ _;have aJ:=c1.other aI (fun k e=>by subst e;exact⟨aH,bk⟩);have ak:=W.set 0 (.int .i64 (m.seq+1));simp only[YL]at ak;have aK:=bi.d.farC W Z5 0 (.int .i64 (m.seq+1));have aL:=bi.o.other (w':=w5.setCell p (.int .i64 (m.seq+1))) (Z4J w5 p 0 _) W Z5 Z5;have c3:=Z aH;have c4:=az.out;obtain⟨v,al⟩:∃x,w5.setCell ⟨p,0,none⟩ (.int .i64 (m.seq+1))=x:=⟨_,rfl⟩;rw[al]at aJ ak aK aL;have c5:=Z aJ;have ab:=Z ak;have c6:=Z aK;have c7:=Z aL;have c9:=Z (show ∃j,Row v g 161 j from by obtain⟨j,l⟩:=c2;exact⟨j,by rw[←al];exact l.only aI (fun e=>aF e.symm)⟩);go_upto_region 12 with fail;try rw[bj]
 try rw[al]
 clear aJ ak aK aL aI al aH n0 I f0 f6 bj c4;have I:=Z9 ab 6;have f6:=ab.frozen 6;have ca:E.heap.size≤v.heap.size:=YU ab.lt aD.out;go_wp2_with (first
  | ((with_reducible show wpList _ _ _ (⟨some 41,_,_,_,_,_⟩::_) _ _);refine wpList_plain rfl (fun K hK=>?_);refine WJ 22 3 (.tmp 40) rfl (s:Int) rfl rfl ii _ underlying22 b1 b2 b3 rfl ?_;rintro J g7 a5 aM a6 cb;refine hK _ _ ?_;clear hK K;go_must (have ce:=Z aM);go_must (have cf:=aM.lt);go_must (have a0:=Z (c6.kept (ZB (show Below v v J by rw[a5];exact a6) none) (by cases (Value.slice R f T).ownBlock <;> simp)));go_must (have ac:=Z (c7.below (show Below v v J by rw[a5];exact a6)));go_must (have cg:=Z (c5.new_ (show Below v v J by rw[a5];exact a6)));go_must (have ch:=Z (ab.below (show Below v v J by rw[a5];exact a6) ab.lt));go_must (have bl:=Z (show ∃j,Row J g 161 j from by obtain⟨j,l⟩:=c9;exact⟨j,l.below (show Below v v J by rw[a5];exact a6) l.lt⟩));go_must (have ci:=Zj ca (show v.heap.size≤J.heap.size from Y));clear aM a6 a5 cb)
  | ((with_reducible show wpList _ _ _ (⟨some 42,_,_,_,_,_⟩::_) _ _);go_must (refine Y5 rfl (.tmp 39) (.tmp 41) 22 rfl E 3 ii _ 1 8 underlying22 b1 b2 b3 bI rfl Y (R,f,T) f _ rfl a0 J (some ⟨g7,0,none⟩) 1 1 [iv (s:Int)] rfl (ce.sl cf (Z4 _)) (by simp[Value.oneCell',iv]) (f+1) rfl _ rfl Y Y ci ?_);intro B C M bm a7 bn;go_must (have cj:=Z bm);go_must (have ck:=Z a7);go_must (have cl:=Z bn);go_must (have ad:=Z (Wv ch a0 a7 Z5));clear bm a7 bn I f6;go_must (have I:=ad.cell 6);go_must (have f6:=ad.frozen 6);simp only[Xd,ZE]at I)
  |fail)
 have bo:∀k,Zy n r (Yw F s fun k=>k=g) k→k<E.heap.size∨k=g:=fun k a=>by
  rcases a with a|a|⟨t,a⟩;·exact .inl (Q.sm.mlt k (.inl a))
  ·exact .inl (Q.sm.mlt k (.inr (.inl a)))
  ·by_cases e:t=s;·rw[e,YV]at a;exact .inr a
   ·rw[YB e]at a;exact .inl (Q.sm.mlt k (.inr (.inr ⟨t,a⟩)))
 have aO:=Z bo;have ae:Only (fun k=>(Value.slice R f T).ownBlock=some k) J M:=Only.of_grown ck (fun k e=>e);have bp:=cg.other ae (fun k e=>⟨fun a=>by
  rcases aO.out k a with b|b;·have:=(ZC a0 k e).1;omega
  ·obtain⟨j,l⟩:=bl.out;exact Yb a0 l Z5 k e b,Zc ((ZC a0 k e).1)⟩)
 have bq:XM E M (U,no,V) a8 m.objs:=⟨Zu ac.own ae (fun k b z=>Z37 ac.own a0 Z5 k b z),ac.tl,fun i O=>by obtain⟨A,cc,e1,e2⟩:=ac.at_ i O;refine⟨A,cc,e1,Zu e2 ae (fun k b z=>az i (by rw[←a2.ol];exact O) k z (by rw[e1];exact b))⟩⟩;have a7:∃j,Row M g 161 j:=by obtain⟨j,l⟩:=bl;exact⟨j,l.only ae (fun e=>Yb a0 l Z5 g e rfl)⟩
 have br:∀i,i<no→∀q,(Value.slice B (f+1) C).ownBlock=some q→(a8.getD i undef).ownBlock≠some q:=fun i O q b z=>by
  rcases cl.out with e|e;·exact az i O q (by rw[←e];exact b) z
  ·rw[e]at b;injection b with b;obtain⟨A,cc,e1,e2⟩:=ac.at_ i (by rw[a2.ol];exact O);rw[e1]at z;have:=(ZC e2 q z).2;omega
 have aP:Only (fun k=>k=p) M (M.setCell (p,6) (B,(f+1),C)):=(Only.refl (fun k=>k=p) _).set rfl _ _;have aQ:=bp.other aP (fun k e=>by subst e;exact⟨c3,bk⟩);have am:=ad.set 6 (B,(f+1),C);simp only[YL,Xz]at am;have an:=cj.farC ad Z5 6 (B,(f+1),C);rw[show m.drives.map iv++ [iv (s:Int)]=(m.drives++ [(s:Int)]).map iv from Ze]at an;have aR:=bq.other (w':=M.setCell (p,6) (B,(f+1),C)) (Z4J M p 6 _) ad Z5 Z5;have aT:∃j,Row (M.setCell (p,6) (B,(f+1),C)) g 161 j:=by obtain⟨j,l⟩:=a7;exact⟨j,l.only aP (fun e=>aF e.symm)⟩
 obtain⟨w9,bs⟩:∃x,M.setCell ⟨p,6,none⟩ (.slice B (f+1) C)=x:=⟨_,rfl⟩;rw[bs]at aQ am an aR aT ⊢;have cm:=Z aQ;have cn:=Z am;have a1:=Z an;have ao:=Z aR;have bt:=Z aT;have cp:=Z br;clear bp bq a7 br ae aQ am an aR aT aP bs I f6 bo;refine(Z6a E B (f+1) C (m.drives++ [(s:Int)]) w9 a1 Y).mono ?_;rintro e wa ⟨rfl,bw,aU⟩;have af:Only (fun k=>(Value.slice B (f+1) C).ownBlock=some k) w9 wa:=Only.of_grown aU (fun k e=>e);have bx:=cm.other af (fun k e=>⟨fun a=>by
  rcases aO.out k a with b|b;·have:=(ZC a1 k e).1;omega
  ·obtain⟨j,l⟩:=bt.out;exact Yb a1 l Z5 k e b,Zc ((ZC a1 k e).1)⟩)
 have bz:XM E wa (U,no,V) a8 m.objs:=⟨Zu ao.own af (fun k b z=>Z37 ao.own a1 Z5 k b z),ao.tl,fun i O=>by obtain⟨A,cc,e1,e2⟩:=ao.at_ i O;refine⟨A,cc,e1,Zu e2 af (fun k b z=>cp i (by rw[←a2.ol];exact O) k z (by rw[e1];exact b))⟩⟩;have bB:=Wv cn a1 aU Z5;have bC:∃j,Row wa g 161 j:=by obtain⟨j,l⟩:=bt;exact⟨j,l.only af (fun e=>Yb a1 l Z5 g e rfl)⟩
 have ap:=Z3k (m.drives++ [(s:Int)]);have aq:∀x,x∈(X6 m s).drives↔x∈m.drives∨x=(s:Int):=fun x=>by show x∈XI (m.drives++ [(s:Int)])↔_;rw[ap.mem_iff,YZ,Yn]
 have bD:(X6 m s).drives.length=f+1:=by show(XI (m.drives++ [(s:Int)])).length=_;rw[ap.length_eq,Zw,a2.dl];rfl
 have bE:OM E wa (X6 m s) B (f+1) C U no V a8:=⟨bw,bD,bz,a2.ol⟩;have bF:=bE.stbT (G:=Zy n r (Yw F s fun k=>k=g)) (fun k a=>by
  rcases aO.out k a with b|b;·exact .inl b
  ·subst b;obtain⟨j,l⟩:=bC;exact .inr ⟨j,_,l,Z5,Z5⟩)
 have ar:=Z bx;have cq:=Z bF;have N:=Z87 n r (Yw gd s g) (Yw F s fun k=>k=g) (Yw D s (some (Dr.new Pw.new c))) m (X6 m s) Ad Ao f cd no co ts B U (f+1) C no V a8 wa ar.sm ar.fg cq bK rfl
  (fun x hx=>by
   rcases(aq x).1 hx with b|b;·obtain⟨t,d,e,z,h3⟩:=HL x b;have ag:t≠s:=fun e2=>b9 (by rw[←e2,←e];exact b);exact⟨t,d,e,z,by rw[YB ag];exact h3⟩
   ·exact⟨s,_,b,hs,YV _ _ _⟩)
  (fun e=>by have l:=(aq (s:Int)).2 (.inr rfl);rw[e]at l;cases l)
  (by show(XI (m.drives++ [(s:Int)])).Nodup;refine ap.nodup_iff.2 ?_;rw[List.nodup_append];refine⟨bL,Ze,fun x hx y hy e=>?_⟩;rw[Yn]at hy;exact b9 (by rw[←hy,←e];exact hx))
  (fun t d ht hm=>by
   by_cases ag:t=s;·subst ag;rw[YV]at ht;injection ht with ht;subst ht;exact bP
   ·rw[YB ag]at ht;rcases(aq (t:Int)).1 hm with b|b;·exact bO t d ht b
    ·exact absurd Y ag)
 unfold Zd.val X6 at N;dsimp only at N;have cr:=Z N;have cs:=Z bB;clear N bx bz bB bC ap aq bD bE bF af bw aU;obtain⟨n0,n1,n2,n3,I,n5,n6,n7⟩:=Row.c8 cs;go_wp2_with fail;refine cr.mono ?_;rintro e wb ⟨rfl,bG⟩;have ct:=Z (bG.since ar.on ar.mu);clear bG n0 n1 n2 n3 I n5 n6 n7;go_wp2;go_ret;exact⟨rfl,_,ct⟩
