/- PlayT DecA DecB MayPut DecD DecMath5 DecMath6 DecMath7 -/
import Derived.Test.YtpokipdpjhookaaGreatDoorBTopRetires16
import Derived.Test.YtpokipdpjhookaaGreatDoorBTopRetires17
import Derived.Test.YtpokipdpjhookaaGreatDoorBTopRetires19
set_option maxHeartbeats 8000000
set_option maxRecDepth 20000
set_option linter.all false
namespace Go.Proofs
open Go Go.RowKit Tryz
variable {w v:World} {n m k i j:Nat} {t:TypeId} {l L:List Value} {r R:List Byte} {x:Value}
theorem Zjh:∀k,k<5→∃a:Y_,a.length≤12∧([.string ⟨#[97]⟩,.string ⟨#[98]⟩,.string ⟨#[99,97,116,45,55]⟩,.string ⟨#[100]⟩,.string ⟨#[101,49,50,51,52,53,54,55,56,57,48,49]⟩]:Z_)[k]? =some (.string (Zn a))
 |0,_=>⟨[97#8],Z5,rfl⟩
 |1,_=>⟨[98#8],Z5,rfl⟩
 |2,_=>⟨[99#8,97#8,116#8,45#8,55#8],Z5,rfl⟩
 |3,_=>⟨[100#8],Z5,rfl⟩
 |4,_=>⟨[101#8,49#8,50#8,51#8,52#8,53#8,54#8,55#8,56#8,57#8,48#8,49#8],Z5,rfl⟩
 |n+5,h=>absurd h Y
theorem Zgn:(prog.info? 9).map (fun i=>(i.zero,i.size,i.bytes))=some (some (.string ⟨#[]⟩),1,16):=Zi
theorem Z4A (x:Int)(w:U1)(d: -9223372036854775808≤x)(f:x≤9223372036854775807):Calls prog 35 #[x] w fun e h=>∃a:Y_,e=.returned (.string (Zn a))∧a.length≤12∧Below w w h:=by obtain⟨is,r,s,t,v⟩:=info_parts Zgn;obtain⟨k,i⟩:∃k:Nat,x % 5=(k:Int):=⟨(x % 5).toNat,Y⟩;have j:k<5:=Y;have l:=Z i;go_enter func35,ntmps35;go_wp2_with fail;have b:Below w w (w.alloc (.cells #[.string ⟨#[97]⟩,.string ⟨#[98]⟩,.string ⟨#[99,97,116,45,55]⟩,.string ⟨#[100]⟩,.string ⟨#[101,49,50,51,52,53,54,55,56,57,48,49]⟩] 9)):=(Z8 _ _).alloc (Z4 _) _;have c:=Row.new w 9 #[.string ⟨#[97]⟩,.string ⟨#[98]⟩,.string ⟨#[99,97,116,45,55]⟩,.string ⟨#[100]⟩,.string ⟨#[101,49,50,51,52,53,54,55,56,57,48,49]⟩];obtain⟨g,m⟩:=Zb w.heap.size;rw[m]at c ⊢;obtain⟨a,n,o⟩:=Zjh k j;have p:=(c.cell k).trans o;have y:(k:Int)<5:=Y;have q:=Z n;generalize (w.alloc (.cells #[.string ⟨#[97]⟩,.string ⟨#[98]⟩,.string ⟨#[99,97,116,45,55]⟩,.string ⟨#[100]⟩,.string ⟨#[101,49,50,51,52,53,54,55,56,57,48,49]⟩] 9))=w1 at b p ⊢;refine(XU x 5 w1 d f Y Y).mono ?_;rintro e z ⟨rfl,rfl⟩;rw[l];go_wp2;go_ret;exact⟨a,rfl,q,b⟩
theorem ZfD (h:w.ownsRow n t 1 (i,m,k) m l)(c:i≠j)(a:Nat)(u:U2):(w.setCell (j,a) u).ownsRow n t 1 (i,m,k) m l:=
 Zu h (Only.set (F:=fun b=>b=j) (Only.refl _ w) rfl a u) fun b d e=>by
  have f:i=b:=by injection d
  exact c (f.trans e)
theorem Z6W (x:Byte)(gs I aJ a2 a3 gw gm N a f m j L O c:Nat)(vw vm:Z_)(s:WM)(C D:Y_)(p:Zf)(vv rv v1 v2 v3:U2)(w:U1)
  (P:Row w gs 287 (Yx I p vv rv v1 v2 v3 (gw,N,N) (gm,N,N))) (hf:Yq w I) (r:Yk aJ w gw gm N vw vm s) (J:c<N)
  (aa:(s.W.getD c []).length=m) (ab:(s.Mo.getD c []).length=j)
  (hx:w.ownsRow a2 5 1 (a,m,L) m (C.map Za)) (B:w.ownsRow a3 5 1 (f,j,O) j (D.map Za))
  (ai:∀k,(vw.getD c undef).ownBlock=some k→k≠a) (ac:∀k,(vm.getD c undef).ownBlock=some k→k≠a∧k≠f) (aq:a≠f) (bc:m≤1048576) (bd:j≤1048576):
  Calls prog 280 #[(gs,()),Za x,(c:Int),(a,m,L),(f,j,O)] w fun e F=>e=.returned (.tuple #[])∧
   F.ownsRow a2 5 1 (a,m,L) m ((Wi x (s.W.getD c []) C).map Za)∧F.ownsRow a3 5 1 (f,j,O) j ((Wi x (s.Mo.getD c []) D).map Za)∧Only (fun q=>q=a∨q=f) w F:=by
 have ar:C.length=m:=by have:=hx.1;simpa using this
 have av:D.length=j:=by have:=B.1;simpa using this
 have a4:=r.W c J;have a5:=r.M c J;obtain⟨l1,aK⟩:∃l,s.W.getD c []=l:=⟨_,rfl⟩;obtain⟨l2,aL⟩:∃l,s.Mo.getD c []=l:=⟨_,rfl⟩;rw[aK]at a4 aa ⊢;rw[aL]at a5 ab ⊢;unfold OB at a4 a5;rw[aa]at a4;rw[ab]at a5;obtain⟨A1,c1,e1,be,bf,aw⟩:=Y8 a4;obtain⟨A2,c2,e2,bg,bh,ax⟩:=Y8 a5;have q9:=Z9 P 9;have ay:=Z9 P 10;have bi:=Z9 P 0;have r1:=r.rw_.cell c;rw[Z7 (by rw[r.lvw];exact J)]at r1;have az:vw[c]'(by rw[r.lvw];exact J)=.slice A1 m c1:=by rw[←e1,Z6,Z7 (by rw[r.lvw];exact J)];rfl
 rw[az]at r1;have r2:=r.rm_.cell c;rw[Z7 (by rw[r.lvm];exact J)]at r2;have aB:vm[c]'(by rw[r.lvm];exact J)=.slice A2 j c2:=by rw[←e2,Z6,Z7 (by rw[r.lvm];exact J)];rfl
 rw[aB]at r2;have bj:(c:Int)<(N:Int):=Y;rw[e1]at ai a4;rw[e2]at ac a5;have a7:∀{g:Nat} {t:TypeId} {cs:Z_},Row w g t cs→5≠t→g≠a∧g≠f:=fun hr ht=>⟨fun e=>X8 hx hr ht a rfl e.symm,fun e=>X8 B hr ht f rfl e.symm⟩;have n1:=a7 hf Z5;have n2:=a7 P Z5;have n3:=a7 r.rw_ Z5;have n4:=a7 r.rm_ Z5;have aM:=aw;have aO:=ax;have aC:∀b o,A1=some ⟨b,o,none⟩→¬b=a:=fun b o e=>by subst e;exact ai b rfl
 have aD:∀b o,A2=some ⟨b,o,none⟩→¬(b=a∨b=f):=fun b o e hh=>by
  subst e;rcases hh with hh|hh;·exact(ac b rfl).1 hh
  ·exact(ac b rfl).2 hh
 have aP:=Z aC;have aQ:=Z aD;have aE:∀wx,Only (fun q=>q=a∨q=f) w wx→Yq wx I:=fun wx h=>hf.only h (fun e=>by rcases e with e|e;exact n1.1 e;exact n1.2 e);have aF:∀wx,Only (fun q=>q=a∨q=f) w wx→wx.cell? gs=some (.pointer (some ⟨I,0,none⟩)):=fun wx h=>((P.only h (fun e=>by rcases e with e|e;exact n2.1 e;exact n2.2 e)).cell 0).trans (by rfl);have aR:∀wx,Only (fun q=>q=a∨q=f) w wx→wx.cell? (gs,10)=some (.slice (some ⟨gm,0,none⟩) N N):=fun wx h=>((P.only h (fun e=>by rcases e with e|e;exact n2.1 e;exact n2.2 e)).cell 10).trans (by rfl);have aT:∀wx,Only (fun q=>q=a∨q=f) w wx→wx.cell? (gm,c)=some (.slice A2 j c2):=fun wx h=>by have h9:=(r.rm_.only h (fun e=>by rcases e with e|e;exact n4.1 e;exact n4.2 e)).cell c;rw[h9,←r2,r.rm_.cell]
 have up:∀wx,Only (fun q=>q=a) w wx→Only (fun q=>q=a∨q=f) w wx:=fun wx h=>h.mono fun k e=>.inl e;have aU:=Z ar;have aV:=Z av;have aG:=hx;rw[show C=Xt x l1 C 0 from(Z4r x l1 C).symm]at aG;have aH:=B;rw[show D=Xt x l2 D 0 from(Z4r x l2 D).symm]at aH;have bk:=B;have aW:=Z aa;have b0:=Z ab;have b1:∀wx,Only (fun q=>q=a) w wx→Yq wx I:=fun wx h=>aE wx (up wx h);have b2:∀wx,Only (fun q=>q=a) w wx→wx.cell? gs=some (.pointer (some ⟨I,0,none⟩)):=fun wx h=>aF wx (up wx h);clear hf r P hx B ai ac a4 a5 aw ax aC aD e1 e2 az aB r2 ay ar av aa ab a7 n1 n2 n3 n4;unfold Za;have bl:=x.isLt;go_enter func280,ntmps280;go_wp2_with fail;obtain⟨v,Q⟩:=Zb l1;have ad:=Z Q;have ae:=b1;have af:=b2;have a6:=aM;have ag:=aP;have E:=aU;have H0:=aG;have HA:=aW;rw[Q]at a6 H0 HA;have ah:=Only.refl (fun q=>q=a) w;clear Q;go_loopw [10,11,22] (fun _ _ i wr=>∃k:Nat,k≤m∧i=.int .i64 (k:Int)∧Hid (wr.ownsRow a2 5 1 (a,m,L) m ((Xt x v C k).map Za))∧Hid (Only (fun q=>q=a) w wr)) (fun _ _ i _=>m-(intOf i).toNat)
 ·exact⟨0,Y,rfl,H0,ah⟩
 ·obtain⟨k,hk,rfl,H,A⟩:=hrel;by_cases n:k<m
  ·have b3:(k:Int)<(m:Int):=Y;obtain⟨R,oa,ea,b4,S⟩:=a6.get n (XF v k (by rw[HA];exact n));subst ea;have aj:=ag _ _ rfl;have ak:R<w:=block_lt_of_cell S;have a8:wr.cell? (R,oa+k)=some (Za (v.getD k 0)):=(by have:=A.block R ak aj;rw[←S];simp only[World.cell?,this]);obtain⟨T,U⟩:=Zb (v.getD k 0);rw[U]at a8;have G:=(Ww H n).1;rw[XF _ k (by rw[Z5t _ _ _ _ (by rw[E];exact hk),E];exact n),Z5q _ _ _ _ (by rw[E];exact n)]at G;obtain⟨y,B⟩:=Zb (C.getD k 0);rw[B]at G;obtain⟨z,V⟩:=Zb (ZU x T);have a0:=Z5r x v C k (by rw[E];exact n);rw[U,B,V]at a0;have al:=Z a0;have HZ:=Z V;have b5:=y.isLt;have b6:=z.isLt;have b7:=T.isLt;unfold Za at a8 G;clear U B V a0 S;go_wp2_with fail;refine oS [13] (fun F=>F.cell? ⟨a,k,none⟩=some (.int .u8 (y.toNat:Int))∧Only (fun q=>q=a) w F∧F.ownsRow a2 5 1 (a,m,L) m ((Xt x v C k).map Za)) [0,1,2,3,4,5,6,7,8,9,10,11,12,13] (⟨G,A.drew,od_ H 1⟩) fun hS=>?_;(iterate 7 refine oV ?_);refine ZH (fun w hSw=>af _ hSw.2.1) ?_;refine oV ?_;refine oV ?_;refine oG fun K hK=>?_;go_simp;go_at_call 288;refine(Z4f I x T _ _ (ae _ (hS.2.1)) rfl).mono ?_;rintro e w5 ⟨rfl,d,rfl⟩;rw[HZ];unfold Za;go_wp2_with fail;refine oK hK ⟨G,A.drewN (1+d),od_ H (1+d)⟩ fun hS=>?_;refine oV ?_;refine oV ?_;refine oM 13 fun K hK=>?_;have am:=(Ww hS.2.2 n).2;have an:=hS.1;have a9:=Z0f hS.2.2 n (Za (y ^^^ z));go_simp;refine oL hK ?_;refine oD ?_;rw[b8x y z];have ao:((wr.drewN (1+d)).setCell (a,k) (.int .u8 ((y ^^^ z).toNat:Int))).ownsRow a2 5 1 (a,m,L) m ((Xt x v C (k+1)).map Za):=(by rw[←al,XZ];exact a9);have ap:=(A.drewN (1+d)).set (g:=a) rfl k (.int .u8 ((y ^^^ z).toNat:Int));clear a9 an am;go_wp2;go_roundw;·exact⟨k+1,Y,Zg,ao,ap⟩
   ·exact Zh
  ·have he:m=k:=Y;subst he;have a1:=H.out;rw[Z5n _ _ _ _ E]at a1;rw[←ad]at a1;have ay:=aR _ (up _ A);have r2:=aT _ (up _ A);clear ae af a6 ag E H0 HA ad ah H;have b9:=a1;have ba:=up _ A;have bb:Hid (wr.ownsRow a3 5 1 (f,j,O) j ((Xt x l2 D 0).map Za)):=Z (Zu aH A (fun k hk e=>by have e1:f=k:=(by injection hk);exact aq (e.symm.trans e1.symm)));clear a1 A;generalize wr=w1 at*;go_wp2_with fail;obtain⟨v,Q⟩:=Zb l2;have ad:=Z Q;have ae:=aE;have af:=aF;have a6:=aO;have ag:=aQ;have E:=aV;have H0:=bb;have HA:=b0;rw[Q]at a6 H0 HA;have ah:=ba;clear Q;go_loopw [12,13,49] (fun _ _ i wr=>∃k:Nat,k≤j∧i=.int .i64 (k:Int)∧Hid (wr.ownsRow a3 5 1 (f,j,O) j ((Xt x v D k).map Za))∧Hid (Only (fun q=>q=a∨q=f) w wr)∧Hid (wr.ownsRow a2 5 1 (a,m,L) m ((Wi x l1 C).map Za))) (fun _ _ i _=>j-(intOf i).toNat)
   ·exact⟨0,Y,rfl,H0,ah,b9⟩
   ·obtain⟨k,hk,rfl,H,A,aI⟩:=hrel;by_cases n:k<j
    ·have b3:(k:Int)<(j:Int):=Y;obtain⟨R,oa,ea,b4,S⟩:=a6.get n (XF v k (by rw[HA];exact n));subst ea;have aj:=ag _ _ rfl;have ak:R<w:=block_lt_of_cell S;have a8:wr.cell? (R,oa+k)=some (Za (v.getD k 0)):=(by have:=A.block R ak aj;rw[←S];simp only[World.cell?,this]);obtain⟨T,U⟩:=Zb (v.getD k 0);rw[U]at a8;have G:=(Ww H n).1;rw[XF _ k (by rw[Z5t _ _ _ _ (by rw[E];exact hk),E];exact n),Z5q _ _ _ _ (by rw[E];exact n)]at G;obtain⟨y,B⟩:=Zb (D.getD k 0);rw[B]at G;obtain⟨z,V⟩:=Zb (ZU x T);have a0:=Z5r x v D k (by rw[E];exact n);rw[U,B,V]at a0;have al:=Z a0;have HZ:=Z V;have b5:=y.isLt;have b6:=z.isLt;have b7:=T.isLt;unfold Za at a8 G;clear U B V a0 S;go_wp2_with fail;refine oS [13] (fun F=>F.cell? ⟨f,k,none⟩=some (.int .u8 (y.toNat:Int))∧Only (fun q=>q=a∨q=f) w F∧F.ownsRow a3 5 1 (f,j,O) j ((Xt x v D k).map Za)) [0,1,2,3,4,5,6,7,8,9,10,11,12,13] (⟨G,A.drew,od_ H 1⟩) fun hS=>?_;(iterate 7 refine oV ?_);refine ZH (fun w hSw=>af _ hSw.2.1) ?_;refine oV ?_;refine oV ?_;refine oG fun K hK=>?_;go_simp;go_at_call 288;refine(Z4f I x T _ _ (ae _ (hS.2.1)) rfl).mono ?_;rintro e w5 ⟨rfl,d,rfl⟩;rw[HZ];unfold Za;go_wp2_with fail;refine oK hK ⟨G,A.drewN (1+d),od_ H (1+d)⟩ fun hS=>?_;refine oV ?_;refine oV ?_;refine oM 13 fun K hK=>?_;have am:=(Ww hS.2.2 n).2;have an:=hS.1;have a9:=Z0f hS.2.2 n (Za (y ^^^ z));go_simp;refine oL hK ?_;refine oD ?_;rw[b8x y z];have ao:((wr.drewN (1+d)).setCell (f,k) (.int .u8 ((y ^^^ z).toNat:Int))).ownsRow a3 5 1 (f,j,O) j ((Xt x v D (k+1)).map Za):=(by rw[←al,XZ];exact a9);have ap:=(A.drewN (1+d)).set (g:=f) (.inr rfl) k (.int .u8 ((y ^^^ z).toNat:Int));clear a9 an am;go_wp2;go_roundw;·exact⟨k+1,Y,Zg,ao,ap,Z (ZfD (od_ aI _) aq _ _)⟩
     ·exact Zh
    ·have he:j=k:=Y;subst he;have a1:=H.out;rw[Z5n _ _ _ _ E]at a1;go_wp2;go_end0;exact⟨rfl,aI,by rw[ad];exact a1,A⟩
theorem Z1j (n:Nat):(Zm n).map Za=List.replicate n (.int .u8 0):=by unfold Zm;rw[List.map_replicate];rfl
theorem Zfy (a:Nat)(T:Zk)(k:Nat)(s:WM)(h:T.kn k=true):Ve a T (k+1) s=⟨(Ve a T k s).W.set k (Zm a),(Ve a T k s).Mo.set k (T.val k)⟩:=by show(if T.kn k then _ else _)=_;rw[if_pos h];rfl
theorem Zjb (a:Nat)(T:Zk)(k:Nat)(s:WM)(h:T.kn k=false):Ve a T (k+1) s=Ve a T k s:=by show(if T.kn k then _ else _)=_;rw[h];rfl
theorem Zev (o gf j B f h N cv S d cd:Nat)(Ad:X_)(v x y:Z_)(T:Zk)(s:WM)(p:Zf)(rv v1 v3:U2)(w:U1)
  (z:Row w o 287 (Yx gf p (.slice (some ⟨B,0,none⟩) N cv) rv v1 (.slice Ad d cd) v3 (.slice (some ⟨f,0,none⟩) N N) (.slice (some ⟨h,0,none⟩) N N)))
  (hv:Zq j w (.slice (some ⟨B,0,none⟩) N cv) v T.vals) (a1:T.vals.length=N) (a2:T.known.length=N) (a3:∀i,i<N→T.known.getD i false=false→v.getD i undef=.slice none 0 0)
  (hS:∀i,i<N→T.known.getD i false=true→(T.vals.getD i []).length=S) (a7:0<S) (E:Yk j w f h N x y s) (A:j≤w) (a8:B≠f) (a9:B≠h) (hN:N≤64) (ar:d≤64):
  Calls prog 221 #[.pointer (some ⟨o,0,none⟩)] w fun e G=>e=.returned (.tuple #[])∧(∃aa ab,Yk j G f h N aa ab (Ve d T N s))∧Only (fun q=>q=f∨q=h) w G:=by
 obtain⟨ib,ac,ad,ae,af⟩:=info_parts WP;have kq:∀(w:U1) (a:X_) (n c:Nat),(binOp .neq 32 (.slice a n c) (.slice none 0 0)).run prog w=.ok (.bool (!a.isNone)) w:=fun w a n c=>run_neq_slice_nil w 32 5 a n c underlying32;have n1:o≠f:=Va z E.rw_ Z5;have n2:o≠h:=Va z E.rm_ Z5;have ag:=z;have M:=hv;have O:=Z a1;have av:=Z a2;have ah:=Z a3;have ai:=Z hS;have P:=E;have aw:=z.lt;have q4:=Z9 z 4;clear z hv a1 a2 a3 hS E;go_enter func221,ntmps221;go_wp2;go_loopw [2,3,9] (fun _ _ i wr=>∃(k:Nat) (x y:Z_),k≤N∧i=.int .i64 (k:Int)∧Hid (Yk j wr f h N x y (Ve d T k s))∧Hid (Only (fun q=>q=f∨q=h) w wr)) (fun _ _ i _=>N-(intOf i).toNat)
 ·exact⟨0,_,_,Y,rfl,P,Z (Only.refl _ _)⟩
 ·obtain⟨k,x,y,hk,rfl,Q,r⟩:=hrel;have C:=ag.only r (fun e=>by rcases e with e|e;exact n1 e;exact n2 e);have z7:=Z9 C 7;have z9:=Z9 C 9;have a4:=Z9 C 10;have R:=C.lt;have aj:j≤wr:=Zj A r.size;have ak:=Z aj;clear C;by_cases l:k<N
  ·have ax:(k:Int)<(N:Int):=Y;have D:=M.at_ k (by rw[O];exact l);have a5:=M.own;rw[O]at a5;have U:=Zu a5 r (fun b A e=>by
    have e1:B=b:=(by injection A);rcases e with e|e;·exact a8 (e1.trans e)
    ·exact a9 (e1.trans e))
   have H:=(Ww U (by exact l)).1;have I:OB j wr (v.getD k undef) (T.vals.getD k []):=Zu D r (fun b A e=>by
    rcases e with e|e;·exact X8 D P.rw_ Z5 b A e
    ·exact X8 D P.rm_ Z5 b A e)
   have V:v.length=N:=(by have:=M.own.1;rw[O]at this;simpa using this);rw[Z7 (by rw[V];exact l)]at H;have W:v[k]'(by rw[V];exact l)=v.getD k undef:=(by rw[Z6,Z7 (by rw[V];exact l)];rfl);rw[W]at H;obtain⟨kn,t⟩:∃b,T.known.getD k false=b:=⟨_,rfl⟩;have ay:=Z t;cases kn with
   |false=>
    have hn:=ah k l t;rw[hn]at H;have a0:=Z (Zjb d T k s (by unfold Zk.kn;rw[ZL];exact t));clear D U I W t hn z7 z9 a4;go_wp2;go_roundw;·exact⟨k+1,x,y,Y,Zg,by rw[a0];exact Q,r⟩
    ·exact Zh
   |true=>
    have hl:=ai k l t;have a0:=Z (Zfy d T k s (by unfold Zk.kn;rw[ZL];exact t));have J:=I;unfold OB at J;rw[hl]at J;obtain⟨g,c,az,ev,_,_,_,_,_,_⟩:=XN J a7;rw[ev]at H;have al:OB j wr (.slice (some ⟨g,0,none⟩) S c) (T.val k):=(by unfold Zk.val;rw[ZL,←ev];exact I);clear D U I J W t hl ev;go_wp2_with fail;refine oS [19,21] (fun G=>Below wr wr G) [0,1,2,3,4,5,6,7,8,9,10,11,12,13,14,15,17,16,18,19,20,21] (bq_ (Z8 _ _) 1) fun hS=>?_;(iterate 3 refine oV ?_);refine ZH (fun w hSw=>(hSw.cell (p:=⟨o,9,none⟩) R).trans z9) ?_;(iterate 4 refine oV ?_);refine ZH (fun w hSw=>(hSw.cell (p:=⟨o,10,none⟩) R).trans a4) ?_;refine oF ?_;(iterate 4 refine oV ?_);refine ZH (fun w hSw=>(hSw.cell (p:=⟨o,7,none⟩) R).trans z7) ?_;refine oV ?_;refine oF ?_;refine oG fun K hK=>?_;(refine Xw (.tmp 31) (.tmp 31) 32 (by rfl) 5 ib (.int .u8 0) 1 underlying32 ac ad ae af rfl .i64 .i64 (d:Int) (d:Int) d d (by rfl) (by rfl) rfl rfl (Z4 _) Y Y ?_);intro wo ro L so;have m:=(Q.below hS).below L;have am:OB j wo (.slice (some ⟨_,0,none⟩) d d) (Zm d):=ZA (Z0n (by rw[Z1j];exact ro) (Z4 _) (by simp[Zm]) Y) (Zj ak hS.size);have an:=OB.below (OB.below al hS) L;have ao:=Only.trans r (Only.of_new (F:=fun q=>q=f∨q=h) (hS.trans (L.mono hS.size))) (fun _ _ e=>e);have cw:=m.rw_.cell k;have cm:=m.rm_.cell k;rw[Z7 (by rw[m.lvw];exact l)]at cw;rw[Z7 (by rw[m.lvm];exact l)]at cm;have fw:=m.rw_.frozen k;have fm:=m.rm_.frozen k;have a6:=m.ne;have aB:=Ne.symm a6;refine oK hK (hS.trans (L.mono hS.size)) fun hS=>?_;refine oV ?_;refine oM 19 fun K hK=>?_;go_simp;refine oL hK ?_;refine oF ?_ (sP 19);refine oM 19 fun K hK=>?_;have aC:(wo.setCell (f,k) (.slice (some ⟨wr.heap.size,0,none⟩) d d)).cell? (h,k)=some _:=(World.cell?_setCell_other _ _ _ _ (fun e=>a6 (congrArg Addr.block e))).trans cm;go_simp;refine oL hK ?_;refine oD ?_;go_wp2_with fail;have ap:=(m.setW (c:=k) am).setM (c:=k) (Z1m an m.rw_ Z5);have aq:=(ao.set (.inl rfl) k (.slice (some ⟨wr.heap.size,0,none⟩) d d)).set (.inr rfl) k (.slice (some ⟨g,0,none⟩) S c);go_roundw;·exact⟨k+1,_,_,Y,Zg,by rw[a0];exact ap,aq⟩
    ·exact Zh
  ·obtain rfl:k=N:=Y;go_wp2;go_end0;exact⟨rfl,⟨x,y,Q⟩,r⟩
theorem Z9S:∀(x y:List UInt8),Op.bytesLess x y=decide (x<y)
 | [], []=>by simp[Op.bytesLess]
 |_::_, []=>by simp[Op.bytesLess]
 | [],_::_=>by simp[Op.bytesLess]
 |a::x,b::y=>by rw[Op.bytesLess,Z9S x y];simp only[List.cons_lt_cons_iff];by_cases c:a<b <;> by_cases d:a=b <;> by_cases e:x<y <;> simp[c,d,e]
def nmU (a:Y_):List UInt8:=a.map UInt8.ofBitVec
theorem Z9A (a:Y_):(Zn a).data.toList=nmU a:=by unfold Zn nmU;simp
theorem Z6X (a b:Y_):Xh a b=decide (nmU a<nmU b):=by unfold Xh;rw[Z9S,ByteArray.toList_eq,ByteArray.toList_eq,Z9A,Z9A]
theorem Zjc (h:nmU r=nmU R):r=R:=by have:=congrArg (List.map UInt8.toBitVec) h;unfold nmU at this;simpa[Function.comp_def]using this
theorem Z4C {c:Y_}(h:Xh r R=true)(a:Xh R c=true):Xh r c=true:=by rw[Z6X,decide_eq_true_eq]at h a ⊢;exact List.lt_trans h a
theorem Z6p (a:Y_):Xh a a=false:=by rw[Z6X,decide_eq_false_iff_not];exact List.lt_irrefl _
theorem Z92 (h:Xh r R=false)(a:Xh R r=false):r=R:=by rw[Z6X,decide_eq_false_iff_not]at h a;exact Zjc (List.le_antisymm (List.not_lt.1 a) (List.not_lt.1 h))
def Ap (a b:Zr):Prop:=a.name≠b.name∧a.obj≠b.obj
theorem Ap.symm {a b:Zr}(h:Ap a b):Ap b a:=⟨fun e=>h.1 e.symm,fun e=>h.2 e.symm⟩
theorem Z5X {m:Zd}(h:m.may=true)(c:n<m.objs.length):V6 m m.objs[n]=true∧(n=0∨∃h:n-1<m.objs.length,Xh (m.objs[n-1]).name (m.objs[n]).name=true)∧∀j (f:j<n),(m.objs[j]'Y).obj≠(m.objs[n]).obj:=by
 have a:=(Yo h).objs n c;have g:VQ m n=m.objs[n]:=by unfold VQ;rw[Z6,Z7 c];rfl
 unfold Z0G at a;rw[g]at a;simp only[Xp,Bool.or_eq_true,decide_eq_true_eq]at a;refine⟨a.1,?_,fun j f e=>?_⟩
 ·rcases a.2.1 with b|b;·exact .inl b
  ·refine .inr ⟨Y,?_⟩;have i:VQ m (n-1)=m.objs[n-1]:=(by unfold VQ;rw[Z6,Z7 Y];rfl);rwa [i]at b
 ·have d:=Wq.1 a.2.2 (m.objs[j]'Y) (by rw[Z2X];exact⟨j,by rw[ZK];omega,by rw[List.getElem_take]⟩);rw[decide_eq_true e]at d;cases d
theorem Z6F {m:Zd}(h:m.may=true):∀j,j<m.objs.length→∀i,i<j→Xh (m.objs.getD i default).name (m.objs.getD j default).name=true
 |0,_,i,hi=>absurd hi Y
 |j+1,hj,i,hi=>by
  have a:=(Z5X h hj).2.1;have e:∀k (b:k<m.objs.length),m.objs.getD k default=m.objs[k]:=fun k b=>by rw[Z6,Z7 b];rfl
  rcases a with a|⟨f,a⟩;·omega
  ·rw[e _ hj,e _ Y];have c:Xh (m.objs[j]'Y).name (m.objs[j+1]).name=true:=a;rcases Yf i j with d|d;·have:=Z6F h j Y i d;rw[e _ Y,e _ Y]at this;exact Z4C this c
   ·have:i=j:=Y;subst this;exact c
theorem Z6w {m:Zd}(h:m.may=true):m.objs.Pairwise Ap:=by refine VH.2 fun i j d b c=>⟨fun e=>?_,(Z5X h b).2.2 i c⟩;have a:=Z6F h j b i c;rw[Z6,Z6,Z7 d,Z7 b]at a;simp only[Yz]at a;rw[e,Z6p]at a;cases a
theorem ZaZ {n:Zd}(h:1≤n.seq∧n.seq≤2147483647)(k:0≤n.next∧n.next≤16777216)(l:n.P.may=true)(m:0≤n.extra∧n.extra≤16)(o:VR n.drives 63=true)(p:n.objs.length≤12)
  (q:∀e∈n.objs,V6 n e=true) (g:n.objs.Pairwise Ap) (r:n.objs.Pairwise fun a b=>Xh b.name a.name=false):n.may=true:=by
 refine Zbl ⟨h,k,l,m,o,p,fun i c=>?_⟩;have s:VQ n i=n.objs[i]:=by unfold VQ;rw[Z6,Z7 c];rfl
 unfold Z0G;rw[s,q _ (Zp c)];simp only[Bool.true_and,Xp,Bool.or_eq_true,decide_eq_true_eq];constructor
 ·by_cases t:i=0;·exact .inl t
  ·have d:VQ n (i-1)=n.objs[i-1]:=(by unfold VQ;rw[Z6,Z7 Y];rfl);rw[d];right;have f:=VH.1 g (i-1) i Y c Y;have v:=VH.1 r (i-1) i Y c Y;cases h9:Xh (n.objs[i-1]).name (n.objs[i]).name
   ·exact absurd (Z92 h9 v) f.1
   ·rfl
 ·refine Wq.2 fun y w=>?_;obtain⟨j,x,d⟩:=Z2X.1 w;rw[ZK]at x;rw[List.getElem_take]at d;have f:=VH.1 g j i Y c Y;rw[d]at f;rw[decide_eq_false f.2];rfl
theorem Z8W {m n:Zd}{e:Zr}(h:V6 m e=true)(a:n.P=m.P)(b:m.next≤n.next):V6 n e=true:=by unfold V6 at h ⊢;rw[a];simp only[Xp,decide_eq_true_eq]at h ⊢;exact⟨h.1,⟨h.2.1.1,Zc h.2.1.2⟩,h.2.2⟩
theorem Z6J {m:Zd}(h:m.may=true){e:Zr}(a:e∈m.objs):V6 m e=true:=by obtain⟨i,b,rfl⟩:=ZZ a;exact(Z5X h b).1
theorem ZiJ {m n:Zd}{x:Zr}(h:m.may=true)(t:m.seq<2147483647)(v:m.next≤16777215)(w:m.objs.length<12)(y:n.seq=m.seq+1)(z:n.next=m.next+1)(j:n.P=m.P)(l:n.extra=m.extra)(o:n.drives=m.drives)
  (g:n.objs.Perm (m.objs++ [x])) (p:V6 n x=true) (A:x.obj=m.next) (q:∀e∈m.objs,e.name≠x.name) (r:n.objs.Pairwise fun a b=>Xh b.name a.name=false):n.may=true:=by
 have c:=Yo h;have d:n.objs.Pairwise Ap:=by refine(g.pairwise_iff (fun {a b} h=>Ap.symm h)).2 ?_;rw[Z2P];refine⟨Z6w h,List.pairwise_singleton _ _,fun a d b k=>?_⟩;rw[Yn]at k;subst k;refine⟨q a d,fun e=>?_⟩;have i:=Z6J h d;unfold V6 at i;simp only[Xp,decide_eq_true_eq]at i;have:=i.2.1.2;omega
 refine ZaZ (Zc c.seq) (Zc c.next) (j ▸ c.P) (l ▸ c.extra) (o ▸ c.drives) (by rw[g.length_eq,Zw,Z05];omega) (fun e s=>?_) d r;rcases YZ.1 (g.mem_iff.1 s) with f|f;·exact Z8W (Z6J h f) j Y
 ·rw[Yn]at f;subst f;exact p
theorem Z8t {m n:Zd}(h:m.may=true)(q:m.seq<2147483647)(r:n.seq=m.seq+1)(s:n.next=m.next)(d:n.P=m.P)(k:n.extra=m.extra)(l:VR n.drives 63=true)(b:n.objs=m.objs):n.may=true:=by
 have a:=Yo h;refine ZaZ (Zc a.seq) (Zc a.next) (d ▸ a.P) (k ▸ a.extra) l (b ▸ a.olen) (fun e f=>?_) (by rw[b];exact Z6w h) ?_;·rw[b]at f;exact Z8W (Z6J h f) d Y
 ·rw[b];refine VH.2 fun i j o g p=>?_;have c:=Z6F h j g i p;rw[Z6,Z6,Z7 o,Z7 g]at c;simp only[Yz]at c;cases h9:Xh (m.objs[j]).name (m.objs[i]).name
  ·rfl
  ·have:=Z4C c h9;rw[Z6p]at this;cases this
theorem ZfH {m:Zd}(h:m.may=true){a b c d:Nat}(p:m.drives.length≤a)(g:m.objs.length≤b)(i:∀e∈m.objs,e.name.length≤c∧e.tries.length≤d):(pack m).length≤14+a+b*(6+c+d):=by
 have j:∀l:List Zr,(∀e∈l,e.name.length≤c∧e.tries.length≤d)→(l.flatMap Vg).length≤l.length*(6+c+d):=by
  intro l;induction l with
  |nil=>intro _;simp
  |cons e l ih=>intro f;rw[Vb,Zw,XQ,X9];have k:=ih fun x n=>f x (XB _ n);have o:=f e (XP ..);have q:(Vg e).length=6+e.name.length+e.tries.length:=(by unfold Vg;simp only[Zw,XQ,List.length_nil,Z2v,Zz];omega);omega
 have k:=j m.objs i;have o:m.objs.length*(6+c+d)≤b*(6+c+d):=Z08 _ g;unfold pack;rw[if_pos h];unfold Z4q Z1W;simp only[Zw,XQ,List.length_nil,Z2v,Zz];omega
def Z0y (s:WM) (X:Zl) (c i:Nat):Y_:=(List.range i).foldl (fun v j=>Wi ((s.W.getD c []).getD j 0) (X.getD j []) v) (s.Mo.getD c [])
theorem Z6q (s:WM)(X:Zl)(c i:Nat):Z0y s X c (i+1)=Wi ((s.W.getD c []).getD i 0) (X.getD i []) (Z0y s X c i):=by unfold Z0y;rw[Wp,Z2m];rfl
theorem Z4_ (s:WM)(X:Zl)(c:Nat):∀i,(Z0y s X c i).length=(s.Mo.getD c []).length
 |0=>rfl
 |i+1=>by rw[Z6q,VO,Z4_ s X c i]
def VY (s:WM) (X:Zl) (T:Zk) (a N c:Nat):Zl:=(List.range N).map fun j=>if j<c∧T.known.getD j false=false then Z0y s X j a else T.vals.getD j []
theorem Z4Z (s:WM)(X:Zl)(T:Zk)(a N c j:Nat)(h:j<N):(VY s X T a N c).getD j []=if j<c∧T.known.getD j false=false then Z0y s X j a else T.vals.getD j []:=by unfold VY;rw[Z6,ZO,Vt h];rfl
theorem Z1h (s:WM)(X:Zl)(T:Zk)(a N c:Nat):(VY s X T a N c).length=N:=by simp[VY]
theorem Zjz (s:WM)(X:Zl)(T:Zk)(b N:Nat)(h:T.vals.length=N):VY s X T b N 0=T.vals:=by apply Z1H (by rw[Z1h,h]);intro j a;rw[Z1h]at a;rw[Z4Z _ _ _ _ _ _ _ a,if_neg Y]
theorem Zh8 (s:WM)(X:Zl)(T:Zk)(a N c:Nat)(h:T.known.getD c false=true):VY s X T a N (c+1)=VY s X T a N c:=by
 unfold VY;refine Z1O fun j _=>?_;by_cases e:j=c;·subst e;rw[h];simp
 ·by_cases b:j<c;·simp[b,show j<c+1 from Y]
  ·simp[b,show ¬j<c+1 from Y]
theorem Zih (s:WM)(X:Zl)(T:Zk)(a N c:Nat)(f:c<N)(h:T.known.getD c false=false):VY s X T a N (c+1)=(VY s X T a N c).set c (Z0y s X c a):=by
 apply Z1H (by rw[Ya,Z1h,Z1h]);intro j b;rw[Z1h]at b;rw[X4,Z1h,Z4Z _ _ _ _ _ _ _ b,Z4Z _ _ _ _ _ _ _ b];by_cases e:c=j;·subst e;rw[if_pos ⟨Y,h⟩,if_pos ⟨rfl,f⟩]
 ·rw[if_neg (show ¬(c=j∧j<N) from fun h=>e h.1)];by_cases d:j<c;·simp[d,show j<c+1 from Y]
  ·simp[d,show ¬j<c+1 from Y]
theorem ZhB {c:Z0}(h:Zq n w (m,k,i) l c)(d:c.length=k)(o:j<k)(p:OB n w x r):Zq n (w.setCell (m,j) x) (m,k,i) (l.set j x) (c.set j r):=by
 have b:=h.own;rw[d]at b;obtain⟨s,t,v,e,y,f,z,_,_,_⟩:=XN b Y;injection e with e _ _;injection e with e;injection e with e _ _;subst e;have q:l.length=k:=by have:=b.1;simpa using this
 refine⟨by rw[Ya,d];exact Z0f b o x,fun a g=>?_⟩;rw[Ya]at g;rw[Z2w,X4,q,d];by_cases e:j=a∧a<k;·rw[if_pos e,if_pos e];exact Z1m p f Z5
 ·rw[if_neg e,if_neg e];exact Z1m (h.at_ a g) f Z5
theorem Yk.only {base:Nat}{g:Nat}{s:WM}{cs:Z_}(h:Yk base w n m k l L s)(c:Only (fun q=>q=g) w v)(f:Row w g 32 cs)(j:n≠g)(o:m≠g):Yk base v n m k l L s:=
 ⟨h.rw_.only c j,h.rm_.only c o,h.lvw,h.lvm,h.lw,h.lm,fun i b=>Zu (h.W i b) c (fun a d e=>X8 (h.W i b) f Z5 a d e),fun i b=>Zu (h.M i b) c (fun a d e=>X8 (h.M i b) f Z5 a d e),h.ne⟩
theorem Z8J (U H R o gw gm N cv S l cd B:Nat)(Ad:X_)(I vw vm vd:Z_)(X:Zl)(T:Zk)(s:WM)(p:Zf)(rv v1 v2 v3:U2)(w:U1)
  (a2:Row w U 287 (Yx H p (o,N,cv) rv v1 v2 v3 (gw,N,N) (gm,N,N))) (hf:Yq w H)
  (hv:Zq R w (o,N,cv) I T.vals) (a3:T.vals.length=N) (x:T.known.length=N) (aj:∀i,i<N→T.known.getD i false=false→I.getD i undef=.slice none 0 0)
  (hS:∀i,i<N→T.known.getD i false=true→(T.vals.getD i []).length=S) (ay:0<S) (c3:S≤24) (hm:Yk R w gw gm N vw vm s) (hb:R≤w) (b5:o≠gw) (b6:o≠gm) (hN:N≤64) (c4:l≤64)
  (hx:Zq B w (Ad,l,cd) vd X) (az:X.length=l) (hB:o<B) (aB:∀i,i<l→(X.getD i []).length=S) (hg:∀c:Nat,c<N→Gd l S s c):
  Calls prog 224 #[(U,()),(Ad,l,cd)] w fun e V=>e=.returned (.tuple #[])∧(∃b7,Zq R V (o,N,cv) b7 (VY s X T l N N))∧Only (fun q=>q=o) w V:=by
 have kq:∀(w:U1) (a:X_) (n c:Nat),(binOp .neq 32 (.slice a n c) (.slice none 0 0)).run prog w=.ok (.bool (!a.isNone)) w:=fun w a n c=>run_neq_slice_nil w 32 5 a n c underlying32;have n1:U≠o:=fun e=>by have t:=hv.own;rw[a3]at t;exact X8 t a2 Z5 o rfl e.symm
 have bb:=Z a2;have HF:=Z hf;have c5:=Z a3;have c6:=Z x;have bc:=Z aj;have bd:=Z hS;have HM:=Z hm;have HX:=Z hx;have be:=Z az;have bf:=Z aB;have HG:=Z hg;have c7:=a2.lt;have q4:=Z9 a2 4;have bg:∀i,i<N→I.getD i undef=.slice none 0 0∨T.known.getD i false=true:=fun i hi=>by
  cases t:T.known.getD i false
  ·exact .inl (aj i hi t)
  ·exact .inr rfl
 have H0:Hid (Zq R w (o,N,cv) I (VY s X T l N 0)):=Z (by rw[Zjz s X T l N a3];exact hv);have aC:∃cs,Row w o 32 cs:=by
  rcases hv.own.2 with ⟨t,_⟩|⟨g,c9,aD,t,_,hh,_⟩;·cases t
  ·injection t with t _ _;injection t with t;injection t with t _ _;subst t;exact⟨aD.toList,by simpa[Row]using hh⟩
 have bh:=Z aC;have bi:H≠o:=fun e=>by have t:=hv.own;rw[a3]at t;exact X8 t hf Z5 o rfl e.symm
 clear a2 hf hv a3 x aj hS hm hx az aB hg bg aC;go_enter func224,ntmps224;go_wp2;go_loopw [4,5,6,7,8,9,15] (fun _ _ _ _ _ _ i wr=>∃(c:Nat) (J:Z_),c≤N∧i=.int .i64 (c:Int)∧Hid (Zq R wr (o,N,cv) J (VY s X T l N c))∧Hid (∀j,c≤j→j<N→J.getD j undef=I.getD j undef)∧Hid (Only (fun q=>q=o) w wr)) (fun _ _ _ _ _ _ i _=>N-(intOf i).toNat)
 ·exact⟨0,I,Y,rfl,H0,Z (fun _ _ _=>rfl),Z (Only.refl _ _)⟩
 ·obtain⟨c,J,hc,rfl,HV,a9,L⟩:=hrel;have a0:=bb.only L n1;have z4:=Z9 a0 4;have z9:=Z9 a0 9;have bj:=Z9 a0 10;have bk:=Z a0;have aE:=a0.lt;clear a0;by_cases f:c<N
  ·have cb:(c:Int)<(N:Int):=Y;have A:=HV.own;rw[Z1h]at A;have aa:=HV.at_ c (by rw[Z1h];exact f);have C:=(Ww A f).1;have a1:J.length=N:=(by have:=A.1;simpa using this);rw[Z7 (by rw[a1];exact f)]at C;have eg:J[c]'(by rw[a1];exact f)=I.getD c undef:=(by rw[←a9 c (Z4 _) f,Z6,Z7 (by rw[a1];exact f)];rfl);rw[eg]at C;rw[a9 c (Z4 _) f,Z4Z _ _ _ _ _ _ _ f,if_neg Y]at aa;have ce:=Z A;have bl:=Z a1;cases hkn:T.known.getD c false with
   |true=>
    have hl:=bd c f hkn;have ab:=aa;unfold OB at ab;rw[hl]at ab;obtain⟨g,cc,aD,ev,_,_,_,_,_,_⟩:=XN ab ay;rw[ev]at C;have bm:=Z (Zh8 s X T l N c hkn);clear A aa a1 eg hl ab ev;go_wp2;go_roundw;·exact⟨c+1,J,Y,Zg,by rw[bm];exact HV,Z (fun j h1 h2=>a9 j Y h2),L⟩
    ·exact Zh
   |false=>
    have hn:=bc c f hkn;rw[hn]at C;have bn:=Z (Zih s X T l N c f hkn);have ak:=HG c f;have a4:=ak.w;have al:=ak.m;rw[ZL]at a4 al;obtain⟨la,ac⟩:=Zb (s.W.getD c []);rw[ac]at a4;obtain⟨cf,aF⟩:=bh;have v:=HM.only L aF (fun e=>b5 e.symm) (fun e=>b6 e.symm);have a5:=v.W c f;have ad:=v.M c f;rw[ac]at a5;unfold OB at a5 ad;rw[a4]at a5;rw[al]at ad;obtain⟨A1,c1,e1,cg,ch,aG⟩:=Y8 a5;obtain⟨A2,c2,e2,ci,cj,aH⟩:=Y8 ad;have r1:=v.rw_.cell c;rw[Z7 (by rw[v.lvw];exact f)]at r1;have aI:vw[c]'(by rw[v.lvw];exact f)=.slice A1 l c1:=(by rw[←e1,Z6,Z7 (by rw[v.lvw];exact f)];rfl);rw[aI]at r1;have r2:=v.rm_.cell c;rw[Z7 (by rw[v.lvm];exact f)]at r2;have aJ:vm[c]'(by rw[v.lvm];exact f)=.slice A2 S c2:=(by rw[←e2,Z6,Z7 (by rw[v.lvm];exact f)];rfl);rw[aJ]at r2;have aK:=(HX.only (G:=fun q=>q=o) L (fun b hb e=>Zc ((ZC HX.own b hb).1)) (fun y hy b hb e=>Zc ((HX.lt y hy b hb).1))).read be;have am:=HF.only L bi;have bo:=Z am;have bp:=Z aK;have bq:=Z ac;have br:=Z aG;have bs:=Z aH;have bt:=Z a4;have bv:=v.rw_.lt;have bw:H<wr:=Row.lt am;clear A aa a1 eg hn ak al a4 ac aF v a5 ad e1 e2 aG aH aI aJ aK am;generalize wr=wo at*;go_wp2_with fail;refine(Z0A wo A2 (s.Mo.getD c []) S c2 _ bs (Z4 _) Y).mono ?_;rintro e w1 ⟨v9,rfl,o9,b9⟩;unfold OB at o9;have aL:(s.Mo.getD c []).length=S:=(by have:=(HG c f).m;rwa [ZL]at this);rw[aL]at o9;obtain⟨r,O,ck,rfl,aM,-,-,-,cl,cm⟩:=XN o9 ay;have bB:Hid (w1.ownsRow wo 5 1 (r,S,O) S ((Z0y s X c 0).map Za)):=Z o9;have aO:=Z b9;replace z9:=(b9.cell (p:=⟨U,9,none⟩) aE).trans z9;replace r1:=(b9.cell (p:=(gw,c)) bv).trans r1;have bC:=b9.size;clear o9 b9 r2 z4 bj;go_wp2;go_loopw [6,7,8,9,42] (fun _ _ _ _ i wq=>∃j:Nat,j≤l∧i=.int .i64 (j:Int)∧Hid (wq.ownsRow wo 5 1 (r,S,O) S ((Z0y s X c j).map Za))∧Hid (Only (fun q=>q=r) w1 wq)) (fun _ _ _ _ i _=>l-(intOf i).toNat)
    ·exact⟨0,Y,rfl,bB,Z (Only.refl _ _)⟩
    ·obtain⟨j,hj,rfl,aP,aQ⟩:=hrel;have ae:Below wo w1 wr:=aQ.below (fun q e=>by subst e;exact aM) bC;have P:=aO.trans ae;have bD:=Z P;have a6:=bk.below P aE;by_cases af:j<l
     ·have cn:(j:Int)<(l:Int):=Y;obtain⟨ba,oa,ea,_,ca⟩:=((br.below aO).below ae).get af (XF la j (by rw[bt];exact af));subst ea;obtain⟨D,an⟩:=Zb (la.getD j 0);rw[an]at ca;obtain⟨bx,ox,Ax,cx,ex,co,aR,aT,cp,ag⟩:=(bp.below P).get af;have ah:=bf j af;obtain⟨Q,ao⟩:=Zb (X.getD j []);rw[ao]at aR aT ag ah;rw[ah]at aR aT ag;have z0:=a6.cell 0;unfold Yx at z0;simp only[ZE]at z0;have bE:=Z an;have bF:=Z ao;have bG:=Z ah;have bH:=Z ag;have aU:=Yq.below bo P bw;have n3:H≠r:=Y;have n4:U≠r:=Y;have bI:∀wx,Only (fun q=>q=r) wr wx→Yq wx H:=fun wx h=>aU.only h n3;have bJ:∀wx,Only (fun q=>q=r) wr wx→wx.cell? U=some (.pointer (some ⟨H,0,none⟩)):=fun wx h=>((a6.only h n4).cell 0).trans (by rfl);obtain⟨E,ap⟩:=Zb (Z0y s X c j);have h0:=aP.out;rw[ap,show E=Xt D Q E 0 from(Z4r D Q E).symm]at h0;have bK:=Z h0;have aV:E.length=S:=(by have:=h0.1;rw[Z4r]at this;simpa using this);have bL:=Z ap;have a7:=Z aV;have cq:=D.isLt;subst ex;clear ae P an ao ah ag aU ap h0 aV a6;unfold Za at ca;go_wp2_with fail;generalize wr=w2 at*;go_loopw [8,9,52] (fun _ _ i wk=>∃k:Nat,k≤S∧i=.int .i64 (k:Int)∧Hid (wk.ownsRow wo 5 1 (r,S,O) S ((Xt D Q E k).map Za))∧Hid (Only (fun q=>q=r) w2 wk)) (fun _ _ i _=>S-(intOf i).toNat)
      ·exact⟨0,Y,rfl,bK,Z (Only.refl _ _)⟩
      ·obtain⟨k,hk,rfl,ai,a8⟩:=hrel;by_cases x:k<S
       ·have cr:(k:Int)<(S:Int):=Y;have aW:Below wo w2 wr:=a8.below (fun q e=>by subst e;exact aM) bD.size;obtain⟨bz,oz,ez,_,b0⟩:=(bH.below aW).get x (XF Q k (by rw[bG];exact x));subst ez;obtain⟨xa,aq⟩:=Zb (Q.getD k 0);rw[aq]at b0;have C:=(Ww ai x).1;rw[XF _ k (by rw[Z5t _ _ _ _ (by rw[a7];exact hk),a7];exact x),Z5q _ _ _ _ (by rw[a7];exact x)]at C;obtain⟨y,hy⟩:=Zb (E.getD k 0);rw[hy]at C;obtain⟨z,hz⟩:=Zb (ZU D xa);have ar:=Z5r D Q E k (by rw[a7];exact x);rw[aq,hy,hz]at ar;have bM:=Z ar;have HZ:=Z hz;have ct:=y.isLt;have cw:=z.isLt;have cy:=xa.isLt;unfold Za at b0 C;clear aq hy hz ar aW;go_wp2_with fail;refine oS [13] (fun V=>V.cell? ⟨r,k,none⟩=some (.int .u8 (y.toNat:Int))∧Only (fun q=>q=r) w2 V∧V.ownsRow wo 5 1 (r,S,O) S ((Xt D Q E k).map Za)) [0,1,2,3,4,5,6,7,8,9,10,11,12,13] (⟨C,a8.drew,od_ ai 1⟩) fun hS=>?_;(iterate 7 refine oV ?_);refine ZH (fun w hSw=>bJ _ hSw.2.1) ?_;refine oV ?_;refine oV ?_;refine oG fun K hK=>?_;go_simp;go_at_call 288;refine(Z4f H D xa _ _ (bI _ (hS.2.1)) rfl).mono ?_;rintro e w5 ⟨rfl,d,rfl⟩;rw[HZ];unfold Za;go_wp2_with fail;refine oK hK ⟨C,a8.drewN (1+d),od_ ai (1+d)⟩ fun hS=>?_;refine oV ?_;refine oV ?_;refine oM 13 fun K hK=>?_;have bO:=(Ww hS.2.2 x).2;have bP:=hS.1;have b1:=Z0f hS.2.2 x (Za (y ^^^ z));go_simp;refine oL hK ?_;refine oD ?_;rw[b8x y z];have b2:((wr.drewN (1+d)).setCell (r,k) (.int .u8 ((y ^^^ z).toNat:Int))).ownsRow wo 5 1 (r,S,O) S ((Xt D Q E (k+1)).map Za):=(by rw[←bM,XZ];exact b1);have bQ:=Z b2;have bR:=Z ((a8.drewN (1+d)).set (g:=r) rfl k (.int .u8 ((y ^^^ z).toNat:Int)));clear b1 b2 bP bO;go_wp2;go_roundw;·exact⟨k+1,Y,Zg,bQ,bR⟩
        ·exact Zh
       ·have he:S=k:=Y;subst he;have av:=ai.out;rw[Z5n _ _ _ _ a7]at av;have bT:=Z av;clear av;go_wp2;go_roundw;·exact⟨j+1,Y,Zg,by rw[Z6q,bq,bE,bF,bL];exact bT,Z (aQ.trans a8 (fun _ _ e=>e))⟩
        ·exact Zh
     ·have he:l=j:=Y;subst he;have z4:=Z9 a6 4;have aw:=HV.below P;have A:=aw.own;rw[Z1h]at A;have bU:=(Ww A f).1;have cz:=(Ww A f).2;rw[Z7 (by rw[bl];exact f)]at bU;have b3:OB R wr (r,S,O) (Z0y s X c l):=(by unfold OB;rw[Z4_,aL];exact ZA aP (Zj hb L.size));have ax:=ZhB aw (Z1h _ _ _ _ _ _) f b3;rw[←bn]at ax;have bV:=Z ax;have b4:∀j,c+1≤j→j<N→(J.set c (Value.slice (some ⟨r,0,none⟩) S O)).getD j undef=I.getD j undef:=fun j h1 h2=>by rw[Z2w,if_neg (fun h=>Y)];exact a9 j Y h2
      have bW:=Z b4;have c0:=Z ((Only.trans L (Only.of_new (F:=fun q=>q=o) P) (fun _ _ e=>e)).set (g:=o) rfl c (r,S,O));clear ae P a6 aw A b3 ax b4;go_wp2;go_roundw;·exact⟨c+1,_,Y,Zg,bV,bW,c0⟩
      ·exact Zh
  ·have he:N=c:=Y;subst he;go_wp2;go_end0;exact⟨rfl,⟨J,HV⟩,L⟩
theorem Z9p (s:WM)(X:Zl)(c k:Nat)(a:k<(s.Mo.getD c []).length):∀i,(Z0y s X c i).getD k 0=(s.Mo.getD c []).getD k 0 ^^^ YE i (fun j=>ZU ((s.W.getD c []).getD j 0) ((X.getD j []).getD k 0))
 |0=>by simp[Z0y,YE]
 |i+1=>by rw[Z6q,Z3z _ _ _ _ (by rw[Z4_];exact a),Z9p s X c k a i,YE];exact Z1w _ _ _
theorem Zat {n S:Nat}{b:List Zt}{T:Zk}{v:Int→Y_}{r:List (Nat×Int)}{a:W_}{s:WM}{X:Zl}(l:Z5J n S b T v r a s)(t:Right n S b)(o:Made n S v b)(x:Reach n b T)
  (y:∀i,i<a.length→∀k,k<S→(X.getD i []).getD k 0=XD v (a.getD i 0).toNat k):VY s X T a.length n n=(List.range n).map fun j:Nat=>v (j:Int):=by
 unfold VY;refine Z1O fun j d=>?_;have d:=Ws.1 d;by_cases f:T.known.getD j false=false
 ·rw[if_pos ⟨d,f⟩];have p:=l.g (j:Int) Y Y;have q:(s.Mo.getD j []).length=S:=p.m;have z:(s.W.getD j []).length=a.length:=p.w;have A:=o.len (j:Int) Y Y;refine List.ext_getElem (by rw[Z4_,q,A]) fun k B C=>?_;have h:k<S:=Y;have c:=Z9p s X j k (q ▸ h) a.length;have D:dot (s.W.getD j []) (fun i=>XD v (a.getD i 0).toNat k) ^^^ (s.Mo.getD j []).getD k 0=XD v j k:=l.m k h (j:Int) Y Y;have E:YE a.length (fun i=>ZU ((s.W.getD j []).getD i 0) ((X.getD i []).getD k 0))=dot (s.W.getD j []) (fun i=>XD v (a.getD i 0).toNat k):=by unfold dot;rw[z];exact Z1f _ fun i F=>by rw[y i F k h]
  rw[E,BitVec.xor_comm,D]at c;unfold XD at c;rw[Z6,Z6,Z7 B,Z7 C]at c;exact c
 ·rw[if_neg (fun e=>f e.2)];have G:T.kn (j:Int)=true:=by unfold Zk.kn;rw[ZL];simpa using f
  have:=x.made t o (j:Int) Y G;unfold Zk.val at this;rwa [ZL]at this
theorem pre_true (o:Wu (n+m) (Y6 n m i (List.range n)))(p:r.length=n*k):∀a∈YR n m,∀j,j<k→dot a (fun c=>if c<n+m then XD (XA n m k i r) c j else 0)=0:=fun a f j q=>by
 have s:a.length=n+m:=Z46 (seed:=i) (ids:=List.range n) (by unfold Y6;exact Z16 _ f);obtain⟨b,d,e⟩:=ZZ f;have g:b<m:=by simpa[YR]using d
 have h:=ZaT o p b (by rw[Z0V,WZ];omega) j q;have t:(Y6 n m i (List.range n)).getD b []=a:=by unfold Y6;rw[Z6,Yp d,Z7 d,e];rfl
 have v:((XC n m k r).getD b []).getD j 0=0:=by
  have w:(XC n m k r).getD b []=Zm k:=by unfold XC;rw[Z6,Yp (by simpa using g),XY,if_pos g];rfl
  rw[w];exact Z3Q k j
 rw[t]at h;have x:dot a (fun c=>if c<n+m then XD (XA n m k i r) c j else 0)=dot a (fun c=>at2 (Vl n m k i r) c j):=by unfold dot;refine Z1f _ fun c l=>?_;rw[s]at l;dsimp only;rw[if_pos l];unfold XD XA at2;rw[ZL]
 rw[x];exact h.trans v
theorem Zd9 {D:List (Y_×Y_)}(U8:Nat→Nat→Byte)(h:∀p∈D,p.1.length=n∧p.2.length=m∧∀k,k<m→dot p.1 (fun i=>U8 i k)=p.2.getD k 0)(x:Wu n (D.map Prod.fst)):
  (∀r∈D.map Prod.fst,r.length=n)∧(∀r∈D.map Prod.snd,r.length=m)∧n≤D.length∧(Yh n (YK (D.map Prod.fst) (D.map Prod.snd))).1=n∧
  (∀i,n≤i→i<D.length→∀j,j<n+m→at2 (Yh n (YK (D.map Prod.fst) (D.map Prod.snd))).2 i j=0)∧
  ∀i,i<n→((VJ n (YK (D.map Prod.fst) (D.map Prod.snd))).getD i []).length=m∧∀k,k<m→((VJ n (YK (D.map Prod.fst) (D.map Prod.snd))).getD i []).getD k 0=U8 i k:=by
 have o:∀i (a:i<D.length),(D.map Prod.fst).getD i []=D[i].1:=fun i a=>by rw[Z6,ZO,Z7 a];rfl
 have q:∀i (a:i<D.length),(D.map Prod.snd).getD i []=D[i].2:=fun i a=>by rw[Z6,ZO,Z7 a];rfl
 have d:Wd n (D.map Prod.fst):=fun i a=>by rw[Zz]at a;rw[o i a];exact(h _ (Zp a)).1
 have s:Wd m (D.map Prod.snd):=fun i a=>by rw[Zz]at a;rw[q i a];exact(h _ (Zp a)).2.1
 have t:(D.map Prod.fst).length=(D.map Prod.snd).length:=Ze;have f:=Z4d d s t;have v:=(Z6C (b:=D.map Prod.snd) d).2 x;have y:=(ZaU d s t (fun k i=>U8 i k)).1 (fun i a k g=>by rw[Zz]at a;rw[o i a];unfold at2;rw[q i a];exact(h _ (Zp a)).2.2 k g);have c:=ZhG f v (fun k i=>U8 i k) y;have w:(YK (D.map Prod.fst) (D.map Prod.snd)).length=D.length:=by rw[Z0U,Zz]
 rw[w]at c;refine⟨fun r c=>?_,fun r c=>?_,c.1,(Z2M Y f).2 v,c.2.2,fun i a=>⟨?_,fun k g=>?_⟩⟩;·obtain⟨p,l,rfl⟩:=ZT.1 c;exact(h p l).1
 ·obtain⟨p,l,rfl⟩:=ZT.1 c;exact(h p l).2.1
 ·exact Zau f (by rw[w];exact c.1) i (by rw[Z1E];exact a)
 ·have e:=Za8 n (YK (D.map Prod.fst) (D.map Prod.snd)) i k a;unfold at2 at e;rw[e];exact c.2.1 i a k g
