/- StbRa StbRb StbRc Swl3 -/
import Derived.Test.YtpokipdpjhookaaGreatDoorBTopRetires09
import Derived.Test.YtpokipdpjhookaaGreatDoorBTopRetires14
set_option maxHeartbeats 8000000
set_option maxRecDepth 20000
set_option linter.all false
namespace Go.Proofs
open Go Go.RowKit Tryz
section
open Go.Sort Go.Lib
variable {α:Type} [Inhabited α] {enc:α→List Value} {w0 W:World} {blk off N cap:Nat} {l:List α} {g:Nat} {cf:α→α→Int}
theorem Zjg (ho:We fun x y=>decide (cf x y<0))(R:WU prog 159 enc w0 blk off N)(hN:N≤1048576)(D:∀x,∀v∈enc x,v.oneCell'=true)(eg:∀a0 w,(callFunc g a0).run prog w=.ok (.enter g a0) w)(hC:CmpLays prog g #[] enc 8 cf blk off N w0){A U9 S:List α}{x:α}{a m b:Nat}(h:Zo enc w0 blk off N (A++(x::(U9++S))) W)(E:A.length=a)(hm:a+1=m)(hb:m+U9.length=b)(av:m<b)(hZ:Xi (fun x y=>decide (cf x y<0)) U9):
  Calls prog 293 #[.slice (some ⟨blk,off,none⟩) N cap,a,m,b,.func (.func g) #[] #[]] W fun e F=>e=.returned (.tuple #[])∧Zo enc w0 blk off N (A++(Y3 (fun x y=>decide (cf x y<0)) [x] U9++S)) F:=by
 have aw:b≤N:=by have:=h.1;simp only[Zw,XQ]at this;omega
 have HA:=Z E;have HM:=Z hm;have s:=Z hb;have HH:=Z h;have HC:=Z hC;have HZ:=Z hZ;have HO:=Z ho;have t1:(m:Int)-a=1:=Y;have ax:a<m:=Y;have px:=Zo.pre R h (A:=A) (S:=U9++S) (x:=x) (i:=a) rfl E;have PX:=Z px;have pz:∀i,m≤i→i<b→(A++(x::(U9++S)))[i]? =some (U9[i-m]!):=fun i D h2=>by rw[Y7 Y,show i-A.length=(i-m)+1 from Y,Xd,Yp Y,getElem!_pos U9 (i-m) Y,Z7]
 have PZ:=Z pz;clear h E hm hb hC px pz hZ ho;go_enter func293,ntmps293;go_wp2;go_loopw [10,11] (fun vi vj wr=>∃(i j:Nat),vi=.int .i64 (i:Int)∧vj=.int .i64 (j:Int)∧m≤i∧i≤j∧j≤b∧Zo enc w0 blk off N (A++(x::(U9++S))) wr∧Hid ((i=m∨cf (U9[i-1-m]!) x<0)∧(j=b∨0≤cf (U9[j-m]!) x))) (fun i j _=>(intOf j).toNat-(intOf i).toNat)
 ·exact⟨m,b,rfl,rfl,Z4 _,Y,Z4 _,HH,⟨.inl rfl,.inl rfl⟩⟩
 ·obtain⟨i,j,rfl,rfl,ag,ay,az,l,t⟩:=hrel;have f:=Z l;clear l;by_cases ah:i<j
  ·have ai:(i:Int)<(j:Int):=Y;obtain⟨h,G⟩:=Zb ((i+j) / 2);have aB:((i:Int)+j) / 2=(h:Int):=Y;have c1:(h:Int)<(N:Int):=Y;have c2:(a:Int)<(N:Int):=Y;have H:=PZ h Y Y;obtain⟨z,I⟩:=Zb (U9[h-m]!);rw[I]at H;have P1:=Z H;have a1:=Z I;have aj:=Z G;clear H I G;go_wp2_with fail;refine oS [] (Zo enc w0 blk off N (A++(x::(U9++S)))) [0,1,2,3,4,5,6,7,8,9,10] (f.drew) fun hS=>?_;(iterate 4 refine oV ?_);refine oC (y:=fun w hSw=>by apply Pure.val;refine(WL 159 (.tmp 43) rfl (by go_simp;first|done|rfl) (Zo.ld hSw R P1)).trans ?_;with_reducible rfl) (h:= ?_);(iterate 3 refine oV ?_);refine oC (y:=fun w hSw=>by apply Pure.val;refine(WL 159 (.tmp 47) rfl (by go_simp;first|done|rfl) (Zo.ld hSw R PX)).trans ?_;with_reducible rfl) (h:= ?_);refine oG fun K hK=>?_;go_simp
   first
    | (go_at_fn g)
    |skip
   refine((Zo.cmp0 hS HC z x)).mono ?_;rintro e wz ⟨rfl,a2⟩;go_wp2_with fail;refine oK hK a2 fun hS=>?_;clear a2;refine oV ?_;refine oD ?_;have a3:=Z hS;clear f hS;have G:=aj.out;by_cases ak:cf z x<0
   ·go_wp2;go_roundw;·refine⟨h+1,j,Zg,rfl,Y,Y,Y,a3,⟨.inr ?_,t.2⟩⟩;rw[show h+1-1-m=h-m from Y,a1];exact ak
    ·simp[intOf] <;> omega
   ·go_wp2;go_roundw;·exact⟨i,h,rfl,rfl,ag,Y,Y,a3,⟨t.1,.inr (by rw[a1];omega)⟩⟩
    ·simp[intOf] <;> omega
  ·have ai:¬(i:Int)<(j:Int):=Y;obtain rfl:i=j:=Y;have a4:Y3 (fun x y=>decide (cf x y<0)) [x] U9=U9.take (i-m)++x::U9.drop (i-m):=by
    refine Zj1 HO HZ (Zc s.out) ?_ ?_
    ·rcases t.2 with h|h;·exact .inl (Zc s.out)
     ·exact .inr (by simpa using h)
    ·rcases t.1 with h|h;·exact .inl Y
     ·exact .inr (by rw[show i-m-1=i-1-m from Y];simpa using h)
   have al:=Z a4;clear a4;obtain⟨n,J⟩:=Zb (i-1);have aC:(i:Int)-1=(n:Int):=Y;have a5:=Z J;clear J;obtain⟨wl,a6⟩:=WI wr;rw[←a6]at f ⊢;clear a6;go_wp2;go_loopw [13] (fun vk wr=>∃(k:Nat),vk=.int .i64 (k:Int)∧a≤k∧k≤n∧Zo enc w0 blk off N (A++(U9.take (k-a)++(x::(U9.drop (k-a)++S)))) wr) (fun k _=>n-(intOf k).toNat)
   ·exact⟨a,rfl,Z4 _,Zc a5.out,by simpa using f.out⟩
   ·obtain⟨k,rfl,aD,aE,l⟩:=hrel;clear f;have f:=Z l;clear l;have J:=a5.out;by_cases ah:k<n
    ·have am:(k:Int)<(n:Int):=Y;obtain⟨d,an⟩:=WI k;subst an;obtain⟨r,a7⟩:=Zb (d+1);obtain⟨z,a8,a9⟩:∃z,U9.drop (d-a)=z::U9.drop (d-a+1)∧U9.take (d-a+1)=U9.take (d-a)++ [z]:=by have:d-a<U9.length:=Zc s.out;exact⟨U9[d-a],Z0q this,ZR this⟩
     have l:=f.out;rw[a8]at l;clear f;have f:=Z l;have ao:=Z a9;clear l a8 a9;have o:A++(U9.take (d-a)++(x::(z::U9.drop (d-a+1)++S)))=(A++U9.take (d-a))++x::([]++z::(U9.drop (d-a+1)++S)):=Ze;have p:(A++U9.take (d-a)).length=d:=(by have:=HA.out;have:=s.out;simp;omega);have q:d+1+([]:List α).length=r:=(by simpa using a7);have ap:=Z o;have aq:=Z p;have ar:=Z q;have ci:(r:Int)<(N:Int):=Y;have aF:(d:Int)<(N:Int):=Y;have c6:IntKind.i64.wrap ((d:Int)+1)=(r:Int):=(by rw[Xe];omega);clear o p q a7;go_wp2_with fail;have o:=ap.out;have p:=aq.out;have q:=ar.out;have L:=Zo.pre R f o p;have M:=Zo.pre R f (A:=(A++U9.take (d-a))++x::([]:List α)) (S:=(U9.drop (d-a+1)++S)) (x:=z) (i:=r) (by rw[o];simp) (by simp at p q ⊢;omega);have B:=f.sts R L M;have aa:=f.exch R o p q;have O:=f.drew.ld R L;have P:=f.drew.ld R M;have C:=Z aa.1;have Q:(enc x).length=8:=R.hk x;have T:(enc z).length=8:=R.hk z;have ab:(enc x).toArray.all (·.oneCell')=true:=(by simpa using D x);have ac:(enc z).toArray.all (·.oneCell')=true:=(by simpa using D z);clear L M o p q aa;obtain⟨U,ad⟩:∃c,c=enc x:=⟨_,rfl⟩;obtain⟨V,ae⟩:∃c,c=enc z:=⟨_,rfl⟩;rw[←ad]at O Q ab C;rw[←ae]at P T ac C B;clear ad ae;obtain⟨wq,af⟩:=WI wr;rw[←af]at O P B C ⊢;clear f af;refine oS [15,17] (fun F=>F=wq.drew) [0,1,2,3,4,5,6,7,8,9,10,11,12,13,14,15,16,17] (rfl) fun hS=>?_;refine oV ?_;refine oV ?_;refine oF ?_;refine oF ?_;refine oF ?_;(iterate 4 refine oV ?_);refine oC (y:=fun w hSw=>by rw[hSw];apply Pure.val;refine(WL 159 (.tmp 69) rfl (by go_simp;first|done|rfl) P).trans ?_;with_reducible rfl) (h:= ?_);refine oF ?_;refine oF ?_;refine oF ?_;refine oC (y:=fun w hSw=>by rw[hSw];apply Pure.val;refine(WL 159 (.tmp 73) rfl (by go_simp;first|done|rfl) O).trans ?_;with_reducible rfl) (h:= ?_);refine oV ?_;refine oM 15 fun K hK=>?_;refine wp_store_mid 159 (.tmp 75) (.tmp 70) rfl blk (off+d*8) (V).toArray (by go_simp;first|done|rfl) (by go_simp;first|done|rfl) (by rw[show(V).toArray.size=8 by simp[T]];exact B.1) (by rw[show(V).toArray.size=8 by simp[T]];exact R.size) ac ?_;refine oL hK ?_;refine oF ?_ (sP 15);refine oM 15 fun K hK=>?_;refine wp_store_mid 159 (.tmp 76) (.tmp 74) rfl blk (off+r*8) (U).toArray (by go_simp;first|done|rfl) (by go_simp;first|done|rfl) (by rw[show(U).toArray.size=8 by simp[Q]];exact B.2) (by rw[show(U).toArray.size=8 by simp[Q]];exact R.size) ab ?_;refine oL hK ?_;refine oD ?_;clear c6;go_wp2;go_roundw;·exact⟨d+1,Zg,Y,Y,by rw[show d+1-a=d-a+1 from Y,ao];have:=C.out;simpa using this⟩
     ·simp[intOf] <;> omega
    ·have am:¬(k:Int)<(n:Int):=Y;obtain rfl:k=n:=Y;go_wp2_with fail;refine bodyPost_ret (results_none rfl _ _ _) rfl ?_;refine⟨rfl,?_⟩;have:=f.out;rw[al,show i-m=k-a from Zc HM.out];simpa using this
theorem ZjD (ho:We fun x y=>decide (cf x y<0))(R:WU prog 159 enc w0 blk off N)(hN:N≤1048576)(E:∀x,∀v∈enc x,v.oneCell'=true)(eg:∀a0 w,(callFunc g a0).run prog w=.ok (.enter g a0) w)(hC:CmpLays prog g #[] enc 8 cf blk off N w0){A L S:List α}{x:α}{a m b:Nat}(h:Zo enc w0 blk off N (A++(L++(x::S))) W)(ha:A.length=a)(hm:a+L.length=m)(hb:m+1=b)(ap:a+1<m)(hL:Xi (fun x y=>decide (cf x y<0)) L):
  Calls prog 293 #[.slice (some ⟨blk,off,none⟩) N cap,a,m,b,.func (.func g) #[] #[]] W fun e F=>e=.returned (.tuple #[])∧Zo enc w0 blk off N (A++(Y3 (fun x y=>decide (cf x y<0)) L [x]++S)) F:=by
 have aq:b≤N:=by have:=h.1;simp only[Zw,XQ]at this;omega
 have HA:=Z ha;have r:=Z hm;have G:=Z hb;have HH:=Z h;have HC:=Z hC;have HZ:=Z hL;have HO:=Z ho;obtain⟨H,af⟩:=Zb (m-a);have t0:(m:Int)-a=(H:Int):=Y;have ag:¬(H:Int)=1:=Y;have ar:((H:Int)==1)=false:=by simpa using ag
 have t1:(b:Int)-m=1:=Y;have px:=Zo.pre R h (A:=A++L) (S:=S) (x:=x) (i:=m) Ze Zx;have PX:=Z px;have pz:∀i,a≤i→i<m→(A++(L++(x::S)))[i]? =some (L[i-a]!):=fun i E h2=>by rw[Y7 Y,show i-A.length=i-a from Y,Yp Y,getElem!_pos L (i-a) Y,Z7]
 have PZ:=Z pz;clear h ha hm hb hC px pz hL ho af;go_enter func293,ntmps293;go_wp2;go_loopw [14,15] (fun vi vj wr=>∃(i j:Nat),vi=.int .i64 (i:Int)∧vj=.int .i64 (j:Int)∧a≤i∧i≤j∧j≤m∧Zo enc w0 blk off N (A++(L++(x::S))) wr∧Hid ((i=a∨0≤cf x (L[i-1-a]!))∧(j=m∨cf x (L[j-a]!)<0))) (fun i j _=>(intOf j).toNat-(intOf i).toNat)
 ·exact⟨a,m,rfl,rfl,Z4 _,Y,Z4 _,HH,⟨.inl rfl,.inl rfl⟩⟩
 ·obtain⟨i,j,rfl,rfl,ah,av,aw,l,t⟩:=hrel;have f:=Z l;clear l;by_cases ai:i<j
  ·have aj:(i:Int)<(j:Int):=Y;obtain⟨h,I⟩:=Zb ((i+j) / 2);have ax:((i:Int)+j) / 2=(h:Int):=Y;have c1:(h:Int)<(N:Int):=Y;have c2:(m:Int)<(N:Int):=Zc G.out;have J:=PZ h Y Y;obtain⟨z,M⟩:=Zb (L[h-a]!);rw[M]at J;have P1:=Z J;have B:=Z M;have ak:=Z I;clear J M I;go_wp2_with fail;refine oS [] (Zo enc w0 blk off N (A++(L++(x::S)))) [0,1,2,3,4,5,6,7,8,9,10,11] (f.drew) fun hS=>?_;(iterate 4 refine oV ?_);refine oC (y:=fun w hSw=>by apply Pure.val;refine(WL 159 (.tmp 95) rfl (by go_simp;first|done|rfl) (Zo.ld hSw R PX)).trans ?_;with_reducible rfl) (h:= ?_);(iterate 3 refine oV ?_);refine oC (y:=fun w hSw=>by apply Pure.val;refine(WL 159 (.tmp 99) rfl (by go_simp;first|done|rfl) (Zo.ld hSw R P1)).trans ?_;with_reducible rfl) (h:= ?_);refine oG fun K hK=>?_;go_simp
   first
    | (go_at_fn g)
    |skip
   refine((Zo.cmp0 hS HC x z)).mono ?_;rintro e wz ⟨rfl,a1⟩;go_wp2_with fail;refine oK hK a1 fun hS=>?_;clear a1;refine oV ?_;refine oV ?_;refine oD ?_;have a2:=Z hS;clear f hS;have I:=ak.out;by_cases a3:cf x z<0
   ·go_wp2_with fail;·rename_i n;simp[a3]at n
    go_roundw;·exact⟨i,h,rfl,rfl,ah,Y,Y,a2,⟨t.1,.inr (by rw[B];exact a3)⟩⟩
    ·simp[intOf] <;> omega
   ·go_wp2_with fail;rotate_left;·rename_i n;exfalso;revert n;simp only[Bool.not_eq_false',decide_eq_true_eq];omega
    go_roundw;·refine⟨h+1,j,Zg,rfl,Y,Y,Y,a2,⟨.inr ?_,t.2⟩⟩;rw[show h+1-1-a=h-a from Y,B];omega
    ·simp[intOf] <;> omega
  ·have aj:¬(i:Int)<(j:Int):=Y;obtain rfl:i=j:=Y;have a4:Y3 (fun x y=>decide (cf x y<0)) L [x]=L.take (i-a)++x::L.drop (i-a):=by
    refine ZhU HO HZ (Zc r.out) ?_ ?_
    ·rcases t.1 with h|h;·exact .inl Y
     ·exact .inr (by rw[show i-a-1=i-1-a from Y];simpa using h)
    ·rcases t.2 with h|h;·exact .inl (Zc r.out)
     ·exact .inr (by simpa using h)
   have al:=Z a4;clear a4;obtain⟨wl,a5⟩:=WI wr;rw[←a5]at f ⊢;clear a5;go_wp2;go_loopw [17] (fun vk wr=>∃(k:Nat),vk=.int .i64 (k:Int)∧i≤k∧k≤m∧Zo enc w0 blk off N (A++(L.take (k-a)++(x::(L.drop (k-a)++S)))) wr) (fun k _=>(intOf k).toNat)
   ·exact⟨m,rfl,Y,Z4 _,by rw[ZP (Zc r.out),Z11 (Zc r.out)];simpa using f.out⟩
   ·obtain⟨k,rfl,ay,az,l⟩:=hrel;clear f;have f:=Z l;clear l;by_cases ai:i<k
    ·obtain⟨d,rfl⟩:∃d,k=d+1:=⟨k-1,Y⟩;obtain⟨o,a6⟩:=Zb (d+1);obtain⟨z,a7,a8⟩:∃z,L.drop (d-a)=z::L.drop (d+1-a)∧L.take (d+1-a)=L.take (d-a)++ [z]:=by have:d-a<L.length:=Zc r.out;rw[show d+1-a=d-a+1 from Y];exact⟨L[d-a],Z0q this,ZR this⟩
     have l:=f.out;rw[a8]at l;clear f;have f:=Z l;have B:=Z a7;clear l a7 a8;have p:A++(L.take (d-a)++ [z]++(x::(L.drop (d+1-a)++S)))=(A++L.take (d-a))++z::([]++x::(L.drop (d+1-a)++S)):=Ze;have q:(A++L.take (d-a)).length=d:=(by have:=HA.out;have:=r.out;simp;omega);have s:d+1+([]:List α).length=o:=(by simpa using a6);have am:=Z p;have an:=Z q;have ao:=Z s;have ci:(o:Int)<(N:Int):=Zc G.out;have aB:(d:Int)<(N:Int):=Zc G.out;have c4:(d:Int)+1=(o:Int):=Y;have c5:(i:Int)<(o:Int):=Y;have c6:IntKind.i64.wrap ((o:Int)-1)=(d:Int):=(by rw[Xe];omega);clear p q s a6;go_wp2_with fail;have p:=am.out;have q:=an.out;have s:=ao.out;have n:=Zo.pre R f p q;have O:=Zo.pre R f (A:=(A++L.take (d-a))++z::([]:List α)) (S:=(L.drop (d+1-a)++S)) (x:=x) (i:=o) (by rw[p];simp) (by simp at q s ⊢;omega);have C:=f.sts R O n;have a9:=f.exch R p q s;have P:=f.drew.ld R n;have Q:=f.drew.ld R O;have D:=Z a9.2;have T:(enc z).length=8:=R.hk z;have U:(enc x).length=8:=R.hk x;have aa:(enc z).toArray.all (·.oneCell')=true:=(by simpa using E z);have ab:(enc x).toArray.all (·.oneCell')=true:=(by simpa using E x);clear n O p q s a9;obtain⟨V,ac⟩:∃c,c=enc z:=⟨_,rfl⟩;obtain⟨ey,ad⟩:∃c,c=enc x:=⟨_,rfl⟩;rw[←ac]at P T aa D C;rw[←ad]at Q U ab D;clear ac ad;obtain⟨wq,ae⟩:=WI wr;rw[←ae]at P Q C D ⊢;clear f ae;refine oS [15,17] (fun F=>F=wq.drew) [0,1,2,3,4,5,6,7,8,9,10,11,12,13,14,15,16,17] (rfl) fun hS=>?_;refine oV ?_;refine oV ?_;refine oF ?_;refine oF ?_;refine oF ?_;(iterate 4 refine oV ?_);refine oC (y:=fun w hSw=>by rw[hSw];apply Pure.val;refine(WL 159 (.tmp 121) rfl (by go_simp;first|done|rfl) P).trans ?_;with_reducible rfl) (h:= ?_);refine oF ?_;refine oF ?_;refine oF ?_;refine oC (y:=fun w hSw=>by rw[hSw];apply Pure.val;refine(WL 159 (.tmp 125) rfl (by go_simp;first|done|rfl) Q).trans ?_;with_reducible rfl) (h:= ?_);refine oV ?_;refine oM 15 fun K hK=>?_;refine wp_store_mid 159 (.tmp 127) (.tmp 122) rfl blk (off+o*8) (V).toArray (by go_simp;first|done|rfl) (by go_simp;first|done|rfl) (by rw[show(V).toArray.size=8 by simp[T]];exact C.1) (by rw[show(V).toArray.size=8 by simp[T]];exact R.size) aa ?_;refine oL hK ?_;refine oF ?_ (sP 15);refine oM 15 fun K hK=>?_;refine wp_store_mid 159 (.tmp 128) (.tmp 126) rfl blk (off+d*8) (ey).toArray (by go_simp;first|done|rfl) (by go_simp;first|done|rfl) (by rw[show(ey).toArray.size=8 by simp[U]];exact C.2) (by rw[show(ey).toArray.size=8 by simp[U]];exact R.size) ab ?_;refine oL hK ?_;refine oD ?_;clear c6;go_wp2;go_roundw;·exact⟨d,Zg,Y,Y,by rw[B];have:=D.out;simpa using this⟩
     ·simp[intOf] <;> omega
    ·have aC:¬(i:Int)<(k:Int):=Y;obtain rfl:k=i:=Y;go_wp2_with fail;refine bodyPost_ret (results_none rfl _ _ _) rfl ?_;refine⟨rfl,?_⟩;have:=f.out;rw[al];simpa using this
end
section
open Go.Sort Go.Lib
variable {α:Type} [Inhabited α] {enc:α→List Value} {w0 W:World} {blk off N cap:Nat} {l:List α} {g:Nat} {cf:α→α→Int}
theorem Z9n (ho:We fun x y=>decide (cf x y<0))(R:WU prog 159 enc w0 blk off N)(hN:N≤1048576)(F:∀x,∀v∈enc x,v.oneCell'=true)(eg:∀a7 w,(callFunc g a7).run prog w=.ok (.enter g a7) w)(hC:CmpLays prog g #[] enc 8 cf blk off N w0):∀(K:Nat) (A L U9 S:List α) (a m b:Nat) (W:U1),b-a≤K→Zo enc w0 blk off N (A++(L++(U9++S))) W→A.length=a→a+L.length=m→m+U9.length=b→a<m→m<b→Xi (fun x y=>decide (cf x y<0)) L→Xi (fun x y=>decide (cf x y<0)) U9→
  Calls prog 293 #[.slice (some ⟨blk,off,none⟩) N cap,a,m,b,.func (.func g) #[] #[]] W fun e w'=>e=.returned (.tuple #[])∧Zo enc w0 blk off N (A++(Y3 (fun x y=>decide (cf x y<0)) L U9++S)) w':=by
 intro K;induction K with
 |zero=>intro A L U9 S a m b W hK _ _ _ _ _ _;omega
 |succ K ih=>
  intro A L U9 S a m b W hK h ha hm hb az ak hL hZ;by_cases c1:a+1=m;·obtain⟨x,rfl⟩:∃x,L=[x]:=List.length_eq_one_iff.1 Y;exact Zjg ho R hN F eg hC h ha c1 hb ak hZ
  by_cases c2:m+1=b;·obtain⟨x,rfl⟩:∃x,U9=[x]:=List.length_eq_one_iff.1 Y;exact ZjD ho R hN F eg hC h ha hm c2 Y hL
  have aB:b≤N:=by have:=h.1;simp only[Zw]at this;omega
  obtain⟨f,a8⟩:=Zb ((a+b) / 2);obtain⟨l,U⟩:=Zb (f+m);obtain⟨la,al⟩:=Zb (m-a);obtain⟨lb,am⟩:=Zb (b-m);obtain⟨pp,a2⟩:=Zb (l-1);have t0:(m:Int)-a=(la:Int):=Y;have an:¬(la:Int)=1:=Y;have aC:((la:Int)==1)=false:=by simpa using an
  have t1:(b:Int)-m=(lb:Int):=Y;have ao:¬(lb:Int)=1:=Y;have aD:((lb:Int)==1)=false:=by simpa using ao
  have t2:((a:Int)+b) / 2=(f:Int):=Y;have t3:(f:Int)+m=(l:Int):=Y;have t4:(l:Int)-1=(pp:Int):=Y;have m1:a<f:=Y;have m2:f<b:=Y;have py:∀i,a≤i→i<m→(A++(L++(U9++S)))[i]? =some (L[i-a]!):=fun i F h2=>by rw[Y7 Y,show i-A.length=i-a from Y,Yp Y,getElem!_pos L (i-a) Y,Z7]
  have pz:∀i,m≤i→i<b→(A++(L++(U9++S)))[i]? =some (U9[i-m]!):=fun i F h2=>by rw[Y7 Y,Y7 Y,show i-A.length-L.length=i-m from Y,Yp Y,getElem!_pos U9 (i-m) Y,Z7]
  have C:=Z ha;have D:=Z hm;have E:=Z hb;have HH:=Z h;have HC:=Z hC;have HL:=Z hL;have HZ:=Z hZ;have HO:=Z ho;have PY:=Z py;have PZ:=Z pz;have t:=Z a8;have n:=Z U;have a9:=Z a2;have IH:=Z ih;clear h ha hm hb hC hL hZ ho py pz a8 U a2 al am ih c1 c2;go_enter func293,ntmps293;go_upto_if 140 with fail
  go_cut [20,21] (fun ap aq wx=>∃B H:Nat,ap=.int .i64 (B:Int)∧aq=.int .i64 (H:Int)∧Hid (a≤B∧B≤H∧H≤m∧H≤f∧l≤B+b∧(B=a∨B+b=l)∧(H=m∨H=f))∧W=wx)
  ·as_aux_lemma=>
   have a6:=t.out;have U:=n.out;by_cases hd:f<m;·have ar:(f:Int)<(m:Int):=Y;obtain⟨B,aa⟩:=Zb (l-b);have e0:(l:Int)-b=(B:Int):=Y;go_wp2;go_meet;exact⟨B,f,rfl,rfl,⟨Y,Y,Y,Y,Y,Y,Y⟩,rfl⟩
   ·have ar:¬(f:Int)<(m:Int):=Y;go_wp2;go_meet;exact⟨a,m,rfl,rfl,⟨Y,Y,Y,Y,Y,Y,Y⟩,rfl⟩
  case rest=>
  obtain⟨B,H,rfl,rfl,o,rfl⟩:=hcut;go_wp2;go_loopw [20,21] (fun vs vr wr=>∃(s r:Nat),vs=.int .i64 (s:Int)∧vr=.int .i64 (r:Int)∧B≤s∧s≤r∧r≤H∧Zo enc w0 blk off N (A++(L++(U9++S))) wr∧Hid ((s=B∨0≤cf (U9[l-s-m]!) (L[s-1-a]!))∧(r=H∨cf (U9[l-1-r-m]!) (L[r-a]!)<0))) (fun s r _=>(intOf r).toNat-(intOf s).toNat)
  ·exact⟨B,H,rfl,rfl,Z4 _,o.2.1,Z4 _,HH,⟨.inl rfl,.inl rfl⟩⟩
  ·obtain⟨s,r,rfl,rfl,aa,aE,aF,p,HF⟩:=hrel;have k:=Z p;clear p;by_cases av:s<r
   ·as_aux_lemma=>
    have aw:(s:Int)<(r:Int):=Y;have a1:=o.out;have U:=n.out;have a2:=a9.out;have a6:=t.out;obtain⟨c,hc⟩:=Zb ((s+r) / 2);obtain⟨q,hq⟩:=Zb (pp-c);have c0:((s:Int)+r) / 2=(c:Int):=Y;have c1:(c:Int)<(N:Int):=Y;have c2:(q:Int)<(N:Int):=Y;have c3:IntKind.i64.wrap ((pp:Int)-c)=(q:Int):=(by rw[Xe];omega);have p1:=PY c Y Y;have p2:=PZ q Y Y;obtain⟨y,hy⟩:=Zb (L[c-a]!);obtain⟨z,hz⟩:=Zb (U9[q-m]!);rw[hy]at p1;rw[hz]at p2;have P1:=Z p1;have P2:=Z p2;have ab:=Z hy;have ac:=Z hz;have ax:=Z hc;have HQ:=Z hq;clear p1 p2 hy hz a1 U a2 a6 hc hq;go_wp2_with fail;refine oS [] (Zo enc w0 blk off N (A++(L++(U9++S)))) [0,1,2,3,4,5,6,7,8,9,10,11,12,13] (k.drew) fun hS=>?_;(iterate 6 refine oV ?_);refine oC (y:=fun w hSw=>by apply Pure.val;refine(WL 159 (.tmp 163) rfl (by go_simp;first|done|rfl) (Zo.ld hSw R P2)).trans ?_;with_reducible rfl) (h:= ?_);(iterate 3 refine oV ?_);refine oC (y:=fun w hSw=>by apply Pure.val;refine(WL 159 (.tmp 167) rfl (by go_simp;first|done|rfl) (Zo.ld hSw R P1)).trans ?_;with_reducible rfl) (h:= ?_);refine oG fun K hK=>?_;go_simp
    first
     | (go_at_fn g)
     |skip
    refine((Zo.cmp0 hS HC z y)).mono ?_;rintro e wz ⟨rfl,ad⟩;go_wp2_with fail;refine oK hK ad fun hS=>?_;clear ad;refine oV ?_;refine oV ?_;refine oD ?_;have ae:=Z hS;clear k hS c3;have hc:=ax.out;have hq:=HQ.out;have a2:=a9.out;have a1:=o.out;have U:=n.out;by_cases af:cf z y<0
    ·go_wp2_with fail;·rename_i hx;simp[af]at hx
     go_roundw;·exact⟨s,c,rfl,rfl,aa,Y,Y,ae,⟨HF.1,.inr (by rw[ab,show l-1-c-m=q-m from Y,ac];exact af)⟩⟩
     ·simp[intOf] <;> omega
    ·go_wp2_with fail;rotate_left;·rename_i hx;exfalso;revert hx;simp only[Bool.not_eq_false',decide_eq_true_eq];omega
     go_roundw;·refine⟨c+1,r,Zg,rfl,Y,Y,Y,ae,⟨.inr ?_,HF.2⟩⟩;rw[show c+1-1-a=c-a from Y,ab,show l-(c+1)-m=q-m from Y,ac];omega
     ·simp[intOf] <;> omega
   ·have aw:¬(s:Int)<(r:Int):=Y;obtain rfl:s=r:=Y;obtain⟨j,ay⟩:=Zb (l-s);have a1:=o.out;have U:=n.out;have a6:=t.out;have e1:(l:Int)-s=(j:Int):=Y;have e2:m≤j∧j≤b∧s≤f∧s≤m∧a≤s∧j=f+m-s:=Y;have ag:Y3 (fun x y=>decide (cf x y<0)) L U9=Y3 (fun x y=>decide (cf x y<0)) (L.take (s-a)) (U9.take (f-s))++Y3 (fun x y=>decide (cf x y<0)) (L.drop (s-a)) (U9.drop (f-s)):=by
     have hm:=D.out;have hb:=E.out;refine Zax HO HL HZ Y Y ?_ ?_
     ·rcases HF.1 with h|h
      ·rcases a1.2.2.2.2.2.1 with h2|h2;·exact .inl Y
       ·exact .inr (.inl Y)
      ·refine .inr (.inr ?_);rw[show f-s=l-s-m from Y,show s-a-1=s-1-a from Y];simpa using h
     ·rcases HF.2 with h|h
      ·rcases a1.2.2.2.2.2.2 with h2|h2;·exact .inl Y
       ·exact .inr (.inl Y)
      ·refine .inr (.inr ?_);rw[show f-s-1=l-1-s-m from Y];simpa using h
    have ah:=Z ag;have G:=Z e2;have p:=k.out;have ai:A++(L++(U9++S))=A++(L.take (s-a)++(L.drop (s-a)++(U9.take (f-s)++(U9.drop (f-s)++S)))):=(by rw[←YH (U9.take (f-s)),Vh,←YH (L.take (s-a)),Vh]);rw[ai]at p;clear k;have k:=Z p;clear p ai ag ay e2 a1 U a6 av;obtain⟨wl,aj⟩:=WI wr;rw[←aj]at k ⊢;clear aj;go_upto_region 39 with fail;go_cut [185] (fun v wx=>v=.bool (decide (s<m∧m<j))∧wl=wx)
    ·as_aux_lemma=>
     by_cases V:s<m
     ·have a3:(s:Int)<(m:Int):=Y;by_cases d2:m<j;·have a4:(m:Int)<(j:Int):=Y;go_wp2;go_meet;exact⟨by simp[V,d2],rfl⟩
      ·have a4:¬(m:Int)<(j:Int):=Y;go_wp2;go_meet;exact⟨by simp[d2],rfl⟩
     ·have a3:¬(s:Int)<(m:Int):=Y;go_wp2;go_meet;exact⟨by simp[V],rfl⟩
    case rest=>
    obtain⟨rfl,rfl⟩:=hcut;go_upto_if 185 with fail
    go_cut [] (fun wx=>Zo enc w0 blk off N (A++(L.take (s-a)++(U9.take (f-s)++(L.drop (s-a)++(U9.drop (f-s)++S))))) wx)
    ·as_aux_lemma=>
     by_cases d:s<m∧m<j;·have d':decide (s<m∧m<j)=true:=decide_eq_true d;have hk:=ZdH (cap:=cap) R hN F (A:=A++L.take (s-a)) (X:=L.drop (s-a)) (U8:=U9.take (f-s)) (S:=U9.drop (f-s)++S) (a:=s) (m:=m) (b:=j) (.func (.func g) #[] #[]) (by have:=k.out;simpa using this) (by have I:=C.out;have J:=D.out;have M:=E.out;have O:=t.out;have P:=G.out;have Q:=n.out;have T:=o.out;simp;omega) (by have I:=C.out;have J:=D.out;have M:=E.out;have O:=t.out;have P:=G.out;have Q:=n.out;have T:=o.out;simp;omega) (by have I:=C.out;have J:=D.out;have M:=E.out;have O:=t.out;have P:=G.out;have Q:=n.out;have T:=o.out;simp;omega) d.1 d.2;have HK:=Z hk;clear hk;go_wp2_with fail;refine HK.mono ?_;rintro e w2 ⟨rfl,a0⟩;have a5:=Z a0;clear a0;go_wp2;go_meet;have:=a5.out;simpa using this
     ·have d':decide (s<m∧m<j)=false:=decide_eq_false d;go_wp2;go_meet;have p:=k.out;have e3:L.drop (s-a)++(U9.take (f-s)++(U9.drop (f-s)++S))=U9.take (f-s)++(L.drop (s-a)++(U9.drop (f-s)++S)):=by
       have I:=C.out;have J:=D.out;have M:=E.out;have O:=t.out;have P:=G.out;have Q:=n.out;have T:=o.out;rcases Yf s m with F|F;·have:U9.take (f-s)=[]:=(by rw[show f-s=0 from Y];rfl);rw[this];rfl
       ·have:L.drop (s-a)=[]:=Z11 Y;rw[this];rfl
      rw[e3]at p;exact p
    case rest=>
    clear k;have k:=Z hcut;clear hcut;generalize wc=wk at*;go_upto_region 41 with fail;go_cut [199] (fun v wx=>v=.bool (decide (a<s∧s<f))∧wk=wx)
    ·as_aux_lemma=>
     by_cases V:a<s
     ·have a3:(a:Int)<(s:Int):=Y;by_cases d2:s<f;·have a4:(s:Int)<(f:Int):=Y;go_wp2;go_meet;exact⟨by simp[V,d2],rfl⟩
      ·have a4:¬(s:Int)<(f:Int):=Y;go_wp2;go_meet;exact⟨by simp[d2],rfl⟩
     ·have a3:¬(a:Int)<(s:Int):=Y;go_wp2;go_meet;exact⟨by simp[V],rfl⟩
    case rest=>
    obtain⟨rfl,rfl⟩:=hcut;go_upto_if 199 with fail
    go_cut [] (fun wx=>Zo enc w0 blk off N (A++(Y3 (fun x y=>decide (cf x y<0)) (L.take (s-a)) (U9.take (f-s))++(L.drop (s-a)++(U9.drop (f-s)++S)))) wx)
    ·as_aux_lemma=>
     by_cases d:a<s∧s<f;·have d':decide (a<s∧s<f)=true:=decide_eq_true d;have hk:=IH A (L.take (s-a)) (U9.take (f-s)) (L.drop (s-a)++(U9.drop (f-s)++S)) a s f _ Y k C (by have I:=C.out;have J:=D.out;have M:=E.out;have O:=t.out;have P:=G.out;have Q:=n.out;have T:=o.out;simp;omega) (by have I:=C.out;have J:=D.out;have M:=E.out;have O:=t.out;have P:=G.out;have Q:=n.out;have T:=o.out;simp;omega) d.1 d.2 (HL.take _) (HZ.take _);have HK:=Z hk;clear hk;go_wp2_with fail;refine HK.mono ?_;rintro e w2 ⟨rfl,a0⟩;have a5:=Z a0;clear a0;go_wp2;go_meet;exact a5
     ·have d':decide (a<s∧s<f)=false:=decide_eq_false d;go_wp2;go_meet;have p:=k.out;have e3:L.take (s-a)++(U9.take (f-s)++(L.drop (s-a)++(U9.drop (f-s)++S)))=Y3 (fun x y=>decide (cf x y<0)) (L.take (s-a)) (U9.take (f-s))++(L.drop (s-a)++(U9.drop (f-s)++S)):=by
       have I:=C.out;have J:=D.out;have M:=E.out;have O:=t.out;have P:=G.out;have Q:=n.out;have T:=o.out;rcases Yf a s with F|F;·have:U9.take (f-s)=[]:=(by rw[show f-s=0 from Y];rfl);rw[this,Z5j];rfl
       ·have:L.take (s-a)=[]:=(by rw[show s-a=0 from Y];rfl);rw[this,Z5e (HZ.take _)];rfl
      rw[e3]at p;exact p
    case rest=>
    clear k;have k:=Z hcut;clear hcut;generalize wc=wj at*;go_upto_region 43 with fail;go_cut [213] (fun v wx=>v=.bool (decide (f<j∧j<b))∧wj=wx)
    ·as_aux_lemma=>
     by_cases V:f<j
     ·have a3:(f:Int)<(j:Int):=Y;by_cases d2:j<b;·have a4:(j:Int)<(b:Int):=Y;go_wp2;go_meet;exact⟨by simp[V,d2],rfl⟩
      ·have a4:¬(j:Int)<(b:Int):=Y;go_wp2;go_meet;exact⟨by simp[d2],rfl⟩
     ·have a3:¬(f:Int)<(j:Int):=Y;go_wp2;go_meet;exact⟨by simp[V],rfl⟩
    case rest=>
    obtain⟨rfl,rfl⟩:=hcut;by_cases d:f<j∧j<b;·have d':decide (f<j∧j<b)=true:=decide_eq_true d;have hk:=IH (A++Y3 (fun x y=>decide (cf x y<0)) (L.take (s-a)) (U9.take (f-s))) (L.drop (s-a)) (U9.drop (f-s)) S f j b _ Y (by have:=k.out;simpa using this) (by have I:=C.out;have J:=D.out;have M:=E.out;have O:=t.out;have P:=G.out;have Q:=n.out;have T:=o.out;simp[Z4G];omega) (by have I:=C.out;have J:=D.out;have M:=E.out;have O:=t.out;have P:=G.out;have Q:=n.out;have T:=o.out;simp;omega) (by have I:=C.out;have J:=D.out;have M:=E.out;have O:=t.out;have P:=G.out;have Q:=n.out;have T:=o.out;simp;omega) d.1 d.2 (HL.drop _) (HZ.drop _);have HK:=Z hk;clear hk;go_wp2_with fail;refine HK.mono ?_;rintro e w2 ⟨rfl,a0⟩;have a5:=Z a0;clear a0;go_wp2;go_end0;refine⟨rfl,?_⟩;have:=a5.out;rw[ah];simpa using this
    ·have d':decide (f<j∧j<b)=false:=decide_eq_false d;go_wp2;go_end0;refine⟨rfl,?_⟩;have p:=k.out;have e3:L.drop (s-a)++(U9.drop (f-s)++S)=Y3 (fun x y=>decide (cf x y<0)) (L.drop (s-a)) (U9.drop (f-s))++S:=by
      have I:=C.out;have J:=D.out;have M:=E.out;have O:=t.out;have P:=G.out;have Q:=n.out;have T:=o.out;rcases Yf f j with F|F;·have:U9.drop (f-s)=[]:=Z11 Y;rw[this,Z5j];rfl
      ·have:L.drop (s-a)=[]:=Z11 Y;rw[this,Z5e (HZ.drop _)];rfl
     rw[e3]at p;rw[ah];simpa using p
end
section
open Go.Sort Go.Lib
variable {α:Type} [Inhabited α] {enc:α→List Value} {w0 W:World} {blk off N cap:Nat} {l:List α} {g:Nat} {cf:α→α→Int}
theorem ZdG (V:We fun x y=>decide (cf x y<0))(R:WU prog 159 enc w0 blk off N)(F:N≤1048576)(G:∀x,∀v∈enc x,v.oneCell'=true)(H:∀a0 w,(callFunc g a0).run prog w=.ok (.enter g a0) w)(hC:CmpLays prog g #[] enc 8 cf blk off N w0)(h:Zo enc w0 blk off N l W):
  Calls prog 232 #[.slice (some ⟨blk,off,none⟩) N cap,N,.func (.func g) #[] #[]] W fun e w'=>e=.returned (.tuple #[])∧Zo enc w0 blk off N (Yc (fun x y=>decide (cf x y<0)) l) w':=by
 have p:=h.1;have HH:=Z h;have I:=Z hC;have r:=Z V;have z:=Z p;clear h hC V p;go_enter func232,ntmps232;go_wp2;go_loopw [7,8] (fun O P wr=>∃(a b:Nat) (X:List α),O=.int .i64 (a:Int)∧P=.int .i64 (b:Int)∧a+20=b∧a≤N∧Zo enc w0 blk off N (X++l.drop a) wr∧Hid (X.length=a∧X++WR (fun x y=>decide (cf x y<0)) 20 (l.drop a)=WR (fun x y=>decide (cf x y<0)) 20 l)) (fun a _ _=>N-(intOf a).toNat)
 ·exact⟨0,20, [],rfl,rfl,Y,Y,HH,⟨rfl,rfl⟩⟩
 ·obtain⟨a,b,X,rfl,rfl,j,a2,c,s⟩:=hrel;have d:=Z c;clear c;by_cases Q:b≤N
  ·as_aux_lemma=>
   have T:(b:Int)≤(N:Int):=Y;have e0:(b:Int)+20=((b+20:Nat):Int):=Y;obtain⟨k,f⟩:=s.out;have n:=Z9m (cap:=cap) r R F G H I (A:=X) (L:=(l.drop a).take 20) (S:=l.drop b) (a:=a) (b:=b) (W:=wr) (by have:=d.out;rwa [←j,←V4,Vh]) k (by have:=z.out;simp;omega);have t:=Z n;have U:=Z j;clear n k f j e0;go_wp2_with fail;refine t.mono ?_;rintro e i ⟨rfl,q⟩;have B:=Z q;clear q;go_wp2_with fail;have j:=U.out;have p:=z.out;go_roundw;·refine⟨b,b+20,X++Yc (fun x y=>decide (cf x y<0)) ((l.drop a).take 20),rfl,Zg,rfl,Q,by have:=B.out;simpa using this,?_⟩;obtain⟨k,f⟩:=s.out;refine⟨by simp[Z0T];omega,?_⟩;rw[←f,Z3a (w:=20) (l:=l.drop a) Y Zx,V4,j,YH]
   ·simp[intOf] <;> omega
  ·have T:¬(b:Int)≤(N:Int):=Y;have p:=z.out;obtain⟨k,f⟩:=s.out;have n:=Z9m (cap:=cap) r R F G H I (A:=X) (L:=l.drop a) (S:= []) (a:=a) (b:=N) (W:=wr) (by simpa using d.out) k Zx;rw[←Z38 (w:=20) (l:=l.drop a) Zx,←YH,f,Wo]at n;have t:=Z n;clear n k f j p;go_wp2_with fail;refine t.mono ?_;rintro e i ⟨rfl,q⟩;clear d s t;have d:=Z q;clear q;go_wp2;go_loopw [6] (fun vw wr=>∃w:Nat,vw=.int .i64 (w:Int)∧0<w∧w≤2*N+20∧Zo enc w0 blk off N (WR (fun x y=>decide (cf x y<0)) w l) wr) (fun w _=>N-(intOf w).toNat)
   ·exact⟨20,rfl,Y,Y,d⟩
   ·obtain⟨w,rfl,J,a5,c⟩:=hrel;clear d;have d:=Z c;clear c;by_cases a6:w<N
    ·have a3:(w:Int)<(N:Int):=Y;obtain⟨i,o⟩:=Zb (2*w);have e1:2*(w:Int)=(i:Int):=Y;have e2:(w:Int)*2=(i:Int):=Y;have D:=Z o;obtain⟨wl,a1⟩:=WI wr;rw[←a1]at d ⊢;clear a1 o;go_wp2;go_loopw [7,8] (fun O P wr=>∃(a b:Nat) (X:List α),O=.int .i64 (a:Int)∧P=.int .i64 (b:Int)∧a+i=b∧a≤N∧Zo enc w0 blk off N (X++WR (fun x y=>decide (cf x y<0)) w (l.drop a)) wr∧Hid (X.length=a∧X++WR (fun x y=>decide (cf x y<0)) i (l.drop a)=WR (fun x y=>decide (cf x y<0)) i l)) (fun a _ _=>N-(intOf a).toNat)
     ·exact⟨0,i, [],rfl,rfl,Y,Y,d,⟨rfl,rfl⟩⟩
     ·obtain⟨a,b,X,rfl,rfl,j,a2,c,s⟩:=hrel;clear d;have d:=Z c;clear c;by_cases Q:b≤N
      ·as_aux_lemma=>
       have T:(b:Int)≤(N:Int):=Y;have o:=D.out;have p:=z.out;obtain⟨m,M⟩:=Zb (a+w);have e3:(a:Int)+w=(m:Int):=Y;obtain⟨k,f⟩:=s.out;obtain⟨E,C⟩:=Ze3 r (w:=w) (l:=l.drop a) J Zx;have c:=d.out;rw[E]at c;rw[o]at C c;have n:=Z9n (cap:=cap) r R F G H I N X (Yc (fun x y=>decide (cf x y<0)) ((l.drop a).take w)) (Yc (fun x y=>decide (cf x y<0)) (((l.drop a).drop w).take w)) (WR (fun x y=>decide (cf x y<0)) w ((l.drop a).drop i)) a m b wr Y c k (by simp[Z0T];omega) (by simp[Z0T];omega) Y Y (Z3h r _) (Z3h r _);have t:=Z n;have HG:=Z C;have U:=Z j;clear n k f j E C c o p M;go_wp2_with fail;refine t.mono ?_;rintro e wz ⟨rfl,q⟩;have B:=Z q;clear q;go_wp2_with fail;have j:=U.out;have p:=z.out;have o:=D.out;go_roundw
       ·obtain⟨k,f⟩:=s.out;refine⟨b,b+i,X++Y3 (fun x y=>decide (cf x y<0)) (Yc (fun x y=>decide (cf x y<0)) ((l.drop a).take w)) (Yc (fun x y=>decide (cf x y<0)) (((l.drop a).drop w).take w)),rfl,Zg,rfl,Q,?_,?_⟩;·have:=B.out;rw[show(l.drop a).drop i=l.drop b by rw[V4,j]]at this;rw[YH];exact this
        ·refine⟨by simp[Z0T,Z4G];omega,?_⟩;rw[←f,HG,show(l.drop a).drop i=l.drop b by rw[V4,j],YH]
       ·simp[intOf] <;> omega
      ·have T:¬(b:Int)≤(N:Int):=Y;have o:=D.out;have p:=z.out;obtain⟨m,M⟩:=Zb (a+w);have e3:(a:Int)+w=(m:Int):=Y;obtain⟨k,f⟩:=s;by_cases a7:m<N
       ·as_aux_lemma=>
        have a4:(m:Int)<(N:Int):=Y;obtain⟨E,C⟩:=ZcQ r (w:=w) (l:=l.drop a) J Zx Zx;have c:=d.out;rw[E]at c;rw[o]at C;have n:=Z9n (cap:=cap) r R F G H I N X (Yc (fun x y=>decide (cf x y<0)) ((l.drop a).take w)) (Yc (fun x y=>decide (cf x y<0)) ((l.drop a).drop w)) [] a m N wr Y (by simpa using c) k (by simp[Z0T];omega) (by simp[Z0T];omega) Y Y (Z3h r _) (Z3h r _);rw[Wo,←C,f]at n;have t:=Z n;clear n k f j E C c o p M;go_wp2_with fail;refine t.mono ?_;rintro e wz ⟨rfl,q⟩;have B:=Z q;clear q;go_wp2_with fail;have o:=D.out;go_roundw;·exact⟨i,rfl,Y,Y,B⟩
        ·simp[intOf] <;> omega
       ·as_aux_lemma=>
        have a4:¬(m:Int)<(N:Int):=Y;have c:=d.out;rw[Z8U J Zx,←Z38 (w:=i) (l:=l.drop a) Zx,f]at c;have B:=Z c;clear k f j c p M o;go_wp2_with fail;have o:=D.out;go_roundw;·exact⟨i,rfl,Y,Y,B⟩
        ·simp[intOf] <;> omega
    ·have a3:¬(w:Int)<(N:Int):=Y;go_wp2;go_end0;refine⟨rfl,?_⟩;have:=d.out;rwa [Z8U J (Zc z.out)]at this
theorem ZbR (b:We fun x y=>decide (cf x y<0))(R:WU prog 159 enc w0 blk off N)(c:N≤1048576)(d:∀x,∀v∈enc x,v.oneCell'=true)(f:∀a w,(callFunc g a).run prog w=.ok (.enter g a) w)(i:CmpLays prog g #[] enc 8 cf blk off N w0)(h:Zo enc w0 blk off N l W):
  Calls prog 161 #[.slice (some ⟨blk,off,none⟩) N cap,.func (.func g) #[] #[]] W fun e j=>e=.returned (.tuple #[])∧Zo enc w0 blk off N (Yc (fun x y=>decide (cf x y<0)) l) j:=by
 have k:=ZdG (cap:=cap) b R c d f i h;go_enter func161,ntmps161;go_wp2_with fail;refine k.mono ?_;rintro e n ⟨rfl,m⟩;go_wp2;go_end0;exact⟨rfl,m⟩
end
section
open Go.Sort Go.Lib
variable {P:Program} {α:Type} [Inhabited α] {enc:α→List Value} {w0 W:World} {blk off N:Nat} {l:List α}
theorem Z5_ (b:∀x,(enc x).length=8)(l:List α):(flatK enc 8 l.toArray).toList=l.flatMap enc:=by
 have c:∀l:List α,(l.flatMap enc).length=l.length*8:=fun l=>by
  induction l with
  |nil=>rfl
  |cons x l ih=>rw[Vb,Zw,b,ih,XQ,Nat.add_mul];omega
 have d:∀(l:List α) (t:Nat),t<l.length*8→(l.flatMap enc)[t]? =some ((enc l[t / 8]!)[t % 8]!):=by
  intro l;induction l with
  |nil=>intro t a;simp at a
  |cons x l ih=>
   intro t a;rw[Vb];by_cases h:t<8;·rw[Yp (by rw[b];exact h),show t / 8=0 from Y,show t % 8=t from Y];simp only[List.getElem!_cons_zero];rw[getElem!_pos (enc x) t (by rw[b];exact h),Z7]
   ·rw[Y7 (by rw[b];omega),b,ih (t-8) (by simp at a;omega),show t / 8=(t-8) / 8+1 from Y,show t % 8=(t-8) % 8 from Y];rw[List.getElem!_cons_succ]
 apply VP;intro t;by_cases a:t<l.length*8;·rw[d l t a,Z0u];simp[flatK,a]
 ·rw[XX Zx,XX (by rw[c];omega)]
theorem Z5P (a:∀x,(enc x).length=8)(l:List α):(l.flatMap enc).length=l.length*8:=by rw[←Z5_ a];simp
theorem Zo.heap (h:Zo enc w0 blk 0 N l W)(o:∀x,(enc x).length=8){a:Array U2}{T:TypeId}{d:Nat×Nat}(f:w0.heap[blk]? =some (.cells a T d))(w:N*8≤a.size):
  (∃b:Array U2,W.heap[blk]? =some (.cells b T d)∧b.size=a.size∧b.toList.take (N*8)=l.flatMap enc)∧w0.grownBy W (some blk):=by
 obtain⟨p,c,g,n,y,rfl⟩:=h;have q:blk<w0:=(Z5F.1 f).1;have r:c=l.toArray:=by rw[←g]
 unfold sortWorldK putRowK;constructor
 ·refine⟨putCells id 0 (flatK enc 8 c) a,?_,by simp[putCells],?_⟩;·rw[heap_grow_old _ _ (by simpa[putRow,mapBlock]using q)];simp[putRow,mapBlock,Sort.ahead,Z2g,f,onCells]
  ·rw[←Z5_ o,←r];have i:(flatK enc 8 c).size=N*8:=(by rw[size_flatK,←Z1U,g,p]);apply VP;intro j;by_cases m:j<N*8;·rw[VW m,Z0u];have s:j<a.size:=Y;simp[putCells,s,i,m]
   ·rw[List.getElem?_take_eq_none Y,XX (by rw[Z1U,i];omega)]
 ·refine⟨rfl,rfl,rfl,by simp[putRow,mapBlock],fun k t v=>?_⟩;rw[heap_grow_old _ _ (by simpa[putRow,mapBlock]using t)];have:blk≠k:=fun e=>v (by rw[e]);simp[putRow,mapBlock,Sort.ahead,Z2g,this]
theorem Zo.start (m:∀x,(enc x).length=8)(r:∀x,∀v∈enc x,v.oneCell'=true){T:TypeId}{o c n:Nat}{p:U3}(h:w0.ownsRow o T 8 (.slice (some p) n c) n (l.flatMap enc))(f:l.length=n)(s:∃d,P.underlying T=some d∧d.isRow=true)(t:(P.info? T).map (·.size)=some 8):
  ∃g a,p=⟨g,0,none⟩∧o≤g∧w0.heap[g]? =some (.cells a T (0,0))∧n≤c∧c≤maxLen∧a.size=c*8∧Zo enc w0 g 0 n l w0∧WU P T enc w0 g 0 n:=by
 rcases h.2 with ⟨i,_⟩|⟨g,F,a,i,w,b,y,z,A,B⟩;·cases i
 injection i with k G C;injection k with k;subst k C;have q:HoldsK enc 8 w0 g 0 l.toArray:=by
  intro j e;have D:j<n*8:=by rw[size_flatK]at e;simpa[f]using e
  refine⟨?_,by simp[World.frozen?,b]⟩;rw[Wz,cell_of_row w0 g j a T (0,0) b];have E:a.toList[j]? =(l.flatMap enc)[j]? :=by rw[←B,VW D]
  rw[←Z0u,E,←Z5_ m,Z0u];rw[Array.getElem?_eq_getElem e,getElem!_pos _ j e];rfl
 exact⟨g,a,rfl,w,b,y,z,A,⟨f,l.toArray,rfl,SWK.start q⟩,⟨⟨l.toArray,by simpa using f,⟨m,r,q,(Z5F.1 b).1⟩⟩,s,t⟩⟩
theorem Zo.back (h:Zo enc w0 blk 0 N l W)(a:∀x,(enc x).length=8){d:Array U2}{T:TypeId}{f c n:Nat}(i:w0.heap[blk]? =some (.cells d T (0,0)))(j:f≤blk)(g:d.size=c*8)(k:n≤N)(m:N≤c)(o:c≤maxLen):
  W.ownsRow f T 8 (blk,n,c) n ((l.take n).flatMap enc)∧w0.grownBy W (some blk):=by
 obtain⟨⟨b,p,q,r⟩,s⟩:=h.heap a i (by rw[g];exact Z08 _ m);have t:=h.1;refine⟨⟨by rw[Z5P a,ZK];congr 1;omega,.inr ⟨blk,c,b,rfl,j,p,Y,o,by rw[q,g],?_⟩⟩,s⟩;have:b.toList.take (n*8)=(b.toList.take (N*8)).take (n*8):=by rw[Z3D];congr 1;have:=Z08 8 k;omega
 rw[this,r];have e:l.flatMap enc=(l.take n).flatMap enc++(l.drop n).flatMap enc:=by rw[←Vr,Vh]
 rw[e,Z1t (by rw[Z5P a,ZK];have:=Z08 8 (show n≤min n l.length from Y);omega),ZP (by rw[Z5P a,ZK];have:=Z08 8 (show min n l.length≤n from Y);omega)]
end
