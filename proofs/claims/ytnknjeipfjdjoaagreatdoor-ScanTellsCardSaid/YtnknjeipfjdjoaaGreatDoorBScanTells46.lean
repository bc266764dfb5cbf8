/- RefParse -/
import Derived.Deep.DeepCutAuto
import Derived.Deep.CutBlock
import Derived.Test.YtnknjeipfjdjoaaGreatDoorBScanTells36
import Derived.Test.YtnknjeipfjdjoaaGreatDoorBScanTells41
import Derived.Test.YtnknjeipfjdjoaaGreatDoorBScanTells45
set_option maxHeartbeats 8000000
set_option maxRecDepth 20000
set_option linter.unusedSimpArgs false
set_option linter.unusedVariables false
namespace Wells
open Go Go.RowKit
theorem Zzbb {P:Par} {n:Nat} {st:RSt} (h:st.2=true):rfEnts P n st=([],st):=by
 cases n with
 | zero=>rfl
 | succ n=>unfold rfEnts;rw [if_pos h]
theorem Zzdt {P:Par} {n:Nat} {st:RSt} (h:st.2=false):rfEnts P (n+1) st=((rfEnt P st).1::(rfEnts P n (rfEnt P st).2).1,(rfEnts P n (rfEnt P st).2).2):=by
 conv=>lhs;unfold rfEnts
 rw [if_neg (by rw [h];simp)]
theorem Zzgu (P:Par) (st:RSt):(0≤(rfEnt P st).1.obj∧(rfEnt P st).1.obj < 16777216)∧(0≤(rfEnt P st).1.len∧(rfEnt P st).1.len < 65536)∧(∀ z∈(rfEnt P st).1.tries,0≤z∧z < 256)∧(rfEnt P st).1.name.length≤255:=by
 unfold rfEnt;dsimp only;refine ⟨by simpa using Zz0d 3 _,by simpa using Zz0d 2 _,fun z hz=>Zz1z _ _ z hz,?_⟩;have h2:=Zz0d 1 st;simp at h2
 rw [Zz6z];omega
theorem Zz9e (P:Par):∀ (n:Nat) (st:RSt),∀ e∈(rfEnts P n st).1,(0≤e.obj∧e.obj < 16777216)∧(0≤e.len∧e.len < 65536)∧(∀ z∈e.tries,0≤z∧z < 256)∧e.name.length≤255
 | 0,_,z,hz=>by simp [rfEnts] at hz
 | n+1,st,z,hz=>by
  unfold rfEnts at hz;split at hz
  ·simp at hz
  ·rcases List.mem_cons.1 hz with rfl | hz
   ·exact Zzgu P st
   ·exact Zz9e P n _ z hz
theorem Zza5 (st:RSt):∃ (s0 s1 s2 s3 s4 s5 s6 s7:RSt) (n1 n2:Nat) (P:Par),(rfMani st).1=⟨(rdNum 4 s0).1,(rdNum 4 s1).1,⟨(rdNum 1 s2).1,(rdNum 1 s3).1,(rdNum 1 s4).1⟩,(rdNum 1 s5).1,(rdTries n1 s6).1,(rfEnts P n2 s7).1⟩:=
 ⟨_,_,_,_,_,_,_,_,_,_,_,rfl⟩
theorem Zzdr (st:RSt):M64 (rfMani st).1∧∀ e∈(rfMani st).1.objs,e.name.length≤1048576:=by
 have b1:∀ k,k≤4→∀ s,i64 (rdNum k s).1:=fun k hk s=>by
  have h:=Zz0d k s;have:(256:Int) ^ k≤4294967296:=by
   rcases (show k=0∨k=1∨k=2∨k=3∨k=4 by omega) with rfl | rfl | rfl | rfl | rfl <;> decide+kernel
  unfold i64;omega
 have b4:=b1 4 (by omega);have b0:=b1 1 (by omega);have ht:∀ n s,∀ z∈(rdTries n s).1,i64 z:=fun n s z hz=>by
  have:=Zz1z n s z hz
  unfold i64;omega
 have he:∀ P n s,∀ e∈(rfEnts P n s).1,(i64 e.obj∧i64 e.len∧∀ z∈e.tries,i64 z)∧e.name.length≤1048576:=fun P n s e he=>by
  have:=Zz9e P n s e he
  refine ⟨⟨by unfold i64;omega,by unfold i64;omega,fun z hz=> ?_⟩,by omega⟩;have:=this.2.2.1 z hz
  unfold i64;omega
 obtain ⟨s0,s1,s2,s3,s4,s5,s6,s7,n1,n2,P,e⟩:=Zza5 st;rw [e];exact ⟨⟨b4 _,b4 _,b0 _,b0 _,b0 _,b0 _,ht _ _,fun e h=>(he _ _ _ e h).1⟩,fun e h=>(he _ _ _ e h).2⟩
end Wells
namespace Go.Proofs.YtnknjeipfjdjoaaGreatDoor
open Go.RowKit Wells
theorem Zz78 (B:Nat) (A:Option Addr) (n c:Nat) (l:List Byte) (w:World) (h:Sl w B 1 A n (l.map bv8)) (hB:B≤w.heap.size) (hn:n≤1048576) (hnc:n≤c) (hc:c≤9223372036854775807) (r:Option Mani) (hr:parseL l=r):
  Calls Tryz.prog 64 #[.slice A n c] w (ParseR w r):=by
 obtain ⟨i0,hi,hz0,hz1,hz2⟩:=info_parts infoI2;obtain ⟨i1,hi',hz0',hz1',hz2'⟩:=info_parts infoE;have hl:l.length=n:=by have:=h.len;simpa using this
 obtain ⟨⟨sq,st1⟩,h1⟩:∃ q,rdNum 4 (l,false)=q:=⟨_,rfl⟩;obtain ⟨⟨nx,st2⟩,h2⟩:∃ q,rdNum 4 st1=q:=⟨_,rfl⟩;obtain ⟨⟨pk,st3⟩,h3⟩:∃ q,rdNum 1 st2=q:=⟨_,rfl⟩;obtain ⟨⟨ph,st4⟩,h4⟩:∃ q,rdNum 1 st3=q:=⟨_,rfl⟩;obtain ⟨⟨ps,st5⟩,h5⟩:∃ q,rdNum 1 st4=q:=⟨_,rfl⟩;obtain ⟨⟨ex,st6⟩,h6⟩:∃ q,rdNum 1 st5=q:=⟨_,rfl⟩;obtain ⟨⟨zd,st7⟩,h7⟩:∃ q,rdNum 1 st6=q:=⟨_,rfl⟩;have b7:=Zz0d 1 st6;rw [h7] at b7;obtain ⟨md,hmd⟩:∃ k:Nat,(k:Int)=zd:=⟨zd.toNat,by have:=b7.1;simp at this;omega⟩;subst hmd;have hmd2:md < 256:=by have:=b7.2;simp at this;omega
 obtain ⟨⟨drs,st8⟩,h8⟩:∃ q,rdTries md st7=q:=⟨_,rfl⟩;obtain ⟨⟨zo,st9⟩,h9⟩:∃ q,rdNum 1 st8=q:=⟨_,rfl⟩;have b9:=Zz0d 1 st8;rw [h9] at b9;obtain ⟨mo,hmo⟩:∃ k:Nat,(k:Int)=zo:=⟨zo.toNat,by have:=b9.1;simp at this;omega⟩;subst hmo;have hmo2:mo < 256:=by have:=b9.2;simp at this;omega
 obtain ⟨⟨obs,st10⟩,h10⟩:∃ q,rfEnts ⟨pk,ph,ps⟩ mo st9=q:=⟨_,rfl⟩;have hm:rfMani (l,false)=(⟨sq,nx,⟨pk,ph,ps⟩,ex,drs,obs⟩,st10):=by
  unfold rfMani;simp only [h1,h2,h3,h4,h5,h6,h7,h8,h9,h10,Int.toNat_natCast]
 have hr2:r=if st10.2=false∧(⟨sq,nx,⟨pk,ph,ps⟩,ex,drs,obs⟩:Mani).may=true∧pack ⟨sq,nx,⟨pk,ph,ps⟩,ex,drs,obs⟩=l then some ⟨sq,nx,⟨pk,ph,ps⟩,ex,drs,obs⟩ else none:=by
  rw [← hr,← rf_is,hm]
 have hm64:=Zzdr (l,false);rw [hm] at hm64;have HR:=hid hr2;have HM64:=hid hm64;have H1:=hid h1;have H2:=hid h2;have H3:=hid h3;have H4:=hid h4;have H5:=hid h5;have H6:=hid h6;have H7:=hid h7;have H8:=hid h8;have H9:=hid h9;have H10:=hid h10;have HL:=hid hl;have HSL:=hid h;have hq:=Row.new w 28 #[.int .i64 0,.int .i64 0,.int .i64 0,.int .i64 0,.int .i64 0,.int .i64 0,.slice none 0 0,.slice none 0 0];have hb1:Below w.heap.size w (w.alloc (.cells #[.int .i64 0,.int .i64 0,.int .i64 0,.int .i64 0,.int .i64 0,.int .i64 0,.slice none 0 0,.slice none 0 0] 28)):=(Below.refl _ _).alloc (ZnR _) _
 have hrr:=Row.new (w.alloc (.cells #[.int .i64 0,.int .i64 0,.int .i64 0,.int .i64 0,.int .i64 0,.int .i64 0,.slice none 0 0,.slice none 0 0] 28)) 139 #[.slice A n c,.bool false];have hb2:=hb1.alloc hb1.size (.cells #[.slice A n c,.bool false] 139);have hx:=Row.new ((w.alloc (.cells #[.int .i64 0,.int .i64 0,.int .i64 0,.int .i64 0,.int .i64 0,.int .i64 0,.slice none 0 0,.slice none 0 0] 28)).alloc (.cells #[.slice A n c,.bool false] 139)) 28 #[.int .i64 0,.int .i64 0,.int .i64 0,.int .i64 0,.int .i64 0,.int .i64 0,.slice none 0 0,.slice none 0 0]
 have hb3:=hb2.alloc hb2.size (.cells #[.int .i64 0,.int .i64 0,.int .i64 0,.int .i64 0,.int .i64 0,.int .i64 0,.slice none 0 0,.slice none 0 0] 28);have hq3:=(hq.alloc (.cells #[.slice A n c,.bool false] 139)).alloc (.cells #[.int .i64 0,.int .i64 0,.int .i64 0,.int .i64 0,.int .i64 0,.int .i64 0,.slice none 0 0,.slice none 0 0] 28);have hr3:=hrr.alloc (.cells #[.int .i64 0,.int .i64 0,.int .i64 0,.int .i64 0,.int .i64 0,.int .i64 0,.slice none 0 0,.slice none 0 0] 28);have hgs:(w.alloc (.cells #[.int .i64 0,.int .i64 0,.int .i64 0,.int .i64 0,.int .i64 0,.int .i64 0,.slice none 0 0,.slice none 0 0] 28)).heap.size=w.heap.size+1:=by simp
 have hgs2:((w.alloc (.cells #[.int .i64 0,.int .i64 0,.int .i64 0,.int .i64 0,.int .i64 0,.int .i64 0,.slice none 0 0,.slice none 0 0] 28)).alloc (.cells #[.slice A n c,.bool false] 139)).heap.size=w.heap.size+1+1:=by simp
 rw [hgs] at hr3;rw [hgs2] at hx;clear h1 h2 h3 h4 h5 h6 h7 h8 h9 h10 hm hr hr2 hm64 b7 b9 hl hq hrr hb1 hb2 hgs hgs2;go_enter Tryz.func64,Tryz.ntmps64;go_wp2_with fail;generalize ((w.alloc (.cells #[.int .i64 0,.int .i64 0,.int .i64 0,.int .i64 0,.int .i64 0,.int .i64 0,.slice none 0 0,.slice none 0 0] 28)).alloc (.cells #[.slice A n c,.bool false] 139)).alloc (.cells #[.int .i64 0,.int .i64 0,.int .i64 0,.int .i64 0,.int .i64 0,.int .i64 0,.slice none 0 0,.slice none 0 0] 28)=w3 at*;obtain ⟨gr,hgr⟩:∃ g,w.heap.size+1=g:=⟨_,rfl⟩;obtain ⟨gm,hgm⟩:∃ g,w.heap.size+1+1=g:=⟨_,rfl⟩;rw [hgr] at hr3;rw [hgm] at hx;rw [hgm,hgr]
 have hs0:SR w w3 B w.heap.size gm gr 0 0 ⟨0,0,0⟩ 0 none 0 0 [] none 0 0 [] [] (l,false):=⟨⟨hq3,hx,World.ownsRow_nil _ _ _ _,OEs.nil_ _ _,rfl,hb3⟩,⟨A,n,c,hr3,h.below (hb3.mono hB),HL.out,hnc,hc,by omega⟩,hB,by omega,by omega,ZnR _,by omega⟩;have HS:=hid hs0;clear hq3 hx hb3 hr3 hs0 hgr hgm h;refine (Zz0x B gr (l,false) 4 _ HS.out.r (by omega) sq st1 H1.out).mono ?_;rintro e wn ⟨rfl,hrn,hgn⟩;have hsn:=HS.out.num hrn hgn;have fn:=hsn.s.x.frozen 0;have kn:=hsn.s.x.cell 0;simp only [ZgS,ZgZ] at kn;have HS:=hid (hsn.setI (sq':=sq) (nx':=0) (P':=⟨0,0,0⟩) (ex':=0) 0 (.int .i64 sq) rfl);clear hsn hrn hgn;go_wp2_with fail;clear fn kn
 refine (Zz0x B gr st1 4 _ HS.out.r (by omega) nx st2 H2.out).mono ?_;rintro e wn ⟨rfl,hrn,hgn⟩;have hsn:=HS.out.num hrn hgn;have fn:=hsn.s.x.frozen 1;have kn:=hsn.s.x.cell 1;simp only [ZgS,ZgZ] at kn;have HS:=hid (hsn.setI (sq':=sq) (nx':=nx) (P':=⟨0,0,0⟩) (ex':=0) 1 (.int .i64 nx) rfl);clear hsn hrn hgn;go_wp2_with fail;clear fn kn;refine (Zz0x B gr st2 1 _ HS.out.r (by omega) pk st3 H3.out).mono ?_;rintro e wn ⟨rfl,hrn,hgn⟩;have hsn:=HS.out.num hrn hgn;have fn:=hsn.s.x.frozen 2;have kn:=hsn.s.x.cell 2;simp only [ZgS,ZgZ] at kn;have HS:=hid (hsn.setI (sq':=sq) (nx':=nx) (P':=⟨pk,0,0⟩) (ex':=0) 2 (.int .i64 pk) rfl);clear hsn hrn hgn;go_wp2_with fail;clear fn kn
 refine (Zz0x B gr st3 1 _ HS.out.r (by omega) ph st4 H4.out).mono ?_;rintro e wn ⟨rfl,hrn,hgn⟩;have hsn:=HS.out.num hrn hgn;have fn:=hsn.s.x.frozen 3;have kn:=hsn.s.x.cell 3;simp only [ZgS,ZgZ] at kn;have HS:=hid (hsn.setI (sq':=sq) (nx':=nx) (P':=⟨pk,ph,0⟩) (ex':=0) 3 (.int .i64 ph) rfl);clear hsn hrn hgn;go_wp2_with fail;clear fn kn;refine (Zz0x B gr st4 1 _ HS.out.r (by omega) ps st5 H5.out).mono ?_;rintro e wn ⟨rfl,hrn,hgn⟩;have hsn:=HS.out.num hrn hgn;have fn:=hsn.s.x.frozen 4;have kn:=hsn.s.x.cell 4;simp only [ZgS,ZgZ] at kn;have HS:=hid (hsn.setI (sq':=sq) (nx':=nx) (P':=⟨pk,ph,ps⟩) (ex':=0) 4 (.int .i64 ps) rfl);clear hsn hrn hgn;go_wp2_with fail;clear fn kn
 refine (Zz0x B gr st5 1 _ HS.out.r (by omega) ex st6 H6.out).mono ?_;rintro e wn ⟨rfl,hrn,hgn⟩;have hsn:=HS.out.num hrn hgn;have fn:=hsn.s.x.frozen 5;have kn:=hsn.s.x.cell 5;simp only [ZgS,ZgZ] at kn;have HS:=hid (hsn.setI (sq':=sq) (nx':=nx) (P':=⟨pk,ph,ps⟩) (ex':=ex) 5 (.int .i64 ex) rfl);clear hsn hrn hgn;go_wp2_with fail;clear fn kn;refine (Zz0x B gr st6 1 _ HS.out.r (by omega) (md:Int) st7 H7.out).mono ?_;rintro e w7 ⟨rfl,hr7,hg7⟩;have HS:=hid (HS.out.num hr7 hg7);clear hr7 hg7;go_wp2_with fail
 go_loopw [6] (fun v wx=>∃ (q nd:Nat) (Ad:Option Addr) (cd:Nat) (ds:List Int) (sk:RSt),v= .int .i64 (q:Int)∧nd+q≤255∧Hid (ds++(rdTries q sk).1=drs∧(rdTries q sk).2=st8)∧SR w wx B w.heap.size gm gr sq nx ⟨pk,ph,ps⟩ ex Ad nd cd ds none 0 0 [] [] sk) (fun v _=>(intOf v).toNat)
 case atStart=>exact ⟨md,0,none,0, [],st7,rfl,by omega,hid (by rw [H8.out];exact ⟨rfl,rfl⟩),HS.out⟩
 case round=>
  obtain ⟨q,nd,Ad,cd,ds,sk,rfl,hnd,HT,hsr⟩:=hrel;clear HS;have HSR:=hid hsr;obtain ⟨bad,hbad⟩:∃ b,sk.2=b:=⟨_,rfl⟩;have hbc:=hsr.r.bad_;rw [hbad] at hbc;have HBAD:=hid hbad;clear hsr hbad;by_cases hgo:0 < q∧bad=false
  ·obtain ⟨hq0,hbf⟩:=hgo
   subst hbf;obtain ⟨p,rfl⟩:∃ p,q=p+1:=⟨q - 1,by omega⟩;obtain ⟨⟨zv,sk2⟩,hz⟩:∃ q,rdNum 1 sk=q:=⟨_,rfl⟩;have hT2:(ds++ [zv])++(rdTries p sk2).1=drs∧(rdTries p sk2).2=st8:=by
    have hT:=HT.out;rw [Zz3y HBAD.out,hz] at hT;exact ⟨by rw [← hT.1,List.append_assoc];rfl,hT.2⟩
   have HT2:=hid hT2;have HZ:=hid hz;clear hT2 hz HT;go_wp2_with fail;refine Org.begin [7] (fun w'=>Row w' gm 28 [.int .i64 sq,.int .i64 nx,.int .i64 pk,.int .i64 ph,.int .i64 ps,.int .i64 ex,.slice Ad nd cd,.slice none 0 0]) [0,1,2,3,4,5,6,7] (by kernel_rfl) (HSR.out.drew_.s.x) (fun hS=> ?_);(refine Org.yV (SM.of hS) ?_;try simp only [aS,aN,aA,a0,a1]);(refine Org.yA (v:= ?_) (SM.of hS) ?_ ?_;rotate_left;(focus (intro w hSw;(try dsimp only at hSw);have c6:=hSw.cell 6;simp only [ZgS,ZgZ] at c6;refine Pure.val ?_;go_simp;(try with_reducible rfl);done));try simp only [aS,aN,aA,a0,a1]);(refine Org.yV (SM.of hS) ?_;try simp only [aS,aN,aA,a0,a1]);refine Org.gA fun K hK=> ?_
   go_simp;go_at_call 106;refine (Zz0x B gr sk 1 _ HSR.out.drew_.r (by omega) zv sk2 HZ.out).mono ?_;rintro e w3 ⟨rfl,hr3,hg3⟩;have HS3:=hid (HSR.out.drew_.num hr3 hg3);go_wp2_with fail;refine hK.out _ _ HS3.out.s.x (fun hS2=> ?_);clear hr3 hg3;clear hK K hS;have hS:=hS2;clear hS2;try simp only [aS,aN,aA,a0,a1]
   refine Org.gA fun K hK=> ?_
   go_simp;refine hK.out _ _ (HS3.out.alloc (.cells #[.int .i64 zv] 3)).s.x (fun hS2=> ?_);clear hK K hS;have hS:=hS2;clear hS2;try simp only [aS,aN,aA,a0,a1]
   refine Org.gA fun K hK=> ?_
   have hs4:=HS3.out.alloc (.cells #[.int .i64 zv] 3);refine Zz0k (.tmp 48) (.tmp 51) 22 rfl w.heap.size 3 i0 (.int .i64 0) 1 8 Tryz.underlying22 hi hz0 hz1 hz2 rfl (by omega) (.slice Ad nd cd) nd (ds.map iv) rfl hs4.s.d _ _ 1 1 _ rfl (Sl.fresh w3 [.int .i64 zv] 3 (0,0) 1 rfl) (by simp [Value.oneCell']) (nd+1) rfl ((ds++ [zv]).map iv) (by simp [iv]) (by omega) (by omega) hs4.s.be.size ?_;intro A8 c8 w8 o8 g8 _;have h8:=hs4.pushD g8 o8;have HS8:=hid h8.2;refine hK.out _ _ h8.1 (fun hS2=> ?_);clear hs4 o8 g8 h8;clear hK K hS;have hS:=hS2;clear hS2;try simp only [aS,aN,aA,a0,a1]
   (refine Org.yV (SM.of hS) ?_;try simp only [aS,aN,aA,a0,a1]);refine Org.mark (p:=7) rfl (by kernel_rfl) (by kernel_rfl) (by kernel_rfl) (by kernel_rfl) (fun K hK=> ?_);have f6:=hS.frozen 6;have k6:=hS.cell 6;simp only [ZgS,ZgZ] at k6;go_simp;refine hK.out _ _ ?_;clear f6 k6;clear hK K hS;try simp only [aS,aN,aA,a0,a1]
   refine Org.done (by kernel_rfl) ?_;go_wp2_with fail;go_roundw
   case rel=>exact ⟨p,nd+1,A8,c8,ds++ [zv],sk2,by first | rfl | go_num,by omega,HT2,HS8.out⟩
   case measure=>simp [intOf]
  ·have hT2:drs=ds∧st8=sk:=by
    have hT:=HT.out;by_cases hq0:0 < q
    ·have hb:bad=true:=by
      cases bad with
      | true=>rfl
      | false=>exact absurd ⟨hq0,rfl⟩ hgo
     rw [Zz2x (by rw [HBAD.out,hb])] at hT;exact ⟨by rw [← hT.1,List.append_nil],hT.2.symm⟩
    ·have hq1:q=0:=by omega
     subst hq1;unfold rdTries at hT;exact ⟨by rw [← hT.1,List.append_nil],hT.2.symm⟩
   obtain ⟨rfl,rfl⟩:=hT2;have hways:(0 < q∧bad=true)∨q=0:=by
    by_cases hq0:0 < q
    ·left
     refine ⟨hq0,?_⟩;cases bad with
     | true=>rfl
     | false=>exact absurd ⟨hq0,rfl⟩ hgo
    ·exact .inr (by omega)
   clear hgo HT;go_upto_region 10 with fail;go_cut [44] (fun s wx=>s= .bool false∧wr=wx)
   case first=>
    rcases hways with ⟨k1,k2⟩ | k1
    ·subst k2
     go_wp2_with fail;go_meet
     exact ⟨rfl,rfl⟩
    ·subst k1
     go_wp2_with fail;go_meet
     exact ⟨rfl,rfl⟩
   case rest=>
   obtain ⟨rfl,rfl⟩:=hcut;clear hways hbc;go_wp2_with fail;refine (Zz0x B gr st8 1 _ HSR.out.r (by omega) (mo:Int) st9 H9.out).mono ?_;rintro e w9 ⟨rfl,hr9,hg9⟩;have HS:=hid (HSR.out.num hr9 hg9);clear hr9 hg9;go_wp2_with fail;go_loopw [7] (fun v wx=>∃ (q no:Nat) (Ao:Option Addr) (co:Nat) (ts:List Value) (es:List Ent) (sk:RSt),v= .int .i64 (q:Int)∧no+q≤255∧Hid (es++(rfEnts ⟨pk,ph,ps⟩ q sk).1=obs∧(rfEnts ⟨pk,ph,ps⟩ q sk).2=st10)∧SR w wx B w.heap.size gm gr sq nx ⟨pk,ph,ps⟩ ex Ad nd cd drs Ao no co ts es sk) (fun v _=>(intOf v).toNat)
   case atStart=>exact ⟨mo,0,none,0, [], [],st9,rfl,by omega,hid (by rw [H10.out];exact ⟨rfl,rfl⟩),HS.out⟩
   case round=>
    obtain ⟨q,no,Ao,co,ts,es,sk,rfl,hno,HT,hsr⟩:=hrel;clear HS HSR HBAD;have HSR:=hid hsr;obtain ⟨bad,hbad⟩:∃ b,sk.2=b:=⟨_,rfl⟩;have hbc:=hsr.r.bad_;rw [hbad] at hbc;have HBAD:=hid hbad;clear hsr hbad;by_cases hgo:0 < q∧bad=false
    ·obtain ⟨hq0,hbf⟩:=hgo
     subst hbf;obtain ⟨p,rfl⟩:∃ p,q=p+1:=⟨q - 1,by omega⟩;obtain ⟨⟨zn,s1⟩,hz1⟩:∃ q,rdNum 1 sk=q:=⟨_,rfl⟩;have bz:=Zz0d 1 sk;rw [hz1] at bz;obtain ⟨kn,hkn⟩:∃ k:Nat,(k:Int)=zn:=⟨zn.toNat,by have:=bz.1;simp at this;omega⟩;subst hkn;have hkn2:kn < 256:=by have:=bz.2;simp at this;omega
     obtain ⟨⟨nm,s2⟩,hz2⟩:∃ q,rfSome kn s1=q:=⟨_,rfl⟩;obtain ⟨⟨ob,s3⟩,hz3⟩:∃ q,rdNum 3 s2=q:=⟨_,rfl⟩;obtain ⟨⟨ln,s4⟩,hz4⟩:∃ q,rdNum 2 s3=q:=⟨_,rfl⟩;have bln:=Zz0d 2 s3;rw [hz4] at bln;have hln2:0≤ln∧ln < 65536:=by simpa using bln
     obtain ⟨cn,hcn⟩:∃ x,countP ⟨pk,ph,ps⟩ ln=x:=⟨_,rfl⟩;have hcn0:0≤cn∧cn≤ln:=by
      have:=Zz5i ⟨pk,ph,ps⟩ ln
      rw [hcn] at this;exact ⟨this.1,this.2 (by omega)⟩
     obtain ⟨cm,hcm⟩:∃ k:Nat,k=(min cn 100).toNat:=⟨_,rfl⟩;have hcm2:cm≤100:=by omega
     obtain ⟨⟨tr,s5⟩,hz5⟩:∃ q,rdTries cm s4=q:=⟨_,rfl⟩;have hent:rfEnt ⟨pk,ph,ps⟩ sk=(⟨nm,ob,ln,tr⟩,s5):=by
      unfold rfEnt;simp only [hz1,Int.toNat_natCast,hz2,hz3,hz4,hcn,← hcm,hz5]
     have hT2:(es++ [(⟨nm,ob,ln,tr⟩:Ent)])++(rfEnts ⟨pk,ph,ps⟩ p s5).1=obs∧(rfEnts ⟨pk,ph,ps⟩ p s5).2=st10:=by
      have hT:=HT.out;rw [Zzdt HBAD.out,hent] at hT;exact ⟨by rw [← hT.1,List.append_assoc];rfl,hT.2⟩
     have HT2:=hid hT2;have Z1:=hid hz1;have Z2:=hid hz2;have Z3:=hid hz3;have Z4:=hid hz4;have Z5:=hid hz5;have HCN:=hid hcn;have HCM:=hid hcm;have HBG:=hid HSR.out.begin;clear hT2 hz1 hz2 hz3 hz4 hz5 hcn hcm hent HT bz bln;go_wp2_with fail;generalize wr.alloc (.cells #[.string ⟨#[]⟩,.int .i64 0,.int .i64 0,.slice none 0 0] 61)=wa at*;generalize wr.heap.size=ge at*;refine (Zz0x B gr sk 1 wa HBG.out.s.r (by omega) (kn:Int) s1 Z1.out).mono ?_;rintro e wb ⟨rfl,hrb,hgb⟩;have HE:=hid (HBG.out.num hrb hgb);clear hrb hgb;go_wp2_with fail;refine (Zz6e B gr s1 kn wb HE.out.s.r (by omega) nm s2 Z2.out).mono ?_;rintro e wd ⟨⟨An,nn,cnn,rfl,hnl,hnc2,hsln⟩,hrd,hgd⟩;have hse:=HE.out.num hrd hgd
     have kc:=Zz2y (P:=Tryz.prog) (c:=cnn) 33 9 5 Tryz.underlying33 Tryz.underlying5 Tryz.underlying9 hsln;have y0:=hse.re.cell 0;have z0:=hse.re.frozen 0;simp only [ZgS,ZgZ] at y0;have HE:=hid (hse.setE (nm':=nm) (ob':=0) (ln':=0) 0 (.string (strB nm)) rfl);have hz:=hse.re.lt;clear hrd hgd hse hnl hsln;go_wp2_with fail;clear kc y0 z0;refine (Zz0x B gr s2 3 _ HE.out.s.r (by omega) ob s3 Z3.out).mono ?_;rintro e we ⟨rfl,hre,hge⟩;have hse:=HE.out.num hre hge;have y1:=hse.re.cell 1;have z1:=hse.re.frozen 1;simp only [ZgS,ZgZ] at y1;have HE:=hid (hse.setE (nm':=nm) (ob':=ob) (ln':=0) 1 (.int .i64 ob) rfl);clear hre hge hse;go_wp2_with fail;clear y1 z1
     refine (Zz0x B gr s3 2 _ HE.out.s.r (by omega) ln s4 Z4.out).mono ?_;rintro e wf ⟨rfl,hrf,hgf⟩;have hse:=HE.out.num hrf hgf;have y2:=hse.re.cell 2;have z2:=hse.re.frozen 2;simp only [ZgS,ZgZ] at y2;have HE:=hid (hse.setE (nm':=nm) (ob':=ob) (ln':=ln) 2 (.int .i64 ln) rfl);clear hrf hgf hse;go_upto_region 20 with fail;generalize wf.setCell ⟨ge,2,none⟩ (.int .i64 ln)=wg at*;clear y2 z2;go_cut [9] (fun s9 wx=>s9= .int .i64 (cm:Int)∧SE ge w wx B w.heap.size gm gr sq nx ⟨pk,ph,ps⟩ ex Ad nd cd drs Ao no co ts es s4 ge nm ob ln none 0 0 [])
     case first=>
      have x2:=HE.out.s.s.x.cell 2;have x3:=HE.out.s.s.x.cell 3;have x4:=HE.out.s.s.x.cell 4;have y2:=HE.out.re.cell 2;simp only [ZgS,ZgZ] at x2 x3 x4 y2;go_wp2_with fail;refine (Zz16 ⟨pk,ph,ps⟩ ln cn _ (by omega) HCN.out).mono ?_;rintro e wh ⟨rfl,hbh⟩;have HE:=hid (HE.out.below hbh);have hcmi:=HCM.out;clear hbh x2 x3 x4 y2;go_wp2_with fail;all_goals (go_meet;exact ⟨by congr 1;omega,HE.out⟩)
     case rest=>
     obtain ⟨rfl,hse⟩:=hcut;have HE:=hid hse;clear hse;go_wp2_with fail;go_loopw [9] (fun v wx=>∃ (q3 nt:Nat) (At:Option Addr) (ct:Nat) (trs:List Int) (tk:RSt),v= .int .i64 (q3:Int)∧nt+q3≤100∧Hid (trs++(rdTries q3 tk).1=tr∧(rdTries q3 tk).2=s5)∧SE ge w wx B w.heap.size gm gr sq nx ⟨pk,ph,ps⟩ ex Ad nd cd drs Ao no co ts es tk ge nm ob ln At nt ct trs) (fun v _=>(intOf v).toNat)
     case atStart=>exact ⟨cm,0,none,0, [],s4,rfl,by omega,hid (by rw [Z5.out];exact ⟨rfl,rfl⟩),HE.out⟩
     case round=>
      obtain ⟨q3,nt,At,ct,trs,tk,rfl,hnt,HT3,hse⟩:=hrel;clear HE HBG hbc;have HSE:=hid hse;obtain ⟨bad,hbad⟩:∃ b,tk.2=b:=⟨_,rfl⟩;have hbc:=hse.s.r.bad_;rw [hbad] at hbc;have HBAD:=hid hbad;clear hse hbad;by_cases hgo:0 < q3∧bad=false
      ·obtain ⟨hq0,hbf⟩:=hgo
       subst hbf;obtain ⟨p3,rfl⟩:∃ p,q3=p+1:=⟨q3 - 1,by omega⟩;obtain ⟨⟨zv,tk2⟩,hz⟩:∃ q,rdNum 1 tk=q:=⟨_,rfl⟩;have hT2:(trs++ [zv])++(rdTries p3 tk2).1=tr∧(rdTries p3 tk2).2=s5:=by
        have hT:=HT3.out;rw [Zz3y HBAD.out,hz] at hT;exact ⟨by rw [← hT.1,List.append_assoc];rfl,hT.2⟩
       have HT2':=hid hT2;have HZ:=hid hz;clear hT2 hz HT3;go_wp2_with fail;refine Org.begin [7] (fun w'=>Row w' ge 61 [.string (strB nm),.int .i64 ob,.int .i64 ln,.slice At nt ct]) [0,1,2,3,4,5,6,7] (by kernel_rfl) (HSE.out.drew_.re) (fun hS=> ?_);(refine Org.yV (SM.of hS) ?_;try simp only [aS,aN,aA,a0,a1]);(refine Org.yA (v:= ?_) (SM.of hS) ?_ ?_;rotate_left;(focus (intro w hSw;(try dsimp only at hSw);have c3:=hSw.cell 3;simp only [ZgS,ZgZ] at c3;refine Pure.val ?_;go_simp;(try with_reducible rfl);done));try simp only [aS,aN,aA,a0,a1]);(refine Org.yV (SM.of hS) ?_;try simp only [aS,aN,aA,a0,a1]);refine Org.gA fun K hK=> ?_
       go_simp;go_at_call 106;refine (Zz0x B gr tk 1 _ HSE.out.drew_.s.r (by omega) zv tk2 HZ.out).mono ?_;rintro e w3 ⟨rfl,hr3,hg3⟩;have HE3:=hid (HSE.out.drew_.num hr3 hg3);go_wp2_with fail;refine hK.out _ _ HE3.out.re (fun hS2=> ?_);clear hr3 hg3;clear hK K hS;have hS:=hS2;clear hS2;try simp only [aS,aN,aA,a0,a1]
       refine Org.gA fun K hK=> ?_
       go_simp;refine hK.out _ _ (HE3.out.alloc (.cells #[.int .i64 zv] 3)).re (fun hS2=> ?_);clear hK K hS;have hS:=hS2;clear hS2;try simp only [aS,aN,aA,a0,a1]
       refine Org.gA fun K hK=> ?_
       have hs4:=HE3.out.alloc (.cells #[.int .i64 zv] 3);refine Zz0k (.tmp 97) (.tmp 100) 22 rfl ge 3 i0 (.int .i64 0) 1 8 Tryz.underlying22 hi hz0 hz1 hz2 rfl (by omega) (.slice At nt ct) nt (trs.map iv) rfl hs4.ot _ _ 1 1 _ rfl (Sl.fresh w3 [.int .i64 zv] 3 (0,0) 1 rfl) (by simp [Value.oneCell']) (nt+1) rfl ((trs++ [zv]).map iv) (by simp [iv]) (by omega) (by omega) hs4.Nx ?_;intro A8 c8 w8 o8 g8 _;have h8:=hs4.push g8 o8;have HE8:=hid h8.2;refine hK.out _ _ h8.1 (fun hS2=> ?_);clear hs4 o8 g8 h8;clear hK K hS;have hS:=hS2;clear hS2;try simp only [aS,aN,aA,a0,a1]
       (refine Org.yV (SM.of hS) ?_;try simp only [aS,aN,aA,a0,a1]);refine Org.mark (p:=7) rfl (by kernel_rfl) (by kernel_rfl) (by kernel_rfl) (by kernel_rfl) (fun K hK=> ?_);have f6:=hS.frozen 3;have k6:=hS.cell 3;simp only [ZgS,ZgZ] at k6;go_simp;refine hK.out _ _ ?_;clear f6 k6;clear hK K hS;try simp only [aS,aN,aA,a0,a1]
       refine Org.done (by kernel_rfl) ?_;go_wp2_with fail;go_roundw
       case rel=>exact ⟨p3,nt+1,A8,c8,trs++ [zv],tk2,by first | rfl | go_num,by omega,HT2',HE8.out⟩
       case measure=>simp [intOf]
      ·have hT2:tr=trs∧s5=tk:=by
        have hT:=HT3.out;by_cases hq0:0 < q3
        ·have hb:bad=true:=by
          cases bad with
          | true=>rfl
          | false=>exact absurd ⟨hq0,rfl⟩ hgo
         rw [Zz2x (by rw [HBAD.out,hb])] at hT;exact ⟨by rw [← hT.1,List.append_nil],hT.2.symm⟩
        ·have hq1:q3=0:=by omega
         subst hq1;unfold rdTries at hT;exact ⟨by rw [← hT.1,List.append_nil],hT.2.symm⟩
       obtain ⟨rfl,rfl⟩:=hT2;have hways:(0 < q3∧bad=true)∨q3=0:=by
        by_cases hq0:0 < q3
        ·left
         refine ⟨hq0,?_⟩;cases bad with
         | true=>rfl
         | false=>exact absurd ⟨hq0,rfl⟩ hgo
        ·exact .inr (by omega)
       clear hgo HT3;go_upto_region 21 with fail;go_cut [93] (fun s wx=>s= .bool false∧wr=wx)
       case first=>
        rcases hways with ⟨k1,k2⟩ | k1
        ·subst k2
         go_wp2_with fail;go_meet
         exact ⟨rfl,rfl⟩
        ·subst k1
         go_wp2_with fail;go_meet
         exact ⟨rfl,rfl⟩
       case rest=>
       obtain ⟨rfl,rfl⟩:=hcut;clear hways hbc;have v0:=HSE.out.re.cell 0;have v1:=HSE.out.re.cell 1;have v2:=HSE.out.re.cell 2;have v3:=HSE.out.re.cell 3;have v7:=HSE.out.s.s.x.cell 7;simp only [ZgS,ZgZ] at v0 v1 v2 v3 v7;have how7:=HSE.out.s.s.o.own;rw [HSE.out.s.s.ol] at how7;have HOW7:=hid how7;have hz7:=HSE.out.s.s.be.size;clear how7
       go_wp2_with (at_builtin;go_must (refine Zz03 rfl (.tmp 104) (.tmp 106) 26 rfl w.heap.size 61 i1 (.agg #[.string ⟨#[]⟩,.int .i64 0,.int .i64 0,.slice none 0 0]) 4 56 Tryz.underlying26 hi' hz0' hz1' hz2' rfl (by omega) (.slice Ao no co) no (entsC es ts) rfl (HOW7.out.alloc _) _ _ 1 1 [.string (strB nm),.int .i64 ob,.int .i64 ln,.slice At nt ct] rfl (Sl.fresh4m _ _ _ rfl) (by simp [Value.oneCell']) (no+1) rfl _ rfl (by omega) (by omega) (by simp;omega) ?_);intro A8 c8 w8 o8 g8 _;have X8:=HSE.out.s.pushO (nm:=nm) (ob:=ob) (ln:=ln) (trs:=tr) HSE.out.ot HSE.out.N_ o8 g8;have hx8:=X8.1.frozen 7;have kx8:=X8.1.cell 7;simp only [ZgS,ZgZ] at kx8;have HX8:=hid X8.2;clear X8 o8 g8)
       go_roundw
       case rel=>exact ⟨p,no+1,A8,c8,ts++ [.slice At nt ct],es++ [⟨nm,ob,ln,tr⟩],s5,by first | rfl | go_num,by omega,HT2,HX8.out⟩
       case measure=>simp [intOf]
    ·have hT2:obs=es∧st10=sk:=by
      have hT:=HT.out;by_cases hq0:0 < q
      ·have hb:bad=true:=by
        cases bad with
        | true=>rfl
        | false=>exact absurd ⟨hq0,rfl⟩ hgo
       rw [Zzbb (by rw [HBAD.out,hb])] at hT;exact ⟨by rw [← hT.1,List.append_nil],hT.2.symm⟩
      ·have hq1:q=0:=by omega
       subst hq1;unfold rfEnts at hT;exact ⟨by rw [← hT.1,List.append_nil],hT.2.symm⟩
     obtain ⟨rfl,rfl⟩:=hT2;have hways:(0 < q∧bad=true)∨q=0:=by
      by_cases hq0:0 < q
      ·left
       refine ⟨hq0,?_⟩;cases bad with
       | true=>rfl
       | false=>exact absurd ⟨hq0,rfl⟩ hgo
      ·exact .inr (by omega)
     clear hgo HT;go_upto_region 14 with fail;go_cut [64] (fun s wx=>s= .bool false∧wr=wx)
     case first=>
      rcases hways with ⟨k1,k2⟩ | k1
      ·subst k2
       go_wp2_with fail;go_meet
       exact ⟨rfl,rfl⟩
      ·subst k1
       go_wp2_with fail;go_meet
       exact ⟨rfl,rfl⟩
     case rest=>
     obtain ⟨rfl,rfl⟩:=hcut;clear hways;have hom:OM w.heap.size wr (⟨sq,nx,⟨pk,ph,ps⟩,ex,drs,obs⟩:Mani) Ad nd cd Ao no co ts:=⟨HSR.out.s.d,by have:=HSR.out.s.d.1;simpa using this,HSR.out.s.o,HSR.out.s.ol⟩;have HOM:=hid hom;clear hom;cases bad with
     | true=>
      have hrn:r=none:=by
       rw [HR.out,if_neg (fun hh=>by rw [HBAD.out] at hh;exact absurd hh.1 (by simp))]
      subst hrn;have d0:=HSR.out.s.q.cell 0;have d1:=HSR.out.s.q.cell 1;have d2:=HSR.out.s.q.cell 2;have d3:=HSR.out.s.q.cell 3;have d4:=HSR.out.s.q.cell 4;have d5:=HSR.out.s.q.cell 5;have d6:=HSR.out.s.q.cell 6;have d7:=HSR.out.s.q.cell 7;have f0:=HSR.out.s.q.frozen 0;have f1:=HSR.out.s.q.frozen 1;have f2:=HSR.out.s.q.frozen 2;have f3:=HSR.out.s.q.frozen 3;have f4:=HSR.out.s.q.frozen 4;have f5:=HSR.out.s.q.frozen 5;have f6:=HSR.out.s.q.frozen 6;have f7:=HSR.out.s.q.frozen 7;simp only [ZgS,ZgZ] at d0 d1 d2 d3 d4 d5 d6 d7;have R8:=hid (row8m HSR.out.s.q (.int .i64 0) (.int .i64 0) (.int .i64 0) (.int .i64 0) (.int .i64 0) (.int .i64 0) (.slice none 0 0) (.slice none 0 0))
      have HBF:=hid (HSR.out.s.be.grown (grown8s _ w.heap.size (.int .i64 0) (.int .i64 0) (.int .i64 0) (.int .i64 0) (.int .i64 0) (.int .i64 0) (.slice none 0 0) (.slice none 0 0)) HSR.out.s.be.size (fun j hj=>by injection hj with hj;omega));go_wp2_with fail;obtain ⟨q0,q1,q2,q3,q4,q5,q6,q7⟩:=Row.c8 R8.out;refine bodyPost_ret (v:= .tuple #[Mani.zero.val (.slice none 0 0) (.slice none 0 0),.bool false]) ?_ rfl ⟨none,0,0,none,0,0, [],rfl,⟨World.ownsRow_nil _ _ _ _,rfl,OEs.nil_ _ _,rfl⟩,HBF.out⟩;simp [results,Tryz.results64,go_sem,q0,q1,q2,q3,q4,q5,q6,q7]
      rfl
     | false=>
      obtain ⟨bm,hbm⟩:∃ q,(⟨sq,nx,⟨pk,ph,ps⟩,ex,drs,obs⟩:Mani).may=q:=⟨_,rfl⟩;have HBM:=hid hbm;clear hbm;obtain ⟨x0,x1,x2,x3,x4,x5,x6,x7⟩:=Row.c8 HSR.out.s.x;go_wp2_with fail;refine (Zz2k (⟨sq,nx,⟨pk,ph,ps⟩,ex,drs,obs⟩:Mani) _ Ad Ao nd cd no co ts bm wr HOM.out.read (ZnR _) HM64.out.1 HM64.out.2 HBM.out).mono ?_;rintro e wm ⟨rfl,hbm2⟩;have HSR:=hid (HSR.out.below hbm2);have HOM:=hid (HOM.out.below hbm2);clear x0 x1 x2 x3 x4 x5 x6 x7 hbm2 hbc;cases bm with
      | false=>
       have hrn:r=none:=by
        rw [HR.out,if_neg (fun hh=>by rw [HBM.out] at hh;exact absurd hh.2.1 (by simp))]
       subst hrn;have d0:=HSR.out.s.q.cell 0;have d1:=HSR.out.s.q.cell 1;have d2:=HSR.out.s.q.cell 2;have d3:=HSR.out.s.q.cell 3;have d4:=HSR.out.s.q.cell 4;have d5:=HSR.out.s.q.cell 5;have d6:=HSR.out.s.q.cell 6;have d7:=HSR.out.s.q.cell 7;have f0:=HSR.out.s.q.frozen 0;have f1:=HSR.out.s.q.frozen 1;have f2:=HSR.out.s.q.frozen 2;have f3:=HSR.out.s.q.frozen 3;have f4:=HSR.out.s.q.frozen 4;have f5:=HSR.out.s.q.frozen 5;have f6:=HSR.out.s.q.frozen 6;have f7:=HSR.out.s.q.frozen 7;simp only [ZgS,ZgZ] at d0 d1 d2 d3 d4 d5 d6 d7;have R8:=hid (row8m HSR.out.s.q (.int .i64 0) (.int .i64 0) (.int .i64 0) (.int .i64 0) (.int .i64 0) (.int .i64 0) (.slice none 0 0) (.slice none 0 0))
       have HBF:=hid (HSR.out.s.be.grown (grown8s _ w.heap.size (.int .i64 0) (.int .i64 0) (.int .i64 0) (.int .i64 0) (.int .i64 0) (.int .i64 0) (.slice none 0 0) (.slice none 0 0)) HSR.out.s.be.size (fun j hj=>by injection hj with hj;omega));go_wp2_with fail;obtain ⟨q0,q1,q2,q3,q4,q5,q6,q7⟩:=Row.c8 R8.out;refine bodyPost_ret (v:= .tuple #[Mani.zero.val (.slice none 0 0) (.slice none 0 0),.bool false]) ?_ rfl ⟨none,0,0,none,0,0, [],rfl,⟨World.ownsRow_nil _ _ _ _,rfl,OEs.nil_ _ _,rfl⟩,HBF.out⟩;simp [results,Tryz.results64,go_sem,q0,q1,q2,q3,q4,q5,q6,q7]
       rfl
      | true=>
       obtain ⟨x0,x1,x2,x3,x4,x5,x6,x7⟩:=Row.c8 HSR.out.s.x;go_wp2_with fail;refine (Zz4u (⟨sq,nx,⟨pk,ph,ps⟩,ex,drs,obs⟩:Mani) _ Ad Ao nd cd no co ts wm HOM.out.read (ZnR _) HM64.out.1 HM64.out.2).mono ?_;rintro e wp ⟨Ap,np,cp,rfl,hpl,hpn,hop,hbp⟩;obtain ⟨pkl,hpk⟩:∃ p,pack (⟨sq,nx,⟨pk,ph,ps⟩,ex,drs,obs⟩:Mani)=p:=⟨_,rfl⟩;rw [hpk] at hpl hop;have HPK:=hid hpk;obtain ⟨Ap',cp',e3,hcp1,hcp2,sp⟩:=hop.read;injection e3 with e31 e32 e33;subst e31 e33;rw [hpl] at sp hcp1;have HSP:=hid sp;have HSR:=hid (HSR.out.below hbp);have HOM:=hid (HOM.out.below hbp);obtain ⟨bq,hbq⟩:∃ q,decide (pkl=l)=q:=⟨_,rfl⟩;have HBQ:=hid hbq;have hsl:=(HSL.out.below (HSR.out.s.be.mono hB)).mono (ZnT hB HSR.out.s.be.size)
       have HSL2:=hid hsl;clear x0 x1 x2 x3 x4 x5 x6 x7 hbp hpl e32 hop sp hbq hsl hpk;go_wp2_with fail;refine (Zz2m bq wp.heap.size Ap A pkl l np n cp c wp HSP.out HSL2.out (by omega) (by omega) HBQ.out).mono ?_;rintro e wq ⟨rfl,dq,rfl⟩;have HSR:=hid (HSR.out.below (Zz01 (Below.refl _ _) dq));have HOM:=hid (HOM.out.below (Zz01 (Below.refl _ _) dq));generalize wp.drewN dq=wq at*;cases bq with
       | false=>
        have hrn:r=none:=by
         rw [HR.out,if_neg (fun hh=>by
          have h1:=HBQ.out;rw [← HPK.out,hh.2.2] at h1;simp at h1)]
        subst hrn;have d0:=HSR.out.s.q.cell 0;have d1:=HSR.out.s.q.cell 1;have d2:=HSR.out.s.q.cell 2;have d3:=HSR.out.s.q.cell 3;have d4:=HSR.out.s.q.cell 4;have d5:=HSR.out.s.q.cell 5;have d6:=HSR.out.s.q.cell 6;have d7:=HSR.out.s.q.cell 7;have f0:=HSR.out.s.q.frozen 0;have f1:=HSR.out.s.q.frozen 1;have f2:=HSR.out.s.q.frozen 2;have f3:=HSR.out.s.q.frozen 3;have f4:=HSR.out.s.q.frozen 4;have f5:=HSR.out.s.q.frozen 5;have f6:=HSR.out.s.q.frozen 6;have f7:=HSR.out.s.q.frozen 7;simp only [ZgS,ZgZ] at d0 d1 d2 d3 d4 d5 d6 d7;have R8:=hid (row8m HSR.out.s.q (.int .i64 0) (.int .i64 0) (.int .i64 0) (.int .i64 0) (.int .i64 0) (.int .i64 0) (.slice none 0 0) (.slice none 0 0))
        have HBF:=hid (HSR.out.s.be.grown (grown8s _ w.heap.size (.int .i64 0) (.int .i64 0) (.int .i64 0) (.int .i64 0) (.int .i64 0) (.int .i64 0) (.slice none 0 0) (.slice none 0 0)) HSR.out.s.be.size (fun j hj=>by injection hj with hj;omega));go_wp2_with fail;obtain ⟨q0,q1,q2,q3,q4,q5,q6,q7⟩:=Row.c8 R8.out;refine bodyPost_ret (v:= .tuple #[Mani.zero.val (.slice none 0 0) (.slice none 0 0),.bool false]) ?_ rfl ⟨none,0,0,none,0,0, [],rfl,⟨World.ownsRow_nil _ _ _ _,rfl,OEs.nil_ _ _,rfl⟩,HBF.out⟩;simp [results,Tryz.results64,go_sem,q0,q1,q2,q3,q4,q5,q6,q7]
        rfl
       | true=>
        have hrs:r=some (⟨sq,nx,⟨pk,ph,ps⟩,ex,drs,obs⟩:Mani):=by
         rw [HR.out,if_pos ⟨HBAD.out,HBM.out,by rw [HPK.out];exact of_decide_eq_true HBQ.out⟩]
        subst hrs;obtain ⟨x0,x1,x2,x3,x4,x5,x6,x7⟩:=Row.c8 HSR.out.s.x;have d0:=HSR.out.s.q.cell 0;have d1:=HSR.out.s.q.cell 1;have d2:=HSR.out.s.q.cell 2;have d3:=HSR.out.s.q.cell 3;have d4:=HSR.out.s.q.cell 4;have d5:=HSR.out.s.q.cell 5;have d6:=HSR.out.s.q.cell 6;have d7:=HSR.out.s.q.cell 7;have f0:=HSR.out.s.q.frozen 0;have f1:=HSR.out.s.q.frozen 1;have f2:=HSR.out.s.q.frozen 2;have f3:=HSR.out.s.q.frozen 3;have f4:=HSR.out.s.q.frozen 4;have f5:=HSR.out.s.q.frozen 5;have f6:=HSR.out.s.q.frozen 6;have f7:=HSR.out.s.q.frozen 7;simp only [ZgS,ZgZ] at d0 d1 d2 d3 d4 d5 d6 d7
        have R8:=hid (row8m HSR.out.s.q (.int .i64 sq) (.int .i64 nx) (.int .i64 pk) (.int .i64 ph) (.int .i64 ps) (.int .i64 ex) (.slice Ad nd cd) (.slice Ao no co));have hg8:=grown8s wq w.heap.size (.int .i64 sq) (.int .i64 nx) (.int .i64 pk) (.int .i64 ph) (.int .i64 ps) (.int .i64 ex) (.slice Ad nd cd) (.slice Ao no co);have HOMF:=hid (HOM.out.other hg8 HSR.out.s.q (by decide) (by decide));have HBF:=hid (HSR.out.s.be.grown hg8 HSR.out.s.be.size (fun j hj=>by injection hj with hj;omega));clear hg8;go_wp2_with fail;obtain ⟨q0,q1,q2,q3,q4,q5,q6,q7⟩:=Row.c8 R8.out
        refine bodyPost_ret (v:= .tuple #[(⟨sq,nx,⟨pk,ph,ps⟩,ex,drs,obs⟩:Mani).val (.slice Ad nd cd) (.slice Ao no co),.bool true]) ?_ rfl ⟨Ad,nd,cd,Ao,no,co,ts,rfl,HOMF.out,HBF.out⟩;simp [results,Tryz.results64,go_sem,q0,q1,q2,q3,q4,q5,q6,q7]
        rfl
end Go.Proofs.YtnknjeipfjdjoaaGreatDoor
