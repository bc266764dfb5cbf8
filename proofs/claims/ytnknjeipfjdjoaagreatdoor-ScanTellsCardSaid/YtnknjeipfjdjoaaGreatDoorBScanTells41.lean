/- Parse Wakes19 -/
import Derived.Test.YtnknjeipfjdjoaaGreatDoorBScanTells30
import Derived.Test.YtnknjeipfjdjoaaGreatDoorBScanTells40
set_option maxHeartbeats 8000000
set_option maxRecDepth 20000
set_option linter.unusedSimpArgs false
set_option linter.unusedVariables false
namespace Wells
open Go Go.RowKit
theorem row8m {w:World} {g:Nat} {t:TypeId} {z0 z1 z2 z3 z4 z5 z6 z7:Value} (h:Row w g t [z0,z1,z2,z3,z4,z5,z6,z7]) (a0 a1 a2 a3 a4 a5 a6 a7:Value):Row ((((((((w.setCell ⟨g,0,none⟩ a0).setCell ⟨g,1,none⟩ a1).setCell ⟨g,2,none⟩ a2).setCell ⟨g,3,none⟩ a3).setCell ⟨g,4,none⟩ a4).setCell ⟨g,5,none⟩ a5).setCell ⟨g,6,none⟩ a6).setCell ⟨g,7,none⟩ a7) g t [a0,a1,a2,a3,a4,a5,a6,a7]:=
 (((((((h.set 0 a0).set 1 a1).set 2 a2).set 3 a3).set 4 a4).set 5 a5).set 6 a6).set 7 a7
theorem grown8m {w w':World} {r:Nat} (h:w.grownBy w' (some r)) {g:Nat} (hg:w.heap.size≤g) (a0 a1 a2 a3 a4 a5 a6 a7:Value):w.grownBy ((((((((w'.setCell ⟨g,0,none⟩ a0).setCell ⟨g,1,none⟩ a1).setCell ⟨g,2,none⟩ a2).setCell ⟨g,3,none⟩ a3).setCell ⟨g,4,none⟩ a4).setCell ⟨g,5,none⟩ a5).setCell ⟨g,6,none⟩ a6).setCell ⟨g,7,none⟩ a7) (some r):=
 Zz06 (Zz06 (Zz06 (Zz06 (Zz06 (Zz06 (Zz06 (Zz06 h (.inr hg) 0 a0) (.inr hg) 1 a1) (.inr hg) 2 a2) (.inr hg) 3 a3) (.inr hg) 4 a4) (.inr hg) 5 a5) (.inr hg) 6 a6) (.inr hg) 7 a7
theorem grown8s (w:World) (g:Nat) (a0 a1 a2 a3 a4 a5 a6 a7:Value):w.grownBy ((((((((w.setCell ⟨g,0,none⟩ a0).setCell ⟨g,1,none⟩ a1).setCell ⟨g,2,none⟩ a2).setCell ⟨g,3,none⟩ a3).setCell ⟨g,4,none⟩ a4).setCell ⟨g,5,none⟩ a5).setCell ⟨g,6,none⟩ a6).setCell ⟨g,7,none⟩ a7) (some g):=
 Zz06 (Zz06 (Zz06 (Zz06 (Zz06 (Zz06 (Zz06 (Zz06 (Zz13 (Below.refl _ _) (some g)) (.inl rfl) 0 a0) (.inl rfl) 1 a1) (.inl rfl) 2 a2) (.inl rfl) 3 a3) (.inl rfl) 4 a4) (.inl rfl) 5 a5) (.inl rfl) 6 a6) (.inl rfl) 7 a7
theorem Zz0f {w w':World} {r:Nat} (h:w.grownBy w' (some r)) (hr:w.heap.size≤r):Below w.heap.size w w':=(Below.refl _ w).grown h (ZnR _) (fun k hk=>by injection hk with hk;omega)
theorem Zz6l {P:Par} {n:Nat} {st:RSt} (h:st.2=true):rdEnts P n st=([],st):=by
 cases n with
 | zero=>rfl
 | succ n=>unfold rdEnts;rw [if_pos h]
theorem Zz2x {n:Nat} {st:RSt} (h:st.2=true):rdTries n st=([],st):=by
 cases n with
 | zero=>rfl
 | succ n=>unfold rdTries;rw [if_pos h]
theorem Zz3y {n:Nat} {st:RSt} (h:st.2=false):rdTries (n+1) st=((rdNum 1 st).1::(rdTries n (rdNum 1 st).2).1,(rdTries n (rdNum 1 st).2).2):=by
 conv=>lhs;unfold rdTries
 rw [if_neg (by rw [h];simp)]
theorem Zz8b {P:Par} {n:Nat} {st:RSt} (h:st.2=false):rdEnts P (n+1) st=((rdEnt P st).1::(rdEnts P n (rdEnt P st).2).1,(rdEnts P n (rdEnt P st).2).2):=by
 conv=>lhs;unfold rdEnts
 rw [if_neg (by rw [h];simp)]
end Wells
namespace Go.Proofs.YtnknjeipfjdjoaaGreatDoor
open Go.RowKit Wells
def ParseR (w:World) (r:Option Mani) (e:Ending) (w':World):Prop:=
 ∃ Ad nd cd Ao no co ts,e= .returned (.tuple #[(r.getD Mani.zero).val (.slice Ad nd cd) (.slice Ao no co),.bool r.isSome])∧OM w.heap.size w' (r.getD Mani.zero) Ad nd cd Ao no co ts∧Below w.heap.size w w'
theorem infoI2:(Tryz.prog.info? 3).map (fun i=>(i.zero,i.size,i.bytes))=some (some (.int .i64 0),1,8):=by kernel_rfl
theorem OEs.otherR {base:Nat} {w w':World} {v:Value} {ts:List Value} {es:List Ent} {B g:Nat} {st:RSt} (h:OEs base w v ts es) (hg:w.grownBy w' (some g)) (hr:Rd 164 B w g st):OEs base w' v ts es:=by
 obtain ⟨_,_,_,h1,_⟩:=hr;exact h.other hg h1 (by decide) (by decide)
theorem OM.other {base:Nat} {w w':World} {m:Mani} {Ad Ao:Option Addr} {nd cd no co:Nat} {ts:List Value} {g:Nat} {t:TypeId} {cs:List Value} (h:OM base w m Ad nd cd Ao no co ts) (hg:w.grownBy w' (some g)) (hr:Row w g t cs) (h1:61≠t) (h2:3≠t):OM base w' m Ad nd cd Ao no co ts:=
 ⟨h.d.kept hg (Zz2i h.d hr h2),h.dl,h.o.other hg hr h1 h2,h.ol⟩
def OEn (base:Nat) (w:World) (v:Value) (ts:List Value) (es:List Ent) (n:Nat):Prop:=OEs base w v ts es∧es.length=n
theorem OEn.own_ {base:Nat} {w:World} {v:Value} {ts:List Value} {es:List Ent} {n:Nat} (h:OEn base w v ts es n):w.ownsRow base 61 4 v n (entsC es ts):=by rw [← h.2];exact h.1.own
theorem _root_.Wells.Row.ownr {w w1:World} {base g size n:Nat} {t e:TypeId} {cs xs:List Value} {v:Value} (h:Row w g t cs) (hv:w.ownsRow base e size v n xs) (hg:w.grownBy w1 v.ownBlock) (hne:e≠t):Row w1 g t cs:=by
 refine h.grown hg ?_;rcases Zz2i hv h hne with e1 | e1
 ·rw [e1];intro e2;cases e2
 ·exact fun e2=>e1 e2.symm
theorem Zzdz (B:Nat) (A:Option Addr) (n c:Nat) (l:List Byte) (w:World) (h:Sl w B 1 A n (l.map bv8)) (hB:B≤w.heap.size) (hn:n≤1048576) (hnc:n≤c) (hc:c≤9223372036854775807) (r:Option Mani) (hr:parseL l=r):
  Calls Tryz.prog 123 #[.slice A n c] w (ParseR w r):=by
 obtain ⟨i0,hi,hz0,hz1,hz2⟩:=info_parts infoI2;obtain ⟨i1,hi',hz0',hz1',hz2'⟩:=info_parts infoE;have hl:l.length=n:=by have:=h.len;simpa using this
 obtain ⟨⟨sq,st1⟩,h1⟩:∃ q,rdNum 4 (l,false)=q:=⟨_,rfl⟩;obtain ⟨⟨nx,st2⟩,h2⟩:∃ q,rdNum 4 st1=q:=⟨_,rfl⟩;obtain ⟨⟨pk,st3⟩,h3⟩:∃ q,rdNum 1 st2=q:=⟨_,rfl⟩;obtain ⟨⟨ph,st4⟩,h4⟩:∃ q,rdNum 1 st3=q:=⟨_,rfl⟩;obtain ⟨⟨ps,st5⟩,h5⟩:∃ q,rdNum 1 st4=q:=⟨_,rfl⟩;obtain ⟨⟨ex,st6⟩,h6⟩:∃ q,rdNum 1 st5=q:=⟨_,rfl⟩;obtain ⟨⟨zd,st7⟩,h7⟩:∃ q,rdNum 1 st6=q:=⟨_,rfl⟩;have b7:=Zz0d 1 st6;rw [h7] at b7;obtain ⟨md,hmd⟩:∃ k:Nat,(k:Int)=zd:=⟨zd.toNat,by have:=b7.1;simp at this;omega⟩;subst hmd;have hmd2:md < 256:=by have:=b7.2;simp at this;omega
 obtain ⟨⟨drs,st8⟩,h8⟩:∃ q,rdTries md st7=q:=⟨_,rfl⟩;obtain ⟨⟨zo,st9⟩,h9⟩:∃ q,rdNum 1 st8=q:=⟨_,rfl⟩;have b9:=Zz0d 1 st8;rw [h9] at b9;obtain ⟨mo,hmo⟩:∃ k:Nat,(k:Int)=zo:=⟨zo.toNat,by have:=b9.1;simp at this;omega⟩;subst hmo;have hmo2:mo < 256:=by have:=b9.2;simp at this;omega
 obtain ⟨⟨obs,st10⟩,h10⟩:∃ q,rdEnts ⟨pk,ph,ps⟩ mo st9=q:=⟨_,rfl⟩;have hm:rdMani (l,false)=(⟨sq,nx,⟨pk,ph,ps⟩,ex,drs,obs⟩,st10):=by
  unfold rdMani;simp only [h1,h2,h3,h4,h5,h6,h7,h8,h9,h10,Int.toNat_natCast]
 have hr2:r=if st10.2=false∧l≠ []∧l=pack ⟨sq,nx,⟨pk,ph,ps⟩,ex,drs,obs⟩ then some ⟨sq,nx,⟨pk,ph,ps⟩,ex,drs,obs⟩ else none:=by
  rw [← hr];unfold parseL;rw [hm]
 have hm64:=Zz80 (l,false);rw [hm] at hm64;have HR:=hid hr2;have HM64:=hid hm64;have H1:=hid h1;have H2:=hid h2;have H3:=hid h3;have H4:=hid h4;have H5:=hid h5;have H6:=hid h6;have H7:=hid h7;have H8:=hid h8;have H9:=hid h9;have H10:=hid h10;have HL:=hid hl;have HSL:=hid h;have hq:=Row.new w 28 #[.int .i64 0,.int .i64 0,.int .i64 0,.int .i64 0,.int .i64 0,.int .i64 0,.slice none 0 0,.slice none 0 0];have hq2:=hq.alloc (.cells #[.slice A n c,.bool false] 164);have hrr:=Row.new (w.alloc (.cells #[.int .i64 0,.int .i64 0,.int .i64 0,.int .i64 0,.int .i64 0,.int .i64 0,.slice none 0 0,.slice none 0 0] 28)) 164 #[.slice A n c,.bool false]
 have hb02:Below w.heap.size w ((w.alloc (.cells #[.int .i64 0,.int .i64 0,.int .i64 0,.int .i64 0,.int .i64 0,.int .i64 0,.slice none 0 0,.slice none 0 0] 28)).alloc (.cells #[.slice A n c,.bool false] 164)):=((Below.refl _ _).alloc (ZnR _) _).alloc (by simp) _;have hgs:(w.alloc (.cells #[.int .i64 0,.int .i64 0,.int .i64 0,.int .i64 0,.int .i64 0,.int .i64 0,.slice none 0 0,.slice none 0 0] 28)).heap.size=w.heap.size+1:=by simp
 have hs2:((w.alloc (.cells #[.int .i64 0,.int .i64 0,.int .i64 0,.int .i64 0,.int .i64 0,.int .i64 0,.slice none 0 0,.slice none 0 0] 28)).alloc (.cells #[.slice A n c,.bool false] 164)).heap.size=w.heap.size+2:=by simp
 rw [hgs] at hrr;have hrd2:Rd 164 B ((w.alloc (.cells #[.int .i64 0,.int .i64 0,.int .i64 0,.int .i64 0,.int .i64 0,.int .i64 0,.slice none 0 0,.slice none 0 0] 28)).alloc (.cells #[.slice A n c,.bool false] 164)) (w.heap.size+1) (l,false):=⟨A,n,c,hrr,h.below (hb02.mono hB),hl,hnc,hc,by omega⟩;clear h1 h2 h3 h4 h5 h6 h7 h8 h9 h10 hm hr hr2 hm64 b7 b9 hl h hq hgs hrr;go_enter Tryz.func123,Tryz.ntmps123;go_wp2_with fail;generalize (w.alloc (.cells #[.int .i64 0,.int .i64 0,.int .i64 0,.int .i64 0,.int .i64 0,.int .i64 0,.slice none 0 0,.slice none 0 0] 28)).alloc (.cells #[.slice A n c,.bool false] 164)=w2 at*;obtain ⟨g,hg⟩:∃ g,w.heap.size+1=g:=⟨_,rfl⟩;rw [hg] at hrd2 ⊢;have HG:=hid hg
 have hgw:w.heap.size≤g:=by omega
 have hwg:w.heap.size≠g:=by omega
 have G2:=Zz13 hb02 (some g);clear hg hb02;refine (Zz0t B g (l,false) 4 w2 hrd2 (by omega) sq st1 H1.out).mono ?_;rintro e w3 ⟨rfl,hrd3,hg3,hs3⟩;have hq3:=hq2.grown hg3 (fun e=>by injection e with e;exact hwg e);have G3:=Zz0c G2 hg3 (.inl rfl);clear hrd2 hq2 hg3 G2;go_wp2_with fail;refine (Zz0t B g st1 4 w3 hrd3 (by omega) nx st2 H2.out).mono ?_;rintro e w4 ⟨rfl,hrd4,hg4,hs4⟩;have hq4:=hq3.grown hg4 (fun e=>by injection e with e;exact hwg e);have G4:=Zz0c G3 hg4 (.inl rfl);clear hrd3 hq3 hg4 G3;obtain ⟨gx,hgx⟩:∃ q,w4.heap.size=q:=⟨_,rfl⟩;have hgxe:gx=w.heap.size+2:=by omega
 have HGX:=hid hgx;have HGE:=hid hgxe;have hgxw:w.heap.size≤gx:=by omega
 have hgxg:gx≠g:=by have:=HG.out;omega
 have hBw:B≤w4.heap.size:=by omega
 have hx5:=Row.new w4 28 #[.int .i64 sq,.int .i64 nx,.int .i64 0,.int .i64 0,.int .i64 0,.int .i64 0,.slice none 0 0,.slice none 0 0];have hb5:=(Below.refl w4.heap.size w4).alloc (ZnR _) (.cells #[.int .i64 sq,.int .i64 nx,.int .i64 0,.int .i64 0,.int .i64 0,.int .i64 0,.slice none 0 0,.slice none 0 0] 28);have hq5:=hq4.below hb5 hq4.lt;have hrd5:=hrd4.keep hb5 hBw;have G5:=Zz0o G4 hb5;clear hrd4 hq4 G4 hgx hgxe hs3 hs4 hs2 hBw;go_wp2_with fail;generalize w4.alloc (.cells #[.int .i64 sq,.int .i64 nx,.int .i64 0,.int .i64 0,.int .i64 0,.int .i64 0,.slice none 0 0,.slice none 0 0] 28)=w5 at*;rw [HGX.out] at hx5;rw [HGX.out];clear hb5
 refine (Zz0t B g st2 1 w5 hrd5 (by omega) pk st3 H3.out).mono ?_;rintro e w6 ⟨rfl,hrd6,hg6,hs6⟩;have hq6:=hq5.grown hg6 (fun e=>by injection e with e;exact hwg e);have hx6:=hx5.grown hg6 (fun e=>by injection e with e;exact hgxg e);have G6:=Zz0c G5 hg6 (.inl rfl);clear hrd5 hq5 hx5 hg6 G5 hs6;go_wp2_with fail;refine (Zz0t B g st3 1 w6 hrd6 (by omega) ph st4 H4.out).mono ?_;rintro e w7 ⟨rfl,hrd7,hg7,hs7⟩;have hq7:=hq6.grown hg7 (fun e=>by injection e with e;exact hwg e);have hx7:=hx6.grown hg7 (fun e=>by injection e with e;exact hgxg e);have G7:=Zz0c G6 hg7 (.inl rfl);clear hrd6 hq6 hx6 hg7 G6 hs7;go_wp2_with fail;refine (Zz0t B g st4 1 w7 hrd7 (by omega) ps st5 H5.out).mono ?_
 rintro e w8 ⟨rfl,hrd8,hg8,hs8⟩;have hq8:=hq7.grown hg8 (fun e=>by injection e with e;exact hwg e);have hx8:=hx7.grown hg8 (fun e=>by injection e with e;exact hgxg e);have G8:=Zz0c G7 hg8 (.inl rfl);clear hrd7 hq7 hx7 hg8 G7 hs8;have k2:=hx8.cell 2;have k3:=hx8.cell 3;have k4:=hx8.cell 4;have z2:=hx8.frozen 2;have z3:=hx8.frozen 3;have z4:=hx8.frozen 4;simp only [ZgZ,ZgS] at k2 k3 k4;have hx9:=((hx8.set 2 (.int .i64 pk)).set 3 (.int .i64 ph)).set 4 (.int .i64 ps);simp only [List.set_cons_succ,List.set_cons_zero] at hx9;have hwgx:w.heap.size≠gx:=by have:=HGE.out;omega
 have hq9:=((hq8.far (p:=⟨gx,2,none⟩) hwgx (.int .i64 pk)).far (p:=⟨gx,3,none⟩) hwgx (.int .i64 ph)).far (p:=⟨gx,4,none⟩) hwgx (.int .i64 ps);have hrd9:=((hrd8.put_ hgxg (by omega) 2 (.int .i64 pk)).put_ hgxg (by omega) 3 (.int .i64 ph)).put_ hgxg (by omega) 4 (.int .i64 ps);have G9:=Zz06 (Zz06 (Zz06 G8 (k:=gx) (.inr hgxw) 2 (.int .i64 pk)) (k:=gx) (.inr hgxw) 3 (.int .i64 ph)) (k:=gx) (.inr hgxw) 4 (.int .i64 ps);go_upto_region 4 with fail;generalize ((w8.setCell ⟨gx,2,none⟩ (.int .i64 pk)).setCell ⟨gx,3,none⟩ (.int .i64 ph)).setCell ⟨gx,4,none⟩ (.int .i64 ps)=w9 at*;clear k2 k3 k4 z2 z3 z4 hx8 hq8 hrd8 G8;go_wp2_with fail;refine (Zz0t B g st5 1 w9 hrd9 (by omega) ex st6 H6.out).mono ?_
 rintro e w10 ⟨rfl,hrd10,hg10,hs10⟩;have hq10:=hq9.grown hg10 (fun e=>by injection e with e;exact hwg e);have hx10:=hx9.grown hg10 (fun e=>by injection e with e;exact hgxg e);have G10:=Zz0c G9 hg10 (.inl rfl);clear hrd9 hq9 hx9 hg10 G9 hs10;have k5:=hx10.cell 5;have z5:=hx10.frozen 5;simp only [ZgZ,ZgS] at k5;have hx11:=hx10.set 5 (.int .i64 ex);simp only [List.set_cons_succ,List.set_cons_zero] at hx11;have hq11:=hq10.far (p:=⟨gx,5,none⟩) hwgx (.int .i64 ex);have hrd11:=hrd10.put_ hgxg (by omega) 5 (.int .i64 ex);have G11:=Zz06 G10 (k:=gx) (.inr hgxw) 5 (.int .i64 ex);go_upto_region 5 with fail;generalize w10.setCell ⟨gx,5,none⟩ (.int .i64 ex)=w11 at*;clear k5 z5 hx10 hq10 hrd10 G10
 go_wp2_with fail;refine (Zz0t B g st6 1 w11 hrd11 (by omega) (md:Int) st7 H7.out).mono ?_;rintro e w12 ⟨rfl,hrd12,hg12,hs12⟩;have hq12:=hq11.grown hg12 (fun e=>by injection e with e;exact hwg e);have hx12:=hx11.grown hg12 (fun e=>by injection e with e;exact hgxg e);have G12:=Zz0c G11 hg12 (.inl rfl);have HQ12:=hid hq12;have HX12:=hid hx12;have HRD12:=hid hrd12;have HG12:=hid G12;clear hrd11 hq11 hx11 hg12 G11 hs12 hq12 hx12 hrd12 G12;go_wp2_with fail
 go_loopw [27] (fun i wr=>∃ (k:Nat) (ts:List Int) (A:Option Addr) (c:Nat) (sk:RSt),k≤md∧i= .int .i64 k∧ts.length=k∧Hid (ts++(rdTries (md - k) sk).1=drs∧(rdTries (md - k) sk).2=st8)∧Rd 164 B wr g sk∧Row wr gx 28 [.int .i64 sq,.int .i64 nx,.int .i64 pk,.int .i64 ph,.int .i64 ps,.int .i64 ex,.slice A k c,.slice none 0 0]∧Row wr w.heap.size 28 [.int .i64 0,.int .i64 0,.int .i64 0,.int .i64 0,.int .i64 0,.int .i64 0,.slice none 0 0,.slice none 0 0]∧wr.ownsRow w.heap.size 3 1 (.slice A k c) k (ts.map iv)∧w.grownBy wr (some g)) (fun i _=>md - (intOf i).toNat)
 case atStart=>exact ⟨0, [],none,0,st7,by omega,rfl,rfl,hid (by rw [Nat.sub_zero,H8.out];exact ⟨rfl,rfl⟩),HRD12.out,HX12.out,HQ12.out,World.ownsRow_nil _ _ _ _,HG12.out⟩
 case round=>
  obtain ⟨k,ts,A1,c1,sk,hk,rfl,hlk,HT,hrd,hxr,hqr,how,hgr⟩:=hrel;have GR:=hid hgr;have HQR:=hid hqr;have HLK:=hid hlk;clear hgr hqr hlk;have hgc:wr.cell? ⟨g,1,none⟩=some (.bool sk.2):=by
   obtain ⟨_,_,_,h1,_⟩:=hrd;exact h1.cell 1
  by_cases hgo:k < md∧sk.2=false
  ·obtain ⟨hlt,hbad⟩:=hgo
   obtain ⟨m,hm⟩:∃ m,md - k=m+1:=⟨md - k - 1,by omega⟩;have hT:=HT.out;rw [hm] at hT;rw [hbad] at hgc;obtain ⟨⟨zv,sk2⟩,hz⟩:∃ q,rdNum 1 sk=q:=⟨_,rfl⟩;have hT2:(ts++ [zv])++(rdTries m sk2).1=drs∧(rdTries m sk2).2=st8:=by
    rw [Zz3y hbad,hz] at hT;exact ⟨by rw [← hT.1,List.append_assoc];rfl,hT.2⟩
   have hm2:md - (k+1)=m:=by omega
   rw [← hm2] at hT2;have HT2:=hid hT2;have HZ:=hid hz;have HXR:=hid hxr;have HRD:=hid hrd;have x3:wr.drew.cell? ⟨gx,6,none⟩=some (.slice A1 k c1):=hxr.cell 6;have hgl2:w.heap.size≤wr.heap.size:=GR.out.size;have hgx2:gx < wr.heap.size:=hxr.lt;have HOW:=hid how;clear hT hT2 hm hm2 hz hbad hxr hrd how;go_wp2_with fail;go_region_law (first
    | (refine step_append_lies _ rfl (.tmp 34) (.tmp 37) 22 rfl w.heap.size 3 i0 (.int .i64 0) 1 8 Tryz.underlying22 hi hz0 hz1 hz2 rfl (by omega) (.slice A1 k c1) k (ts.map iv) rfl ((how3.alloc _)) ⟨w3.heap.size,0,none⟩ 1 1 [.int .i64 zv] rfl rfl (World.news_of_block (heap_alloc_new w3 _)) (by simp [Value.oneCell']) (by omega) (by unfold maxLen;omega) (by omega) (by rw [show (w3.alloc (.cells #[.int .i64 zv] 3)).heap.size=w3.heap.size+1 by simp,HS3.out];exact ZnT hgl2 (Nat.le_succ _)) _ rfl ?_;intro ga ca wa oa gra hwha hlta;have hxa:=(hx3.alloc (.cells #[.int .i64 zv] 3)).appd1 (how3.alloc _) gra (by decide);have fa:=hxa.frozen 6;have ca3:=hxa.cell 6;simp only [ZgS,ZgZ] at ca3)
    | (go_simp;go_at_call 138;refine (Zz0t B g sk 1 wr.drew HRD.out.drew_ (by omega) zv sk2 HZ.out).mono ?_;rintro e w3 ⟨rfl,hrd3,hg3,hs3⟩;have HS3:=hid hs3;clear hs3;have hx3:=(Row.drew HXR.out).grown hg3 (fun e=>by injection e with e;exact hgxg e);have how3:=(World.ownsRow.drew_ HOW.out).kept hg3 (Zz38 HOW.out HRD.out);have x3':=hx3.cell 6;simp only [ZgS,ZgZ] at x3';have x3'':=Zz00 ((Below.refl w3.heap.size w3).alloc (ZnR _) (.cells #[.int .i64 zv] 3)) x3'))
   all_goals
    have how4:=how3.alloc (.cells #[.int .i64 zv] 3);have hqr4:=((Row.drew HQR.out).grown hg3 (fun e=>by injection e with e;exact hwg e)).alloc (.cells #[.int .i64 zv] 3);have hqra:=hqr4.appd1 how4 gra (by decide);have hrd4:=hrd3.keep ((Below.refl w3.heap.size w3).alloc (ZnR _) (.cells #[.int .i64 zv] 3)) (by rw [HS3.out];exact ZnT hB hgl2);have hrda:=hrd4.appd how4 gra (by decide) hB;have hga:=Zz3q (Zz0o (Zz0c GR.out (show wr.grownBy w3 (some g) from ⟨hg3.os,hg3.tape,hg3.output,hg3.size,hg3.block⟩) (.inl rfl)) ((Below.refl w3.heap.size w3).alloc (ZnR _) (.cells #[.int .i64 zv] 3))) how4 gra;have hxf:=hid (hxa.set 6 (.slice (some ⟨ga,0,none⟩) (k+1) ca))
    have hqrf:=hid (hqra.far (p:=⟨gx,6,none⟩) hwgx (.slice (some ⟨ga,0,none⟩) (k+1) ca));have hrdf:=hid (hrda.put_ (k:=gx) hgxg (by omega) 6 (.slice (some ⟨ga,0,none⟩) (k+1) ca));have hoaf:=hid (oa.far_ hxa (by decide) 6 (.slice (some ⟨ga,0,none⟩) (k+1) ca));have hgaf:=hid (Zz06 hga (k:=gx) (.inr hgxw) 6 (.slice (some ⟨ga,0,none⟩) (k+1) ca));clear how4 hqr4 hqra hrd4 hrda hga hxa oa gra hwha hlta how3 hx3 hg3 hrd3 x3' x3'' fa ca3 x3;go_wp2_with fail;go_roundw
    case rel=>exact ⟨k+1,ts++ [zv],some ⟨ga,0,none⟩,ca,sk2,by omega,by go_num,by rw [List.length_append,HLK.out];rfl,HT2,hrdf.out,hxf.out,hqrf.out,by have:=hoaf.out;rw [List.map_append];exact this,hgaf.out⟩
    case measure=>simp [intOf];omega
  ·have hT2:drs=ts∧st8=sk:=by
    have hT:=HT.out;by_cases hlt:k < md
    ·have hbad:sk.2=true:=by
      cases hb:sk.2 with
      | true=>rfl
      | false=>exact absurd ⟨hlt,hb⟩ hgo
     rw [Zz2x hbad] at hT;exact ⟨by rw [← hT.1,List.append_nil],hT.2.symm⟩
    ·have hkc:k=md:=by omega
     rw [hkc,Nat.sub_self] at hT;unfold rdTries at hT;exact ⟨by rw [← hT.1,List.append_nil],hT.2.symm⟩
   obtain ⟨rfl,rfl⟩:=hT2;have hways:(k < md∧st8.2=true)∨¬ k < md:=by
    by_cases hlt:k < md
    ·left
     refine ⟨hlt,?_⟩;cases hb:st8.2 with
     | true=>rfl
     | false=>exact absurd ⟨hlt,hb⟩ hgo
    ·exact .inr hlt
   have HRD:=hid hrd;have HXR:=hid hxr;have HOW:=hid how;have HGC:=hid hgc;clear hgo HT hrd hxr how hgc;rcases hways with ⟨w1,w2⟩ | w1
   ·have hgc:=HGC.out
    rw [w2] at hgc;have W2:=hid w2;clear w2;go_wp2_with fail;refine (Zz0t B g st8 1 wr HRD.out (by omega) (mo:Int) st9 H9.out).mono ?_;rintro e w13 ⟨rfl,hrd13,hg13,hs13⟩;have hq13:=hid (HQR.out.grown hg13 (fun e=>by injection e with e;exact hwg e));have hx13:=hid (HXR.out.grown hg13 (fun e=>by injection e with e;exact hgxg e));have how13:=hid (HOW.out.kept hg13 (Zz38 HOW.out HRD.out));have G13:=hid (Zz0c GR.out hg13 (.inl rfl));have HRD13:=hid hrd13;clear hg13 hs13 hrd13;go_wp2_with fail
    go_loopw [43] (fun i wr=>∃ (j:Nat) (es:List Ent) (tvs:List Value) (A2:Option Addr) (c2:Nat) (sk2:RSt),j≤mo∧i= .int .i64 j∧es.length=j∧Hid (es++(rdEnts ⟨pk,ph,ps⟩ (mo - j) sk2).1=obs∧(rdEnts ⟨pk,ph,ps⟩ (mo - j) sk2).2=st10)∧Rd 164 B wr g sk2∧Row wr gx 28 [.int .i64 sq,.int .i64 nx,.int .i64 pk,.int .i64 ph,.int .i64 ps,.int .i64 ex,.slice A1 k c1,.slice A2 j c2]∧Row wr w.heap.size 28 [.int .i64 0,.int .i64 0,.int .i64 0,.int .i64 0,.int .i64 0,.int .i64 0,.slice none 0 0,.slice none 0 0]∧wr.ownsRow w.heap.size 3 1 (.slice A1 k c1) k (drs.map iv)∧OEs w.heap.size wr (.slice A2 j c2) tvs es∧w.grownBy wr (some g)) (fun i _=>mo - (intOf i).toNat)
    case atStart=>exact ⟨0, [], [],none,0,st9,by omega,rfl,rfl,hid (by rw [Nat.sub_zero,H10.out];exact ⟨rfl,rfl⟩),HRD13.out,hx13.out,hq13.out,how13.out,OEs.nil_ _ _,G13.out⟩
    case round=>
     obtain ⟨j,es,tvs,A2,c2,sk2,hj,rfl,hlj,HT2,hrd,hxr,hqr,how,hoe,hgr⟩:=hrel;have GR2:=hid hgr;have HQR2:=hid hqr;have HLJ:=hid hlj;clear hgr hqr hlj;have hgc2:wr.cell? ⟨g,1,none⟩=some (.bool sk2.2):=by
      obtain ⟨_,_,_,h1,_⟩:=hrd;exact h1.cell 1
     by_cases hgo2:j < mo∧sk2.2=false
     ·obtain ⟨hlt2,hbad2⟩:=hgo2
      obtain ⟨m,hm⟩:∃ m,mo - j=m+1:=⟨mo - j - 1,by omega⟩;have hT:=HT2.out;rw [hm] at hT;rw [hbad2] at hgc2;obtain ⟨⟨x,sk3⟩,hz⟩:∃ q,rdEnt ⟨pk,ph,ps⟩ sk2=q:=⟨_,rfl⟩;have hT3:(es++ [x])++(rdEnts ⟨pk,ph,ps⟩ m sk3).1=obs∧(rdEnts ⟨pk,ph,ps⟩ m sk3).2=st10:=by
       rw [Zz8b hbad2,hz] at hT;exact ⟨by rw [← hT.1,List.append_assoc];rfl,hT.2⟩
      have hm2:mo - (j+1)=m:=by omega
      rw [← hm2] at hT3;have HT3:=hid hT3;have HZ:=hid hz;have HXR2:=hid hxr;have HRD2:=hid hrd;have x7:wr.drew.cell? ⟨gx,7,none⟩=some (.slice A2 j c2):=hxr.cell 7;have p2:wr.drew.cell? ⟨gx,2,none⟩=some (.int .i64 pk):=hxr.cell 2;have p3:wr.drew.cell? ⟨gx,3,none⟩=some (.int .i64 ph):=hxr.cell 3;have p4:wr.drew.cell? ⟨gx,4,none⟩=some (.int .i64 ps):=hxr.cell 4;have hgl2:w.heap.size≤wr.heap.size:=GR2.out.size;have HOW2:=hid how;have HOE2:=hid hoe;have HVP:=hid (show Par.val ⟨pk,ph,ps⟩= .agg #[.int .i64 pk,.int .i64 ph,.int .i64 ps] from rfl);clear hT hT3 hm hm2 hz hbad2 hxr hrd how hoe;go_wp2_with fail;go_region_law (first
       | (refine step_append_lies _ rfl (.tmp 50) (.tmp 55) 26 rfl w.heap.size 61 i1 (.agg #[.string ⟨#[]⟩,.int .i64 0,.int .i64 0,.slice none 0 0]) 4 56 Tryz.underlying26 hi' hz0' hz1' hz2' rfl (by omega) (.slice A2 j c2) j (entsC es tvs) rfl (hoe3.own_.alloc _) ⟨w3.heap.size,0,none⟩ 1 1 [.string (strB x.name),.int .i64 x.obj,.int .i64 x.len,.slice Ax nx' cx] rfl rfl (World.news_of_block (heap_alloc_new w3 _)) (by simp [Value.oneCell']) (by omega) (by unfold maxLen;omega) (by omega) (by simp;omega) _ rfl ?_;intro ga ca wa oa gra hwha hlta;have hxa:=(hx3.alloc (entObj 61 x (.slice Ax nx' cx))).ownr (hoe3.own_.alloc _) gra (by decide);have fa:=hxa.frozen 7;have ca3:=hxa.cell 7;simp only [ZgS,ZgZ] at ca3)
       | (go_simp;go_at_call 139;refine (Zz85 B g sk2 ⟨pk,ph,ps⟩ wr.drew HRD2.out.drew_ x sk3 HZ.out).mono ?_;rintro e w3 ⟨Ax,nx',cx,rfl,hxl,hox,hrd3,hg3⟩;unfold Ent.val;have hz3:w.heap.size≤w3.heap.size:=ZnT hgl2 hg3.size;have hx3:=(Row.drew HXR2.out).grown hg3 (fun e=>by injection e with e;exact hgxg e);have hoe3:OEn w.heap.size w3 (.slice A2 j c2) tvs es j:=⟨HOE2.out.drew_.otherR hg3 HRD2.out.drew_,HLJ.out⟩;have HOX:=hid hox;have HXL:=hid hxl;clear hxl hox;have x7':=hx3.cell 7;simp only [ZgS,ZgZ] at x7';have x7'':=Zz00 ((Below.refl w3.heap.size w3).alloc (ZnR _) (entObj 61 x (.slice Ax nx' cx))) x7'))
      all_goals
       have hox3:w3.ownsRow w.heap.size 3 1 (.slice Ax nx' cx) x.tries.length (x.tries.map iv):=by rw [HXL.out];exact Zz0b HOX.out hgl2
       have hoe4:=hoe3.1.below ((Below.refl w3.heap.size w3).alloc (ZnR _) (entObj 61 x (.slice Ax nx' cx)));have hown4:=hoe3.own_.alloc (entObj 61 x (.slice Ax nx' cx));have hoea:=hoe4.push (tv:= .slice Ax nx' cx) (x:=x) (A:=Ax) (c:=cx) (by rw [HXL.out]) (hox3.alloc (entObj 61 x (.slice Ax nx' cx))) (by rw [HLJ.out];exact oa) gra;have how4:=((World.ownsRow.drew_ HOW2.out).kept hg3 (Zz38 HOW2.out HRD2.out)).alloc (entObj 61 x (.slice Ax nx' cx));have howa:=how4.kept gra (Zz0i how4 hown4 (by decide));have hqr4:=((Row.drew HQR2.out).grown hg3 (fun e=>by injection e with e;exact hwg e)).alloc (entObj 61 x (.slice Ax nx' cx));have hqra:=hqr4.ownr hown4 gra (by decide)
       have hrd4:=hrd3.keep ((Below.refl w3.heap.size w3).alloc (ZnR _) (entObj 61 x (.slice Ax nx' cx))) (ZnT hB hz3);have hrda:=hrd4.appd hown4 gra (by decide) hB;have hga:=Zz3q (Zz0o (Zz0c GR2.out (show wr.grownBy w3 (some g) from ⟨hg3.os,hg3.tape,hg3.output,hg3.size,hg3.block⟩) (.inl rfl)) ((Below.refl w3.heap.size w3).alloc (ZnR _) (entObj 61 x (.slice Ax nx' cx)))) hown4 gra;have hxf:=hid (hxa.set 7 (.slice (some ⟨ga,0,none⟩) (j+1) ca));have hqrf:=hid (hqra.far (p:=⟨gx,7,none⟩) hwgx (.slice (some ⟨ga,0,none⟩) (j+1) ca));have hrdf:=hid (hrda.put_ (k:=gx) hgxg (by omega) 7 (.slice (some ⟨ga,0,none⟩) (j+1) ca))
       have howf:=hid (howa.far_ hxa (by decide) 7 (.slice (some ⟨ga,0,none⟩) (j+1) ca));have hoef:=hid (hoea.other (Zz06 (Zz13 (Below.refl _ _) (some gx)) (.inl rfl) 7 (.slice (some ⟨ga,0,none⟩) (j+1) ca)) hxa (by decide) (by decide));have hgaf:=hid (Zz06 hga (k:=gx) (.inr hgxw) 7 (.slice (some ⟨ga,0,none⟩) (j+1) ca));clear hox3 hoe4 hown4 hoea how4 howa hqr4 hqra hrd4 hrda hga hxa oa gra hwha hlta hoe3 hx3 hg3 hrd3 x7' x7'' fa ca3 x7 p2 p3 p4;go_wp2_with fail;go_roundw
       case rel=>exact ⟨j+1,es++ [x],_,some ⟨ga,0,none⟩,ca,sk3,by omega,by go_num,by rw [List.length_append,HLJ.out];rfl,HT3,hrdf.out,hxf.out,hqrf.out,howf.out,hoef.out,hgaf.out⟩
       case measure=>simp [intOf];omega
     ·have hT3:obs=es∧st10=sk2:=by
       have hT:=HT2.out;by_cases hlt:j < mo
       ·have hbad:sk2.2=true:=by
         cases hb:sk2.2 with
         | true=>rfl
         | false=>exact absurd ⟨hlt,hb⟩ hgo2
        rw [Zz6l hbad] at hT;exact ⟨by rw [← hT.1,List.append_nil],hT.2.symm⟩
       ·have hkc:j=mo:=by omega
        rw [hkc,Nat.sub_self] at hT;unfold rdEnts at hT;exact ⟨by rw [← hT.1,List.append_nil],hT.2.symm⟩
      obtain ⟨rfl,rfl⟩:=hT3;have hways2:(j < mo∧st10.2=true)∨¬ j < mo:=by
       by_cases hlt:j < mo
       ·left
        refine ⟨hlt,?_⟩;cases hb:st10.2 with
        | true=>rfl
        | false=>exact absurd ⟨hlt,hb⟩ hgo2
       ·exact .inr hlt
      have HXR2:=hid hxr;have HOW2:=hid how;have HOE2:=hid hoe;have HGC2:=hid hgc2;clear hgo2 HT2 hrd hxr how hoe hgc2;rcases hways2 with ⟨v1,v2⟩ | v1
      ·have hbn:r=none:=by rw [HR.out,if_neg (fun h=>by rw [v2] at h;cases h.1)]
       have hgc2:=HGC2.out;rw [v2] at hgc2;subst hbn;clear v2;obtain ⟨m0,m1,m2,m3,m4,m5,m6,m7⟩:=MCells.of_row (m:=⟨sq,nx,⟨pk,ph,ps⟩,ex,drs,obs⟩) (dv:= .slice A1 k c1) (ov:= .slice A2 j c2) HXR2.out;have HQE:=hid HQR2.out;have GRE:=hid GR2.out;have r0:=HQE.out.cell 0;have r1:=HQE.out.cell 1;have r2:=HQE.out.cell 2;have r3:=HQE.out.cell 3;have r4:=HQE.out.cell 4;have r5:=HQE.out.cell 5;have r6:=HQE.out.cell 6;have r7:=HQE.out.cell 7;have z0:=HQE.out.frozen 0;have z1:=HQE.out.frozen 1;have z2:=HQE.out.frozen 2;have z3:=HQE.out.frozen 3;have z4:=HQE.out.frozen 4;have z5:=HQE.out.frozen 5;have z6:=HQE.out.frozen 6;have z7:=HQE.out.frozen 7;simp only [ZgS,ZgZ] at r0 r1 r2 r3 r4 r5 r6 r7
       have R8:=hid (row8m HQE.out (.int .i64 0) (.int .i64 0) (.int .i64 0) (.int .i64 0) (.int .i64 0) (.int .i64 0) (.slice none 0 0) (.slice none 0 0));have G8:=hid (grown8m GRE.out (g:=w.heap.size) (ZnR _) (.int .i64 0) (.int .i64 0) (.int .i64 0) (.int .i64 0) (.int .i64 0) (.int .i64 0) (.slice none 0 0) (.slice none 0 0));go_wp2_with fail;obtain ⟨q0,q1,q2,q3,q4,q5,q6,q7⟩:=Row.c8 R8.out;refine bodyPost_ret (v:= .tuple #[Mani.zero.val (.slice none 0 0) (.slice none 0 0),.bool false]) ?_ rfl ⟨none,0,0,none,0,0, [],rfl,⟨World.ownsRow_nil _ _ _ _,rfl,OEs.nil_ _ _,rfl⟩,Zz0f G8.out hgw⟩;simp [results,Tryz.results123,go_sem,q0,q1,q2,q3,q4,q5,q6,q7]
       rfl
      ·cases hb10:st10.2 with
       | true=>
        have hbn:r=none:=by rw [HR.out,if_neg (fun h=>by rw [hb10] at h;cases h.1)]
        have hgc2:=HGC2.out;rw [hb10] at hgc2;subst hbn;clear hb10;obtain ⟨m0,m1,m2,m3,m4,m5,m6,m7⟩:=MCells.of_row (m:=(⟨sq,nx,⟨pk,ph,ps⟩,ex,drs,obs⟩:Mani)) (dv:= .slice A1 k c1) (ov:= .slice A2 j c2) HXR2.out;have HQE:=hid HQR2.out;have GRE:=hid GR2.out;have r0:=HQE.out.cell 0;have r1:=HQE.out.cell 1;have r2:=HQE.out.cell 2;have r3:=HQE.out.cell 3;have r4:=HQE.out.cell 4;have r5:=HQE.out.cell 5;have r6:=HQE.out.cell 6;have r7:=HQE.out.cell 7;have z0:=HQE.out.frozen 0;have z1:=HQE.out.frozen 1;have z2:=HQE.out.frozen 2;have z3:=HQE.out.frozen 3;have z4:=HQE.out.frozen 4;have z5:=HQE.out.frozen 5;have z6:=HQE.out.frozen 6;have z7:=HQE.out.frozen 7
        simp only [ZgS,ZgZ] at r0 r1 r2 r3 r4 r5 r6 r7;have R8:=hid (row8m HQE.out (.int .i64 0) (.int .i64 0) (.int .i64 0) (.int .i64 0) (.int .i64 0) (.int .i64 0) (.slice none 0 0) (.slice none 0 0));have G8:=hid (grown8m GRE.out (g:=w.heap.size) (ZnR _) (.int .i64 0) (.int .i64 0) (.int .i64 0) (.int .i64 0) (.int .i64 0) (.int .i64 0) (.slice none 0 0) (.slice none 0 0));go_wp2_with fail;obtain ⟨q0,q1,q2,q3,q4,q5,q6,q7⟩:=Row.c8 R8.out;refine bodyPost_ret (v:= .tuple #[Mani.zero.val (.slice none 0 0) (.slice none 0 0),.bool false]) ?_ rfl ⟨none,0,0,none,0,0, [],rfl,⟨World.ownsRow_nil _ _ _ _,rfl,OEs.nil_ _ _,rfl⟩,Zz0f G8.out hgw⟩
        simp [results,Tryz.results123,go_sem,q0,q1,q2,q3,q4,q5,q6,q7]
        rfl
       | false=>
        have hgc2:=HGC2.out;rw [hb10] at hgc2;have HB10:=hid hb10;clear hb10;obtain ⟨m0,m1,m2,m3,m4,m5,m6,m7⟩:=MCells.of_row (m:=(⟨sq,nx,⟨pk,ph,ps⟩,ex,drs,obs⟩:Mani)) (dv:= .slice A1 k c1) (ov:= .slice A2 j c2) HXR2.out;dsimp only at m0 m1 m2 m3 m4 m5 m6 m7;by_cases hn0:n=0
        ·have hl0:l= []:=List.eq_nil_of_length_eq_zero (by rw [HL.out];exact hn0)
         have hbn:r=none:=by rw [HR.out,if_neg (fun h=>h.2.1 hl0)]
         subst hbn;subst hn0;clear hl0;have HQE:=hid HQR2.out;have GRE:=hid GR2.out;have r0:=HQE.out.cell 0;have r1:=HQE.out.cell 1;have r2:=HQE.out.cell 2;have r3:=HQE.out.cell 3;have r4:=HQE.out.cell 4;have r5:=HQE.out.cell 5;have r6:=HQE.out.cell 6;have r7:=HQE.out.cell 7;have z0:=HQE.out.frozen 0;have z1:=HQE.out.frozen 1;have z2:=HQE.out.frozen 2;have z3:=HQE.out.frozen 3;have z4:=HQE.out.frozen 4;have z5:=HQE.out.frozen 5;have z6:=HQE.out.frozen 6;have z7:=HQE.out.frozen 7;simp only [ZgS,ZgZ] at r0 r1 r2 r3 r4 r5 r6 r7;have R8:=hid (row8m HQE.out (.int .i64 0) (.int .i64 0) (.int .i64 0) (.int .i64 0) (.int .i64 0) (.int .i64 0) (.slice none 0 0) (.slice none 0 0))
         have G8:=hid (grown8m GRE.out (g:=w.heap.size) (ZnR _) (.int .i64 0) (.int .i64 0) (.int .i64 0) (.int .i64 0) (.int .i64 0) (.int .i64 0) (.slice none 0 0) (.slice none 0 0));go_wp2_with fail;obtain ⟨q0,q1,q2,q3,q4,q5,q6,q7⟩:=Row.c8 R8.out;refine bodyPost_ret (v:= .tuple #[Mani.zero.val (.slice none 0 0) (.slice none 0 0),.bool false]) ?_ rfl ⟨none,0,0,none,0,0, [],rfl,⟨World.ownsRow_nil _ _ _ _,rfl,OEs.nil_ _ _,rfl⟩,Zz0f G8.out hgw⟩;simp [results,Tryz.results123,go_sem,q0,q1,q2,q3,q4,q5,q6,q7]
         rfl
        ·have hn0i:((n:Int)==0)=false:=by simp;omega
         have hnl:l≠ []:=fun e=>hn0 (by rw [← HL.out,e];rfl)
         have HNL:=hid hnl;have hM:OM w.heap.size wr (⟨sq,nx,⟨pk,ph,ps⟩,ex,drs,obs⟩:Mani) A1 k c1 A2 j c2 tvs:=⟨HOW2.out,HLK.out,HOE2.out,HLJ.out⟩;have HMM:=hid hM;have HPK:=hid (Zz5e (⟨sq,nx,⟨pk,ph,ps⟩,ex,drs,obs⟩:Mani) wr.heap.size A1 A2 k c1 j c2 tvs wr hM.read (ZnR _) HM64.out.1 HM64.out.2);unfold Mani.val at HPK;dsimp only at HPK;have hbw:=Zz0f GR2.out hgw;have hzr:=hbw.size;have HSLR:=hid (HSL.out.below (hbw.mono hB));clear hM hn0 hnl;go_wp2_with fail;refine HPK.out.mono ?_;rintro e w14 ⟨Ap,np,cp,rfl,hpl,hp1000,hop,hb14⟩;obtain ⟨Ap',cp',ee,_,_,hsp⟩:=hop.read;rw [hpl] at ee hsp;injection ee with e1 e2 e3;subst e1 e3;clear e2;have hzp:=hb14.size
         have hsl14:=HSLR.out.below (hb14.mono (ZnT hB hzr));replace m0:=Zz00 hb14 m0;replace m1:=Zz00 hb14 m1;replace m2:=Zz00 hb14 m2;replace m3:=Zz00 hb14 m3;replace m4:=Zz00 hb14 m4;replace m5:=Zz00 hb14 m5;replace m6:=Zz00 hb14 m6;replace m7:=Zz00 hb14 m7;have HQE:=hid (HQR2.out.below hb14 HQR2.out.lt);have GRE:=hid (Zz0o GR2.out hb14);have HM14:=hid (HMM.out.below hb14);obtain ⟨rb,hrb⟩:∃ q,decide (l=pack (⟨sq,nx,⟨pk,ph,ps⟩,ex,drs,obs⟩:Mani))=q:=⟨_,rfl⟩;have HRB:=hid hrb;clear hrb hpl hop hb14 hgc2;go_wp2_with fail;refine (Zz1w rb w14.heap.size A Ap l (pack (⟨sq,nx,⟨pk,ph,ps⟩,ex,drs,obs⟩:Mani)) n np c cp w14 (hsl14.mono (ZnT (ZnT hB hzr) hzp)) hsp HRB.out).mono ?_
         rintro e w15 ⟨rfl,hw15⟩;rw [← hw15];clear hw15 w15 hsl14 hsp;cases rb with
         | false=>
          have hbn:r=none:=by rw [HR.out,if_neg (fun h=>by have:=HRB.out;rw [decide_eq_true h.2.2] at this;cases this)]
          subst hbn;have r0:=HQE.out.cell 0;have r1:=HQE.out.cell 1;have r2:=HQE.out.cell 2;have r3:=HQE.out.cell 3;have r4:=HQE.out.cell 4;have r5:=HQE.out.cell 5;have r6:=HQE.out.cell 6;have r7:=HQE.out.cell 7;have z0:=HQE.out.frozen 0;have z1:=HQE.out.frozen 1;have z2:=HQE.out.frozen 2;have z3:=HQE.out.frozen 3;have z4:=HQE.out.frozen 4;have z5:=HQE.out.frozen 5;have z6:=HQE.out.frozen 6;have z7:=HQE.out.frozen 7;simp only [ZgS,ZgZ] at r0 r1 r2 r3 r4 r5 r6 r7;have R8:=hid (row8m HQE.out (.int .i64 0) (.int .i64 0) (.int .i64 0) (.int .i64 0) (.int .i64 0) (.int .i64 0) (.slice none 0 0) (.slice none 0 0))
          have G8:=hid (grown8m GRE.out (g:=w.heap.size) (ZnR _) (.int .i64 0) (.int .i64 0) (.int .i64 0) (.int .i64 0) (.int .i64 0) (.int .i64 0) (.slice none 0 0) (.slice none 0 0));go_wp2_with fail;obtain ⟨q0,q1,q2,q3,q4,q5,q6,q7⟩:=Row.c8 R8.out;refine bodyPost_ret (v:= .tuple #[Mani.zero.val (.slice none 0 0) (.slice none 0 0),.bool false]) ?_ rfl ⟨none,0,0,none,0,0, [],rfl,⟨World.ownsRow_nil _ _ _ _,rfl,OEs.nil_ _ _,rfl⟩,Zz0f G8.out hgw⟩;simp [results,Tryz.results123,go_sem,q0,q1,q2,q3,q4,q5,q6,q7]
          rfl
         | true=>
          have hbs:r=some (⟨sq,nx,⟨pk,ph,ps⟩,ex,drs,obs⟩:Mani):=by rw [HR.out,if_pos ⟨HB10.out,HNL.out,of_decide_eq_true HRB.out⟩]
          subst hbs;have r0:=HQE.out.cell 0;have r1:=HQE.out.cell 1;have r2:=HQE.out.cell 2;have r3:=HQE.out.cell 3;have r4:=HQE.out.cell 4;have r5:=HQE.out.cell 5;have r6:=HQE.out.cell 6;have r7:=HQE.out.cell 7;have z0:=HQE.out.frozen 0;have z1:=HQE.out.frozen 1;have z2:=HQE.out.frozen 2;have z3:=HQE.out.frozen 3;have z4:=HQE.out.frozen 4;have z5:=HQE.out.frozen 5;have z6:=HQE.out.frozen 6;have z7:=HQE.out.frozen 7;simp only [ZgS,ZgZ] at r0 r1 r2 r3 r4 r5 r6 r7;have R8:=hid (row8m HQE.out (.int .i64 sq) (.int .i64 nx) (.int .i64 pk) (.int .i64 ph) (.int .i64 ps) (.int .i64 ex) (.slice A1 k c1) (.slice A2 j c2))
          have G8:=hid (grown8m GRE.out (g:=w.heap.size) (ZnR _) (.int .i64 sq) (.int .i64 nx) (.int .i64 pk) (.int .i64 ph) (.int .i64 ps) (.int .i64 ex) (.slice A1 k c1) (.slice A2 j c2));have HOM:=hid (HM14.out.other (grown8s w14 w.heap.size (.int .i64 sq) (.int .i64 nx) (.int .i64 pk) (.int .i64 ph) (.int .i64 ps) (.int .i64 ex) (.slice A1 k c1) (.slice A2 j c2)) HQE.out (by decide) (by decide));go_wp2_with fail;obtain ⟨q0,q1,q2,q3,q4,q5,q6,q7⟩:=Row.c8 R8.out;refine bodyPost_ret (v:= .tuple #[(⟨sq,nx,⟨pk,ph,ps⟩,ex,drs,obs⟩:Mani).val (.slice A1 k c1) (.slice A2 j c2),.bool true]) ?_ rfl ⟨A1,k,c1,A2,j,c2,tvs,rfl,HOM.out,Zz0f G8.out hgw⟩
          simp [results,Tryz.results123,go_sem,q0,q1,q2,q3,q4,q5,q6,q7]
          rfl
   ·go_wp2_with fail
    refine (Zz0t B g st8 1 wr HRD.out (by omega) (mo:Int) st9 H9.out).mono ?_;rintro e w13 ⟨rfl,hrd13,hg13,hs13⟩;have hq13:=hid (HQR.out.grown hg13 (fun e=>by injection e with e;exact hwg e));have hx13:=hid (HXR.out.grown hg13 (fun e=>by injection e with e;exact hgxg e));have how13:=hid (HOW.out.kept hg13 (Zz38 HOW.out HRD.out));have G13:=hid (Zz0c GR.out hg13 (.inl rfl));have HRD13:=hid hrd13;clear hg13 hs13 hrd13;go_wp2_with fail
    go_loopw [43] (fun i wr=>∃ (j:Nat) (es:List Ent) (tvs:List Value) (A2:Option Addr) (c2:Nat) (sk2:RSt),j≤mo∧i= .int .i64 j∧es.length=j∧Hid (es++(rdEnts ⟨pk,ph,ps⟩ (mo - j) sk2).1=obs∧(rdEnts ⟨pk,ph,ps⟩ (mo - j) sk2).2=st10)∧Rd 164 B wr g sk2∧Row wr gx 28 [.int .i64 sq,.int .i64 nx,.int .i64 pk,.int .i64 ph,.int .i64 ps,.int .i64 ex,.slice A1 k c1,.slice A2 j c2]∧Row wr w.heap.size 28 [.int .i64 0,.int .i64 0,.int .i64 0,.int .i64 0,.int .i64 0,.int .i64 0,.slice none 0 0,.slice none 0 0]∧wr.ownsRow w.heap.size 3 1 (.slice A1 k c1) k (drs.map iv)∧OEs w.heap.size wr (.slice A2 j c2) tvs es∧w.grownBy wr (some g)) (fun i _=>mo - (intOf i).toNat)
    case atStart=>exact ⟨0, [], [],none,0,st9,by omega,rfl,rfl,hid (by rw [Nat.sub_zero,H10.out];exact ⟨rfl,rfl⟩),HRD13.out,hx13.out,hq13.out,how13.out,OEs.nil_ _ _,G13.out⟩
    case round=>
     obtain ⟨j,es,tvs,A2,c2,sk2,hj,rfl,hlj,HT2,hrd,hxr,hqr,how,hoe,hgr⟩:=hrel;have GR2:=hid hgr;have HQR2:=hid hqr;have HLJ:=hid hlj;clear hgr hqr hlj;have hgc2:wr.cell? ⟨g,1,none⟩=some (.bool sk2.2):=by
      obtain ⟨_,_,_,h1,_⟩:=hrd;exact h1.cell 1
     by_cases hgo2:j < mo∧sk2.2=false
     ·obtain ⟨hlt2,hbad2⟩:=hgo2
      obtain ⟨m,hm⟩:∃ m,mo - j=m+1:=⟨mo - j - 1,by omega⟩;have hT:=HT2.out;rw [hm] at hT;rw [hbad2] at hgc2;obtain ⟨⟨x,sk3⟩,hz⟩:∃ q,rdEnt ⟨pk,ph,ps⟩ sk2=q:=⟨_,rfl⟩;have hT3:(es++ [x])++(rdEnts ⟨pk,ph,ps⟩ m sk3).1=obs∧(rdEnts ⟨pk,ph,ps⟩ m sk3).2=st10:=by
       rw [Zz8b hbad2,hz] at hT;exact ⟨by rw [← hT.1,List.append_assoc];rfl,hT.2⟩
      have hm2:mo - (j+1)=m:=by omega
      rw [← hm2] at hT3;have HT3:=hid hT3;have HZ:=hid hz;have HXR2:=hid hxr;have HRD2:=hid hrd;have x7:wr.drew.cell? ⟨gx,7,none⟩=some (.slice A2 j c2):=hxr.cell 7;have p2:wr.drew.cell? ⟨gx,2,none⟩=some (.int .i64 pk):=hxr.cell 2;have p3:wr.drew.cell? ⟨gx,3,none⟩=some (.int .i64 ph):=hxr.cell 3;have p4:wr.drew.cell? ⟨gx,4,none⟩=some (.int .i64 ps):=hxr.cell 4;have hgl2:w.heap.size≤wr.heap.size:=GR2.out.size;have HOW2:=hid how;have HOE2:=hid hoe;have HVP:=hid (show Par.val ⟨pk,ph,ps⟩= .agg #[.int .i64 pk,.int .i64 ph,.int .i64 ps] from rfl);clear hT hT3 hm hm2 hz hbad2 hxr hrd how hoe;go_wp2_with fail;go_region_law (first
       | (refine step_append_lies _ rfl (.tmp 50) (.tmp 55) 26 rfl w.heap.size 61 i1 (.agg #[.string ⟨#[]⟩,.int .i64 0,.int .i64 0,.slice none 0 0]) 4 56 Tryz.underlying26 hi' hz0' hz1' hz2' rfl (by omega) (.slice A2 j c2) j (entsC es tvs) rfl (hoe3.own_.alloc _) ⟨w3.heap.size,0,none⟩ 1 1 [.string (strB x.name),.int .i64 x.obj,.int .i64 x.len,.slice Ax nx' cx] rfl rfl (World.news_of_block (heap_alloc_new w3 _)) (by simp [Value.oneCell']) (by omega) (by unfold maxLen;omega) (by omega) (by simp;omega) _ rfl ?_;intro ga ca wa oa gra hwha hlta;have hxa:=(hx3.alloc (entObj 61 x (.slice Ax nx' cx))).ownr (hoe3.own_.alloc _) gra (by decide);have fa:=hxa.frozen 7;have ca3:=hxa.cell 7;simp only [ZgS,ZgZ] at ca3)
       | (go_simp;go_at_call 139;refine (Zz85 B g sk2 ⟨pk,ph,ps⟩ wr.drew HRD2.out.drew_ x sk3 HZ.out).mono ?_;rintro e w3 ⟨Ax,nx',cx,rfl,hxl,hox,hrd3,hg3⟩;unfold Ent.val;have hz3:w.heap.size≤w3.heap.size:=ZnT hgl2 hg3.size;have hx3:=(Row.drew HXR2.out).grown hg3 (fun e=>by injection e with e;exact hgxg e);have hoe3:OEn w.heap.size w3 (.slice A2 j c2) tvs es j:=⟨HOE2.out.drew_.otherR hg3 HRD2.out.drew_,HLJ.out⟩;have HOX:=hid hox;have HXL:=hid hxl;clear hxl hox;have x7':=hx3.cell 7;simp only [ZgS,ZgZ] at x7';have x7'':=Zz00 ((Below.refl w3.heap.size w3).alloc (ZnR _) (entObj 61 x (.slice Ax nx' cx))) x7'))
      all_goals
       have hox3:w3.ownsRow w.heap.size 3 1 (.slice Ax nx' cx) x.tries.length (x.tries.map iv):=by rw [HXL.out];exact Zz0b HOX.out hgl2
       have hoe4:=hoe3.1.below ((Below.refl w3.heap.size w3).alloc (ZnR _) (entObj 61 x (.slice Ax nx' cx)));have hown4:=hoe3.own_.alloc (entObj 61 x (.slice Ax nx' cx));have hoea:=hoe4.push (tv:= .slice Ax nx' cx) (x:=x) (A:=Ax) (c:=cx) (by rw [HXL.out]) (hox3.alloc (entObj 61 x (.slice Ax nx' cx))) (by rw [HLJ.out];exact oa) gra;have how4:=((World.ownsRow.drew_ HOW2.out).kept hg3 (Zz38 HOW2.out HRD2.out)).alloc (entObj 61 x (.slice Ax nx' cx));have howa:=how4.kept gra (Zz0i how4 hown4 (by decide));have hqr4:=((Row.drew HQR2.out).grown hg3 (fun e=>by injection e with e;exact hwg e)).alloc (entObj 61 x (.slice Ax nx' cx));have hqra:=hqr4.ownr hown4 gra (by decide)
       have hrd4:=hrd3.keep ((Below.refl w3.heap.size w3).alloc (ZnR _) (entObj 61 x (.slice Ax nx' cx))) (ZnT hB hz3);have hrda:=hrd4.appd hown4 gra (by decide) hB;have hga:=Zz3q (Zz0o (Zz0c GR2.out (show wr.grownBy w3 (some g) from ⟨hg3.os,hg3.tape,hg3.output,hg3.size,hg3.block⟩) (.inl rfl)) ((Below.refl w3.heap.size w3).alloc (ZnR _) (entObj 61 x (.slice Ax nx' cx)))) hown4 gra;have hxf:=hid (hxa.set 7 (.slice (some ⟨ga,0,none⟩) (j+1) ca));have hqrf:=hid (hqra.far (p:=⟨gx,7,none⟩) hwgx (.slice (some ⟨ga,0,none⟩) (j+1) ca));have hrdf:=hid (hrda.put_ (k:=gx) hgxg (by omega) 7 (.slice (some ⟨ga,0,none⟩) (j+1) ca))
       have howf:=hid (howa.far_ hxa (by decide) 7 (.slice (some ⟨ga,0,none⟩) (j+1) ca));have hoef:=hid (hoea.other (Zz06 (Zz13 (Below.refl _ _) (some gx)) (.inl rfl) 7 (.slice (some ⟨ga,0,none⟩) (j+1) ca)) hxa (by decide) (by decide));have hgaf:=hid (Zz06 hga (k:=gx) (.inr hgxw) 7 (.slice (some ⟨ga,0,none⟩) (j+1) ca));clear hox3 hoe4 hown4 hoea how4 howa hqr4 hqra hrd4 hrda hga hxa oa gra hwha hlta hoe3 hx3 hg3 hrd3 x7' x7'' fa ca3 x7 p2 p3 p4;go_wp2_with fail;go_roundw
       case rel=>exact ⟨j+1,es++ [x],_,some ⟨ga,0,none⟩,ca,sk3,by omega,by go_num,by rw [List.length_append,HLJ.out];rfl,HT3,hrdf.out,hxf.out,hqrf.out,howf.out,hoef.out,hgaf.out⟩
       case measure=>simp [intOf];omega
     ·have hT3:obs=es∧st10=sk2:=by
       have hT:=HT2.out;by_cases hlt:j < mo
       ·have hbad:sk2.2=true:=by
         cases hb:sk2.2 with
         | true=>rfl
         | false=>exact absurd ⟨hlt,hb⟩ hgo2
        rw [Zz6l hbad] at hT;exact ⟨by rw [← hT.1,List.append_nil],hT.2.symm⟩
       ·have hkc:j=mo:=by omega
        rw [hkc,Nat.sub_self] at hT;unfold rdEnts at hT;exact ⟨by rw [← hT.1,List.append_nil],hT.2.symm⟩
      obtain ⟨rfl,rfl⟩:=hT3;have hways2:(j < mo∧st10.2=true)∨¬ j < mo:=by
       by_cases hlt:j < mo
       ·left
        refine ⟨hlt,?_⟩;cases hb:st10.2 with
        | true=>rfl
        | false=>exact absurd ⟨hlt,hb⟩ hgo2
       ·exact .inr hlt
      have HXR2:=hid hxr;have HOW2:=hid how;have HOE2:=hid hoe;have HGC2:=hid hgc2;clear hgo2 HT2 hrd hxr how hoe hgc2;rcases hways2 with ⟨v1,v2⟩ | v1
      ·have hbn:r=none:=by rw [HR.out,if_neg (fun h=>by rw [v2] at h;cases h.1)]
       have hgc2:=HGC2.out;rw [v2] at hgc2;subst hbn;clear v2;obtain ⟨m0,m1,m2,m3,m4,m5,m6,m7⟩:=MCells.of_row (m:=⟨sq,nx,⟨pk,ph,ps⟩,ex,drs,obs⟩) (dv:= .slice A1 k c1) (ov:= .slice A2 j c2) HXR2.out;have HQE:=hid HQR2.out;have GRE:=hid GR2.out;have r0:=HQE.out.cell 0;have r1:=HQE.out.cell 1;have r2:=HQE.out.cell 2;have r3:=HQE.out.cell 3;have r4:=HQE.out.cell 4;have r5:=HQE.out.cell 5;have r6:=HQE.out.cell 6;have r7:=HQE.out.cell 7;have z0:=HQE.out.frozen 0;have z1:=HQE.out.frozen 1;have z2:=HQE.out.frozen 2;have z3:=HQE.out.frozen 3;have z4:=HQE.out.frozen 4;have z5:=HQE.out.frozen 5;have z6:=HQE.out.frozen 6;have z7:=HQE.out.frozen 7;simp only [ZgS,ZgZ] at r0 r1 r2 r3 r4 r5 r6 r7
       have R8:=hid (row8m HQE.out (.int .i64 0) (.int .i64 0) (.int .i64 0) (.int .i64 0) (.int .i64 0) (.int .i64 0) (.slice none 0 0) (.slice none 0 0));have G8:=hid (grown8m GRE.out (g:=w.heap.size) (ZnR _) (.int .i64 0) (.int .i64 0) (.int .i64 0) (.int .i64 0) (.int .i64 0) (.int .i64 0) (.slice none 0 0) (.slice none 0 0));go_wp2_with fail;obtain ⟨q0,q1,q2,q3,q4,q5,q6,q7⟩:=Row.c8 R8.out;refine bodyPost_ret (v:= .tuple #[Mani.zero.val (.slice none 0 0) (.slice none 0 0),.bool false]) ?_ rfl ⟨none,0,0,none,0,0, [],rfl,⟨World.ownsRow_nil _ _ _ _,rfl,OEs.nil_ _ _,rfl⟩,Zz0f G8.out hgw⟩;simp [results,Tryz.results123,go_sem,q0,q1,q2,q3,q4,q5,q6,q7]
       rfl
      ·cases hb10:st10.2 with
       | true=>
        have hbn:r=none:=by rw [HR.out,if_neg (fun h=>by rw [hb10] at h;cases h.1)]
        have hgc2:=HGC2.out;rw [hb10] at hgc2;subst hbn;clear hb10;obtain ⟨m0,m1,m2,m3,m4,m5,m6,m7⟩:=MCells.of_row (m:=(⟨sq,nx,⟨pk,ph,ps⟩,ex,drs,obs⟩:Mani)) (dv:= .slice A1 k c1) (ov:= .slice A2 j c2) HXR2.out;have HQE:=hid HQR2.out;have GRE:=hid GR2.out;have r0:=HQE.out.cell 0;have r1:=HQE.out.cell 1;have r2:=HQE.out.cell 2;have r3:=HQE.out.cell 3;have r4:=HQE.out.cell 4;have r5:=HQE.out.cell 5;have r6:=HQE.out.cell 6;have r7:=HQE.out.cell 7;have z0:=HQE.out.frozen 0;have z1:=HQE.out.frozen 1;have z2:=HQE.out.frozen 2;have z3:=HQE.out.frozen 3;have z4:=HQE.out.frozen 4;have z5:=HQE.out.frozen 5;have z6:=HQE.out.frozen 6;have z7:=HQE.out.frozen 7
        simp only [ZgS,ZgZ] at r0 r1 r2 r3 r4 r5 r6 r7;have R8:=hid (row8m HQE.out (.int .i64 0) (.int .i64 0) (.int .i64 0) (.int .i64 0) (.int .i64 0) (.int .i64 0) (.slice none 0 0) (.slice none 0 0));have G8:=hid (grown8m GRE.out (g:=w.heap.size) (ZnR _) (.int .i64 0) (.int .i64 0) (.int .i64 0) (.int .i64 0) (.int .i64 0) (.int .i64 0) (.slice none 0 0) (.slice none 0 0));go_wp2_with fail;obtain ⟨q0,q1,q2,q3,q4,q5,q6,q7⟩:=Row.c8 R8.out;refine bodyPost_ret (v:= .tuple #[Mani.zero.val (.slice none 0 0) (.slice none 0 0),.bool false]) ?_ rfl ⟨none,0,0,none,0,0, [],rfl,⟨World.ownsRow_nil _ _ _ _,rfl,OEs.nil_ _ _,rfl⟩,Zz0f G8.out hgw⟩
        simp [results,Tryz.results123,go_sem,q0,q1,q2,q3,q4,q5,q6,q7]
        rfl
       | false=>
        have hgc2:=HGC2.out;rw [hb10] at hgc2;have HB10:=hid hb10;clear hb10;obtain ⟨m0,m1,m2,m3,m4,m5,m6,m7⟩:=MCells.of_row (m:=(⟨sq,nx,⟨pk,ph,ps⟩,ex,drs,obs⟩:Mani)) (dv:= .slice A1 k c1) (ov:= .slice A2 j c2) HXR2.out;dsimp only at m0 m1 m2 m3 m4 m5 m6 m7;by_cases hn0:n=0
        ·have hl0:l= []:=List.eq_nil_of_length_eq_zero (by rw [HL.out];exact hn0)
         have hbn:r=none:=by rw [HR.out,if_neg (fun h=>h.2.1 hl0)]
         subst hbn;subst hn0;clear hl0;have HQE:=hid HQR2.out;have GRE:=hid GR2.out;have r0:=HQE.out.cell 0;have r1:=HQE.out.cell 1;have r2:=HQE.out.cell 2;have r3:=HQE.out.cell 3;have r4:=HQE.out.cell 4;have r5:=HQE.out.cell 5;have r6:=HQE.out.cell 6;have r7:=HQE.out.cell 7;have z0:=HQE.out.frozen 0;have z1:=HQE.out.frozen 1;have z2:=HQE.out.frozen 2;have z3:=HQE.out.frozen 3;have z4:=HQE.out.frozen 4;have z5:=HQE.out.frozen 5;have z6:=HQE.out.frozen 6;have z7:=HQE.out.frozen 7;simp only [ZgS,ZgZ] at r0 r1 r2 r3 r4 r5 r6 r7;have R8:=hid (row8m HQE.out (.int .i64 0) (.int .i64 0) (.int .i64 0) (.int .i64 0) (.int .i64 0) (.int .i64 0) (.slice none 0 0) (.slice none 0 0))
         have G8:=hid (grown8m GRE.out (g:=w.heap.size) (ZnR _) (.int .i64 0) (.int .i64 0) (.int .i64 0) (.int .i64 0) (.int .i64 0) (.int .i64 0) (.slice none 0 0) (.slice none 0 0));go_wp2_with fail;obtain ⟨q0,q1,q2,q3,q4,q5,q6,q7⟩:=Row.c8 R8.out;refine bodyPost_ret (v:= .tuple #[Mani.zero.val (.slice none 0 0) (.slice none 0 0),.bool false]) ?_ rfl ⟨none,0,0,none,0,0, [],rfl,⟨World.ownsRow_nil _ _ _ _,rfl,OEs.nil_ _ _,rfl⟩,Zz0f G8.out hgw⟩;simp [results,Tryz.results123,go_sem,q0,q1,q2,q3,q4,q5,q6,q7]
         rfl
        ·have hn0i:((n:Int)==0)=false:=by simp;omega
         have hnl:l≠ []:=fun e=>hn0 (by rw [← HL.out,e];rfl)
         have HNL:=hid hnl;have hM:OM w.heap.size wr (⟨sq,nx,⟨pk,ph,ps⟩,ex,drs,obs⟩:Mani) A1 k c1 A2 j c2 tvs:=⟨HOW2.out,HLK.out,HOE2.out,HLJ.out⟩;have HMM:=hid hM;have HPK:=hid (Zz5e (⟨sq,nx,⟨pk,ph,ps⟩,ex,drs,obs⟩:Mani) wr.heap.size A1 A2 k c1 j c2 tvs wr hM.read (ZnR _) HM64.out.1 HM64.out.2);unfold Mani.val at HPK;dsimp only at HPK;have hbw:=Zz0f GR2.out hgw;have hzr:=hbw.size;have HSLR:=hid (HSL.out.below (hbw.mono hB));clear hM hn0 hnl;go_wp2_with fail;refine HPK.out.mono ?_;rintro e w14 ⟨Ap,np,cp,rfl,hpl,hp1000,hop,hb14⟩;obtain ⟨Ap',cp',ee,_,_,hsp⟩:=hop.read;rw [hpl] at ee hsp;injection ee with e1 e2 e3;subst e1 e3;clear e2;have hzp:=hb14.size
         have hsl14:=HSLR.out.below (hb14.mono (ZnT hB hzr));replace m0:=Zz00 hb14 m0;replace m1:=Zz00 hb14 m1;replace m2:=Zz00 hb14 m2;replace m3:=Zz00 hb14 m3;replace m4:=Zz00 hb14 m4;replace m5:=Zz00 hb14 m5;replace m6:=Zz00 hb14 m6;replace m7:=Zz00 hb14 m7;have HQE:=hid (HQR2.out.below hb14 HQR2.out.lt);have GRE:=hid (Zz0o GR2.out hb14);have HM14:=hid (HMM.out.below hb14);obtain ⟨rb,hrb⟩:∃ q,decide (l=pack (⟨sq,nx,⟨pk,ph,ps⟩,ex,drs,obs⟩:Mani))=q:=⟨_,rfl⟩;have HRB:=hid hrb;clear hrb hpl hop hb14 hgc2;go_wp2_with fail;refine (Zz1w rb w14.heap.size A Ap l (pack (⟨sq,nx,⟨pk,ph,ps⟩,ex,drs,obs⟩:Mani)) n np c cp w14 (hsl14.mono (ZnT (ZnT hB hzr) hzp)) hsp HRB.out).mono ?_
         rintro e w15 ⟨rfl,hw15⟩;rw [← hw15];clear hw15 w15 hsl14 hsp;cases rb with
         | false=>
          have hbn:r=none:=by rw [HR.out,if_neg (fun h=>by have:=HRB.out;rw [decide_eq_true h.2.2] at this;cases this)]
          subst hbn;have r0:=HQE.out.cell 0;have r1:=HQE.out.cell 1;have r2:=HQE.out.cell 2;have r3:=HQE.out.cell 3;have r4:=HQE.out.cell 4;have r5:=HQE.out.cell 5;have r6:=HQE.out.cell 6;have r7:=HQE.out.cell 7;have z0:=HQE.out.frozen 0;have z1:=HQE.out.frozen 1;have z2:=HQE.out.frozen 2;have z3:=HQE.out.frozen 3;have z4:=HQE.out.frozen 4;have z5:=HQE.out.frozen 5;have z6:=HQE.out.frozen 6;have z7:=HQE.out.frozen 7;simp only [ZgS,ZgZ] at r0 r1 r2 r3 r4 r5 r6 r7;have R8:=hid (row8m HQE.out (.int .i64 0) (.int .i64 0) (.int .i64 0) (.int .i64 0) (.int .i64 0) (.int .i64 0) (.slice none 0 0) (.slice none 0 0))
          have G8:=hid (grown8m GRE.out (g:=w.heap.size) (ZnR _) (.int .i64 0) (.int .i64 0) (.int .i64 0) (.int .i64 0) (.int .i64 0) (.int .i64 0) (.slice none 0 0) (.slice none 0 0));go_wp2_with fail;obtain ⟨q0,q1,q2,q3,q4,q5,q6,q7⟩:=Row.c8 R8.out;refine bodyPost_ret (v:= .tuple #[Mani.zero.val (.slice none 0 0) (.slice none 0 0),.bool false]) ?_ rfl ⟨none,0,0,none,0,0, [],rfl,⟨World.ownsRow_nil _ _ _ _,rfl,OEs.nil_ _ _,rfl⟩,Zz0f G8.out hgw⟩;simp [results,Tryz.results123,go_sem,q0,q1,q2,q3,q4,q5,q6,q7]
          rfl
         | true=>
          have hbs:r=some (⟨sq,nx,⟨pk,ph,ps⟩,ex,drs,obs⟩:Mani):=by rw [HR.out,if_pos ⟨HB10.out,HNL.out,of_decide_eq_true HRB.out⟩]
          subst hbs;have r0:=HQE.out.cell 0;have r1:=HQE.out.cell 1;have r2:=HQE.out.cell 2;have r3:=HQE.out.cell 3;have r4:=HQE.out.cell 4;have r5:=HQE.out.cell 5;have r6:=HQE.out.cell 6;have r7:=HQE.out.cell 7;have z0:=HQE.out.frozen 0;have z1:=HQE.out.frozen 1;have z2:=HQE.out.frozen 2;have z3:=HQE.out.frozen 3;have z4:=HQE.out.frozen 4;have z5:=HQE.out.frozen 5;have z6:=HQE.out.frozen 6;have z7:=HQE.out.frozen 7;simp only [ZgS,ZgZ] at r0 r1 r2 r3 r4 r5 r6 r7;have R8:=hid (row8m HQE.out (.int .i64 sq) (.int .i64 nx) (.int .i64 pk) (.int .i64 ph) (.int .i64 ps) (.int .i64 ex) (.slice A1 k c1) (.slice A2 j c2))
          have G8:=hid (grown8m GRE.out (g:=w.heap.size) (ZnR _) (.int .i64 sq) (.int .i64 nx) (.int .i64 pk) (.int .i64 ph) (.int .i64 ps) (.int .i64 ex) (.slice A1 k c1) (.slice A2 j c2));have HOM:=hid (HM14.out.other (grown8s w14 w.heap.size (.int .i64 sq) (.int .i64 nx) (.int .i64 pk) (.int .i64 ph) (.int .i64 ps) (.int .i64 ex) (.slice A1 k c1) (.slice A2 j c2)) HQE.out (by decide) (by decide));go_wp2_with fail;obtain ⟨q0,q1,q2,q3,q4,q5,q6,q7⟩:=Row.c8 R8.out;refine bodyPost_ret (v:= .tuple #[(⟨sq,nx,⟨pk,ph,ps⟩,ex,drs,obs⟩:Mani).val (.slice A1 k c1) (.slice A2 j c2),.bool true]) ?_ rfl ⟨A1,k,c1,A2,j,c2,tvs,rfl,HOM.out,Zz0f G8.out hgw⟩
          simp [results,Tryz.results123,go_sem,q0,q1,q2,q3,q4,q5,q6,q7]
          rfl
end Go.Proofs.YtnknjeipfjdjoaaGreatDoor
namespace Wells
open Go Go.RowKit
def mani0:Mani:=⟨1,0,⟨1,1,1⟩,0, [3], []⟩
theorem Zzdb:mani0.may=true:=by decide+kernel
theorem Zz8c:(pack mani0).length=15:=by decide+kernel
theorem Zzb2:M64 mani0:=⟨by unfold i64;decide,by unfold i64;decide,by unfold i64;decide,by unfold i64;decide,by unfold i64;decide,by unfold i64;decide,fun z h=>by unfold i64;simp [mani0] at h;omega,fun e h=>by cases h⟩
theorem Zzcz:∀ e∈mani0.objs,e.name.length≤1048576:=fun e h=>by cases h
theorem REs.nil_ (w:World) (B:Nat) (A:Option Addr):REs w B A 0 [] []:=⟨Sl.nil_,rfl,rfl,fun i hi=>absurd hi (by omega)⟩
theorem Zzh8 {w:World} {B g c:Nat} {A:Option Addr} (h:Sl w B 1 (some ⟨g,0,none⟩) 1 [.int .i64 3]) (hc:1≤c∧c≤9223372036854775807):RM w B mani0 (some ⟨g,0,none⟩) 1 c A 0 0 []:=
 ⟨h,rfl,hc,REs.nil_ _ _ _,by omega⟩
end Wells
namespace Go.Proofs.YtnknjeipfjdjoaaGreatDoor
open Go.RowKit Wells
end Go.Proofs.YtnknjeipfjdjoaaGreatDoor
