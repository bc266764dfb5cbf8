/- TakeRec RefTakeRec -/
import Derived.Deep.RegionHeld3
import Derived.BigGuardPart
import Derived.Deep.DeepCutAuto
import Derived.Test.YtnknjeipfjdjoaaGreatDoorBScanTells16
set_option maxHeartbeats 8000000
set_option maxRecDepth 20000
set_option linter.unusedSimpArgs false
set_option linter.unusedVariables false
namespace Wells
open Go Go.RowKit
theorem Zz17 (x:BL) (k:Nat) (h:k < x.length):numL ((x.drop k).take 1)=byteI x k:=by
 rw [List.drop_eq_getElem_cons h,List.take_succ_cons,List.take_zero];unfold numL byteI;rw [ZgD,ZgE h];simp only [List.foldl_cons,List.foldl_nil,Option.getD_some];omega
theorem Zzc8 {l x:BL} {k:Byte} (h:takeP l=some (k,x)):takeR l=if k=1#8∧(parseP x).may=true∧putR (parseR x)=l then some (parseR x) else none:=by
 unfold takeR;rw [h]
end Wells
namespace Go.Proofs.YtnknjeipfjdjoaaGreatDoor
open Go.RowKit Wells
theorem put3 {B:Nat} {w:World} (h:B≤w.heap.size) (i j k:Nat) (a b c:Value):Below B w (((w.setCell ⟨B,i,none⟩ a).setCell ⟨B,j,none⟩ b).setCell ⟨B,k,none⟩ c):=
 Zz0e (Zz0e (Zz0e (Below.refl _ _) _ _ (ZnR _) h _) _ _ (ZnR _) (by simpa [World.setCell] using h) _) _ _ (ZnR _) (by simpa [World.setCell] using h) _
theorem row8 {w:World} {g:Nat} {t:TypeId} {z0 z1 z2 z3 z4 z5 z6 z7:Value} (h:Row w g t [z0,z1,z2,z3,z4,z5,z6,z7]) (a0 a1 a2 a3 a4 a5 a6 a7:Value):Row ((((((((w.setCell ⟨g,0,none⟩ a0).setCell ⟨g,1,none⟩ a1).setCell ⟨g,2,none⟩ a2).setCell ⟨g,3,none⟩ a3).setCell ⟨g,4,none⟩ a4).setCell ⟨g,5,none⟩ a5).setCell ⟨g,6,none⟩ a6).setCell ⟨g,7,none⟩ a7) g t [a0,a1,a2,a3,a4,a5,a6,a7]:=((((((((h.set 0 a0).set 1 a1).set 2 a2).set 3 a3).set 4 a4).set 5 a5).set 6 a6).set 7 a7)
theorem below8 {w0 w:World} {g B:Nat} (h:Below B w0 w) (hg:B≤g) (hs:B≤w.heap.size) (a0 a1 a2 a3 a4 a5 a6 a7:Value):Below B w0 ((((((((w.setCell ⟨g,0,none⟩ a0).setCell ⟨g,1,none⟩ a1).setCell ⟨g,2,none⟩ a2).setCell ⟨g,3,none⟩ a3).setCell ⟨g,4,none⟩ a4).setCell ⟨g,5,none⟩ a5).setCell ⟨g,6,none⟩ a6).setCell ⟨g,7,none⟩ a7):=
 (Zz0e (Zz0e (Zz0e (Zz0e (Zz0e (Zz0e (Zz0e (Zz0e h _ _ hg (by simpa [World.setCell] using hs) _) _ _ hg (by simpa [World.setCell] using hs) _) _ _ hg (by simpa [World.setCell] using hs) _) _ _ hg (by simpa [World.setCell] using hs) _) _ _ hg (by simpa [World.setCell] using hs) _) _ _ hg (by simpa [World.setCell] using hs) _) _ _ hg (by simpa [World.setCell] using hs) _) _ _ hg (by simpa [World.setCell] using hs) _)
theorem Zz5b {base g:Nat} {w:World} {v:Value} {l:BL} (h:OB base w v l) (hg:g < base) (i:Nat) (x:Value):OB base (w.setCell ⟨g,i,none⟩ x) v l:=
 h.keep (row:=some g) ⟨rfl,rfl,rfl,by simp [World.setCell],fun k _ hne=>Below.heap_setCell w ⟨g,i,none⟩ x k (fun e=>hne (by rw [e]))⟩ (by
  cases hb:v.ownBlock with
  | none=>left;rfl
  | some k=>right;intro e;injection e with e;have:=Zz2q h k hb;omega)
theorem ob8 {base g:Nat} {w:World} {v:Value} {l:BL} (h:OB base w v l) (hg:g < base) (a0 a1 a2 a3 a4 a5 a6 a7:Value):OB base ((((((((w.setCell ⟨g,0,none⟩ a0).setCell ⟨g,1,none⟩ a1).setCell ⟨g,2,none⟩ a2).setCell ⟨g,3,none⟩ a3).setCell ⟨g,4,none⟩ a4).setCell ⟨g,5,none⟩ a5).setCell ⟨g,6,none⟩ a6).setCell ⟨g,7,none⟩ a7) v l:=
 (Zz5b (Zz5b (Zz5b (Zz5b (Zz5b (Zz5b (Zz5b (Zz5b h hg _ _) hg _ _) hg _ _) hg _ _) hg _ _) hg _ _) hg _ _) hg _ _)
theorem Zz52 {base:Nat} {w:World} {v:Value} {l:BL} {n:Nat} (h:OB base w v l) (hn:l.length=n):∃ A c,v= .slice A n c∧n≤c∧c≤9223372036854775807:=by
 obtain ⟨A,c,e,h1,h2,_⟩:=h.read;subst hn;exact ⟨A,c,e,h1,h2⟩
theorem ob_sl {base:Nat} {w:World} {A:Option Addr} {n c:Nat} {l:BL} (h:OB base w (.slice A n c) l) (hn:l.length=n):Sl w w.heap.size 1 A n (l.map bv8):=by
 obtain ⟨A',c',e,h1,h2,h3⟩:=h.read;injection e with e1 e2 e3;subst e1;rw [hn] at h3;exact h3
theorem Zza8 (B:Nat) (A:Option Addr) (l:List Byte) (n c:Nat) (w:World) (h:Sl w B 1 A n (l.map bv8)) (hB:B≤w.heap.size) (hn:n≤1048576) (hc:n≤c) (hc2:c≤9223372036854775807):
  Calls Tryz.prog 44 #[.slice A n c] w fun e w'=>∃ d,e= .returned (.tuple #[((takeR l).getD Rec.zero).val d,.bool (takeR l).isSome])∧OB w.heap.size w' d ((takeR l).getD Rec.zero).D∧Below w.heap.size w w':=by
 have hln:l.length=n:=by have:=h.len;simpa using this
 have HLN:=hid hln;clear hln;obtain ⟨T,hT⟩:∃ T,takeR l=T:=⟨_,rfl⟩;rw [hT];have HTT:=hid hT;clear hT;go_enter Tryz.func44,Tryz.ntmps44;go_wp2_with fail;have hr0:Row (w.alloc (.cells #[.int .i64 0,.int .i64 0,.int .i64 0,.int .i64 0,.int .i64 0,.int .i64 0,.int .u32 0,.slice none 0 0] 73)) w.heap.size 73 [.int .i64 0,.int .i64 0,.int .i64 0,.int .i64 0,.int .i64 0,.int .i64 0,.int .u32 0,.slice none 0 0]:=Row.new w 73 #[.int .i64 0,.int .i64 0,.int .i64 0,.int .i64 0,.int .i64 0,.int .i64 0,.int .u32 0,.slice none 0 0]
 have hb0:Below w.heap.size w (w.alloc (.cells #[.int .i64 0,.int .i64 0,.int .i64 0,.int .i64 0,.int .i64 0,.int .i64 0,.int .u32 0,.slice none 0 0] 73)):=(Below.refl _ _).alloc (ZnR _) _;generalize w.alloc (.cells #[.int .i64 0,.int .i64 0,.int .i64 0,.int .i64 0,.int .i64 0,.int .i64 0,.int .u32 0,.slice none 0 0] 73)=w1 at*;have hlt0:=hr0.lt;have hs1:=h.below (hb0.mono hB);refine (Zzb4 B A l n c _ hs1 (by omega) hn hc hc2).mono ?_;rintro e w2 ⟨v,rfl,hv,hb2⟩;have hr2:=hr0.below hb2 hlt0;have hb02:=hb0.trans (hb2.mono (by omega));have hw2:=hb2.size;have hl2:=h.below (hb02.mono hB);have hlt2:=hr2.lt;clear hr0 hb0 hs1 hb2;cases htk:takeP l with
 | none=>
  rw [htk] at hv;have hT:T=none:=by rw [← HTT.out];unfold takeR;rw [htk]
  subst hT;obtain ⟨Ax,cx,rfl,_,_,_⟩:=hv.read;unfold tkV;clear htk;obtain ⟨z0,z1,z2,z3,z4,z5,z6,z7⟩:=Row.c8 hr2;have y0:=hr2.frozen 0;have y1:=hr2.frozen 1;have y2:=hr2.frozen 2;have y3:=hr2.frozen 3;have y4:=hr2.frozen 4;have y5:=hr2.frozen 5;have y6:=hr2.frozen 6;have y7:=hr2.frozen 7;go_wp2_with fail;have R8:=row8 hr2 (.int .i64 0) (.int .i64 0) (.int .i64 0) (.int .i64 0) (.int .i64 0) (.int .i64 0) (.int .u32 0) (.slice none 0 0);have B8:=below8 hb02 (ZnR _) hb02.size (.int .i64 0) (.int .i64 0) (.int .i64 0) (.int .i64 0) (.int .i64 0) (.int .i64 0) (.int .u32 0) (.slice none 0 0);obtain ⟨q0,q1,q2,q3,q4,q5,q6,q7⟩:=Row.c8 R8
  refine bodyPost_ret (v:= .tuple #[Rec.zero.val (.slice none 0 0),.bool false]) ?_ rfl ⟨.slice none 0 0,?_,?_,B8⟩
  ·simp [results,Tryz.results44,go_sem,q0,q1,q2,q3,q4,q5,q6,q7]
   rfl
  ·rfl
  ·exact World.ownsRow_nil _ _ _ _
 | some p=>
  obtain ⟨k,x⟩:=p;rw [htk] at hv;have hxl:=(Zz24 htk).2.1;have HXL:=hid hxl;unfold tkV;dsimp only [Option.getD,Option.isSome] at hv ⊢;have hTif:=Zzc8 htk;have HTif:=hid hTif;have hkb:=k.isLt;clear htk hTif;obtain ⟨Ax,cx,rfl,hcx1,hcx2,sx⟩:=hv.read;rw [hxl] at hcx1 sx ⊢;by_cases hk1:k=1#8
  rotate_left
  ·have hT:T=none:=by rw [← HTT.out,HTif.out,if_neg (fun h=>hk1 h.1)]
   subst hT;have hk2:((k.toNat:Int) !=1)=true:=by
    simp only [bne_iff_ne,ne_eq];intro e;exact hk1 (BitVec.eq_of_toNat_eq (by simp;omega))
   clear hk1 hxl hv sx;obtain ⟨z0,z1,z2,z3,z4,z5,z6,z7⟩:=Row.c8 hr2;have y0:=hr2.frozen 0;have y1:=hr2.frozen 1;have y2:=hr2.frozen 2;have y3:=hr2.frozen 3;have y4:=hr2.frozen 4;have y5:=hr2.frozen 5;have y6:=hr2.frozen 6;have y7:=hr2.frozen 7;go_wp2_with fail;have R8:=row8 hr2 (.int .i64 0) (.int .i64 0) (.int .i64 0) (.int .i64 0) (.int .i64 0) (.int .i64 0) (.int .u32 0) (.slice none 0 0);have B8:=below8 hb02 (ZnR _) hb02.size (.int .i64 0) (.int .i64 0) (.int .i64 0) (.int .i64 0) (.int .i64 0) (.int .i64 0) (.int .u32 0) (.slice none 0 0);obtain ⟨q0,q1,q2,q3,q4,q5,q6,q7⟩:=Row.c8 R8
   refine bodyPost_ret (v:= .tuple #[Rec.zero.val (.slice none 0 0),.bool false]) ?_ rfl ⟨.slice none 0 0,?_,?_,B8⟩
   ·simp [results,Tryz.results44,go_sem,q0,q1,q2,q3,q4,q5,q6,q7]
    rfl
   ·rfl
   ·exact World.ownsRow_nil _ _ _ _
  ·subst hk1
   obtain ⟨bx,ox,rfl,hbx,_⟩:=sx.at_ (by omega);obtain ⟨xO,hxO⟩:∃ r,numL ((x.drop 0).take 3)=r:=⟨_,rfl⟩;obtain ⟨xB,hxB⟩:∃ r,numL ((x.drop 3).take 1)=r:=⟨_,rfl⟩;obtain ⟨xI,hxI⟩:∃ r,numL ((x.drop 4).take 2)=r:=⟨_,rfl⟩;obtain ⟨xK,hxK⟩:∃ r,numL ((x.drop 6).take 1)=r:=⟨_,rfl⟩;obtain ⟨xH,hxH⟩:∃ r,numL ((x.drop 7).take 1)=r:=⟨_,rfl⟩;obtain ⟨xS,hxS⟩:∃ r,numL ((x.drop 8).take 1)=r:=⟨_,rfl⟩;obtain ⟨xs,hxs⟩:∃ r,numL ((x.drop 9).take 4)=r:=⟨_,rfl⟩;have hbs:=Zz0w ((x.drop 9).take 4);rw [hxs,show ((x.drop 9).take 4).length=4 by simp [hxl]] at hbs;obtain ⟨sv,rfl⟩:∃ sv:BitVec 32,xs=(sv.toNat:Int):=⟨BitVec.ofNat 32 xs.toNat,by rw [BitVec.toNat_ofNat];omega⟩;have hsv:=sv.isLt
   have hw32:IntKind.u32.wrap (sv.toNat:Int)=(sv.toNat:Int):=by rw [IntKind.wrap_u32];omega
   have hpP:parseP x=⟨xK,xH,xS⟩:=by unfold parseP;rw [← Zz17 x 6 (by omega),← Zz17 x 7 (by omega),← Zz17 x 8 (by omega),hxK,hxH,hxS]
   have hpR:parseR x=⟨xO,xB,xI,⟨xK,xH,xS⟩,sv,(x.drop 13).take xS.toNat⟩:=by
    have e8:byteI x 8=xS:=by rw [← Zz17 x 8 (by omega),hxS]
    unfold parseR;rw [hpP,e8,hxs,show x.take 3=(x.drop 0).take 3 from rfl,hxO,hxB,hxI];congr 1
    simp
   have HPP:=hid hpP;have HPR:=hid hpR;have HO:=hid hxO;have HBk:=hid hxB;have HI:=hid hxI;have HK:=hid hxK;have HH:=hid hxH;have HS:=hid hxS;have Hs:=hid hxs;clear hxO hxB hxI hxK hxH hxS hxs hpP hpR hbs hxl hv;have f3:3≤cx:=by omega
   have f3i:(3:Int)≤(cx:Int):=by omega
   have f4:4≤cx:=by omega
   have f4i:(4:Int)≤(cx:Int):=by omega
   have f6:6≤cx:=by omega
   have f6i:(6:Int)≤(cx:Int):=by omega
   have f7:7≤cx:=by omega
   have f7i:(7:Int)≤(cx:Int):=by omega
   have f8:8≤cx:=by omega
   have f8i:(8:Int)≤(cx:Int):=by omega
   have f9:9≤cx:=by omega
   have f9i:(9:Int)≤(cx:Int):=by omega
   have f13:13≤cx:=by omega
   have f13i:(13:Int)≤(cx:Int):=by omega
   have g0:¬ cx=0:=by omega
   have g3:¬ cx=3:=by omega
   have g4:¬ cx=4:=by omega
   have g6:¬ cx=6:=by omega
   have g7:¬ cx=7:=by omega
   have g8:¬ cx=8:=by omega
   have g9:¬ cx=9:=by omega
   have g13:¬ cx=13:=by omega
   go_upto_region 4 with fail;go_cut [7] (fun s7 wx=>s7= .pointer (some ⟨w2.heap.size,0,none⟩)∧Row wx w2.heap.size 73 [.int .i64 xO,.int .i64 xB,.int .i64 xI,.int .i64 0,.int .i64 0,.int .i64 0,.int .u32 0,.slice none 0 0]∧Below w2.heap.size w2 wx)
   case first=>
    go_region_held3 (fun w'=>Below w2.heap.size w2 w'∧w2.heap.size≤w'.heap.size)
     (first
      | exact ⟨Zz01 (Below.refl _ _) 1,ZnR _⟩
      | exact ⟨Zz01 ((Below.refl _ _).alloc (ZnR _) _) 1,by simp⟩
      | assumption)
     (first
      | (go_at_call 81;(with_reducible show Calls _ _ #[.slice (some ⟨bx,ox,none⟩) 3 _] _ _);have hh:= ‹Below w2.heap.size w2 _∧_›;refine (Zz48 (sx.below hh.1) 0 3 _ (by omega) (by omega) _ HO.out).mono ?_;rintro e w' ⟨rfl,rfl⟩)
      | (go_at_call 81;(with_reducible show Calls _ _ #[.slice (some ⟨bx,ox+3,none⟩) 1 _] _ _);have hh:= ‹Below w2.heap.size w2 _∧_›;refine (Zz48 (sx.below hh.1) 3 1 _ (by omega) (by omega) _ HBk.out).mono ?_;rintro e w' ⟨rfl,rfl⟩)
      | (go_at_call 81;(with_reducible show Calls _ _ #[.slice (some ⟨bx,ox+4,none⟩) 2 _] _ _);have hh:= ‹Below w2.heap.size w2 _∧_›;refine (Zz48 (sx.below hh.1) 4 2 _ (by omega) (by omega) _ HI.out).mono ?_;rintro e w' ⟨rfl,rfl⟩))
    all_goals (go_wp2_with fail;go_meet;exact ⟨rfl,(Row.new w2 73 #[.int .i64 xO,.int .i64 xB,.int .i64 xI,.int .i64 0,.int .i64 0,.int .i64 0,.int .u32 0,.slice none 0 0]).drew,Zz01 ((Below.refl _ _).alloc (ZnR _) _) 1⟩)
   case rest=>
   obtain ⟨rfl,hr3,hb3⟩:=hcut;have hl3:=hr3.lt;have s3:=sx.below hb3;have fz3:=hr3.frozen 3;have fz4:=hr3.frozen 4;have fz5:=hr3.frozen 5;have cl3:=hr3.cell 3;have cl4:=hr3.cell 4;have cl5:=hr3.cell 5;simp only [ZgS,ZgZ] at cl3 cl4 cl5;have hb3w:=hb3.size;go_upto_region 5 with fail;go_cut [] (fun wx=>Row wx w2.heap.size 73 [.int .i64 xO,.int .i64 xB,.int .i64 xI,.int .i64 xK,.int .i64 xH,.int .i64 xS,.int .u32 0,.slice none 0 0]∧Below w2.heap.size w2 wx)
   case first=>
    go_region_held3 (fun w'=>Below w2.heap.size wc w'∧w2.heap.size≤w'.heap.size)
     (first
      | exact ⟨Zz01 (Below.refl _ _) 1,hb3w⟩
      | exact ⟨Zz01 (put3 hb3w 3 4 5 _ _ _) 1,by simpa [World.setCell] using hb3w⟩
      | assumption)
     (first
      | (go_at_call 81;(with_reducible show Calls _ _ #[.slice (some ⟨bx,ox+6,none⟩) 1 _] _ _);have hh:= ‹Below w2.heap.size wc _∧_›;refine (Zz48 (s3.below hh.1) 6 1 _ (by omega) (by omega) _ HK.out).mono ?_;rintro e w' ⟨rfl,rfl⟩)
      | (go_at_call 81;(with_reducible show Calls _ _ #[.slice (some ⟨bx,ox+7,none⟩) 1 _] _ _);have hh:= ‹Below w2.heap.size wc _∧_›;refine (Zz48 (s3.below hh.1) 7 1 _ (by omega) (by omega) _ HH.out).mono ?_;rintro e w' ⟨rfl,rfl⟩)
      | (go_at_call 81;(with_reducible show Calls _ _ #[.slice (some ⟨bx,ox+8,none⟩) 1 _] _ _);have hh:= ‹Below w2.heap.size wc _∧_›;refine (Zz48 (s3.below hh.1) 8 1 _ (by omega) (by omega) _ HS.out).mono ?_;rintro e w' ⟨rfl,rfl⟩))
    all_goals (go_wp2_with fail;go_meet;exact ⟨(((hr3.set 3 _).set 4 _).set 5 _).drew,hb3.trans (Zz01 (put3 hb3w 3 4 5 _ _ _) 1)⟩)
   case rest=>
   obtain ⟨hr4,hb4⟩:=hcut;clear hb3 hr3 hl3 s3 fz3 fz4 fz5 cl3 cl4 cl5 hb3w;have s4:=sx.below hb4;have fz6:=hr4.frozen 6;have cl3:=hr4.cell 3;have cl4:=hr4.cell 4;have cl5:=hr4.cell 5;have cl6:=hr4.cell 6;simp only [ZgS,ZgZ] at cl3 cl4 cl5 cl6;go_wp2_with fail;refine (Zz48 s4 9 4 _ (by omega) (by omega) _ Hs.out).mono ?_;rintro e w' ⟨rfl,rfl⟩;go_wp2_with fail;have hr6:=hr4.set 6 (.int .u32 (sv.toNat:Int));have hb6:Below w2.heap.size w2 (w'.setCell ⟨w2.heap.size,6,none⟩ (.int .u32 (sv.toNat:Int))):=Zz0e hb4 _ _ (ZnR _) hb4.size _;clear hr4 hb4 s4 fz6 cl3 cl4 cl5 cl6;generalize w'.setCell ⟨w2.heap.size,6,none⟩ (.int .u32 (sv.toNat:Int))=w6 at*
   simp only [List.set_cons_succ,List.set_cons_zero] at hr6;have hl6:=hr6.lt;obtain ⟨pm,hpm⟩:∃ b,Par.may ⟨xK,xH,xS⟩=b:=⟨_,rfl⟩;refine (Zz1m ⟨xK,xH,xS⟩ pm w6 hpm).mono ?_;rintro e w7 ⟨rfl,hb7⟩;have hr7:=hr6.below hb7 hl6;have hb67:=hb6.trans (hb7.mono hb6.size);have hr27:=hr2.below hb67 hlt2;have hbw7:=hb02.trans (hb67.mono hb02.size);have hl7:=hr7.lt;clear hr6 hb6 hb7 hl6;cases pm with
   | false=>
    have hT:T=none:=by rw [← HTT.out,HTif.out,HPP.out,hpm,if_neg (by simp)]
    subst hT;clear hpm;obtain ⟨z0,z1,z2,z3,z4,z5,z6,z7⟩:=Row.c8 hr27;have y0:=hr27.frozen 0;have y1:=hr27.frozen 1;have y2:=hr27.frozen 2;have y3:=hr27.frozen 3;have y4:=hr27.frozen 4;have y5:=hr27.frozen 5;have y6:=hr27.frozen 6;have y7:=hr27.frozen 7;go_wp2_with fail;have R8:=row8 hr27 (.int .i64 0) (.int .i64 0) (.int .i64 0) (.int .i64 0) (.int .i64 0) (.int .i64 0) (.int .u32 0) (.slice none 0 0);have B8:=below8 hbw7 (ZnR _) hbw7.size (.int .i64 0) (.int .i64 0) (.int .i64 0) (.int .i64 0) (.int .i64 0) (.int .i64 0) (.int .u32 0) (.slice none 0 0);obtain ⟨q0,q1,q2,q3,q4,q5,q6,q7⟩:=Row.c8 R8
    refine bodyPost_ret (v:= .tuple #[Rec.zero.val (.slice none 0 0),.bool false]) ?_ rfl ⟨.slice none 0 0,?_,?_,B8⟩
    ·simp [results,Tryz.results44,go_sem,q0,q1,q2,q3,q4,q5,q6,q7]
     rfl
    ·rfl
    ·exact World.ownsRow_nil _ _ _ _
   | true=>
    obtain ⟨k1,k2,k3,k4,k5,k6⟩:=Par.may_ok hpm;dsimp only at k1 k2 k3 k4 k5 k6;obtain ⟨sS,rfl⟩:∃ m:Nat,xS=(m:Int):=⟨xS.toNat,by omega⟩;have sl:=(sx.below hb67).sub 13 sS (by omega);obtain ⟨dd,hdd⟩:∃ d,(x.drop 13).take sS=d:=⟨_,rfl⟩;rw [hdd] at sl;have hddl:dd.length=sS:=by have:=sl.len;simpa using this
    have hTif:T=if putR ⟨xO,xB,xI,⟨xK,xH,(sS:Int)⟩,sv,dd⟩=l then some ⟨xO,xB,xI,⟨xK,xH,(sS:Int)⟩,sv,dd⟩ else none:=by
     rw [← HTT.out,HTif.out,HPP.out,HPR.out,hpm,Int.toNat_natCast,hdd];by_cases hq:putR ⟨xO,xB,xI,⟨xK,xH,(sS:Int)⟩,sv,dd⟩=l
     ·rw [if_pos ⟨by trivial,by trivial,hq⟩,if_pos hq]
     ·rw [if_neg (fun h=>hq h.2.2),if_neg hq]
    have HTi:=hid hTif;have HDL:=hid hddl;clear hTif hddl hdd hpm;have hsum:IntKind.i64.wrap (13+(sS:Int))=13+(sS:Int):=by rw [IntKind.wrap_i64];omega
    have hsc:13+sS≤cx:=by omega
    have hsci:13+(sS:Int)≤(cx:Int):=by omega
    have cl5:=hr7.cell 5;have cl7:=hr7.cell 7;simp only [ZgS,ZgZ] at cl5 cl7;have fz7:=hr7.frozen 7;go_wp2_with fail;refine (Zz3f w2.heap.size _ dd sS _ w7 sl hb67.size (by omega)).mono ?_;rintro e w8 ⟨v8,rfl,hv8,hb8⟩;obtain ⟨A8,c8,rfl,hc81,hc82⟩:=Zz52 hv8 HDL.out;have hr8:=hr7.below hb8 hl7;have hb78:=hb67.trans (hb8.mono hb67.size);clear hr7 hb8 cl5 cl7 fz7 sl hr27 hbw7;obtain ⟨cl0,cl1,cl2,cl3,cl4,cl5,cl6,cl7⟩:=Row.c8 hr8;have fz7:=hr8.frozen 7;go_wp2_with fail;have hr9:=hr8.set 7 (.slice A8 sS c8);have hb9:Below w2.heap.size w2 (w8.setCell ⟨w2.heap.size,7,none⟩ (.slice A8 sS c8)):=Zz0e hb78 _ _ (ZnR _) hb78.size _;have hv9:=Zz5b hv8 hl7 7 (.slice A8 sS c8)
    clear hr8 hb78 hv8 fz7 cl0 cl1 cl2 cl3 cl4 cl5 cl6 cl7;generalize w8.setCell ⟨w2.heap.size,7,none⟩ (.slice A8 sS c8)=w9 at*;simp only [List.set_cons_succ,List.set_cons_zero] at hr9;have hl9:=hr9.lt;have s9:=ob_sl hv9 HDL.out;refine (Zz6r w9.heap.size ⟨xO,xB,xI,⟨xK,xH,(sS:Int)⟩,sv,dd⟩ A8 sS c8 w9 s9 (ZnR _)).mono ?_;rintro e w10 ⟨vp,rfl,hvp,hb10⟩;obtain ⟨pl,hpl⟩:∃ p,putR ⟨xO,xB,xI,⟨xK,xH,(sS:Int)⟩,sv,dd⟩=p:=⟨_,rfl⟩;rw [hpl] at hvp;have HPL:=hid hpl;clear hpl;obtain ⟨Ap,cp,rfl,hcp1,hcp2⟩:=Zz52 hvp rfl;have sp:=ob_sl hvp rfl;have hr10:=hr9.below hb10 hl9;have hb210:=hb9.trans (hb10.mono hb9.size);have hr210:=hr2.below hb210 hlt2;have hbw10:=hb02.trans (hb210.mono hb02.size)
    have sl10:=(hl2.below (hb210.mono (show B≤w2.heap.size by have:=hb02.size;omega))).mono (show B≤w10.heap.size by have:=hbw10.size;omega);have hv10:=OB.below hv9 hb10;clear hr9 hb9 hb10 hv9 s9 hvp;have hgl7:w.heap.size < w7.heap.size:=by have:=hb67.size;omega
    by_cases heq:pl=l
    ·have hT:T=some ⟨xO,xB,xI,⟨xK,xH,(sS:Int)⟩,sv,dd⟩:=by rw [HTi.out,HPL.out,if_pos heq]
     subst hT;have HEQ:=hid heq;clear heq;go_wp2_with fail;refine (Zz1w true w10.heap.size _ _ l pl _ _ _ _ _ sl10 sp (decide_eq_true HEQ.out.symm)).mono ?_;rintro e w11 ⟨rfl,rfl⟩;obtain ⟨cl0,cl1,cl2,cl3,cl4,cl5,cl6,cl7⟩:=Row.c8 hr10;obtain ⟨z0,z1,z2,z3,z4,z5,z6,z7⟩:=Row.c8 hr210;have y0:=hr210.frozen 0;have y1:=hr210.frozen 1;have y2:=hr210.frozen 2;have y3:=hr210.frozen 3;have y4:=hr210.frozen 4;have y5:=hr210.frozen 5;have y6:=hr210.frozen 6;have y7:=hr210.frozen 7;go_wp2_with fail;have R8:=row8 hr210 (.int .i64 xO) (.int .i64 xB) (.int .i64 xI) (.int .i64 xK) (.int .i64 xH) (.int .i64 (sS:Int)) (.int .u32 (sv.toNat:Int)) (.slice A8 sS c8)
     have B8:=below8 hbw10 (ZnR _) hbw10.size (.int .i64 xO) (.int .i64 xB) (.int .i64 xI) (.int .i64 xK) (.int .i64 xH) (.int .i64 (sS:Int)) (.int .u32 (sv.toNat:Int)) (.slice A8 sS c8);obtain ⟨q0,q1,q2,q3,q4,q5,q6,q7⟩:=Row.c8 R8;refine bodyPost_ret (v:= .tuple #[Rec.val ⟨xO,xB,xI,⟨xK,xH,(sS:Int)⟩,sv,dd⟩ (.slice A8 sS c8),.bool true]) ?_ rfl ⟨.slice A8 sS c8,?_,?_,B8⟩
     ·simp [results,Tryz.results44,go_sem,q0,q1,q2,q3,q4,q5,q6,q7]
      rfl
     ·rfl
     ·exact Zz0b (ob8 hv10 hgl7 (.int .i64 xO) (.int .i64 xB) (.int .i64 xI) (.int .i64 xK) (.int .i64 xH) (.int .i64 (sS:Int)) (.int .u32 (sv.toNat:Int)) (.slice A8 sS c8)) (by omega)
    ·have hT:T=none:=by rw [HTi.out,HPL.out,if_neg heq]
     subst hT;have HEQ:=hid heq;clear heq;go_wp2_with fail;refine (Zz1w false w10.heap.size _ _ l pl _ _ _ _ _ sl10 sp (decide_eq_false (fun e=>HEQ.out e.symm))).mono ?_;rintro e w11 ⟨rfl,rfl⟩;obtain ⟨z0,z1,z2,z3,z4,z5,z6,z7⟩:=Row.c8 hr210;have y0:=hr210.frozen 0;have y1:=hr210.frozen 1;have y2:=hr210.frozen 2;have y3:=hr210.frozen 3;have y4:=hr210.frozen 4;have y5:=hr210.frozen 5;have y6:=hr210.frozen 6;have y7:=hr210.frozen 7;go_wp2_with fail;have R8:=row8 hr210 (.int .i64 0) (.int .i64 0) (.int .i64 0) (.int .i64 0) (.int .i64 0) (.int .i64 0) (.int .u32 0) (.slice none 0 0)
     have B8:=below8 hbw10 (ZnR _) hbw10.size (.int .i64 0) (.int .i64 0) (.int .i64 0) (.int .i64 0) (.int .i64 0) (.int .i64 0) (.int .u32 0) (.slice none 0 0);obtain ⟨q0,q1,q2,q3,q4,q5,q6,q7⟩:=Row.c8 R8;refine bodyPost_ret (v:= .tuple #[Rec.zero.val (.slice none 0 0),.bool false]) ?_ rfl ⟨.slice none 0 0,?_,?_,B8⟩
     ·simp [results,Tryz.results44,go_sem,q0,q1,q2,q3,q4,q5,q6,q7]
      rfl
     ·rfl
     ·exact World.ownsRow_nil _ _ _ _
theorem Zz64 {w:World} {B g bx o n:Nat} {xs:List Value} (h:Sl w B 1 (some ⟨bx,o,none⟩) n xs) (hg:g≠bx) (i:Nat) (x:Value):Sl (w.setCell ⟨g,i,none⟩ x) B 1 (some ⟨bx,o,none⟩) n xs:=
 ⟨h.len,fun hn=>by
  obtain ⟨b,o',e,hb,hc⟩:=h.at_ hn;injection e with e;injection e with e1 e2;subst e1 e2;exact ⟨bx,o,rfl,hb,fun j u hu=>(World.cell?_setCell_other _ _ _ _ (fun e=>hg (by injection e))).trans (hc j u hu)⟩⟩
theorem rb_of {w:World} {B:Nat} {A:Option Addr} {n c:Nat} {l:BL} (hl:l.length=n) (h1:n≤c) (h2:c≤9223372036854775807) (h:Sl w B 1 A n (l.map bv8)):RB w B (.slice A n c) l:=by
 subst hl;exact ⟨A,c,rfl,h1,h2,h⟩
theorem Zzdk {w:World} (t:TypeId) (cs:Array Value):Below w.heap.size w (w.alloc (.cells cs t)).drew:=Zz01 ((Below.refl _ _).alloc (ZnR _) _) 1
theorem sl8 {w:World} {B g bx o n:Nat} {xs:List Value} (h:Sl w B 1 (some ⟨bx,o,none⟩) n xs) (hg:g≠bx) (a0 a1 a2 a3 a4 a5 a6 a7:Value):Sl ((((((((w.setCell ⟨g,0,none⟩ a0).setCell ⟨g,1,none⟩ a1).setCell ⟨g,2,none⟩ a2).setCell ⟨g,3,none⟩ a3).setCell ⟨g,4,none⟩ a4).setCell ⟨g,5,none⟩ a5).setCell ⟨g,6,none⟩ a6).setCell ⟨g,7,none⟩ a7) B 1 (some ⟨bx,o,none⟩) n xs:=
 (Zz64 (Zz64 (Zz64 (Zz64 (Zz64 (Zz64 (Zz64 (Zz64 h hg _ _) hg _ _) hg _ _) hg _ _) hg _ _) hg _ _) hg _ _) hg _ _)
theorem Zz5c (B:Nat) (A:Option Addr) (l:List Byte) (n c:Nat) (w:World) (h:Sl w B 1 A n (l.map bv8)) (hB:B≤w.heap.size) (hn:n≤1048576) (hc:n≤c) (hc2:c≤9223372036854775807):
  Calls Tryz.prog 50 #[.slice A n c] w fun e w'=>∃ d,e= .returned (.tuple #[((takeR l).getD Rec.zero).val d,.bool (takeR l).isSome])∧RB w' w'.heap.size d ((takeR l).getD Rec.zero).D∧Below w.heap.size w w':=by
 have hln:l.length=n:=by have:=h.len;simpa using this
 have HLN:=hid hln;clear hln;obtain ⟨T,hT⟩:∃ T,takeR l=T:=⟨_,rfl⟩;rw [hT];have HTT:=hid hT;clear hT;go_enter Tryz.func50,Tryz.ntmps50;go_wp2_with fail;have hr0:Row (w.alloc (.cells #[.int .i64 0,.int .i64 0,.int .i64 0,.int .i64 0,.int .i64 0,.int .i64 0,.int .u32 0,.slice none 0 0] 73)) w.heap.size 73 [.int .i64 0,.int .i64 0,.int .i64 0,.int .i64 0,.int .i64 0,.int .i64 0,.int .u32 0,.slice none 0 0]:=Row.new w 73 #[.int .i64 0,.int .i64 0,.int .i64 0,.int .i64 0,.int .i64 0,.int .i64 0,.int .u32 0,.slice none 0 0]
 have hb0:Below w.heap.size w (w.alloc (.cells #[.int .i64 0,.int .i64 0,.int .i64 0,.int .i64 0,.int .i64 0,.int .i64 0,.int .u32 0,.slice none 0 0] 73)):=(Below.refl _ _).alloc (ZnR _) _;generalize w.alloc (.cells #[.int .i64 0,.int .i64 0,.int .i64 0,.int .i64 0,.int .i64 0,.int .i64 0,.int .u32 0,.slice none 0 0] 73)=w1 at*;have hlt0:=hr0.lt;have hs1:=h.below (hb0.mono hB);refine (Zz4k B A l n c _ hs1 (by omega) hn hc hc2).mono ?_;rintro e w2 ⟨v,rfl,hv,hb2⟩;have hr2:=hr0.below hb2 hlt0;have hb02:=hb0.trans (hb2.mono (by omega));have hw2:=hb2.size;have hl2:=h.below (hb02.mono hB);have hlt2:=hr2.lt;clear hr0 hb0 hs1 hb2;cases htk:takeP l with
 | none=>
  rw [htk] at hv;have hT:T=none:=by rw [← HTT.out];unfold takeR;rw [htk]
  subst hT;obtain ⟨Ax,cx,rfl,_,_,_⟩:=hv.read;unfold tkV;clear htk;obtain ⟨z0,z1,z2,z3,z4,z5,z6,z7⟩:=Row.c8 hr2;have y0:=hr2.frozen 0;have y1:=hr2.frozen 1;have y2:=hr2.frozen 2;have y3:=hr2.frozen 3;have y4:=hr2.frozen 4;have y5:=hr2.frozen 5;have y6:=hr2.frozen 6;have y7:=hr2.frozen 7;go_wp2_with fail;have R8:=row8 hr2 (.int .i64 0) (.int .i64 0) (.int .i64 0) (.int .i64 0) (.int .i64 0) (.int .i64 0) (.int .u32 0) (.slice none 0 0);have B8:=below8 hb02 (ZnR _) hb02.size (.int .i64 0) (.int .i64 0) (.int .i64 0) (.int .i64 0) (.int .i64 0) (.int .i64 0) (.int .u32 0) (.slice none 0 0);obtain ⟨q0,q1,q2,q3,q4,q5,q6,q7⟩:=Row.c8 R8
  refine bodyPost_ret (v:= .tuple #[Rec.zero.val (.slice none 0 0),.bool false]) ?_ rfl ⟨.slice none 0 0,?_,?_,B8⟩
  ·simp [results,Tryz.results50,go_sem,q0,q1,q2,q3,q4,q5,q6,q7]
   rfl
  ·rfl
  ·exact ⟨none,0,rfl,ZnR _,by omega,Sl.nil_⟩
 | some p=>
  obtain ⟨k,x⟩:=p;rw [htk] at hv;have hxl:=(Zz24 htk).2.1;have HXL:=hid hxl;unfold tkV;dsimp only [Option.getD,Option.isSome] at hv ⊢;have hTif:=Zzc8 htk;have HTif:=hid hTif;have hkb:=k.isLt;clear htk hTif;obtain ⟨Ax,cx,rfl,hcx1,hcx2,sx⟩:=hv.read;have hvo:=Zz2q hv;rw [hxl] at hcx1 sx hvo ⊢;by_cases hk1:k=1#8
  rotate_left
  ·have hT:T=none:=by rw [← HTT.out,HTif.out,if_neg (fun h=>hk1 h.1)]
   subst hT;have hk2:((k.toNat:Int) !=1)=true:=by
    simp only [bne_iff_ne,ne_eq];intro e;exact hk1 (BitVec.eq_of_toNat_eq (by simp;omega))
   clear hk1 hxl hv sx;obtain ⟨z0,z1,z2,z3,z4,z5,z6,z7⟩:=Row.c8 hr2;have y0:=hr2.frozen 0;have y1:=hr2.frozen 1;have y2:=hr2.frozen 2;have y3:=hr2.frozen 3;have y4:=hr2.frozen 4;have y5:=hr2.frozen 5;have y6:=hr2.frozen 6;have y7:=hr2.frozen 7;go_wp2_with fail;have R8:=row8 hr2 (.int .i64 0) (.int .i64 0) (.int .i64 0) (.int .i64 0) (.int .i64 0) (.int .i64 0) (.int .u32 0) (.slice none 0 0);have B8:=below8 hb02 (ZnR _) hb02.size (.int .i64 0) (.int .i64 0) (.int .i64 0) (.int .i64 0) (.int .i64 0) (.int .i64 0) (.int .u32 0) (.slice none 0 0);obtain ⟨q0,q1,q2,q3,q4,q5,q6,q7⟩:=Row.c8 R8
   refine bodyPost_ret (v:= .tuple #[Rec.zero.val (.slice none 0 0),.bool false]) ?_ rfl ⟨.slice none 0 0,?_,?_,B8⟩
   ·simp [results,Tryz.results50,go_sem,q0,q1,q2,q3,q4,q5,q6,q7]
    rfl
   ·rfl
   ·exact ⟨none,0,rfl,ZnR _,by omega,Sl.nil_⟩
  ·subst hk1
   obtain ⟨bx,ox,rfl,hbx,hcl⟩:=sx.at_ (by omega);have hbx1:=(hvo bx rfl).1;have hgbx:w.heap.size≠bx:=by omega
   clear hvo;obtain ⟨xO,hxO⟩:∃ r,numL ((x.drop 0).take 3)=r:=⟨_,rfl⟩;obtain ⟨xB,hxB⟩:∃ r,numL ((x.drop 3).take 1)=r:=⟨_,rfl⟩;obtain ⟨xI,hxI⟩:∃ r,numL ((x.drop 4).take 2)=r:=⟨_,rfl⟩;obtain ⟨xK,hxK⟩:∃ r,numL ((x.drop 6).take 1)=r:=⟨_,rfl⟩;obtain ⟨xH,hxH⟩:∃ r,numL ((x.drop 7).take 1)=r:=⟨_,rfl⟩;obtain ⟨xS,hxS⟩:∃ r,numL ((x.drop 8).take 1)=r:=⟨_,rfl⟩;obtain ⟨xs,hxs⟩:∃ r,numL ((x.drop 9).take 4)=r:=⟨_,rfl⟩;have hbs:=Zz0w ((x.drop 9).take 4);rw [hxs,show ((x.drop 9).take 4).length=4 by simp [hxl]] at hbs;obtain ⟨sv,rfl⟩:∃ sv:BitVec 32,xs=(sv.toNat:Int):=⟨BitVec.ofNat 32 xs.toNat,by rw [BitVec.toNat_ofNat];omega⟩;have hsv:=sv.isLt
   have hw32:IntKind.u32.wrap (sv.toNat:Int)=(sv.toNat:Int):=by rw [IntKind.wrap_u32];omega
   have hpP:parseP x=⟨xK,xH,xS⟩:=by unfold parseP;rw [← Zz17 x 6 (by omega),← Zz17 x 7 (by omega),← Zz17 x 8 (by omega),hxK,hxH,hxS]
   have hpR:parseR x=⟨xO,xB,xI,⟨xK,xH,xS⟩,sv,(x.drop 13).take xS.toNat⟩:=by
    have e8:byteI x 8=xS:=by rw [← Zz17 x 8 (by omega),hxS]
    unfold parseR;rw [hpP,e8,hxs,show x.take 3=(x.drop 0).take 3 from rfl,hxO,hxB,hxI];congr 1
    simp
   have HPP:=hid hpP;have HPR:=hid hpR;have HO:=hid hxO;have HBk:=hid hxB;have HI:=hid hxI;have HK:=hid hxK;have HH:=hid hxH;have HS:=hid hxS;have Hs:=hid hxs;have e3:byteI x 3=xB:=by rw [← Zz17 x 3 (by omega),hxB]
   have e6:byteI x 6=xK:=by rw [← Zz17 x 6 (by omega),hxK]
   have e7:byteI x 7=xH:=by rw [← Zz17 x 7 (by omega),hxH]
   have e8:byteI x 8=xS:=by rw [← Zz17 x 8 (by omega),hxS]
   have c3:w2.cell? ⟨bx,ox+3,none⟩=some (.int .u8 xB):=by rw [hcl 3 _ (Zz1l x 3 (by omega)),← e3];rfl
   have r3:0≤xB∧xB≤255:=by rw [← e3];unfold byteI;have:=(x.getD 3 0).isLt;omega
   obtain ⟨r3,r3'⟩:=r3;have wr3:IntKind.i64.wrap xB=xB:=by rw [IntKind.wrap_i64];omega
   have c6:w2.cell? ⟨bx,ox+6,none⟩=some (.int .u8 xK):=by rw [hcl 6 _ (Zz1l x 6 (by omega)),← e6];rfl
   have r6:0≤xK∧xK≤255:=by rw [← e6];unfold byteI;have:=(x.getD 6 0).isLt;omega
   obtain ⟨r6,r6'⟩:=r6;have wr6:IntKind.i64.wrap xK=xK:=by rw [IntKind.wrap_i64];omega
   have c7:w2.cell? ⟨bx,ox+7,none⟩=some (.int .u8 xH):=by rw [hcl 7 _ (Zz1l x 7 (by omega)),← e7];rfl
   have r7:0≤xH∧xH≤255:=by rw [← e7];unfold byteI;have:=(x.getD 7 0).isLt;omega
   obtain ⟨r7,r7'⟩:=r7;have wr7:IntKind.i64.wrap xH=xH:=by rw [IntKind.wrap_i64];omega
   have c8:w2.cell? ⟨bx,ox+8,none⟩=some (.int .u8 xS):=by rw [hcl 8 _ (Zz1l x 8 (by omega)),← e8];rfl
   have r8:0≤xS∧xS≤255:=by rw [← e8];unfold byteI;have:=(x.getD 8 0).isLt;omega
   obtain ⟨r8,r8'⟩:=r8;have wr8:IntKind.i64.wrap xS=xS:=by rw [IntKind.wrap_i64];omega
   clear hcl e3 e6 e7 e8 hxO hxB hxI hxK hxH hxS hxs hpP hpR hbs hxl hv;have f3:3≤cx:=by omega
   have f3i:(3:Int)≤(cx:Int):=by omega
   have f4:4≤cx:=by omega
   have f4i:(4:Int)≤(cx:Int):=by omega
   have f6:6≤cx:=by omega
   have f6i:(6:Int)≤(cx:Int):=by omega
   have f7:7≤cx:=by omega
   have f7i:(7:Int)≤(cx:Int):=by omega
   have f8:8≤cx:=by omega
   have f8i:(8:Int)≤(cx:Int):=by omega
   have f9:9≤cx:=by omega
   have f9i:(9:Int)≤(cx:Int):=by omega
   have f13:13≤cx:=by omega
   have f13i:(13:Int)≤(cx:Int):=by omega
   have g0:¬ cx=0:=by omega
   have g3:¬ cx=3:=by omega
   have g4:¬ cx=4:=by omega
   have g6:¬ cx=6:=by omega
   have g7:¬ cx=7:=by omega
   have g8:¬ cx=8:=by omega
   have g9:¬ cx=9:=by omega
   have g13:¬ cx=13:=by omega
   go_upto_region 4 with fail;go_cut [7] (fun s7 wx=>s7= .pointer (some ⟨w2.heap.size,0,none⟩)∧Row wx w2.heap.size 73 [.int .i64 xO,.int .i64 xB,.int .i64 xI,.int .i64 xK,.int .i64 xH,.int .i64 xS,.int .u32 (sv.toNat:Int),.slice none 0 0]∧Below w2.heap.size w2 wx)
   case first=>
    have bn1:∀ cs,Below w2.heap.size w2 (w2.alloc (.cells cs 73)).drew:=Zzdk _;have BN:=hid bn1;clear bn1;go_region_held3 (fun w'=>w'.cell? ⟨bx,ox+3,none⟩=some (.int .u8 xB)∧w'.cell? ⟨bx,ox+6,none⟩=some (.int .u8 xK)∧w'.cell? ⟨bx,ox+7,none⟩=some (.int .u8 xH)∧w'.cell? ⟨bx,ox+8,none⟩=some (.int .u8 xS)∧Below w2.heap.size w2 w')
     (first
      | exact ⟨c3,c6,c7,c8,Zz01 (Below.refl _ _) 1⟩
      | exact ⟨((BN.out _).cell (p:=⟨bx,ox+3,none⟩) hbx).trans c3,((BN.out _).cell (p:=⟨bx,ox+6,none⟩) hbx).trans c6,((BN.out _).cell (p:=⟨bx,ox+7,none⟩) hbx).trans c7,((BN.out _).cell (p:=⟨bx,ox+8,none⟩) hbx).trans c8,BN.out _⟩
      | assumption)
     (first
      | (go_at_call 92;(with_reducible show Calls _ _ #[.slice (some ⟨bx,ox,none⟩) 3 _] _ _);have hh:= ‹_∧_∧_∧_∧Below w2.heap.size w2 _›;refine (Zz3m (sx.below hh.2.2.2.2) 0 3 _ (by omega) (by omega) _ HO.out).mono ?_;rintro e w' ⟨rfl,rfl⟩)
      | (go_at_call 92;(with_reducible show Calls _ _ #[.slice (some ⟨bx,ox+4,none⟩) 2 _] _ _);have hh:= ‹_∧_∧_∧_∧Below w2.heap.size w2 _›;refine (Zz3m (sx.below hh.2.2.2.2) 4 2 _ (by omega) (by omega) _ HI.out).mono ?_;rintro e w' ⟨rfl,rfl⟩)
      | (go_at_call 92;(with_reducible show Calls _ _ #[.slice (some ⟨bx,ox+9,none⟩) 4 _] _ _);have hh:= ‹_∧_∧_∧_∧Below w2.heap.size w2 _›;refine (Zz3m (sx.below hh.2.2.2.2) 9 4 _ (by omega) (by omega) _ Hs.out).mono ?_;rintro e w' ⟨rfl,rfl⟩))
    all_goals (go_wp2_with fail;go_meet;exact ⟨rfl,(Row.new w2 73 #[.int .i64 xO,.int .i64 xB,.int .i64 xI,.int .i64 xK,.int .i64 xH,.int .i64 xS,.int .u32 (sv.toNat:Int),.slice none 0 0]).drew,BN.out _⟩)
   case rest=>
   obtain ⟨rfl,hr6,hb6⟩:=hcut;have cl3:=hr6.cell 3;have cl4:=hr6.cell 4;have cl5:=hr6.cell 5;simp only [ZgS,ZgZ] at cl3 cl4 cl5;clear c3 c6 c7 c8;go_wp2_with fail;have hl6:=hr6.lt;obtain ⟨pm,hpm⟩:∃ b,Par.may ⟨xK,xH,xS⟩=b:=⟨_,rfl⟩;refine (Zz1n ⟨xK,xH,xS⟩ pm wc hpm).mono ?_;rintro e w7 ⟨rfl,hb7⟩;have hr7:=hr6.below hb7 hl6;have hb67:=hb6.trans (hb7.mono hb6.size);have hr27:=hr2.below hb67 hlt2;have hbw7:=hb02.trans (hb67.mono hb02.size);have hl7:=hr7.lt;clear hr6 hb6 hb7 hl6 cl3 cl4 cl5;cases pm with
   | false=>
    have hT:T=none:=by rw [← HTT.out,HTif.out,HPP.out,hpm,if_neg (by simp)]
    subst hT;clear hpm;obtain ⟨z0,z1,z2,z3,z4,z5,z6,z7⟩:=Row.c8 hr27;have y0:=hr27.frozen 0;have y1:=hr27.frozen 1;have y2:=hr27.frozen 2;have y3:=hr27.frozen 3;have y4:=hr27.frozen 4;have y5:=hr27.frozen 5;have y6:=hr27.frozen 6;have y7:=hr27.frozen 7;go_wp2_with fail;have R8:=row8 hr27 (.int .i64 0) (.int .i64 0) (.int .i64 0) (.int .i64 0) (.int .i64 0) (.int .i64 0) (.int .u32 0) (.slice none 0 0);have B8:=below8 hbw7 (ZnR _) hbw7.size (.int .i64 0) (.int .i64 0) (.int .i64 0) (.int .i64 0) (.int .i64 0) (.int .i64 0) (.int .u32 0) (.slice none 0 0);obtain ⟨q0,q1,q2,q3,q4,q5,q6,q7⟩:=Row.c8 R8
    refine bodyPost_ret (v:= .tuple #[Rec.zero.val (.slice none 0 0),.bool false]) ?_ rfl ⟨.slice none 0 0,?_,?_,B8⟩
    ·simp [results,Tryz.results50,go_sem,q0,q1,q2,q3,q4,q5,q6,q7]
     rfl
    ·rfl
    ·exact ⟨none,0,rfl,ZnR _,by omega,Sl.nil_⟩
   | true=>
    obtain ⟨k1,k2,k3,k4,k5,k6⟩:=Par.may_ok hpm;dsimp only at k1 k2 k3 k4 k5 k6;obtain ⟨sS,rfl⟩:∃ m:Nat,xS=(m:Int):=⟨xS.toNat,by omega⟩;have sl:=(sx.below hb67).sub 13 sS (by omega);obtain ⟨dd,hdd⟩:∃ d,(x.drop 13).take sS=d:=⟨_,rfl⟩;rw [hdd] at sl;have hddl:dd.length=sS:=by have:=sl.len;simpa using this
    have hTif:T=if putR ⟨xO,xB,xI,⟨xK,xH,(sS:Int)⟩,sv,dd⟩=l then some ⟨xO,xB,xI,⟨xK,xH,(sS:Int)⟩,sv,dd⟩ else none:=by
     rw [← HTT.out,HTif.out,HPP.out,HPR.out,hpm,Int.toNat_natCast,hdd];by_cases hq:putR ⟨xO,xB,xI,⟨xK,xH,(sS:Int)⟩,sv,dd⟩=l
     ·rw [if_pos ⟨by trivial,by trivial,hq⟩,if_pos hq]
     ·rw [if_neg (fun h=>hq h.2.2),if_neg hq]
    have HTi:=hid hTif;have HDL:=hid hddl;have HDD:=hid hdd;clear hTif hddl hdd hpm;have hsum:IntKind.i64.wrap (13+(sS:Int))=13+(sS:Int):=by rw [IntKind.wrap_i64];omega
    have hsc:13+sS≤cx:=by omega
    have hsci:13+(sS:Int)≤(cx:Int):=by omega
    obtain ⟨cl0,cl1,cl2,cl3,cl4,cl5,cl6,cl7⟩:=Row.c8 hr7;have fz7:=hr7.frozen 7;go_wp2_with fail;have hr9:=hr7.set 7 (.slice (some ⟨bx,ox+13,none⟩) sS (cx - 13));have hb9:Below w2.heap.size w2 (w7.setCell ⟨w2.heap.size,7,none⟩ (.slice (some ⟨bx,ox+13,none⟩) sS (cx - 13))):=Zz0e hb67 _ _ (ZnR _) hb67.size _;clear hr7 fz7 cl0 cl1 cl2 cl3 cl4 cl5 cl6 cl7 hr27;generalize w7.setCell ⟨w2.heap.size,7,none⟩ (.slice (some ⟨bx,ox+13,none⟩) sS (cx - 13))=w9 at*;simp only [List.set_cons_succ,List.set_cons_zero] at hr9;have hl9:=hr9.lt;have s9:=(sx.below hb9).sub 13 sS (by omega);rw [show (x.drop 13).take sS=dd from HDD.out] at s9
    refine (Zz20 w2.heap.size ⟨xO,xB,xI,⟨xK,xH,(sS:Int)⟩,sv,dd⟩ _ sS _ w9 s9 hb9.size).mono ?_;rintro e w10 ⟨vp,rfl,hvp,hb10⟩;obtain ⟨pl,hpl⟩:∃ p,putR ⟨xO,xB,xI,⟨xK,xH,(sS:Int)⟩,sv,dd⟩=p:=⟨_,rfl⟩;rw [hpl] at hvp;have HPL:=hid hpl;clear hpl;obtain ⟨Ap,cp,rfl,hcp1,hcp2⟩:=Zz52 hvp rfl;have sp:=ob_sl hvp rfl;have hr10:=hr9.below hb10 hl9;have hb210:=hb9.trans (hb10.mono hb9.size);have hr210:=hr2.below hb210 hlt2;have hbw10:=hb02.trans (hb210.mono hb02.size);have sl10:=(hl2.below (hb210.mono (show B≤w2.heap.size by have:=hb02.size;omega))).mono (show B≤w10.heap.size by have:=hbw10.size;omega);have s10:=s9.below (hb10.mono hb9.size);have hpln:pl.length≤64:=by
     rw [← HPL.out];unfold putR;split
     ·rw [Zz3r];split <;> omega
     ·simp
    clear hr9 hb9 hb10 s9 hvp;by_cases heq:pl=l
    ·have hT:T=some ⟨xO,xB,xI,⟨xK,xH,(sS:Int)⟩,sv,dd⟩:=by rw [HTi.out,HPL.out,if_pos heq]
     subst hT;have HEQ:=hid heq;clear heq;go_wp2_with fail;refine (Zz2m true w10.heap.size _ _ pl l _ _ _ _ _ sp sl10 (by omega) (by omega) (decide_eq_true HEQ.out)).mono ?_;rintro e w11 ⟨rfl,dn,rfl⟩;have hr11:=hr10.drewN dn;have hr211:=hr210.drewN dn;have hbw11:=Zz01 hbw10 dn;have s11:=s10.drewN dn;have hsz:w2.heap.size≤(w10.drewN dn).heap.size:=hb210.size;clear hr10 hr210 hbw10 s10;generalize w10.drewN dn=wq at*;obtain ⟨cl0,cl1,cl2,cl3,cl4,cl5,cl6,cl7⟩:=Row.c8 hr11;obtain ⟨z0,z1,z2,z3,z4,z5,z6,z7⟩:=Row.c8 hr211;have y0:=hr211.frozen 0;have y1:=hr211.frozen 1;have y2:=hr211.frozen 2;have y3:=hr211.frozen 3;have y4:=hr211.frozen 4;have y5:=hr211.frozen 5;have y6:=hr211.frozen 6
     have y7:=hr211.frozen 7;go_wp2_with fail;have R8:=row8 hr211 (.int .i64 xO) (.int .i64 xB) (.int .i64 xI) (.int .i64 xK) (.int .i64 xH) (.int .i64 (sS:Int)) (.int .u32 (sv.toNat:Int)) (.slice (some ⟨bx,ox+13,none⟩) sS (cx - 13));have B8:=below8 hbw11 (ZnR _) hbw11.size (.int .i64 xO) (.int .i64 xB) (.int .i64 xI) (.int .i64 xK) (.int .i64 xH) (.int .i64 (sS:Int)) (.int .u32 (sv.toNat:Int)) (.slice (some ⟨bx,ox+13,none⟩) sS (cx - 13));obtain ⟨q0,q1,q2,q3,q4,q5,q6,q7⟩:=Row.c8 R8;refine bodyPost_ret (v:= .tuple #[Rec.val ⟨xO,xB,xI,⟨xK,xH,(sS:Int)⟩,sv,dd⟩ (.slice (some ⟨bx,ox+13,none⟩) sS (cx - 13)),.bool true]) ?_ rfl ⟨.slice (some ⟨bx,ox+13,none⟩) sS (cx - 13),?_,?_,B8⟩
     ·simp [results,Tryz.results50,go_sem,q0,q1,q2,q3,q4,q5,q6,q7]
      rfl
     ·rfl
     ·exact rb_of HDL.out (by omega) (by omega) ((sl8 s11 hgbx (.int .i64 xO) (.int .i64 xB) (.int .i64 xI) (.int .i64 xK) (.int .i64 xH) (.int .i64 (sS:Int)) (.int .u32 (sv.toNat:Int)) (.slice (some ⟨bx,ox+13,none⟩) sS (cx - 13))).mono (by simpa [World.setCell] using hsz))
    ·have hT:T=none:=by rw [HTi.out,HPL.out,if_neg heq]
     subst hT;have HEQ:=hid heq;clear heq;go_wp2_with fail;refine (Zz2m false w10.heap.size _ _ pl l _ _ _ _ _ sp sl10 (by omega) (by omega) (decide_eq_false HEQ.out)).mono ?_;rintro e w11 ⟨rfl,dn,rfl⟩;have hr211:=hr210.drewN dn;have hbw11:=Zz01 hbw10 dn;clear hr10 hr210 hbw10;generalize w10.drewN dn=wq at*;obtain ⟨z0,z1,z2,z3,z4,z5,z6,z7⟩:=Row.c8 hr211;have y0:=hr211.frozen 0;have y1:=hr211.frozen 1;have y2:=hr211.frozen 2;have y3:=hr211.frozen 3;have y4:=hr211.frozen 4;have y5:=hr211.frozen 5;have y6:=hr211.frozen 6;have y7:=hr211.frozen 7;go_wp2_with fail;have R8:=row8 hr211 (.int .i64 0) (.int .i64 0) (.int .i64 0) (.int .i64 0) (.int .i64 0) (.int .i64 0) (.int .u32 0) (.slice none 0 0)
     have B8:=below8 hbw11 (ZnR _) hbw11.size (.int .i64 0) (.int .i64 0) (.int .i64 0) (.int .i64 0) (.int .i64 0) (.int .i64 0) (.int .u32 0) (.slice none 0 0);obtain ⟨q0,q1,q2,q3,q4,q5,q6,q7⟩:=Row.c8 R8;refine bodyPost_ret (v:= .tuple #[Rec.zero.val (.slice none 0 0),.bool false]) ?_ rfl ⟨.slice none 0 0,?_,?_,B8⟩
     ·simp [results,Tryz.results50,go_sem,q0,q1,q2,q3,q4,q5,q6,q7]
      rfl
     ·rfl
     ·exact ⟨none,0,rfl,ZnR _,by omega,Sl.nil_⟩
end Go.Proofs.YtnknjeipfjdjoaaGreatDoor
