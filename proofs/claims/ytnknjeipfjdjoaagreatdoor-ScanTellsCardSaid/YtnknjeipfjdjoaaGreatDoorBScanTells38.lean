/- Pair Filled -/
import Derived.Deep.CutBlock
import Derived.Test.YtnknjeipfjdjoaaGreatDoorBScanTells36
set_option maxHeartbeats 8000000
set_option maxRecDepth 20000
set_option linter.unusedSimpArgs false
set_option linter.unusedVariables false
set_option linter.unusedSectionVars false
namespace Wells
open Go Go.RowKit
theorem DOk.more {m m':Nat} {d:Dr} (h:DOk m d) (hm:m≤m'):DOk m' d:=⟨h.room,h.len,h.lenB,h.wait,h.cells,h.cellsB,h.left,by have:=h.offs;omega⟩
end Wells
namespace Go.Proofs.YtnknjeipfjdjoaaGreatDoor
open Go.RowKit Wells
theorem DrvE.ltp {F:Nat→Prop} {w:World} {g pg:Nat} {d:Dr} (h:DrvE F w g pg d):∀ k,F k→k < w.heap.size:=by obtain ⟨_,_,_,_,h⟩:=h;exact h.lt
theorem DrvE.up {F:Nat→Prop} {w w1:World} {g pg:Nat} {d:Dr} (h:DrvE F w1 g pg d):DrvE (Ext F w w1) w1 g pg d:=by
 obtain ⟨_,_,_,_,h⟩:=h;exact ⟨_,_,_,_,h.more (fun k hk=> .inl hk) (fun k hk=>by rcases hk with hk | hk;exact h.lt k hk;exact hk.2)⟩
theorem RDrvE.up {F:Nat→Prop} {w w1:World} {g pg:Nat} {d:Dr} (h:RDrvE F w1 g pg d):RDrvE (Ext F w w1) w1 g pg d:=by
 obtain ⟨_,_,_,_,h⟩:=h;exact ⟨_,_,_,_,h.more (fun k hk=> .inl hk) (fun k hk=>by rcases hk with hk | hk;exact h.lt k hk;exact hk.2)⟩
structure HS (w0 w:World) (F G:Nat→Prop) (g pg gr qg:Nat) (d r:Dr) (m:Nat):Prop where
 d_:DrvE F w g pg d
 r_:RDrvE G w gr qg r
 dj:∀ k,F k→¬ G k
 hF:∀ k,F k→w0.heap.size≤k
 hG:∀ k,G k→w0.heap.size≤k
 be:Below w0.heap.size w0 w
 okd:DOk m d
 okr:DOk m r
section
variable {w0 w w1:World} {F G:Nat→Prop} {g pg gr qg:Nat} {d d' r r':Dr} {m m':Nat}
theorem HS.new_ (h:HS w0 w F G g pg gr qg d r m) (hb:Below w.heap.size w w1):HS w0 w1 F G g pg gr qg d r m:=⟨h.d_.new_ hb,h.r_.new_ hb,h.dj,h.hF,h.hG,h.be.trans (hb.mono h.be.size),h.okd,h.okr⟩
theorem HS.prog (h:HS w0 w F G g pg gr qg d r m) (ho:Only F w w1) (hd:DrvE (Ext F w w1) w1 g pg d') (hok:DOk m' d') (hm:m≤m'):HS w0 w1 (Ext F w w1) G g pg gr qg d' r m':=
 ⟨hd,h.r_.only ho (fun k hg hf=>h.dj k hf hg),fun k hf hg=>by
  rcases hf with hf | hf
  ·exact h.dj k hf hg
  ·have:=h.r_.lt_ k hg;omega,fun k hf=>by
  rcases hf with hf | hf
  ·exact h.hF k hf
  ·have:=h.be.size;omega,h.hG,h.be.trans (ho.below h.hF h.be.size),hok,h.okr.more hm⟩
theorem HS.doc (h:HS w0 w F G g pg gr qg d r m) (ho:Only G w w1) (hr:RDrvE (Ext G w w1) w1 gr qg r') (hok:DOk m' r') (hm:m≤m'):HS w0 w1 F (Ext G w w1) g pg gr qg d r' m':=
 ⟨h.d_.only ho (fun k hf hg=>h.dj k hf hg),hr,fun k hf hg=>by
  rcases hg with hg | hg
  ·exact h.dj k hf hg
  ·have:=h.d_.ltp k hf;omega,h.hF,fun k hg=>by
  rcases hg with hg | hg
  ·exact h.hG k hg
  ·have:=h.be.size;omega,h.be.trans (ho.below h.hG h.be.size),h.okd.more hm,hok⟩
end
end Go.Proofs.YtnknjeipfjdjoaaGreatDoor
namespace Wells
open Go Go.RowKit
def fillD (room:Nat) (ls:List (List Byte)) (wt:Nat):Dr:=⟨Pw.new,room,ls,wt, [],false,false⟩
theorem Zzgr {room:Nat} {ls:List (List Byte)} {wt:Nat} {c:List Byte} (hc:c.length=64) (hl:ls.length < room):(fillD room ls wt).append c=(fillD room (ls++ [c]) (wt+1),0):=by
 unfold Dr.append;rw [if_neg (by rw [hc];simp),if_neg (by simp [fillD]),if_neg (by simp [fillD];omega),if_neg (by simp [fillD,Pw.new]),if_pos (by rfl)];rfl
theorem Zzem (room:Nat) (ls:List (List Byte)) (wt:Nat):(fillD room ls wt).sync=(fillD room ls 0,0):=rfl
theorem Zz8i {room:Nat} {ls:List (List Byte)} {wt:Nat} (hr:1≤room∧room≤512) (hl:ls.length≤room) (hw:wt≤ls.length) (hc:∀ x∈ls,x.length=64):DOk 0 (fillD room ls wt):=
 ⟨hr,hl,Nat.zero_le _,hw,hc,(fun x hx=>by cases hx),⟨Int.le_refl _,by show (0:Int)≤9223372036854775807;omega⟩,⟨Int.le_refl _,Int.le_refl _⟩⟩
end Wells
namespace Go.Proofs.YtnknjeipfjdjoaaGreatDoor
open Go.RowKit Wells
def FilR (N:Nat) (ls:List (List Byte)) (w:World) (e:Ending) (w':World):Prop:=
 ∃ F G g pg gr qg,e= .returned (.tuple #[.pointer (some ⟨g,0,none⟩),.pointer (some ⟨gr,0,none⟩)])∧HS w w' F G g pg gr qg (fillD N ls 0) (fillD N ls 0) 0
theorem Zzbu (N:Nat) (A:Option Addr) (n c:Nat) (vs:List Value) (ls:List (List Byte)) (w:World) (h:RBs w w.heap.size A n vs ls) (hN:1≤N∧N≤512) (hn:n≤N) (hc:∀ x∈ls,x.length=64):
  Calls Tryz.prog 11 #[.int .i64 (N:Int),.slice A n c] w (FilR N ls w):=by
 have HC:=hid hc;have H:=hid h;have HLN:=hid h.len;clear hc h;go_enter Tryz.func11,Tryz.ntmps11;go_wp2_with fail;refine (Zzbt w).mono ?_;rintro e w1 ⟨pg,rfl,hpg,hp1,hb1⟩;have hz1:=hb1.size;have hpgl:=hp1.lt;go_wp2_with fail;refine (Zzbh N pg Pw.new w1 hN.1 hN.2 hp1).mono ?_;rintro e w2 ⟨g,rfl,hg,hd2,hb2⟩;have hz2:=hb2.size;have hq3:=Row.new w2 79 #[.bool false,.bool false,.int .i64 0,.int .i64 0];have hb3:Below w2.heap.size w2 (w2.alloc (.cells #[.bool false,.bool false,.int .i64 0,.int .i64 0] 79)):=(Below.refl _ _).alloc (ZnR _) _;have HB3:=hid ((hb1.trans (hb2.mono hz1)).trans (hb3.mono (by omega)));have HD3:=hid (hd2.new_ hb3);have HQ3:=hid hq3;obtain ⟨qg,hqg⟩:∃ x,w2.heap.size=x:=⟨_,rfl⟩
 have hgl:g < w2.heap.size:=hd2.ltp g (.inl rfl);rw [hqg] at HQ3 hgl;have HQG:=hid hqg;have hqw:w.heap.size≤qg:=by omega
 have hpq:pg < qg:=by omega
 clear hd2 hb1 hb2 hb3 hq3 hp1 hqg;go_wp2_with fail;generalize w2.alloc (.cells #[.bool false,.bool false,.int .i64 0,.int .i64 0] 79)=w3 at*;rw [HQG.out];refine (Zzgi N qg Pw.new w3 hN.1 hN.2 HQ3.out).mono ?_;rintro e w4 ⟨gr,rfl,hgr,hr4,hb4⟩;have hz4:=hb4.size;have hq3l:=HQ3.out.lt;have HH:=hid (show HS w w4 (fun k=>k=g∨k=pg) (fun k=>k=gr∨k=qg) g pg gr qg (fillD N [] 0) (fillD N [] 0) 0 from
  ⟨HD3.out.new_ hb4,hr4,fun k hf hg2=>by rcases hf with rfl | rfl <;> rcases hg2 with h1 | h1 <;> omega,fun k hf=>by rcases hf with rfl | rfl <;> omega,fun k hf=>by rcases hf with rfl | rfl <;> omega,HB3.out.trans (hb4.mono HB3.out.size),Zz8i hN (Nat.zero_le _) (Nat.zero_le _) (fun x hx=>by cases hx),Zz8i hN (Nat.zero_le _) (Nat.zero_le _) (fun x hx=>by cases hx)⟩)
 clear hr4 hb4 HD3 HB3 HQ3 hz1 hz2 hz4 hq3l hpgl hgl hgr hpq hqw hg hpg;go_wp2_with fail;go_loopw [19] (fun iv wr=>∃ (k:Nat) (F G:Nat→Prop),k≤n∧iv= .int .i64 (k:Int)∧HS w wr F G g pg gr qg (fillD N (ls.take k) k) (fillD N (ls.take k) k) 0) (fun iv _=>n - (intOf iv).toNat)
 case atStart=>exact ⟨0,_,_,Nat.zero_le _,rfl,HH.out⟩
 case round=>
  clear HH;obtain ⟨k,F,G,hk,rfl,hh⟩:=hrel;have HH:=hid hh;clear hh;have hlk:(ls.take k).length=k:=by rw [List.length_take,HLN.out];omega
  by_cases hlt:k < n
  ·have hlt':(k:Int) < (n:Int):=by omega
   obtain ⟨bb,o,A',c',e',hbb,hcell,hc1,hc2,hsl⟩:=(H.out.below HH.out.be).get hlt;obtain ⟨x,hx⟩:∃ x,ls.getD k []=x:=⟨_,rfl⟩;rw [hx] at hcell hsl hc1;have hkl:k < ls.length:=by rw [HLN.out];exact hlt
   have hx64:x.length=64:=by rw [← hx,ZgD,ZgE hkl];exact HC.out _ (List.getElem_mem _)
   have htk:ls.take (k+1)=ls.take k++ [x]:=by
    rw [ZtS hkl,← hx,ZgD,ZgE hkl];rfl
   rw [hx64] at hcell hsl hc1;subst e';have HSL:=hid hsl;have HTK:=hid htk;have happ:=Zzgr (room:=N) (wt:=k) hx64 (show (ls.take k).length < N by omega);rw [← htk] at happ;have HAPP:=hid happ;have HOK:=hid (Zz8i (wt:=k+1) hN (show (ls.take (k+1)).length≤N by rw [List.length_take,HLN.out];omega) (by rw [List.length_take,HLN.out];omega) (fun x hx=>HC.out x (List.mem_of_mem_take hx)));clear hx hsl htk happ hx64 hkl;go_wp2_with fail;refine (Zz9w F g pg _ 0 w.heap.size A' x 64 c' wr HH.out.d_ HH.out.okd (by omega) HSL.out HH.out.be.size (by omega)).mono ?_;rintro e w5 ⟨rfl,hd5,ho5⟩;rw [HAPP.out] at hd5 ⊢;have H5:=hid (HH.out.prog ho5 hd5 HOK.out (ZnR _))
   have HSL5:=hid (HSL.out.below (ho5.below HH.out.hF HH.out.be.size));clear hd5 ho5;dsimp only;go_wp2_with fail;refine (Zz9m G gr qg _ 0 A' x 64 c' w5 H5.out.r_ H5.out.okr (by omega) (fun w' ho=>(HSL5.out.below (ho.below H5.out.hG H5.out.be.size)).mono (ZnT H5.out.be.size (ho.below H5.out.hG H5.out.be.size).size)) (by omega)).mono ?_;rintro e w6 ⟨rfl,hd6,ho6⟩;rw [HAPP.out] at hd6 ⊢;have H6:=hid (H5.out.doc ho6 hd6 HOK.out (ZnR _));clear hd6 ho6;dsimp only;go_wp2_with fail;go_roundw
   case rel=>exact ⟨k+1,_,_,by omega,by go_num,H6.out⟩
   case measure=>simp [intOf];omega
  ·have hlt':¬ (k:Int) < (n:Int):=by omega
   obtain rfl:k=n:=by omega
   have htk:ls.take k=ls:=ZtL (by rw [HLN.out];exact ZnR _);rw [htk] at HH;have HOK:=hid (Zz8i (wt:=0) hN (show ls.length≤N by rw [HLN.out];exact hn) (Nat.zero_le _) (fun x hx=>HC.out x hx));have HSY:=hid (Zzem N ls k);clear htk hlk;go_wp2_with fail;refine (Zzf6 F g pg _ 0 wr HH.out.d_ HH.out.okd (by omega)).mono ?_;rintro e w5 ⟨rfl,hd5,ho5⟩;rw [HSY.out] at hd5 ⊢;have H5:=hid (HH.out.prog ho5 (DrvE.up hd5) HOK.out (ZnR _));clear hd5 ho5;dsimp only;go_wp2_with fail;refine (Zzdh G gr qg _ 0 w5 H5.out.r_ H5.out.okr (by omega)).mono ?_;rintro e w6 ⟨rfl,hd6,ho6⟩;rw [HSY.out] at hd6 ⊢;have H6:=hid (H5.out.doc ho6 (RDrvE.up hd6) HOK.out (ZnR _));clear hd6 ho6;dsimp only;go_wp2_with fail;go_ret2
   exact ⟨_,_,_,_,_,_,rfl,H6.out⟩
end Go.Proofs.YtnknjeipfjdjoaaGreatDoor
