/- RefMay -/
import Derived.Test.YtnknjeipfjdjoaaGreatDoorBScanTells13
import Derived.Test.YtnknjeipfjdjoaaGreatDoorBScanTells27
set_option maxHeartbeats 8000000
set_option maxRecDepth 20000
set_option linter.unusedSimpArgs false
set_option linter.unusedVariables false
namespace Wells
open Go Go.RowKit
theorem Zzej {m:Mani} (h:¬ MayP m):m.may=false:=by
 cases hm:m.may with
 | false=>rfl
 | true=>exact absurd (may_p hm) h
end Wells
namespace Go.Proofs.YtnknjeipfjdjoaaGreatDoor
open Go.RowKit Wells
theorem Zz2k (m:Mani) (B:Nat) (Ad Ao:Option Addr) (nd cd no co:Nat) (ts:List Value) (b:Bool) (w:World) (h:RM w B m Ad nd cd Ao no co ts) (hB:B≤w.heap.size) (h64:M64 m) (hnm:∀ e∈m.objs,e.name.length≤1048576) (hb:m.may=b):
  Calls Tryz.prog 57 #[m.val (.slice Ad nd cd) (.slice Ao no co)] w fun e w'=>e= .returned (.bool b)∧Below w.heap.size w w':=by
 have HB:=hid hb;have HR:=hid h;have H64:=hid h64;have HNM:=hid hnm;have hdl:=h.dl;have hdc:=h.dc;have hoc:=h.oc;have hol:=h.o.len;obtain ⟨b3,hb3⟩:∃ q,m.P.may=q:=⟨_,rfl⟩;have H3:=hid hb3;have hcm:=MCells.new w 28 m (.slice Ad nd cd) (.slice Ao no co);have hb01:Below w.heap.size w (w.alloc (maniObj 28 m (.slice Ad nd cd) (.slice Ao no co))):=(Below.refl _ _).alloc (ZnR _) _;obtain ⟨P,hPm⟩:∃ P,m.P=P:=⟨_,rfl⟩;have HPM:=hid hPm;have HVP:=hid (show Par.val P= .agg #[.int .i64 m.P.K,.int .i64 m.P.H,.int .i64 m.P.S] by rw [← hPm];rfl);have HDL:=hid hdl;have HOL:=hid hol;clear hb h h64 hnm hPm hb3;unfold Mani.val;go_enter Tryz.func57,Tryz.ntmps57;obtain ⟨c0,c1,c2,c3,c4,c5,c6,c7⟩:=hcm
 go_wp2_with fail;all_goals generalize w.alloc (maniObj 28 m (.slice Ad nd cd) (.slice Ao no co))=w2 at*
 all_goals try (go_ret;exact ⟨Zz0a (by rw [← HB.out];exact (Zzej (fun hp=>by have h1:=hp.seq;have h2:=hp.next;have h3:=hp.extra;have h4:=hp.olen;omega)).symm),hb01⟩)
 have hz2:=hb01.size;rw [← HVP.out];refine (Zz1n P b3 w2 (by rw [← HPM.out];exact H3.out)).mono ?_;rintro e w4 ⟨rfl,hbq⟩;replace c0:=Zz00 hbq c0;replace c1:=Zz00 hbq c1;replace c2:=Zz00 hbq c2;replace c3:=Zz00 hbq c3;replace c4:=Zz00 hbq c4;replace c5:=Zz00 hbq c5;replace c6:=Zz00 hbq c6;replace c7:=Zz00 hbq c7;have hb04:=hb01.trans (hbq.mono hz2);have hz4:=hb04.size;clear hbq hb01 hz2;cases b3 with
 | false=>
  have hb:b=false:=by rw [← HB.out];exact Zzej (fun hp=>by have:=hp.P;rw [H3.out] at this;cases this)
  subst hb;go_wp2_with fail;go_ret
  exact ⟨rfl,hb04⟩
 | true=>
 have hq1:1≤m.seq∧m.seq≤2147483647:=by omega
 have hq2:0≤m.next∧m.next≤16777216:=by omega
 have HQ1:=hid hq1;have HQ2:=hid hq2;clear hq1 hq2;go_wp2_with fail;all_goals try (go_ret;exact ⟨Zz0a (by rw [← HB.out];exact (Zzej (fun hp=>by have h1:=hp.seq;have h2:=hp.next;have h3:=hp.extra;have h4:=hp.olen;omega)).symm),hb04⟩)
 have hq3:0≤m.extra∧m.extra≤16:=by omega
 have hno:no≤12:=by omega
 have HQ3:=hid hq3;clear hq3;go_loop [53] (fun i=>∃ k:Nat,k≤nd∧i= .int .i64 k∧Hid (∀ j,j < k→riseStep m.drives 63 j=true)) (fun i=>nd - (intOf i).toNat)
 case atStart=>exact ⟨0,Nat.zero_le _,rfl,hid (fun j hj=>absurd hj (by omega))⟩
 case round=>
  obtain ⟨k,hk,rfl,HK⟩:=hrel;by_cases hlt:k < nd
  ·have hrd:=(HR.out.below (hb04.mono hB)).d
   obtain ⟨bb,o,rfl,hbb,hce⟩:=hrd.get hlt (Zz1j m.drives k (by rw [HDL.out];exact hlt));have hcp:0 < k→w4.cell? ⟨bb,o+(k - 1),none⟩=some (.int .i64 (m.drives.getD (k - 1) 0)):=fun h0=>by
    obtain ⟨b2,o2,e,_,h2⟩:=hrd.get (k:=k - 1) (by omega) (Zz1j m.drives (k - 1) (by rw [HDL.out];omega));injection e with e;injection e with e1 e2;subst e1 e2;exact h2
   obtain ⟨x,hx⟩:∃ x,m.drives.getD k 0=x:=⟨_,rfl⟩;obtain ⟨y,hy⟩:∃ y,m.drives.getD (k - 1) 0=y:=⟨_,rfl⟩;have HX:=hid hx;have HY:=hid hy;rw [hx] at hce;simp only [hy] at hcp;clear hx hy hrd;have HST:=hid (show riseStep m.drives 63 k=(decide (0≤x∧x≤63) && (decide (k=0) || decide (y < x))) by unfold riseStep;rw [HX.out,HY.out]);have HNB:=hid (fun (h:riseStep m.drives 63 k=false)=>show b=false by
    rw [← HB.out];exact Zzej (fun hp=>by
     have:=Zz1c hp.drives (k:=k) (by rw [HDL.out];exact hlt)
     rw [h] at this;cases this))
   by_cases hw1:0≤x∧x≤63
   ·obtain ⟨x1,x2⟩:=hw1
    have x3:¬ x < 0:=by omega
    have x4:¬ 64≤x:=by omega
    by_cases hk0:k=0
    ·subst hk0
     have HS:=hid (show riseStep m.drives 63 0=true by rw [HST.out];simp [x1,x2]);have hce0:w4.cell? ⟨bb,o,none⟩=some (.int .i64 x):=hce;clear hcp;go_wp2_with fail;go_round
     case rel=>exact ⟨1,by omega,by first | rfl | go_num,hid (fun j hj=>(show j=0 by omega) ▸ HS.out)⟩
     case measure=>simp [intOf];omega
    ·have hcp':=hcp (by omega)
     have hk1:(0:Int) < (k:Int):=by omega
     have hk1n:0 < k:=by omega
     have hk2:(0:Int)≤(k:Int) - 1:=by omega
     have hk3:(k:Int) - 1 < (nd:Int):=by omega
     clear hcp;by_cases hyx:y < x
     ·have HS:=hid (show riseStep m.drives 63 k=true by rw [HST.out];simp [x1,x2,hyx])
      have hyx2:¬ x≤y:=by omega
      go_wp2_with fail;go_round
      case rel=>exact ⟨k+1,by omega,by go_num,hid (fun j hj=>by
       rcases Nat.lt_or_ge j k with h | h
       ·exact HK.out j h
       ·have e:j=k:=by omega
        rw [e];exact HS.out)⟩
      case measure=>simp [intOf];omega
     ·as_aux_lemma=>
      have hb:b=false:=HNB.out (by rw [HST.out];simp [hyx,hk0]);subst hb;have hyx2:x≤y:=by omega
      go_wp2_with fail;go_ret
      exact ⟨rfl,hb04⟩
   ·as_aux_lemma=>
    have hb:b=false:=HNB.out (by rw [HST.out,decide_eq_false hw1];rfl);subst hb;clear hcp;have hce0:k=0→w4.cell? ⟨bb,o,none⟩=some (.int .i64 x):=fun e=>by subst e;exact hce
    go_wp2_with fail;all_goals first | (exfalso;omega) | (go_ret;exact ⟨rfl,hb04⟩)
  ·obtain rfl:k=nd:=by omega
   have HD:=hid (show riseB m.drives 63=true from Zz0y (fun j hj=>HK.out j (by rw [HDL.out] at hj;exact hj)));have HBB:=hid (show b=(List.range no).all (objStep m) by
    rw [← HB.out];unfold Mani.may preB;rw [decide_eq_true HQ1.out,decide_eq_true HQ2.out,H3.out,decide_eq_true HQ3.out,HD.out,HOL.out,decide_eq_true hno];rfl)
   have hsz:=Par.size_le (Par.may_ok H3.out);unfold Par.size at hsz;obtain ⟨ks,hks⟩:∃ q,m.P.K*m.P.S=q:=⟨_,rfl⟩;rw [hks] at hsz;have HKS:=hid hks;have HW1:=hid (show IntKind.i64.wrap (m.P.K*m.P.S)=ks by rw [HKS.out,IntKind.wrap_i64];omega);have HW2:=hid (show IntKind.i64.wrap (ks*8)=ks*8 by rw [IntKind.wrap_i64];omega);clear hks hlt;obtain ⟨w5,hw5⟩:∃ w5:World,w5=w4:=⟨_,rfl⟩;subst hw5;go_wp2_with fail;go_loopw [82] (fun i wr=>∃ k:Nat,k≤no∧i= .int .i64 k∧Below w5.heap.size w5 wr∧Hid (∀ j,j < k→objStep m j=true)) (fun i _=>no - (intOf i).toNat)
   case atStart=>exact ⟨0,Nat.zero_le _,rfl,Below.refl _ _,hid (fun j hj=>absurd hj (by omega))⟩
   case round=>
    obtain ⟨k,hk,rfl,hbr,HK2⟩:=hrel;have hzr:=hbr.size;have hb0r:=hb04.trans (hbr.mono hz4);have hz0r:=hb0r.size;by_cases hlt:k < no
    ·have hrm:=HR.out.below (hb0r.mono hB)
     have hrs:=hrm.o;obtain ⟨bb,o,A',c',rfl,hbb,e0,e1,e2,e3,hc1,hc2,hsl⟩:=hrs.get hlt;have hpv:0 < k→wr.cell? ⟨bb,o+(k - 1)*4,none⟩=some (.string (strB (entAt m (k - 1)).name)):=fun h0=>by
      obtain ⟨b2,o2,_,_,e,_,h2,_⟩:=hrs.get (k:=k - 1) (by omega);injection e with e;injection e with e1 e2;subst e1 e2;exact h2
     have hmem:m.objs.getD k default∈m.objs:=by
      have:k < m.objs.length:=by rw [hrs.len];exact hlt
      rw [ZgD,ZgE this];exact List.getElem_mem _
     have hnmx:=HNM.out _ hmem;have hx64:=H64.out.objs _ hmem;obtain ⟨x,hx⟩:∃ x,m.objs.getD k default=x:=⟨_,rfl⟩;have HX:=hid (show entAt m k=x from hx);rw [hx] at e0 e1 e2 e3 hc1 hsl hnmx hx64;obtain ⟨nt,hnt⟩:∃ n,x.tries.length=n:=⟨_,rfl⟩;rw [hnt] at e3 hc1 hsl;have HNT:=hid hnt;have HSL:=hid hsl;obtain ⟨y,hy⟩:∃ y,(entAt m (k - 1)).name=y:=⟨_,rfl⟩;have HY:=hid hy;rw [hy] at hpv;obtain ⟨p1,hp1⟩:∃ q,nameOk x.name=q:=⟨_,rfl⟩;have HP1:=hid hp1;obtain ⟨cn,hcn⟩:∃ q,countP m.P x.len=q:=⟨_,rfl⟩;have HCN:=hid (show countP P x.len=cn by rw [← HPM.out];exact hcn)
     have HST:=hid (show objStep m k=((p1 && (decide (0≤x.obj∧x.obj≤m.next - 1) && (decide (0≤x.len∧x.len≤ks*8) && (triesOk x.tries && decide ((nt:Int)=cn))))) && ((decide (k=0) || lessS y x.name) && (m.objs.take k).all fun y=> !decide (y.obj=x.obj))) by
      unfold objStep entB;rw [HX.out,hp1,HY.out,HKS.out,hnt,hcn])
     have HNB:=hid (fun (h:objStep m k=false)=>show b=false by rw [HBB.out];exact Zz0l hlt h);replace c0:=(hbr.cell (p:=⟨w.heap.size,0,none⟩) (World.block_lt_of_cell? w5 _ c0)).trans c0;replace c1:=(hbr.cell (p:=⟨w.heap.size,1,none⟩) (World.block_lt_of_cell? w5 _ c1)).trans c1;replace c2:=(hbr.cell (p:=⟨w.heap.size,2,none⟩) (World.block_lt_of_cell? w5 _ c2)).trans c2;replace c3:=(hbr.cell (p:=⟨w.heap.size,3,none⟩) (World.block_lt_of_cell? w5 _ c3)).trans c3;replace c4:=(hbr.cell (p:=⟨w.heap.size,4,none⟩) (World.block_lt_of_cell? w5 _ c4)).trans c4;replace c5:=(hbr.cell (p:=⟨w.heap.size,5,none⟩) (World.block_lt_of_cell? w5 _ c5)).trans c5
     replace c6:=(hbr.cell (p:=⟨w.heap.size,6,none⟩) (World.block_lt_of_cell? w5 _ c6)).trans c6;replace c7:=(hbr.cell (p:=⟨w.heap.size,7,none⟩) (World.block_lt_of_cell? w5 _ c7)).trans c7;have hce:=ECells.new wr 61 x (.slice A' nt c');have hbx:=(Below.refl wr.heap.size wr).alloc (ZnR _) (entObj 61 x (.slice A' nt c'));obtain ⟨f0,f1,f2,f3⟩:=hce;have hzx:=hbx.size;have hpvx:=fun h0=>Zz00 hbx (hpv h0)
     have HNX:=hid hnmx;have HX64:=hid hx64;clear hp1 hx hnt hsl hnmx hx64 hrs hrm hmem hpv hy hcn;go_wp2_with fail;generalize wr.alloc (entObj 61 x (.slice A' nt c'))=wx at*;replace c0:=Zz00 hbx c0;replace c1:=Zz00 hbx c1;replace c2:=Zz00 hbx c2;replace c3:=Zz00 hbx c3;replace c4:=Zz00 hbx c4;replace c5:=Zz00 hbx c5;replace c6:=Zz00 hbx c6;replace c7:=Zz00 hbx c7;have hbxx:=hbx;have hb0x:=hb0r.trans (hbx.mono hz0r);have hz0x:=hb0x.size;have hb5x:=hbr.trans (hbx.mono hzr);clear e0 e1 e2 e3 hbx;cases p1 with
     | false=>
      as_aux_lemma=>
      have hb:b=false:=HNB.out (by rw [HST.out];rfl);subst hb;clear hpvx;have hw1e:=HW1.out;have hw2e:=HW2.out
      refine Ord.begin (S:=(fun w'=>w'.cell? ⟨w.heap.size,1,none⟩=some (.int .i64 m.next)∧w'.cell? ⟨w.heap.size,2,none⟩=some (.int .i64 m.P.K)∧w'.cell? ⟨w.heap.size,3,none⟩=some (.int .i64 m.P.H)∧w'.cell? ⟨w.heap.size,4,none⟩=some (.int .i64 m.P.S)∧w'.cell? ⟨w.heap.size,7,none⟩=some (.slice (some ⟨bb,o,none⟩) no co)∧w'.cell? ⟨wr.heap.size,0,none⟩=some (.string (strB x.name))∧w'.cell? ⟨wr.heap.size,1,none⟩=some (.int .i64 x.obj)∧w'.cell? ⟨wr.heap.size,2,none⟩=some (.int .i64 x.len)∧w'.cell? ⟨wr.heap.size,3,none⟩=some (.slice A' nt c')∧Below wx.heap.size wx w')) [0,1,2,3,4,5,6,7,8,9,10,11,12,13,14,15,16,17,18,19,20,21,22,23,24,25,26,27,28,29,30,31,32,33,34,35,36,37,38,39,40,41,42,43,44,45,46,47,48,49,50,51,52,53,54,55,56,57,58,59,60] (by kernel_rfl) (H9.drew ⟨c1,c2,c3,c4,c7,f0,f1,f2,f3,Below.refl _ _⟩) (fun hS=> ?_)
      iterate 2 (refine Ord.yV hS ?_;try simp only [bS,bN,bA,b0,b1])
      refine Ord.gA fun K hK=> ?_
      go_simp;go_at_call 98;refine (Zz0j x.name false _ HNX.out HP1.out).mono ?_;rintro e w6 ⟨rfl,hw6⟩;rw [← hw6];clear hw6 w6;go_wp2_with fail;refine hK.out _ _ hS (fun hS2=> ?_);clear hK K hS;have hS:=hS2;clear hS2;try simp only [bS,bN,bA,b0,b1]
      iterate 2 (refine Ord.yV hS ?_;try simp only [bS,bN,bA,b0,b1])
      iterate 14 (refine Ord.nA hS ?_;try simp only [bS,bN,bA,b0,b1])
      iterate 2 (refine Ord.yV hS ?_;try simp only [bS,bN,bA,b0,b1])
      iterate 3 (refine Ord.nA hS ?_;try simp only [bS,bN,bA,b0,b1])
      iterate 2 (refine Ord.yV hS ?_;try simp only [bS,bN,bA,b0,b1])
      iterate 5 (refine Ord.nA hS ?_;try simp only [bS,bN,bA,b0,b1])
      iterate 2 (refine Ord.yV hS ?_;try simp only [bS,bN,bA,b0,b1])
      iterate 3 (refine Ord.nA hS ?_;try simp only [bS,bN,bA,b0,b1])
      iterate 2 (refine Ord.yV hS ?_;try simp only [bS,bN,bA,b0,b1])
      iterate 11 (refine Ord.nA hS ?_;try simp only [bS,bN,bA,b0,b1])
      iterate 2 (refine Ord.yV hS ?_;try simp only [bS,bN,bA,b0,b1])
      iterate 9 (refine Ord.nA hS ?_;try simp only [bS,bN,bA,b0,b1])
      (refine Ord.yV hS ?_;try simp only [bS,bN,bA,b0,b1]);refine Ord.done (by kernel_rfl) ?_;clear hw1e hw2e ;have hhc:=hS;have hh:=H9.below hS;clear hS c1 c2 c3 c4 c7 f0 f1 f2 f3;have hbe:=hb0x.trans (hh.mono hz0x);clear hhc;go_wp2_with fail;go_ret
      exact ⟨rfl,hbe⟩
     | true=>
     by_cases hk0:k=0
     ·have HL:=hid (show (decide (k=0) || lessS y x.name)=true by simp [hk0])
      subst hk0;clear hpvx;by_cases t1:x.obj < 0
      ·as_aux_lemma=>
       have hb:b=false:=HNB.out (by rw [HST.out,decide_eq_false (p:=0≤x.obj∧x.obj≤m.next - 1) (by omega)];rfl);subst hb;have d1:decide (x.obj < 0)=true:=decide_eq_true t1;have hw1e:=HW1.out;have hw2e:=HW2.out
       refine Ord.begin (S:=(fun w'=>w'.cell? ⟨w.heap.size,1,none⟩=some (.int .i64 m.next)∧w'.cell? ⟨w.heap.size,2,none⟩=some (.int .i64 m.P.K)∧w'.cell? ⟨w.heap.size,3,none⟩=some (.int .i64 m.P.H)∧w'.cell? ⟨w.heap.size,4,none⟩=some (.int .i64 m.P.S)∧w'.cell? ⟨w.heap.size,7,none⟩=some (.slice (some ⟨bb,o,none⟩) no co)∧w'.cell? ⟨wr.heap.size,0,none⟩=some (.string (strB x.name))∧w'.cell? ⟨wr.heap.size,1,none⟩=some (.int .i64 x.obj)∧w'.cell? ⟨wr.heap.size,2,none⟩=some (.int .i64 x.len)∧w'.cell? ⟨wr.heap.size,3,none⟩=some (.slice A' nt c')∧Below wx.heap.size wx w')) [0,1,2,3,4,5,6,7,8,9,10,11,12,13,14,15,16,17,18,19,20,21,22,23,24,25,26,27,28,29,30,31,32,33,34,35,36,37,38,39,40,41,42,43,44,45,46,47,48,49,50,51,52,53,54,55,56,57,58,59,60] (by kernel_rfl) (H9.drew ⟨c1,c2,c3,c4,c7,f0,f1,f2,f3,Below.refl _ _⟩) (fun hS=> ?_)
       iterate 2 (refine Ord.yV hS ?_;try simp only [bS,bN,bA,b0,b1])
       refine Ord.gA fun K hK=> ?_
       go_simp;go_at_call 98;refine (Zz0j x.name true _ HNX.out HP1.out).mono ?_;rintro e w6 ⟨rfl,hw6⟩;rw [← hw6];clear hw6 w6;go_wp2_with fail;refine hK.out _ _ hS (fun hS2=> ?_);clear hK K hS;have hS:=hS2;clear hS2;try simp only [bS,bN,bA,b0,b1]
       iterate 5 (refine Ord.yV hS ?_;try simp only [bS,bN,bA,b0,b1])
       iterate 10 (refine Ord.nA hS ?_;try simp only [bS,bN,bA,b0,b1])
       iterate 8 (refine Ord.yV hS ?_;try simp only [bS,bN,bA,b0,b1])
       iterate 5 (refine Ord.nA hS ?_;try simp only [bS,bN,bA,b0,b1])
       iterate 2 (refine Ord.yV hS ?_;try simp only [bS,bN,bA,b0,b1])
       iterate 3 (refine Ord.nA hS ?_;try simp only [bS,bN,bA,b0,b1])
       iterate 2 (refine Ord.yV hS ?_;try simp only [bS,bN,bA,b0,b1])
       iterate 11 (refine Ord.nA hS ?_;try simp only [bS,bN,bA,b0,b1])
       iterate 2 (refine Ord.yV hS ?_;try simp only [bS,bN,bA,b0,b1])
       iterate 9 (refine Ord.nA hS ?_;try simp only [bS,bN,bA,b0,b1])
       (refine Ord.yV hS ?_;try simp only [bS,bN,bA,b0,b1]);refine Ord.done (by kernel_rfl) ?_;clear hw1e hw2e ;have hhc:=hS;have hh:=H9.below hS;clear hS c1 c2 c3 c4 c7 f0 f1 f2 f3;have hbe:=hb0x.trans (hh.mono hz0x);clear hhc;go_wp2_with fail;go_ret
       exact ⟨rfl,hbe⟩
      by_cases t2:m.next≤x.obj
      ·as_aux_lemma=>
       have hb:b=false:=HNB.out (by rw [HST.out,decide_eq_false (p:=0≤x.obj∧x.obj≤m.next - 1) (by omega)];rfl);subst hb;have d1:decide (x.obj < 0)=false:=decide_eq_false t1;have d2:decide (m.next≤x.obj)=true:=decide_eq_true t2;have hw1e:=HW1.out;have hw2e:=HW2.out
       refine Ord.begin (S:=(fun w'=>w'.cell? ⟨w.heap.size,1,none⟩=some (.int .i64 m.next)∧w'.cell? ⟨w.heap.size,2,none⟩=some (.int .i64 m.P.K)∧w'.cell? ⟨w.heap.size,3,none⟩=some (.int .i64 m.P.H)∧w'.cell? ⟨w.heap.size,4,none⟩=some (.int .i64 m.P.S)∧w'.cell? ⟨w.heap.size,7,none⟩=some (.slice (some ⟨bb,o,none⟩) no co)∧w'.cell? ⟨wr.heap.size,0,none⟩=some (.string (strB x.name))∧w'.cell? ⟨wr.heap.size,1,none⟩=some (.int .i64 x.obj)∧w'.cell? ⟨wr.heap.size,2,none⟩=some (.int .i64 x.len)∧w'.cell? ⟨wr.heap.size,3,none⟩=some (.slice A' nt c')∧Below wx.heap.size wx w')) [0,1,2,3,4,5,6,7,8,9,10,11,12,13,14,15,16,17,18,19,20,21,22,23,24,25,26,27,28,29,30,31,32,33,34,35,36,37,38,39,40,41,42,43,44,45,46,47,48,49,50,51,52,53,54,55,56,57,58,59,60] (by kernel_rfl) (H9.drew ⟨c1,c2,c3,c4,c7,f0,f1,f2,f3,Below.refl _ _⟩) (fun hS=> ?_)
       iterate 2 (refine Ord.yV hS ?_;try simp only [bS,bN,bA,b0,b1])
       refine Ord.gA fun K hK=> ?_
       go_simp;go_at_call 98;refine (Zz0j x.name true _ HNX.out HP1.out).mono ?_;rintro e w6 ⟨rfl,hw6⟩;rw [← hw6];clear hw6 w6;go_wp2_with fail;refine hK.out _ _ hS (fun hS2=> ?_);clear hK K hS;have hS:=hS2;clear hS2;try simp only [bS,bN,bA,b0,b1]
       iterate 5 (refine Ord.yV hS ?_;try simp only [bS,bN,bA,b0,b1])
       iterate 10 (refine Ord.nA hS ?_;try simp only [bS,bN,bA,b0,b1])
       iterate 15 (refine Ord.yV hS ?_;try simp only [bS,bN,bA,b0,b1])
       iterate 3 (refine Ord.nA hS ?_;try simp only [bS,bN,bA,b0,b1])
       iterate 2 (refine Ord.yV hS ?_;try simp only [bS,bN,bA,b0,b1])
       iterate 11 (refine Ord.nA hS ?_;try simp only [bS,bN,bA,b0,b1])
       iterate 2 (refine Ord.yV hS ?_;try simp only [bS,bN,bA,b0,b1])
       iterate 9 (refine Ord.nA hS ?_;try simp only [bS,bN,bA,b0,b1])
       (refine Ord.yV hS ?_;try simp only [bS,bN,bA,b0,b1]);refine Ord.done (by kernel_rfl) ?_;clear hw1e hw2e ;have hhc:=hS;have hh:=H9.below hS;clear hS c1 c2 c3 c4 c7 f0 f1 f2 f3;have hbe:=hb0x.trans (hh.mono hz0x);clear hhc;go_wp2_with fail;go_ret
       exact ⟨rfl,hbe⟩
      by_cases t3:x.len < 0
      ·as_aux_lemma=>
       have hb:b=false:=HNB.out (by rw [HST.out,decide_eq_false (p:=0≤x.len∧x.len≤ks*8) (by omega)];simp);subst hb;have d1:decide (x.obj < 0)=false:=decide_eq_false t1;have d2:decide (m.next≤x.obj)=false:=decide_eq_false t2;have d3:decide (x.len < 0)=true:=decide_eq_true t3;have hw1e:=HW1.out;have hw2e:=HW2.out
       refine Ord.begin (S:=(fun w'=>w'.cell? ⟨w.heap.size,1,none⟩=some (.int .i64 m.next)∧w'.cell? ⟨w.heap.size,2,none⟩=some (.int .i64 m.P.K)∧w'.cell? ⟨w.heap.size,3,none⟩=some (.int .i64 m.P.H)∧w'.cell? ⟨w.heap.size,4,none⟩=some (.int .i64 m.P.S)∧w'.cell? ⟨w.heap.size,7,none⟩=some (.slice (some ⟨bb,o,none⟩) no co)∧w'.cell? ⟨wr.heap.size,0,none⟩=some (.string (strB x.name))∧w'.cell? ⟨wr.heap.size,1,none⟩=some (.int .i64 x.obj)∧w'.cell? ⟨wr.heap.size,2,none⟩=some (.int .i64 x.len)∧w'.cell? ⟨wr.heap.size,3,none⟩=some (.slice A' nt c')∧Below wx.heap.size wx w')) [0,1,2,3,4,5,6,7,8,9,10,11,12,13,14,15,16,17,18,19,20,21,22,23,24,25,26,27,28,29,30,31,32,33,34,35,36,37,38,39,40,41,42,43,44,45,46,47,48,49,50,51,52,53,54,55,56,57,58,59,60] (by kernel_rfl) (H9.drew ⟨c1,c2,c3,c4,c7,f0,f1,f2,f3,Below.refl _ _⟩) (fun hS=> ?_)
       iterate 2 (refine Ord.yV hS ?_;try simp only [bS,bN,bA,b0,b1])
       refine Ord.gA fun K hK=> ?_
       go_simp;go_at_call 98;refine (Zz0j x.name true _ HNX.out HP1.out).mono ?_;rintro e w6 ⟨rfl,hw6⟩;rw [← hw6];clear hw6 w6;go_wp2_with fail;refine hK.out _ _ hS (fun hS2=> ?_);clear hK K hS;have hS:=hS2;clear hS2;try simp only [bS,bN,bA,b0,b1]
       iterate 5 (refine Ord.yV hS ?_;try simp only [bS,bN,bA,b0,b1])
       iterate 10 (refine Ord.nA hS ?_;try simp only [bS,bN,bA,b0,b1])
       iterate 20 (refine Ord.yV hS ?_;try simp only [bS,bN,bA,b0,b1])
       iterate 11 (refine Ord.nA hS ?_;try simp only [bS,bN,bA,b0,b1])
       iterate 2 (refine Ord.yV hS ?_;try simp only [bS,bN,bA,b0,b1])
       iterate 9 (refine Ord.nA hS ?_;try simp only [bS,bN,bA,b0,b1])
       (refine Ord.yV hS ?_;try simp only [bS,bN,bA,b0,b1]);refine Ord.done (by kernel_rfl) ?_;clear hw1e hw2e ;have hhc:=hS;have hh:=H9.below hS;clear hS c1 c2 c3 c4 c7 f0 f1 f2 f3;have hbe:=hb0x.trans (hh.mono hz0x);clear hhc;go_wp2_with fail;go_ret
       exact ⟨rfl,hbe⟩
      by_cases t4:ks*8 < x.len
      ·as_aux_lemma=>
       have hb:b=false:=HNB.out (by rw [HST.out,decide_eq_false (p:=0≤x.len∧x.len≤ks*8) (by omega)];simp);subst hb;have d1:decide (x.obj < 0)=false:=decide_eq_false t1;have d2:decide (m.next≤x.obj)=false:=decide_eq_false t2;have d3:decide (x.len < 0)=false:=decide_eq_false t3;have d4:decide (ks*8 < x.len)=true:=decide_eq_true t4;have hw1e:=HW1.out;have hw2e:=HW2.out
       refine Ord.begin (S:=(fun w'=>w'.cell? ⟨w.heap.size,1,none⟩=some (.int .i64 m.next)∧w'.cell? ⟨w.heap.size,2,none⟩=some (.int .i64 m.P.K)∧w'.cell? ⟨w.heap.size,3,none⟩=some (.int .i64 m.P.H)∧w'.cell? ⟨w.heap.size,4,none⟩=some (.int .i64 m.P.S)∧w'.cell? ⟨w.heap.size,7,none⟩=some (.slice (some ⟨bb,o,none⟩) no co)∧w'.cell? ⟨wr.heap.size,0,none⟩=some (.string (strB x.name))∧w'.cell? ⟨wr.heap.size,1,none⟩=some (.int .i64 x.obj)∧w'.cell? ⟨wr.heap.size,2,none⟩=some (.int .i64 x.len)∧w'.cell? ⟨wr.heap.size,3,none⟩=some (.slice A' nt c')∧Below wx.heap.size wx w')) [0,1,2,3,4,5,6,7,8,9,10,11,12,13,14,15,16,17,18,19,20,21,22,23,24,25,26,27,28,29,30,31,32,33,34,35,36,37,38,39,40,41,42,43,44,45,46,47,48,49,50,51,52,53,54,55,56,57,58,59,60] (by kernel_rfl) (H9.drew ⟨c1,c2,c3,c4,c7,f0,f1,f2,f3,Below.refl _ _⟩) (fun hS=> ?_)
       iterate 2 (refine Ord.yV hS ?_;try simp only [bS,bN,bA,b0,b1])
       refine Ord.gA fun K hK=> ?_
       go_simp;go_at_call 98;refine (Zz0j x.name true _ HNX.out HP1.out).mono ?_;rintro e w6 ⟨rfl,hw6⟩;rw [← hw6];clear hw6 w6;go_wp2_with fail;refine hK.out _ _ hS (fun hS2=> ?_);clear hK K hS;have hS:=hS2;clear hS2;try simp only [bS,bN,bA,b0,b1]
       iterate 5 (refine Ord.yV hS ?_;try simp only [bS,bN,bA,b0,b1])
       iterate 10 (refine Ord.nA hS ?_;try simp only [bS,bN,bA,b0,b1])
       iterate 33 (refine Ord.yV hS ?_;try simp only [bS,bN,bA,b0,b1])
       iterate 9 (refine Ord.nA hS ?_;try simp only [bS,bN,bA,b0,b1])
       (refine Ord.yV hS ?_;try simp only [bS,bN,bA,b0,b1]);refine Ord.done (by kernel_rfl) ?_;clear hw1e hw2e ;have hhc:=hS;have hh:=H9.below hS;clear hS c1 c2 c3 c4 c7 f0 f1 f2 f3;have hbe:=hb0x.trans (hh.mono hz0x);clear hhc;go_wp2_with fail;go_ret
       exact ⟨rfl,hbe⟩
      by_cases t5:(nt:Int)=cn
      ·as_aux_lemma=>
       have HST2:=hid (show objStep m 0=(triesOk x.tries && (m.objs.take 0).all fun y=> !decide (y.obj=x.obj)) by
        rw [HST.out,HL.out,decide_eq_true (p:=0≤x.obj∧x.obj≤m.next - 1) (by omega),decide_eq_true (p:=0≤x.len∧x.len≤ks*8) (by omega),decide_eq_true t5];simp)
       have d1:decide (x.obj < 0)=false:=decide_eq_false t1;have d2:decide (m.next≤x.obj)=false:=decide_eq_false t2;have d3:decide (x.len < 0)=false:=decide_eq_false t3;have d4:decide (ks*8 < x.len)=false:=decide_eq_false t4;have d5:((nt:Int) !=cn)=false:=by simp [t5]
       have hw1e:=HW1.out;have hw2e:=HW2.out
       refine Ord.begin (S:=(fun w'=>w'.cell? ⟨w.heap.size,1,none⟩=some (.int .i64 m.next)∧w'.cell? ⟨w.heap.size,2,none⟩=some (.int .i64 m.P.K)∧w'.cell? ⟨w.heap.size,3,none⟩=some (.int .i64 m.P.H)∧w'.cell? ⟨w.heap.size,4,none⟩=some (.int .i64 m.P.S)∧w'.cell? ⟨w.heap.size,7,none⟩=some (.slice (some ⟨bb,o,none⟩) no co)∧w'.cell? ⟨wr.heap.size,0,none⟩=some (.string (strB x.name))∧w'.cell? ⟨wr.heap.size,1,none⟩=some (.int .i64 x.obj)∧w'.cell? ⟨wr.heap.size,2,none⟩=some (.int .i64 x.len)∧w'.cell? ⟨wr.heap.size,3,none⟩=some (.slice A' nt c')∧Below wx.heap.size wx w')) [0,1,2,3,4,5,6,7,8,9,10,11,12,13,14,15,16,17,18,19,20,21,22,23,24,25,26,27,28,29,30,31,32,33,34,35,36,37,38,39,40,41,42,43,44,45,46,47,48,49,50,51,52,53,54,55,56,57,58,59,60] (by kernel_rfl) (H9.drew ⟨c1,c2,c3,c4,c7,f0,f1,f2,f3,Below.refl _ _⟩) (fun hS=> ?_)
       iterate 2 (refine Ord.yV hS ?_;try simp only [bS,bN,bA,b0,b1])
       refine Ord.gA fun K hK=> ?_
       go_simp;go_at_call 98;refine (Zz0j x.name true _ HNX.out HP1.out).mono ?_;rintro e w6 ⟨rfl,hw6⟩;rw [← hw6];clear hw6 w6;go_wp2_with fail;refine hK.out _ _ hS (fun hS2=> ?_);clear hK K hS;have hS:=hS2;clear hS2;try simp only [bS,bN,bA,b0,b1]
       iterate 5 (refine Ord.yV hS ?_;try simp only [bS,bN,bA,b0,b1])
       iterate 10 (refine Ord.nA hS ?_;try simp only [bS,bN,bA,b0,b1])
       iterate 40 (refine Ord.yV hS ?_;try simp only [bS,bN,bA,b0,b1])
       refine Ord.gA fun K hK=> ?_
       go_simp;go_at_call 31;rw [← HVP.out];refine (Zz16 P x.len cn _ HX64.out.2.1 HCN.out).mono ?_;rintro e w6 ⟨rfl,hbb⟩;go_wp2_with fail;refine hK.out _ _ (H9.keep hbb hS) (fun hS2=> ?_);clear hK K hS;have hS:=hS2;clear hS2;try simp only [bS,bN,bA,b0,b1]
       iterate 2 (refine Ord.yV hS ?_;try simp only [bS,bN,bA,b0,b1])
       refine Ord.done (by kernel_rfl) ?_;clear hw1e hw2e ;have hhc:=hS;have hh:=H9.below hS;clear hS c1 c2 c3 c4 c7 f0 f1 f2 f3;have hbe:=hb0x.trans (hh.mono hz0x);obtain ⟨q1,q2,q3,q4,q7,g0,g1,g2,g3,_⟩:=hhc;try dsimp only at q1 q2 q3 q4 q7 g0 g1 g2 g3
       clear t1 t2 t3 t4 t5 d1 d2 d3 d4 d5 q1 q2 q3 q4 g0 g2;have hze:=hbe.size;have hb5e:=hb5x.trans (hh.mono (by have:=hb5x.size;omega));have HSL6:=hid (HSL.out.below ((hbxx.trans (hh.mono hzx)).mono (ZnT hB hz0r)));have HRO:=hid ((HR.out.below (hbe.mono hB)).o);have HQ7:=hid q7;have HG1:=hid g1;clear q7 g1 hh;go_wp2_with fail;go_loop [151] (fun i=>∃ q:Nat,q≤nt∧i= .int .i64 q∧Hid (∀ j,j < q→decide (0≤x.tries.getD j 0∧x.tries.getD j 0≤15)=true)) (fun i=>nt - (intOf i).toNat)
       case atStart=>exact ⟨0,Nat.zero_le _,rfl,hid (fun j hj=>absurd hj (by omega))⟩
       case round=>
        obtain ⟨q,hq,rfl,HQQ⟩:=hrel;by_cases hltq:q < nt
        ·obtain ⟨bt,ot,rfl,hbt,hct⟩:=HSL6.out.get hltq (Zz1j x.tries q (by rw [HNT.out];exact hltq))
         obtain ⟨z,hz⟩:∃ z,x.tries.getD q 0=z:=⟨_,rfl⟩;have HZ:=hid hz;rw [hz] at hct;clear hz;by_cases hzz:0≤z∧z≤15
         ·obtain ⟨z1,z2⟩:=hzz
          have z3:¬ z < 0:=by omega
          have z4:¬ 16≤z:=by omega
          have HS:=hid (show decide (0≤x.tries.getD q 0∧x.tries.getD q 0≤15)=true by rw [HZ.out];simp [z1,z2]);go_wp2_with fail;go_round
          case rel=>exact ⟨q+1,by omega,by go_num,hid (fun j hj=>by
           rcases Nat.lt_or_ge j q with h | h
           ·exact HQQ.out j h
           ·have e:j=q:=by omega
            rw [e];exact HS.out)⟩
          case measure=>simp [intOf];omega
         ·have hb:b=false:=HNB.out (by rw [HST2.out,Zz7f (k:=q) (by rw [HNT.out];exact hltq) (by rw [HZ.out];exact decide_eq_false hzz)];rfl)
          subst hb;go_wp2_with fail;all_goals first | (exfalso;omega) | (go_ret;exact ⟨rfl,hbe⟩)
        ·obtain rfl:q=nt:=by omega
         have HTR:=hid (show triesOk x.tries=true from Zz5s (fun j hj=>HQQ.out j (by rw [HNT.out] at hj;exact hj)));obtain ⟨w7,hw7⟩:∃ w7:World,w7=w6:=⟨_,rfl⟩;subst hw7;have hkno:0≤no:=hk;go_wp2_with fail;go_loopw [9] (fun i wr=>∃ j:Nat,j≤0∧i= .int .i64 j∧Below w7.heap.size w7 wr∧Hid (∀ i,i < j→¬ (m.objs.getD i default).obj=x.obj)) (fun i _=>0 - (intOf i).toNat)
         case atStart=>exact ⟨0,Nat.zero_le _,rfl,Below.refl _ _,hid (fun j hj=>absurd hj (by omega))⟩
         case round=>
          obtain ⟨j,hj,rfl,hbj,HJ⟩:=hrel;have hzj:=hbj.size;by_cases hltj:j < 0
          ·exfalso;omega
          ·have hjk:j=0:=by omega
           have HS:=hid (show objStep m 0=true by
            rw [HST2.out,HTR.out,Bool.true_and,List.all_eq_true];intro c hc;obtain ⟨i,hi,rfl⟩:=List.mem_take_iff_getElem.1 hc;have:=HJ.out i (by omega)
            rw [ZgD,ZgE (by omega)] at this;simpa using this)
           have hb5f:=hb5e.trans (hbj.mono (by have:=hb5e.size;omega));go_wp2_with fail;go_roundw
           case rel=>exact ⟨0+1,by omega,by first | rfl | go_num,hb5f,hid (fun i hi=>by
            rcases Nat.lt_or_ge i 0 with h | h
            ·exact HK2.out i h
            ·have e:i=0:=by omega
             rw [e];exact HS.out)⟩
           case measure=>simp [intOf];omega
      ·as_aux_lemma=>
       have hb:b=false:=HNB.out (by rw [HST.out,decide_eq_false t5];simp);subst hb;have d1:decide (x.obj < 0)=false:=decide_eq_false t1;have d2:decide (m.next≤x.obj)=false:=decide_eq_false t2;have d3:decide (x.len < 0)=false:=decide_eq_false t3;have d4:decide (ks*8 < x.len)=false:=decide_eq_false t4;have d5:((nt:Int) !=cn)=true:=by simp [t5]
       have hw1e:=HW1.out;have hw2e:=HW2.out
       refine Ord.begin (S:=(fun w'=>w'.cell? ⟨w.heap.size,1,none⟩=some (.int .i64 m.next)∧w'.cell? ⟨w.heap.size,2,none⟩=some (.int .i64 m.P.K)∧w'.cell? ⟨w.heap.size,3,none⟩=some (.int .i64 m.P.H)∧w'.cell? ⟨w.heap.size,4,none⟩=some (.int .i64 m.P.S)∧w'.cell? ⟨w.heap.size,7,none⟩=some (.slice (some ⟨bb,o,none⟩) no co)∧w'.cell? ⟨wr.heap.size,0,none⟩=some (.string (strB x.name))∧w'.cell? ⟨wr.heap.size,1,none⟩=some (.int .i64 x.obj)∧w'.cell? ⟨wr.heap.size,2,none⟩=some (.int .i64 x.len)∧w'.cell? ⟨wr.heap.size,3,none⟩=some (.slice A' nt c')∧Below wx.heap.size wx w')) [0,1,2,3,4,5,6,7,8,9,10,11,12,13,14,15,16,17,18,19,20,21,22,23,24,25,26,27,28,29,30,31,32,33,34,35,36,37,38,39,40,41,42,43,44,45,46,47,48,49,50,51,52,53,54,55,56,57,58,59,60] (by kernel_rfl) (H9.drew ⟨c1,c2,c3,c4,c7,f0,f1,f2,f3,Below.refl _ _⟩) (fun hS=> ?_)
       iterate 2 (refine Ord.yV hS ?_;try simp only [bS,bN,bA,b0,b1])
       refine Ord.gA fun K hK=> ?_
       go_simp;go_at_call 98;refine (Zz0j x.name true _ HNX.out HP1.out).mono ?_;rintro e w6 ⟨rfl,hw6⟩;rw [← hw6];clear hw6 w6;go_wp2_with fail;refine hK.out _ _ hS (fun hS2=> ?_);clear hK K hS;have hS:=hS2;clear hS2;try simp only [bS,bN,bA,b0,b1]
       iterate 5 (refine Ord.yV hS ?_;try simp only [bS,bN,bA,b0,b1])
       iterate 10 (refine Ord.nA hS ?_;try simp only [bS,bN,bA,b0,b1])
       iterate 40 (refine Ord.yV hS ?_;try simp only [bS,bN,bA,b0,b1])
       refine Ord.gA fun K hK=> ?_
       go_simp;go_at_call 31;rw [← HVP.out];refine (Zz16 P x.len cn _ HX64.out.2.1 HCN.out).mono ?_;rintro e w6 ⟨rfl,hbb⟩;go_wp2_with fail;refine hK.out _ _ (H9.keep hbb hS) (fun hS2=> ?_);clear hK K hS;have hS:=hS2;clear hS2;try simp only [bS,bN,bA,b0,b1]
       iterate 2 (refine Ord.yV hS ?_;try simp only [bS,bN,bA,b0,b1])
       refine Ord.done (by kernel_rfl) ?_;clear hw1e hw2e ;have hhc:=hS;have hh:=H9.below hS;clear hS c1 c2 c3 c4 c7 f0 f1 f2 f3;have hbe:=hb0x.trans (hh.mono hz0x);clear hhc;go_wp2_with fail;go_ret
       exact ⟨rfl,hbe⟩
     ·have hpv':=hpvx (by omega)
      have hk1:(0:Int) < (k:Int):=by omega
      have hk1n:0 < k:=by omega
      have hk4:(0:Int)≤((k - 1:Nat):Int):=by omega
      have hk5:((k - 1:Nat):Int) < (no:Int):=by omega
      have HWK:=hid (show IntKind.i64.wrap ((k:Int) - 1)=((k - 1:Nat):Int) by rw [IntKind.wrap_i64];omega);clear hpvx;obtain ⟨ls,hls⟩:∃ q,lessS y x.name=q:=⟨_,rfl⟩;have HLT:=hid (Zz2e (strB y).toList (strB x.name).toList);have hlS:(Op.bytesLess (strB y).toList (strB x.name).toList)=ls:=hls;have HLS:=hid hls;have hleq:(Op.bytesLess (strB x.name).toList (strB y).toList || (strB x.name).toList==(strB y).toList)= !ls:=by rw [← hlS,HLT.out]
      have HLEQ:=hid hleq;clear hls hlS hleq;cases ls with
      | false=>
       as_aux_lemma=>
       have hb:b=false:=HNB.out (by rw [HST.out,HLS.out];simp [hk0]);subst hb;have hls':(!false)=true:=rfl;have hw1e:=HW1.out;have hw2e:=HW2.out;have hwk:=HWK.out;have hleq:=HLEQ.out
       refine Ord.begin (S:=(fun w'=>w'.cell? ⟨w.heap.size,1,none⟩=some (.int .i64 m.next)∧w'.cell? ⟨w.heap.size,2,none⟩=some (.int .i64 m.P.K)∧w'.cell? ⟨w.heap.size,3,none⟩=some (.int .i64 m.P.H)∧w'.cell? ⟨w.heap.size,4,none⟩=some (.int .i64 m.P.S)∧w'.cell? ⟨w.heap.size,7,none⟩=some (.slice (some ⟨bb,o,none⟩) no co)∧w'.cell? ⟨wr.heap.size,0,none⟩=some (.string (strB x.name))∧w'.cell? ⟨wr.heap.size,1,none⟩=some (.int .i64 x.obj)∧w'.cell? ⟨wr.heap.size,2,none⟩=some (.int .i64 x.len)∧w'.cell? ⟨wr.heap.size,3,none⟩=some (.slice A' nt c')∧w'.cell? ⟨bb,o+(k - 1)*4,none⟩=some (.string (strB y))∧Below wx.heap.size wx w')) [0,1,2,3,4,5,6,7,8,9,10,11,12,13,14,15,16,17,18,19,20,21,22,23,24,25,26,27,28,29,30,31,32,33,34,35,36,37,38,39,40,41,42,43,44,45,46,47,48,49,50,51,52,53,54,55,56,57,58,59,60] (by kernel_rfl) (H10.drew ⟨c1,c2,c3,c4,c7,f0,f1,f2,f3,hpv',Below.refl _ _⟩) (fun hS=> ?_)
       iterate 2 (refine Ord.yV hS ?_;try simp only [bS,bN,bA,b0,b1])
       refine Ord.gA fun K hK=> ?_
       go_simp;go_at_call 98;refine (Zz0j x.name true _ HNX.out HP1.out).mono ?_;rintro e w6 ⟨rfl,hw6⟩;rw [← hw6];clear hw6 w6;go_wp2_with fail;refine hK.out _ _ hS (fun hS2=> ?_);clear hK K hS;have hS:=hS2;clear hS2;try simp only [bS,bN,bA,b0,b1]
       iterate 18 (refine Ord.yV hS ?_;try simp only [bS,bN,bA,b0,b1])
       iterate 3 (refine Ord.nA hS ?_;try simp only [bS,bN,bA,b0,b1])
       iterate 2 (refine Ord.yV hS ?_;try simp only [bS,bN,bA,b0,b1])
       iterate 5 (refine Ord.nA hS ?_;try simp only [bS,bN,bA,b0,b1])
       iterate 2 (refine Ord.yV hS ?_;try simp only [bS,bN,bA,b0,b1])
       iterate 3 (refine Ord.nA hS ?_;try simp only [bS,bN,bA,b0,b1])
       iterate 2 (refine Ord.yV hS ?_;try simp only [bS,bN,bA,b0,b1])
       iterate 11 (refine Ord.nA hS ?_;try simp only [bS,bN,bA,b0,b1])
       iterate 2 (refine Ord.yV hS ?_;try simp only [bS,bN,bA,b0,b1])
       iterate 9 (refine Ord.nA hS ?_;try simp only [bS,bN,bA,b0,b1])
       (refine Ord.yV hS ?_;try simp only [bS,bN,bA,b0,b1]);refine Ord.done (by kernel_rfl) ?_;clear hw1e hw2e hwk hleq;have hhc:=hS;have hh:=H10.below hS;clear hS c1 c2 c3 c4 c7 f0 f1 f2 f3 hpv';have hbe:=hb0x.trans (hh.mono hz0x);clear hhc;go_wp2_with fail;go_ret
       exact ⟨rfl,hbe⟩
      | true=>
       have HL:=hid (show (decide (k=0) || lessS y x.name)=true by rw [HLS.out];simp);by_cases t1:x.obj < 0
       ·as_aux_lemma=>
        have hb:b=false:=HNB.out (by rw [HST.out,decide_eq_false (p:=0≤x.obj∧x.obj≤m.next - 1) (by omega)];rfl);subst hb;have d1:decide (x.obj < 0)=true:=decide_eq_true t1;have hw1e:=HW1.out;have hw2e:=HW2.out;have hwk:=HWK.out;have hleq:=HLEQ.out
        refine Ord.begin (S:=(fun w'=>w'.cell? ⟨w.heap.size,1,none⟩=some (.int .i64 m.next)∧w'.cell? ⟨w.heap.size,2,none⟩=some (.int .i64 m.P.K)∧w'.cell? ⟨w.heap.size,3,none⟩=some (.int .i64 m.P.H)∧w'.cell? ⟨w.heap.size,4,none⟩=some (.int .i64 m.P.S)∧w'.cell? ⟨w.heap.size,7,none⟩=some (.slice (some ⟨bb,o,none⟩) no co)∧w'.cell? ⟨wr.heap.size,0,none⟩=some (.string (strB x.name))∧w'.cell? ⟨wr.heap.size,1,none⟩=some (.int .i64 x.obj)∧w'.cell? ⟨wr.heap.size,2,none⟩=some (.int .i64 x.len)∧w'.cell? ⟨wr.heap.size,3,none⟩=some (.slice A' nt c')∧w'.cell? ⟨bb,o+(k - 1)*4,none⟩=some (.string (strB y))∧Below wx.heap.size wx w')) [0,1,2,3,4,5,6,7,8,9,10,11,12,13,14,15,16,17,18,19,20,21,22,23,24,25,26,27,28,29,30,31,32,33,34,35,36,37,38,39,40,41,42,43,44,45,46,47,48,49,50,51,52,53,54,55,56,57,58,59,60] (by kernel_rfl) (H10.drew ⟨c1,c2,c3,c4,c7,f0,f1,f2,f3,hpv',Below.refl _ _⟩) (fun hS=> ?_)
        iterate 2 (refine Ord.yV hS ?_;try simp only [bS,bN,bA,b0,b1])
        refine Ord.gA fun K hK=> ?_
        go_simp;go_at_call 98;refine (Zz0j x.name true _ HNX.out HP1.out).mono ?_;rintro e w6 ⟨rfl,hw6⟩;rw [← hw6];clear hw6 w6;go_wp2_with fail;refine hK.out _ _ hS (fun hS2=> ?_);clear hK K hS;have hS:=hS2;clear hS2;try simp only [bS,bN,bA,b0,b1]
        iterate 23 (refine Ord.yV hS ?_;try simp only [bS,bN,bA,b0,b1])
        iterate 5 (refine Ord.nA hS ?_;try simp only [bS,bN,bA,b0,b1])
        iterate 2 (refine Ord.yV hS ?_;try simp only [bS,bN,bA,b0,b1])
        iterate 3 (refine Ord.nA hS ?_;try simp only [bS,bN,bA,b0,b1])
        iterate 2 (refine Ord.yV hS ?_;try simp only [bS,bN,bA,b0,b1])
        iterate 11 (refine Ord.nA hS ?_;try simp only [bS,bN,bA,b0,b1])
        iterate 2 (refine Ord.yV hS ?_;try simp only [bS,bN,bA,b0,b1])
        iterate 9 (refine Ord.nA hS ?_;try simp only [bS,bN,bA,b0,b1])
        (refine Ord.yV hS ?_;try simp only [bS,bN,bA,b0,b1]);refine Ord.done (by kernel_rfl) ?_;clear hw1e hw2e hwk hleq;have hhc:=hS;have hh:=H10.below hS;clear hS c1 c2 c3 c4 c7 f0 f1 f2 f3 hpv';have hbe:=hb0x.trans (hh.mono hz0x);clear hhc;go_wp2_with fail;go_ret
        exact ⟨rfl,hbe⟩
       by_cases t2:m.next≤x.obj
       ·as_aux_lemma=>
        have hb:b=false:=HNB.out (by rw [HST.out,decide_eq_false (p:=0≤x.obj∧x.obj≤m.next - 1) (by omega)];rfl);subst hb;have d1:decide (x.obj < 0)=false:=decide_eq_false t1;have d2:decide (m.next≤x.obj)=true:=decide_eq_true t2;have hw1e:=HW1.out;have hw2e:=HW2.out;have hwk:=HWK.out;have hleq:=HLEQ.out
        refine Ord.begin (S:=(fun w'=>w'.cell? ⟨w.heap.size,1,none⟩=some (.int .i64 m.next)∧w'.cell? ⟨w.heap.size,2,none⟩=some (.int .i64 m.P.K)∧w'.cell? ⟨w.heap.size,3,none⟩=some (.int .i64 m.P.H)∧w'.cell? ⟨w.heap.size,4,none⟩=some (.int .i64 m.P.S)∧w'.cell? ⟨w.heap.size,7,none⟩=some (.slice (some ⟨bb,o,none⟩) no co)∧w'.cell? ⟨wr.heap.size,0,none⟩=some (.string (strB x.name))∧w'.cell? ⟨wr.heap.size,1,none⟩=some (.int .i64 x.obj)∧w'.cell? ⟨wr.heap.size,2,none⟩=some (.int .i64 x.len)∧w'.cell? ⟨wr.heap.size,3,none⟩=some (.slice A' nt c')∧w'.cell? ⟨bb,o+(k - 1)*4,none⟩=some (.string (strB y))∧Below wx.heap.size wx w')) [0,1,2,3,4,5,6,7,8,9,10,11,12,13,14,15,16,17,18,19,20,21,22,23,24,25,26,27,28,29,30,31,32,33,34,35,36,37,38,39,40,41,42,43,44,45,46,47,48,49,50,51,52,53,54,55,56,57,58,59,60] (by kernel_rfl) (H10.drew ⟨c1,c2,c3,c4,c7,f0,f1,f2,f3,hpv',Below.refl _ _⟩) (fun hS=> ?_)
        iterate 2 (refine Ord.yV hS ?_;try simp only [bS,bN,bA,b0,b1])
        refine Ord.gA fun K hK=> ?_
        go_simp;go_at_call 98;refine (Zz0j x.name true _ HNX.out HP1.out).mono ?_;rintro e w6 ⟨rfl,hw6⟩;rw [← hw6];clear hw6 w6;go_wp2_with fail;refine hK.out _ _ hS (fun hS2=> ?_);clear hK K hS;have hS:=hS2;clear hS2;try simp only [bS,bN,bA,b0,b1]
        iterate 30 (refine Ord.yV hS ?_;try simp only [bS,bN,bA,b0,b1])
        iterate 3 (refine Ord.nA hS ?_;try simp only [bS,bN,bA,b0,b1])
        iterate 2 (refine Ord.yV hS ?_;try simp only [bS,bN,bA,b0,b1])
        iterate 11 (refine Ord.nA hS ?_;try simp only [bS,bN,bA,b0,b1])
        iterate 2 (refine Ord.yV hS ?_;try simp only [bS,bN,bA,b0,b1])
        iterate 9 (refine Ord.nA hS ?_;try simp only [bS,bN,bA,b0,b1])
        (refine Ord.yV hS ?_;try simp only [bS,bN,bA,b0,b1]);refine Ord.done (by kernel_rfl) ?_;clear hw1e hw2e hwk hleq;have hhc:=hS;have hh:=H10.below hS;clear hS c1 c2 c3 c4 c7 f0 f1 f2 f3 hpv';have hbe:=hb0x.trans (hh.mono hz0x);clear hhc;go_wp2_with fail;go_ret
        exact ⟨rfl,hbe⟩
       by_cases t3:x.len < 0
       ·as_aux_lemma=>
        have hb:b=false:=HNB.out (by rw [HST.out,decide_eq_false (p:=0≤x.len∧x.len≤ks*8) (by omega)];simp);subst hb;have d1:decide (x.obj < 0)=false:=decide_eq_false t1;have d2:decide (m.next≤x.obj)=false:=decide_eq_false t2;have d3:decide (x.len < 0)=true:=decide_eq_true t3;have hw1e:=HW1.out;have hw2e:=HW2.out;have hwk:=HWK.out;have hleq:=HLEQ.out
        refine Ord.begin (S:=(fun w'=>w'.cell? ⟨w.heap.size,1,none⟩=some (.int .i64 m.next)∧w'.cell? ⟨w.heap.size,2,none⟩=some (.int .i64 m.P.K)∧w'.cell? ⟨w.heap.size,3,none⟩=some (.int .i64 m.P.H)∧w'.cell? ⟨w.heap.size,4,none⟩=some (.int .i64 m.P.S)∧w'.cell? ⟨w.heap.size,7,none⟩=some (.slice (some ⟨bb,o,none⟩) no co)∧w'.cell? ⟨wr.heap.size,0,none⟩=some (.string (strB x.name))∧w'.cell? ⟨wr.heap.size,1,none⟩=some (.int .i64 x.obj)∧w'.cell? ⟨wr.heap.size,2,none⟩=some (.int .i64 x.len)∧w'.cell? ⟨wr.heap.size,3,none⟩=some (.slice A' nt c')∧w'.cell? ⟨bb,o+(k - 1)*4,none⟩=some (.string (strB y))∧Below wx.heap.size wx w')) [0,1,2,3,4,5,6,7,8,9,10,11,12,13,14,15,16,17,18,19,20,21,22,23,24,25,26,27,28,29,30,31,32,33,34,35,36,37,38,39,40,41,42,43,44,45,46,47,48,49,50,51,52,53,54,55,56,57,58,59,60] (by kernel_rfl) (H10.drew ⟨c1,c2,c3,c4,c7,f0,f1,f2,f3,hpv',Below.refl _ _⟩) (fun hS=> ?_)
        iterate 2 (refine Ord.yV hS ?_;try simp only [bS,bN,bA,b0,b1])
        refine Ord.gA fun K hK=> ?_
        go_simp;go_at_call 98;refine (Zz0j x.name true _ HNX.out HP1.out).mono ?_;rintro e w6 ⟨rfl,hw6⟩;rw [← hw6];clear hw6 w6;go_wp2_with fail;refine hK.out _ _ hS (fun hS2=> ?_);clear hK K hS;have hS:=hS2;clear hS2;try simp only [bS,bN,bA,b0,b1]
        iterate 35 (refine Ord.yV hS ?_;try simp only [bS,bN,bA,b0,b1])
        iterate 11 (refine Ord.nA hS ?_;try simp only [bS,bN,bA,b0,b1])
        iterate 2 (refine Ord.yV hS ?_;try simp only [bS,bN,bA,b0,b1])
        iterate 9 (refine Ord.nA hS ?_;try simp only [bS,bN,bA,b0,b1])
        (refine Ord.yV hS ?_;try simp only [bS,bN,bA,b0,b1]);refine Ord.done (by kernel_rfl) ?_;clear hw1e hw2e hwk hleq;have hhc:=hS;have hh:=H10.below hS;clear hS c1 c2 c3 c4 c7 f0 f1 f2 f3 hpv';have hbe:=hb0x.trans (hh.mono hz0x);clear hhc;go_wp2_with fail;go_ret
        exact ⟨rfl,hbe⟩
       by_cases t4:ks*8 < x.len
       ·as_aux_lemma=>
        have hb:b=false:=HNB.out (by rw [HST.out,decide_eq_false (p:=0≤x.len∧x.len≤ks*8) (by omega)];simp);subst hb;have d1:decide (x.obj < 0)=false:=decide_eq_false t1;have d2:decide (m.next≤x.obj)=false:=decide_eq_false t2;have d3:decide (x.len < 0)=false:=decide_eq_false t3;have d4:decide (ks*8 < x.len)=true:=decide_eq_true t4;have hw1e:=HW1.out;have hw2e:=HW2.out;have hwk:=HWK.out;have hleq:=HLEQ.out
        refine Ord.begin (S:=(fun w'=>w'.cell? ⟨w.heap.size,1,none⟩=some (.int .i64 m.next)∧w'.cell? ⟨w.heap.size,2,none⟩=some (.int .i64 m.P.K)∧w'.cell? ⟨w.heap.size,3,none⟩=some (.int .i64 m.P.H)∧w'.cell? ⟨w.heap.size,4,none⟩=some (.int .i64 m.P.S)∧w'.cell? ⟨w.heap.size,7,none⟩=some (.slice (some ⟨bb,o,none⟩) no co)∧w'.cell? ⟨wr.heap.size,0,none⟩=some (.string (strB x.name))∧w'.cell? ⟨wr.heap.size,1,none⟩=some (.int .i64 x.obj)∧w'.cell? ⟨wr.heap.size,2,none⟩=some (.int .i64 x.len)∧w'.cell? ⟨wr.heap.size,3,none⟩=some (.slice A' nt c')∧w'.cell? ⟨bb,o+(k - 1)*4,none⟩=some (.string (strB y))∧Below wx.heap.size wx w')) [0,1,2,3,4,5,6,7,8,9,10,11,12,13,14,15,16,17,18,19,20,21,22,23,24,25,26,27,28,29,30,31,32,33,34,35,36,37,38,39,40,41,42,43,44,45,46,47,48,49,50,51,52,53,54,55,56,57,58,59,60] (by kernel_rfl) (H10.drew ⟨c1,c2,c3,c4,c7,f0,f1,f2,f3,hpv',Below.refl _ _⟩) (fun hS=> ?_)
        iterate 2 (refine Ord.yV hS ?_;try simp only [bS,bN,bA,b0,b1])
        refine Ord.gA fun K hK=> ?_
        go_simp;go_at_call 98;refine (Zz0j x.name true _ HNX.out HP1.out).mono ?_;rintro e w6 ⟨rfl,hw6⟩;rw [← hw6];clear hw6 w6;go_wp2_with fail;refine hK.out _ _ hS (fun hS2=> ?_);clear hK K hS;have hS:=hS2;clear hS2;try simp only [bS,bN,bA,b0,b1]
        iterate 48 (refine Ord.yV hS ?_;try simp only [bS,bN,bA,b0,b1])
        iterate 9 (refine Ord.nA hS ?_;try simp only [bS,bN,bA,b0,b1])
        (refine Ord.yV hS ?_;try simp only [bS,bN,bA,b0,b1]);refine Ord.done (by kernel_rfl) ?_;clear hw1e hw2e hwk hleq;have hhc:=hS;have hh:=H10.below hS;clear hS c1 c2 c3 c4 c7 f0 f1 f2 f3 hpv';have hbe:=hb0x.trans (hh.mono hz0x);clear hhc;go_wp2_with fail;go_ret
        exact ⟨rfl,hbe⟩
       by_cases t5:(nt:Int)=cn
       ·as_aux_lemma=>
        have HST2:=hid (show objStep m k=(triesOk x.tries && (m.objs.take k).all fun y=> !decide (y.obj=x.obj)) by
         rw [HST.out,HL.out,decide_eq_true (p:=0≤x.obj∧x.obj≤m.next - 1) (by omega),decide_eq_true (p:=0≤x.len∧x.len≤ks*8) (by omega),decide_eq_true t5];simp)
        have d1:decide (x.obj < 0)=false:=decide_eq_false t1;have d2:decide (m.next≤x.obj)=false:=decide_eq_false t2;have d3:decide (x.len < 0)=false:=decide_eq_false t3;have d4:decide (ks*8 < x.len)=false:=decide_eq_false t4;have d5:((nt:Int) !=cn)=false:=by simp [t5]
        have hw1e:=HW1.out;have hw2e:=HW2.out;have hwk:=HWK.out;have hleq:=HLEQ.out
        refine Ord.begin (S:=(fun w'=>w'.cell? ⟨w.heap.size,1,none⟩=some (.int .i64 m.next)∧w'.cell? ⟨w.heap.size,2,none⟩=some (.int .i64 m.P.K)∧w'.cell? ⟨w.heap.size,3,none⟩=some (.int .i64 m.P.H)∧w'.cell? ⟨w.heap.size,4,none⟩=some (.int .i64 m.P.S)∧w'.cell? ⟨w.heap.size,7,none⟩=some (.slice (some ⟨bb,o,none⟩) no co)∧w'.cell? ⟨wr.heap.size,0,none⟩=some (.string (strB x.name))∧w'.cell? ⟨wr.heap.size,1,none⟩=some (.int .i64 x.obj)∧w'.cell? ⟨wr.heap.size,2,none⟩=some (.int .i64 x.len)∧w'.cell? ⟨wr.heap.size,3,none⟩=some (.slice A' nt c')∧w'.cell? ⟨bb,o+(k - 1)*4,none⟩=some (.string (strB y))∧Below wx.heap.size wx w')) [0,1,2,3,4,5,6,7,8,9,10,11,12,13,14,15,16,17,18,19,20,21,22,23,24,25,26,27,28,29,30,31,32,33,34,35,36,37,38,39,40,41,42,43,44,45,46,47,48,49,50,51,52,53,54,55,56,57,58,59,60] (by kernel_rfl) (H10.drew ⟨c1,c2,c3,c4,c7,f0,f1,f2,f3,hpv',Below.refl _ _⟩) (fun hS=> ?_)
        iterate 2 (refine Ord.yV hS ?_;try simp only [bS,bN,bA,b0,b1])
        refine Ord.gA fun K hK=> ?_
        go_simp;go_at_call 98;refine (Zz0j x.name true _ HNX.out HP1.out).mono ?_;rintro e w6 ⟨rfl,hw6⟩;rw [← hw6];clear hw6 w6;go_wp2_with fail;refine hK.out _ _ hS (fun hS2=> ?_);clear hK K hS;have hS:=hS2;clear hS2;try simp only [bS,bN,bA,b0,b1]
        iterate 55 (refine Ord.yV hS ?_;try simp only [bS,bN,bA,b0,b1])
        refine Ord.gA fun K hK=> ?_
        go_simp;go_at_call 31;rw [← HVP.out];refine (Zz16 P x.len cn _ HX64.out.2.1 HCN.out).mono ?_;rintro e w6 ⟨rfl,hbb⟩;go_wp2_with fail;refine hK.out _ _ (H10.keep hbb hS) (fun hS2=> ?_);clear hK K hS;have hS:=hS2;clear hS2;try simp only [bS,bN,bA,b0,b1]
        iterate 2 (refine Ord.yV hS ?_;try simp only [bS,bN,bA,b0,b1])
        refine Ord.done (by kernel_rfl) ?_;clear hw1e hw2e hwk hleq;have hhc:=hS;have hh:=H10.below hS;clear hS c1 c2 c3 c4 c7 f0 f1 f2 f3 hpv';have hbe:=hb0x.trans (hh.mono hz0x);obtain ⟨q1,q2,q3,q4,q7,g0,g1,g2,g3,_,_⟩:=hhc;try dsimp only at q1 q2 q3 q4 q7 g0 g1 g2 g3
        clear t1 t2 t3 t4 t5 d1 d2 d3 d4 d5 q1 q2 q3 q4 g0 g2;have hze:=hbe.size;have hb5e:=hb5x.trans (hh.mono (by have:=hb5x.size;omega));have HSL6:=hid (HSL.out.below ((hbxx.trans (hh.mono hzx)).mono (ZnT hB hz0r)));have HRO:=hid ((HR.out.below (hbe.mono hB)).o);have HQ7:=hid q7;have HG1:=hid g1;clear q7 g1 hh;go_wp2_with fail;go_loop [151] (fun i=>∃ q:Nat,q≤nt∧i= .int .i64 q∧Hid (∀ j,j < q→decide (0≤x.tries.getD j 0∧x.tries.getD j 0≤15)=true)) (fun i=>nt - (intOf i).toNat)
        case atStart=>exact ⟨0,Nat.zero_le _,rfl,hid (fun j hj=>absurd hj (by omega))⟩
        case round=>
         obtain ⟨q,hq,rfl,HQQ⟩:=hrel;by_cases hltq:q < nt
         ·obtain ⟨bt,ot,rfl,hbt,hct⟩:=HSL6.out.get hltq (Zz1j x.tries q (by rw [HNT.out];exact hltq))
          obtain ⟨z,hz⟩:∃ z,x.tries.getD q 0=z:=⟨_,rfl⟩;have HZ:=hid hz;rw [hz] at hct;clear hz;by_cases hzz:0≤z∧z≤15
          ·obtain ⟨z1,z2⟩:=hzz
           have z3:¬ z < 0:=by omega
           have z4:¬ 16≤z:=by omega
           have HS:=hid (show decide (0≤x.tries.getD q 0∧x.tries.getD q 0≤15)=true by rw [HZ.out];simp [z1,z2]);go_wp2_with fail;go_round
           case rel=>exact ⟨q+1,by omega,by go_num,hid (fun j hj=>by
            rcases Nat.lt_or_ge j q with h | h
            ·exact HQQ.out j h
            ·have e:j=q:=by omega
             rw [e];exact HS.out)⟩
           case measure=>simp [intOf];omega
          ·have hb:b=false:=HNB.out (by rw [HST2.out,Zz7f (k:=q) (by rw [HNT.out];exact hltq) (by rw [HZ.out];exact decide_eq_false hzz)];rfl)
           subst hb;go_wp2_with fail;all_goals first | (exfalso;omega) | (go_ret;exact ⟨rfl,hbe⟩)
         ·obtain rfl:q=nt:=by omega
          have HTR:=hid (show triesOk x.tries=true from Zz5s (fun j hj=>HQQ.out j (by rw [HNT.out] at hj;exact hj)));obtain ⟨w7,hw7⟩:∃ w7:World,w7=w6:=⟨_,rfl⟩;subst hw7;have hkno:k≤no:=hk;go_wp2_with fail;go_loopw [9] (fun i wr=>∃ j:Nat,j≤k∧i= .int .i64 j∧Below w7.heap.size w7 wr∧Hid (∀ i,i < j→¬ (m.objs.getD i default).obj=x.obj)) (fun i _=>k - (intOf i).toNat)
          case atStart=>exact ⟨0,Nat.zero_le _,rfl,Below.refl _ _,hid (fun j hj=>absurd hj (by omega))⟩
          case round=>
           obtain ⟨j,hj,rfl,hbj,HJ⟩:=hrel;have hzj:=hbj.size;by_cases hltj:j < k
           ·obtain ⟨b2,o2,A2,c2,eA,hb2,i0,i1,i2,i3,_,_,_⟩:=(HRO.out.below (hbj.mono (ZnT hB hze))).get (k:=j) (by omega)
            injection eA with eA;injection eA with e1 e2;subst e1 e2;have q7:=Zz00 hbj HQ7.out;have g1:=Zz00 hbj HG1.out;have hji:(0:Int)≤(j:Int):=by omega
            have hjn:(j:Int) < (no:Int):=by omega
            obtain ⟨ob,hob⟩:∃ z,(m.objs.getD j default).obj=z:=⟨_,rfl⟩;have HOB:=hid hob;rw [hob] at i1;clear hob i0 i2 i3;by_cases he:ob=x.obj
            ·have hb:b=false:=HNB.out (by rw [HST2.out,List.all_eq_false.2 ⟨m.objs.getD j default,by
              rw [ZgD,ZgE (by rw [HOL.out];omega)];exact List.mem_take_iff_getElem.2 ⟨j,by rw [HOL.out];omega,rfl⟩,by rw [HOB.out,decide_eq_true he];simp⟩];simp)
             subst hb;have hed:(ob==x.obj)=true:=by simp [he]
             go_wp2_with fail;go_quiet (fail)
             go_wp2_with fail;go_ret
             exact ⟨rfl,Zz01 (hbe.trans (hbj.mono hze)) _⟩
            ·have HNE:=hid he
             have hed:(ob==x.obj)=false:=by simp [he]
             clear he;go_wp2_with fail;go_quiet (fail)
             go_wp2_with fail;go_roundw
             case rel=>exact ⟨j+1,by omega,by go_num,Zz01 hbj _,hid (fun i hi=>by
              rcases Nat.lt_or_ge i j with h | h
              ·exact HJ.out i h
              ·have e:i=j:=by omega
               rw [e,HOB.out];exact HNE.out)⟩
             case measure=>simp [intOf];omega
           ·have hjk:j=k:=by omega
            have HS:=hid (show objStep m k=true by
             rw [HST2.out,HTR.out,Bool.true_and,List.all_eq_true];intro c hc;obtain ⟨i,hi,rfl⟩:=List.mem_take_iff_getElem.1 hc;have:=HJ.out i (by omega)
             rw [ZgD,ZgE (by omega)] at this;simpa using this)
            have hb5f:=hb5e.trans (hbj.mono (by have:=hb5e.size;omega));go_wp2_with fail;go_roundw
            case rel=>exact ⟨k+1,by omega,by first | rfl | go_num,hb5f,hid (fun i hi=>by
             rcases Nat.lt_or_ge i k with h | h
             ·exact HK2.out i h
             ·have e:i=k:=by omega
              rw [e];exact HS.out)⟩
            case measure=>simp [intOf];omega
       ·as_aux_lemma=>
        have hb:b=false:=HNB.out (by rw [HST.out,decide_eq_false t5];simp);subst hb;have d1:decide (x.obj < 0)=false:=decide_eq_false t1;have d2:decide (m.next≤x.obj)=false:=decide_eq_false t2;have d3:decide (x.len < 0)=false:=decide_eq_false t3;have d4:decide (ks*8 < x.len)=false:=decide_eq_false t4;have d5:((nt:Int) !=cn)=true:=by simp [t5]
        have hw1e:=HW1.out;have hw2e:=HW2.out;have hwk:=HWK.out;have hleq:=HLEQ.out
        refine Ord.begin (S:=(fun w'=>w'.cell? ⟨w.heap.size,1,none⟩=some (.int .i64 m.next)∧w'.cell? ⟨w.heap.size,2,none⟩=some (.int .i64 m.P.K)∧w'.cell? ⟨w.heap.size,3,none⟩=some (.int .i64 m.P.H)∧w'.cell? ⟨w.heap.size,4,none⟩=some (.int .i64 m.P.S)∧w'.cell? ⟨w.heap.size,7,none⟩=some (.slice (some ⟨bb,o,none⟩) no co)∧w'.cell? ⟨wr.heap.size,0,none⟩=some (.string (strB x.name))∧w'.cell? ⟨wr.heap.size,1,none⟩=some (.int .i64 x.obj)∧w'.cell? ⟨wr.heap.size,2,none⟩=some (.int .i64 x.len)∧w'.cell? ⟨wr.heap.size,3,none⟩=some (.slice A' nt c')∧w'.cell? ⟨bb,o+(k - 1)*4,none⟩=some (.string (strB y))∧Below wx.heap.size wx w')) [0,1,2,3,4,5,6,7,8,9,10,11,12,13,14,15,16,17,18,19,20,21,22,23,24,25,26,27,28,29,30,31,32,33,34,35,36,37,38,39,40,41,42,43,44,45,46,47,48,49,50,51,52,53,54,55,56,57,58,59,60] (by kernel_rfl) (H10.drew ⟨c1,c2,c3,c4,c7,f0,f1,f2,f3,hpv',Below.refl _ _⟩) (fun hS=> ?_)
        iterate 2 (refine Ord.yV hS ?_;try simp only [bS,bN,bA,b0,b1])
        refine Ord.gA fun K hK=> ?_
        go_simp;go_at_call 98;refine (Zz0j x.name true _ HNX.out HP1.out).mono ?_;rintro e w6 ⟨rfl,hw6⟩;rw [← hw6];clear hw6 w6;go_wp2_with fail;refine hK.out _ _ hS (fun hS2=> ?_);clear hK K hS;have hS:=hS2;clear hS2;try simp only [bS,bN,bA,b0,b1]
        iterate 55 (refine Ord.yV hS ?_;try simp only [bS,bN,bA,b0,b1])
        refine Ord.gA fun K hK=> ?_
        go_simp;go_at_call 31;rw [← HVP.out];refine (Zz16 P x.len cn _ HX64.out.2.1 HCN.out).mono ?_;rintro e w6 ⟨rfl,hbb⟩;go_wp2_with fail;refine hK.out _ _ (H10.keep hbb hS) (fun hS2=> ?_);clear hK K hS;have hS:=hS2;clear hS2;try simp only [bS,bN,bA,b0,b1]
        iterate 2 (refine Ord.yV hS ?_;try simp only [bS,bN,bA,b0,b1])
        refine Ord.done (by kernel_rfl) ?_;clear hw1e hw2e hwk hleq;have hhc:=hS;have hh:=H10.below hS;clear hS c1 c2 c3 c4 c7 f0 f1 f2 f3 hpv';have hbe:=hb0x.trans (hh.mono hz0x);clear hhc;go_wp2_with fail;go_ret
        exact ⟨rfl,hbe⟩
    ·obtain rfl:k=no:=by omega
     have hyes:b=true:=by rw [HBB.out];exact Zz0y (fun j hj=>HK2.out j hj)
     subst hyes;go_wp2_with fail;go_ret
     exact ⟨rfl,hb0r⟩
end Go.Proofs.YtnknjeipfjdjoaaGreatDoor
