/- Pack -/
import Derived.Test.YtnknjeipfjdjoaaGreatDoorBScanTells13
import Derived.Test.YtnknjeipfjdjoaaGreatDoorBScanTells27
import Derived.Test.YtnknjeipfjdjoaaGreatDoorBScanTells35
set_option maxHeartbeats 8000000
set_option maxRecDepth 20000
set_option linter.unusedSimpArgs false
set_option linter.unusedVariables false
namespace Go.Proofs.YtnknjeipfjdjoaaGreatDoor
open Go.RowKit Wells
theorem Zz42 {B:Nat} {w w':World} (h:Below B w.drew w'):Below B w w':=⟨h.os,h.tape,h.output,h.size,h.block⟩
theorem Zz5e (m:Mani) (B:Nat) (Ad Ao:Option Addr) (nd cd no co:Nat) (ts:List Value) (w:World) (h:RM w B m Ad nd cd Ao no co ts) (hB:B≤w.heap.size) (h64:M64 m) (hnm:∀ e∈m.objs,e.name.length≤1048576):
  Calls Tryz.prog 65 #[m.val (.slice Ad nd cd) (.slice Ao no co)] w fun e w'=>∃ A' n' c',e= .returned (.slice A' n' c')∧(pack m).length=n'∧n'≤1000∧OB w.heap.size w' (.slice A' n' c') (pack m)∧Below w.heap.size w w':=by
 obtain ⟨i0,hi,hz0,hz1,hz2⟩:=info_parts infoB;obtain ⟨b,hb⟩:∃ q,m.may=q:=⟨_,rfl⟩;have HB:=hid hb;have HR:=hid h;have H64:=hid h64;have HNM:=hid hnm;have hdl:=h.dl;have hdc:=h.dc;have hoc:=h.oc;have hol:=h.o.len;have hm:=Row.new w 28 #[.int .i64 m.seq,.int .i64 m.next,.int .i64 m.P.K,.int .i64 m.P.H,.int .i64 m.P.S,.int .i64 m.extra,.slice Ad nd cd,.slice Ao no co];have hb01:Below w.heap.size w (w.alloc (maniObj 28 m (.slice Ad nd cd) (.slice Ao no co))):=(Below.refl _ _).alloc (ZnR _) _;have HMAY:=hid (fun (w':World) (hbl:Below w.heap.size w w')=>Zzfw m B Ad Ao nd cd no co ts b w' (HR.out.below (hbl.mono hB)) (ZnT hB hbl.size) H64.out HNM.out HB.out);unfold Mani.val at HMAY
 clear hb h h64 hnm;unfold Mani.val;go_enter Tryz.func65,Tryz.ntmps65;obtain ⟨c0,c1,c2,c3,c4,c5,c6,c7⟩:=MCells.of_row (m:=m) (dv:= .slice Ad nd cd) (ov:= .slice Ao no co) hm;go_wp2_with fail;generalize w.alloc (maniObj 28 m (.slice Ad nd cd) (.slice Ao no co))=w2 at*;have hz2':=hb01.size;clear c0 c1 c2 c3 c4 c5 c6 c7;refine (HMAY.out w2 hb01).mono ?_;rintro e w3 ⟨rfl,hb3⟩;have hb03:=hb01.trans (hb3.mono hz2');have hm3:=hm.below hb3 hm.lt;have hz3:=hb03.size;clear hm hb3 hb01 hz2';cases b with
 | false=>
  have hp:pack m= []:=by unfold pack;rw [HB.out];rfl
  go_wp2_with fail;go_ret
  exact ⟨none,0,0,rfl,by rw [hp];rfl,by omega,by rw [hp];exact World.ownsRow_nil _ _ _ _,hb03⟩
 | true=>
 have hp:=may_p HB.out;have HP:=hid hp;have HPK:=hid (show pack m=packL m by unfold pack;rw [HB.out];rfl);have hsq:=hp.seq;have hnx:=hp.next;have hnd:nd≤64:=by rw [← hdl];exact Zz49 hp.drives
 have hno:no≤12:=by rw [← hol];exact hp.olen
 obtain ⟨k1,k2,k3,k4,k5,k6⟩:=Par.may_ok hp.P;have hex:=hp.extra;have HDL:=hid hdl;have HOL:=hid hol;have HM3:=hid hm3;clear hp hdl hol;obtain ⟨c0,c1,c2,c3,c4,c5,c6,c7⟩:=MCells.of_row (m:=m) (dv:= .slice Ad nd cd) (ov:= .slice Ao no co) hm3;clear hm3;obtain ⟨G,hG⟩:∃ G,w3.heap.size=G:=⟨_,rfl⟩;have HG:=hid hG;clear hG;have HRM:=hid (fun (w':World) (hbl:Below w3.heap.size w3 w')=>HR.out.below ((hb03.trans (hbl.mono hz3)).mono hB));go_wp2_with fail;refine Ord.begin (S:=(fun w'=>w'.cell? ⟨w.heap.size,0,none⟩=some (.int .i64 m.seq)∧w'.cell? ⟨w.heap.size,1,none⟩=some (.int .i64 m.next)∧Below w3.heap.size w3 w')) [0,1,3,4,2,5,6] (by kernel_rfl) (H2.drew ⟨c0,c1,Below.refl _ _⟩) (fun hS=> ?_)
 iterate 4 (refine Ord.yV hS ?_;try simp only [bS,bN,bA,b0,b1])
 refine Ord.gA fun K hK=> ?_
 go_simp;go_at_call 108;refine (Zz26 w3.heap.size none 0 0 [] m.seq 4 w3.drew (World.ownsRow_nil _ _ _ _) (by omega) (show w3.heap.size≤w3.drew.heap.size from ZnR _) (by omega) (by omega)).mono ?_;rintro e w4 ⟨A4,cc4,rfl,ha4⟩;simp only [Nat.zero_add,List.nil_append] at ha4 ⊢;have hb4:=Zz42 (ha4.below (fun k hk=>by cases hk) (ZnR _));go_wp2_with fail;refine hK.out _ _ (H2.at_ c0 c1 hb4) (fun hS2=> ?_);clear hK K hS;have hS:=hS2;clear hS2;try simp only [bS,bN,bA,b0,b1]
 refine Ord.gA fun K hK=> ?_
 go_simp;go_at_call 108;refine (Zz26 w3.heap.size A4 4 cc4 (highL 4 m.seq) m.next 4 _ ha4.own (by omega) hb4.size (by omega) (by omega)).mono ?_;rintro e w5 ⟨A5,cc5,rfl,ha5⟩;have hat:=ha4.trans ha5;try simp only [Nat.reduceAdd] at hat ⊢
 have hb5':=Zz42 (hat.below (fun k hk=>by cases hk) (ZnR _));go_wp2_with fail;refine hK.out _ _ (H2.at_ c0 c1 hb5') (fun hS2=> ?_);clear hb5' ha5;clear hK K hS;have hS:=hS2;clear hS2;try simp only [bS,bN,bA,b0,b1]
 (refine Ord.yV hS ?_;try simp only [bS,bN,bA,b0,b1]);refine Ord.done (by kernel_rfl) ?_;have hb5:=Zz42 ((show Appd 5 w3.heap.size w3.drew w5 (.slice none 0 0) (.slice A5 8 cc5) 8 ((highL 4 m.seq++highL 4 m.next).map bv8) from hat).below (fun k hk=>by cases hk) (ZnR _));have ha5:Appd 5 w3.heap.size w3 w5 (.slice none 0 0) (.slice A5 8 cc5) 8 ((highL 4 m.seq++highL 4 m.next).map bv8):=⟨hat.own,⟨hat.grow.os,hat.grow.tape,hat.grow.output,hat.grow.size,hat.grow.block⟩,hat.wh⟩;clear hat hS ha4 hb4;have HA5:=hid ha5;have ho5:=ha5.own;clear ha5;have d2:=Zz00 hb5 c2;have d3:=Zz00 hb5 c3;have d4:=Zz00 hb5 c4;have d5:=Zz00 hb5 c5;have d6:=Zz00 hb5 c6;have d7:=Zz00 hb5 c7
 have h5b:=hid (show [b8 m.P.K,b8 m.P.H,b8 m.P.S,b8 m.extra,b8 (nd:Int)].map bv8= [.int .u8 m.P.K,.int .u8 m.P.H,.int .u8 m.P.S,.int .u8 m.extra,.int .u8 (nd:Int)] by
  simp only [List.map_cons,List.map_nil];rw [Zz1v (by omega),Zz1v (by omega),Zz1v (by omega),Zz1v (by omega),Zz1v (by omega)])
 rw [HG.out] at ho5;have hG5:G≤w5.heap.size:=by rw [← HG.out];exact hb5.size
 have hndi:(nd:Int)≤64:=by omega
 have hnoi:(no:Int)≤12:=by omega
 go_wp2_with (at_builtin;go_must (refine Zz03 rfl (.tmp 19) (.tmp 39) 33 rfl G 5 i0 (.int .u8 0) 1 1 Tryz.underlying33 hi hz0 hz1 hz2 rfl (by omega) (.slice A5 8 cc5) 8 _ rfl (ho5.alloc _) _ _ 5 5 _ rfl (Sl.fresh _ _ _ _ 5 rfl) (by simp [Value.oneCell']) (13) (by omega) ((packH m).map bv8) (by rw [← h5b.out,← List.map_append];unfold packH;rw [HDL.out]) (by omega) (by omega) (by have:=hG5;simp;omega) ?_);intro A6 cc6 w6 o6 g6 wh6;have ha6:=HA5.out.step _ (by rw [HG.out];exact o6) g6 wh6;have hb6:=ha6.below (fun k hk=>by cases hk) (ZnR _);have HA6:=hid ha6;have f6:=Zz00 hb6 c6;have f7:=Zz00 hb6 c7;clear ha6)
 clear d2 d3 d4 d5 d6 d7 ho5 HA5;go_loopw [3,44] (fun v i wr=>∃ (k:Nat) (A1:Option Addr) (n c1':Nat),k≤nd∧i= .int .i64 k∧v= .slice A1 n c1'∧n=13+k∧Appd 5 w3.heap.size w3 wr (.slice none 0 0) (.slice A1 n c1') n ((packH m++(m.drives.take k).map b8).map bv8)) (fun _ i _=>nd - (intOf i).toNat)
 case atStart=>exact ⟨0,A6,13,cc6,by omega,rfl,rfl,rfl,by have:=HA6.out;simpa using this⟩
 case round=>
  obtain ⟨k,A1,n,cc1,hk,rfl,rfl,hn,ha⟩:=hrel;have hbw:=ha.below (fun k hk=>by cases hk) (ZnR _);have HA:=hid ha;have HN:=hid hn;have hn1:n≤13+64:=by omega
  clear hn;have ho1:=ha.own;rw [HG.out] at ho1;have hGr:G≤wr.heap.size:=by rw [← HG.out];exact hbw.size
  clear ha;by_cases hlt:k < nd
  ·have hrm:=HRM.out wr hbw
   obtain ⟨bb,o,rfl,hbb,hce⟩:=hrm.d.get hlt (Zz1j m.drives k (by rw [HDL.out];exact hlt));have hz:=Zz9d HP.out.drives (i:=k) (by rw [HDL.out];exact hlt);have htk:=hid (Zz9b (l:=m.drives) (k:=k) (by rw [HDL.out];exact hlt));obtain ⟨z,hzz⟩:∃ z,m.drives.getD k 0=z:=⟨_,rfl⟩;have HZ:=hid hzz;rw [hzz] at hce hz;have hbz:=hid (show [b8 z].map bv8= [.int .u8 z] by simp only [List.map_cons,List.map_nil];rw [Zz1v (by omega)]);clear hzz hrm
   go_wp2_with (at_builtin;go_must (refine Zz03 rfl (.tmp 48) (.tmp 51) 33 rfl G 5 i0 (.int .u8 0) 1 1 Tryz.underlying33 hi hz0 hz1 hz2 rfl (by omega) (.slice A1 n cc1) n _ rfl (ho1.alloc _) _ _ 1 1 _ rfl (Sl.fresh _ _ _ _ 1 rfl) (by simp [Value.oneCell']) (n+1) (by omega) ((packH m++(m.drives.take (k+1)).map b8).map bv8) (by rw [htk.out,HZ.out,← List.append_assoc,List.map_append (l₂:= [b8 z]),hbz.out]) (by omega) (by omega) (by have:=hGr;simp;omega) ?_);intro A2 cc2 w2' o2 g2 wh2;have ha2:=HA.out.step _ (by rw [HG.out];exact o2) g2 wh2)
   go_roundw
   case rel=>exact ⟨k+1,A2,n+1,cc2,by omega,by go_num,rfl,by have:=HN.out;omega,ha2⟩
   case measure=>simp [intOf];omega
  ·obtain rfl:k=nd:=by omega
   have hall:=hid (show m.drives.take k=m.drives from ZtL (by rw [HDL.out];exact ZnR _));have g7:=Zz00 hbw c7;have hbo:=hid (show [b8 (no:Int)].map bv8= [.int .u8 (no:Int)] by simp only [List.map_cons,List.map_nil];rw [Zz1v (by omega)]);obtain ⟨wl,hwl⟩:∃ wl:World,wl=wr:=⟨_,rfl⟩;subst hwl
   go_wp2_with (at_builtin;go_must (refine Zz03 rfl (.tmp 54) (.tmp 59) 33 rfl G 5 i0 (.int .u8 0) 1 1 Tryz.underlying33 hi hz0 hz1 hz2 rfl (by omega) (.slice A1 n cc1) n _ rfl (ho1.alloc _) _ _ 1 1 _ rfl (Sl.fresh _ _ _ _ 1 rfl) (by simp [Value.oneCell']) (n+1) (by omega) ((packH m++m.drives.map b8++ [b8 (no:Int)]).map bv8) (by rw [hall.out,List.map_append (l₂:= [b8 (no:Int)]),hbo.out]) (by omega) (by omega) (by have:=hGr;simp;omega) ?_);intro A7 cc7 w7 o7 g7' wh7;have ha7:=HA.out.step _ (by rw [HG.out];exact o7) g7' wh7;have hb7:=ha7.below (fun k hk=>by cases hk) (ZnR _);have HA7:=hid ha7;have e7:=Zz00 hb7 c7;clear ha7)
   obtain ⟨hd,hhd⟩:∃ l,packH m++m.drives.map b8++ [b8 (no:Int)]=l:=⟨_,rfl⟩;rw [hhd] at HA7;have HHD:=hid hhd;clear hhd HA ho1 g7;go_loopw [3,64] (fun v i wr=>∃ (j:Nat) (A1:Option Addr) (n' c1':Nat),j≤no∧i= .int .i64 j∧v= .slice A1 n' c1'∧n'≤78+26*j∧Appd 5 w3.heap.size w3 wr (.slice none 0 0) (.slice A1 n' c1') n' ((hd++(m.objs.take j).flatMap packE).map bv8)) (fun _ i _=>no - (intOf i).toNat)
   case atStart=>exact ⟨0,A7,n+1,cc7,by omega,rfl,rfl,by have:=HN.out;omega,by have:=HA7.out;simpa using this⟩
   case round=>
    obtain ⟨j,A1,n',cc1,hj,rfl,rfl,hn',ha⟩:=hrel;have hbw':=ha.below (fun k hk=>by cases hk) (ZnR _);have HA:=hid ha;clear ha;by_cases hlt':j < no
    ·have hrm:=HRM.out wr hbw'
     obtain ⟨bb,o,A',c',rfl,hbb,e0,e1,e2,e3,hc1,hc2,hsl⟩:=hrm.o.get hlt';have hep:=Zzah HP.out (i:=j) (by rw [HOL.out];exact hlt');have hkk:=hid (Zz81 (es:=m.objs) (k:=j) (by rw [HOL.out];exact hlt'));obtain ⟨x,hx⟩:∃ x,m.objs.getD j default=x:=⟨_,rfl⟩;rw [hx] at e0 e1 e2 e3 hc1 hsl hep hkk;have HEP:=hid hep;have hnl:=hep.nlen;have hob:=hep.obj;have hln:=hep.len;have hln2:=hep.len2;have htl:=hep.tlen;obtain ⟨nt,hnt⟩:∃ n,x.tries.length=n:=⟨_,rfl⟩;rw [hnt] at e3 hc1 hsl htl;have HNT:=hid hnt;have HSL:=hid hsl;obtain ⟨nn,hnn⟩:∃ n,x.name.length=n:=⟨_,rfl⟩;rw [hnn] at hnl;have HNN:=hid hnn;have hsb:=Zz1t x.name;rw [hnn] at hsb;have HSB:=hid hsb;have hnl1:(1:Int)≤(nn:Int):=by omega
     have hnl2:(nn:Int)≤12:=by omega
     have hxr:=Row.new wr 61 #[.string (strB x.name),.int .i64 x.obj,.int .i64 x.len,.slice A' nt c'];have hbx:=(Below.refl wr.heap.size wr).alloc (ZnR _) (entObj 61 x (.slice A' nt c'));have ha1:=HA.out.more hbx;have HAX:=hid ha1;have hown:=ha1.own;have hG1:G≤wr.heap.size:=by rw [← HG.out];exact hbw'.size
     have HXR:=hid hxr;clear hx hrm hep hnt hsl hnn hsb ha1 hxr;obtain ⟨f0,f1,f2,f3⟩:=ECells.of_row (x:=x) (tv:= .slice A' nt c') HXR.out;go_wp2_with fail;generalize hgx:wr.alloc (entObj 61 x (.slice A' nt c'))=wx at*;clear hgx f0 f1 f2 f3 e0 e1 e2 e3;obtain ⟨gx,hgx⟩:∃ g,wr.heap.size=g:=⟨_,rfl⟩;have hgg:G≤gx:=by omega
     rw [hgx] at HXR;have hzx:=hbx.size;rw [hgx];obtain ⟨f0,f1,f2,f3⟩:=ECells.of_row (x:=x) (tv:= .slice A' nt c') HXR.out;have HGX:=hid hgx;clear hgx hbx;have hbX:=HAX.out.below (fun k hk=>by cases hk) (ZnR _);have hwr8:IntKind.u8.wrap (((strB x.name).size:Nat):Int)=(nn:Int):=by rw [HSB.out,IntKind.wrap_u8];omega
     refine Ord.begin (S:=(fun w'=>w'.cell? ⟨gx,0,none⟩=some (.string (strB x.name))∧Below w3.heap.size w3 w')) [0,1,2,3,4,7,8,5,6,9,10] (by kernel_rfl) (⟨HXR.out.drew.cell 0,Zz05 hbX⟩) (fun hS=> ?_);iterate 7 (refine Ord.yV hS ?_;try simp only [bS,bN,bA,b0,b1])
     refine Ord.gA fun K hK=> ?_
     have hown8:=hown;rw [HG.out] at hown8;have ha8:=HAX.out;go_simp;refine hK.out _ _ ⟨((HXR.out.alloc _).drew).cell 0,Zz05 (hbX.alloc hbX.size _)⟩ (fun hS2=> ?_);clear hK K hS;have hS:=hS2;clear hS2;try simp only [bS,bN,bA,b0,b1]
     refine Ord.gA fun K hK=> ?_
     refine Zz0k (.tmp 68) (.tmp 73) 33 rfl G 5 i0 (.int .u8 0) 1 1 Tryz.underlying33 hi hz0 hz1 hz2 rfl (by omega) (.slice A1 n' cc1) n' _ rfl ((hown8.alloc _).drew_) _ _ 1 1 _ rfl ((Sl.fresh wx _ _ _ 1 rfl).drew) (by simp [Value.oneCell']) (n'+1) rfl ((hd++(m.objs.take j).flatMap packE++ [b8 (nn:Int)]).map bv8) (by rw [List.map_append (l₂:= [b8 (nn:Int)])];simp only [List.map_cons,List.map_nil];rw [Zz1v (by omega)]) (by omega) (by omega) (by simp;omega) ?_;intro A8 cc8 w8 o8 g8 wh8;have haw8:=ha8.step (.cells #[.int .u8 (nn:Int)] 5) (by rw [HG.out];exact o8) ⟨g8.os,g8.tape,g8.output,g8.size,g8.block⟩ wh8
     have hx8:=((HXR.out.alloc (.cells #[.int .u8 (nn:Int)] 5)).drew).appd1 ((hown8.alloc _).drew_) g8 (by decide);have hb8:=haw8.below (fun k hk=>by cases hk) (ZnR _);refine hK.out _ _ ⟨hx8.cell 0,hb8⟩ (fun hS2=> ?_);clear hK K hS;have hS:=hS2;clear hS2;try simp only [bS,bN,bA,b0,b1]
     refine Ord.gA fun K hK=> ?_
     refine Zz3c (.tmp 74) (.tmp 76) 33 9 rfl G 5 i0 Tryz.underlying33 Tryz.underlying9 hi hz0 hz1 hz2 (.slice A8 (n'+1) cc8) (n'+1) _ rfl o8 (strB x.name) rfl (n'+1+nn) (by rw [HSB.out]) ((hd++(m.objs.take j).flatMap packE++ [b8 (nn:Int)]++x.name).map bv8) (by rw [Zz3b,← List.map_append]) (by omega) (by rw [← HG.out];exact hb8.size) ?_;intro A9 cc9 w9 o9 g9 wh9;have ha9:=haw8.step0 (by rw [HG.out];exact o9) g9 wh9;have hx9:=hx8.appd1 o8 g9 (by decide);have hb9':=ha9.below (fun k hk=>by cases hk) (ZnR _);have HA9:=hid ha9;refine hK.out _ _ ⟨hx9.cell 0,hb9'⟩ (fun hS2=> ?_);clear hb9' ha9 hx8 haw8 ha8 hown8 o9 o8 g9 g8 wh8 wh9 hb8;clear hK K hS;have hS:=hS2;clear hS2
     try simp only [bS,bN,bA,b0,b1]
     (refine Ord.yV hS ?_;try simp only [bS,bN,bA,b0,b1]);refine Ord.done (by kernel_rfl) ?_;clear hwr8;clear f0 f1 f2 f3 hS;have HX2:Hid (Row w9 gx 61 [.string (strB x.name),.int .i64 x.obj,.int .i64 x.len,.slice A' nt c']):=hid hx9;obtain ⟨f0,f1,f2,f3⟩:=ECells.of_row (x:=x) (tv:= .slice A' nt c') hx9;have hb9:=HA9.out.below (fun k hk=>by cases hk) (ZnR _);have hG9:G≤w9.heap.size:=by rw [← HG.out];exact hb9.size
     have ho9:=HA9.out.own;clear hx9;go_wp2_with fail;refine Ord.begin (S:=(fun w'=>w'.cell? ⟨gx,1,none⟩=some (.int .i64 x.obj)∧w'.cell? ⟨gx,2,none⟩=some (.int .i64 x.len)∧Below w3.heap.size w3 w')) [0,1,2,4,5,3,6,7] (by kernel_rfl) (⟨HX2.out.drew.cell 1,HX2.out.drew.cell 2,Zz05 hb9⟩) (fun hS=> ?_);iterate 5 (refine Ord.yV hS ?_;try simp only [bS,bN,bA,b0,b1])
     refine Ord.gA fun K hK=> ?_
     go_simp;go_at_call 108;refine (Zz26 w3.heap.size A9 (n'+1+nn) cc9 _ x.obj 3 w9.drew ho9.drew_ (by omega) (ZnT hb9.size (ZnR _)) (by omega) (by omega)).mono ?_;rintro e w10 ⟨A10,cc10,rfl,ha10⟩;have hx10:=HX2.out.drew.appd ho9.drew_ ha10 (by decide);have haw10:=HA9.out.drew_.trans ha10;have hb10:=haw10.below (fun k hk=>by cases hk) (ZnR _);go_wp2_with fail;refine hK.out _ _ ⟨hx10.cell 1,hx10.cell 2,hb10⟩ (fun hS2=> ?_);clear hK K hS;have hS:=hS2;clear hS2;try simp only [bS,bN,bA,b0,b1]
     refine Ord.gA fun K hK=> ?_
     go_simp;go_at_call 108;refine (Zz26 w3.heap.size A10 (n'+1+nn+3) cc10 _ x.len 2 _ ha10.own (by omega) hb10.size (by omega) (by omega)).mono ?_;rintro e w11 ⟨A11,cc11,rfl,ha11⟩;have hx11:=hx10.appd ha10.own ha11 (by decide);have haw11:=haw10.trans ha11;have HA11:=hid haw11;have hb11':=haw11.below (fun k hk=>by cases hk) (ZnR _);go_wp2_with fail;refine hK.out _ _ ⟨hx11.cell 1,hx11.cell 2,hb11'⟩ (fun hS2=> ?_);clear hb11' haw11 ha11 hx10 haw10 ha10 hb10;clear hK K hS;have hS:=hS2;clear hS2;try simp only [bS,bN,bA,b0,b1]
     (refine Ord.yV hS ?_;try simp only [bS,bN,bA,b0,b1]);refine Ord.done (by kernel_rfl) ?_;clear f0 f1 f2 f3 hS;obtain ⟨f0,f1,f2,f3⟩:=ECells.of_row (x:=x) (tv:= .slice A' nt c') hx11;clear hx11 f0 f1 f2;have hb11:=HA11.out.below (fun k hk=>by cases hk) (ZnR _);obtain ⟨he,hhe⟩:∃ l,hd++(m.objs.take j).flatMap packE++ [b8 (nn:Int)]++x.name++highL 3 x.obj++highL 2 x.len=l:=⟨_,rfl⟩;rw [hhe] at HA11;have HHE:=hid hhe;obtain ⟨n11,hn11⟩:∃ q,n'+1+nn+3+2=q:=⟨_,rfl⟩;rw [hn11] at HA11 ⊢;have hn11b:n11≤78+26*j+18:=by omega
     clear hhe hn11;obtain ⟨wm,hwm⟩:∃ wm:World,wm=wr:=⟨_,rfl⟩;subst hwm;go_wp2_with fail;go_loopw [3,88] (fun v i wr=>∃ (q:Nat) (A1:Option Addr) (n' c1':Nat),q≤nt∧i= .int .i64 q∧v= .slice A1 n' c1'∧n'=n11+q∧Appd 5 w3.heap.size w3 wr (.slice none 0 0) (.slice A1 n' c1') n' ((he++(x.tries.take q).map b8).map bv8)) (fun _ i _=>nt - (intOf i).toNat)
     case atStart=>exact ⟨0,A11,n11,cc11,by omega,rfl,rfl,rfl,by have:=HA11.out;simpa using this⟩
     case round=>
      obtain ⟨q,A12,n12,cc12,hq,rfl,rfl,hn12,ha⟩:=hrel;have hbq:=ha.below (fun k hk=>by cases hk) (ZnR _);have HAQ:=hid ha;have HN12:=hid hn12;have hn121:n12≤n11+8:=by omega
      have hn122:n12≤n11+q:=by omega
      clear hn12;have hoq:=ha.own;rw [HG.out] at hoq;have hGq:G≤wr.heap.size:=by rw [← HG.out];exact hbq.size
      clear ha;by_cases hltq:q < nt
      ·obtain ⟨bt,ot,hAt,hbt,hct⟩:∃ bt ot,A'=some ⟨bt,ot,none⟩∧bt < w3.heap.size∧wr.cell? ⟨bt,ot+q,none⟩=some (.int .i64 (x.tries.getD q 0)):=by
        have hs2:=HSL.out;obtain ⟨bt,ot,e1,hl,hc⟩:=hs2.get hltq (Zz1j x.tries q (by rw [HNT.out];exact hltq));have hlt3:bt < w3.heap.size:=by have:=hB;omega
        refine ⟨bt,ot,e1,hlt3,?_⟩;have e3:=hbw'.cell (p:=⟨bt,ot+q,none⟩) hlt3;have e4:=hbq.cell (p:=⟨bt,ot+q,none⟩) hlt3;rw [e4,← e3];exact hc
       have hz:=Zzcp HEP.out.tries (k:=q) (by rw [HNT.out];exact hltq);have htk:=hid (Zz9b (l:=x.tries) (k:=q) (by rw [HNT.out];exact hltq));obtain ⟨z,hzz⟩:∃ z,x.tries.getD q 0=z:=⟨_,rfl⟩;have HZ:=hid hzz;rw [hzz] at hct hz;have hbz:=hid (show [b8 z].map bv8= [.int .u8 z] by simp only [List.map_cons,List.map_nil];rw [Zz1v (by omega)]);subst hAt;clear hzz
       go_wp2_with (at_builtin;go_must (refine Zz03 rfl (.tmp 92) (.tmp 95) 33 rfl G 5 i0 (.int .u8 0) 1 1 Tryz.underlying33 hi hz0 hz1 hz2 rfl (by omega) (.slice A12 n12 cc12) n12 _ rfl (hoq.alloc _) _ _ 1 1 _ rfl (Sl.fresh _ _ _ _ 1 rfl) (by simp [Value.oneCell']) (n12+1) (by omega) ((he++(x.tries.take (q+1)).map b8).map bv8) (by rw [htk.out,HZ.out,← List.append_assoc,List.map_append (l₂:= [b8 z]),hbz.out]) (by omega) (by omega) (by have:=hGq;simp;omega) ?_);intro A2 cc2 w2' o2 g2 wh2;have ha2:=HAQ.out.step _ (by rw [HG.out];exact o2) g2 wh2)
       go_roundw
       case rel=>exact ⟨q+1,A2,n12+1,cc2,by omega,by go_num,rfl,by have:=HN12.out;omega,ha2⟩
       case measure=>simp [intOf];omega
      ·obtain rfl:q=nt:=by omega
       have hall2:=hid (show x.tries.take q=x.tries from ZtL (by rw [HNT.out];exact ZnR _));have hfin:he++x.tries.map b8=hd++(m.objs.take (j+1)).flatMap packE:=by
        rw [hkk.out,← HHE.out];unfold packE;rw [HNN.out];simp only [List.append_assoc]
       have HFIN:=hid hfin;clear hfin;have hnq:n12≤78+26*(j+1):=by omega
       go_wp2_with fail;go_roundw
       case rel=>exact ⟨j+1,A12,n12,cc12,by omega,by go_num,rfl,hnq,by have:=HAQ.out;rw [hall2.out,HFIN.out] at this;exact this⟩
       case measure=>simp [intOf];omega
    ·obtain rfl:j=no:=by omega
     have hall':=hid (show m.objs.take j=m.objs from ZtL (by rw [HOL.out];exact ZnR _));have ho9:=HA.out.own;rw [hall'.out] at ho9;have hpk:(hd++m.objs.flatMap packE)=pack m:=by rw [HPK.out,← HHD.out];unfold packL;rw [HOL.out]
     have HPP:=hid hpk;have hl9:(pack m).length=n':=by have:=ho9.1;rw [hpk] at this;simpa using this
     have HL9:=hid hl9;clear hpk hl9;go_wp2_with fail;go_ret
     refine ⟨A1,n',cc1,rfl,HL9.out,by omega,?_,hb03.trans (hbw'.mono hz3)⟩;unfold OB;rw [HL9.out,← HPP.out];exact Zz0b ho9 hz3
end Go.Proofs.YtnknjeipfjdjoaaGreatDoor
