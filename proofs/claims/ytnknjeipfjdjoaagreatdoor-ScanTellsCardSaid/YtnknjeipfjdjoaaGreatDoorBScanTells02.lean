/- HeldN Ord OrdA OrdG OrgA -/
import Derived.Deep.RegionHeld3
import Derived.Test.YtnknjeipfjdjoaaGreatDoorBScanTells00
set_option maxHeartbeats 8000000
set_option maxRecDepth 20000
set_option linter.unusedSimpArgs false
set_option linter.unusedVariables false
set_option linter.unusedSectionVars false
namespace Wells
open Go Go.RowKit
theorem Zz00 {w w':World} {a:Addr} {v:Value} (hb:Below w.heap.size w w') (h:w.cell? a=some v):w'.cell? a=some v:=(hb.cell (p:=a) (World.block_lt_of_cell? w _ h)).trans h
theorem Zz05 {B:Nat} {a w:World} (h:Below B a w):Below B a w.drew:=⟨h.os,h.tape,h.output,h.size,h.block⟩
theorem Zz0g {B:Nat} {a w:World} (h:Below B a w) (n:Nat):Below B a (w.drewN n):=⟨h.os,h.tape,h.output,h.size,h.block⟩
def H0 (w0:World) (w:World):Prop:=Below w0.heap.size w0 w
theorem H0.keep {w0 w w':World} (hb:Below w.heap.size w w') (h:H0 w0 w):H0 w0 w':=Below.trans h (hb.mono (Below.size h))
theorem H0.drew {w0 w:World} (h:H0 w0 w):H0 w0 w.drew:=Zz05 h
theorem H0.draws {w0 w:World} (h:H0 w0 w) (d:Nat):H0 w0 (w.drewN d):=Zz0g h d
theorem H0.new {w0 w:World} (h:H0 w0 w) (o:Obj):H0 w0 (w.alloc o):=H0.keep ((Below.refl _ _).alloc (ZnR _) o) h
theorem H0.below {w0 w:World} (h:Below w0.heap.size w0 w):Below w0.heap.size w0 w:=h
def H1 (w0:World) (a0:Addr) (v0:Value) (w:World):Prop:=w.cell? a0=some v0∧Below w0.heap.size w0 w
theorem H1.keep {w0 w w':World} {a0:Addr} {v0:Value} (hb:Below w.heap.size w w') (h:H1 w0 a0 v0 w):H1 w0 a0 v0 w':=⟨Zz00 hb h.1,h.2.trans (hb.mono h.2.size)⟩
theorem H1.drew {w0 w:World} {a0:Addr} {v0:Value} (h:H1 w0 a0 v0 w):H1 w0 a0 v0 w.drew:=⟨h.1,Zz05 h.2⟩
theorem H1.draws {w0 w:World} {a0:Addr} {v0:Value} (h:H1 w0 a0 v0 w) (d:Nat):H1 w0 a0 v0 (w.drewN d):=⟨h.1,Zz0g h.2 d⟩
theorem H1.new {w0 w:World} {a0:Addr} {v0:Value} (h:H1 w0 a0 v0 w) (o:Obj):H1 w0 a0 v0 (w.alloc o):=H1.keep ((Below.refl _ _).alloc (ZnR _) o) h
theorem H1.below {w0 w:World} {a0:Addr} {v0:Value} (h:w.cell? a0=some v0∧Below w0.heap.size w0 w):Below w0.heap.size w0 w:=h.2
def H2 (w0:World) (a0 a1:Addr) (v0 v1:Value) (w:World):Prop:=w.cell? a0=some v0∧w.cell? a1=some v1∧Below w0.heap.size w0 w
theorem H2.keep {w0 w w':World} {a0 a1:Addr} {v0 v1:Value} (hb:Below w.heap.size w w') (h:H2 w0 a0 a1 v0 v1 w):H2 w0 a0 a1 v0 v1 w':=⟨Zz00 hb h.1,Zz00 hb h.2.1,h.2.2.trans (hb.mono h.2.2.size)⟩
theorem H2.drew {w0 w:World} {a0 a1:Addr} {v0 v1:Value} (h:H2 w0 a0 a1 v0 v1 w):H2 w0 a0 a1 v0 v1 w.drew:=⟨h.1,h.2.1,Zz05 h.2.2⟩
theorem H2.draws {w0 w:World} {a0 a1:Addr} {v0 v1:Value} (h:H2 w0 a0 a1 v0 v1 w) (d:Nat):H2 w0 a0 a1 v0 v1 (w.drewN d):=⟨h.1,h.2.1,Zz0g h.2.2 d⟩
theorem H2.new {w0 w:World} {a0 a1:Addr} {v0 v1:Value} (h:H2 w0 a0 a1 v0 v1 w) (o:Obj):H2 w0 a0 a1 v0 v1 (w.alloc o):=H2.keep ((Below.refl _ _).alloc (ZnR _) o) h
theorem H2.below {w0 w:World} {a0 a1:Addr} {v0 v1:Value} (h:w.cell? a0=some v0∧w.cell? a1=some v1∧Below w0.heap.size w0 w):Below w0.heap.size w0 w:=h.2.2
def H3 (w0:World) (a0 a1 a2:Addr) (v0 v1 v2:Value) (w:World):Prop:=w.cell? a0=some v0∧w.cell? a1=some v1∧w.cell? a2=some v2∧Below w0.heap.size w0 w
theorem H3.keep {w0 w w':World} {a0 a1 a2:Addr} {v0 v1 v2:Value} (hb:Below w.heap.size w w') (h:H3 w0 a0 a1 a2 v0 v1 v2 w):H3 w0 a0 a1 a2 v0 v1 v2 w':=⟨Zz00 hb h.1,Zz00 hb h.2.1,Zz00 hb h.2.2.1,h.2.2.2.trans (hb.mono h.2.2.2.size)⟩
theorem H3.drew {w0 w:World} {a0 a1 a2:Addr} {v0 v1 v2:Value} (h:H3 w0 a0 a1 a2 v0 v1 v2 w):H3 w0 a0 a1 a2 v0 v1 v2 w.drew:=⟨h.1,h.2.1,h.2.2.1,Zz05 h.2.2.2⟩
theorem H3.draws {w0 w:World} {a0 a1 a2:Addr} {v0 v1 v2:Value} (h:H3 w0 a0 a1 a2 v0 v1 v2 w) (d:Nat):H3 w0 a0 a1 a2 v0 v1 v2 (w.drewN d):=⟨h.1,h.2.1,h.2.2.1,Zz0g h.2.2.2 d⟩
theorem H3.new {w0 w:World} {a0 a1 a2:Addr} {v0 v1 v2:Value} (h:H3 w0 a0 a1 a2 v0 v1 v2 w) (o:Obj):H3 w0 a0 a1 a2 v0 v1 v2 (w.alloc o):=H3.keep ((Below.refl _ _).alloc (ZnR _) o) h
theorem H3.below {w0 w:World} {a0 a1 a2:Addr} {v0 v1 v2:Value} (h:w.cell? a0=some v0∧w.cell? a1=some v1∧w.cell? a2=some v2∧Below w0.heap.size w0 w):Below w0.heap.size w0 w:=h.2.2.2
def H4 (w0:World) (a0 a1 a2 a3:Addr) (v0 v1 v2 v3:Value) (w:World):Prop:=w.cell? a0=some v0∧w.cell? a1=some v1∧w.cell? a2=some v2∧w.cell? a3=some v3∧Below w0.heap.size w0 w
theorem H4.keep {w0 w w':World} {a0 a1 a2 a3:Addr} {v0 v1 v2 v3:Value} (hb:Below w.heap.size w w') (h:H4 w0 a0 a1 a2 a3 v0 v1 v2 v3 w):H4 w0 a0 a1 a2 a3 v0 v1 v2 v3 w':=⟨Zz00 hb h.1,Zz00 hb h.2.1,Zz00 hb h.2.2.1,Zz00 hb h.2.2.2.1,h.2.2.2.2.trans (hb.mono h.2.2.2.2.size)⟩
theorem H4.drew {w0 w:World} {a0 a1 a2 a3:Addr} {v0 v1 v2 v3:Value} (h:H4 w0 a0 a1 a2 a3 v0 v1 v2 v3 w):H4 w0 a0 a1 a2 a3 v0 v1 v2 v3 w.drew:=⟨h.1,h.2.1,h.2.2.1,h.2.2.2.1,Zz05 h.2.2.2.2⟩
theorem H4.draws {w0 w:World} {a0 a1 a2 a3:Addr} {v0 v1 v2 v3:Value} (h:H4 w0 a0 a1 a2 a3 v0 v1 v2 v3 w) (d:Nat):H4 w0 a0 a1 a2 a3 v0 v1 v2 v3 (w.drewN d):=⟨h.1,h.2.1,h.2.2.1,h.2.2.2.1,Zz0g h.2.2.2.2 d⟩
theorem H4.new {w0 w:World} {a0 a1 a2 a3:Addr} {v0 v1 v2 v3:Value} (h:H4 w0 a0 a1 a2 a3 v0 v1 v2 v3 w) (o:Obj):H4 w0 a0 a1 a2 a3 v0 v1 v2 v3 (w.alloc o):=H4.keep ((Below.refl _ _).alloc (ZnR _) o) h
theorem H4.below {w0 w:World} {a0 a1 a2 a3:Addr} {v0 v1 v2 v3:Value} (h:w.cell? a0=some v0∧w.cell? a1=some v1∧w.cell? a2=some v2∧w.cell? a3=some v3∧Below w0.heap.size w0 w):Below w0.heap.size w0 w:=h.2.2.2.2
def H5 (w0:World) (a0 a1 a2 a3 a4:Addr) (v0 v1 v2 v3 v4:Value) (w:World):Prop:=w.cell? a0=some v0∧w.cell? a1=some v1∧w.cell? a2=some v2∧w.cell? a3=some v3∧w.cell? a4=some v4∧Below w0.heap.size w0 w
theorem H5.keep {w0 w w':World} {a0 a1 a2 a3 a4:Addr} {v0 v1 v2 v3 v4:Value} (hb:Below w.heap.size w w') (h:H5 w0 a0 a1 a2 a3 a4 v0 v1 v2 v3 v4 w):H5 w0 a0 a1 a2 a3 a4 v0 v1 v2 v3 v4 w':=⟨Zz00 hb h.1,Zz00 hb h.2.1,Zz00 hb h.2.2.1,Zz00 hb h.2.2.2.1,Zz00 hb h.2.2.2.2.1,h.2.2.2.2.2.trans (hb.mono h.2.2.2.2.2.size)⟩
theorem H5.drew {w0 w:World} {a0 a1 a2 a3 a4:Addr} {v0 v1 v2 v3 v4:Value} (h:H5 w0 a0 a1 a2 a3 a4 v0 v1 v2 v3 v4 w):H5 w0 a0 a1 a2 a3 a4 v0 v1 v2 v3 v4 w.drew:=⟨h.1,h.2.1,h.2.2.1,h.2.2.2.1,h.2.2.2.2.1,Zz05 h.2.2.2.2.2⟩
theorem H5.draws {w0 w:World} {a0 a1 a2 a3 a4:Addr} {v0 v1 v2 v3 v4:Value} (h:H5 w0 a0 a1 a2 a3 a4 v0 v1 v2 v3 v4 w) (d:Nat):H5 w0 a0 a1 a2 a3 a4 v0 v1 v2 v3 v4 (w.drewN d):=⟨h.1,h.2.1,h.2.2.1,h.2.2.2.1,h.2.2.2.2.1,Zz0g h.2.2.2.2.2 d⟩
theorem H5.new {w0 w:World} {a0 a1 a2 a3 a4:Addr} {v0 v1 v2 v3 v4:Value} (h:H5 w0 a0 a1 a2 a3 a4 v0 v1 v2 v3 v4 w) (o:Obj):H5 w0 a0 a1 a2 a3 a4 v0 v1 v2 v3 v4 (w.alloc o):=H5.keep ((Below.refl _ _).alloc (ZnR _) o) h
theorem H5.below {w0 w:World} {a0 a1 a2 a3 a4:Addr} {v0 v1 v2 v3 v4:Value} (h:w.cell? a0=some v0∧w.cell? a1=some v1∧w.cell? a2=some v2∧w.cell? a3=some v3∧w.cell? a4=some v4∧Below w0.heap.size w0 w):Below w0.heap.size w0 w:=h.2.2.2.2.2
def H6 (w0:World) (a0 a1 a2 a3 a4 a5:Addr) (v0 v1 v2 v3 v4 v5:Value) (w:World):Prop:=w.cell? a0=some v0∧w.cell? a1=some v1∧w.cell? a2=some v2∧w.cell? a3=some v3∧w.cell? a4=some v4∧w.cell? a5=some v5∧Below w0.heap.size w0 w
theorem H6.keep {w0 w w':World} {a0 a1 a2 a3 a4 a5:Addr} {v0 v1 v2 v3 v4 v5:Value} (hb:Below w.heap.size w w') (h:H6 w0 a0 a1 a2 a3 a4 a5 v0 v1 v2 v3 v4 v5 w):H6 w0 a0 a1 a2 a3 a4 a5 v0 v1 v2 v3 v4 v5 w':=⟨Zz00 hb h.1,Zz00 hb h.2.1,Zz00 hb h.2.2.1,Zz00 hb h.2.2.2.1,Zz00 hb h.2.2.2.2.1,Zz00 hb h.2.2.2.2.2.1,h.2.2.2.2.2.2.trans (hb.mono h.2.2.2.2.2.2.size)⟩
theorem H6.drew {w0 w:World} {a0 a1 a2 a3 a4 a5:Addr} {v0 v1 v2 v3 v4 v5:Value} (h:H6 w0 a0 a1 a2 a3 a4 a5 v0 v1 v2 v3 v4 v5 w):H6 w0 a0 a1 a2 a3 a4 a5 v0 v1 v2 v3 v4 v5 w.drew:=⟨h.1,h.2.1,h.2.2.1,h.2.2.2.1,h.2.2.2.2.1,h.2.2.2.2.2.1,Zz05 h.2.2.2.2.2.2⟩
theorem H6.draws {w0 w:World} {a0 a1 a2 a3 a4 a5:Addr} {v0 v1 v2 v3 v4 v5:Value} (h:H6 w0 a0 a1 a2 a3 a4 a5 v0 v1 v2 v3 v4 v5 w) (d:Nat):H6 w0 a0 a1 a2 a3 a4 a5 v0 v1 v2 v3 v4 v5 (w.drewN d):=⟨h.1,h.2.1,h.2.2.1,h.2.2.2.1,h.2.2.2.2.1,h.2.2.2.2.2.1,Zz0g h.2.2.2.2.2.2 d⟩
theorem H6.new {w0 w:World} {a0 a1 a2 a3 a4 a5:Addr} {v0 v1 v2 v3 v4 v5:Value} (h:H6 w0 a0 a1 a2 a3 a4 a5 v0 v1 v2 v3 v4 v5 w) (o:Obj):H6 w0 a0 a1 a2 a3 a4 a5 v0 v1 v2 v3 v4 v5 (w.alloc o):=H6.keep ((Below.refl _ _).alloc (ZnR _) o) h
theorem H6.below {w0 w:World} {a0 a1 a2 a3 a4 a5:Addr} {v0 v1 v2 v3 v4 v5:Value} (h:w.cell? a0=some v0∧w.cell? a1=some v1∧w.cell? a2=some v2∧w.cell? a3=some v3∧w.cell? a4=some v4∧w.cell? a5=some v5∧Below w0.heap.size w0 w):Below w0.heap.size w0 w:=h.2.2.2.2.2.2
def H7 (w0:World) (a0 a1 a2 a3 a4 a5 a6:Addr) (v0 v1 v2 v3 v4 v5 v6:Value) (w:World):Prop:=w.cell? a0=some v0∧w.cell? a1=some v1∧w.cell? a2=some v2∧w.cell? a3=some v3∧w.cell? a4=some v4∧w.cell? a5=some v5∧w.cell? a6=some v6∧Below w0.heap.size w0 w
theorem H7.keep {w0 w w':World} {a0 a1 a2 a3 a4 a5 a6:Addr} {v0 v1 v2 v3 v4 v5 v6:Value} (hb:Below w.heap.size w w') (h:H7 w0 a0 a1 a2 a3 a4 a5 a6 v0 v1 v2 v3 v4 v5 v6 w):H7 w0 a0 a1 a2 a3 a4 a5 a6 v0 v1 v2 v3 v4 v5 v6 w':=⟨Zz00 hb h.1,Zz00 hb h.2.1,Zz00 hb h.2.2.1,Zz00 hb h.2.2.2.1,Zz00 hb h.2.2.2.2.1,Zz00 hb h.2.2.2.2.2.1,Zz00 hb h.2.2.2.2.2.2.1,h.2.2.2.2.2.2.2.trans (hb.mono h.2.2.2.2.2.2.2.size)⟩
theorem H7.drew {w0 w:World} {a0 a1 a2 a3 a4 a5 a6:Addr} {v0 v1 v2 v3 v4 v5 v6:Value} (h:H7 w0 a0 a1 a2 a3 a4 a5 a6 v0 v1 v2 v3 v4 v5 v6 w):H7 w0 a0 a1 a2 a3 a4 a5 a6 v0 v1 v2 v3 v4 v5 v6 w.drew:=⟨h.1,h.2.1,h.2.2.1,h.2.2.2.1,h.2.2.2.2.1,h.2.2.2.2.2.1,h.2.2.2.2.2.2.1,Zz05 h.2.2.2.2.2.2.2⟩
theorem H7.draws {w0 w:World} {a0 a1 a2 a3 a4 a5 a6:Addr} {v0 v1 v2 v3 v4 v5 v6:Value} (h:H7 w0 a0 a1 a2 a3 a4 a5 a6 v0 v1 v2 v3 v4 v5 v6 w) (d:Nat):H7 w0 a0 a1 a2 a3 a4 a5 a6 v0 v1 v2 v3 v4 v5 v6 (w.drewN d):=⟨h.1,h.2.1,h.2.2.1,h.2.2.2.1,h.2.2.2.2.1,h.2.2.2.2.2.1,h.2.2.2.2.2.2.1,Zz0g h.2.2.2.2.2.2.2 d⟩
theorem H7.new {w0 w:World} {a0 a1 a2 a3 a4 a5 a6:Addr} {v0 v1 v2 v3 v4 v5 v6:Value} (h:H7 w0 a0 a1 a2 a3 a4 a5 a6 v0 v1 v2 v3 v4 v5 v6 w) (o:Obj):H7 w0 a0 a1 a2 a3 a4 a5 a6 v0 v1 v2 v3 v4 v5 v6 (w.alloc o):=H7.keep ((Below.refl _ _).alloc (ZnR _) o) h
theorem H7.below {w0 w:World} {a0 a1 a2 a3 a4 a5 a6:Addr} {v0 v1 v2 v3 v4 v5 v6:Value} (h:w.cell? a0=some v0∧w.cell? a1=some v1∧w.cell? a2=some v2∧w.cell? a3=some v3∧w.cell? a4=some v4∧w.cell? a5=some v5∧w.cell? a6=some v6∧Below w0.heap.size w0 w):Below w0.heap.size w0 w:=h.2.2.2.2.2.2.2
def H8 (w0:World) (a0 a1 a2 a3 a4 a5 a6 a7:Addr) (v0 v1 v2 v3 v4 v5 v6 v7:Value) (w:World):Prop:=w.cell? a0=some v0∧w.cell? a1=some v1∧w.cell? a2=some v2∧w.cell? a3=some v3∧w.cell? a4=some v4∧w.cell? a5=some v5∧w.cell? a6=some v6∧w.cell? a7=some v7∧Below w0.heap.size w0 w
theorem H8.keep {w0 w w':World} {a0 a1 a2 a3 a4 a5 a6 a7:Addr} {v0 v1 v2 v3 v4 v5 v6 v7:Value} (hb:Below w.heap.size w w') (h:H8 w0 a0 a1 a2 a3 a4 a5 a6 a7 v0 v1 v2 v3 v4 v5 v6 v7 w):H8 w0 a0 a1 a2 a3 a4 a5 a6 a7 v0 v1 v2 v3 v4 v5 v6 v7 w':=⟨Zz00 hb h.1,Zz00 hb h.2.1,Zz00 hb h.2.2.1,Zz00 hb h.2.2.2.1,Zz00 hb h.2.2.2.2.1,Zz00 hb h.2.2.2.2.2.1,Zz00 hb h.2.2.2.2.2.2.1,Zz00 hb h.2.2.2.2.2.2.2.1,h.2.2.2.2.2.2.2.2.trans (hb.mono h.2.2.2.2.2.2.2.2.size)⟩
theorem H8.drew {w0 w:World} {a0 a1 a2 a3 a4 a5 a6 a7:Addr} {v0 v1 v2 v3 v4 v5 v6 v7:Value} (h:H8 w0 a0 a1 a2 a3 a4 a5 a6 a7 v0 v1 v2 v3 v4 v5 v6 v7 w):H8 w0 a0 a1 a2 a3 a4 a5 a6 a7 v0 v1 v2 v3 v4 v5 v6 v7 w.drew:=⟨h.1,h.2.1,h.2.2.1,h.2.2.2.1,h.2.2.2.2.1,h.2.2.2.2.2.1,h.2.2.2.2.2.2.1,h.2.2.2.2.2.2.2.1,Zz05 h.2.2.2.2.2.2.2.2⟩
theorem H8.draws {w0 w:World} {a0 a1 a2 a3 a4 a5 a6 a7:Addr} {v0 v1 v2 v3 v4 v5 v6 v7:Value} (h:H8 w0 a0 a1 a2 a3 a4 a5 a6 a7 v0 v1 v2 v3 v4 v5 v6 v7 w) (d:Nat):H8 w0 a0 a1 a2 a3 a4 a5 a6 a7 v0 v1 v2 v3 v4 v5 v6 v7 (w.drewN d):=⟨h.1,h.2.1,h.2.2.1,h.2.2.2.1,h.2.2.2.2.1,h.2.2.2.2.2.1,h.2.2.2.2.2.2.1,h.2.2.2.2.2.2.2.1,Zz0g h.2.2.2.2.2.2.2.2 d⟩
theorem H8.new {w0 w:World} {a0 a1 a2 a3 a4 a5 a6 a7:Addr} {v0 v1 v2 v3 v4 v5 v6 v7:Value} (h:H8 w0 a0 a1 a2 a3 a4 a5 a6 a7 v0 v1 v2 v3 v4 v5 v6 v7 w) (o:Obj):H8 w0 a0 a1 a2 a3 a4 a5 a6 a7 v0 v1 v2 v3 v4 v5 v6 v7 (w.alloc o):=H8.keep ((Below.refl _ _).alloc (ZnR _) o) h
theorem H8.below {w0 w:World} {a0 a1 a2 a3 a4 a5 a6 a7:Addr} {v0 v1 v2 v3 v4 v5 v6 v7:Value} (h:w.cell? a0=some v0∧w.cell? a1=some v1∧w.cell? a2=some v2∧w.cell? a3=some v3∧w.cell? a4=some v4∧w.cell? a5=some v5∧w.cell? a6=some v6∧w.cell? a7=some v7∧Below w0.heap.size w0 w):Below w0.heap.size w0 w:=h.2.2.2.2.2.2.2.2
def H9 (w0:World) (a0 a1 a2 a3 a4 a5 a6 a7 a8:Addr) (v0 v1 v2 v3 v4 v5 v6 v7 v8:Value) (w:World):Prop:=w.cell? a0=some v0∧w.cell? a1=some v1∧w.cell? a2=some v2∧w.cell? a3=some v3∧w.cell? a4=some v4∧w.cell? a5=some v5∧w.cell? a6=some v6∧w.cell? a7=some v7∧w.cell? a8=some v8∧Below w0.heap.size w0 w
theorem H9.keep {w0 w w':World} {a0 a1 a2 a3 a4 a5 a6 a7 a8:Addr} {v0 v1 v2 v3 v4 v5 v6 v7 v8:Value} (hb:Below w.heap.size w w') (h:H9 w0 a0 a1 a2 a3 a4 a5 a6 a7 a8 v0 v1 v2 v3 v4 v5 v6 v7 v8 w):H9 w0 a0 a1 a2 a3 a4 a5 a6 a7 a8 v0 v1 v2 v3 v4 v5 v6 v7 v8 w':=⟨Zz00 hb h.1,Zz00 hb h.2.1,Zz00 hb h.2.2.1,Zz00 hb h.2.2.2.1,Zz00 hb h.2.2.2.2.1,Zz00 hb h.2.2.2.2.2.1,Zz00 hb h.2.2.2.2.2.2.1,Zz00 hb h.2.2.2.2.2.2.2.1,Zz00 hb h.2.2.2.2.2.2.2.2.1,h.2.2.2.2.2.2.2.2.2.trans (hb.mono h.2.2.2.2.2.2.2.2.2.size)⟩
theorem H9.drew {w0 w:World} {a0 a1 a2 a3 a4 a5 a6 a7 a8:Addr} {v0 v1 v2 v3 v4 v5 v6 v7 v8:Value} (h:H9 w0 a0 a1 a2 a3 a4 a5 a6 a7 a8 v0 v1 v2 v3 v4 v5 v6 v7 v8 w):H9 w0 a0 a1 a2 a3 a4 a5 a6 a7 a8 v0 v1 v2 v3 v4 v5 v6 v7 v8 w.drew:=⟨h.1,h.2.1,h.2.2.1,h.2.2.2.1,h.2.2.2.2.1,h.2.2.2.2.2.1,h.2.2.2.2.2.2.1,h.2.2.2.2.2.2.2.1,h.2.2.2.2.2.2.2.2.1,Zz05 h.2.2.2.2.2.2.2.2.2⟩
theorem H9.draws {w0 w:World} {a0 a1 a2 a3 a4 a5 a6 a7 a8:Addr} {v0 v1 v2 v3 v4 v5 v6 v7 v8:Value} (h:H9 w0 a0 a1 a2 a3 a4 a5 a6 a7 a8 v0 v1 v2 v3 v4 v5 v6 v7 v8 w) (d:Nat):H9 w0 a0 a1 a2 a3 a4 a5 a6 a7 a8 v0 v1 v2 v3 v4 v5 v6 v7 v8 (w.drewN d):=⟨h.1,h.2.1,h.2.2.1,h.2.2.2.1,h.2.2.2.2.1,h.2.2.2.2.2.1,h.2.2.2.2.2.2.1,h.2.2.2.2.2.2.2.1,h.2.2.2.2.2.2.2.2.1,Zz0g h.2.2.2.2.2.2.2.2.2 d⟩
theorem H9.new {w0 w:World} {a0 a1 a2 a3 a4 a5 a6 a7 a8:Addr} {v0 v1 v2 v3 v4 v5 v6 v7 v8:Value} (h:H9 w0 a0 a1 a2 a3 a4 a5 a6 a7 a8 v0 v1 v2 v3 v4 v5 v6 v7 v8 w) (o:Obj):H9 w0 a0 a1 a2 a3 a4 a5 a6 a7 a8 v0 v1 v2 v3 v4 v5 v6 v7 v8 (w.alloc o):=H9.keep ((Below.refl _ _).alloc (ZnR _) o) h
theorem H9.below {w0 w:World} {a0 a1 a2 a3 a4 a5 a6 a7 a8:Addr} {v0 v1 v2 v3 v4 v5 v6 v7 v8:Value} (h:w.cell? a0=some v0∧w.cell? a1=some v1∧w.cell? a2=some v2∧w.cell? a3=some v3∧w.cell? a4=some v4∧w.cell? a5=some v5∧w.cell? a6=some v6∧w.cell? a7=some v7∧w.cell? a8=some v8∧Below w0.heap.size w0 w):Below w0.heap.size w0 w:=h.2.2.2.2.2.2.2.2.2
def H10 (w0:World) (a0 a1 a2 a3 a4 a5 a6 a7 a8 a9:Addr) (v0 v1 v2 v3 v4 v5 v6 v7 v8 v9:Value) (w:World):Prop:=w.cell? a0=some v0∧w.cell? a1=some v1∧w.cell? a2=some v2∧w.cell? a3=some v3∧w.cell? a4=some v4∧w.cell? a5=some v5∧w.cell? a6=some v6∧w.cell? a7=some v7∧w.cell? a8=some v8∧w.cell? a9=some v9∧Below w0.heap.size w0 w
theorem H10.keep {w0 w w':World} {a0 a1 a2 a3 a4 a5 a6 a7 a8 a9:Addr} {v0 v1 v2 v3 v4 v5 v6 v7 v8 v9:Value} (hb:Below w.heap.size w w') (h:H10 w0 a0 a1 a2 a3 a4 a5 a6 a7 a8 a9 v0 v1 v2 v3 v4 v5 v6 v7 v8 v9 w):H10 w0 a0 a1 a2 a3 a4 a5 a6 a7 a8 a9 v0 v1 v2 v3 v4 v5 v6 v7 v8 v9 w':=⟨Zz00 hb h.1,Zz00 hb h.2.1,Zz00 hb h.2.2.1,Zz00 hb h.2.2.2.1,Zz00 hb h.2.2.2.2.1,Zz00 hb h.2.2.2.2.2.1,Zz00 hb h.2.2.2.2.2.2.1,Zz00 hb h.2.2.2.2.2.2.2.1,Zz00 hb h.2.2.2.2.2.2.2.2.1,Zz00 hb h.2.2.2.2.2.2.2.2.2.1,h.2.2.2.2.2.2.2.2.2.2.trans (hb.mono h.2.2.2.2.2.2.2.2.2.2.size)⟩
theorem H10.drew {w0 w:World} {a0 a1 a2 a3 a4 a5 a6 a7 a8 a9:Addr} {v0 v1 v2 v3 v4 v5 v6 v7 v8 v9:Value} (h:H10 w0 a0 a1 a2 a3 a4 a5 a6 a7 a8 a9 v0 v1 v2 v3 v4 v5 v6 v7 v8 v9 w):H10 w0 a0 a1 a2 a3 a4 a5 a6 a7 a8 a9 v0 v1 v2 v3 v4 v5 v6 v7 v8 v9 w.drew:=⟨h.1,h.2.1,h.2.2.1,h.2.2.2.1,h.2.2.2.2.1,h.2.2.2.2.2.1,h.2.2.2.2.2.2.1,h.2.2.2.2.2.2.2.1,h.2.2.2.2.2.2.2.2.1,h.2.2.2.2.2.2.2.2.2.1,Zz05 h.2.2.2.2.2.2.2.2.2.2⟩
theorem H10.draws {w0 w:World} {a0 a1 a2 a3 a4 a5 a6 a7 a8 a9:Addr} {v0 v1 v2 v3 v4 v5 v6 v7 v8 v9:Value} (h:H10 w0 a0 a1 a2 a3 a4 a5 a6 a7 a8 a9 v0 v1 v2 v3 v4 v5 v6 v7 v8 v9 w) (d:Nat):H10 w0 a0 a1 a2 a3 a4 a5 a6 a7 a8 a9 v0 v1 v2 v3 v4 v5 v6 v7 v8 v9 (w.drewN d):=⟨h.1,h.2.1,h.2.2.1,h.2.2.2.1,h.2.2.2.2.1,h.2.2.2.2.2.1,h.2.2.2.2.2.2.1,h.2.2.2.2.2.2.2.1,h.2.2.2.2.2.2.2.2.1,h.2.2.2.2.2.2.2.2.2.1,Zz0g h.2.2.2.2.2.2.2.2.2.2 d⟩
theorem H10.new {w0 w:World} {a0 a1 a2 a3 a4 a5 a6 a7 a8 a9:Addr} {v0 v1 v2 v3 v4 v5 v6 v7 v8 v9:Value} (h:H10 w0 a0 a1 a2 a3 a4 a5 a6 a7 a8 a9 v0 v1 v2 v3 v4 v5 v6 v7 v8 v9 w) (o:Obj):H10 w0 a0 a1 a2 a3 a4 a5 a6 a7 a8 a9 v0 v1 v2 v3 v4 v5 v6 v7 v8 v9 (w.alloc o):=H10.keep ((Below.refl _ _).alloc (ZnR _) o) h
theorem H10.below {w0 w:World} {a0 a1 a2 a3 a4 a5 a6 a7 a8 a9:Addr} {v0 v1 v2 v3 v4 v5 v6 v7 v8 v9:Value} (h:w.cell? a0=some v0∧w.cell? a1=some v1∧w.cell? a2=some v2∧w.cell? a3=some v3∧w.cell? a4=some v4∧w.cell? a5=some v5∧w.cell? a6=some v6∧w.cell? a7=some v7∧w.cell? a8=some v8∧w.cell? a9=some v9∧Below w0.heap.size w0 w):Below w0.heap.size w0 w:=h.2.2.2.2.2.2.2.2.2.2
def H11 (w0:World) (a0 a1 a2 a3 a4 a5 a6 a7 a8 a9 a10:Addr) (v0 v1 v2 v3 v4 v5 v6 v7 v8 v9 v10:Value) (w:World):Prop:=w.cell? a0=some v0∧w.cell? a1=some v1∧w.cell? a2=some v2∧w.cell? a3=some v3∧w.cell? a4=some v4∧w.cell? a5=some v5∧w.cell? a6=some v6∧w.cell? a7=some v7∧w.cell? a8=some v8∧w.cell? a9=some v9∧w.cell? a10=some v10∧Below w0.heap.size w0 w
theorem H11.keep {w0 w w':World} {a0 a1 a2 a3 a4 a5 a6 a7 a8 a9 a10:Addr} {v0 v1 v2 v3 v4 v5 v6 v7 v8 v9 v10:Value} (hb:Below w.heap.size w w') (h:H11 w0 a0 a1 a2 a3 a4 a5 a6 a7 a8 a9 a10 v0 v1 v2 v3 v4 v5 v6 v7 v8 v9 v10 w):H11 w0 a0 a1 a2 a3 a4 a5 a6 a7 a8 a9 a10 v0 v1 v2 v3 v4 v5 v6 v7 v8 v9 v10 w':=⟨Zz00 hb h.1,Zz00 hb h.2.1,Zz00 hb h.2.2.1,Zz00 hb h.2.2.2.1,Zz00 hb h.2.2.2.2.1,Zz00 hb h.2.2.2.2.2.1,Zz00 hb h.2.2.2.2.2.2.1,Zz00 hb h.2.2.2.2.2.2.2.1,Zz00 hb h.2.2.2.2.2.2.2.2.1,Zz00 hb h.2.2.2.2.2.2.2.2.2.1,Zz00 hb h.2.2.2.2.2.2.2.2.2.2.1,h.2.2.2.2.2.2.2.2.2.2.2.trans (hb.mono h.2.2.2.2.2.2.2.2.2.2.2.size)⟩
theorem H11.drew {w0 w:World} {a0 a1 a2 a3 a4 a5 a6 a7 a8 a9 a10:Addr} {v0 v1 v2 v3 v4 v5 v6 v7 v8 v9 v10:Value} (h:H11 w0 a0 a1 a2 a3 a4 a5 a6 a7 a8 a9 a10 v0 v1 v2 v3 v4 v5 v6 v7 v8 v9 v10 w):H11 w0 a0 a1 a2 a3 a4 a5 a6 a7 a8 a9 a10 v0 v1 v2 v3 v4 v5 v6 v7 v8 v9 v10 w.drew:=⟨h.1,h.2.1,h.2.2.1,h.2.2.2.1,h.2.2.2.2.1,h.2.2.2.2.2.1,h.2.2.2.2.2.2.1,h.2.2.2.2.2.2.2.1,h.2.2.2.2.2.2.2.2.1,h.2.2.2.2.2.2.2.2.2.1,h.2.2.2.2.2.2.2.2.2.2.1,Zz05 h.2.2.2.2.2.2.2.2.2.2.2⟩
theorem H11.draws {w0 w:World} {a0 a1 a2 a3 a4 a5 a6 a7 a8 a9 a10:Addr} {v0 v1 v2 v3 v4 v5 v6 v7 v8 v9 v10:Value} (h:H11 w0 a0 a1 a2 a3 a4 a5 a6 a7 a8 a9 a10 v0 v1 v2 v3 v4 v5 v6 v7 v8 v9 v10 w) (d:Nat):H11 w0 a0 a1 a2 a3 a4 a5 a6 a7 a8 a9 a10 v0 v1 v2 v3 v4 v5 v6 v7 v8 v9 v10 (w.drewN d):=⟨h.1,h.2.1,h.2.2.1,h.2.2.2.1,h.2.2.2.2.1,h.2.2.2.2.2.1,h.2.2.2.2.2.2.1,h.2.2.2.2.2.2.2.1,h.2.2.2.2.2.2.2.2.1,h.2.2.2.2.2.2.2.2.2.1,h.2.2.2.2.2.2.2.2.2.2.1,Zz0g h.2.2.2.2.2.2.2.2.2.2.2 d⟩
theorem H11.new {w0 w:World} {a0 a1 a2 a3 a4 a5 a6 a7 a8 a9 a10:Addr} {v0 v1 v2 v3 v4 v5 v6 v7 v8 v9 v10:Value} (h:H11 w0 a0 a1 a2 a3 a4 a5 a6 a7 a8 a9 a10 v0 v1 v2 v3 v4 v5 v6 v7 v8 v9 v10 w) (o:Obj):H11 w0 a0 a1 a2 a3 a4 a5 a6 a7 a8 a9 a10 v0 v1 v2 v3 v4 v5 v6 v7 v8 v9 v10 (w.alloc o):=H11.keep ((Below.refl _ _).alloc (ZnR _) o) h
theorem H11.below {w0 w:World} {a0 a1 a2 a3 a4 a5 a6 a7 a8 a9 a10:Addr} {v0 v1 v2 v3 v4 v5 v6 v7 v8 v9 v10:Value} (h:w.cell? a0=some v0∧w.cell? a1=some v1∧w.cell? a2=some v2∧w.cell? a3=some v3∧w.cell? a4=some v4∧w.cell? a5=some v5∧w.cell? a6=some v6∧w.cell? a7=some v7∧w.cell? a8=some v8∧w.cell? a9=some v9∧w.cell? a10=some v10∧Below w0.heap.size w0 w):Below w0.heap.size w0 w:=h.2.2.2.2.2.2.2.2.2.2.2
def H12 (w0:World) (a0 a1 a2 a3 a4 a5 a6 a7 a8 a9 a10 a11:Addr) (v0 v1 v2 v3 v4 v5 v6 v7 v8 v9 v10 v11:Value) (w:World):Prop:=w.cell? a0=some v0∧w.cell? a1=some v1∧w.cell? a2=some v2∧w.cell? a3=some v3∧w.cell? a4=some v4∧w.cell? a5=some v5∧w.cell? a6=some v6∧w.cell? a7=some v7∧w.cell? a8=some v8∧w.cell? a9=some v9∧w.cell? a10=some v10∧w.cell? a11=some v11∧Below w0.heap.size w0 w
theorem H12.keep {w0 w w':World} {a0 a1 a2 a3 a4 a5 a6 a7 a8 a9 a10 a11:Addr} {v0 v1 v2 v3 v4 v5 v6 v7 v8 v9 v10 v11:Value} (hb:Below w.heap.size w w') (h:H12 w0 a0 a1 a2 a3 a4 a5 a6 a7 a8 a9 a10 a11 v0 v1 v2 v3 v4 v5 v6 v7 v8 v9 v10 v11 w):H12 w0 a0 a1 a2 a3 a4 a5 a6 a7 a8 a9 a10 a11 v0 v1 v2 v3 v4 v5 v6 v7 v8 v9 v10 v11 w':=⟨Zz00 hb h.1,Zz00 hb h.2.1,Zz00 hb h.2.2.1,Zz00 hb h.2.2.2.1,Zz00 hb h.2.2.2.2.1,Zz00 hb h.2.2.2.2.2.1,Zz00 hb h.2.2.2.2.2.2.1,Zz00 hb h.2.2.2.2.2.2.2.1,Zz00 hb h.2.2.2.2.2.2.2.2.1,Zz00 hb h.2.2.2.2.2.2.2.2.2.1,Zz00 hb h.2.2.2.2.2.2.2.2.2.2.1,Zz00 hb h.2.2.2.2.2.2.2.2.2.2.2.1,h.2.2.2.2.2.2.2.2.2.2.2.2.trans (hb.mono h.2.2.2.2.2.2.2.2.2.2.2.2.size)⟩
theorem H12.drew {w0 w:World} {a0 a1 a2 a3 a4 a5 a6 a7 a8 a9 a10 a11:Addr} {v0 v1 v2 v3 v4 v5 v6 v7 v8 v9 v10 v11:Value} (h:H12 w0 a0 a1 a2 a3 a4 a5 a6 a7 a8 a9 a10 a11 v0 v1 v2 v3 v4 v5 v6 v7 v8 v9 v10 v11 w):H12 w0 a0 a1 a2 a3 a4 a5 a6 a7 a8 a9 a10 a11 v0 v1 v2 v3 v4 v5 v6 v7 v8 v9 v10 v11 w.drew:=⟨h.1,h.2.1,h.2.2.1,h.2.2.2.1,h.2.2.2.2.1,h.2.2.2.2.2.1,h.2.2.2.2.2.2.1,h.2.2.2.2.2.2.2.1,h.2.2.2.2.2.2.2.2.1,h.2.2.2.2.2.2.2.2.2.1,h.2.2.2.2.2.2.2.2.2.2.1,h.2.2.2.2.2.2.2.2.2.2.2.1,Zz05 h.2.2.2.2.2.2.2.2.2.2.2.2⟩
theorem H12.draws {w0 w:World} {a0 a1 a2 a3 a4 a5 a6 a7 a8 a9 a10 a11:Addr} {v0 v1 v2 v3 v4 v5 v6 v7 v8 v9 v10 v11:Value} (h:H12 w0 a0 a1 a2 a3 a4 a5 a6 a7 a8 a9 a10 a11 v0 v1 v2 v3 v4 v5 v6 v7 v8 v9 v10 v11 w) (d:Nat):H12 w0 a0 a1 a2 a3 a4 a5 a6 a7 a8 a9 a10 a11 v0 v1 v2 v3 v4 v5 v6 v7 v8 v9 v10 v11 (w.drewN d):=⟨h.1,h.2.1,h.2.2.1,h.2.2.2.1,h.2.2.2.2.1,h.2.2.2.2.2.1,h.2.2.2.2.2.2.1,h.2.2.2.2.2.2.2.1,h.2.2.2.2.2.2.2.2.1,h.2.2.2.2.2.2.2.2.2.1,h.2.2.2.2.2.2.2.2.2.2.1,h.2.2.2.2.2.2.2.2.2.2.2.1,Zz0g h.2.2.2.2.2.2.2.2.2.2.2.2 d⟩
theorem H12.new {w0 w:World} {a0 a1 a2 a3 a4 a5 a6 a7 a8 a9 a10 a11:Addr} {v0 v1 v2 v3 v4 v5 v6 v7 v8 v9 v10 v11:Value} (h:H12 w0 a0 a1 a2 a3 a4 a5 a6 a7 a8 a9 a10 a11 v0 v1 v2 v3 v4 v5 v6 v7 v8 v9 v10 v11 w) (o:Obj):H12 w0 a0 a1 a2 a3 a4 a5 a6 a7 a8 a9 a10 a11 v0 v1 v2 v3 v4 v5 v6 v7 v8 v9 v10 v11 (w.alloc o):=H12.keep ((Below.refl _ _).alloc (ZnR _) o) h
theorem H12.below {w0 w:World} {a0 a1 a2 a3 a4 a5 a6 a7 a8 a9 a10 a11:Addr} {v0 v1 v2 v3 v4 v5 v6 v7 v8 v9 v10 v11:Value} (h:w.cell? a0=some v0∧w.cell? a1=some v1∧w.cell? a2=some v2∧w.cell? a3=some v3∧w.cell? a4=some v4∧w.cell? a5=some v5∧w.cell? a6=some v6∧w.cell? a7=some v7∧w.cell? a8=some v8∧w.cell? a9=some v9∧w.cell? a10=some v10∧w.cell? a11=some v11∧Below w0.heap.size w0 w):Below w0.heap.size w0 w:=h.2.2.2.2.2.2.2.2.2.2.2.2
def H13 (w0:World) (a0 a1 a2 a3 a4 a5 a6 a7 a8 a9 a10 a11 a12:Addr) (v0 v1 v2 v3 v4 v5 v6 v7 v8 v9 v10 v11 v12:Value) (w:World):Prop:=w.cell? a0=some v0∧w.cell? a1=some v1∧w.cell? a2=some v2∧w.cell? a3=some v3∧w.cell? a4=some v4∧w.cell? a5=some v5∧w.cell? a6=some v6∧w.cell? a7=some v7∧w.cell? a8=some v8∧w.cell? a9=some v9∧w.cell? a10=some v10∧w.cell? a11=some v11∧w.cell? a12=some v12∧Below w0.heap.size w0 w
theorem H13.keep {w0 w w':World} {a0 a1 a2 a3 a4 a5 a6 a7 a8 a9 a10 a11 a12:Addr} {v0 v1 v2 v3 v4 v5 v6 v7 v8 v9 v10 v11 v12:Value} (hb:Below w.heap.size w w') (h:H13 w0 a0 a1 a2 a3 a4 a5 a6 a7 a8 a9 a10 a11 a12 v0 v1 v2 v3 v4 v5 v6 v7 v8 v9 v10 v11 v12 w):H13 w0 a0 a1 a2 a3 a4 a5 a6 a7 a8 a9 a10 a11 a12 v0 v1 v2 v3 v4 v5 v6 v7 v8 v9 v10 v11 v12 w':=⟨Zz00 hb h.1,Zz00 hb h.2.1,Zz00 hb h.2.2.1,Zz00 hb h.2.2.2.1,Zz00 hb h.2.2.2.2.1,Zz00 hb h.2.2.2.2.2.1,Zz00 hb h.2.2.2.2.2.2.1,Zz00 hb h.2.2.2.2.2.2.2.1,Zz00 hb h.2.2.2.2.2.2.2.2.1,Zz00 hb h.2.2.2.2.2.2.2.2.2.1,Zz00 hb h.2.2.2.2.2.2.2.2.2.2.1,Zz00 hb h.2.2.2.2.2.2.2.2.2.2.2.1,Zz00 hb h.2.2.2.2.2.2.2.2.2.2.2.2.1,h.2.2.2.2.2.2.2.2.2.2.2.2.2.trans (hb.mono h.2.2.2.2.2.2.2.2.2.2.2.2.2.size)⟩
theorem H13.drew {w0 w:World} {a0 a1 a2 a3 a4 a5 a6 a7 a8 a9 a10 a11 a12:Addr} {v0 v1 v2 v3 v4 v5 v6 v7 v8 v9 v10 v11 v12:Value} (h:H13 w0 a0 a1 a2 a3 a4 a5 a6 a7 a8 a9 a10 a11 a12 v0 v1 v2 v3 v4 v5 v6 v7 v8 v9 v10 v11 v12 w):H13 w0 a0 a1 a2 a3 a4 a5 a6 a7 a8 a9 a10 a11 a12 v0 v1 v2 v3 v4 v5 v6 v7 v8 v9 v10 v11 v12 w.drew:=⟨h.1,h.2.1,h.2.2.1,h.2.2.2.1,h.2.2.2.2.1,h.2.2.2.2.2.1,h.2.2.2.2.2.2.1,h.2.2.2.2.2.2.2.1,h.2.2.2.2.2.2.2.2.1,h.2.2.2.2.2.2.2.2.2.1,h.2.2.2.2.2.2.2.2.2.2.1,h.2.2.2.2.2.2.2.2.2.2.2.1,h.2.2.2.2.2.2.2.2.2.2.2.2.1,Zz05 h.2.2.2.2.2.2.2.2.2.2.2.2.2⟩
theorem H13.draws {w0 w:World} {a0 a1 a2 a3 a4 a5 a6 a7 a8 a9 a10 a11 a12:Addr} {v0 v1 v2 v3 v4 v5 v6 v7 v8 v9 v10 v11 v12:Value} (h:H13 w0 a0 a1 a2 a3 a4 a5 a6 a7 a8 a9 a10 a11 a12 v0 v1 v2 v3 v4 v5 v6 v7 v8 v9 v10 v11 v12 w) (d:Nat):H13 w0 a0 a1 a2 a3 a4 a5 a6 a7 a8 a9 a10 a11 a12 v0 v1 v2 v3 v4 v5 v6 v7 v8 v9 v10 v11 v12 (w.drewN d):=⟨h.1,h.2.1,h.2.2.1,h.2.2.2.1,h.2.2.2.2.1,h.2.2.2.2.2.1,h.2.2.2.2.2.2.1,h.2.2.2.2.2.2.2.1,h.2.2.2.2.2.2.2.2.1,h.2.2.2.2.2.2.2.2.2.1,h.2.2.2.2.2.2.2.2.2.2.1,h.2.2.2.2.2.2.2.2.2.2.2.1,h.2.2.2.2.2.2.2.2.2.2.2.2.1,Zz0g h.2.2.2.2.2.2.2.2.2.2.2.2.2 d⟩
theorem H13.new {w0 w:World} {a0 a1 a2 a3 a4 a5 a6 a7 a8 a9 a10 a11 a12:Addr} {v0 v1 v2 v3 v4 v5 v6 v7 v8 v9 v10 v11 v12:Value} (h:H13 w0 a0 a1 a2 a3 a4 a5 a6 a7 a8 a9 a10 a11 a12 v0 v1 v2 v3 v4 v5 v6 v7 v8 v9 v10 v11 v12 w) (o:Obj):H13 w0 a0 a1 a2 a3 a4 a5 a6 a7 a8 a9 a10 a11 a12 v0 v1 v2 v3 v4 v5 v6 v7 v8 v9 v10 v11 v12 (w.alloc o):=H13.keep ((Below.refl _ _).alloc (ZnR _) o) h
theorem H13.below {w0 w:World} {a0 a1 a2 a3 a4 a5 a6 a7 a8 a9 a10 a11 a12:Addr} {v0 v1 v2 v3 v4 v5 v6 v7 v8 v9 v10 v11 v12:Value} (h:w.cell? a0=some v0∧w.cell? a1=some v1∧w.cell? a2=some v2∧w.cell? a3=some v3∧w.cell? a4=some v4∧w.cell? a5=some v5∧w.cell? a6=some v6∧w.cell? a7=some v7∧w.cell? a8=some v8∧w.cell? a9=some v9∧w.cell? a10=some v10∧w.cell? a11=some v11∧w.cell? a12=some v12∧Below w0.heap.size w0 w):Below w0.heap.size w0 w:=h.2.2.2.2.2.2.2.2.2.2.2.2.2
def H14 (w0:World) (a0 a1 a2 a3 a4 a5 a6 a7 a8 a9 a10 a11 a12 a13:Addr) (v0 v1 v2 v3 v4 v5 v6 v7 v8 v9 v10 v11 v12 v13:Value) (w:World):Prop:=w.cell? a0=some v0∧w.cell? a1=some v1∧w.cell? a2=some v2∧w.cell? a3=some v3∧w.cell? a4=some v4∧w.cell? a5=some v5∧w.cell? a6=some v6∧w.cell? a7=some v7∧w.cell? a8=some v8∧w.cell? a9=some v9∧w.cell? a10=some v10∧w.cell? a11=some v11∧w.cell? a12=some v12∧w.cell? a13=some v13∧Below w0.heap.size w0 w
theorem H14.keep {w0 w w':World} {a0 a1 a2 a3 a4 a5 a6 a7 a8 a9 a10 a11 a12 a13:Addr} {v0 v1 v2 v3 v4 v5 v6 v7 v8 v9 v10 v11 v12 v13:Value} (hb:Below w.heap.size w w') (h:H14 w0 a0 a1 a2 a3 a4 a5 a6 a7 a8 a9 a10 a11 a12 a13 v0 v1 v2 v3 v4 v5 v6 v7 v8 v9 v10 v11 v12 v13 w):H14 w0 a0 a1 a2 a3 a4 a5 a6 a7 a8 a9 a10 a11 a12 a13 v0 v1 v2 v3 v4 v5 v6 v7 v8 v9 v10 v11 v12 v13 w':=⟨Zz00 hb h.1,Zz00 hb h.2.1,Zz00 hb h.2.2.1,Zz00 hb h.2.2.2.1,Zz00 hb h.2.2.2.2.1,Zz00 hb h.2.2.2.2.2.1,Zz00 hb h.2.2.2.2.2.2.1,Zz00 hb h.2.2.2.2.2.2.2.1,Zz00 hb h.2.2.2.2.2.2.2.2.1,Zz00 hb h.2.2.2.2.2.2.2.2.2.1,Zz00 hb h.2.2.2.2.2.2.2.2.2.2.1,Zz00 hb h.2.2.2.2.2.2.2.2.2.2.2.1,Zz00 hb h.2.2.2.2.2.2.2.2.2.2.2.2.1,Zz00 hb h.2.2.2.2.2.2.2.2.2.2.2.2.2.1,h.2.2.2.2.2.2.2.2.2.2.2.2.2.2.trans (hb.mono h.2.2.2.2.2.2.2.2.2.2.2.2.2.2.size)⟩
theorem H14.drew {w0 w:World} {a0 a1 a2 a3 a4 a5 a6 a7 a8 a9 a10 a11 a12 a13:Addr} {v0 v1 v2 v3 v4 v5 v6 v7 v8 v9 v10 v11 v12 v13:Value} (h:H14 w0 a0 a1 a2 a3 a4 a5 a6 a7 a8 a9 a10 a11 a12 a13 v0 v1 v2 v3 v4 v5 v6 v7 v8 v9 v10 v11 v12 v13 w):H14 w0 a0 a1 a2 a3 a4 a5 a6 a7 a8 a9 a10 a11 a12 a13 v0 v1 v2 v3 v4 v5 v6 v7 v8 v9 v10 v11 v12 v13 w.drew:=⟨h.1,h.2.1,h.2.2.1,h.2.2.2.1,h.2.2.2.2.1,h.2.2.2.2.2.1,h.2.2.2.2.2.2.1,h.2.2.2.2.2.2.2.1,h.2.2.2.2.2.2.2.2.1,h.2.2.2.2.2.2.2.2.2.1,h.2.2.2.2.2.2.2.2.2.2.1,h.2.2.2.2.2.2.2.2.2.2.2.1,h.2.2.2.2.2.2.2.2.2.2.2.2.1,h.2.2.2.2.2.2.2.2.2.2.2.2.2.1,Zz05 h.2.2.2.2.2.2.2.2.2.2.2.2.2.2⟩
theorem H14.draws {w0 w:World} {a0 a1 a2 a3 a4 a5 a6 a7 a8 a9 a10 a11 a12 a13:Addr} {v0 v1 v2 v3 v4 v5 v6 v7 v8 v9 v10 v11 v12 v13:Value} (h:H14 w0 a0 a1 a2 a3 a4 a5 a6 a7 a8 a9 a10 a11 a12 a13 v0 v1 v2 v3 v4 v5 v6 v7 v8 v9 v10 v11 v12 v13 w) (d:Nat):H14 w0 a0 a1 a2 a3 a4 a5 a6 a7 a8 a9 a10 a11 a12 a13 v0 v1 v2 v3 v4 v5 v6 v7 v8 v9 v10 v11 v12 v13 (w.drewN d):=⟨h.1,h.2.1,h.2.2.1,h.2.2.2.1,h.2.2.2.2.1,h.2.2.2.2.2.1,h.2.2.2.2.2.2.1,h.2.2.2.2.2.2.2.1,h.2.2.2.2.2.2.2.2.1,h.2.2.2.2.2.2.2.2.2.1,h.2.2.2.2.2.2.2.2.2.2.1,h.2.2.2.2.2.2.2.2.2.2.2.1,h.2.2.2.2.2.2.2.2.2.2.2.2.1,h.2.2.2.2.2.2.2.2.2.2.2.2.2.1,Zz0g h.2.2.2.2.2.2.2.2.2.2.2.2.2.2 d⟩
theorem H14.new {w0 w:World} {a0 a1 a2 a3 a4 a5 a6 a7 a8 a9 a10 a11 a12 a13:Addr} {v0 v1 v2 v3 v4 v5 v6 v7 v8 v9 v10 v11 v12 v13:Value} (h:H14 w0 a0 a1 a2 a3 a4 a5 a6 a7 a8 a9 a10 a11 a12 a13 v0 v1 v2 v3 v4 v5 v6 v7 v8 v9 v10 v11 v12 v13 w) (o:Obj):H14 w0 a0 a1 a2 a3 a4 a5 a6 a7 a8 a9 a10 a11 a12 a13 v0 v1 v2 v3 v4 v5 v6 v7 v8 v9 v10 v11 v12 v13 (w.alloc o):=H14.keep ((Below.refl _ _).alloc (ZnR _) o) h
theorem H14.below {w0 w:World} {a0 a1 a2 a3 a4 a5 a6 a7 a8 a9 a10 a11 a12 a13:Addr} {v0 v1 v2 v3 v4 v5 v6 v7 v8 v9 v10 v11 v12 v13:Value} (h:w.cell? a0=some v0∧w.cell? a1=some v1∧w.cell? a2=some v2∧w.cell? a3=some v3∧w.cell? a4=some v4∧w.cell? a5=some v5∧w.cell? a6=some v6∧w.cell? a7=some v7∧w.cell? a8=some v8∧w.cell? a9=some v9∧w.cell? a10=some v10∧w.cell? a11=some v11∧w.cell? a12=some v12∧w.cell? a13=some v13∧Below w0.heap.size w0 w):Below w0.heap.size w0 w:=h.2.2.2.2.2.2.2.2.2.2.2.2.2.2
theorem H1.at_ {w0 w:World} {a0:Addr} {v0:Value} (h0:w0.cell? a0=some v0) (hb:Below w0.heap.size w0 w):H1 w0 a0 v0 w:=⟨Zz00 hb h0,hb⟩
theorem H2.at_ {w0 w:World} {a0 a1:Addr} {v0 v1:Value} (h0:w0.cell? a0=some v0) (h1:w0.cell? a1=some v1) (hb:Below w0.heap.size w0 w):H2 w0 a0 a1 v0 v1 w:=⟨Zz00 hb h0,Zz00 hb h1,hb⟩
theorem H3.at_ {w0 w:World} {a0 a1 a2:Addr} {v0 v1 v2:Value} (h0:w0.cell? a0=some v0) (h1:w0.cell? a1=some v1) (h2:w0.cell? a2=some v2) (hb:Below w0.heap.size w0 w):H3 w0 a0 a1 a2 v0 v1 v2 w:=⟨Zz00 hb h0,Zz00 hb h1,Zz00 hb h2,hb⟩
theorem H4.at_ {w0 w:World} {a0 a1 a2 a3:Addr} {v0 v1 v2 v3:Value} (h0:w0.cell? a0=some v0) (h1:w0.cell? a1=some v1) (h2:w0.cell? a2=some v2) (h3:w0.cell? a3=some v3) (hb:Below w0.heap.size w0 w):H4 w0 a0 a1 a2 a3 v0 v1 v2 v3 w:=⟨Zz00 hb h0,Zz00 hb h1,Zz00 hb h2,Zz00 hb h3,hb⟩
theorem H5.at_ {w0 w:World} {a0 a1 a2 a3 a4:Addr} {v0 v1 v2 v3 v4:Value} (h0:w0.cell? a0=some v0) (h1:w0.cell? a1=some v1) (h2:w0.cell? a2=some v2) (h3:w0.cell? a3=some v3) (h4:w0.cell? a4=some v4) (hb:Below w0.heap.size w0 w):H5 w0 a0 a1 a2 a3 a4 v0 v1 v2 v3 v4 w:=⟨Zz00 hb h0,Zz00 hb h1,Zz00 hb h2,Zz00 hb h3,Zz00 hb h4,hb⟩
theorem H6.at_ {w0 w:World} {a0 a1 a2 a3 a4 a5:Addr} {v0 v1 v2 v3 v4 v5:Value} (h0:w0.cell? a0=some v0) (h1:w0.cell? a1=some v1) (h2:w0.cell? a2=some v2) (h3:w0.cell? a3=some v3) (h4:w0.cell? a4=some v4) (h5:w0.cell? a5=some v5) (hb:Below w0.heap.size w0 w):H6 w0 a0 a1 a2 a3 a4 a5 v0 v1 v2 v3 v4 v5 w:=⟨Zz00 hb h0,Zz00 hb h1,Zz00 hb h2,Zz00 hb h3,Zz00 hb h4,Zz00 hb h5,hb⟩
theorem H7.at_ {w0 w:World} {a0 a1 a2 a3 a4 a5 a6:Addr} {v0 v1 v2 v3 v4 v5 v6:Value} (h0:w0.cell? a0=some v0) (h1:w0.cell? a1=some v1) (h2:w0.cell? a2=some v2) (h3:w0.cell? a3=some v3) (h4:w0.cell? a4=some v4) (h5:w0.cell? a5=some v5) (h6:w0.cell? a6=some v6) (hb:Below w0.heap.size w0 w):H7 w0 a0 a1 a2 a3 a4 a5 a6 v0 v1 v2 v3 v4 v5 v6 w:=⟨Zz00 hb h0,Zz00 hb h1,Zz00 hb h2,Zz00 hb h3,Zz00 hb h4,Zz00 hb h5,Zz00 hb h6,hb⟩
theorem H8.at_ {w0 w:World} {a0 a1 a2 a3 a4 a5 a6 a7:Addr} {v0 v1 v2 v3 v4 v5 v6 v7:Value} (h0:w0.cell? a0=some v0) (h1:w0.cell? a1=some v1) (h2:w0.cell? a2=some v2) (h3:w0.cell? a3=some v3) (h4:w0.cell? a4=some v4) (h5:w0.cell? a5=some v5) (h6:w0.cell? a6=some v6) (h7:w0.cell? a7=some v7) (hb:Below w0.heap.size w0 w):H8 w0 a0 a1 a2 a3 a4 a5 a6 a7 v0 v1 v2 v3 v4 v5 v6 v7 w:=⟨Zz00 hb h0,Zz00 hb h1,Zz00 hb h2,Zz00 hb h3,Zz00 hb h4,Zz00 hb h5,Zz00 hb h6,Zz00 hb h7,hb⟩
theorem H9.at_ {w0 w:World} {a0 a1 a2 a3 a4 a5 a6 a7 a8:Addr} {v0 v1 v2 v3 v4 v5 v6 v7 v8:Value} (h0:w0.cell? a0=some v0) (h1:w0.cell? a1=some v1) (h2:w0.cell? a2=some v2) (h3:w0.cell? a3=some v3) (h4:w0.cell? a4=some v4) (h5:w0.cell? a5=some v5) (h6:w0.cell? a6=some v6) (h7:w0.cell? a7=some v7) (h8:w0.cell? a8=some v8) (hb:Below w0.heap.size w0 w):H9 w0 a0 a1 a2 a3 a4 a5 a6 a7 a8 v0 v1 v2 v3 v4 v5 v6 v7 v8 w:=⟨Zz00 hb h0,Zz00 hb h1,Zz00 hb h2,Zz00 hb h3,Zz00 hb h4,Zz00 hb h5,Zz00 hb h6,Zz00 hb h7,Zz00 hb h8,hb⟩
theorem H10.at_ {w0 w:World} {a0 a1 a2 a3 a4 a5 a6 a7 a8 a9:Addr} {v0 v1 v2 v3 v4 v5 v6 v7 v8 v9:Value} (h0:w0.cell? a0=some v0) (h1:w0.cell? a1=some v1) (h2:w0.cell? a2=some v2) (h3:w0.cell? a3=some v3) (h4:w0.cell? a4=some v4) (h5:w0.cell? a5=some v5) (h6:w0.cell? a6=some v6) (h7:w0.cell? a7=some v7) (h8:w0.cell? a8=some v8) (h9:w0.cell? a9=some v9) (hb:Below w0.heap.size w0 w):H10 w0 a0 a1 a2 a3 a4 a5 a6 a7 a8 a9 v0 v1 v2 v3 v4 v5 v6 v7 v8 v9 w:=⟨Zz00 hb h0,Zz00 hb h1,Zz00 hb h2,Zz00 hb h3,Zz00 hb h4,Zz00 hb h5,Zz00 hb h6,Zz00 hb h7,Zz00 hb h8,Zz00 hb h9,hb⟩
theorem H11.at_ {w0 w:World} {a0 a1 a2 a3 a4 a5 a6 a7 a8 a9 a10:Addr} {v0 v1 v2 v3 v4 v5 v6 v7 v8 v9 v10:Value} (h0:w0.cell? a0=some v0) (h1:w0.cell? a1=some v1) (h2:w0.cell? a2=some v2) (h3:w0.cell? a3=some v3) (h4:w0.cell? a4=some v4) (h5:w0.cell? a5=some v5) (h6:w0.cell? a6=some v6) (h7:w0.cell? a7=some v7) (h8:w0.cell? a8=some v8) (h9:w0.cell? a9=some v9) (h10:w0.cell? a10=some v10) (hb:Below w0.heap.size w0 w):H11 w0 a0 a1 a2 a3 a4 a5 a6 a7 a8 a9 a10 v0 v1 v2 v3 v4 v5 v6 v7 v8 v9 v10 w:=⟨Zz00 hb h0,Zz00 hb h1,Zz00 hb h2,Zz00 hb h3,Zz00 hb h4,Zz00 hb h5,Zz00 hb h6,Zz00 hb h7,Zz00 hb h8,Zz00 hb h9,Zz00 hb h10,hb⟩
theorem H12.at_ {w0 w:World} {a0 a1 a2 a3 a4 a5 a6 a7 a8 a9 a10 a11:Addr} {v0 v1 v2 v3 v4 v5 v6 v7 v8 v9 v10 v11:Value} (h0:w0.cell? a0=some v0) (h1:w0.cell? a1=some v1) (h2:w0.cell? a2=some v2) (h3:w0.cell? a3=some v3) (h4:w0.cell? a4=some v4) (h5:w0.cell? a5=some v5) (h6:w0.cell? a6=some v6) (h7:w0.cell? a7=some v7) (h8:w0.cell? a8=some v8) (h9:w0.cell? a9=some v9) (h10:w0.cell? a10=some v10) (h11:w0.cell? a11=some v11) (hb:Below w0.heap.size w0 w):H12 w0 a0 a1 a2 a3 a4 a5 a6 a7 a8 a9 a10 a11 v0 v1 v2 v3 v4 v5 v6 v7 v8 v9 v10 v11 w:=⟨Zz00 hb h0,Zz00 hb h1,Zz00 hb h2,Zz00 hb h3,Zz00 hb h4,Zz00 hb h5,Zz00 hb h6,Zz00 hb h7,Zz00 hb h8,Zz00 hb h9,Zz00 hb h10,Zz00 hb h11,hb⟩
theorem H13.at_ {w0 w:World} {a0 a1 a2 a3 a4 a5 a6 a7 a8 a9 a10 a11 a12:Addr} {v0 v1 v2 v3 v4 v5 v6 v7 v8 v9 v10 v11 v12:Value} (h0:w0.cell? a0=some v0) (h1:w0.cell? a1=some v1) (h2:w0.cell? a2=some v2) (h3:w0.cell? a3=some v3) (h4:w0.cell? a4=some v4) (h5:w0.cell? a5=some v5) (h6:w0.cell? a6=some v6) (h7:w0.cell? a7=some v7) (h8:w0.cell? a8=some v8) (h9:w0.cell? a9=some v9) (h10:w0.cell? a10=some v10) (h11:w0.cell? a11=some v11) (h12:w0.cell? a12=some v12) (hb:Below w0.heap.size w0 w):H13 w0 a0 a1 a2 a3 a4 a5 a6 a7 a8 a9 a10 a11 a12 v0 v1 v2 v3 v4 v5 v6 v7 v8 v9 v10 v11 v12 w:=⟨Zz00 hb h0,Zz00 hb h1,Zz00 hb h2,Zz00 hb h3,Zz00 hb h4,Zz00 hb h5,Zz00 hb h6,Zz00 hb h7,Zz00 hb h8,Zz00 hb h9,Zz00 hb h10,Zz00 hb h11,Zz00 hb h12,hb⟩
theorem H14.at_ {w0 w:World} {a0 a1 a2 a3 a4 a5 a6 a7 a8 a9 a10 a11 a12 a13:Addr} {v0 v1 v2 v3 v4 v5 v6 v7 v8 v9 v10 v11 v12 v13:Value} (h0:w0.cell? a0=some v0) (h1:w0.cell? a1=some v1) (h2:w0.cell? a2=some v2) (h3:w0.cell? a3=some v3) (h4:w0.cell? a4=some v4) (h5:w0.cell? a5=some v5) (h6:w0.cell? a6=some v6) (h7:w0.cell? a7=some v7) (h8:w0.cell? a8=some v8) (h9:w0.cell? a9=some v9) (h10:w0.cell? a10=some v10) (h11:w0.cell? a11=some v11) (h12:w0.cell? a12=some v12) (h13:w0.cell? a13=some v13) (hb:Below w0.heap.size w0 w):H14 w0 a0 a1 a2 a3 a4 a5 a6 a7 a8 a9 a10 a11 a12 a13 v0 v1 v2 v3 v4 v5 v6 v7 v8 v9 v10 v11 v12 v13 w:=⟨Zz00 hb h0,Zz00 hb h1,Zz00 hb h2,Zz00 hb h3,Zz00 hb h4,Zz00 hb h5,Zz00 hb h6,Zz00 hb h7,Zz00 hb h8,Zz00 hb h9,Zz00 hb h10,Zz00 hb h11,Zz00 hb h12,Zz00 hb h13,hb⟩
section
variable {P:Program} {md:Region.Mode} {ops:Array Oper} {Q:Exit→Act→World→Prop} {S:World→Prop}
/-- what is left of a region, and the order in which it is walked -/
def Ord (P:Program) (md:Region.Mode) (ops:Array Oper) (Q:Exit→Act→World→Prop) (S:World→Prop) (_order:List Nat) (fuel:Nat) (listed:Array Bool) (a:Act) (w:World):Prop:=wpAnyH P md ops Q S fuel listed a w
theorem Ord.begin {id:Nat} {a:Act} {w:World} (order:List Nat) (hm:P.follows .mixedOrders=true) (hS:S w.drew)
  (h:S w.drew→Ord P .any ops Q S order ops.size (Array.replicate ops.size false) a w.drew):(Code.region id ops true).wp P Q a w:=wp_region_held_drew hm hS h
theorem Ord.no {i fuel:Nat} {order:List Nat} {listed:Array Bool} {a:Act} {w:World} {oi:Oper} (hi:ops.toList[i]? =some oi)
  (hs:Region.noSelect ops=true) (hf:Region.free md ops listed i=true) (hr:(Region.ready md ops listed).contains i=true)
  (hQ:∀ c a w,Q (.panic c) (a.put oi.dst undef) w→Q (.panic c) a w) (hw:Region.wanted oi (yielded ops a.tmps)=false) (hS:S w)
  (h:Ord P md ops Q S order fuel (listed.setIfInBounds i true) (a.put oi.dst undef) w):Ord P md ops Q S (i::order) (fuel+1) listed a w:=
 wpAnyH_take (by simpa using hi) hs hf hr hQ (Or.inr ⟨hw,rfl⟩) hS h
theorem Ord.yes {i fuel:Nat} {order:List Nat} {listed:Array Bool} {a:Act} {w:World} {oi:Oper} {v:Value} (hi:ops.toList[i]? =some oi)
  (hs:Region.noSelect ops=true) (hf:Region.free md ops listed i=true) (hr:(Region.ready md ops listed).contains i=true)
  (hQ:∀ c a w,Q (.panic c) (a.put oi.dst v) w→Q (.panic c) a w) (hw:Region.wanted oi (yielded ops a.tmps)=true) (hS:S w) (hy:∀ w,S w→(execOp a.eval oi).run P w= .ok (.value v) w)
  (h:Ord P md ops Q S order fuel (listed.setIfInBounds i true) (a.put oi.dst v) w):Ord P md ops Q S (i::order) (fuel+1) listed a w:=
 wpAnyH_take (by simpa using hi) hs hf hr hQ (Or.inl ⟨hw,hy⟩) hS h
theorem Ord.go {i fuel:Nat} {order:List Nat} {listed:Array Bool} {a:Act} {w:World} {oi:Oper} (hi:ops.toList[i]? =some oi) (hr:Region.ready md ops listed= [i]) (hw:Region.wanted oi (yielded ops a.tmps)=true)
  (h:∀ K':Act→World→Prop,Shut (∀ a w,S w→(S w→Ord P md ops Q S order fuel (listed.setIfInBounds i true) a w)→K' a w)→Oper.wp P oi a w K' Q):Ord P md ops Q S (i::order) (fuel+1) listed a w:=
 wpAnyH_ready hr (by simp) (AllReadyH.cons (by simpa using hi) (fun K' hK=>by rw [if_pos hw];exact h K' hK) AllReadyH.nil)
theorem Ord.done {fuel:Nat} {listed:Array Bool} {a:Act} {w:World} (hr:Region.ready md ops listed= []) (h:Q .normal a w):Ord P md ops Q S [] fuel listed a w:=wpAnyH_done hr h fuel
end
section
variable {P:Program} {md:Region.Mode} {ops:Array Oper} {Q:Exit→Act→World→Prop} {S:World→Prop} {i fuel:Nat} {order:List Nat} {listed:Array Bool} {a:Act} {w:World} {oi:Oper} {v:Value}
theorem Ord.nA (hS:S w) (h:Ord P md ops Q S order fuel (listed.setIfInBounds i true) (a.put oi.dst undef) w)
  (hi:ops.toList[i]? =some oi:=by rfl) (hs:Region.noSelect ops=true:=by kernel_rfl) (hf:Region.free md ops listed i=true:=by kernel_rfl) (hr:(Region.ready md ops listed).contains i=true:=by kernel_rfl)
  (hQ:∀ c a w,Q (.panic c) (a.put oi.dst undef) w→Q (.panic c) a w:=by exact fun _ _ _ h=>h) (hw:Region.wanted oi (yielded ops a.tmps)=false:=by kernel_rfl):Ord P md ops Q S (i::order) (fuel+1) listed a w:=Ord.no hi hs hf hr hQ hw hS h
theorem Ord.yA (hS:S w) (hy:∀ w,S w→(execOp a.eval oi).run P w= .ok (.value v) w) (h:Ord P md ops Q S order fuel (listed.setIfInBounds i true) (a.put oi.dst v) w)
  (hi:ops.toList[i]? =some oi:=by rfl) (hs:Region.noSelect ops=true:=by kernel_rfl) (hf:Region.free md ops listed i=true:=by kernel_rfl) (hr:(Region.ready md ops listed).contains i=true:=by kernel_rfl)
  (hQ:∀ c a w,Q (.panic c) (a.put oi.dst v) w→Q (.panic c) a w:=by exact fun _ _ _ h=>h) (hw:Region.wanted oi (yielded ops a.tmps)=true:=by kernel_rfl):Ord P md ops Q S (i::order) (fuel+1) listed a w:=Ord.yes hi hs hf hr hQ hw hS hy h
theorem Ord.yV (hS:S w) (h:Ord P md ops Q S order fuel (listed.setIfInBounds i true) (a.put oi.dst v) w)
  (hi:ops.toList[i]? =some oi:=by rfl) (hs:Region.noSelect ops=true:=by kernel_rfl) (hf:Region.free md ops listed i=true:=by kernel_rfl) (hr:(Region.ready md ops listed).contains i=true:=by kernel_rfl)
  (hw:Region.wanted oi (yielded ops a.tmps)=true:=by kernel_rfl) (hy:∀ w,S w→(execOp a.eval oi).run P w= .ok (.value v) w:=by (intro w hSw;(try dsimp only at hSw);go_simp;(try with_reducible rfl);done)) (hQ:∀ c a w,Q (.panic c) (a.put oi.dst v) w→Q (.panic c) a w:=by exact fun _ _ _ h=>h):Ord P md ops Q S (i::order) (fuel+1) listed a w:=Ord.yes hi hs hf hr hQ hw hS hy h
theorem Ord.gA (h:∀ K':Act→World→Prop,Shut (∀ a w,S w→(S w→Ord P md ops Q S order fuel (listed.setIfInBounds i true) a w)→K' a w)→Oper.wp P oi a w K' Q) (hi:ops.toList[i]? =some oi:=by rfl) (hr:Region.ready md ops listed= [i]:=by kernel_rfl) (hw:Region.wanted oi (yielded ops a.tmps)=true:=by kernel_rfl):Ord P md ops Q S (i::order) (fuel+1) listed a w:=Ord.go hi hr hw h
theorem bS (a:Act) (d:Tmp) (v:Value):a.put (some d) v={ a with tmps:=a.tmps.setIfInBounds d v}:=rfl
theorem bN (a:Act) (v:Value):a.put none v=a:=rfl
theorem bA {α:Type} (l:List α) (i:Nat) (x:α):l.toArray.setIfInBounds i x=(l.set i x).toArray:=List.setIfInBounds_toArray ..
theorem b0 {α:Type} (x:α) (l:List α) (y:α):(x::l).set 0 y=y::l:=rfl
theorem b1 {α:Type} (x:α) (l:List α) (i:Nat) (y:α):(x::l).set (i+1) y=x::l.set i y:=rfl
end
section
variable {P:Program} {md:Region.Mode} {ops:Array Oper} {Q:Exit→Act→World→Prop} {S0:World→Prop} {ps:List Nat}
/-- till a mark has come up S0 holds -/
def SM (ps:List Nat) (S0:World→Prop) (L:Array Bool) (w:World):Prop:=(∀ p∈ps,L.getD p true=false)→S0 w
/-- whoever has come up has those ahead of him behind him -/
def Closed (md:Region.Mode) (ops:Array Oper) (L:Array Bool):Prop:=∀ j oj,j < ops.size→ops[j]? =some oj→L.getD j true=true→∀ e∈oj.after,Region.binds md e=true→L.getD e.on false=true
/-- the operation leaves v, and the world as it is -/
def Pure (P:Program) (o:Oper) (v:Value) (a:Act) (w:World):Prop:=
 (execOp a.eval o).run P w= .ok (.value v) w∨∃ f args,(execOp a.eval o).run P w= .ok (.enter f args) w∧Calls P f args w fun e w'=>e= .returned v∧w=w'
def YG (P:Program) (md:Region.Mode) (ops:Array Oper) (ps:List Nat) (S0:World→Prop) (i:Nat) (o:Oper) (v:Value) (a:Act):Prop:=
 (Region.wanted o (yielded ops a.tmps)=true∧∀ L w,L.getD i true=false→Closed md ops L→SM ps S0 L w→Pure P o v a w)∨(Region.wanted o (yielded ops a.tmps)=false∧v=undef)
theorem YG.of_same {i:Nat} {o:Oper} {v:Value} {a a':Act} (hy:YG P md ops ps S0 i o v a) (he:execOp a'.eval o=execOp a.eval o)
  (hw:Region.wanted o (yielded ops a'.tmps)=Region.wanted o (yielded ops a.tmps)):YG P md ops ps S0 i o v a':=by
 unfold YG Pure at*;rw [he,hw];exact hy
theorem YG.wpOp {i:Nat} {o:Oper} {v:Value} {a:Act} (hi:ops[i]? =some o) (hy:YG P md ops ps S0 i o v a) {L:Array Bool} {w:World} (hu:L.getD i true=false) (hc:Closed md ops L) (hS:SM ps S0 L w)
  {K:Act→World→Prop} (h:K (a.put o.dst v) w):wpOp P ops Q i K a w:=by
 unfold Go.wpOp;simp only [hi];rcases hy with ⟨hw,hv⟩ | ⟨hw,rfl⟩
 ·rcases hv L w hu hc hS with h1 | ⟨f,args,h1,h2⟩
  ·simp only [hw,if_true,Oper.wp,h1,Oper.upon]
   exact .inl h
  ·simp only [hw,if_true,Oper.wp,h1,Oper.upon]
   refine .inl (Calls.mono h2 fun e w' he=> ?_);obtain ⟨rfl,rfl⟩:=he;exact h
 ·simp only [hw,Bool.false_eq_true,if_false]
  exact h
theorem Zzf5 {i j:Nat} {oi oj:Oper} {v:Value} (hj:ops[j]? =some oj) (hap:oi.apart ops oj=true)
  (hsi:∀ cs b,oi.op≠ .select cs b) (hsj:∀ cs b,oj.op≠ .select cs b)
  (hQ:∀ c a w,Q (.panic c) (a.put oi.dst v) w→Q (.panic c) a w) {K:Act→World→Prop} {a:Act} {w:World}
  (hy:YG P md ops ps S0 i oi v a) (h:wpOp P ops Q j K (a.put oi.dst v) w):
  wpOp P ops Q j (fun a' w'=>YG P md ops ps S0 i oi v a'∧K (a'.put oi.dst v) w') a w:=by
 obtain ⟨h1,h2,h3⟩:=Oper.apart_spec hap;have keep:∀ (a:Act),YG P md ops ps S0 i oi v a→∀ u,YG P md ops ps S0 i oi v (a.put oj.dst u):=fun a hy u=>
  hy.of_same (execOp_put oi hsi a oj.dst u h3) (wanted_put oi a oj.dst u h3)
 have keepD:∀ d,YG P md ops ps S0 i oi v { a with defers:=d::a.defers}:=fun d=>hy.of_same rfl rfl
 unfold wpOp at*;simp only [hj] at*;rw [wanted_put oj a oi.dst v h1] at h;split
 ·rename_i hw
  simp only [hw,if_true] at h;rcases h with h | ⟨hasks,hlets⟩
  case inr=>exact .inr ⟨by unfold Oper.asks at*;rw [execOp_put oj hsj a oi.dst v h1] at hasks;exact hasks,hlets⟩
  refine .inl ?_;unfold Oper.wp at*;rw [execOp_put oj hsj a oi.dst v h1] at h;generalize (execOp a.eval oj).run P w=r at*;cases r with
  | ok n w'=>
   cases n <;> simp only [Oper.upon] at h ⊢
   case value u=>exact ⟨keep a hy u,by rw [← Act.put_comm a v u h2];exact h⟩
   case skip=>exact ⟨keep a hy _,by rw [← Act.put_comm a v undef h2];exact h⟩
   case defer d=>
    refine ⟨keep _ (keepD d) _,?_⟩;rw [← Act.put_comm _ v undef h2,← Act.put_defers];exact h
   case enter f args=>
    refine Calls.mono h fun e w'' he=> ?_
    cases e with
    | returned u=>exact ⟨keep a hy u,by rw [← Act.put_comm a v u h2];exact he⟩
    | panicked c=>exact hQ _ _ _ he
    | outgrown=>exact he
   case row row args=>exact Rows.mono h fun u w'' he=>⟨keep a hy u,by rw [← Act.put_comm a v u h2];exact he⟩
  | halt x w'=>
   cases x <;> simp only [Oper.upon] at h ⊢
   case panic u=>exact hQ _ _ _ h
 ·rename_i hw
  simp only [hw] at h;exact ⟨keep a hy _,by rw [← Act.put_comm a v undef h2];exact h⟩
/-- whatever order is picked, and behind each operation SM holds -/
def wpG (P:Program) (md:Region.Mode) (ops:Array Oper) (Q:Exit→Act→World→Prop) (ps:List Nat) (S0:World→Prop):Nat→Array Bool→Act→World→Prop
 | 0,listed,a,w=>Region.ready md ops listed= []∧Q .normal a w
 | fuel+1,listed,a,w=>
  (Region.ready md ops listed= []→Q .normal a w)∧
  ∀ i∈Region.ready md ops listed,wpOp P ops Q i (fun a' w'=>SM ps S0 (listed.setIfInBounds i true) w'∧wpG P md ops Q ps S0 fuel (listed.setIfInBounds i true) a' w') a w
theorem Zz6w:∀ (fuel:Nat) (listed:Array Bool) (a:Act) (w:World),wpG P md ops Q ps S0 fuel listed a w→wpAny P md ops Q fuel listed a w
 | 0,_,_,_,h=>h
 | fuel+1,_,_,_,h=>⟨h.1,fun i hi=>wpOp_mono (fun a' w' h'=>Zz6w fuel _ a' w' h'.2) (h.2 i hi)⟩
theorem Closed.set {L:Array Bool} {i:Nat} (hc:Closed md ops L) (hi:i∈Region.ready md ops L):Closed md ops (L.setIfInBounds i true):=by
 intro j oj hjs hj hl e he hb;by_cases hij:i=j
 ·subst hij
  obtain ⟨_,o,ho,hall⟩:=mem_ready.1 hi;rw [hj] at ho;injection ho with ho;subst ho;exact getD_set_true (hall e he hb)
 ·rw [getD_set_ne true hij] at hl
  exact getD_set_true (hc j oj hjs hj hl e he hb)
theorem SM.set_other {i:Nat} {L:Array Bool} {w:World} (hi:i ∉ ps):SM ps S0 (L.setIfInBounds i true) w↔SM ps S0 L w:=by
 unfold SM;constructor
 ·intro h hp
  refine h fun p hm=> ?_
  rw [getD_set_ne true (by rintro rfl;exact hi hm)];exact hp p hm
 ·intro h hp
  refine h fun p hm=> ?_
  have:=hp p hm
  rwa [getD_set_ne true (by rintro rfl;exact hi hm)] at this
theorem Zz4y {i:Nat} {oi:Oper} {v:Value} (hi:ops[i]? =some oi) (hip:i ∉ ps) (hsel:∀ (j:Nat) (o:Oper) cs b,ops[j]? =some o→o.op≠ .select cs b)
  (hQ:∀ c a w,Q (.panic c) (a.put oi.dst v) w→Q (.panic c) a w):
  ∀ (fuel:Nat) (listed:Array Bool) (a:Act) (w:World),
   (∀ j oj,ops[j]? =some oj→j≠i→listed.getD j true=false→(∀ e∈oj.after,Region.binds md e=true→e.on≠i)→oi.apart ops oj=true)→
   i∈Region.ready md ops listed→Closed md ops listed→YG P md ops ps S0 i oi v a→SM ps S0 listed w→
   wpG P md ops Q ps S0 fuel (listed.setIfInBounds i true) (a.put oi.dst v) w→wpG P md ops Q ps S0 (fuel+1) listed a w:=by
 intro fuel;induction fuel with
 | zero=>
  intro listed a w _ hr hc hy hS H;refine ⟨fun h=>(by rw [h] at hr;cases hr),fun j hj=> ?_⟩;by_cases hji:j=i
  ·subst hji;exact hy.wpOp hi (mem_ready.1 hr).1 hc hS ⟨(SM.set_other hip).2 hS,H⟩
  ·have:=ready_mono hj hji
   rw [H.1] at this;cases this
 | succ fuel ih=>
  intro listed a w hfree hr hc hy hS H;refine ⟨fun h=>(by rw [h] at hr;cases hr),fun j hj=> ?_⟩;by_cases hji:j=i
  ·subst hji;exact hy.wpOp hi (mem_ready.1 hr).1 hc hS ⟨(SM.set_other hip).2 hS,H⟩
  ·have h1:=H.2 j (ready_mono hj hji)
   obtain ⟨hjun,oj,hoj,hall⟩:=mem_ready.1 hj;have hnot:∀ e∈oj.after,Region.binds md e=true→e.on≠i:=fun e he hb heq=>by
    have h1:=hall e he hb;have h0:=(mem_ready.1 hr).1;rw [heq] at h1;rcases Nat.lt_or_ge i listed.size with h' | h'
    ·simp [h'] at h0 h1;rw [h0] at h1;cases h1
    ·simp [Array.getElem?_eq_none h'] at h1
   have h2:=Zzf5 hoj (hfree j oj hoj hji hjun hnot) (fun cs b=>hsel i oi cs b hi) (fun cs b=>hsel j oj cs b hoj) hQ hy h1;have hfree':∀ k ok,ops[k]? =some ok→k≠i→(listed.setIfInBounds j true).getD k true=false→
     (∀ e∈ok.after,Region.binds md e=true→e.on≠i)→oi.apart ops ok=true:=fun k ok hk hki hun hno=>by
    refine hfree k ok hk hki ?_ hno;by_cases hjk:j=k
    ·subst hjk;exact hjun
    ·rw [getD_set_ne true hjk] at hun;exact hun
   refine wpOp_mono (fun a' w' h3=> ?_) h2;have hs:SM ps S0 (listed.setIfInBounds j true) w':=by
    have:=h3.2.1
    rw [Array.setIfInBounds_comm _ _ (Ne.symm hji)] at this;exact (SM.set_other hip).1 this
   refine ⟨hs,ih (listed.setIfInBounds j true) a' w' hfree' (ready_mono hr (Ne.symm hji)) (hc.set hj) h3.1 hs ?_⟩;rw [Array.setIfInBounds_comm _ _ hji];exact h3.2.2
/-- p comes up behind i, each p -/
def waits (md:Region.Mode) (ops:Array Oper) (ps:List Nat) (i:Nat):Bool:=ps.all fun p=>decide (p < ops.size) && decide (p≠i) && (match ops[p]? with | some o=>o.after.any (fun e=>Region.binds md e && e.on==i) | none=>false)
theorem Zzbm {L:Array Bool} {i:Nat} (h:waits md ops ps i=true) (hu:L.getD i true=false) (hc:Closed md ops L):∀ p∈ps,L.getD p true=false:=by
 intro p hp;unfold waits at h;rw [List.all_eq_true] at h;have h1:=h p hp;simp only [Bool.and_eq_true,decide_eq_true_eq] at h1;obtain ⟨⟨h0,_⟩,h2⟩:=h1;cases ho:ops[p]? with
 | none=>rw [ho] at h2;cases h2
 | some o=>
  rw [ho] at h2;dsimp only at h2;rw [Array.any_eq_true] at h2;obtain ⟨k,hk,h3⟩:=h2;simp only [Bool.and_eq_true,beq_iff_eq] at h3;cases hl:L.getD p true with
  | false=>rfl
  | true=>
   have h4:=hc p o h0 ho hl _ (Array.getElem_mem hk) h3.1;rw [h3.2] at h4;rcases Nat.lt_or_ge i L.size with h' | h'
   ·simp [h'] at hu h4;rw [hu] at h4;cases h4
   ·simp [Array.getElem?_eq_none h'] at h4
def closedB (md:Region.Mode) (ops:Array Oper) (L:Array Bool):Bool:=(List.range ops.size).all fun j=>match ops[j]? with | some o=> !(L.getD j true) || o.after.all (fun e=> !(Region.binds md e) || L.getD e.on false) | none=>true
theorem Zz34 {L:Array Bool} (h:closedB md ops L=true):Closed md ops L:=by
 intro j oj hjs hj hl e he hb;unfold closedB at h;rw [List.all_eq_true] at h;have h1:=h j (List.mem_range.2 hjs);rw [hj] at h1;simp only [hl,Bool.not_true,Bool.false_or] at h1;rw [Array.all_eq_true_iff_forall_mem] at h1;have:=h1 e he
 rw [hb] at this;simpa using this
def notIn (ps:List Nat) (i:Nat):Bool:=ps.all fun p=>decide (p≠i)
theorem Zz3x {i:Nat} (h:notIn ps i=true):i ∉ ps:=fun hm=>by
 unfold notIn at h;rw [List.all_eq_true] at h;have:=h i hm
 simp at this
/-- what is left of the region, and the order -/
def Org (P:Program) (md:Region.Mode) (ops:Array Oper) (Q:Exit→Act→World→Prop) (ps:List Nat) (S0:World→Prop) (_order:List Nat) (fuel:Nat) (listed:Array Bool) (a:Act) (w:World):Prop:=wpG P md ops Q ps S0 fuel listed a w
theorem Org.begin {id:Nat} {a:Act} {w:World} (ps:List Nat) (S0:World→Prop) (order:List Nat) (hm:P.follows .mixedOrders=true) (hS:S0 w.drew)
  (h:S0 w.drew→Org P .any ops Q ps S0 order ops.size (Array.replicate ops.size false) a w.drew):(Code.region id ops true).wp P Q a w:=
 wp_region_any hm (Zz6w _ _ _ _ (h hS))
section
variable {i fuel:Nat} {order:List Nat} {listed:Array Bool} {a:Act} {w:World} {oi:Oper} {v:Value}
theorem Org.no (hi:ops.toList[i]? =some oi) (hs:Region.noSelect ops=true) (hf:Region.free md ops listed i=true) (hr:(Region.ready md ops listed).contains i=true) (hc:closedB md ops listed=true) (hn:notIn ps i=true)
  (hQ:∀ c a w,Q (.panic c) (a.put oi.dst undef) w→Q (.panic c) a w) (hw:Region.wanted oi (yielded ops a.tmps)=false) (hS:SM ps S0 listed w)
  (h:Org P md ops Q ps S0 order fuel (listed.setIfInBounds i true) (a.put oi.dst undef) w):Org P md ops Q ps S0 (i::order) (fuel+1) listed a w:=
 Zz4y (by simpa using hi) (Zz3x hn) (Region.noSelect_spec hs) hQ fuel listed a w (Region.free_spec (by simpa using hi) hf) (by simpa using hr) (Zz34 hc) (Or.inr ⟨hw,rfl⟩) hS h
theorem Org.yes (hi:ops.toList[i]? =some oi) (hs:Region.noSelect ops=true) (hf:Region.free md ops listed i=true) (hr:(Region.ready md ops listed).contains i=true) (hc:closedB md ops listed=true) (hn:waits md ops ps i=true)
  (hQ:∀ c a w,Q (.panic c) (a.put oi.dst v) w→Q (.panic c) a w) (hw:Region.wanted oi (yielded ops a.tmps)=true) (hS:SM ps S0 listed w) (hy:∀ w,S0 w→Pure P oi v a w)
  (h:Org P md ops Q ps S0 order fuel (listed.setIfInBounds i true) (a.put oi.dst v) w):Org P md ops Q ps S0 (i::order) (fuel+1) listed a w:=by
 have hni:notIn ps i=true:=by
  unfold waits at hn;unfold notIn;rw [List.all_eq_true] at hn ⊢;intro p hp;have:=hn p hp
  simp only [Bool.and_eq_true] at this;exact this.1.2
 exact Zz4y (by simpa using hi) (Zz3x hni) (Region.noSelect_spec hs) hQ fuel listed a w (Region.free_spec (by simpa using hi) hf) (by simpa using hr) (Zz34 hc) (Or.inl ⟨hw,fun L w' hu hcl hSL=>hy w' (hSL (Zzbm hn hu hcl))⟩) hS h
theorem Org.free (hi:ops.toList[i]? =some oi) (hs:Region.noSelect ops=true) (hf:Region.free md ops listed i=true) (hr:(Region.ready md ops listed).contains i=true) (hc:closedB md ops listed=true) (hn:notIn ps i=true)
  (hQ:∀ c a w,Q (.panic c) (a.put oi.dst v) w→Q (.panic c) a w) (hw:Region.wanted oi (yielded ops a.tmps)=true) (hS:SM ps S0 listed w) (hy:∀ w,Pure P oi v a w)
  (h:Org P md ops Q ps S0 order fuel (listed.setIfInBounds i true) (a.put oi.dst v) w):Org P md ops Q ps S0 (i::order) (fuel+1) listed a w:=
 Zz4y (by simpa using hi) (Zz3x hn) (Region.noSelect_spec hs) hQ fuel listed a w (Region.free_spec (by simpa using hi) hf) (by simpa using hr) (Zz34 hc) (Or.inl ⟨hw,fun L w' _ _ _=>hy w'⟩) hS h
theorem Org.go (hi:ops.toList[i]? =some oi) (hr:Region.ready md ops listed= [i]) (hw:Region.wanted oi (yielded ops a.tmps)=true)
  (h:∀ K':Act→World→Prop,Shut (∀ a w,S0 w→(S0 w→Org P md ops Q ps S0 order fuel (listed.setIfInBounds i true) a w)→K' a w)→Oper.wp P oi a w K' Q):Org P md ops Q ps S0 (i::order) (fuel+1) listed a w:=by
 refine ⟨(fun h0=>by rw [hr] at h0;cases h0),fun j hj=> ?_⟩;rw [hr] at hj;have hji:j=i:=by simpa using hj
 subst hji;have hi':ops[j]? =some oi:=by simpa using hi
 unfold wpOp;simp only [hi',hw,if_true];exact .inl (h _ (fun a w h1 h2=>⟨fun _=>h1,h2 h1⟩))
theorem Org.mark {p:Nat} (hi:ops.toList[i]? =some oi) (hr:Region.ready md ops listed= [i]) (hw:Region.wanted oi (yielded ops a.tmps)=true) (hp:ps.contains p=true) (hl:(listed.setIfInBounds i true).getD p true=true)
  (h:∀ K':Act→World→Prop,Shut (∀ a w,Org P md ops Q ps S0 order fuel (listed.setIfInBounds i true) a w→K' a w)→Oper.wp P oi a w K' Q):Org P md ops Q ps S0 (i::order) (fuel+1) listed a w:=by
 refine ⟨(fun h0=>by rw [hr] at h0;cases h0),fun j hj=> ?_⟩;rw [hr] at hj;have hji:j=i:=by simpa using hj
 subst hji;have hi':ops[j]? =some oi:=by simpa using hi
 unfold wpOp;simp only [hi',hw,if_true];exact .inl (h _ (fun a w h1=>⟨(fun hall=>by rw [hall p (by simpa using hp)] at hl;cases hl),h1⟩))
theorem Org.two {j:Nat} {oj:Oper} (o1 o2:List Nat) (hi:ops.toList[i]? =some oi) (hj:ops.toList[j]? =some oj) (hr:Region.ready md ops listed= [i,j]) (hw:Region.wanted oi (yielded ops a.tmps)=true) (hw2:Region.wanted oj (yielded ops a.tmps)=true)
  (h:∀ K':Act→World→Prop,Shut (∀ a w,S0 w→(S0 w→Org P md ops Q ps S0 o1 fuel (listed.setIfInBounds i true) a w)→K' a w)→Oper.wp P oi a w K' Q)
  (h2:∀ K':Act→World→Prop,Shut (∀ a w,S0 w→(S0 w→Org P md ops Q ps S0 o2 fuel (listed.setIfInBounds j true) a w)→K' a w)→Oper.wp P oj a w K' Q):Org P md ops Q ps S0 [] (fuel+1) listed a w:=by
 refine ⟨(fun h0=>by rw [hr] at h0;cases h0),fun k hk=> ?_⟩;rw [hr] at hk;have hi':ops[i]? =some oi:=by simpa using hi
 have hj':ops[j]? =some oj:=by simpa using hj
 have hk':k=i∨k=j:=by simpa using hk
 rcases hk' with rfl | rfl
 ·unfold wpOp
  simp only [hi',hw,if_true];exact .inl (h _ (fun a w h1 h2=>⟨fun _=>h1,h2 h1⟩))
 ·unfold wpOp
  simp only [hj',hw2,if_true];exact .inl (h2 _ (fun a w h1 h2=>⟨fun _=>h1,h2 h1⟩))
theorem Org.done (hr:Region.ready md ops listed= []) (h:Q .normal a w):Org P md ops Q ps S0 [] fuel listed a w:=by
 cases fuel with
 | zero=>exact ⟨hr,h⟩
 | succ n=>exact ⟨fun _=>h,fun i hi=>by rw [hr] at hi;cases hi⟩
end
/-- behind a mark nothing is asked -/
theorem SM.past {L:Array Bool} {w:World} {p:Nat} (hp:ps.contains p=true) (h:L.getD p true=true):SM ps S0 L w:=fun hall=>by rw [hall p (by simpa using hp)] at h;cases h
theorem SM.of {L:Array Bool} {w:World} (h:S0 w):SM ps S0 L w:=fun _=>h
theorem Pure.val {o:Oper} {v:Value} {a:Act} {w:World} (h:(execOp a.eval o).run P w= .ok (.value v) w):Pure P o v a w:= .inl h
theorem Pure.call {o:Oper} {v:Value} {a:Act} {w:World} (f:FuncId) (args:Array Value) (h:(execOp a.eval o).run P w= .ok (.enter f args) w) (hc:Calls P f args w fun e w'=>e= .returned v∧w=w'):Pure P o v a w:= .inr ⟨f,args,h,hc⟩
end
section
variable {P:Program} {md:Region.Mode} {ops:Array Oper} {Q:Exit→Act→World→Prop} {ps:List Nat} {S0:World→Prop} {i fuel:Nat} {order:List Nat} {listed:Array Bool} {a:Act} {w:World} {oi:Oper} {v:Value}
theorem Org.nA (hS:SM ps S0 listed w) (h:Org P md ops Q ps S0 order fuel (listed.setIfInBounds i true) (a.put oi.dst undef) w)
  (hi:ops.toList[i]? =some oi:=by rfl) (hs:Region.noSelect ops=true:=by kernel_rfl) (hf:Region.free md ops listed i=true:=by kernel_rfl) (hr:(Region.ready md ops listed).contains i=true:=by kernel_rfl) (hc:closedB md ops listed=true:=by kernel_rfl) (hn:notIn ps i=true:=by kernel_rfl)
  (hQ:∀ c a w,Q (.panic c) (a.put oi.dst undef) w→Q (.panic c) a w:=by exact fun _ _ _ h=>h) (hw:Region.wanted oi (yielded ops a.tmps)=false:=by kernel_rfl):Org P md ops Q ps S0 (i::order) (fuel+1) listed a w:=Org.no hi hs hf hr hc hn hQ hw hS h
theorem Org.yA (hS:SM ps S0 listed w) (hy:∀ w,S0 w→Pure P oi v a w) (h:Org P md ops Q ps S0 order fuel (listed.setIfInBounds i true) (a.put oi.dst v) w)
  (hi:ops.toList[i]? =some oi:=by rfl) (hs:Region.noSelect ops=true:=by kernel_rfl) (hf:Region.free md ops listed i=true:=by kernel_rfl) (hr:(Region.ready md ops listed).contains i=true:=by kernel_rfl) (hc:closedB md ops listed=true:=by kernel_rfl) (hn:waits md ops ps i=true:=by kernel_rfl)
  (hQ:∀ c a w,Q (.panic c) (a.put oi.dst v) w→Q (.panic c) a w:=by exact fun _ _ _ h=>h) (hw:Region.wanted oi (yielded ops a.tmps)=true:=by kernel_rfl):Org P md ops Q ps S0 (i::order) (fuel+1) listed a w:=Org.yes hi hs hf hr hc hn hQ hw hS hy h
theorem Org.yV (hS:SM ps S0 listed w) (h:Org P md ops Q ps S0 order fuel (listed.setIfInBounds i true) (a.put oi.dst v) w)
  (hi:ops.toList[i]? =some oi:=by rfl) (hs:Region.noSelect ops=true:=by kernel_rfl) (hf:Region.free md ops listed i=true:=by kernel_rfl) (hr:(Region.ready md ops listed).contains i=true:=by kernel_rfl) (hc:closedB md ops listed=true:=by kernel_rfl) (hn:waits md ops ps i=true:=by kernel_rfl)
  (hw:Region.wanted oi (yielded ops a.tmps)=true:=by kernel_rfl) (hy:∀ w,S0 w→Pure P oi v a w:=by (intro w hSw;(try dsimp only at hSw);apply Pure.val;go_simp;(try with_reducible rfl);done)) (hQ:∀ c a w,Q (.panic c) (a.put oi.dst v) w→Q (.panic c) a w:=by exact fun _ _ _ h=>h):Org P md ops Q ps S0 (i::order) (fuel+1) listed a w:=Org.yes hi hs hf hr hc hn hQ hw hS hy h
theorem Org.fA (hS:SM ps S0 listed w) (hy:∀ w,Pure P oi v a w) (h:Org P md ops Q ps S0 order fuel (listed.setIfInBounds i true) (a.put oi.dst v) w)
  (hi:ops.toList[i]? =some oi:=by rfl) (hs:Region.noSelect ops=true:=by kernel_rfl) (hf:Region.free md ops listed i=true:=by kernel_rfl) (hr:(Region.ready md ops listed).contains i=true:=by kernel_rfl) (hc:closedB md ops listed=true:=by kernel_rfl) (hn:notIn ps i=true:=by kernel_rfl)
  (hQ:∀ c a w,Q (.panic c) (a.put oi.dst v) w→Q (.panic c) a w:=by exact fun _ _ _ h=>h) (hw:Region.wanted oi (yielded ops a.tmps)=true:=by kernel_rfl):Org P md ops Q ps S0 (i::order) (fuel+1) listed a w:=Org.free hi hs hf hr hc hn hQ hw hS hy h
theorem Org.gA (h:∀ K':Act→World→Prop,Shut (∀ a w,S0 w→(S0 w→Org P md ops Q ps S0 order fuel (listed.setIfInBounds i true) a w)→K' a w)→Oper.wp P oi a w K' Q) (hi:ops.toList[i]? =some oi:=by rfl) (hr:Region.ready md ops listed= [i]:=by kernel_rfl) (hw:Region.wanted oi (yielded ops a.tmps)=true:=by kernel_rfl):
  Org P md ops Q ps S0 (i::order) (fuel+1) listed a w:=Org.go hi hr hw h
end
theorem aS (a:Act) (d:Tmp) (v:Value):a.put (some d) v={ a with tmps:=a.tmps.setIfInBounds d v}:=rfl
theorem aN (a:Act) (v:Value):a.put none v=a:=rfl
theorem aA {α:Type} (l:List α) (i:Nat) (x:α):l.toArray.setIfInBounds i x=(l.set i x).toArray:=List.setIfInBounds_toArray ..
theorem a0 {α:Type} (x:α) (l:List α) (y:α):(x::l).set 0 y=y::l:=rfl
theorem a1 {α:Type} (x:α) (l:List α) (i:Nat) (y:α):(x::l).set (i+1) y=x::l.set i y:=rfl
end Wells
