import Derived.Test.YthpldolmpinnhaaGreatDoorJG25
import Derived.StillTailTactics
import Derived.Deep.RegionWith
namespace Go.Proofs.YthpldolmpinnhaaGreatDoor
open Go Go.RowKit
set_option maxRecDepth 10000
structure RS(w:World)(b:Nat)(c o:Value)(mi po gr fi ne:Int)(dg:ByteArray):Prop where
 c0:w.cell? ⟨b,0,none⟩=some c
 c1:w.cell? ⟨b,1,none⟩=some o
 c2:w.cell? ⟨b,2,none⟩=some (.int .i32 mi)
 c3:w.cell? ⟨b,3,none⟩=some (.int .i32 po)
 c4:w.cell? ⟨b,4,none⟩=some (.int .i32 gr)
 c5:w.cell? ⟨b,5,none⟩=some (.int .u8 fi)
 c6:w.cell? ⟨b,6,none⟩=some (.int .u8 ne)
 c7:w.cell? ⟨b,7,none⟩=some (.string dg)
theorem RS.below{w w':World}{B b:Nat}{c o:Value}{mi po gr fi ne:Int}{dg:ByteArray}(h:RS w b c o mi po gr fi ne dg)(hb:Below B w w')(xB:b<B):RS w' b c o mi po gr fi ne dg :=
 ⟨(hb.cell (p:=⟨b,0,none⟩) xB).trans h.c0,(hb.cell (p:=⟨b,1,none⟩) xB).trans h.c1,(hb.cell (p:=⟨b,2,none⟩) xB).trans h.c2,(hb.cell (p:=⟨b,3,none⟩) xB).trans h.c3,
  (hb.cell (p:=⟨b,4,none⟩) xB).trans h.c4,(hb.cell (p:=⟨b,5,none⟩) xB).trans h.c5,(hb.cell (p:=⟨b,6,none⟩) xB).trans h.c6,(hb.cell (p:=⟨b,7,none⟩) xB).trans h.c7⟩
theorem toList_eq(s:ByteArray):s.toList=s.data.toList:=by
 exact Go.ByteArray.toList_eq s
def vS(ra rb:Bool)(mi po gr fi ne:Int)(dg:List UInt8):Bool :=
 ra && (rb && (fX mi && (fX po && (fX gr && (!(mi==0) && (!(po==0) && (decide (((uI dg).2:Int)=(dg.length:Int)) && ((decide (¬0<dg.length) || !(((uI dg).1.length:Int) !=10)) && (decide (fi<=9) && decide (ne<=9))))))))))
end Go.Proofs.YthpldolmpinnhaaGreatDoor
