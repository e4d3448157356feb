import Derived.Test.YthpldolmpinnhaaGreatDoorJP23
import Derived.StillTailTactics
import Derived.Deep.RegionWith
namespace Go.Proofs.YthpldolmpinnhaaGreatDoor
open Go Go.RowKit
set_option maxRecDepth 10000
def Ca(Gr:List (List UInt8))(g:List UInt8)(nx:Nat)(w:List UInt8)(n:Nat):List UInt8 :=
 if h:0<n/\n<w.length then Ca Gr g nx (w.take (w.length - n)) nx++g++YW Gr (w.drop (w.length - n)) else YW Gr w
 termination_by w.length
 decreasing_by simp;omega
theorem Se{Gr:List (List UInt8)}{g:List UInt8}{nx:Nat}{w:List UInt8}{n:Nat}(h:0<n/\n<w.length) :
  Ca Gr g nx w n=Ca Gr g nx (w.take (w.length - n)) nx++g++YW Gr (w.drop (w.length - n)):=by rw[Ca,dif_pos h]
theorem Gs{Gr:List (List UInt8)}{g:List UInt8}{nx:Nat}{w:List UInt8}{n:Nat}(h:¬(0<n/\n<w.length)) :
  Ca Gr g nx w n=YW Gr w:=by rw[Ca,dif_neg h]
def XN(below:Bool)(whole zmv:List UInt8)(Gr:List (List UInt8))(mi po gr:Int)(fi ne:Nat):List UInt8 :=
 (if below then enc mi else [])++Ca Gr (enc gr) (if ne=0 then fi else ne) whole (if gr=0 then 0 else fi) ++
  (if zmv=[] then [] else enc po++YW Gr zmv)
structure Gt(w:World)(b:Nat)(c o:Value)(mi po gr fi ne:Int)(dg:ByteArray):Prop where
 c0:w.cell? ⟨b,0,none⟩=some c
 c1:w.cell? ⟨b,1,none⟩=some o
 c2:w.cell? ⟨b,2,none⟩=some (.int .i32 mi)
 c3:w.cell? ⟨b,3,none⟩=some (.int .i32 po)
 c4:w.cell? ⟨b,4,none⟩=some (.int .i32 gr)
 c5:w.cell? ⟨b,5,none⟩=some (.int .u8 fi)
 c6:w.cell? ⟨b,6,none⟩=some (.int .u8 ne)
 c7:w.cell? ⟨b,7,none⟩=some (.string dg)
theorem Gt.below{w w':World}{B b:Nat}{c o:Value}{mi po gr fi ne:Int}{dg:ByteArray}(h:Gt w b c o mi po gr fi ne dg)(hb:Below B w w')(xC:b<B):Gt w' b c o mi po gr fi ne dg :=
 ⟨(hb.cell (p:=⟨b,0,none⟩) xC).trans h.c0,(hb.cell (p:=⟨b,1,none⟩) xC).trans h.c1,(hb.cell (p:=⟨b,2,none⟩) xC).trans h.c2,(hb.cell (p:=⟨b,3,none⟩) xC).trans h.c3,
  (hb.cell (p:=⟨b,4,none⟩) xC).trans h.c4,(hb.cell (p:=⟨b,5,none⟩) xC).trans h.c5,(hb.cell (p:=⟨b,6,none⟩) xC).trans h.c6,(hb.cell (p:=⟨b,7,none⟩) xC).trans h.c7⟩
theorem Gt.drew{w:World}{b:Nat}{c o:Value}{mi po gr fi ne:Int}{dg:ByteArray}(h:Gt w b c o mi po gr fi ne dg):Gt w.drew b c o mi po gr fi ne dg :=
 ⟨h.c0,h.c1,h.c2,h.c3,h.c4,h.c5,h.c6,h.c7⟩
theorem toList_eq(s:ByteArray):s.toList=s.data.toList:=by
 exact Go.ByteArray.toList_eq s
def vA(ra rb:Bool)(mi po gr fi ne:Int)(dg:List UInt8):Bool :=
 ra && (rb && (jd mi && (jd po && (jd gr && (!(mi==0) && (!(po==0) && (decide (((vo dg).2:Int)=(dg.length:Int)) && ((decide (¬0<dg.length) || !(((vo dg).1.length:Int) !=10)) && (decide (fi<=9) && decide (ne<=9))))))))))
end Go.Proofs.YthpldolmpinnhaaGreatDoor
