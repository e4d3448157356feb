import Derived.Test.YthpldolmpinnhaaGreatDoorJ26
import Derived.StillTailTactics
import Derived.Deep.RegionWith
namespace Go.Proofs.YthpldolmpinnhaaGreatDoor
open Go Go.RowKit
set_option maxRecDepth 10000
def grpL (pts:List (List UInt8)) (g:List UInt8) (nx:Nat) (w:List UInt8) (n:Nat):List UInt8 :=
 if h:0<n/\n<w.length then grpL pts g nx (w.take (w.length - n)) nx++g++shownL pts (w.drop (w.length - n)) else shownL pts w
 termination_by w.length
 decreasing_by simp;omega
theorem grpL_step {pts:List (List UInt8)} {g:List UInt8} {nx:Nat} {w:List UInt8} {n:Nat} (h:0<n/\n<w.length) :
  grpL pts g nx w n=grpL pts g nx (w.take (w.length - n)) nx++g++shownL pts (w.drop (w.length - n)):=by rw [grpL,dif_pos h]
theorem grpL_end {pts:List (List UInt8)} {g:List UInt8} {nx:Nat} {w:List UInt8} {n:Nat} (h:¬(0<n/\n<w.length)) :
  grpL pts g nx w n=shownL pts w:=by rw [grpL,dif_neg h]
def writtenL (below:Bool) (whole frac:List UInt8) (pts:List (List UInt8)) (mi po gr:Int) (fi ne:Nat):List UInt8 :=
 (if below then enc mi else [])++grpL pts (enc gr) (if ne=0 then fi else ne) whole (if gr=0 then 0 else fi) ++
  (if frac=[] then [] else enc po++shownL pts frac)
def WrittenPost (t:List UInt8) (w:World) (e:Ending) (w':World):Prop :=
 e = .returned (strv t)/\Below w.heap.size w w'
structure LocAt (w:World) (b:Nat) (c o:Value) (mi po gr fi ne:Int) (dg:ByteArray):Prop where
 c0:w.cell? ⟨b,0,none⟩=some c
 c1:w.cell? ⟨b,1,none⟩=some o
 c2:w.cell? ⟨b,2,none⟩=some (.int .i32 mi)
 c3:w.cell? ⟨b,3,none⟩=some (.int .i32 po)
 c4:w.cell? ⟨b,4,none⟩=some (.int .i32 gr)
 c5:w.cell? ⟨b,5,none⟩=some (.int .u8 fi)
 c6:w.cell? ⟨b,6,none⟩=some (.int .u8 ne)
 c7:w.cell? ⟨b,7,none⟩=some (.string dg)
theorem LocAt.below {w w':World} {B b:Nat} {c o:Value} {mi po gr fi ne:Int} {dg:ByteArray} (h:LocAt w b c o mi po gr fi ne dg) (hb:Below B w w') (hlt:b<B):LocAt w' b c o mi po gr fi ne dg :=
 ⟨(hb.cell (p:=⟨b,0,none⟩) hlt).trans h.c0,(hb.cell (p:=⟨b,1,none⟩) hlt).trans h.c1,(hb.cell (p:=⟨b,2,none⟩) hlt).trans h.c2,(hb.cell (p:=⟨b,3,none⟩) hlt).trans h.c3,
 (hb.cell (p:=⟨b,4,none⟩) hlt).trans h.c4,(hb.cell (p:=⟨b,5,none⟩) hlt).trans h.c5,(hb.cell (p:=⟨b,6,none⟩) hlt).trans h.c6,(hb.cell (p:=⟨b,7,none⟩) hlt).trans h.c7⟩
theorem LocAt.drew {w:World} {b:Nat} {c o:Value} {mi po gr fi ne:Int} {dg:ByteArray} (h:LocAt w b c o mi po gr fi ne dg):LocAt w.drew b c o mi po gr fi ne dg :=
 ⟨h.c0,h.c1,h.c2,h.c3,h.c4,h.c5,h.c6,h.c7⟩
def szOf:Value->Nat | .string v=>v.size | _=>0
def WrRel (s:ByteArray) (pts:List (List UInt8)) (gr:Int) (fi nx:Nat) (B:Nat) (w0:World) (t u n:Value) (wr:World):Prop :=
 ∃ (tt:List UInt8) (v:ByteArray) (k:Nat),t=strv tt/\u = .string v/\n = .int .i64 k/\v.size<=s.size/\v.data.toList.all isDig=true/\k<=255/\tt.length+8*v.size<=8*s.size /\
  (0<k->0<fi)/\grpL pts (enc gr) nx s.data.toList (if gr=0 then 0 else fi)=grpL pts (enc gr) nx v.data.toList (if gr=0 then 0 else k)++tt/\Below B w0 wr
theorem toList_eq (s:ByteArray):s.toList=s.data.toList:=by
 exact Go.ByteArray.toList_eq s
theorem empty_of {s:ByteArray} (h:(!s.toList.isEmpty)=false):s.data.toList=[]:=by
 rw [toList_eq] at h
 cases hs:s.data.toList with
 | nil=>rfl
 | cons a l=>rw [hs] at h;simp at h
theorem nonempty_of {s:ByteArray} (h:(!s.toList.isEmpty)=true):s.data.toList≠[]:=by
 rw [toList_eq] at h;intro h0;rw [h0] at h;simp at h
theorem enc_app (r:Int) (a b:List UInt8):Utf8.encode r++ByteArray.mk a.toArray++ByteArray.mk b.toArray=ByteArray.mk (enc r++a++b).toArray:=by
 rw [←append_mk,←append_mk];rfl
theorem wrRel_step {s:ByteArray} {pts:List (List UInt8)} {gr:Int} {fi ne nx B:Nat} {w0 w1:World} {tt:List UInt8} {v:ByteArray} {k:Nat} (hp:∀ p∈pts,p.length<=4)
  (hv:v.size<=s.size) (hvd:v.data.toList.all isDig=true) (htt:tt.length+8*v.size<=8*s.size) (hnx:nx=if ne=0 then fi else ne) (hne:ne<=255) (hfi:fi<=255)
  (g1:0<k) (g2:gr≠0) (g3:k<v.size) (hk0:0<k->0<fi)
  (hG:grpL pts (enc gr) nx s.data.toList (if gr=0 then 0 else fi)=grpL pts (enc gr) nx v.data.toList (if gr=0 then 0 else k)++tt) (hb:Below B w0 w1) :
  WrRel s pts gr fi nx B w0 (strv (enc gr++shownL pts (v.data.toList.drop (v.size - k))++tt)) (.string (v.extract 0 (v.size - k))) (.int .i64 (nx:Int)) w1:=by
 have e1:(v.extract 0 (v.size - k)).data.toList=v.data.toList.take (v.size - k):=by rw [extract_take]
 have e2:(v.extract 0 (v.size - k)).size=v.size - k:=by rw [←size_toList,e1];simp
 have hl:=shownL_length pts hp (v.data.toList.drop (v.size - k));have hl2:(v.data.toList.drop (v.size - k)).length=k:=by simp;omega
 have hg:=(enc_length gr).1;refine ⟨_,_,nx,rfl,rfl,rfl,by omega,?_,?_,?_,?_,?_,hb⟩
 ·rw [e1];exact List.all_eq_true.2 fun x hx=>List.all_eq_true.1 hvd x (List.mem_of_mem_take hx)
 ·rw [hnx];split<;>omega
 ·simp only [List.length_append];omega
 ·intro _;exact hk0 g1
 ·rw [hG,if_neg g2,if_neg g2,e1,grpL_step (w:=v.data.toList) ⟨g1,by simpa using g3⟩,size_toList];simp
def knownL (ra rb:Bool) (mi po gr fi ne:Int) (dg:List UInt8):Bool :=
 ra && (rb && (isPt mi && (isPt po && (isPt gr && (!(mi==0) && (!(po==0) && (decide (((ptsL dg).2:Int)=(dg.length:Int)) && ((decide (¬0<dg.length) || !(((ptsL dg).1.length:Int) !=10)) && (decide (fi<=9) && decide (ne<=9))))))))))
end Go.Proofs.YthpldolmpinnhaaGreatDoor
