import Derived.Test.YthpldolmpinnhaaGreatDoorJ25
import Derived.Lib.SmallJoins
namespace Go.Proofs.YthpldolmpinnhaaGreatDoor
open Go Go.RowKit
abbrev locv (c o:Value) (mi po gr fi ne:Int) (dg:ByteArray):Value :=
 .agg #[c,o,.int .i32 mi,.int .i32 po,.int .i32 gr,.int .u8 fi,.int .u8 ne,.string dg]
def shownL (pts:List (List UInt8)) (ds:List UInt8):List UInt8 :=
 if pts=[] then ds else ds.flatMap (fun c=>pts.getD (c.toNat - 48) [])
theorem shownL_snoc {pts:List (List UInt8)} (h:pts≠[]) (ds:List UInt8) (c:UInt8):shownL pts (ds++[c])=shownL pts ds++pts.getD (c.toNat - 48) []:=by
 simp [shownL,h]
theorem ptsL_mem (l:List UInt8):∀ p∈(ptsL l).1,p.length<=4:=by
 induction hn:l.length using Nat.strongRecOn generalizing l with
 | _ n ih =>
  intro p hp;by_cases h:l=[]\/sizeL l=0
  ·rw [ptsL,dif_pos h] at hp;simp at hp
  ·simp only [not_or] at h;rw [ptsL_step h.1 h.2] at hp;have hl:=List.length_pos_iff.2 h.1;rcases List.mem_cons.1 hp with rfl | hp
   ·have:=sizeL_le l;simp;omega
   ·exact ih (l.drop (sizeL l)).length (by simp;omega) _ rfl p hp
theorem shownL_length (pts:List (List UInt8)) (h:∀ p∈pts,p.length<=4) (ds:List UInt8):(shownL pts ds).length<=4*ds.length:=by
 unfold shownL;split
 ·omega
 ·induction ds with
  | nil=>simp
  | cons c ds ih =>
   have hc:(pts.getD (c.toNat - 48) []).length<=4:=by
    by_cases hlt:c.toNat - 48<pts.length
    ·rw [List.getD_eq_getElem?_getD,List.getElem?_eq_getElem hlt];exact h _ (List.getElem_mem _)
    ·rw [List.getD_eq_getElem?_getD,List.getElem?_eq_none (by omega)];simp
   rw [List.flatMap_cons,List.length_append,List.length_cons];have:=ih;omega
theorem all_dig_getElem {s:ByteArray} (h:s.data.toList.all isDig=true) (k:Nat) (hk:k<s.size):isDig s[k]=true:=by
 rw [←getElem_toList s k hk];exact List.all_eq_true.1 h _ (List.getElem_mem _)
def ShownPost (pts:List (List UInt8)) (ds:List UInt8) (w:World) (e:Ending) (w':World):Prop :=
 e = .returned (strv (shownL pts ds))/\Below w.heap.size w w'
end Go.Proofs.YthpldolmpinnhaaGreatDoor
