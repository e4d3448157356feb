import Derived.Test.YthpldolmpinnhaaGreatDoorJG23
import Derived.Maps.Own
namespace Go.Proofs.YthpldolmpinnhaaGreatDoor
open Go Go.RowKit
set_option maxRecDepth 10000
def RR(lo hi:Nat)(A B:World):Prop:=A.heap.size<=B.heap.size/\∀ j,j<lo\/(hi<=j/\j<A.heap.size)->B.heap[j]? = A.heap[j]?
def jf(w:World)(c:Value)(r:Bool)(Q:World->Value->Prop):Prop :=
 ∀ W,Below w.heap.size w W->Calls Tryz.prog 59 #[c] W fun e W'=>(∃ a n k,e = .returned (.tuple #[.slice a n k,.bool r])/\∀ W2,RR w.heap.size W.heap.size W' W2->Q W2 (.slice a n k))/\Below W.heap.size W W'
end Go.Proofs.YthpldolmpinnhaaGreatDoor
