import Derived.Test.YthpldolmpinnhaaGreatDoorJ23
import Derived.Maps.Own
namespace Go.Proofs.YthpldolmpinnhaaGreatDoor
open Go Go.RowKit
set_option maxRecDepth 10000
def Agree (lo hi:Nat) (A B:World):Prop:=A.heap.size<=B.heap.size/\∀ j,j<lo\/(hi<=j/\j<A.heap.size)->B.heap[j]? = A.heap[j]?
def PReadAt (w:World) (c:Value) (r:Bool) (Q:World->Value->Prop):Prop :=
 ∀ W,Below w.heap.size w W->Calls Tryz.prog 59 #[c] W fun e W'=>(∃ a n k,e = .returned (.tuple #[.slice a n k,.bool r])/\∀ W2,Agree w.heap.size W.heap.size W' W2->Q W2 (.slice a n k))/\Below W.heap.size W W'
set_option maxHeartbeats 1000000 in
theorem pread_nil (w:World):PReadAt w (.slice none 0 0) true (fun _ v=>v = .slice none 0 0):=by
 intro W hW;have hmm:=@run_makeMap Tryz.prog;go_enter Tryz.func59,Tryz.ntmps59
 go_wp2
 obtain ⟨w1,hrun,hown1,hgrow⟩:=(World.ownsMap_made (H:=Unit) W Tryz.prog 9 (plainElem Tryz.prog 3)).update (Maps.string_keyed Tryz.underlying9) Tryz.underlying185 (by unfold maxLen;omega) (WideMaps.keyOf_string_mk (s:=⟨#[111,116,104,101,114]⟩) Tryz.underlying9 (by decide)) (plainElem_int Tryz.underlying3 (q := .i64) (a:=1) (by decide));rw [hrun];simp only [Result.andThen];have hb:Below W.heap.size W w1:=((Below.refl _ _).alloc (Nat.le_refl _) _).grown hgrow (by simp) (fun j hj=>by cases hj;exact Nat.le_refl _);clear hrun hown1 hgrow;go_wp2
 go_loopw [2,13] (fun o i wr=>o = .slice none 0 0/\i = .int .i64 0/\wr=w1) (fun _ _ _=>0)
 case atStart=>exact ⟨rfl,rfl,rfl⟩
 case round =>
  obtain ⟨rfl,rfl,rfl⟩:=hrel;go_wp2
  go_ret2
  exact ⟨⟨_,_,_,rfl,fun _ _=>rfl⟩,hb⟩
end Go.Proofs.YthpldolmpinnhaaGreatDoor
