import Derived.Test.YthpldolmpinnhaaGreatDoorJ27
import Derived.Laws.IdiomRangeMap
namespace Go.Proofs.YthpldolmpinnhaaGreatDoor
open Go Go.RowKit
set_option maxRecDepth 10000
section
variable {P q g mb:Nat} {vC vI cv ov:Value} {rs:List (Value×Value)} {mi po gr:Int} {fi ne:Nat} {dg:List UInt8} {t:Wd} {w:World}
end
abbrev bareV:Value:=locv (.slice none 0 0) (.slice none 0 0) 45 46 0 (0:Nat) (0:Nat) ⟨#[]⟩
set_option maxHeartbeats 1000000 in
theorem kbare_any (w:World):Calls Tryz.prog 11 #[] w fun e w'=>e = .returned bareV/\Below w.heap.size w w':=by
 go_enter Tryz.func11,Tryz.ntmps11
 go_wp2
 refine bodyPost_ret (v:=bareV) ?_ rfl ⟨rfl,?_⟩
 ·simp [results,Tryz.results11,go_sem]
 ·(repeat (first | (with_reducible exact Below.refl _ _) | (with_reducible refine Below.alloc ?_ ?_ _;rotate_left;focus (first | (simp;done) | (simp;omega))) | (with_reducible refine Below.setCell ?_ ?_ _;rotate_left;focus (first | (simp;done) | (simp;omega)))))
theorem known_bare:knownL true true 45 46 0 ((0:Nat):Int) ((0:Nat):Int) []=true:=by simp [knownL,ptsL_nil,isPt]
abbrev zI (c:UInt8):Int:=((c.toNat:Nat):Int)
theorem asc_size {c:UInt8} {t:Wd} (h:c.toNat<=127):sizeL (c::t)=1:=by
 have e1:¬(240<=c.toNat/\c.toNat<248):=by omega
 have e2:¬(224<=c.toNat/\c.toNat<240):=by omega
 have e3:¬(192<=c.toNat/\c.toNat<224):=by omega
 have e4:¬(128<=c.toNat):=by omega
 have e5:isPt (c.toNat:Int)=true:=by unfold isPt;simp;omega
 simp only [sizeL,List.headD_cons,e1,e2,e3,e4,if_false];simp [sizeBy,ptVal,least,e5]
theorem asc_dec {c:UInt8} {t:Wd} (h:c.toNat<=127):(decN (c::t)).1=c.toNat:=by
 unfold decN Lib.decodeN;simp;rw [if_pos (by omega)]
theorem asc_runes:∀ l:Wd,(∀ c∈l,c.toNat<=127)->runesL l=l.map zI/\(ptsL l).2=l.length
 | [],_=>by simp [runesL_nil,ptsL_nil]
 | c::t,h=>by
  have hc:=h c (by simp);obtain ⟨h1,h2⟩:=asc_runes t (fun x hx=>h x (by simp [hx]));have hs:=asc_size (t:=t) hc;rw [runesL_step (by simp) (by rw [hs];decide),ptsL_step (by simp) (by rw [hs];decide),hs,asc_dec hc];simp [h1,h2];omega
theorem enc_asc128:∀ k:Fin 128,enc (k.val:Int)=[UInt8.ofNat k.val]:=by decide
theorem enc_z {c:UInt8} (h:c.toNat<=127):enc (zI c)=[c]:=by
 have:=enc_asc128 ⟨c.toNat,by omega⟩;simpa using this
theorem enc_zs:∀ l:Wd,(∀ c∈l,c.toNat<=127)->(l.map zI).flatMap enc=l
 | [],_=>rfl
 | c::t,h=>by
  rw [List.map_cons,List.flatMap_cons,enc_z (h c (by simp)),enc_zs t (fun x hx=>h x (by simp [hx]))];rfl
theorem z_ne {c d:UInt8} (h:c≠d):zI c≠zI d:=fun e=>h (UInt8.toNat.inj (by simp only [zI] at e;omega))
end Go.Proofs.YthpldolmpinnhaaGreatDoor
