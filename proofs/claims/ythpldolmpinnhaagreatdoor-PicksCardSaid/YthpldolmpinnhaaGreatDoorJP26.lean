import Derived.Test.YthpldolmpinnhaaGreatDoorJP25
import Derived.Laws.IdiomRangeMap
open UInt8.toNat renaming inj→z7
namespace Go.Proofs.YthpldolmpinnhaaGreatDoor
open Go Go.RowKit
set_option maxRecDepth 10000
section
variable {P q g mb:Nat} {vC vI cv ov:Value} {rs:List (Value×Value)} {mi po gr:Int} {fi ne:Nat} {dg:List UInt8} {t:Wd} {w:World}
end
theorem Ic(c d:UInt8):((c.toNat:Int)==(d.toNat:Int))=(c==d):=by
 by_cases h:c=d
 ·subst h;simp
 ·have h2:c.toNat≠d.toNat:=fun e=>h (z7 e)
  have e1:(c==d)=false:=by simpa using h
  rw[e1];simp;omega
abbrev zI(c:UInt8):Int:=((c.toNat:Nat):Int)
theorem cN{c:UInt8}{t:Wd}(h:c.toNat<=127):xr (c::t)=1:=by
 have e1:¬(240<=c.toNat/\c.toNat<248):=by omega
 have e2:¬(224<=c.toNat/\c.toNat<240):=by omega
 have e3:¬(192<=c.toNat/\c.toNat<224):=by omega
 have e4:¬(128<=c.toNat):=by omega
 have e5:jd (c.toNat:Int)=true:=by unfold jd;simp;omega
 simp only[xr,List.headD_cons,e1,e2,e3,e4,if_false];simp[qu,PQ,least,e5]
theorem pX{c:UInt8}{t:Wd}(h:c.toNat<=127):(dL (c::t)).1=c.toNat:=by
 unfold dL Lib.decodeN;simp;rw[if_pos (by omega)]
theorem Vu:∀ l:Wd,(∀ c∈l,c.toNat<=127)->xO l=l.map zI/\(vo l).2=l.length
 | [],_=>by simp[kC,qT]
 | c::t,h=>by
  have hc:=h c (by simp);obtain⟨h1,h2⟩:=Vu t (fun x hx=>h x (by simp[hx]));have hs:=cN (t:=t) hc;rw[jb (by simp) (by rw[hs];decide),jF (by simp) (by rw[hs];decide),hs,pX hc];simp[h1,h2];omega
theorem O3:∀ k:Fin 128,enc (k.val:Int)=[UInt8.ofNat k.val]:=by decide
theorem zn3{c:UInt8}(h:c.toNat<=127):enc (zI c)=[c]:=by
 have:=O3 ⟨c.toNat,by omega⟩;simpa using this
theorem cO:∀ l:Wd,(∀ c∈l,c.toNat<=127)->(l.map zI).flatMap enc=l
 | [],_=>rfl
 | c::t,h=>by
  rw[List.map_cons,List.flatMap_cons,zn3 (h c (by simp)),cO t (fun x hx=>h x (by simp[hx]))];rfl
theorem ydg{c d:UInt8}(h:c≠d):zI c≠zI d:=fun e=>h (z7 (by simp only[zI] at e;omega))
end Go.Proofs.YthpldolmpinnhaaGreatDoor
