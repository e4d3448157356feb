import Derived.Test.YthpldolmpinnhaaGreatDoorJG29
import Derived.Laws.Externs
import Derived.Lib.BytesEntry
import Derived.Lib.BufferMore
set_option maxHeartbeats 64000000
open Nat renaming le_refl→z7
open Go.Lib renaming hid→z8
open Go.Proofs.Tryz
namespace Go.Proofs.YthpldolmpinnhaaGreatDoor
open Go Go.RowKit
set_option maxRecDepth 10000
theorem Oo{w:World}{b:Addr}{x:Int}{l:List Int}(h:xK w (some b) (x::l)):w.cell? b=some (.int .u8 x):=by
 obtain⟨c,hc,hx⟩:=h 0 (by simp)
 cases hc;simpa[Addr.add] using hx
theorem Ot{w:World}{b:Addr}{x:Int}{l:List Int}(h:xK w (some b) (x::l)):xK w (some (b.add 1)) l:=fun j hj=>by
 obtain⟨c,hc,hx⟩:=h (j+1) (by simp;omega)
 cases hc;refine⟨_,rfl,?_⟩;rw[add_add,Nat.add_comm 1 j];simpa using hx
theorem xK.below{w w':World}{a:Option Addr}{l:List Int}(h:xK w a l)(hb:Below w.heap.size w w'):xK w' a l:=fun j hj=>by
 obtain⟨b,h1,h2⟩:=h j hj;refine⟨b,h1,?_⟩;rw[hb.cell (World.block_lt_of_cell? w _ h2)];exact h2
theorem ZN(w:World)(a:Option Addr):xK w a []:=fun j hj=>absurd hj (Nat.not_lt_zero j)
def LP(a:Option Addr)(l:List Int)(w:World)(e:Ending)(w':World):Prop :=
 (∃ a' vw,e = .returned (.slice a' (l.dropWhile (· == 0)).length vw)/\xK w a' (l.dropWhile (· == 0))/\(l.dropWhile (· == 0)).length<=vw/\(∀ q,a'=some q->∃ p,a=some p/\q.block=p.block))/\w'=w
theorem Kl(l:List Int)(a:Option Addr)(cap:Nat)(w:World)(hl:l.length<=1000000)(Zm:l.length<=cap)(jT:cap<=9223372036854775807)(hB:xK w a l) :
  Calls prog 263 #[.slice a l.length cap,.int .u8 0] w (LP a l w):=by
 go_enter func263,ntmps263;go_wp2;go_loop [0] (fun v=>∃ (a':Option Addr) (vw:Nat) (r:List Int),v = .slice a' r.length vw/\r.length<=vw/\vw<=9223372036854775807/\r.length<=1000000/\xK w a' r/\r.dropWhile (· == 0)=l.dropWhile (· == 0)/\(∀ q,a'=some q->∃ p,a=some p/\q.block=p.block)) (fun v=>match v with | .slice _ n _=>n|_=>0)
 case atStart=>exact⟨a,cap,l,rfl,Zm,jT,hl,hB,rfl,fun q h=>⟨q,h,rfl⟩⟩
 case round =>
  obtain⟨a',vw,r,rfl,h1,h2,h3,hB',hd,hq⟩:=hrel;have HD:=z8 hd;have HB:=z8 hB';have HQ:=z8 hq;clear hd hB' hq
  cases r with
  | nil =>
   go_wp2;go_ret;refine⟨⟨none,0,?_,?_,?_,fun q h=>by cases h⟩,rfl⟩
   .rw[<-HD.out];rfl
   .rw[<-HD.out];exact ZN _ _
   .rw[<-HD.out];exact z7 _
  | cons x t =>
   have hx:=HB.out 0 (by simp);obtain⟨b,rfl,JO⟩:=hx;have dM:=Oo HB.out;have hlen:(x::t).length=t.length+1:=rfl;clear JO;by_cases h0:x=0
   .subst h0;by_cases qK:vw=1
    .have ht:t=[]:=by
      apply List.eq_nil_of_length_eq_zero;rw[hlen] at h1;omega
     subst ht;subst qK;go_wp2;refine⟨⟨some b,0,[],rfl,z7 _,by decide,by decide,ZN _ _,?_,HQ.out⟩,?_⟩
     .rw[<-HD.out];rfl
     .show 0<[0].length;simp
    .have e1:((0:Int)<=(t.length+1:Nat) - 1):=by omega
     have vy:¬(vw:Int)=1:=by omega
     rw[hlen] at h1 h3 |-
     go_wp2;refine⟨⟨some (b.add 1),vw - 1,t,rfl,by omega,by omega,by omega,Ot HB.out,?_,fun q h=>?_⟩,?_⟩
     .rw[<-HD.out];rfl
     .cases h;exact HQ.out b rfl
     .show t.length<t.length+1;omega
   .have JO:(x==0)=false:=by simpa using h0
    rw[hlen] at h1 h3 |-
    have Hy:l.dropWhile (· == 0)=x::t:=by rw[<-HD.out,List.dropWhile_cons_of_neg (by simpa using h0)]
    have HD1:=z8 Hy;clear Hy h0;go_wp2;go_ret;refine⟨⟨some b,vw,?_,?_,?_,HQ.out⟩,rfl⟩
    .rw[HD1.out];rfl
    .rw[HD1.out];exact HB.out
    .rw[HD1.out];simpa using h1
theorem EK(l:List Int)(a:Option Addr)(cap:Nat)(w:World)(hl:l.length<=1000000)(Zm:l.length<=cap)(jT:cap<=9223372036854775807)(hB:xK w a l) :
  Calls prog 245 #[.slice a l.length cap,.string ⟨#[0]⟩] w (LP a l w):=by
 have HB:=z8 hB;clear hB;by_cases h0:l=[]
 .subst h0;go_enter func245,ntmps245;go_wp2;go_ret;exact⟨⟨none,0,rfl,ZN _ _,z7 _,fun q h=>by cases h⟩,rfl⟩
 .obtain⟨n,hn⟩:∃ n,l.length=n+1:=⟨l.length - 1,by have:=List.length_pos_iff.2 h0;omega⟩;have h1:((l.length:Int)==0)=false:=by simp;omega
  have hT:=Kl l a cap w hl Zm jT HB.out;have HT:=z8 hT;clear hT h0 hn;go_enter func245,ntmps245;go_wp2_with fail;refine HT.out.mono ?_;rintro e w1 ⟨⟨a',vw,rfl,h2,h3,h4⟩,rfl⟩;have H2:=z8 h2;have H4:=z8 h4;clear h2 h4;go_wp2;go_ret;exact⟨⟨_,_,rfl,H2.out,h3,H4.out⟩,rfl⟩
theorem UF(l:List UInt8):vz l=(xl l).map (Value.int .u8):=by simp[vz,xl]
theorem Te(l:List UInt8)(a:Addr)(cap:Nat)(w:World)(hl:l.length<=1000000)(hB:xK w (some a) (xl l)) :
  Calls prog 246 #[.slice (some a) l.length cap] w fun e w'=>(∃ v,e = .returned v/\w'.ownsRow w.heap.size 5 1 v l.length (vz l))/\Below w.heap.size w w':=by
 have HB:=z8 hB;clear hB;have Gr:∀ W,(binOp .eql 48 (.slice (some a) l.length cap) (.slice none 0 0)).run prog W = .ok (.bool false) W:=fun W=>Lib.run_eql_slice_some_nil W _ _ _ underlying48
 go_enter func246,ntmps246;go_wp2_with (at_builtin;refine qX vx rfl _ _ rfl w.heap.size _ 0 [] rfl ?c0 a l.length cap (vz l) rfl ?c1 ?c2 ?c3 ?c4 ?c5 ?_)
 case c0=>exact World.ownsRow_lit w _ 0 (z7 _) (by decide) rfl
 case c1=>simp[vz]
 case c2 =>
  intro j u hu;have hj:j<(xl l).length:=by
   have:=(List.getElem?_eq_some_iff.1 hu).1;simpa[vz,xl] using this
  obtain⟨b,hb,hc⟩:=HB.out j hj
  cases hb;rw[World.cell?_alloc_some _ _ _ (by rw[hc];rfl),hc];rw[UF,List.getElem?_map,List.getElem?_eq_getElem hj] at hu;simpa using hu
 case c3 =>
  intro u hu;simp only[vz,List.mem_map] at hu;obtain⟨c,_,rfl⟩:=hu;rfl
 case c4=>omega
 case c5=>simp
 intro v' w1 xV uA;have hb:Below w.heap.size w w1:=((Below.refl _ _).alloc (z7 _) _).grown uA (by simp) (fun q hq=>by cases hq;exact z7 _);clear uA;go_wp2;go_ret;exact⟨⟨_,rfl,by simpa using xV⟩,hb⟩
end Go.Proofs.YthpldolmpinnhaaGreatDoor
