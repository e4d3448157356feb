import Derived.Test.YthpldolmpinnhaaGreatDoorJP28
import Derived.Test.YthpldolmpinnhaaGreatDoorShelfR
import Derived.Shelf.SlicesE.Reverse
set_option maxHeartbeats 64000000
open Nat renaming le_refl→z7,mul_le_mul_right→zg,zero_add→ze,pow_succ→zi,add_mul→zn,add_sub_cancel→zh
open Go.Lib renaming hid→z8
open Go.World renaming frozen?_of_block→zy,block_lt_of_cell?→zY,cell?_of_block→zQ,cell?_alloc_lt→zJ,cell?_setCell_other→zS
open Bool renaming and_eq_true→zx,eq_iff_iff→zV
open Go.RowKit.Below renaming refl→zv,heap_alloc→zH
open Go.Value renaming int→zu,ownBlock→zR,slice→zc
open List renaming dropWhile_sublist→zk,all_cons→zj,dropWhile_cons_of_pos→zf,dropWhile_cons_of_neg→zZ,all_eq_true→zX,length_append→zD,take_succ_eq_append_getElem→zE,length_cons→zM,foldl_cons→zN,append_nil→zO,all_append→zP,replicate→zW,drop_of_length_le→za,length_replicate→zl,getElem?_eq_none→zm,replicate_succ→zo,length_pos_iff→zr,mem_reverse→zw,cons_append→yz
open Array renaming getElem?_modify→zU
open UInt8 renaming toNat_ofNat'→zG
open UInt8.toNat renaming inj→zF
open Go.Op renaming bytesLess→zL
open Go.Sort renaming ahead→zt
open Go.Proofs.Tryz
namespace Go.Proofs.YthpldolmpinnhaaGreatDoor
open Go Go.RowKit Go.Shelf Go.Sort
set_option maxRecDepth 10000
theorem Ty{w:World}{base g cap:Nat}{e:TypeId}{zs:List Int}(h:w.ownsRow base e 1 (.slice (some ⟨g,0,none⟩) zs.length cap) zs.length (zs.map (zu .u8))):Holds (zu .u8) w g 0 zs.toArray:=by
 intro j hj;have hj':j<zs.length:=by simpa using hj
 refine⟨?_,?_⟩
 ·rw[ze,h.cellAt j (by omega)];simp[hj',getElem!_pos]
 ·exact h.frozenAt _
theorem O7{w:World}{base g n cap:Nat}{e:TypeId}{xs:List Value}{zs:List Int}(h:w.ownsRow base e 1 (.slice (some ⟨g,0,none⟩) n cap) n xs)(hz:zs.length=n) :
  (putRow (zu .u8) w g 0 zs.toArray).ownsRow base e 1 (.slice (some ⟨g,0,none⟩) n cap) n (zs.map (zu .u8)):=by
 refine⟨by simp[hz],?_⟩;rcases h.2 with⟨hv,_⟩|⟨g2,uO,cur,hv,hg,hh,h1,h2,h3,ht⟩
 ·cases hv
 ·simp only[Value.slice.injEq,Option.some.injEq,Addr.mk.injEq] at hv;obtain⟨⟨rfl,-⟩,-,rfl⟩:=hv;refine .inr ⟨g,cap,putCells (zu .u8) 0 zs.toArray cur,rfl,hg,?_,h1,h2,by simpa[putCells] using h3,?_⟩
  ·simp[putRow,mapBlock,zU,hh,onCells]
  ·apply List.ext_getElem?;intro j;by_cases hj:j<n
   ·have hjc:j<cur.size:=by omega
    simp[putCells,List.getElem?_take,hj,hjc,hz]
   ·rw[zm (by simp;omega),zm (by simp;omega)]
theorem Cm{B:Nat}{a w:World}(h:Below B a w){g:Nat}(hg:B<=g)(d:Array Int):Below B a (putRow (zu .u8) w g 0 d):=by
 refine h.trans ⟨rfl,rfl,rfl,by simp[putRow,mapBlock],fun k hk=>?_⟩;simp only[putRow,mapBlock,zU];rw[if_neg (by omega)]
theorem Im(g cap base:Nat)(zs:List Int)(w:World)(hz:zs.length<=2000000000)(h:w.ownsRow base 5 1 (.slice (some ⟨g,0,none⟩) zs.length cap) zs.length (zs.map (zu .u8))) :
  Calls prog 208 #[.slice (some ⟨g,0,none⟩) zs.length cap] w fun e w'=>e = .returned (.tuple #[])/\w'.ownsRow base 5 1 (.slice (some ⟨g,0,none⟩) zs.length cap) zs.length (zs.reverse.map (zu .u8)) /\
   w'.heap.size=w.heap.size/\(∀ k,k≠g->w'.heap[k]? = w.heap[k]?)/\Below base w w':=by
 have hg:base<=g:=(h.lt g rfl).1;refine(AnyE.slices_Reverse Tryz.laysRev (zu .u8) (fun _=>rfl) g 0 cap zs w (Ty h) (by omega)).mono ?_;rintro e w' ⟨rfl,n,rfl⟩;have ha:(zt w n).ownsRow base 5 1 (.slice (some ⟨g,0,none⟩) zs.length cap) zs.length (zs.map (zu .u8)):=h;refine⟨rfl,O7 ha (by simp),by simp[putRow,mapBlock,zt],fun k hk=>?_,Cm (show Below base w (zt w n) from⟨rfl,rfl,rfl,z7 _,fun _ _=>rfl⟩) hg _⟩;simp only[putRow,mapBlock,zU];rw[if_neg (by omega)];rfl
theorem BV(l:List UInt8):vy l=(xW l).map (Value.int .u8):=by simp[vy,xW]
theorem Yz{d:Nat}(h:d<10):((qk d).toNat:Int) - 48=d:=by
 unfold qk;rw[zG];omega
def Tx(v:Nat)(w:World)(e:Ending)(w':World):Prop :=
 (∃ g cap,e = .returned (.agg #[.bool false,.slice (some ⟨g,0,none⟩) (xK v).length cap,.int .i64 0])/\w'.ownsRow w.heap.size 5 1 (.slice (some ⟨g,0,none⟩) (xK v).length cap) (xK v).length (vy (xK v)))/\Below w.heap.size w w'
theorem Yy(v:Nat)(w:World)(hv:v<=1000000000):Calls prog 166 #[.int .i64 v] w (Tx v w):=by
 have hL:=ZU v;obtain⟨i,hi,hz,h2,h3⟩:=vx.info;go_enter func166,ntmps166;go_wp2;refine Jm ?_;intro W hW;have F:W.heap.size=w.heap.size+1/\Below w.heap.size w W/\W.cell? ⟨w.heap.size,0,none⟩=some (.bool false)/\W.cell? ⟨w.heap.size,1,none⟩=some (.slice none 0 0)/\W.cell? ⟨w.heap.size,2,none⟩=some (.int .i64 0)/\W.frozen? ⟨w.heap.size,1,none⟩=false/\W.frozen? ⟨w.heap.size,0,none⟩=false/\W.frozen? ⟨w.heap.size,2,none⟩=false:=by
  subst hW;exact⟨by simp,(zv _ _).alloc (z7 _) _,by go_simp,by go_simp,by go_simp,by go_simp,by go_simp,by go_simp⟩
 obtain⟨f1,f2,f3,f4,f5,f6,f7,f8⟩:=F;clear hW;go_loopw [0,3] (fun n ok wr=>∃ (m:Nat) (acc:List UInt8) (sv:Value) (b:Bool),n = .int .i64 m/\ok = .bool b/\m<=v/\wr.ownsRow (w.heap.size+1) 5 1 sv acc.length (vy acc)/\Below w.heap.size w wr/\w.heap.size<wr.heap.size /\
   wr.cell? ⟨w.heap.size,0,none⟩=some (.bool false)/\wr.cell? ⟨w.heap.size,1,none⟩=some sv/\wr.cell? ⟨w.heap.size,2,none⟩=some (.int .i64 0)/\wr.frozen? ⟨w.heap.size,1,none⟩=false/\wr.frozen? ⟨w.heap.size,0,none⟩=false/\wr.frozen? ⟨w.heap.size,2,none⟩=false /\
   (b=true->xK v=xK m++acc.reverse)/\(b=false->xK v=acc.reverse)) (fun n ok _=>(intOf n).toNat+match ok with | .bool true=>1|_=>0)
 case atStart=>exact⟨v,[],.slice none 0 0,true,rfl,rfl,z7 _,World.ownsRow_nil _ _ _ _,f2,by omega,f3,f4,f5,f6,f7,f8,fun _=>by simp,fun h=>by cases h⟩
 case round =>
  obtain⟨m,acc,sv,b,rfl,rfl,hm,xJ,hb,hs,g0,g1,g2,g3,g4,g5,ht,hf⟩:=hrel;clear f2 f3 f4 f5 f6 f7 f8
  cases b with
  | false =>
   have hd:=hf rfl;clear ht hf;have pD:acc.length=(xK v).length:=by rw[hd];simp
   have hlen:0<acc.length:=by
    rw[pD];by_cases dV:v<10
    ·rw[uk dV];simp
    ·rw[jg dV];simp
   obtain⟨g,cap,rfl,WH,Zp,hgc⟩:=vQ xJ hlen;have hR:=Im g cap (w.heap.size+1) (xW acc) wr (by simp[xW];omega) (by rw[←BV];simpa[xW] using xJ);have DX:(xW acc).length=acc.length:=by simp[xW]
   have hrd:(xW acc).reverse.map (zu .u8)=vy (xK v):=by rw[hd,BV];simp[xW,List.map_reverse]
   rw[DX,hrd,pD] at hR;rw[pD] at g1;have HR:=z8 hR;clear hR hrd hd pD DX hgc xJ;go_wp2_with fail;refine HR.out.mono ?_;rintro e w1 ⟨rfl,VH,qs,O8,xH⟩;have xw:w.heap.size≠g:=by omega
   have e0:w1.cell? ⟨w.heap.size,0,none⟩=some (.bool false):=(zQ (O8 _ xw)).trans g0;have e1:w1.cell? ⟨w.heap.size,1,none⟩=some (.slice (some ⟨g,0,none⟩) (xK v).length cap):=(zQ (O8 _ xw)).trans g1;have e2:w1.cell? ⟨w.heap.size,2,none⟩=some (.int .i64 0):=(zQ (O8 _ xw)).trans g2;have Zj:Below w.heap.size w w1:=hb.trans (xH.mono (by omega));have z1:w1.frozen? ⟨w.heap.size,1,none⟩=false:=(zy (O8 _ xw)).trans g3;have z0:w1.frozen? ⟨w.heap.size,0,none⟩=false:=(zy (O8 _ xw)).trans g4;have z2:w1.frozen? ⟨w.heap.size,2,none⟩=false:=(zy (O8 _ xw)).trans g5;clear O8 g0 g1 g2 g3 g4 g5;go_wp2;refine bodyPost_ret (v := .agg #[.bool false,.slice (some ⟨g,0,none⟩) (xK v).length cap,.int .i64 0]) ?_ rfl ?_
   ·simp[results,results166,go_sem,e0,e1,e2]
   have hn:some w.heap.size≠(zc (some ⟨g,0,none⟩) (xK v).length cap).ownBlock:=fun e=>xw (by simpa[zR] using e)
   exact⟨⟨g,cap,rfl,xh (xh (xh (gW VH (Nat.le_succ _)) hn _) hn _) hn _⟩,((Zj.setCell (z7 _) _).setCell (z7 _) _).setCell (z7 _) _⟩
  | true =>
   have hd:=ht rfl;have HD:=z8 hd;clear ht hf hd;go_wp2_with (at_builtin;refine qG vx rfl _ _ rfl (w.heap.size+1) sv acc.length (vy acc) rfl (xJ.alloc _) ⟨wr.heap.size,0,none⟩ 1 1 [.int .u8 ((m:Int) % 10)] rfl rfl ?c1 ?c2 ?c3 ?c4 ?_)
   case c1=>exact cells_one (xq _ _ _ _ _)
   case c2=>intro u hu;simp at hu;subst hu;rfl
   case c3 =>
    have:=congrArg List.length HD.out;simp at this;omega
   case c4=>simp;omega
   intro Qg w1 VH um;have xH:Below w.heap.size w w1:=(hb.alloc hb.size _).grown um (by have:=hb.size;simp;omega) (fun q hq=>by have:=(xJ.lt q hq).1;omega);have xw:some w.heap.size≠sv.ownBlock:=fun e=>by have:=(xJ.lt _ e.symm).1;omega
   have k0:w1.cell? ⟨w.heap.size,0,none⟩=some (.bool false):=um.cell ((zJ _ _ _ hs).trans g0) xw;have k1:w1.cell? ⟨w.heap.size,1,none⟩=some sv:=um.cell ((zJ _ _ _ hs).trans g1) xw;have k2:w1.cell? ⟨w.heap.size,2,none⟩=some (.int .i64 0):=um.cell ((zJ _ _ _ hs).trans g2) xw;have k3:w1.frozen? ⟨w.heap.size,1,none⟩=false:=(zy (um.block w.heap.size (by simp;omega) xw)).trans ((zy (zH _ _ _ hs)).trans g3);have k4:w1.frozen? ⟨w.heap.size,0,none⟩=false:=(zy (um.block w.heap.size (by simp;omega) xw)).trans ((zy (zH _ _ _ hs)).trans g4);have k5:w1.frozen? ⟨w.heap.size,2,none⟩=false:=(zy (um.block w.heap.size (by simp;omega) xw)).trans ((zy (zH _ _ _ hs)).trans g5);have uT:w.heap.size<w1.heap.size:=zY w1 _ k0;have hq:((m:Int).tdiv 10)=((m / 10:Nat):Int):=by rw[Int.tdiv_eq_ediv_of_nonneg (by omega)];rfl
   obtain⟨a1,c1,rfl⟩:=xY VH;clear um xJ g0 g1 g2 g3 g4 g5 hb hs;go_wp2;have KR:(w1.setCell ⟨w.heap.size,1,none⟩ (.slice a1 (acc.length+1) c1)).ownsRow (w.heap.size+1) 5 1 (.slice a1 (acc.length+1) c1) (acc.length+1) (vy acc++[.int .u8 ((m:Int) % 10)]) :=
    xh VH (fun e=>by have:=(VH.lt _ e.symm).1;simp at this;omega) _
   have Pz:vy (acc++[qk (m % 10)])=vy acc++[.int .u8 ((m:Int) % 10)]:=by
    have dV:=Yz (d:=m % 10) (by omega);simp only[vy,List.map_append,List.map_cons,List.map_nil,dV];rfl
   refine⟨⟨m / 10,acc++[qk (m % 10)],.slice a1 (acc.length+1) c1,decide (0<m / 10),by go_num,?_,by omega,?_,xH.setCell (z7 _) _,by simpa[World.setCell] using uT,?_,?_,?_,?_,?_,?_,?_,?_⟩,?_⟩
   ·congr 1;exact decide_eq_decide.2 (by omega)
   ·rw[Pz];simpa using KR
   ·go_simp
   ·go_simp
   ·go_simp
   ·go_simp
   ·go_simp
   ·go_simp
   ·intro h;have dV:0<m / 10:=of_decide_eq_true h;rw[HD.out,jg (by omega)];simp
   ·intro h;have dV:¬0<m / 10:=of_decide_eq_false h;have:m % 10=m:=by omega
    rw[HD.out,uk (by omega),this];simp
   ·by_cases dV:0<m / 10
    ·have:decide (0<(m:Int) / 10)=true:=decide_eq_true (by omega);rw[this];simp[intOf];omega
    ·have:decide (0<(m:Int) / 10)=false:=decide_eq_false (by omega);rw[this];simp[intOf];omega
end Go.Proofs.YthpldolmpinnhaaGreatDoor
namespace Go.Proofs.YthpldolmpinnhaaGreatDoor
open Go Go.RowKit
set_option maxRecDepth 10000
structure Io(x:Dg):Prop where
 ej:x.1.all xQ=true
 Tv:x.2.all xQ=true
 ne:x.1≠[]
 F9:x.1.length<=100
 JY:x.2.length<=100
def uh(w:World)(v:Value)(x:Dg):Prop :=
 ∃ b g o cap,v = .agg #[.bool b,.slice (some ⟨g,o,none⟩) (x.1.length+x.2.length) cap,.int .i64 x.2.length]/\x.1.length+x.2.length<=cap/\cap<=maxLen/\(∃ c,w.cell? ⟨g,0,none⟩=some (.int .u8 c))/\xF w (some ⟨g,o,none⟩) (xW (x.1++x.2))/\Io x
theorem uh.below{w w':World}{v:Value}{x:Dg}(h:uh w v x)(hb:Below w.heap.size w w'):uh w' v x:=by
 obtain⟨b,g,o,cap,h1,h2,h3,h4,h5,h6⟩:=h;exact⟨b,g,o,cap,h1,h2,h3,h4.imp fun _ hc=>(hb.cell (zY w _ hc)).trans hc,h5.below hb,h6⟩
theorem uh.ok{w:World}{v:Value}{x:Dg}(h:uh w v x):Io x:=by
 obtain⟨b,g,o,cap,h1,h2,h3,h4,h5,h6⟩:=h;exact h6
theorem Kr(a b:List UInt8):xW (a++b)=xW a++xW b:=by simp[xW]
theorem vV(a:List UInt8):(xW a).length=a.length:=by simp[xW]
theorem Tu(l:List UInt8):(xW l).dropWhile (· == 0)=xW (l.dropWhile (· == 48)):=by
 induction l with
 | nil=>rfl
 | cons c t ih =>
  have h2:=bU c 48;have h3:((48:UInt8).toNat:Int)=48:=rfl;rw[h3] at h2;have h4:(((c.toNat:Int) - 48)==0)=(c==48):=by
   rw[zV,beq_iff_eq,beq_iff_eq];rw[zV,beq_iff_eq,decide_eq_true_eq] at h2;rw[←h2];omega
  rw[show xW (c::t)=((c.toNat:Int) - 48)::xW t from rfl];by_cases hc:(c==48)=true
  ·rw[zf (p:=fun x:Int=>x==0) (h4.trans hc),zf (p:=fun x:UInt8=>x==48) hc,ih]
  ·rw[zZ (p:=fun x:Int=>x==0) (by rw[h4];exact hc),zZ (p:=fun x:UInt8=>x==48) hc];rfl
theorem Uj(l:List UInt8):jL l=if l.dropWhile (· == 48)=[] then [48] else l.dropWhile (· == 48):=by
 unfold jL;by_cases h:l=[]
 ·subst h;rfl
 ·rw[if_neg h];induction l with
  | nil=>exact absurd rfl h
  | cons c t ih =>
   by_cases hc:c=48
   ·subst hc;rw[zf (by decide)];by_cases ht:t=[]
    ·subst ht;rfl
    ·rw[NJ ht rfl,ih ht]
   ·rw[NG hc,zZ (by simpa using hc),if_neg (by simp)]
theorem Tq{l:List UInt8}(h:l.all xQ=true):(jL l).all xQ=true:=by
 rw[Uj];split
 ·decide
 ·rw[zX] at h ⊢;exact fun c hc=>h c ((zk _).subset hc)
theorem Tk(l:List UInt8):(jL l).length<=l.length\/(jL l).length=1:=by
 rw[Uj];split
 ·exact .inr rfl
 ·exact .inl (zk (· == 48) (l:=l)).length_le
theorem dG(n:Nat):(xK n).all xQ=true:=by
 induction n using Nat.strongRecOn with
 | _ n ih =>
  have hd:∀ d,d<10->xQ (qk d)=true:=by
   intro d h;rw[vM];have:=Yz h;omega
  by_cases h:n<10
  ·rw[uk h];simp[hd n h]
  ·rw[jg h,zP,ih (n / 10) (by omega)];simp[hd (n % 10) (by omega)]
theorem jl(n:Nat):xK n≠[]:=by
 by_cases h:n<10
 ·rw[uk h];simp
 ·rw[jg h];simp
theorem uV:∀ (k n:Nat),n<10 ^ (k+1)->(xK n).length<=k+1
 | 0,n,h=>by rw[uk (by simpa using h)];simp
 | k+1,n,h=>by
  by_cases dV:n<10
  ·rw[uk dV];simp
  ·rw[jg dV];have:=uV k (n / 10) (by rw[zi] at h;omega);simp;omega
def kZ(x:Dg)(w:World)(e:Ending)(w':World):Prop:=(∃ v,e = .returned v/\uh w' v x)/\Below w.heap.size w w'
theorem Qf{w w':World}{g cap n:Nat}{b:Bool}{d:List UInt8}{x:Dg}(hx:x.1++x.2=d)(hn:n=d.length)(ho:w'.ownsRow w.heap.size 5 1 (.slice (some ⟨g,0,none⟩) n cap) n (vy d))(ki:Io x) :
  uh w' (.agg #[.bool b,.slice (some ⟨g,0,none⟩) n cap,.int .i64 x.2.length]) x:=by
 subst hn;have hl:x.1.length+x.2.length=d.length:=by rw[←hx];simp
 have hB:=qA ho rfl;rw[←hx] at hB;have xC:∃ c,w'.cell? ⟨g,0,none⟩=some (.int .u8 c):=by
  obtain⟨q,hq,hc⟩:=hB 0 (by rw[vV,zD];have:=zr.2 ki.ne;omega)
  cases hq;exact⟨_,hc⟩
 refine⟨b,g,0,cap,by rw[hl],?_,?_,xC,hB,ki⟩;all_goals
  rcases ho.2 with⟨hv,_⟩|⟨g2,uO,cur,hv,_,_,h1,h2,_⟩
  ·cases hv
  ·cases hv;omega
theorem BU(v:Nat)(w:World)(hv:v<=1000000000):Calls prog 166 #[.int .i64 v] w (kZ (xK v,[]) w):=by
 refine(Yy v w hv).mono ?_;rintro e w' ⟨⟨g,cap,rfl,ho⟩,hb⟩;have:=uV 9 v (by omega);exact⟨⟨_,rfl,Qf (x:=(xK v,[])) (zO _) rfl ho ⟨dG v,rfl,jl v,by show(xK v).length<=100;omega,by simp⟩⟩,hb⟩
theorem Fz(l:List UInt8)(a:Option Addr)(cap:Nat)(w:World)(hd:l.all xQ=true)(hl:l.length<=100)(ZA:l.length<=cap)(jJ:cap<=maxLen)(hB:xF w a (xW l)) :
  Calls prog 214 #[.slice a l.length cap] w (kZ (jL l,[]) w):=by
 have DX:=vV l;have hT:=Cl (xW l) a cap;rw[DX] at hT;have HT:=z8 hT;have HB:=z8 hB;obtain⟨r,hr⟩:∃ r,l.dropWhile (· == 48)=r:=⟨_,rfl⟩;have hrv:(xW l).dropWhile (· == 0)=xW r:=by rw[Tu,hr]
 have Ng:jL l=if r=[] then [48] else r:=by rw[Uj,hr]
 have R1:=Tq hd;have hpn:=Tk l;have HPL:=z8 Ng;have HRV:=z8 hrv;have eg:=z8 R1;clear hT hB DX hr hrv Ng R1;go_enter func214,ntmps214;go_wp2_with fail;refine(HT.out _ (by omega) ZA (by unfold maxLen at jJ;omega) ?_).mono ?_
 ·exact HB.out.alloc _
 rintro e w1 ⟨⟨a',uy,rfl,h2,h3,h4⟩,rfl⟩;rw[HRV.out,vV] at *;obtain⟨W,hW⟩:∃ W,W=w.alloc (.cells #[.bool false,.slice none 0 0,.int .i64 0] 97):=⟨_,rfl⟩;have F:W.heap.size=w.heap.size+1/\Below w.heap.size w W/\W.cell? ⟨w.heap.size,0,none⟩=some (.bool false)/\W.cell? ⟨w.heap.size,1,none⟩=some (.slice none 0 0)/\W.cell? ⟨w.heap.size,2,none⟩=some (.int .i64 0) /\
   W.frozen? ⟨w.heap.size,0,none⟩=false/\W.frozen? ⟨w.heap.size,1,none⟩=false/\W.frozen? ⟨w.heap.size,2,none⟩=false:=by
  subst hW;exact⟨by simp,(zv _ _).alloc (z7 _) _,by go_simp,by go_simp,by go_simp,by go_simp,by go_simp,by go_simp⟩
 obtain⟨f1,f2,f3,f4,f5,f6,f7,f8⟩:=F;rw[←hW] at h2 ⊢;clear hW;have xC:w.heap.size<W.heap.size:=by omega
 by_cases vZ:r=[]
 ·have hp:=HPL.out;rw[if_pos vZ] at hp;have HP:=z8 hp;clear hp;subst vZ;go_wp2_with fail;refine(Yy 0 _ (by omega)).mono ?_;rintro e w2 ⟨⟨g,uO,rfl,ho⟩,xB⟩;have c0:=(xB.cell (p:=⟨w.heap.size,0,none⟩) xC).trans f3;have c1:=(xB.cell (p:=⟨w.heap.size,1,none⟩) xC).trans f4;have c2:=(xB.cell (p:=⟨w.heap.size,2,none⟩) xC).trans f5;have z0:=(xB.frozen (p:=⟨w.heap.size,0,none⟩) xC).trans f6;have z1:=(xB.frozen (p:=⟨w.heap.size,1,none⟩) xC).trans f7;have z2:=(xB.frozen (p:=⟨w.heap.size,2,none⟩) xC).trans f8;have hg:=(ho.lt g rfl).1;have Zj:Below w.heap.size w w2:=f2.trans (xB.mono (by omega));clear f3 f4 f5 f6 f7 f8 xB f2;go_wp2;refine bodyPost_ret (v := .agg #[.bool false,.slice (some ⟨g,0,none⟩) (xK 0).length uO,.int .i64 0]) ?_ rfl ?_
  ·simp[results,results214,go_sem,c0,c1,c2]
  have hn:some w.heap.size≠(zc (some ⟨g,0,none⟩) (xK 0).length uO).ownBlock:=fun e=>by simp[zR] at e;omega
  rw[HP.out];exact⟨⟨_,rfl,Qf (w:=w) (x:=([48],[])) (d:=xK 0) (by rw[uk (by decide)];rfl) rfl (xh (xh (xh (gW ho (by omega)) hn _) hn _) hn _) ⟨by decide,rfl,by simp,by simp,by simp⟩⟩,((Zj.setCell (z7 _) _).setCell (z7 _) _).setCell (z7 _) _⟩
 ·have hp:=HPL.out;rw[if_neg vZ] at hp;have HP:=z8 hp;clear hp;have js:0<r.length:=zr.2 vZ;obtain⟨b,rfl,_⟩:=h2 0 (by rw[vV];exact js);have xw:((r.length:Int)==0)=false:=by simp;omega
  have Jg:r.length<=100:=by rw[←HP.out];omega
  have H2:=z8 h2;have gJ:=z8 vZ;clear h2 vZ;go_wp2_with fail;refine(Tz r b uy _ (by omega) H2.out).mono ?_;rintro e w2 ⟨⟨v,rfl,ho⟩,xB⟩;obtain⟨g,uO,rfl,hg,dy,_⟩:=vQ ho js;have c0:=(xB.cell (p:=⟨w.heap.size,0,none⟩) xC).trans f3;have c1:=(xB.cell (p:=⟨w.heap.size,1,none⟩) xC).trans f4;have c2:=(xB.cell (p:=⟨w.heap.size,2,none⟩) xC).trans f5;have z0:=(xB.frozen (p:=⟨w.heap.size,0,none⟩) xC).trans f6;have z1:=(xB.frozen (p:=⟨w.heap.size,1,none⟩) xC).trans f7;have z2:=(xB.frozen (p:=⟨w.heap.size,2,none⟩) xC).trans f8;have Zj:Below w.heap.size w w2:=f2.trans (xB.mono (by omega));clear f3 f4 f5 f6 f7 f8 xB f2;go_wp2;refine bodyPost_ret (v := .agg #[.bool false,.slice (some ⟨g,0,none⟩) r.length uO,.int .i64 0]) ?_ rfl ?_
  ·simp[results,results214,go_sem,c0,c1,c2]
  have hn:some w.heap.size≠(zc (some ⟨g,0,none⟩) r.length uO).ownBlock:=fun e=>by simp[zR] at e;omega
  have R1:=eg.out;rw[HP.out] at R1 ⊢;exact⟨⟨_,rfl,Qf (w:=w) (x:=(r,[])) (zO _) rfl (xh (xh (xh (gW ho (by omega)) hn _) hn _) hn _) ⟨R1,rfl,gJ.out,Jg,by simp⟩⟩,((Zj.setCell (z7 _) _).setCell (z7 _) _).setCell (z7 _) _⟩
theorem Tj{l:List UInt8}(h:l.all xQ=true):∀ x∈xW l,0<=x/\x<=9:=by
 intro x hx;simp only[xW,List.mem_map] at hx;obtain⟨c,hc,rfl⟩:=hx;have:=(vM c).1 (zX.1 h c hc);omega
theorem pB(l:List UInt8):(xW l).any (· != 0)=SD l:=by
 have:=zero_eq l;unfold SD;have h2:(l.all (· == 48)) = !(l.any (· != 48)):=by
  rw[List.all_eq_not_any_not];rfl
 rw[h2] at this;simpa using congrArg (fun b => !b) this
theorem ef(g o:Nat)(n cap sc:Nat)(b:Bool)(l:List Int)(w:World)(hl:l.length=n)(hs:sc<=n)(ZA:n<=cap)(hn:n<=1000000)(hB:xF w (some ⟨g,o,none⟩) l) :
  Calls prog 70 #[.agg #[.bool b,.slice (some ⟨g,o,none⟩) n cap,.int .i64 sc]] w fun e w'=>(∃ YX uy,e = .returned (.slice YX (n - sc) uy)/\n - sc<=uy/\uy<=cap/\xF w' YX (l.take (n - sc)))/\Below w.heap.size w w':=by
 obtain⟨k,hk⟩:∃ k,n=k+sc:=⟨n - sc,by omega⟩;subst hk;rw[show k+sc - sc=k from by omega];have h0:(0:Int)<=((k+sc:Nat):Int) - (sc:Int):=by omega
 have h1:((k+sc:Nat):Int) - (sc:Int)=(k:Int):=by omega
 have h2:k<=cap:=by omega
 go_enter func70,ntmps70;go_wp2;go_ret;exact⟨⟨_,_,rfl,by omega,by omega,(hB.alloc _).take k⟩,(zv _ _).alloc (z7 _) _⟩
theorem Tg(g o:Nat)(n cap sc:Nat)(b:Bool)(l:List Int)(w:World)(hl:l.length=n)(hs:sc<=n)(ZA:n<=cap)(hn:n<=1000000)(hB:xF w (some ⟨g,o,none⟩) l) :
  Calls prog 72 #[.agg #[.bool b,.slice (some ⟨g,o,none⟩) n cap,.int .i64 sc]] w fun e w'=>(∃ YX uy,e = .returned (.slice (some YX) sc uy)/\sc<=uy/\uy<=cap/\xF w' (some YX) (l.drop (n - sc)))/\Below w.heap.size w w':=by
 obtain⟨k,hk⟩:∃ k,n=k+sc:=⟨n - sc,by omega⟩;subst hk;rw[show k+sc - sc=k from by omega];have h1:((k+sc:Nat):Int) - (sc:Int)=(k:Int):=by omega
 have h2:k<=cap:=by omega
 go_enter func72,ntmps72;by_cases mF:cap=k
 ·have hz:l.drop k=[]:=za (by omega);have HZ:=z8 hz;clear hz;go_wp2;go_ret;refine⟨⟨_,_,rfl,by omega,by omega,?_⟩,(zv _ _).alloc (z7 _) _⟩;rw[HZ.out];intro j hj;simp at hj
 ·go_wp2;go_ret;exact⟨⟨_,_,rfl,by omega,by omega,(hB.alloc _).drop k⟩,(zv _ _).alloc (z7 _) _⟩
theorem KD(v:Value)(x:Dg)(w:World)(h:uh w v x) :
  Calls prog 72 #[v] w fun e w'=>(∃ YX uy,e = .returned (.slice (some YX) x.2.length uy)/\x.2.length<=uy/\uy<=maxLen/\xF w' (some YX) (xW x.2))/\Below w.heap.size w w':=by
 obtain⟨b,g,go,cap,rfl,h2,h3,h4,h5,h6⟩:=h;have Pq:=h6.F9;have h62:=h6.JY;refine(Tg g go (x.1.length+x.2.length) cap x.2.length b (xW (x.1++x.2)) w (by rw[vV];simp) (by omega) h2 (by omega) h5).mono ?_;rintro e w' ⟨⟨YX,uy,rfl,qD,jJ,hB⟩,hb⟩;refine⟨⟨YX,uy,rfl,qD,by omega,?_⟩,hb⟩;have:(xW (x.1++x.2)).drop (x.1.length+x.2.length - x.2.length)=xW x.2:=by
  rw[zh,Kr,List.drop_append_of_le_length (by rw[vV];exact z7 _),za (by rw[vV];exact z7 _),List.nil_append]
 rw[this] at hB;exact hB
theorem Fy(v:Value)(x:Dg)(w:World)(h:uh w v x) :
  Calls prog 72 #[v] w fun e w'=>(∃ YX uy,e = .returned (.slice YX x.2.length uy)/\x.2.length<=uy/\uy<=maxLen/\xF w' YX (xW x.2))/\Below w.heap.size w w' :=
 (KD v x w h).mono fun _ _ ⟨⟨a,c,h1,h2,h3,h4⟩,hb⟩=>⟨⟨some a,c,h1,h2,h3,h4⟩,hb⟩
theorem Cn(v:Value)(x:Dg)(w:World)(h:uh w v x) :
  Calls prog 70 #[v] w fun e w'=>(∃ YX uy,e = .returned (.slice YX x.1.length uy)/\x.1.length<=uy/\uy<=maxLen/\xF w' YX (xW x.1))/\Below w.heap.size w w':=by
 obtain⟨b,g,go,cap,rfl,h2,h3,h4,h5,h6⟩:=h;have Pq:=h6.F9;have h62:=h6.JY;refine(ef g go (x.1.length+x.2.length) cap x.2.length b (xW (x.1++x.2)) w (by rw[vV];simp) (by omega) h2 (by omega) h5).mono ?_;rintro e w' ⟨⟨YX,uy,rfl,qD,jJ,hB⟩,hb⟩;rw[zh] at hB qD ⊢;refine⟨⟨YX,uy,rfl,qD,by omega,?_⟩,hb⟩;have:(xW (x.1++x.2)).take x.1.length=xW x.1:=by
  rw[Kr,List.take_append_of_le_length (by rw[vV];exact z7 _),List.take_of_length_le (by rw[vV];exact z7 _)]
 rw[this] at hB;exact hB
theorem Fx(v:Value)(x:Dg)(w:World)(h:uh w v x) :
  Calls prog 210 #[v] w fun e w'=>e = .returned (.bool (SD x.2))/\Below w.heap.size w w':=by
 have hb:=pB x.2;have hl:=h.ok.JY;have hF:=fun W (hW:uh W v x)=>Fy v x W hW
 have HF:=z8 hF;have HH:=z8 h;have HB:=z8 hb;obtain⟨b,g,go,cap,rfl,_,_,_,_,_⟩:=h;clear hF hb;go_enter func210,ntmps210;go_wp2_with fail;refine(HF.out _ (HH.out.below ((zv _ _).alloc (z7 _) _))).mono ?_;rintro e w1 ⟨⟨YX,uy,rfl,_,_,hB⟩,xH⟩;have Zj:Below w.heap.size w w1:=((zv _ _).alloc (z7 _) _).trans (xH.mono (by simp));have hC:=XB (xW x.2) YX uy w1 (by rw[vV];omega) hB;rw[vV,HB.out] at hC;have HC:=z8 hC;clear hC hB xH;go_wp2_with fail;refine HC.out.mono ?_;rintro e w2 ⟨rfl,rfl⟩;go_wp2;go_ret;exact⟨rfl,Zj⟩
theorem pC(v:Value)(x:Dg)(w:World)(h:uh w v x):Calls prog 212 #[v] w (kZ x w):=by
 have HH:=z8 h;obtain⟨b,g,go,cap,rfl,h2,h3,h4,h5,h6⟩:=h;go_enter func212,ntmps212;go_wp2;refine bodyPost_ret (v := .agg #[.bool false,.slice (some ⟨g,go,none⟩) (x.1.length+x.2.length) cap,.int .i64 x.2.length]) ?_ rfl ?_
 ·simp[results,results212,go_sem]
 have hb:Below w.heap.size w ((w.alloc (.cells #[.bool false,.slice (some ⟨g,go,none⟩) (x.1.length+x.2.length) cap,.int .i64 x.2.length] 97)).alloc (.cells #[.bool false,.slice (some ⟨g,go,none⟩) (x.1.length+x.2.length) cap,.int .i64 x.2.length] 97)):=((zv _ _).alloc (z7 _) _).alloc (by simp) _;exact⟨⟨_,rfl,false,g,go,cap,rfl,h2,h3,h4.imp fun _ hc=>(hb.cell (zY w _ hc)).trans hc,h5.below hb,h6⟩,hb⟩
theorem BQ(l:Wd)(c:UInt8):xL (l++[c])=10*xL l+(c.toNat - 48):=by simp[xL]
theorem Ip(l:Wd):∀ v,l.foldl (fun v c=>10*v+(c.toNat - 48)) v=v*10 ^ l.length+xL l:=by
 induction l with
 | nil=>intro v;simp[xL]
 | cons c t ih =>
  intro v;unfold xL;rw[zN,zN,ih,ih,zM,zi];simp only[Nat.mul_zero,ze,zn];rw[Nat.mul_comm 10 v,Nat.mul_assoc,Nat.mul_comm 10 (10 ^ t.length),Nat.add_assoc]
theorem qY(c:UInt8)(l:Wd):xL (c::l)=(c.toNat - 48)*10 ^ l.length+xL l:=by
 rw[xL,zN,Ip];simp
theorem ed(a b:Wd):xL (a++b)=xL a*10 ^ b.length+xL b:=by rw[xL,List.foldl_append,Ip];rfl
theorem Qd(k:Nat)(l:Wd):xL (zW k 48++l)=xL l:=by
 induction k with
 | zero=>simp
 | succ k ih =>
  rw[zo,yz,qY,ih];simp
theorem XS(k:Nat):xL (zW k 48)=0:=by
 have:=Qd k [];rw[zO] at this;rw[this];rfl
theorem Ir(l:Wd)(k:Nat):xL (l++zW k 48)=xL l*10 ^ k:=by rw[ed,XS];simp
theorem qa{c:UInt8}(h:xQ c=true):48<=c.toNat/\c.toNat<=57:=by have:=(vM c).1 h;omega
theorem Qb:∀ (l:Wd),l.all xQ=true->xL l<10 ^ l.length
 | [],_=>by simp[xL]
 | c::l,h=>by
  rw[zj,zx] at h;have h1:=Qb l h.2;have h2:=qa h.1;rw[qY,zM,zi];have h3:(c.toNat - 48)*10 ^ l.length<=9*10 ^ l.length:=zg _ (by omega);omega
theorem BK{c:UInt8}(h:xQ c=true):qk (c.toNat - 48)=c:=by
 have h2:=qa h;unfold qk;apply zF;rw[zG];omega
theorem Is{c:UInt8}{l:Wd}(hc:xQ c=true)(h:c≠48):10 ^ l.length<=xL (c::l):=by
 have h2:=qa hc;have h3:c.toNat≠48:=fun e=>h (zF e)
 rw[qY];have:1*10 ^ l.length<=(c.toNat - 48)*10 ^ l.length:=zg _ (by omega);omega
theorem Co:∀ (n:Nat) (l:Wd),l.length=n->l.all xQ=true->(l.headD 48≠48\/l.length=1)->xK (xL l)=l
 | 0,l,h,_,h2=>by
  have:l=[]:=List.eq_nil_of_length_eq_zero h;subst this;simp at h2
 | n+1,l,h,hd,h2=>by
  rcases List.eq_nil_or_concat l with rfl|⟨l',c,rfl⟩
  ·simp at h
  ·rw[List.concat_eq_append] at *;rw[zP,zx] at hd;have hc:xQ c=true:=by simpa using hd.2
   have Jf:=qa hc;rw[BQ]
   cases l' with
   | nil =>
    rw[show xL []=0 from rfl,Nat.mul_zero,ze,uk (by omega),BK hc];rfl
   | cons a t =>
    have ha:a≠48:=by
     rcases h2 with h2|h2
     ·simpa using h2
     ·simp at h2
    have had:xQ a=true:=by
     have:=hd.1;rw[zj,zx] at this;exact this.1
    have h3:=Is (l:=t) had ha;have h4:1<=10 ^ t.length:=Nat.one_le_pow _ _ (by omega);rw[jg (by omega),show(10*xL (a::t)+(c.toNat - 48)) / 10=xL (a::t) by omega,show(10*xL (a::t)+(c.toNat - 48)) % 10=c.toNat - 48 by omega,BK hc,
     Co n (a::t) (by simp at h ⊢;omega) hd.1 (.inl (by simpa using ha))]
theorem Cp(n:Nat):xL (xK n)=n:=by
 induction n using Nat.strongRecOn with
 | _ n ih =>
  have hd:∀ d,d<10->(qk d).toNat - 48=d:=by
   intro d h;unfold qk;rw[zG];omega
  by_cases h:n<10
  ·rw[uk h,qY];simp[hd n h,xL]
  ·rw[jg h,BQ,ih (n / 10) (by omega),hd _ (by omega)];omega
theorem R2:∀ (l:Wd),l.all xQ=true->l≠[]->fZ l.length (xK (xL l))=l
 | [],_,h=>absurd rfl h
 | c::t,hd,_=>by
  by_cases hc:c=48
  ·subst hc;have D0:t.all xQ=true:=by
    rw[zj,zx] at hd;exact hd.2
   have e:xL (48::t)=xL t:=by rw[qY];simp
   rw[e];by_cases ht:t=[]
   ·subst ht;rw[show xL []=0 from rfl,uk (by omega)];rfl
   ·have ih:=R2 t D0 ht;have hl:(xK (xL t)).length<=t.length:=by
     have:=congrArg List.length ih;rw[fZ,zD,zl] at this;omega
    unfold fZ at ih ⊢;rw[zM,show t.length+1 - (xK (xL t)).length=(t.length - (xK (xL t)).length)+1 by omega,zo,yz,ih]
  ·rw[Co _ (c::t) rfl hd (.inl (by simpa using hc))];simp[fZ]
theorem R3{d:Wd}{k:Nat}(hd:d.all xQ=true)(xw:d≠[])(hk:k<=d.length)(h:d.length=k\/d.headD 48≠48):fZ k (xK (xL d))=d:=by
 rcases h with h|h
 ·rw[←h];exact R2 d hd xw
 ·rw[Co _ d rfl hd (.inl h),fZ,Nat.sub_eq_zero_of_le hk];rfl
theorem JT(k:Nat)(l:Wd):(fZ k l).length=max k l.length:=by rw[fZ,zD,zl];omega
theorem R4{k:Nat}{l:Wd}(h:l.all xQ=true):(fZ k l).all xQ=true:=by
 rw[fZ,zP,h,Bool.and_true,zX];intro c hc;rw[List.eq_of_mem_replicate hc];rfl
theorem Fv:∀ {l:Wd},l.all xQ=true->((l.all (· == 48))=true ↔ xL l=0)
 | [],_=>by simp[xL]
 | c::t,h=>by
  rw[zj,zx] at h;have h1:=Fv h.2;rw[zj,zx,beq_iff_eq,h1];by_cases hc:c=48
  ·subst hc;rw[qY];simp
  ·have:=Is (l:=t) h.1 hc;have h4:1<=10 ^ t.length:=Nat.one_le_pow _ _ (by omega);simp only[hc,false_and,false_iff];omega
theorem It:∀ (x y:Wd),x.length=y.length->x.all xQ=true->y.all xQ=true->(zL x y=true ↔ xL x<xL y)
 | [],[],_,_,_=>by simp[zL]
 | [],_::_,h,_,_=>by simp at h
 | _::_,[],h,_,_=>by simp at h
 | a::x,b::y,h,hx,hy=>by
  rw[zj,zx] at hx hy;have hl:x.length=y.length:=by simpa using h
  have ih:=It x y hl hx.2 hy.2;have h1:=Qb x hx.2;have h2:=Qb y hy.2;have ha:=qa hx.1;have hb:=qa hy.1;rw[hl] at h1;rw[zL,Bool.or_eq_true,decide_eq_true_eq,zx,beq_iff_eq,ih,UInt8.lt_iff_toNat_lt,qY,qY,hl];by_cases h3:a.toNat<b.toNat
  ·have h4:(a.toNat - 48+1)*10 ^ y.length<=(b.toNat - 48)*10 ^ y.length:=zg _ (by omega);rw[zn,Nat.one_mul] at h4;simp only[h3,true_or,true_iff];omega
  ·by_cases h5:a=b
   ·subst h5;simp
   ·have h6:b.toNat<a.toNat:=by
     have:a.toNat≠b.toNat:=fun e=>h5 (zF e)
     omega
    have h4:(b.toNat - 48+1)*10 ^ y.length<=(a.toNat - 48)*10 ^ y.length:=zg _ (by omega);rw[zn,Nat.one_mul] at h4;simp only[h3,h5,false_or,false_and,false_iff];omega
theorem eZ{x y:Wd}(h:x.length=y.length)(hx:x.all xQ=true)(hy:y.all xQ=true):(if zL x y=true then (-1:Int) else if x=y then 0 else 1)<0 ↔ xL x<xL y:=by
 rw[←It x y h hx hy];split
 ·next h1=>simp[h1]
 ·next h1 =>
  simp only[h1];split<;>simp
theorem O9{w:World}{a:Option Addr}{l:List Int}(h:xF w a l)(k:Nat):xF w a (l.take k):=fun j hj=>by
 obtain⟨b,h1,h2⟩:=h j (by simp at hj;omega);exact⟨b,h1,by simpa using h2⟩
theorem Oz{l:List UInt8}{k:Nat}(hk:k<l.length)(h:l[k]=48):uH (l.take (k+1))=uH (l.take k):=by
 rw[zE hk,h,short_zero]
theorem Oy{l:List UInt8}{k:Nat}(hk:k<l.length)(h:¬l[k]=48):uH (l.take (k+1))=l.take (k+1):=by
 rw[zE hk,NF _ _ h]
theorem Cr(c:UInt8):(((c.toNat:Int) - 48)==0)=(c==48):=by
 have h2:=bU c 48;have h3:((48:UInt8).toNat:Int)=48:=rfl;rw[h3] at h2;rw[zV,beq_iff_eq,beq_iff_eq];rw[zV,beq_iff_eq,decide_eq_true_eq] at h2;rw[←h2];omega
theorem BJ(v:Value)(x:Dg)(w:World)(h:uh w v x) :
  Calls prog 217 #[v] w fun e w'=>(∃ ad cap,e = .returned (.slice ad (uH x.2).length cap)/\xF w' ad (xW (uH x.2))/\(uH x.2).length<=cap/\cap<=maxLen)/\Below w.heap.size w w':=by
 have hl:=h.ok.JY;have hF:=fun W (hW:uh W v x)=>Fy v x W hW
 have HF:=z8 hF;have HH:=z8 h;obtain⟨b,g,go,cap,rfl,_,_,_,_,_⟩:=h;clear hF;go_enter func217,ntmps217;go_wp2_with fail;refine(HF.out _ (HH.out.below ((zv _ _).alloc (z7 _) _))).mono ?_;rintro e w1 ⟨⟨YX,uy,rfl,qD,jJ,hB⟩,xH⟩;have Zj:Below w.heap.size w w1:=((zv _ _).alloc (z7 _) _).trans (xH.mono (by simp));have HB:=z8 hB;have jM:uy<=9223372036854775807:=by unfold maxLen at jJ;omega
 clear xH hB;obtain⟨f,hf⟩:∃ f,f=x.2:=⟨_,rfl⟩;rw[←hf] at hl qD HB ⊢;have HFE:=z8 hf;clear hf;go_wp2_with fail;go_loop [3] (fun u=>∃ k uO:Nat,k<=f.length/\u = .slice YX k uO/\k<=uO/\uO<=uy/\uH (f.take k)=uH f) (fun u=>match u with | .slice _ n _=>n|_=>0)
 case atStart=>exact⟨f.length,uy,z7 _,rfl,qD,z7 _,by rw[List.take_length]⟩
 case round =>
  obtain⟨k,uO,hk,rfl,h1,h2,hs⟩:=hrel;have HS:=z8 hs;clear hs;by_cases h0:k=0
  ·subst h0;have hz:uH f=[]:=by rw[←HS.out];rfl
   have HZ:=z8 hz;clear hz;go_wp2;go_ret;rw[←HFE.out,HZ.out];exact⟨⟨YX,uO,rfl,ZI _ _,Nat.zero_le _,by omega⟩,Zj⟩
  ·obtain⟨m,rfl⟩:∃ m,k=m+1:=⟨k - 1,by omega⟩;have hm:m<f.length:=by omega
   obtain⟨p,rfl,hc⟩:=HB.out m (by rw[vV];exact hm);have hvm:(xW f)[m]'(by rw[vV];exact hm)=(f[m].toNat:Int) - 48:=by simp[xW]
   rw[hvm] at hc;have hz:=Cr f[m];have e0:((m+1:Nat):Int) - 1=(m:Int):=by omega
   have e1:(0:Int)<=((m+1:Nat):Int) - 1:=by omega
   clear hvm;by_cases Bj:f[m]=48
   ·have hz':(((f[m].toNat:Int) - 48)==0)=true:=by rw[hz,Bj];rfl
    have vR:=Oz hm Bj;rw[HS.out] at vR;have jN:=z8 vR;clear vR hz Bj;go_wp2;exact⟨⟨m,uO,by omega,rfl,by omega,h2,jN.out.symm⟩,Nat.lt_succ_self _⟩
   ·have hz':(((f[m].toNat:Int) - 48)==0)=false:=by rw[hz];simpa using Bj
    have vR:=Oy hm Bj;rw[HS.out] at vR;have jN:=z8 vR;clear vR hz Bj;go_wp2;go_ret;have hlen:(uH f).length=m+1:=by rw[jN.out];simp;omega
    rw[←HFE.out,hlen];refine⟨⟨some p,uO,rfl,?_,h1,by omega⟩,Zj⟩;rw[jN.out,show xW (f.take (m+1))=(xW f).take (m+1) by simp[xW]];exact O9 HB.out _
theorem Tf{l:List UInt8}(h:l.all xQ=true):(uH l).all xQ=true:=by
 unfold uH;rw[zX] at h ⊢;intro c hc;exact h c (zw.1 ((zk _).subset (zw.1 hc)))
theorem BG(l:List UInt8):(uH l).length<=l.length:=by
 unfold uH;have:=(zk (· == 48) (l:=l.reverse)).length_le;simpa using this
structure dF(W:World)(q:Nat):Prop where
 c0:W.cell? ⟨q,0,none⟩=some (.bool false)
 c1:W.cell? ⟨q,1,none⟩=some (.slice none 0 0)
 c2:W.cell? ⟨q,2,none⟩=some (.int .i64 0)
 z0:W.frozen? ⟨q,0,none⟩=false
 z1:W.frozen? ⟨q,1,none⟩=false
 z2:W.frozen? ⟨q,2,none⟩=false
 lt:q<W.heap.size
theorem dF.below{W W':World}{q:Nat}(h:dF W q)(hb:Below W.heap.size W W'):dF W' q :=
 ⟨(hb.cell h.lt).trans h.c0,(hb.cell h.lt).trans h.c1,(hb.cell h.lt).trans h.c2,(hb.frozen h.lt).trans h.z0,(hb.frozen h.lt).trans h.z1,(hb.frozen h.lt).trans h.z2,Nat.lt_of_lt_of_le h.lt hb.size⟩
theorem fO(w:World)(o:Obj):Below w.heap.size w ((w.alloc o).alloc (.cells #[.bool false,.slice none 0 0,.int .i64 0] 97))/\dF ((w.alloc o).alloc (.cells #[.bool false,.slice none 0 0,.int .i64 0] 97)) (w.heap.size+1):=by
 have hs:(w.alloc o).heap.size=w.heap.size+1:=by simp
 refine⟨((zv _ _).alloc (z7 _) _).alloc (by omega) _,?_⟩;rw[←hs];exact⟨xq _ _ _ _ _,xq _ _ _ _ _,xq _ _ _ _ _,by simp,by simp,by simp,by simp⟩
theorem uh.set{w:World}{v:Value}{x:Dg}{q:Nat}{b:Bool}(h:uh w v x)(hq:w.cell? ⟨q,0,none⟩=some (.bool b))(j:Nat)(u:Value):uh (w.setCell ⟨q,j,none⟩ u) v x:=by
 obtain⟨b',g,go,cap,h1,h2,h3,h4,h5,h6⟩:=h;have xw:g≠q:=by
  rintro rfl;obtain⟨c,hc⟩:=h4;rw[hq] at hc
  cases hc
 exact⟨b',g,go,cap,h1,h2,h3,h4.imp fun _ hc=>by rw[zS (h:=by simp[xw,Ne.symm xw])];exact hc,h5.set (fun b hb=>by cases hb;exact xw) u,h6⟩
theorem gF{w W:World}{x:Dg}{q:Nat}{b:Bool}{s k:Value}(h:uh W (.agg #[.bool b,s,k]) x)(hr:dF W q)(hq:w.heap.size<=q)(hb:Below w.heap.size w W) :
  kZ x w (.returned (.agg #[.bool b,s,k])) (((W.setCell ⟨q,0,none⟩ (.bool b)).setCell ⟨q,1,none⟩ s).setCell ⟨q,2,none⟩ k):=by
 have e0:(W.setCell ⟨q,0,none⟩ (.bool b)).cell? ⟨q,0,none⟩=some (.bool b):=by rw[World.cell?_setCell_same (h:=hr.c0)]
 have e1:((W.setCell ⟨q,0,none⟩ (.bool b)).setCell ⟨q,1,none⟩ s).cell? ⟨q,0,none⟩=some (.bool b):=by rw[zS (h:=by simp)];exact e0
 exact⟨⟨_,rfl,((h.set hr.c0 0 _).set e0 1 _).set e1 2 _⟩,((hb.setCell hq _).setCell hq _).setCell hq _⟩
theorem uh.form{w:World}{v:Value}{x:Dg}(h:uh w v x):∃ b g go cap n k,v = .agg #[.bool b,.slice (some ⟨g,go,none⟩) n cap,.int .i64 k]:=by
 obtain⟨b,g,go,cap,h1,_⟩:=h;exact⟨b,g,go,cap,_,_,h1⟩
theorem yb2(v:Value)(x:Dg)(w:World)(h:uh w v x):Calls prog 215 #[v] w (kZ (xK x.2.length,[]) w):=by
 have ki:=h.ok;have Dz:=ki.F9;have Px:=ki.JY;have HH:=z8 h;have HO:=z8 ki;obtain⟨b,g,go,cap,rfl,_,_,_,_,_⟩:=h;clear ki;obtain⟨jQ,vZ⟩:=fO w (.cells #[.bool b,.slice (some ⟨g,go,none⟩) (x.1.length+x.2.length) cap,.int .i64 x.2.length] 97);go_enter func215,ntmps215;go_wp2_with fail;generalize (w.alloc (.cells #[.bool b,.slice (some ⟨g,go,none⟩) (x.1.length+x.2.length) cap,.int .i64 x.2.length] 97)).alloc (.cells #[.bool false,.slice none 0 0,.int .i64 0] 97)=W at jQ vZ ⊢;refine(BU x.2.length _ (by omega)).mono ?_;rintro e w2 ⟨⟨v2,rfl,Fu⟩,xB⟩;have hr:=vZ.below xB;have Zj:Below w.heap.size w w2:=jQ.trans (xB.mono (by have:=jQ.size;omega));have c0:=hr.c0;have c1:=hr.c1;have c2:=hr.c2;have z0:=hr.z0;have z1:=hr.z1;have z2:=hr.z2;have eY:=z8 Fu;obtain⟨b2,g2,Mb,uO,n2,k2,rfl⟩:=Fu.form;clear Fu;go_wp2;refine bodyPost_ret (v := .agg #[.bool b2,.slice (some ⟨g2,Mb,none⟩) n2 uO,.int .i64 k2]) ?_ rfl ?_
 ·simp[results,results215,go_sem,c0,c1,c2]
 exact gF eY.out hr (by omega) Zj
theorem yb3(v:Value)(x:Dg)(w:World)(h:uh w v x):Calls prog 213 #[v] w (kZ (jL x.1,[]) w):=by
 have ki:=h.ok;have Dz:=ki.F9;have Px:=ki.JY;have HH:=z8 h;have HO:=z8 ki;obtain⟨b,g,go,cap,rfl,_,_,_,_,_⟩:=h;clear ki;obtain⟨jQ,vZ⟩:=fO w (.cells #[.bool b,.slice (some ⟨g,go,none⟩) (x.1.length+x.2.length) cap,.int .i64 x.2.length] 97);go_enter func213,ntmps213;go_wp2_with fail;generalize (w.alloc (.cells #[.bool b,.slice (some ⟨g,go,none⟩) (x.1.length+x.2.length) cap,.int .i64 x.2.length] 97)).alloc (.cells #[.bool false,.slice none 0 0,.int .i64 0] 97)=W at jQ vZ ⊢;refine(Cn _ x _ (HH.out.below jQ)).mono ?_;rintro e w1 ⟨⟨YX,uy,rfl,qD,jJ,hB⟩,xH⟩;have Vg:=vZ.below xH;have uf:Below w.heap.size w w1:=jQ.trans (xH.mono (by have:=jQ.size;omega));have HB:=z8 hB;clear hB;go_wp2_with fail;refine(Fz x.1 YX uy _ HO.out.ej (by omega) qD jJ HB.out).mono ?_;rintro e w2 ⟨⟨v2,rfl,Fu⟩,xB⟩;have hr:=Vg.below xB;have Zj:Below w.heap.size w w2:=uf.trans (xB.mono (by have:=uf.size;omega));have c0:=hr.c0;have c1:=hr.c1;have c2:=hr.c2;have z0:=hr.z0;have z1:=hr.z1;have z2:=hr.z2;have eY:=z8 Fu;obtain⟨b2,g2,Mb,uO,n2,k2,rfl⟩:=Fu.form;clear Fu;go_wp2;refine bodyPost_ret (v := .agg #[.bool b2,.slice (some ⟨g2,Mb,none⟩) n2 uO,.int .i64 k2]) ?_ rfl ?_
 ·simp[results,results213,go_sem,c0,c1,c2]
 exact gF eY.out hr (by omega) Zj
theorem yb4(v:Value)(x:Dg)(w:World)(h:uh w v x):Calls prog 216 #[v] w (kZ (xK (uH x.2).length,[]) w):=by
 have ki:=h.ok;have Dz:=ki.F9;have Px:=ki.JY;have HH:=z8 h;have HO:=z8 ki;have dm:=BG x.2;obtain⟨b,g,go,cap,rfl,_,_,_,_,_⟩:=h;clear ki;obtain⟨jQ,vZ⟩:=fO w (.cells #[.bool b,.slice (some ⟨g,go,none⟩) (x.1.length+x.2.length) cap,.int .i64 x.2.length] 97);go_enter func216,ntmps216;go_wp2_with fail;generalize (w.alloc (.cells #[.bool b,.slice (some ⟨g,go,none⟩) (x.1.length+x.2.length) cap,.int .i64 x.2.length] 97)).alloc (.cells #[.bool false,.slice none 0 0,.int .i64 0] 97)=W at jQ vZ ⊢;refine(BJ _ x _ (HH.out.below jQ)).mono ?_;rintro e w1 ⟨⟨YX,uy,rfl,hB,qD,jJ⟩,xH⟩;have Vg:=vZ.below xH;have uf:Below w.heap.size w w1:=jQ.trans (xH.mono (by have:=jQ.size;omega));clear hB;go_wp2_with fail;refine(BU (uH x.2).length _ (by omega)).mono ?_;rintro e w2 ⟨⟨v2,rfl,Fu⟩,xB⟩;have hr:=Vg.below xB;have Zj:Below w.heap.size w w2:=uf.trans (xB.mono (by have:=uf.size;omega));have c0:=hr.c0;have c1:=hr.c1;have c2:=hr.c2;have z0:=hr.z0;have z1:=hr.z1;have z2:=hr.z2;have eY:=z8 Fu;obtain⟨b2,g2,Mb,uO,n2,k2,rfl⟩:=Fu.form;clear Fu;go_wp2;refine bodyPost_ret (v := .agg #[.bool b2,.slice (some ⟨g2,Mb,none⟩) n2 uO,.int .i64 k2]) ?_ rfl ?_
 ·simp[results,results216,go_sem,c0,c1,c2]
 exact gF eY.out hr (by omega) Zj
theorem yb5(v:Value)(x:Dg)(w:World)(h:uh w v x):Calls prog 218 #[v] w (kZ (jL x.2,[]) w):=by
 have ki:=h.ok;have Dz:=ki.F9;have Px:=ki.JY;have HH:=z8 h;have HO:=z8 ki;obtain⟨b,g,go,cap,rfl,_,_,_,_,_⟩:=h;clear ki;obtain⟨jQ,vZ⟩:=fO w (.cells #[.bool b,.slice (some ⟨g,go,none⟩) (x.1.length+x.2.length) cap,.int .i64 x.2.length] 97);go_enter func218,ntmps218;go_wp2_with fail;generalize (w.alloc (.cells #[.bool b,.slice (some ⟨g,go,none⟩) (x.1.length+x.2.length) cap,.int .i64 x.2.length] 97)).alloc (.cells #[.bool false,.slice none 0 0,.int .i64 0] 97)=W at jQ vZ ⊢;refine(Fy _ x _ (HH.out.below jQ)).mono ?_;rintro e w1 ⟨⟨YX,uy,rfl,qD,jJ,hB⟩,xH⟩;have Vg:=vZ.below xH;have uf:Below w.heap.size w w1:=jQ.trans (xH.mono (by have:=jQ.size;omega));have HB:=z8 hB;clear hB;go_wp2_with fail;refine(Fz x.2 YX uy _ HO.out.Tv (by omega) qD jJ HB.out).mono ?_;rintro e w2 ⟨⟨v2,rfl,Fu⟩,xB⟩;have hr:=Vg.below xB;have Zj:Below w.heap.size w w2:=uf.trans (xB.mono (by have:=uf.size;omega));have c0:=hr.c0;have c1:=hr.c1;have c2:=hr.c2;have z0:=hr.z0;have z1:=hr.z1;have z2:=hr.z2;have eY:=z8 Fu;obtain⟨b2,g2,Mb,uO,n2,k2,rfl⟩:=Fu.form;clear Fu;go_wp2;refine bodyPost_ret (v := .agg #[.bool b2,.slice (some ⟨g2,Mb,none⟩) n2 uO,.int .i64 k2]) ?_ rfl ?_
 ·simp[results,results218,go_sem,c0,c1,c2]
 exact gF eY.out hr (by omega) Zj
theorem yb6(v:Value)(x:Dg)(w:World)(h:uh w v x):Calls prog 219 #[v] w (kZ (jL (uH x.2),[]) w):=by
 have ki:=h.ok;have Dz:=ki.F9;have Px:=ki.JY;have HH:=z8 h;have HO:=z8 ki;have dm:=BG x.2;obtain⟨b,g,go,cap,rfl,_,_,_,_,_⟩:=h;clear ki;obtain⟨jQ,vZ⟩:=fO w (.cells #[.bool b,.slice (some ⟨g,go,none⟩) (x.1.length+x.2.length) cap,.int .i64 x.2.length] 97);go_enter func219,ntmps219;go_wp2_with fail;generalize (w.alloc (.cells #[.bool b,.slice (some ⟨g,go,none⟩) (x.1.length+x.2.length) cap,.int .i64 x.2.length] 97)).alloc (.cells #[.bool false,.slice none 0 0,.int .i64 0] 97)=W at jQ vZ ⊢;refine(BJ _ x _ (HH.out.below jQ)).mono ?_;rintro e w1 ⟨⟨YX,uy,rfl,hB,qD,jJ⟩,xH⟩;have Vg:=vZ.below xH;have uf:Below w.heap.size w w1:=jQ.trans (xH.mono (by have:=jQ.size;omega));have HB:=z8 hB;clear hB;go_wp2_with fail;refine(Fz (uH x.2) YX uy _ (Tf HO.out.Tv) (by omega) qD jJ HB.out).mono ?_;rintro e w2 ⟨⟨v2,rfl,Fu⟩,xB⟩;have hr:=Vg.below xB;have Zj:Below w.heap.size w w2:=uf.trans (xB.mono (by have:=uf.size;omega));have c0:=hr.c0;have c1:=hr.c1;have c2:=hr.c2;have z0:=hr.z0;have z1:=hr.z1;have z2:=hr.z2;have eY:=z8 Fu;obtain⟨b2,g2,Mb,uO,n2,k2,rfl⟩:=Fu.form;clear Fu;go_wp2;refine bodyPost_ret (v := .agg #[.bool b2,.slice (some ⟨g2,Mb,none⟩) n2 uO,.int .i64 k2]) ?_ rfl ?_
 ·simp[results,results219,go_sem,c0,c1,c2]
 exact gF eY.out hr (by omega) Zj
end Go.Proofs.YthpldolmpinnhaaGreatDoor
