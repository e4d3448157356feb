import Derived.Test.YthpldolmpinnhaaGreatDoorJK30
import Derived.Test.YthpldolmpinnhaaGreatDoorShelfR
import Derived.Shelf.SlicesE.Reverse
set_option maxHeartbeats 64000000
open Nat renaming le_refl→z7,mul_le_mul_right→zg,zero_add→zc,pow_succ→ze,add_mul→zm,add_sub_cancel→zt
open Go.Lib renaming hid→z8
open Go.World renaming frozen?_of_block→zy,block_lt_of_cell?→zY,cell?_of_block→zQ,cell?_alloc_lt→zJ,cell?_setCell_other→zR
open Bool renaming and_eq_true→zx,eq_iff_iff→zV
open Go.RowKit.Below renaming refl→zv,heap_alloc→zH
open Go.Value renaming int→zu,ownBlock→zP,slice→za
open List renaming dropWhile_sublist→zk,all_cons→zj,dropWhile_cons_of_pos→zf,dropWhile_cons_of_neg→zZ,all_eq_true→zX,length_append→zD,take_succ_eq_append_getElem→zE,length_cons→zL,foldl_cons→zM,append_nil→zN,all_append→zO,replicate→zS,drop_of_length_le→zW,length_replicate→zi,getElem?_eq_none→zl,replicate_succ→zn,length_pos_iff→zo,mem_reverse→zh,cons_append→zw
open Array renaming getElem?_modify→zU
open UInt8 renaming toNat_ofNat'→zG
open UInt8.toNat renaming inj→zF
open Go.Op renaming bytesLess→zI
open Go.Sort renaming ahead→zr
open Go.Proofs.Tryz
namespace Go.Proofs.YthpldolmpinnhaaGreatDoor
open Go Go.RowKit Go.Shelf Go.Sort
set_option maxRecDepth 10000
theorem Sd{w:World}{base g cap:Nat}{e:TypeId}{zs:List Int}(h:w.ownsRow base e 1 (.slice (some ⟨g,0,none⟩) zs.length cap) zs.length (zs.map (zu .u8))):Holds (zu .u8) w g 0 zs.toArray:=by
 intro j hj;have IX:j<zs.length:=by simpa using hj
 refine⟨?_,?_⟩
 ·rw[zc,h.cellAt j (by omega)];simp[IX,getElem!_pos]
 ·exact h.frozenAt _
theorem NH{w:World}{base g n cap:Nat}{e:TypeId}{xs:List Value}{zs:List Int}(h:w.ownsRow base e 1 (.slice (some ⟨g,0,none⟩) n cap) n xs)(hz:zs.length=n) :
  (putRow (zu .u8) w g 0 zs.toArray).ownsRow base e 1 (.slice (some ⟨g,0,none⟩) n cap) n (zs.map (zu .u8)):=by
 refine⟨by simp[hz],?_⟩;rcases h.2 with⟨hv,_⟩|⟨g2,uB,cur,hv,hg,hh,h1,h2,h3,ht⟩
 ·cases hv
 ·simp only[Value.slice.injEq,Option.some.injEq,Addr.mk.injEq] at hv;obtain⟨⟨rfl,-⟩,-,rfl⟩:=hv;refine .inr ⟨g,cap,putCells (zu .u8) 0 zs.toArray cur,rfl,hg,?_,h1,h2,by simpa[putCells] using h3,?_⟩
  ·simp[putRow,mapBlock,zU,hh,onCells]
  ·apply List.ext_getElem?;intro j;by_cases hj:j<n
   ·have hjc:j<cur.size:=by omega
    simp[putCells,List.getElem?_take,hj,hjc,hz]
   ·rw[zl (by simp;omega),zl (by simp;omega)]
theorem CB{B:Nat}{a w:World}(h:Below B a w){g:Nat}(hg:B<=g)(d:Array Int):Below B a (putRow (zu .u8) w g 0 d):=by
 refine h.trans ⟨rfl,rfl,rfl,by simp[putRow,mapBlock],fun k hk=>?_⟩;simp only[putRow,mapBlock,zU];rw[if_neg (by omega)]
theorem IJ(g cap base:Nat)(zs:List Int)(w:World)(hz:zs.length<=2000000000)(h:w.ownsRow base 5 1 (.slice (some ⟨g,0,none⟩) zs.length cap) zs.length (zs.map (zu .u8))) :
  Calls prog 208 #[.slice (some ⟨g,0,none⟩) zs.length cap] w fun e w'=>e = .returned (.tuple #[])/\w'.ownsRow base 5 1 (.slice (some ⟨g,0,none⟩) zs.length cap) zs.length (zs.reverse.map (zu .u8)) /\
   w'.heap.size=w.heap.size/\(∀ k,k≠g->w'.heap[k]? = w.heap[k]?)/\Below base w w':=by
 have hg:base<=g:=(h.lt g rfl).1;refine(AnyE.slices_Reverse Tryz.laysRev (zu .u8) (fun _=>rfl) g 0 cap zs w (Sd h) (by omega)).mono ?_;rintro e w' ⟨rfl,n,rfl⟩;have ha:(zr w n).ownsRow base 5 1 (.slice (some ⟨g,0,none⟩) zs.length cap) zs.length (zs.map (zu .u8)):=h;refine⟨rfl,NH ha (by simp),by simp[putRow,mapBlock,zr],fun k hk=>?_,CB (show Below base w (zr w n) from⟨rfl,rfl,rfl,z7 _,fun _ _=>rfl⟩) hg _⟩;simp only[putRow,mapBlock,zU];rw[if_neg (by omega)];rfl
theorem B6(l:List UInt8):xh l=(xl l).map (Value.int .u8):=by simp[xh,xl]
theorem Zi{d:Nat}(h:d<10):((kJ d).toNat:Int) - 48=d:=by
 unfold kJ;rw[zG];omega
def Sb(v:Nat)(w:World)(e:Ending)(w':World):Prop :=
 (∃ g cap,e = .returned (.agg #[.bool false,.slice (some ⟨g,0,none⟩) (xL v).length cap,.int .i64 0])/\w'.ownsRow w.heap.size 5 1 (.slice (some ⟨g,0,none⟩) (xL v).length cap) (xL v).length (xh (xL v)))/\Below w.heap.size w w'
theorem Zl(v:Nat)(w:World)(hv:v<=1000000000):Calls prog 166 #[.int .i64 v] w (Sb v w):=by
 have hL:=EK v;obtain⟨i,hi,hz,h2,h3⟩:=xr.info;go_enter func166,ntmps166;go_wp2;refine QG ?_;intro W hW;have F:W.heap.size=w.heap.size+1/\Below w.heap.size w W/\W.cell? ⟨w.heap.size,0,none⟩=some (.bool false)/\W.cell? ⟨w.heap.size,1,none⟩=some (.slice none 0 0)/\W.cell? ⟨w.heap.size,2,none⟩=some (.int .i64 0)/\W.frozen? ⟨w.heap.size,1,none⟩=false/\W.frozen? ⟨w.heap.size,0,none⟩=false/\W.frozen? ⟨w.heap.size,2,none⟩=false:=by
  subst hW;exact⟨by simp,(zv _ _).alloc (z7 _) _,by go_simp,by go_simp,by go_simp,by go_simp,by go_simp,by go_simp⟩
 obtain⟨f1,f2,f3,f4,f5,f6,f7,f8⟩:=F;clear hW;go_loopw [0,3] (fun n ok wr=>∃ (m:Nat) (acc:List UInt8) (sv:Value) (b:Bool),n = .int .i64 m/\ok = .bool b/\m<=v/\wr.ownsRow (w.heap.size+1) 5 1 sv acc.length (xh acc)/\Below w.heap.size w wr/\w.heap.size<wr.heap.size /\
   wr.cell? ⟨w.heap.size,0,none⟩=some (.bool false)/\wr.cell? ⟨w.heap.size,1,none⟩=some sv/\wr.cell? ⟨w.heap.size,2,none⟩=some (.int .i64 0)/\wr.frozen? ⟨w.heap.size,1,none⟩=false/\wr.frozen? ⟨w.heap.size,0,none⟩=false/\wr.frozen? ⟨w.heap.size,2,none⟩=false /\
   (b=true->xL v=xL m++acc.reverse)/\(b=false->xL v=acc.reverse)) (fun n ok _=>(intOf n).toNat+match ok with | .bool true=>1|_=>0)
 case atStart=>exact⟨v,[],.slice none 0 0,true,rfl,rfl,z7 _,World.ownsRow_nil _ _ _ _,f2,by omega,f3,f4,f5,f6,f7,f8,fun _=>by simp,fun h=>by cases h⟩
 case round =>
  obtain⟨m,acc,sv,b,rfl,rfl,hm,xV,hb,hs,g0,g1,g2,g3,g4,g5,ht,hf⟩:=hrel;clear f2 f3 f4 f5 f6 f7 f8
  cases b with
  | false =>
   have hd:=hf rfl;clear ht hf;have oK:acc.length=(xL v).length:=by rw[hd];simp
   have hlen:0<acc.length:=by
    rw[oK];by_cases dM:v<10
    ·rw[qu dM];simp
    ·rw[fO dM];simp
   obtain⟨g,cap,rfl,aQ,Y9,hgc⟩:=vU xV hlen;have hR:=IJ g cap (w.heap.size+1) (xl acc) wr (by simp[xl];omega) (by rw[←B6];simpa[xl] using xV);have D5:(xl acc).length=acc.length:=by simp[xl]
   have hrd:(xl acc).reverse.map (zu .u8)=xh (xL v):=by rw[hd,B6];simp[xl,List.map_reverse]
   rw[D5,hrd,oK] at hR;rw[oK] at g1;have HR:=z8 hR;clear hR hrd hd oK D5 hgc xV;go_wp2_with fail;refine HR.out.mono ?_;rintro e w1 ⟨rfl,Vb,qa,NI,xB⟩;have vx:w.heap.size≠g:=by omega
   have e0:w1.cell? ⟨w.heap.size,0,none⟩=some (.bool false):=(zQ (NI _ vx)).trans g0;have e1:w1.cell? ⟨w.heap.size,1,none⟩=some (.slice (some ⟨g,0,none⟩) (xL v).length cap):=(zQ (NI _ vx)).trans g1;have e2:w1.cell? ⟨w.heap.size,2,none⟩=some (.int .i64 0):=(zQ (NI _ vx)).trans g2;have bw:Below w.heap.size w w1:=hb.trans (xB.mono (by omega));have z1:w1.frozen? ⟨w.heap.size,1,none⟩=false:=(zy (NI _ vx)).trans g3;have z0:w1.frozen? ⟨w.heap.size,0,none⟩=false:=(zy (NI _ vx)).trans g4;have z2:w1.frozen? ⟨w.heap.size,2,none⟩=false:=(zy (NI _ vx)).trans g5;clear NI g0 g1 g2 g3 g4 g5;go_wp2;refine bodyPost_ret (v := .agg #[.bool false,.slice (some ⟨g,0,none⟩) (xL v).length cap,.int .i64 0]) ?_ rfl ?_
   ·simp[results,results166,go_sem,e0,e1,e2]
   have hn:some w.heap.size≠(za (some ⟨g,0,none⟩) (xL v).length cap).ownBlock:=fun e=>vx (by simpa[zP] using e)
   exact⟨⟨g,cap,rfl,xc (xc (xc (gH Vb (Nat.le_succ _)) hn _) hn _) hn _⟩,((bw.setCell (z7 _) _).setCell (z7 _) _).setCell (z7 _) _⟩
  | true =>
   have hd:=ht rfl;have HD:=z8 hd;clear ht hf hd;go_wp2_with (at_builtin;refine qd xr rfl _ _ rfl (w.heap.size+1) sv acc.length (xh acc) rfl (xV.alloc _) ⟨wr.heap.size,0,none⟩ 1 1 [.int .u8 ((m:Int) % 10)] rfl rfl ?c1 ?c2 ?c3 ?c4 ?_)
   case c1=>exact cells_one (xu _ _ _ _ _)
   case c2=>intro u hu;simp at hu;subst hu;rfl
   case c3 =>
    have:=congrArg List.length HD.out;simp at this;omega
   case c4=>simp;omega
   intro Uh w1 Vb uP;have xB:Below w.heap.size w w1:=(hb.alloc hb.size _).grown uP (by have:=hb.size;simp;omega) (fun q hq=>by have:=(xV.lt q hq).1;omega);have vx:some w.heap.size≠sv.ownBlock:=fun e=>by have:=(xV.lt _ e.symm).1;omega
   have k0:w1.cell? ⟨w.heap.size,0,none⟩=some (.bool false):=uP.cell ((zJ _ _ _ hs).trans g0) vx;have k1:w1.cell? ⟨w.heap.size,1,none⟩=some sv:=uP.cell ((zJ _ _ _ hs).trans g1) vx;have k2:w1.cell? ⟨w.heap.size,2,none⟩=some (.int .i64 0):=uP.cell ((zJ _ _ _ hs).trans g2) vx;have k3:w1.frozen? ⟨w.heap.size,1,none⟩=false:=(zy (uP.block w.heap.size (by simp;omega) vx)).trans ((zy (zH _ _ _ hs)).trans g3);have k4:w1.frozen? ⟨w.heap.size,0,none⟩=false:=(zy (uP.block w.heap.size (by simp;omega) vx)).trans ((zy (zH _ _ _ hs)).trans g4);have k5:w1.frozen? ⟨w.heap.size,2,none⟩=false:=(zy (uP.block w.heap.size (by simp;omega) vx)).trans ((zy (zH _ _ _ hs)).trans g5);have uF:w.heap.size<w1.heap.size:=zY w1 _ k0;have hq:((m:Int).tdiv 10)=((m / 10:Nat):Int):=by rw[Int.tdiv_eq_ediv_of_nonneg (by omega)];rfl
   obtain⟨a1,c1,rfl⟩:=xZ Vb;clear uP xV g0 g1 g2 g3 g4 g5 hb hs;go_wp2;have KJ:(w1.setCell ⟨w.heap.size,1,none⟩ (.slice a1 (acc.length+1) c1)).ownsRow (w.heap.size+1) 5 1 (.slice a1 (acc.length+1) c1) (acc.length+1) (xh acc++[.int .u8 ((m:Int) % 10)]) :=
    xc Vb (fun e=>by have:=(Vb.lt _ e.symm).1;simp at this;omega) _
   have OK:xh (acc++[kJ (m % 10)])=xh acc++[.int .u8 ((m:Int) % 10)]:=by
    have dM:=Zi (d:=m % 10) (by omega);simp only[xh,List.map_append,List.map_cons,List.map_nil,dM];rfl
   refine⟨⟨m / 10,acc++[kJ (m % 10)],.slice a1 (acc.length+1) c1,decide (0<m / 10),by go_num,?_,by omega,?_,xB.setCell (z7 _) _,by simpa[World.setCell] using uF,?_,?_,?_,?_,?_,?_,?_,?_⟩,?_⟩
   ·congr 1;exact decide_eq_decide.2 (by omega)
   ·rw[OK];simpa using KJ
   ·go_simp
   ·go_simp
   ·go_simp
   ·go_simp
   ·go_simp
   ·go_simp
   ·intro h;have dM:0<m / 10:=of_decide_eq_true h;rw[HD.out,fO (by omega)];simp
   ·intro h;have dM:¬0<m / 10:=of_decide_eq_false h;have:m % 10=m:=by omega
    rw[HD.out,qu (by omega),this];simp
   ·by_cases dM:0<m / 10
    ·have:decide (0<(m:Int) / 10)=true:=decide_eq_true (by omega);rw[this];simp[intOf];omega
    ·have:decide (0<(m:Int) / 10)=false:=decide_eq_false (by omega);rw[this];simp[intOf];omega
end Go.Proofs.YthpldolmpinnhaaGreatDoor
namespace Go.Proofs.YthpldolmpinnhaaGreatDoor
open Go Go.RowKit
set_option maxRecDepth 10000
structure CC(x:Dg):Prop where
 aC:x.1.all xF=true
 SZ:x.2.all xF=true
 ne:x.1≠[]
 GR:x.1.length<=100
 J0:x.2.length<=100
def uM(w:World)(v:Value)(x:Dg):Prop :=
 ∃ b g o cap,v = .agg #[.bool b,.slice (some ⟨g,o,none⟩) (x.1.length+x.2.length) cap,.int .i64 x.2.length]/\x.1.length+x.2.length<=cap/\cap<=maxLen/\(∃ c,w.cell? ⟨g,0,none⟩=some (.int .u8 c))/\xK w (some ⟨g,o,none⟩) (xl (x.1++x.2))/\CC x
theorem uM.below{w w':World}{v:Value}{x:Dg}(h:uM w v x)(hb:Below w.heap.size w w'):uM w' v x:=by
 obtain⟨b,g,o,cap,h1,h2,h3,h4,h5,h6⟩:=h;exact⟨b,g,o,cap,h1,h2,h3,h4.imp fun _ hc=>(hb.cell (zY w _ hc)).trans hc,h5.below hb,h6⟩
theorem uM.ok{w:World}{v:Value}{x:Dg}(h:uM w v x):CC x:=by
 obtain⟨b,g,o,cap,h1,h2,h3,h4,h5,h6⟩:=h;exact h6
theorem KO(a b:List UInt8):xl (a++b)=xl a++xl b:=by simp[xl]
theorem vY(a:List UInt8):(xl a).length=a.length:=by simp[xl]
theorem SY(l:List UInt8):(xl l).dropWhile (· == 0)=xl (l.dropWhile (· == 48)):=by
 induction l with
 | nil=>rfl
 | cons c t ih =>
  have h2:=dh c 48;have h3:((48:UInt8).toNat:Int)=48:=rfl;rw[h3] at h2;have h4:(((c.toNat:Int) - 48)==0)=(c==48):=by
   rw[zV,beq_iff_eq,beq_iff_eq];rw[zV,beq_iff_eq,decide_eq_true_eq] at h2;rw[←h2];omega
  rw[show xl (c::t)=((c.toNat:Int) - 48)::xl t from rfl];by_cases hc:(c==48)=true
  ·rw[zf (p:=fun x:Int=>x==0) (h4.trans hc),zf (p:=fun x:UInt8=>x==48) hc,ih]
  ·rw[zZ (p:=fun x:Int=>x==0) (by rw[h4];exact hc),zZ (p:=fun x:UInt8=>x==48) hc];rfl
theorem Vh(l:List UInt8):jJ l=if l.dropWhile (· == 48)=[] then [48] else l.dropWhile (· == 48):=by
 unfold jJ;by_cases h:l=[]
 ·subst h;rfl
 ·rw[if_neg h];induction l with
  | nil=>exact absurd rfl h
  | cons c t ih =>
   by_cases hc:c=48
   ·subst hc;rw[zf (by decide)];by_cases ht:t=[]
    ·subst ht;rfl
    ·rw[N2 ht rfl,ih ht]
   ·rw[N3 hc,zZ (by simpa using hc),if_neg (by simp)]
theorem SX{l:List UInt8}(h:l.all xF=true):(jJ l).all xF=true:=by
 rw[Vh];split
 ·decide
 ·rw[zX] at h ⊢;exact fun c hc=>h c ((zk _).subset hc)
theorem SV(l:List UInt8):(jJ l).length<=l.length\/(jJ l).length=1:=by
 rw[Vh];split
 ·exact .inr rfl
 ·exact .inl (zk (· == 48) (l:=l)).length_le
theorem XK(n:Nat):(xL n).all xF=true:=by
 induction n using Nat.strongRecOn with
 | _ n ih =>
  have hd:∀ d,d<10->xF (kJ d)=true:=by
   intro d h;rw[vw];have:=Zi h;omega
  by_cases h:n<10
  ·rw[qu h];simp[hd n h]
  ·rw[fO h,zO,ih (n / 10) (by omega)];simp[hd (n % 10) (by omega)]
theorem di(n:Nat):xL n≠[]:=by
 by_cases h:n<10
 ·rw[qu h];simp
 ·rw[fO h];simp
theorem qR:∀ (k n:Nat),n<10 ^ (k+1)->(xL n).length<=k+1
 | 0,n,h=>by rw[qu (by simpa using h)];simp
 | k+1,n,h=>by
  by_cases dM:n<10
  ·rw[qu dM];simp
  ·rw[fO dM];have:=qR k (n / 10) (by rw[ze] at h;omega);simp;omega
def qh(x:Dg)(w:World)(e:Ending)(w':World):Prop:=(∃ v,e = .returned v/\uM w' v x)/\Below w.heap.size w w'
theorem Xw{w w':World}{g cap n:Nat}{b:Bool}{d:List UInt8}{x:Dg}(hx:x.1++x.2=d)(hn:n=d.length)(ho:w'.ownsRow w.heap.size 5 1 (.slice (some ⟨g,0,none⟩) n cap) n (xh d))(ku:CC x) :
  uM w' (.agg #[.bool b,.slice (some ⟨g,0,none⟩) n cap,.int .i64 x.2.length]) x:=by
 subst hn;have hl:x.1.length+x.2.length=d.length:=by rw[←hx];simp
 have hB:=qL ho rfl;rw[←hx] at hB;have xC:∃ c,w'.cell? ⟨g,0,none⟩=some (.int .u8 c):=by
  obtain⟨q,hq,hc⟩:=hB 0 (by rw[vY,zD];have:=zo.2 ku.ne;omega)
  cases hq;exact⟨_,hc⟩
 refine⟨b,g,0,cap,by rw[hl],?_,?_,xC,hB,ku⟩;all_goals
  rcases ho.2 with⟨hv,_⟩|⟨g2,uB,cur,hv,_,_,h1,h2,_⟩
  ·cases hv
  ·cases hv;omega
theorem B7(v:Nat)(w:World)(hv:v<=1000000000):Calls prog 166 #[.int .i64 v] w (qh (xL v,[]) w):=by
 refine(Zl v w hv).mono ?_;rintro e w' ⟨⟨g,cap,rfl,ho⟩,hb⟩;have:=qR 9 v (by omega);exact⟨⟨_,rfl,Xw (x:=(xL v,[])) (zN _) rfl ho ⟨XK v,rfl,di v,by show(xL v).length<=100;omega,by simp⟩⟩,hb⟩
theorem GA(l:List UInt8)(a:Option Addr)(cap:Nat)(w:World)(hd:l.all xF=true)(hl:l.length<=100)(YK:l.length<=cap)(jD:cap<=maxLen)(hB:xK w a (xl l)) :
  Calls prog 214 #[.slice a l.length cap] w (qh (jJ l,[]) w):=by
 have D5:=vY l;have hT:=CD (xl l) a cap;rw[D5] at hT;have HT:=z8 hT;have HB:=z8 hB;obtain⟨r,hr⟩:∃ r,l.dropWhile (· == 48)=r:=⟨_,rfl⟩;have hrv:(xl l).dropWhile (· == 0)=xl r:=by rw[SY,hr]
 have Mm:jJ l=if r=[] then [48] else r:=by rw[Vh,hr]
 have Pb:=SX hd;have hpn:=SV l;have HPL:=z8 Mm;have HRV:=z8 hrv;have aE:=z8 Pb;clear hT hB D5 hr hrv Mm Pb;go_enter func214,ntmps214;go_wp2_with fail;refine(HT.out _ (by omega) YK (by unfold maxLen at jD;omega) ?_).mono ?_
 ·exact HB.out.alloc _
 rintro e w1 ⟨⟨a',vh,rfl,h2,h3,h4⟩,rfl⟩;rw[HRV.out,vY] at *;obtain⟨W,hW⟩:∃ W,W=w.alloc (.cells #[.bool false,.slice none 0 0,.int .i64 0] 97):=⟨_,rfl⟩;have F:W.heap.size=w.heap.size+1/\Below w.heap.size w W/\W.cell? ⟨w.heap.size,0,none⟩=some (.bool false)/\W.cell? ⟨w.heap.size,1,none⟩=some (.slice none 0 0)/\W.cell? ⟨w.heap.size,2,none⟩=some (.int .i64 0) /\
   W.frozen? ⟨w.heap.size,0,none⟩=false/\W.frozen? ⟨w.heap.size,1,none⟩=false/\W.frozen? ⟨w.heap.size,2,none⟩=false:=by
  subst hW;exact⟨by simp,(zv _ _).alloc (z7 _) _,by go_simp,by go_simp,by go_simp,by go_simp,by go_simp,by go_simp⟩
 obtain⟨f1,f2,f3,f4,f5,f6,f7,f8⟩:=F;rw[←hW] at h2 ⊢;clear hW;have xC:w.heap.size<W.heap.size:=by omega
 by_cases vu:r=[]
 ·have hp:=HPL.out;rw[if_pos vu] at hp;have HP:=z8 hp;clear hp;subst vu;go_wp2_with fail;refine(Zl 0 _ (by omega)).mono ?_;rintro e w2 ⟨⟨g,uB,rfl,ho⟩,xD⟩;have c0:=(xD.cell (p:=⟨w.heap.size,0,none⟩) xC).trans f3;have c1:=(xD.cell (p:=⟨w.heap.size,1,none⟩) xC).trans f4;have c2:=(xD.cell (p:=⟨w.heap.size,2,none⟩) xC).trans f5;have z0:=(xD.frozen (p:=⟨w.heap.size,0,none⟩) xC).trans f6;have z1:=(xD.frozen (p:=⟨w.heap.size,1,none⟩) xC).trans f7;have z2:=(xD.frozen (p:=⟨w.heap.size,2,none⟩) xC).trans f8;have hg:=(ho.lt g rfl).1;have bw:Below w.heap.size w w2:=f2.trans (xD.mono (by omega));clear f3 f4 f5 f6 f7 f8 xD f2;go_wp2;refine bodyPost_ret (v := .agg #[.bool false,.slice (some ⟨g,0,none⟩) (xL 0).length uB,.int .i64 0]) ?_ rfl ?_
  ·simp[results,results214,go_sem,c0,c1,c2]
  have hn:some w.heap.size≠(za (some ⟨g,0,none⟩) (xL 0).length uB).ownBlock:=fun e=>by simp[zP] at e;omega
  rw[HP.out];exact⟨⟨_,rfl,Xw (w:=w) (x:=([48],[])) (d:=xL 0) (by rw[qu (by decide)];rfl) rfl (xc (xc (xc (gH ho (by omega)) hn _) hn _) hn _) ⟨by decide,rfl,by simp,by simp,by simp⟩⟩,((bw.setCell (z7 _) _).setCell (z7 _) _).setCell (z7 _) _⟩
 ·have hp:=HPL.out;rw[if_neg vu] at hp;have HP:=z8 hp;clear hp;have je:0<r.length:=zo.2 vu;obtain⟨b,rfl,_⟩:=h2 0 (by rw[vY];exact je);have vx:((r.length:Int)==0)=false:=by simp;omega
  have Kr:r.length<=100:=by rw[←HP.out];omega
  have H2:=z8 h2;have gj:=z8 vu;clear h2 vu;go_wp2_with fail;refine(Sf r b vh _ (by omega) H2.out).mono ?_;rintro e w2 ⟨⟨v,rfl,ho⟩,xD⟩;obtain⟨g,uB,rfl,hg,dV,_⟩:=vU ho je;have c0:=(xD.cell (p:=⟨w.heap.size,0,none⟩) xC).trans f3;have c1:=(xD.cell (p:=⟨w.heap.size,1,none⟩) xC).trans f4;have c2:=(xD.cell (p:=⟨w.heap.size,2,none⟩) xC).trans f5;have z0:=(xD.frozen (p:=⟨w.heap.size,0,none⟩) xC).trans f6;have z1:=(xD.frozen (p:=⟨w.heap.size,1,none⟩) xC).trans f7;have z2:=(xD.frozen (p:=⟨w.heap.size,2,none⟩) xC).trans f8;have bw:Below w.heap.size w w2:=f2.trans (xD.mono (by omega));clear f3 f4 f5 f6 f7 f8 xD f2;go_wp2;refine bodyPost_ret (v := .agg #[.bool false,.slice (some ⟨g,0,none⟩) r.length uB,.int .i64 0]) ?_ rfl ?_
  ·simp[results,results214,go_sem,c0,c1,c2]
  have hn:some w.heap.size≠(za (some ⟨g,0,none⟩) r.length uB).ownBlock:=fun e=>by simp[zP] at e;omega
  have Pb:=aE.out;rw[HP.out] at Pb ⊢;exact⟨⟨_,rfl,Xw (w:=w) (x:=(r,[])) (zN _) rfl (xc (xc (xc (gH ho (by omega)) hn _) hn _) hn _) ⟨Pb,rfl,gj.out,Kr,by simp⟩⟩,((bw.setCell (z7 _) _).setCell (z7 _) _).setCell (z7 _) _⟩
theorem SU{l:List UInt8}(h:l.all xF=true):∀ x∈xl l,0<=x/\x<=9:=by
 intro x hx;simp only[xl,List.mem_map] at hx;obtain⟨c,hc,rfl⟩:=hx;have:=(vw c).1 (zX.1 h c hc);omega
theorem oJ(l:List UInt8):(xl l).any (· != 0)=ri l:=by
 have:=zero_eq l;unfold ri;have h2:(l.all (· == 48)) = !(l.any (· != 48)):=by
  rw[List.all_eq_not_any_not];rfl
 rw[h2] at this;simpa using congrArg (fun b => !b) this
theorem aH(g o:Nat)(n cap sc:Nat)(b:Bool)(l:List Int)(w:World)(hl:l.length=n)(hs:sc<=n)(YK:n<=cap)(hn:n<=1000000)(hB:xK w (some ⟨g,o,none⟩) l) :
  Calls prog 70 #[.agg #[.bool b,.slice (some ⟨g,o,none⟩) n cap,.int .i64 sc]] w fun e w'=>(∃ Y3 vh,e = .returned (.slice Y3 (n - sc) vh)/\n - sc<=vh/\vh<=cap/\xK w' Y3 (l.take (n - sc)))/\Below w.heap.size w w':=by
 obtain⟨k,hk⟩:∃ k,n=k+sc:=⟨n - sc,by omega⟩;subst hk;rw[show k+sc - sc=k from by omega];have h0:(0:Int)<=((k+sc:Nat):Int) - (sc:Int):=by omega
 have h1:((k+sc:Nat):Int) - (sc:Int)=(k:Int):=by omega
 have h2:k<=cap:=by omega
 go_enter func70,ntmps70;go_wp2;go_ret;exact⟨⟨_,_,rfl,by omega,by omega,(hB.alloc _).take k⟩,(zv _ _).alloc (z7 _) _⟩
theorem SQ(g o:Nat)(n cap sc:Nat)(b:Bool)(l:List Int)(w:World)(hl:l.length=n)(hs:sc<=n)(YK:n<=cap)(hn:n<=1000000)(hB:xK w (some ⟨g,o,none⟩) l) :
  Calls prog 72 #[.agg #[.bool b,.slice (some ⟨g,o,none⟩) n cap,.int .i64 sc]] w fun e w'=>(∃ Y3 vh,e = .returned (.slice (some Y3) sc vh)/\sc<=vh/\vh<=cap/\xK w' (some Y3) (l.drop (n - sc)))/\Below w.heap.size w w':=by
 obtain⟨k,hk⟩:∃ k,n=k+sc:=⟨n - sc,by omega⟩;subst hk;rw[show k+sc - sc=k from by omega];have h1:((k+sc:Nat):Int) - (sc:Int)=(k:Int):=by omega
 have h2:k<=cap:=by omega
 go_enter func72,ntmps72;by_cases l9:cap=k
 ·have hz:l.drop k=[]:=zW (by omega);have HZ:=z8 hz;clear hz;go_wp2;go_ret;refine⟨⟨_,_,rfl,by omega,by omega,?_⟩,(zv _ _).alloc (z7 _) _⟩;rw[HZ.out];intro j hj;simp at hj
 ·go_wp2;go_ret;exact⟨⟨_,_,rfl,by omega,by omega,(hB.alloc _).drop k⟩,(zv _ _).alloc (z7 _) _⟩
theorem Ku(v:Value)(x:Dg)(w:World)(h:uM w v x) :
  Calls prog 72 #[v] w fun e w'=>(∃ Y3 vh,e = .returned (.slice (some Y3) x.2.length vh)/\x.2.length<=vh/\vh<=maxLen/\xK w' (some Y3) (xl x.2))/\Below w.heap.size w w':=by
 obtain⟨b,g,go,cap,rfl,h2,h3,h4,h5,h6⟩:=h;have OC:=h6.GR;have h62:=h6.J0;refine(SQ g go (x.1.length+x.2.length) cap x.2.length b (xl (x.1++x.2)) w (by rw[vY];simp) (by omega) h2 (by omega) h5).mono ?_;rintro e w' ⟨⟨Y3,vh,rfl,qY,jD,hB⟩,hb⟩;refine⟨⟨Y3,vh,rfl,qY,by omega,?_⟩,hb⟩;have:(xl (x.1++x.2)).drop (x.1.length+x.2.length - x.2.length)=xl x.2:=by
  rw[zt,KO,List.drop_append_of_le_length (by rw[vY];exact z7 _),zW (by rw[vY];exact z7 _),List.nil_append]
 rw[this] at hB;exact hB
theorem Ga(v:Value)(x:Dg)(w:World)(h:uM w v x) :
  Calls prog 72 #[v] w fun e w'=>(∃ Y3 vh,e = .returned (.slice Y3 x.2.length vh)/\x.2.length<=vh/\vh<=maxLen/\xK w' Y3 (xl x.2))/\Below w.heap.size w w' :=
 (Ku v x w h).mono fun _ _ ⟨⟨a,c,h1,h2,h3,h4⟩,hb⟩=>⟨⟨some a,c,h1,h2,h3,h4⟩,hb⟩
theorem CE(v:Value)(x:Dg)(w:World)(h:uM w v x) :
  Calls prog 70 #[v] w fun e w'=>(∃ Y3 vh,e = .returned (.slice Y3 x.1.length vh)/\x.1.length<=vh/\vh<=maxLen/\xK w' Y3 (xl x.1))/\Below w.heap.size w w':=by
 obtain⟨b,g,go,cap,rfl,h2,h3,h4,h5,h6⟩:=h;have OC:=h6.GR;have h62:=h6.J0;refine(aH g go (x.1.length+x.2.length) cap x.2.length b (xl (x.1++x.2)) w (by rw[vY];simp) (by omega) h2 (by omega) h5).mono ?_;rintro e w' ⟨⟨Y3,vh,rfl,qY,jD,hB⟩,hb⟩;rw[zt] at hB qY ⊢;refine⟨⟨Y3,vh,rfl,qY,by omega,?_⟩,hb⟩;have:(xl (x.1++x.2)).take x.1.length=xl x.1:=by
  rw[KO,List.take_append_of_le_length (by rw[vY];exact z7 _),List.take_of_length_le (by rw[vY];exact z7 _)]
 rw[this] at hB;exact hB
theorem Gc(v:Value)(x:Dg)(w:World)(h:uM w v x) :
  Calls prog 210 #[v] w fun e w'=>e = .returned (.bool (ri x.2))/\Below w.heap.size w w':=by
 have hb:=oJ x.2;have hl:=h.ok.J0;have hF:=fun W (hW:uM W v x)=>Ga v x W hW
 have HF:=z8 hF;have HH:=z8 h;have HB:=z8 hb;obtain⟨b,g,go,cap,rfl,_,_,_,_,_⟩:=h;clear hF hb;go_enter func210,ntmps210;go_wp2_with fail;refine(HF.out _ (HH.out.below ((zv _ _).alloc (z7 _) _))).mono ?_;rintro e w1 ⟨⟨Y3,vh,rfl,_,_,hB⟩,xB⟩;have bw:Below w.heap.size w w1:=((zv _ _).alloc (z7 _) _).trans (xB.mono (by simp));have hC:=Xg (xl x.2) Y3 vh w1 (by rw[vY];omega) hB;rw[vY,HB.out] at hC;have HC:=z8 hC;clear hC hB xB;go_wp2_with fail;refine HC.out.mono ?_;rintro e w2 ⟨rfl,rfl⟩;go_wp2;go_ret;exact⟨rfl,bw⟩
theorem oG(v:Value)(x:Dg)(w:World)(h:uM w v x):Calls prog 212 #[v] w (qh x w):=by
 have HH:=z8 h;obtain⟨b,g,go,cap,rfl,h2,h3,h4,h5,h6⟩:=h;go_enter func212,ntmps212;go_wp2;refine bodyPost_ret (v := .agg #[.bool false,.slice (some ⟨g,go,none⟩) (x.1.length+x.2.length) cap,.int .i64 x.2.length]) ?_ rfl ?_
 ·simp[results,results212,go_sem]
 have hb:Below w.heap.size w ((w.alloc (.cells #[.bool false,.slice (some ⟨g,go,none⟩) (x.1.length+x.2.length) cap,.int .i64 x.2.length] 97)).alloc (.cells #[.bool false,.slice (some ⟨g,go,none⟩) (x.1.length+x.2.length) cap,.int .i64 x.2.length] 97)):=((zv _ _).alloc (z7 _) _).alloc (by simp) _;exact⟨⟨_,rfl,false,g,go,cap,rfl,h2,h3,h4.imp fun _ hc=>(hb.cell (zY w _ hc)).trans hc,h5.below hb,h6⟩,hb⟩
theorem B8(l:Wd)(c:UInt8):xH (l++[c])=10*xH l+(c.toNat - 48):=by simp[xH]
theorem IG(l:Wd):∀ v,l.foldl (fun v c=>10*v+(c.toNat - 48)) v=v*10 ^ l.length+xH l:=by
 induction l with
 | nil=>intro v;simp[xH]
 | cons c t ih =>
  intro v;unfold xH;rw[zM,zM,ih,ih,zL,ze];simp only[Nat.mul_zero,zc,zm];rw[Nat.mul_comm 10 v,Nat.mul_assoc,Nat.mul_comm 10 (10 ^ t.length),Nat.add_assoc]
theorem qx(c:UInt8)(l:Wd):xH (c::l)=(c.toNat - 48)*10 ^ l.length+xH l:=by
 rw[xH,zM,IG];simp
theorem aI(a b:Wd):xH (a++b)=xH a*10 ^ b.length+xH b:=by rw[xH,List.foldl_append,IG];rfl
theorem Uw(k:Nat)(l:Wd):xH (zS k 48++l)=xH l:=by
 induction k with
 | zero=>simp
 | succ k ih =>
  rw[zn,zw,qx,ih];simp
theorem XJ(k:Nat):xH (zS k 48)=0:=by
 have:=Uw k [];rw[zN] at this;rw[this];rfl
theorem IF(l:Wd)(k:Nat):xH (l++zS k 48)=xH l*10 ^ k:=by rw[aI,XJ];simp
theorem kU{c:UInt8}(h:xF c=true):48<=c.toNat/\c.toNat<=57:=by have:=(vw c).1 h;omega
theorem Q5:∀ (l:Wd),l.all xF=true->xH l<10 ^ l.length
 | [],_=>by simp[xH]
 | c::l,h=>by
  rw[zj,zx] at h;have h1:=Q5 l h.2;have h2:=kU h.1;rw[qx,zL,ze];have h3:(c.toNat - 48)*10 ^ l.length<=9*10 ^ l.length:=zg _ (by omega);omega
theorem Bz{c:UInt8}(h:xF c=true):kJ (c.toNat - 48)=c:=by
 have h2:=kU h;unfold kJ;apply zF;rw[zG];omega
theorem ID{c:UInt8}{l:Wd}(hc:xF c=true)(h:c≠48):10 ^ l.length<=xH (c::l):=by
 have h2:=kU hc;have h3:c.toNat≠48:=fun e=>h (zF e)
 rw[qx];have:1*10 ^ l.length<=(c.toNat - 48)*10 ^ l.length:=zg _ (by omega);omega
theorem CH:∀ (n:Nat) (l:Wd),l.length=n->l.all xF=true->(l.headD 48≠48\/l.length=1)->xL (xH l)=l
 | 0,l,h,_,h2=>by
  have:l=[]:=List.eq_nil_of_length_eq_zero h;subst this;simp at h2
 | n+1,l,h,hd,h2=>by
  rcases List.eq_nil_or_concat l with rfl|⟨l',c,rfl⟩
  ·simp at h
  ·rw[List.concat_eq_append] at *;rw[zO,zx] at hd;have hc:xF c=true:=by simpa using hd.2
   have Ks:=kU hc;rw[B8]
   cases l' with
   | nil =>
    rw[show xH []=0 from rfl,Nat.mul_zero,zc,qu (by omega),Bz hc];rfl
   | cons a t =>
    have ha:a≠48:=by
     rcases h2 with h2|h2
     ·simpa using h2
     ·simp at h2
    have had:xF a=true:=by
     have:=hd.1;rw[zj,zx] at this;exact this.1
    have h3:=ID (l:=t) had ha;have h4:1<=10 ^ t.length:=Nat.one_le_pow _ _ (by omega);rw[fO (by omega),show(10*xH (a::t)+(c.toNat - 48)) / 10=xH (a::t) by omega,show(10*xH (a::t)+(c.toNat - 48)) % 10=c.toNat - 48 by omega,Bz hc,
     CH n (a::t) (by simp at h ⊢;omega) hd.1 (.inl (by simpa using ha))]
theorem PZ(n:Nat):xH (xL n)=n:=by
 induction n using Nat.strongRecOn with
 | _ n ih =>
  have hd:∀ d,d<10->(kJ d).toNat - 48=d:=by
   intro d h;unfold kJ;rw[zG];omega
  by_cases h:n<10
  ·rw[qu h,qx];simp[hd n h,xH]
  ·rw[fO h,B8,ih (n / 10) (by omega),hd _ (by omega)];omega
theorem PY:∀ (l:Wd),l.all xF=true->l≠[]->gW l.length (xL (xH l))=l
 | [],_,h=>absurd rfl h
 | c::t,hd,_=>by
  by_cases hc:c=48
  ·subst hc;have FE:t.all xF=true:=by
    rw[zj,zx] at hd;exact hd.2
   have e:xH (48::t)=xH t:=by rw[qx];simp
   rw[e];by_cases ht:t=[]
   ·subst ht;rw[show xH []=0 from rfl,qu (by omega)];rfl
   ·have ih:=PY t FE ht;have hl:(xL (xH t)).length<=t.length:=by
     have:=congrArg List.length ih;rw[gW,zD,zi] at this;omega
    unfold gW at ih ⊢;rw[zL,show t.length+1 - (xL (xH t)).length=(t.length - (xL (xH t)).length)+1 by omega,zn,zw,ih]
  ·rw[CH _ (c::t) rfl hd (.inl (by simpa using hc))];simp[gW]
theorem PX{d:Wd}{k:Nat}(hd:d.all xF=true)(vx:d≠[])(hk:k<=d.length)(h:d.length=k\/d.headD 48≠48):gW k (xL (xH d))=d:=by
 rcases h with h|h
 ·rw[←h];exact PY d hd vx
 ·rw[CH _ d rfl hd (.inl h),gW,Nat.sub_eq_zero_of_le hk];rfl
theorem JF(k:Nat)(l:Wd):(gW k l).length=max k l.length:=by rw[gW,zD,zi];omega
theorem PV{k:Nat}{l:Wd}(h:l.all xF=true):(gW k l).all xF=true:=by
 rw[gW,zO,h,Bool.and_true,zX];intro c hc;rw[List.eq_of_mem_replicate hc];rfl
theorem Ge:∀ {l:Wd},l.all xF=true->((l.all (· == 48))=true ↔ xH l=0)
 | [],_=>by simp[xH]
 | c::t,h=>by
  rw[zj,zx] at h;have h1:=Ge h.2;rw[zj,zx,beq_iff_eq,h1];by_cases hc:c=48
  ·subst hc;rw[qx];simp
  ·have:=ID (l:=t) h.1 hc;have h4:1<=10 ^ t.length:=Nat.one_le_pow _ _ (by omega);simp only[hc,false_and,false_iff];omega
theorem IB:∀ (x y:Wd),x.length=y.length->x.all xF=true->y.all xF=true->(zI x y=true ↔ xH x<xH y)
 | [],[],_,_,_=>by simp[zI]
 | [],_::_,h,_,_=>by simp at h
 | _::_,[],h,_,_=>by simp at h
 | a::x,b::y,h,hx,hy=>by
  rw[zj,zx] at hx hy;have hl:x.length=y.length:=by simpa using h
  have ih:=IB x y hl hx.2 hy.2;have h1:=Q5 x hx.2;have h2:=Q5 y hy.2;have ha:=kU hx.1;have hb:=kU hy.1;rw[hl] at h1;rw[zI,Bool.or_eq_true,decide_eq_true_eq,zx,beq_iff_eq,ih,UInt8.lt_iff_toNat_lt,qx,qx,hl];by_cases h3:a.toNat<b.toNat
  ·have h4:(a.toNat - 48+1)*10 ^ y.length<=(b.toNat - 48)*10 ^ y.length:=zg _ (by omega);rw[zm,Nat.one_mul] at h4;simp only[h3,true_or,true_iff];omega
  ·by_cases h5:a=b
   ·subst h5;simp
   ·have h6:b.toNat<a.toNat:=by
     have:a.toNat≠b.toNat:=fun e=>h5 (zF e)
     omega
    have h4:(b.toNat - 48+1)*10 ^ y.length<=(a.toNat - 48)*10 ^ y.length:=zg _ (by omega);rw[zm,Nat.one_mul] at h4;simp only[h3,h5,false_or,false_and,false_iff];omega
theorem aL{x y:Wd}(h:x.length=y.length)(hx:x.all xF=true)(hy:y.all xF=true):(if zI x y=true then (-1:Int) else if x=y then 0 else 1)<0 ↔ xH x<xH y:=by
 rw[←IB x y h hx hy];split
 ·next h1=>simp[h1]
 ·next h1 =>
  simp only[h1];split<;>simp
theorem NL{w:World}{a:Option Addr}{l:List Int}(h:xK w a l)(k:Nat):xK w a (l.take k):=fun j hj=>by
 obtain⟨b,h1,h2⟩:=h j (by simp at hj;omega);exact⟨b,h1,by simpa using h2⟩
theorem NM{l:List UInt8}{k:Nat}(hk:k<l.length)(h:l[k]=48):uQ (l.take (k+1))=uQ (l.take k):=by
 rw[zE hk,h,short_zero]
theorem NN{l:List UInt8}{k:Nat}(hk:k<l.length)(h:¬l[k]=48):uQ (l.take (k+1))=l.take (k+1):=by
 rw[zE hk,N5 _ _ h]
theorem CI(c:UInt8):(((c.toNat:Int) - 48)==0)=(c==48):=by
 have h2:=dh c 48;have h3:((48:UInt8).toNat:Int)=48:=rfl;rw[h3] at h2;rw[zV,beq_iff_eq,beq_iff_eq];rw[zV,beq_iff_eq,decide_eq_true_eq] at h2;rw[←h2];omega
theorem By(v:Value)(x:Dg)(w:World)(h:uM w v x) :
  Calls prog 217 #[v] w fun e w'=>(∃ ad cap,e = .returned (.slice ad (uQ x.2).length cap)/\xK w' ad (xl (uQ x.2))/\(uQ x.2).length<=cap/\cap<=maxLen)/\Below w.heap.size w w':=by
 have hl:=h.ok.J0;have hF:=fun W (hW:uM W v x)=>Ga v x W hW
 have HF:=z8 hF;have HH:=z8 h;obtain⟨b,g,go,cap,rfl,_,_,_,_,_⟩:=h;clear hF;go_enter func217,ntmps217;go_wp2_with fail;refine(HF.out _ (HH.out.below ((zv _ _).alloc (z7 _) _))).mono ?_;rintro e w1 ⟨⟨Y3,vh,rfl,qY,jD,hB⟩,xB⟩;have bw:Below w.heap.size w w1:=((zv _ _).alloc (z7 _) _).trans (xB.mono (by simp));have HB:=z8 hB;have jG:vh<=9223372036854775807:=by unfold maxLen at jD;omega
 clear xB hB;obtain⟨f,hf⟩:∃ f,f=x.2:=⟨_,rfl⟩;rw[←hf] at hl qY HB ⊢;have HFE:=z8 hf;clear hf;go_wp2_with fail;go_loop [3] (fun u=>∃ k uB:Nat,k<=f.length/\u = .slice Y3 k uB/\k<=uB/\uB<=vh/\uQ (f.take k)=uQ f) (fun u=>match u with | .slice _ n _=>n|_=>0)
 case atStart=>exact⟨f.length,vh,z7 _,rfl,qY,z7 _,by rw[List.take_length]⟩
 case round =>
  obtain⟨k,uB,hk,rfl,h1,h2,hs⟩:=hrel;have HS:=z8 hs;clear hs;by_cases h0:k=0
  ·subst h0;have hz:uQ f=[]:=by rw[←HS.out];rfl
   have HZ:=z8 hz;clear hz;go_wp2;go_ret;rw[←HFE.out,HZ.out];exact⟨⟨Y3,uB,rfl,Zb _ _,Nat.zero_le _,by omega⟩,bw⟩
  ·obtain⟨m,rfl⟩:∃ m,k=m+1:=⟨k - 1,by omega⟩;have hm:m<f.length:=by omega
   obtain⟨p,rfl,hc⟩:=HB.out m (by rw[vY];exact hm);have hvm:(xl f)[m]'(by rw[vY];exact hm)=(f[m].toNat:Int) - 48:=by simp[xl]
   rw[hvm] at hc;have hz:=CI f[m];have e0:((m+1:Nat):Int) - 1=(m:Int):=by omega
   have e1:(0:Int)<=((m+1:Nat):Int) - 1:=by omega
   clear hvm;by_cases S6:f[m]=48
   ·have hz':(((f[m].toNat:Int) - 48)==0)=true:=by rw[hz,S6];rfl
    have vL:=NM hm S6;rw[HS.out] at vL;have jF:=z8 vL;clear vL hz S6;go_wp2;exact⟨⟨m,uB,by omega,rfl,by omega,h2,jF.out.symm⟩,Nat.lt_succ_self _⟩
   ·have hz':(((f[m].toNat:Int) - 48)==0)=false:=by rw[hz];simpa using S6
    have vL:=NN hm S6;rw[HS.out] at vL;have jF:=z8 vL;clear vL hz S6;go_wp2;go_ret;have hlen:(uQ f).length=m+1:=by rw[jF.out];simp;omega
    rw[←HFE.out,hlen];refine⟨⟨some p,uB,rfl,?_,h1,by omega⟩,bw⟩;rw[jF.out,show xl (f.take (m+1))=(xl f).take (m+1) by simp[xl]];exact NL HB.out _
theorem SK{l:List UInt8}(h:l.all xF=true):(uQ l).all xF=true:=by
 unfold uQ;rw[zX] at h ⊢;intro c hc;exact h c (zh.1 ((zk _).subset (zh.1 hc)))
theorem Bx(l:List UInt8):(uQ l).length<=l.length:=by
 unfold uQ;have:=(zk (· == 48) (l:=l.reverse)).length_le;simpa using this
structure fh(W:World)(q:Nat):Prop where
 c0:W.cell? ⟨q,0,none⟩=some (.bool false)
 c1:W.cell? ⟨q,1,none⟩=some (.slice none 0 0)
 c2:W.cell? ⟨q,2,none⟩=some (.int .i64 0)
 z0:W.frozen? ⟨q,0,none⟩=false
 z1:W.frozen? ⟨q,1,none⟩=false
 z2:W.frozen? ⟨q,2,none⟩=false
 lt:q<W.heap.size
theorem fh.below{W W':World}{q:Nat}(h:fh W q)(hb:Below W.heap.size W W'):fh W' q :=
 ⟨(hb.cell h.lt).trans h.c0,(hb.cell h.lt).trans h.c1,(hb.cell h.lt).trans h.c2,(hb.frozen h.lt).trans h.z0,(hb.frozen h.lt).trans h.z1,(hb.frozen h.lt).trans h.z2,Nat.lt_of_lt_of_le h.lt hb.size⟩
theorem fY(w:World)(o:Obj):Below w.heap.size w ((w.alloc o).alloc (.cells #[.bool false,.slice none 0 0,.int .i64 0] 97))/\fh ((w.alloc o).alloc (.cells #[.bool false,.slice none 0 0,.int .i64 0] 97)) (w.heap.size+1):=by
 have hs:(w.alloc o).heap.size=w.heap.size+1:=by simp
 refine⟨((zv _ _).alloc (z7 _) _).alloc (by omega) _,?_⟩;rw[←hs];exact⟨xu _ _ _ _ _,xu _ _ _ _ _,xu _ _ _ _ _,by simp,by simp,by simp,by simp⟩
theorem uM.set{w:World}{v:Value}{x:Dg}{q:Nat}{b:Bool}(h:uM w v x)(hq:w.cell? ⟨q,0,none⟩=some (.bool b))(j:Nat)(u:Value):uM (w.setCell ⟨q,j,none⟩ u) v x:=by
 obtain⟨b',g,go,cap,h1,h2,h3,h4,h5,h6⟩:=h;have vx:g≠q:=by
  rintro rfl;obtain⟨c,hc⟩:=h4;rw[hq] at hc
  cases hc
 exact⟨b',g,go,cap,h1,h2,h3,h4.imp fun _ hc=>by rw[zR (h:=by simp[vx,Ne.symm vx])];exact hc,h5.set (fun b hb=>by cases hb;exact vx) u,h6⟩
theorem gg{w W:World}{x:Dg}{q:Nat}{b:Bool}{s k:Value}(h:uM W (.agg #[.bool b,s,k]) x)(hr:fh W q)(hq:w.heap.size<=q)(hb:Below w.heap.size w W) :
  qh x w (.returned (.agg #[.bool b,s,k])) (((W.setCell ⟨q,0,none⟩ (.bool b)).setCell ⟨q,1,none⟩ s).setCell ⟨q,2,none⟩ k):=by
 have e0:(W.setCell ⟨q,0,none⟩ (.bool b)).cell? ⟨q,0,none⟩=some (.bool b):=by rw[World.cell?_setCell_same (h:=hr.c0)]
 have e1:((W.setCell ⟨q,0,none⟩ (.bool b)).setCell ⟨q,1,none⟩ s).cell? ⟨q,0,none⟩=some (.bool b):=by rw[zR (h:=by simp)];exact e0
 exact⟨⟨_,rfl,((h.set hr.c0 0 _).set e0 1 _).set e1 2 _⟩,((hb.setCell hq _).setCell hq _).setCell hq _⟩
theorem uM.form{w:World}{v:Value}{x:Dg}(h:uM w v x):∃ b g go cap n k,v = .agg #[.bool b,.slice (some ⟨g,go,none⟩) n cap,.int .i64 k]:=by
 obtain⟨b,g,go,cap,h1,_⟩:=h;exact⟨b,g,go,cap,_,_,h1⟩
theorem yjk(v:Value)(x:Dg)(w:World)(h:uM w v x):Calls prog 215 #[v] w (qh (xL x.2.length,[]) w):=by
 have ku:=h.ok;have Fe:=ku.GR;have OG:=ku.J0;have HH:=z8 h;have HO:=z8 ku;obtain⟨b,g,go,cap,rfl,_,_,_,_,_⟩:=h;clear ku;obtain⟨jg,vu⟩:=fY w (.cells #[.bool b,.slice (some ⟨g,go,none⟩) (x.1.length+x.2.length) cap,.int .i64 x.2.length] 97);go_enter func215,ntmps215;go_wp2_with fail;generalize (w.alloc (.cells #[.bool b,.slice (some ⟨g,go,none⟩) (x.1.length+x.2.length) cap,.int .i64 x.2.length] 97)).alloc (.cells #[.bool false,.slice none 0 0,.int .i64 0] 97)=W at jg vu ⊢;refine(B7 x.2.length _ (by omega)).mono ?_;rintro e w2 ⟨⟨v2,rfl,KP⟩,xD⟩;have hr:=vu.below xD;have bw:Below w.heap.size w w2:=jg.trans (xD.mono (by have:=jg.size;omega));have c0:=hr.c0;have c1:=hr.c1;have c2:=hr.c2;have z0:=hr.z0;have z1:=hr.z1;have z2:=hr.z2;have SJ:=z8 KP;obtain⟨b2,g2,Lo,uB,n2,k2,rfl⟩:=KP.form;clear KP;go_wp2;refine bodyPost_ret (v := .agg #[.bool b2,.slice (some ⟨g2,Lo,none⟩) n2 uB,.int .i64 k2]) ?_ rfl ?_
 ·simp[results,results215,go_sem,c0,c1,c2]
 exact gg SJ.out hr (by omega) bw
theorem yjj(v:Value)(x:Dg)(w:World)(h:uM w v x):Calls prog 213 #[v] w (qh (jJ x.1,[]) w):=by
 have ku:=h.ok;have Fe:=ku.GR;have OG:=ku.J0;have HH:=z8 h;have HO:=z8 ku;obtain⟨b,g,go,cap,rfl,_,_,_,_,_⟩:=h;clear ku;obtain⟨jg,vu⟩:=fY w (.cells #[.bool b,.slice (some ⟨g,go,none⟩) (x.1.length+x.2.length) cap,.int .i64 x.2.length] 97);go_enter func213,ntmps213;go_wp2_with fail;generalize (w.alloc (.cells #[.bool b,.slice (some ⟨g,go,none⟩) (x.1.length+x.2.length) cap,.int .i64 x.2.length] 97)).alloc (.cells #[.bool false,.slice none 0 0,.int .i64 0] 97)=W at jg vu ⊢;refine(CE _ x _ (HH.out.below jg)).mono ?_;rintro e w1 ⟨⟨Y3,vh,rfl,qY,jD,hB⟩,xB⟩;have V2:=vu.below xB;have uH:Below w.heap.size w w1:=jg.trans (xB.mono (by have:=jg.size;omega));have HB:=z8 hB;clear hB;go_wp2_with fail;refine(GA x.1 Y3 vh _ HO.out.aC (by omega) qY jD HB.out).mono ?_;rintro e w2 ⟨⟨v2,rfl,KP⟩,xD⟩;have hr:=V2.below xD;have bw:Below w.heap.size w w2:=uH.trans (xD.mono (by have:=uH.size;omega));have c0:=hr.c0;have c1:=hr.c1;have c2:=hr.c2;have z0:=hr.z0;have z1:=hr.z1;have z2:=hr.z2;have SJ:=z8 KP;obtain⟨b2,g2,Lo,uB,n2,k2,rfl⟩:=KP.form;clear KP;go_wp2;refine bodyPost_ret (v := .agg #[.bool b2,.slice (some ⟨g2,Lo,none⟩) n2 uB,.int .i64 k2]) ?_ rfl ?_
 ·simp[results,results213,go_sem,c0,c1,c2]
 exact gg SJ.out hr (by omega) bw
theorem yjg(v:Value)(x:Dg)(w:World)(h:uM w v x):Calls prog 216 #[v] w (qh (xL (uQ x.2).length,[]) w):=by
 have ku:=h.ok;have Fe:=ku.GR;have OG:=ku.J0;have HH:=z8 h;have HO:=z8 ku;have dG:=Bx x.2;obtain⟨b,g,go,cap,rfl,_,_,_,_,_⟩:=h;clear ku;obtain⟨jg,vu⟩:=fY w (.cells #[.bool b,.slice (some ⟨g,go,none⟩) (x.1.length+x.2.length) cap,.int .i64 x.2.length] 97);go_enter func216,ntmps216;go_wp2_with fail;generalize (w.alloc (.cells #[.bool b,.slice (some ⟨g,go,none⟩) (x.1.length+x.2.length) cap,.int .i64 x.2.length] 97)).alloc (.cells #[.bool false,.slice none 0 0,.int .i64 0] 97)=W at jg vu ⊢;refine(By _ x _ (HH.out.below jg)).mono ?_;rintro e w1 ⟨⟨Y3,vh,rfl,hB,qY,jD⟩,xB⟩;have V2:=vu.below xB;have uH:Below w.heap.size w w1:=jg.trans (xB.mono (by have:=jg.size;omega));clear hB;go_wp2_with fail;refine(B7 (uQ x.2).length _ (by omega)).mono ?_;rintro e w2 ⟨⟨v2,rfl,KP⟩,xD⟩;have hr:=V2.below xD;have bw:Below w.heap.size w w2:=uH.trans (xD.mono (by have:=uH.size;omega));have c0:=hr.c0;have c1:=hr.c1;have c2:=hr.c2;have z0:=hr.z0;have z1:=hr.z1;have z2:=hr.z2;have SJ:=z8 KP;obtain⟨b2,g2,Lo,uB,n2,k2,rfl⟩:=KP.form;clear KP;go_wp2;refine bodyPost_ret (v := .agg #[.bool b2,.slice (some ⟨g2,Lo,none⟩) n2 uB,.int .i64 k2]) ?_ rfl ?_
 ·simp[results,results216,go_sem,c0,c1,c2]
 exact gg SJ.out hr (by omega) bw
theorem yjf(v:Value)(x:Dg)(w:World)(h:uM w v x):Calls prog 218 #[v] w (qh (jJ x.2,[]) w):=by
 have ku:=h.ok;have Fe:=ku.GR;have OG:=ku.J0;have HH:=z8 h;have HO:=z8 ku;obtain⟨b,g,go,cap,rfl,_,_,_,_,_⟩:=h;clear ku;obtain⟨jg,vu⟩:=fY w (.cells #[.bool b,.slice (some ⟨g,go,none⟩) (x.1.length+x.2.length) cap,.int .i64 x.2.length] 97);go_enter func218,ntmps218;go_wp2_with fail;generalize (w.alloc (.cells #[.bool b,.slice (some ⟨g,go,none⟩) (x.1.length+x.2.length) cap,.int .i64 x.2.length] 97)).alloc (.cells #[.bool false,.slice none 0 0,.int .i64 0] 97)=W at jg vu ⊢;refine(Ga _ x _ (HH.out.below jg)).mono ?_;rintro e w1 ⟨⟨Y3,vh,rfl,qY,jD,hB⟩,xB⟩;have V2:=vu.below xB;have uH:Below w.heap.size w w1:=jg.trans (xB.mono (by have:=jg.size;omega));have HB:=z8 hB;clear hB;go_wp2_with fail;refine(GA x.2 Y3 vh _ HO.out.SZ (by omega) qY jD HB.out).mono ?_;rintro e w2 ⟨⟨v2,rfl,KP⟩,xD⟩;have hr:=V2.below xD;have bw:Below w.heap.size w w2:=uH.trans (xD.mono (by have:=uH.size;omega));have c0:=hr.c0;have c1:=hr.c1;have c2:=hr.c2;have z0:=hr.z0;have z1:=hr.z1;have z2:=hr.z2;have SJ:=z8 KP;obtain⟨b2,g2,Lo,uB,n2,k2,rfl⟩:=KP.form;clear KP;go_wp2;refine bodyPost_ret (v := .agg #[.bool b2,.slice (some ⟨g2,Lo,none⟩) n2 uB,.int .i64 k2]) ?_ rfl ?_
 ·simp[results,results218,go_sem,c0,c1,c2]
 exact gg SJ.out hr (by omega) bw
theorem yjd(v:Value)(x:Dg)(w:World)(h:uM w v x):Calls prog 219 #[v] w (qh (jJ (uQ x.2),[]) w):=by
 have ku:=h.ok;have Fe:=ku.GR;have OG:=ku.J0;have HH:=z8 h;have HO:=z8 ku;have dG:=Bx x.2;obtain⟨b,g,go,cap,rfl,_,_,_,_,_⟩:=h;clear ku;obtain⟨jg,vu⟩:=fY w (.cells #[.bool b,.slice (some ⟨g,go,none⟩) (x.1.length+x.2.length) cap,.int .i64 x.2.length] 97);go_enter func219,ntmps219;go_wp2_with fail;generalize (w.alloc (.cells #[.bool b,.slice (some ⟨g,go,none⟩) (x.1.length+x.2.length) cap,.int .i64 x.2.length] 97)).alloc (.cells #[.bool false,.slice none 0 0,.int .i64 0] 97)=W at jg vu ⊢;refine(By _ x _ (HH.out.below jg)).mono ?_;rintro e w1 ⟨⟨Y3,vh,rfl,hB,qY,jD⟩,xB⟩;have V2:=vu.below xB;have uH:Below w.heap.size w w1:=jg.trans (xB.mono (by have:=jg.size;omega));have HB:=z8 hB;clear hB;go_wp2_with fail;refine(GA (uQ x.2) Y3 vh _ (SK HO.out.SZ) (by omega) qY jD HB.out).mono ?_;rintro e w2 ⟨⟨v2,rfl,KP⟩,xD⟩;have hr:=V2.below xD;have bw:Below w.heap.size w w2:=uH.trans (xD.mono (by have:=uH.size;omega));have c0:=hr.c0;have c1:=hr.c1;have c2:=hr.c2;have z0:=hr.z0;have z1:=hr.z1;have z2:=hr.z2;have SJ:=z8 KP;obtain⟨b2,g2,Lo,uB,n2,k2,rfl⟩:=KP.form;clear KP;go_wp2;refine bodyPost_ret (v := .agg #[.bool b2,.slice (some ⟨g2,Lo,none⟩) n2 uB,.int .i64 k2]) ?_ rfl ?_
 ·simp[results,results219,go_sem,c0,c1,c2]
 exact gg SJ.out hr (by omega) bw
end Go.Proofs.YthpldolmpinnhaaGreatDoor
