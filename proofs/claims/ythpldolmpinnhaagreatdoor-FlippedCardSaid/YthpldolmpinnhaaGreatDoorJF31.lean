import Derived.Test.YthpldolmpinnhaaGreatDoorJF30
import Derived.Test.YthpldolmpinnhaaGreatDoorShelfR
import Derived.Shelf.SlicesE.Reverse
set_option maxHeartbeats 64000000
open Nat renaming le_refl→z7,mul_le_mul_right→zg,zero_add→zc,pow_succ→ze,add_mul→zm,add_sub_cancel→zt
open Go.Lib renaming hid→z8
open Go.World renaming frozen?_of_block→zy,block_lt_of_cell?→zY,cell?_of_block→zQ,cell?_alloc_lt→zJ,cell?_setCell_other→zR
open Bool renaming and_eq_true→zx,eq_iff_iff→zV
open Go.RowKit.Below renaming refl→zv,heap_alloc→zH
open Go.Value renaming int→zu,ownBlock→zP,slice→za
open List renaming dropWhile_sublist→zk,all_cons→zj,dropWhile_cons_of_pos→zf,dropWhile_cons_of_neg→zZ,all_eq_true→zX,length_append→zD,take_succ_eq_append_getElem→zE,length_cons→zL,foldl_cons→zM,append_nil→zN,all_append→zO,replicate→zS,drop_of_length_le→zW,length_replicate→zi,getElem?_eq_none→zl,replicate_succ→zn,length_pos_iff→zo,mem_reverse→zh,cons_append→zw
open Array renaming getElem?_modify→zU
open UInt8 renaming toNat_ofNat'→zG
open UInt8.toNat renaming inj→zF
open Go.Op renaming bytesLess→zI
open Go.Sort renaming ahead→zr
open Go.Proofs.Tryz
namespace Go.Proofs.YthpldolmpinnhaaGreatDoor
open Go Go.RowKit Go.Shelf Go.Sort
set_option maxRecDepth 10000
theorem TI{w:World}{base g cap:Nat}{e:TypeId}{zs:List Int}(h:w.ownsRow base e 1 (.slice (some ⟨g,0,none⟩) zs.length cap) zs.length (zs.map (zu .u8))):Holds (zu .u8) w g 0 zs.toArray:=by
 intro j hj;have hj':j<zs.length:=by simpa using hj
 refine⟨?_,?_⟩
 ·rw[zc,h.cellAt j (by omega)];simp[hj',getElem!_pos]
 ·exact h.frozenAt _
theorem OA{w:World}{base g n cap:Nat}{e:TypeId}{xs:List Value}{zs:List Int}(h:w.ownsRow base e 1 (.slice (some ⟨g,0,none⟩) n cap) n xs)(hz:zs.length=n) :
  (putRow (zu .u8) w g 0 zs.toArray).ownsRow base e 1 (.slice (some ⟨g,0,none⟩) n cap) n (zs.map (zu .u8)):=by
 refine⟨by simp[hz],?_⟩;rcases h.2 with⟨hv,_⟩|⟨g2,uG,cur,hv,hg,hh,h1,h2,h3,ht⟩
 ·cases hv
 ·simp only[Value.slice.injEq,Option.some.injEq,Addr.mk.injEq] at hv;obtain⟨⟨rfl,-⟩,-,rfl⟩:=hv;refine .inr ⟨g,cap,putCells (zu .u8) 0 zs.toArray cur,rfl,hg,?_,h1,h2,by simpa[putCells] using h3,?_⟩
  ·simp[putRow,mapBlock,zU,hh,onCells]
  ·apply List.ext_getElem?;intro j;by_cases hj:j<n
   ·have hjc:j<cur.size:=by omega
    simp[putCells,List.getElem?_take,hj,hjc,hz]
   ·rw[zl (by simp;omega),zl (by simp;omega)]
theorem EX{B:Nat}{a w:World}(h:Below B a w){g:Nat}(hg:B<=g)(d:Array Int):Below B a (putRow (zu .u8) w g 0 d):=by
 refine h.trans ⟨rfl,rfl,rfl,by simp[putRow,mapBlock],fun k hk=>?_⟩;simp only[putRow,mapBlock,zU];rw[if_neg (by omega)]
theorem LC(g cap base:Nat)(zs:List Int)(w:World)(hz:zs.length<=2000000000)(h:w.ownsRow base 5 1 (.slice (some ⟨g,0,none⟩) zs.length cap) zs.length (zs.map (zu .u8))) :
  Calls prog 208 #[.slice (some ⟨g,0,none⟩) zs.length cap] w fun e w'=>e = .returned (.tuple #[])/\w'.ownsRow base 5 1 (.slice (some ⟨g,0,none⟩) zs.length cap) zs.length (zs.reverse.map (zu .u8)) /\
   w'.heap.size=w.heap.size/\(∀ k,k≠g->w'.heap[k]? = w.heap[k]?)/\Below base w w':=by
 have hg:base<=g:=(h.lt g rfl).1;refine(AnyE.slices_Reverse Tryz.laysRev (zu .u8) (fun _=>rfl) g 0 cap zs w (TI h) (by omega)).mono ?_;rintro e w' ⟨rfl,n,rfl⟩;have ha:(zr w n).ownsRow base 5 1 (.slice (some ⟨g,0,none⟩) zs.length cap) zs.length (zs.map (zu .u8)):=h;refine⟨rfl,OA ha (by simp),by simp[putRow,mapBlock,zr],fun k hk=>?_,EX (show Below base w (zr w n) from⟨rfl,rfl,rfl,z7 _,fun _ _=>rfl⟩) hg _⟩;simp only[putRow,mapBlock,zU];rw[if_neg (by omega)];rfl
theorem BW(l:List UInt8):xw l=(xW l).map (Value.int .u8):=by simp[xw,xW]
theorem Y5{d:Nat}(h:d<10):((kK d).toNat:Int) - 48=d:=by
 unfold kK;rw[zG];omega
def TL(v:Nat)(w:World)(e:Ending)(w':World):Prop :=
 (∃ g cap,e = .returned (.agg #[.bool false,.slice (some ⟨g,0,none⟩) (xI v).length cap,.int .i64 0])/\w'.ownsRow w.heap.size 5 1 (.slice (some ⟨g,0,none⟩) (xI v).length cap) (xI v).length (xw (xI v)))/\Below w.heap.size w w'
theorem Y6(v:Nat)(w:World)(hv:v<=1000000000):Calls prog 166 #[.int .i64 v] w (TL v w):=by
 have hL:=Ha v;obtain⟨i,hi,hz,h2,h3⟩:=vy.info;go_enter func166,ntmps166;go_wp2;refine Gz ?_;intro W hW;have F:W.heap.size=w.heap.size+1/\Below w.heap.size w W/\W.cell? ⟨w.heap.size,0,none⟩=some (.bool false)/\W.cell? ⟨w.heap.size,1,none⟩=some (.slice none 0 0)/\W.cell? ⟨w.heap.size,2,none⟩=some (.int .i64 0)/\W.frozen? ⟨w.heap.size,1,none⟩=false/\W.frozen? ⟨w.heap.size,0,none⟩=false/\W.frozen? ⟨w.heap.size,2,none⟩=false:=by
  subst hW;exact⟨by simp,(zv _ _).alloc (z7 _) _,by go_simp,by go_simp,by go_simp,by go_simp,by go_simp,by go_simp⟩
 obtain⟨f1,f2,f3,f4,f5,f6,f7,f8⟩:=F;clear hW;go_loopw [0,3] (fun n ok wr=>∃ (m:Nat) (acc:List UInt8) (sv:Value) (b:Bool),n = .int .i64 m/\ok = .bool b/\m<=v/\wr.ownsRow (w.heap.size+1) 5 1 sv acc.length (xw acc)/\Below w.heap.size w wr/\w.heap.size<wr.heap.size /\
   wr.cell? ⟨w.heap.size,0,none⟩=some (.bool false)/\wr.cell? ⟨w.heap.size,1,none⟩=some sv/\wr.cell? ⟨w.heap.size,2,none⟩=some (.int .i64 0)/\wr.frozen? ⟨w.heap.size,1,none⟩=false/\wr.frozen? ⟨w.heap.size,0,none⟩=false/\wr.frozen? ⟨w.heap.size,2,none⟩=false /\
   (b=true->xI v=xI m++acc.reverse)/\(b=false->xI v=acc.reverse)) (fun n ok _=>(intOf n).toNat+match ok with | .bool true=>1|_=>0)
 case atStart=>exact⟨v,[],.slice none 0 0,true,rfl,rfl,z7 _,World.ownsRow_nil _ _ _ _,f2,by omega,f3,f4,f5,f6,f7,f8,fun _=>by simp,fun h=>by cases h⟩
 case round =>
  obtain⟨m,acc,sv,b,rfl,rfl,hm,xV,hb,hs,g0,g1,g2,g3,g4,g5,ht,hf⟩:=hrel;clear f2 f3 f4 f5 f6 f7 f8
  cases b with
  | false =>
   have hd:=hf rfl;clear ht hf;have rG:acc.length=(xI v).length:=by rw[hd];simp
   have hlen:0<acc.length:=by
    rw[rG];by_cases dw:v<10
    ·rw[qv dw];simp
    ·rw[dz dw];simp
   obtain⟨g,cap,rfl,A1,Ze,hgc⟩:=xl xV hlen;have hR:=LC g cap (w.heap.size+1) (xW acc) wr (by simp[xW];omega) (by rw[←BW];simpa[xW] using xV);have DW:(xW acc).length=acc.length:=by simp[xW]
   have hrd:(xW acc).reverse.map (zu .u8)=xw (xI v):=by rw[hd,BW];simp[xW,List.map_reverse]
   rw[DW,hrd,rG] at hR;rw[rG] at g1;have HR:=z8 hR;clear hR hrd hd rG DW hgc xV;go_wp2_with fail;refine HR.out.mono ?_;rintro e w1 ⟨rfl,Vi,qP,Oa,xB⟩;have xc:w.heap.size≠g:=by omega
   have e0:w1.cell? ⟨w.heap.size,0,none⟩=some (.bool false):=(zQ (Oa _ xc)).trans g0;have e1:w1.cell? ⟨w.heap.size,1,none⟩=some (.slice (some ⟨g,0,none⟩) (xI v).length cap):=(zQ (Oa _ xc)).trans g1;have e2:w1.cell? ⟨w.heap.size,2,none⟩=some (.int .i64 0):=(zQ (Oa _ xc)).trans g2;have Zv:Below w.heap.size w w1:=hb.trans (xB.mono (by omega));have z1:w1.frozen? ⟨w.heap.size,1,none⟩=false:=(zy (Oa _ xc)).trans g3;have z0:w1.frozen? ⟨w.heap.size,0,none⟩=false:=(zy (Oa _ xc)).trans g4;have z2:w1.frozen? ⟨w.heap.size,2,none⟩=false:=(zy (Oa _ xc)).trans g5;clear Oa g0 g1 g2 g3 g4 g5;go_wp2;refine bodyPost_ret (v := .agg #[.bool false,.slice (some ⟨g,0,none⟩) (xI v).length cap,.int .i64 0]) ?_ rfl ?_
   ·simp[results,results166,go_sem,e0,e1,e2]
   have hn:some w.heap.size≠(za (some ⟨g,0,none⟩) (xI v).length cap).ownBlock:=fun e=>xc (by simpa[zP] using e)
   exact⟨⟨g,cap,rfl,xp (xp (xp (gP Vi (Nat.le_succ _)) hn _) hn _) hn _⟩,((Zv.setCell (z7 _) _).setCell (z7 _) _).setCell (z7 _) _⟩
  | true =>
   have hd:=ht rfl;have HD:=z8 hd;clear ht hf hd;go_wp2_with (at_builtin;refine qj vy rfl _ _ rfl (w.heap.size+1) sv acc.length (xw acc) rfl (xV.alloc _) ⟨wr.heap.size,0,none⟩ 1 1 [.int .u8 ((m:Int) % 10)] rfl rfl ?c1 ?c2 ?c3 ?c4 ?_)
   case c1=>exact cells_one (xu _ _ _ _ _)
   case c2=>intro u hu;simp at hu;subst hu;rfl
   case c3 =>
    have:=congrArg List.length HD.out;simp at this;omega
   case c4=>simp;omega
   intro QQ w1 Vi uW;have xB:Below w.heap.size w w1:=(hb.alloc hb.size _).grown uW (by have:=hb.size;simp;omega) (fun q hq=>by have:=(xV.lt q hq).1;omega);have xc:some w.heap.size≠sv.ownBlock:=fun e=>by have:=(xV.lt _ e.symm).1;omega
   have k0:w1.cell? ⟨w.heap.size,0,none⟩=some (.bool false):=uW.cell ((zJ _ _ _ hs).trans g0) xc;have k1:w1.cell? ⟨w.heap.size,1,none⟩=some sv:=uW.cell ((zJ _ _ _ hs).trans g1) xc;have k2:w1.cell? ⟨w.heap.size,2,none⟩=some (.int .i64 0):=uW.cell ((zJ _ _ _ hs).trans g2) xc;have k3:w1.frozen? ⟨w.heap.size,1,none⟩=false:=(zy (uW.block w.heap.size (by simp;omega) xc)).trans ((zy (zH _ _ _ hs)).trans g3);have k4:w1.frozen? ⟨w.heap.size,0,none⟩=false:=(zy (uW.block w.heap.size (by simp;omega) xc)).trans ((zy (zH _ _ _ hs)).trans g4);have k5:w1.frozen? ⟨w.heap.size,2,none⟩=false:=(zy (uW.block w.heap.size (by simp;omega) xc)).trans ((zy (zH _ _ _ hs)).trans g5);have uL:w.heap.size<w1.heap.size:=zY w1 _ k0;have hq:((m:Int).tdiv 10)=((m / 10:Nat):Int):=by rw[Int.tdiv_eq_ediv_of_nonneg (by omega)];rfl
   obtain⟨a1,c1,rfl⟩:=xd Vi;clear uW xV g0 g1 g2 g3 g4 g5 hb hs;go_wp2;have Kn:(w1.setCell ⟨w.heap.size,1,none⟩ (.slice a1 (acc.length+1) c1)).ownsRow (w.heap.size+1) 5 1 (.slice a1 (acc.length+1) c1) (acc.length+1) (xw acc++[.int .u8 ((m:Int) % 10)]) :=
    xp Vi (fun e=>by have:=(Vi.lt _ e.symm).1;simp at this;omega) _
   have PS:xw (acc++[kK (m % 10)])=xw acc++[.int .u8 ((m:Int) % 10)]:=by
    have dw:=Y5 (d:=m % 10) (by omega);simp only[xw,List.map_append,List.map_cons,List.map_nil,dw];rfl
   refine⟨⟨m / 10,acc++[kK (m % 10)],.slice a1 (acc.length+1) c1,decide (0<m / 10),by go_num,?_,by omega,?_,xB.setCell (z7 _) _,by simpa[World.setCell] using uL,?_,?_,?_,?_,?_,?_,?_,?_⟩,?_⟩
   ·congr 1;exact decide_eq_decide.2 (by omega)
   ·rw[PS];simpa using Kn
   ·go_simp
   ·go_simp
   ·go_simp
   ·go_simp
   ·go_simp
   ·go_simp
   ·intro h;have dw:0<m / 10:=of_decide_eq_true h;rw[HD.out,dz (by omega)];simp
   ·intro h;have dw:¬0<m / 10:=of_decide_eq_false h;have:m % 10=m:=by omega
    rw[HD.out,qv (by omega),this];simp
   ·by_cases dw:0<m / 10
    ·have:decide (0<(m:Int) / 10)=true:=decide_eq_true (by omega);rw[this];simp[intOf];omega
    ·have:decide (0<(m:Int) / 10)=false:=decide_eq_false (by omega);rw[this];simp[intOf];omega
end Go.Proofs.YthpldolmpinnhaaGreatDoor
namespace Go.Proofs.YthpldolmpinnhaaGreatDoor
open Go Go.RowKit
set_option maxRecDepth 10000
structure EV(x:Dg):Prop where
 eN:x.1.all xJ=true
 TM:x.2.all xJ=true
 ne:x.1≠[]
 FZ:x.1.length<=100
 JI:x.2.length<=100
def uR(w:World)(v:Value)(x:Dg):Prop :=
 ∃ b g o cap,v = .agg #[.bool b,.slice (some ⟨g,o,none⟩) (x.1.length+x.2.length) cap,.int .i64 x.2.length]/\x.1.length+x.2.length<=cap/\cap<=maxLen/\(∃ c,w.cell? ⟨g,0,none⟩=some (.int .u8 c))/\xK w (some ⟨g,o,none⟩) (xW (x.1++x.2))/\EV x
theorem uR.below{w w':World}{v:Value}{x:Dg}(h:uR w v x)(hb:Below w.heap.size w w'):uR w' v x:=by
 obtain⟨b,g,o,cap,h1,h2,h3,h4,h5,h6⟩:=h;exact⟨b,g,o,cap,h1,h2,h3,h4.imp fun _ hc=>(hb.cell (zY w _ hc)).trans hc,h5.below hb,h6⟩
theorem uR.ok{w:World}{v:Value}{x:Dg}(h:uR w v x):EV x:=by
 obtain⟨b,g,o,cap,h1,h2,h3,h4,h5,h6⟩:=h;exact h6
theorem Jx(a b:List UInt8):xW (a++b)=xW a++xW b:=by simp[xW]
theorem vX(a:List UInt8):(xW a).length=a.length:=by simp[xW]
theorem TN(l:List UInt8):(xW l).dropWhile (· == 0)=xW (l.dropWhile (· == 48)):=by
 induction l with
 | nil=>rfl
 | cons c t ih =>
  have h2:=bY c 48;have h3:((48:UInt8).toNat:Int)=48:=rfl;rw[h3] at h2;have h4:(((c.toNat:Int) - 48)==0)=(c==48):=by
   rw[zV,beq_iff_eq,beq_iff_eq];rw[zV,beq_iff_eq,decide_eq_true_eq] at h2;rw[←h2];omega
  rw[show xW (c::t)=((c.toNat:Int) - 48)::xW t from rfl];by_cases hc:(c==48)=true
  ·rw[zf (p:=fun x:Int=>x==0) (h4.trans hc),zf (p:=fun x:UInt8=>x==48) hc,ih]
  ·rw[zZ (p:=fun x:Int=>x==0) (by rw[h4];exact hc),zZ (p:=fun x:UInt8=>x==48) hc];rfl
theorem UD(l:List UInt8):jB l=if l.dropWhile (· == 48)=[] then [48] else l.dropWhile (· == 48):=by
 unfold jB;by_cases h:l=[]
 ·subst h;rfl
 ·rw[if_neg h];induction l with
  | nil=>exact absurd rfl h
  | cons c t ih =>
   by_cases hc:c=48
   ·subst hc;rw[zf (by decide)];by_cases ht:t=[]
    ·subst ht;rfl
    ·rw[Ov ht rfl,ih ht]
   ·rw[Ou hc,zZ (by simpa using hc),if_neg (by simp)]
theorem TO{l:List UInt8}(h:l.all xJ=true):(jB l).all xJ=true:=by
 rw[UD];split
 ·decide
 ·rw[zX] at h ⊢;exact fun c hc=>h c ((zk _).subset hc)
theorem TP(l:List UInt8):(jB l).length<=l.length\/(jB l).length=1:=by
 rw[UD];split
 ·exact .inr rfl
 ·exact .inl (zk (· == 48) (l:=l)).length_le
theorem Xc(n:Nat):(xI n).all xJ=true:=by
 induction n using Nat.strongRecOn with
 | _ n ih =>
  have hd:∀ d,d<10->xJ (kK d)=true:=by
   intro d h;rw[vR];have:=Y5 h;omega
  by_cases h:n<10
  ·rw[qv h];simp[hd n h]
  ·rw[dz h,zO,ih (n / 10) (by omega)];simp[hd (n % 10) (by omega)]
theorem bj(n:Nat):xI n≠[]:=by
 by_cases h:n<10
 ·rw[qv h];simp
 ·rw[dz h];simp
theorem qA:∀ (k n:Nat),n<10 ^ (k+1)->(xI n).length<=k+1
 | 0,n,h=>by rw[qv (by simpa using h)];simp
 | k+1,n,h=>by
  by_cases dw:n<10
  ·rw[qv dw];simp
  ·rw[dz dw];have:=qA k (n / 10) (by rw[ze] at h;omega);simp;omega
def qh(x:Dg)(w:World)(e:Ending)(w':World):Prop:=(∃ v,e = .returned v/\uR w' v x)/\Below w.heap.size w w'
theorem VU{w w':World}{g cap n:Nat}{b:Bool}{d:List UInt8}{x:Dg}(hx:x.1++x.2=d)(hn:n=d.length)(ho:w'.ownsRow w.heap.size 5 1 (.slice (some ⟨g,0,none⟩) n cap) n (xw d))(ku:EV x) :
  uR w' (.agg #[.bool b,.slice (some ⟨g,0,none⟩) n cap,.int .i64 x.2.length]) x:=by
 subst hn;have hl:x.1.length+x.2.length=d.length:=by rw[←hx];simp
 have hB:=qM ho rfl;rw[←hx] at hB;have xD:∃ c,w'.cell? ⟨g,0,none⟩=some (.int .u8 c):=by
  obtain⟨q,hq,hc⟩:=hB 0 (by rw[vX,zD];have:=zo.2 ku.ne;omega)
  cases hq;exact⟨_,hc⟩
 refine⟨b,g,0,cap,by rw[hl],?_,?_,xD,hB,ku⟩;all_goals
  rcases ho.2 with⟨hv,_⟩|⟨g2,uG,cur,hv,_,_,h1,h2,_⟩
  ·cases hv
  ·cases hv;omega
theorem BA(v:Nat)(w:World)(hv:v<=1000000000):Calls prog 166 #[.int .i64 v] w (qh (xI v,[]) w):=by
 refine(Y6 v w hv).mono ?_;rintro e w' ⟨⟨g,cap,rfl,ho⟩,hb⟩;have:=qA 9 v (by omega);exact⟨⟨_,rfl,VU (x:=(xI v,[])) (zN _) rfl ho ⟨Xc v,rfl,bj v,by show(xI v).length<=100;omega,by simp⟩⟩,hb⟩
theorem FY(l:List UInt8)(a:Option Addr)(cap:Nat)(w:World)(hd:l.all xJ=true)(hl:l.length<=100)(dQ:l.length<=cap)(jJ:cap<=maxLen)(hB:xK w a (xW l)) :
  Calls prog 214 #[.slice a l.length cap] w (qh (jB l,[]) w):=by
 have DW:=vX l;have hT:=EY (xW l) a cap;rw[DW] at hT;have HT:=z8 hT;have HB:=z8 hB;obtain⟨r,hr⟩:=xX (l.dropWhile (· == 48));have hrv:(xW l).dropWhile (· == 0)=xW r:=by rw[TN,hr]
 have O2:jB l=if r=[] then [48] else r:=by rw[UD,hr]
 have RB:=TO hd;have hpn:=TP l;have HPL:=z8 O2;have HRV:=z8 hrv;have eO:=z8 RB;clear hT hB DW hr hrv O2 RB;go_enter func214,ntmps214;go_wp2_with fail;refine(HT.out _ (by omega) dQ (by unfold maxLen at jJ;omega) ?_).mono ?_
 ·exact HB.out.alloc _
 rintro e w1 ⟨⟨a',ve,rfl,h2,h3,h4⟩,rfl⟩;rw[HRV.out,vX] at *;obtain⟨W,hW⟩:∃ W,W=w.alloc (.cells #[.bool false,.slice none 0 0,.int .i64 0] 97):=⟨_,rfl⟩;have F:W.heap.size=w.heap.size+1/\Below w.heap.size w W/\W.cell? ⟨w.heap.size,0,none⟩=some (.bool false)/\W.cell? ⟨w.heap.size,1,none⟩=some (.slice none 0 0)/\W.cell? ⟨w.heap.size,2,none⟩=some (.int .i64 0) /\
   W.frozen? ⟨w.heap.size,0,none⟩=false/\W.frozen? ⟨w.heap.size,1,none⟩=false/\W.frozen? ⟨w.heap.size,2,none⟩=false:=by
  subst hW;exact⟨by simp,(zv _ _).alloc (z7 _) _,by go_simp,by go_simp,by go_simp,by go_simp,by go_simp,by go_simp⟩
 obtain⟨f1,f2,f3,f4,f5,f6,f7,f8⟩:=F;rw[←hW] at h2 ⊢;clear hW;have xD:w.heap.size<W.heap.size:=by omega
 by_cases vv:r=[]
 ·have hp:=HPL.out;rw[if_pos vv] at hp;have HP:=z8 hp;clear hp;subst vv;go_wp2_with fail;refine(Y6 0 _ (by omega)).mono ?_;rintro e w2 ⟨⟨g,uG,rfl,ho⟩,xF⟩;have c0:=(xF.cell (p:=⟨w.heap.size,0,none⟩) xD).trans f3;have c1:=(xF.cell (p:=⟨w.heap.size,1,none⟩) xD).trans f4;have c2:=(xF.cell (p:=⟨w.heap.size,2,none⟩) xD).trans f5;have z0:=(xF.frozen (p:=⟨w.heap.size,0,none⟩) xD).trans f6;have z1:=(xF.frozen (p:=⟨w.heap.size,1,none⟩) xD).trans f7;have z2:=(xF.frozen (p:=⟨w.heap.size,2,none⟩) xD).trans f8;have hg:=(ho.lt g rfl).1;have Zv:Below w.heap.size w w2:=f2.trans (xF.mono (by omega));clear f3 f4 f5 f6 f7 f8 xF f2;go_wp2;refine bodyPost_ret (v := .agg #[.bool false,.slice (some ⟨g,0,none⟩) (xI 0).length uG,.int .i64 0]) ?_ rfl ?_
  ·simp[results,results214,go_sem,c0,c1,c2]
  have hn:some w.heap.size≠(za (some ⟨g,0,none⟩) (xI 0).length uG).ownBlock:=fun e=>by simp[zP] at e;omega
  rw[HP.out];exact⟨⟨_,rfl,VU (w:=w) (x:=([48],[])) (d:=xI 0) (by rw[qv (by decide)];rfl) rfl (xp (xp (xp (gP ho (by omega)) hn _) hn _) hn _) ⟨by decide,rfl,by simp,by simp,by simp⟩⟩,((Zv.setCell (z7 _) _).setCell (z7 _) _).setCell (z7 _) _⟩
 ·have hp:=HPL.out;rw[if_neg vv] at hp;have HP:=z8 hp;clear hp;have jm:0<r.length:=zo.2 vv;obtain⟨b,rfl,_⟩:=h2 0 (by rw[vX];exact jm);have xc:((r.length:Int)==0)=false:=by simp;omega
  have JB:r.length<=100:=by rw[←HP.out];omega
  have H2:=z8 h2;have gX:=z8 vv;clear h2 vv;go_wp2_with fail;refine(TH r b ve _ (by omega) H2.out).mono ?_;rintro e w2 ⟨⟨v,rfl,ho⟩,xF⟩;obtain⟨g,uG,rfl,hg,ft,_⟩:=xl ho jm;have c0:=(xF.cell (p:=⟨w.heap.size,0,none⟩) xD).trans f3;have c1:=(xF.cell (p:=⟨w.heap.size,1,none⟩) xD).trans f4;have c2:=(xF.cell (p:=⟨w.heap.size,2,none⟩) xD).trans f5;have z0:=(xF.frozen (p:=⟨w.heap.size,0,none⟩) xD).trans f6;have z1:=(xF.frozen (p:=⟨w.heap.size,1,none⟩) xD).trans f7;have z2:=(xF.frozen (p:=⟨w.heap.size,2,none⟩) xD).trans f8;have Zv:Below w.heap.size w w2:=f2.trans (xF.mono (by omega));clear f3 f4 f5 f6 f7 f8 xF f2;go_wp2;refine bodyPost_ret (v := .agg #[.bool false,.slice (some ⟨g,0,none⟩) r.length uG,.int .i64 0]) ?_ rfl ?_
  ·simp[results,results214,go_sem,c0,c1,c2]
  have hn:some w.heap.size≠(za (some ⟨g,0,none⟩) r.length uG).ownBlock:=fun e=>by simp[zP] at e;omega
  have RB:=eO.out;rw[HP.out] at RB ⊢;exact⟨⟨_,rfl,VU (w:=w) (x:=(r,[])) (zN _) rfl (xp (xp (xp (gP ho (by omega)) hn _) hn _) hn _) ⟨RB,rfl,gX.out,JB,by simp⟩⟩,((Zv.setCell (z7 _) _).setCell (z7 _) _).setCell (z7 _) _⟩
theorem TR{l:List UInt8}(h:l.all xJ=true):∀ x∈xW l,0<=x/\x<=9:=by
 intro x hx;simp only[xW,List.mem_map] at hx;obtain⟨c,hc,rfl⟩:=hx;have:=(vR c).1 (zX.1 h c hc);omega
theorem rF(l:List UInt8):(xW l).any (· != 0)=brk l:=by
 have:=zero_eq l;unfold brk;have h2:(l.all (· == 48)) = !(l.any (· != 48)):=by
  rw[List.all_eq_not_any_not];rfl
 rw[h2] at this;simpa using congrArg (fun b => !b) this
theorem eP(g o:Nat)(n cap sc:Nat)(b:Bool)(l:List Int)(w:World)(hl:l.length=n)(hs:sc<=n)(dQ:n<=cap)(hn:n<=1000000)(hB:xK w (some ⟨g,o,none⟩) l) :
  Calls prog 70 #[.agg #[.bool b,.slice (some ⟨g,o,none⟩) n cap,.int .i64 sc]] w fun e w'=>(∃ Yj ve,e = .returned (.slice Yj (n - sc) ve)/\n - sc<=ve/\ve<=cap/\xK w' Yj (l.take (n - sc)))/\Below w.heap.size w w':=by
 obtain⟨k,hk⟩:∃ k,n=k+sc:=⟨n - sc,by omega⟩;subst hk;rw[show k+sc - sc=k from by omega];have h0:(0:Int)<=((k+sc:Nat):Int) - (sc:Int):=by omega
 have h1:((k+sc:Nat):Int) - (sc:Int)=(k:Int):=by omega
 have h2:k<=cap:=by omega
 go_enter func70,ntmps70;go_wp2;go_ret;exact⟨⟨_,_,rfl,by omega,by omega,(hB.alloc _).take k⟩,(zv _ _).alloc (z7 _) _⟩
theorem TS(g o:Nat)(n cap sc:Nat)(b:Bool)(l:List Int)(w:World)(hl:l.length=n)(hs:sc<=n)(dQ:n<=cap)(hn:n<=1000000)(hB:xK w (some ⟨g,o,none⟩) l) :
  Calls prog 72 #[.agg #[.bool b,.slice (some ⟨g,o,none⟩) n cap,.int .i64 sc]] w fun e w'=>(∃ Yj ve,e = .returned (.slice (some Yj) sc ve)/\sc<=ve/\ve<=cap/\xK w' (some Yj) (l.drop (n - sc)))/\Below w.heap.size w w':=by
 obtain⟨k,hk⟩:∃ k,n=k+sc:=⟨n - sc,by omega⟩;subst hk;rw[show k+sc - sc=k from by omega];have h1:((k+sc:Nat):Int) - (sc:Int)=(k:Int):=by omega
 have h2:k<=cap:=by omega
 go_enter func72,ntmps72;by_cases DV:cap=k
 ·have hz:l.drop k=[]:=zW (by omega);have HZ:=z8 hz;clear hz;go_wp2;go_ret;refine⟨⟨_,_,rfl,by omega,by omega,?_⟩,(zv _ _).alloc (z7 _) _⟩;rw[HZ.out];intro j hj;simp at hj
 ·go_wp2;go_ret;exact⟨⟨_,_,rfl,by omega,by omega,(hB.alloc _).drop k⟩,(zv _ _).alloc (z7 _) _⟩
theorem KN(v:Value)(x:Dg)(w:World)(h:uR w v x) :
  Calls prog 72 #[v] w fun e w'=>(∃ Yj ve,e = .returned (.slice (some Yj) x.2.length ve)/\x.2.length<=ve/\ve<=maxLen/\xK w' (some Yj) (xW x.2))/\Below w.heap.size w w':=by
 obtain⟨b,g,go,cap,rfl,h2,h3,h4,h5,h6⟩:=h;have Pc:=h6.FZ;have h62:=h6.JI;refine(TS g go (x.1.length+x.2.length) cap x.2.length b (xW (x.1++x.2)) w (by rw[vX];simp) (by omega) h2 (by omega) h5).mono ?_;rintro e w' ⟨⟨Yj,ve,rfl,qX,jJ,hB⟩,hb⟩;refine⟨⟨Yj,ve,rfl,qX,by omega,?_⟩,hb⟩;have:(xW (x.1++x.2)).drop (x.1.length+x.2.length - x.2.length)=xW x.2:=by
  rw[zt,Jx,List.drop_append_of_le_length (by rw[vX];exact z7 _),zW (by rw[vX];exact z7 _),List.nil_append]
 rw[this] at hB;exact hB
theorem FX(v:Value)(x:Dg)(w:World)(h:uR w v x) :
  Calls prog 72 #[v] w fun e w'=>(∃ Yj ve,e = .returned (.slice Yj x.2.length ve)/\x.2.length<=ve/\ve<=maxLen/\xK w' Yj (xW x.2))/\Below w.heap.size w w' :=
 (KN v x w h).mono fun _ _ ⟨⟨a,c,h1,h2,h3,h4⟩,hb⟩=>⟨⟨some a,c,h1,h2,h3,h4⟩,hb⟩
theorem EU(v:Value)(x:Dg)(w:World)(h:uR w v x) :
  Calls prog 70 #[v] w fun e w'=>(∃ Yj ve,e = .returned (.slice Yj x.1.length ve)/\x.1.length<=ve/\ve<=maxLen/\xK w' Yj (xW x.1))/\Below w.heap.size w w':=by
 obtain⟨b,g,go,cap,rfl,h2,h3,h4,h5,h6⟩:=h;have Pc:=h6.FZ;have h62:=h6.JI;refine(eP g go (x.1.length+x.2.length) cap x.2.length b (xW (x.1++x.2)) w (by rw[vX];simp) (by omega) h2 (by omega) h5).mono ?_;rintro e w' ⟨⟨Yj,ve,rfl,qX,jJ,hB⟩,hb⟩;rw[zt] at hB qX ⊢;refine⟨⟨Yj,ve,rfl,qX,by omega,?_⟩,hb⟩;have:(xW (x.1++x.2)).take x.1.length=xW x.1:=by
  rw[Jx,List.take_append_of_le_length (by rw[vX];exact z7 _),List.take_of_length_le (by rw[vX];exact z7 _)]
 rw[this] at hB;exact hB
theorem FV(v:Value)(x:Dg)(w:World)(h:uR w v x) :
  Calls prog 210 #[v] w fun e w'=>e = .returned (.bool (brk x.2))/\Below w.heap.size w w':=by
 have hb:=rF x.2;have hl:=h.ok.JI;have hF:=fun W (hW:uR W v x)=>FX v x W hW
 have HF:=z8 hF;have HH:=z8 h;have HB:=z8 hb;obtain⟨b,g,go,cap,rfl,_,_,_,_,_⟩:=h;clear hF hb;go_enter func210,ntmps210;go_wp2_with fail;refine(HF.out _ (HH.out.below ((zv _ _).alloc (z7 _) _))).mono ?_;rintro e w1 ⟨⟨Yj,ve,rfl,_,_,hB⟩,xB⟩;have Zv:Below w.heap.size w w1:=((zv _ _).alloc (z7 _) _).trans (xB.mono (by simp));have hC:=XN (xW x.2) Yj ve w1 (by rw[vX];omega) hB;rw[vX,HB.out] at hC;have HC:=z8 hC;clear hC hB xB;go_wp2_with fail;refine HC.out.mono ?_;rintro e w2 ⟨rfl,rfl⟩;go_wp2;go_ret;exact⟨rfl,Zv⟩
theorem rD(v:Value)(x:Dg)(w:World)(h:uR w v x):Calls prog 212 #[v] w (qh x w):=by
 have HH:=z8 h;obtain⟨b,g,go,cap,rfl,h2,h3,h4,h5,h6⟩:=h;go_enter func212,ntmps212;go_wp2;refine bodyPost_ret (v := .agg #[.bool false,.slice (some ⟨g,go,none⟩) (x.1.length+x.2.length) cap,.int .i64 x.2.length]) ?_ rfl ?_
 ·simp[results,results212,go_sem]
 have hb:Below w.heap.size w ((w.alloc (.cells #[.bool false,.slice (some ⟨g,go,none⟩) (x.1.length+x.2.length) cap,.int .i64 x.2.length] 97)).alloc (.cells #[.bool false,.slice (some ⟨g,go,none⟩) (x.1.length+x.2.length) cap,.int .i64 x.2.length] 97)):=((zv _ _).alloc (z7 _) _).alloc (by simp) _;exact⟨⟨_,rfl,false,g,go,cap,rfl,h2,h3,h4.imp fun _ hc=>(hb.cell (zY w _ hc)).trans hc,h5.below hb,h6⟩,hb⟩
theorem Ba(l:Wd)(c:UInt8):xE (l++[c])=10*xE l+(c.toNat - 48):=by simp[xE]
theorem LH(l:Wd):∀ v,l.foldl (fun v c=>10*v+(c.toNat - 48)) v=v*10 ^ l.length+xE l:=by
 induction l with
 | nil=>intro v;simp[xE]
 | cons c t ih =>
  intro v;unfold xE;rw[zM,zM,ih,ih,zL,ze];simp only[Nat.mul_zero,zc,zm];rw[Nat.mul_comm 10 v,Nat.mul_assoc,Nat.mul_comm 10 (10 ^ t.length),Nat.add_assoc]
theorem qy(c:UInt8)(l:Wd):xE (c::l)=(c.toNat - 48)*10 ^ l.length+xE l:=by
 rw[xE,zM,LH];simp
theorem eR(a b:Wd):xE (a++b)=xE a*10 ^ b.length+xE b:=by rw[xE,List.foldl_append,LH];rfl
theorem QK(k:Nat)(l:Wd):xE (zS k 48++l)=xE l:=by
 induction k with
 | zero=>simp
 | succ k ih =>
  rw[zn,zw,qy,ih];simp
theorem Xe(k:Nat):xE (zS k 48)=0:=by
 have:=QK k [];rw[zN] at this;rw[this];rfl
theorem LI(l:Wd)(k:Nat):xE (l++zS k 48)=xE l*10 ^ k:=by rw[eR,Xe];simp
theorem kV{c:UInt8}(h:xJ c=true):48<=c.toNat/\c.toNat<=57:=by have:=(vR c).1 h;omega
theorem QJ:∀ (l:Wd),l.all xJ=true->xE l<10 ^ l.length
 | [],_=>by simp[xE]
 | c::l,h=>by
  rw[zj,zx] at h;have h1:=QJ l h.2;have h2:=kV h.1;rw[qy,zL,ze];have h3:(c.toNat - 48)*10 ^ l.length<=9*10 ^ l.length:=zg _ (by omega);omega
theorem Bc{c:UInt8}(h:xJ c=true):kK (c.toNat - 48)=c:=by
 have h2:=kV h;unfold kK;apply zF;rw[zG];omega
theorem LM{c:UInt8}{l:Wd}(hc:xJ c=true)(h:c≠48):10 ^ l.length<=xE (c::l):=by
 have h2:=kV hc;have h3:c.toNat≠48:=fun e=>h (zF e)
 rw[qy];have:1*10 ^ l.length<=(c.toNat - 48)*10 ^ l.length:=zg _ (by omega);omega
theorem EK:∀ (n:Nat) (l:Wd),l.length=n->l.all xJ=true->(l.headD 48≠48\/l.length=1)->xI (xE l)=l
 | 0,l,h,_,h2=>by
  have:l=[]:=List.eq_nil_of_length_eq_zero h;subst this;simp at h2
 | n+1,l,h,hd,h2=>by
  rcases List.eq_nil_or_concat l with rfl|⟨l',c,rfl⟩
  ·simp at h
  ·rw[List.concat_eq_append] at *;rw[zO,zx] at hd;have hc:xJ c=true:=by simpa using hd.2
   have Qy:=kV hc;rw[Ba]
   cases l' with
   | nil =>
    rw[show xE []=0 from rfl,Nat.mul_zero,zc,qv (by omega),Bc hc];rfl
   | cons a t =>
    have ha:a≠48:=by
     rcases h2 with h2|h2
     ·simpa using h2
     ·simp at h2
    have had:xJ a=true:=by
     have:=hd.1;rw[zj,zx] at this;exact this.1
    have h3:=LM (l:=t) had ha;have h4:1<=10 ^ t.length:=Nat.one_le_pow _ _ (by omega);rw[dz (by omega),show(10*xE (a::t)+(c.toNat - 48)) / 10=xE (a::t) by omega,show(10*xE (a::t)+(c.toNat - 48)) % 10=c.toNat - 48 by omega,Bc hc,
     EK n (a::t) (by simp at h ⊢;omega) hd.1 (.inl (by simpa using ha))]
theorem RE(n:Nat):xE (xI n)=n:=by
 induction n using Nat.strongRecOn with
 | _ n ih =>
  have hd:∀ d,d<10->(kK d).toNat - 48=d:=by
   intro d h;unfold kK;rw[zG];omega
  by_cases h:n<10
  ·rw[qv h,qy];simp[hd n h,xE]
  ·rw[dz h,Ba,ih (n / 10) (by omega),hd _ (by omega)];omega
theorem RH:∀ (l:Wd),l.all xJ=true->l≠[]->fk l.length (xI (xE l))=l
 | [],_,h=>absurd rfl h
 | c::t,hd,_=>by
  by_cases hc:c=48
  ·subst hc;have Df:t.all xJ=true:=by
    rw[zj,zx] at hd;exact hd.2
   have e:xE (48::t)=xE t:=by rw[qy];simp
   rw[e];by_cases ht:t=[]
   ·subst ht;rw[show xE []=0 from rfl,qv (by omega)];rfl
   ·have ih:=RH t Df ht;have hl:(xI (xE t)).length<=t.length:=by
     have:=congrArg List.length ih;rw[fk,zD,zi] at this;omega
    unfold fk at ih ⊢;rw[zL,show t.length+1 - (xI (xE t)).length=(t.length - (xI (xE t)).length)+1 by omega,zn,zw,ih]
  ·rw[EK _ (c::t) rfl hd (.inl (by simpa using hc))];simp[fk]
theorem RI{d:Wd}{k:Nat}(hd:d.all xJ=true)(xc:d≠[])(hk:k<=d.length)(h:d.length=k\/d.headD 48≠48):fk k (xI (xE d))=d:=by
 rcases h with h|h
 ·rw[←h];exact RH d hd xc
 ·rw[EK _ d rfl hd (.inl h),fk,Nat.sub_eq_zero_of_le hk];rfl
theorem Jh(k:Nat)(l:Wd):(fk k l).length=max k l.length:=by rw[fk,zD,zi];omega
theorem RL{k:Nat}{l:Wd}(h:l.all xJ=true):(fk k l).all xJ=true:=by
 rw[fk,zO,h,Bool.and_true,zX];intro c hc;rw[List.eq_of_mem_replicate hc];rfl
theorem FU:∀ {l:Wd},l.all xJ=true->((l.all (· == 48))=true ↔ xE l=0)
 | [],_=>by simp[xE]
 | c::t,h=>by
  rw[zj,zx] at h;have h1:=FU h.2;rw[zj,zx,beq_iff_eq,h1];by_cases hc:c=48
  ·subst hc;rw[qy];simp
  ·have:=LM (l:=t) h.1 hc;have h4:1<=10 ^ t.length:=Nat.one_le_pow _ _ (by omega);simp only[hc,false_and,false_iff];omega
theorem LN:∀ (x y:Wd),x.length=y.length->x.all xJ=true->y.all xJ=true->(zI x y=true ↔ xE x<xE y)
 | [],[],_,_,_=>by simp[zI]
 | [],_::_,h,_,_=>by simp at h
 | _::_,[],h,_,_=>by simp at h
 | a::x,b::y,h,hx,hy=>by
  rw[zj,zx] at hx hy;have hl:x.length=y.length:=by simpa using h
  have ih:=LN x y hl hx.2 hy.2;have h1:=QJ x hx.2;have h2:=QJ y hy.2;have ha:=kV hx.1;have hb:=kV hy.1;rw[hl] at h1;rw[zI,Bool.or_eq_true,decide_eq_true_eq,zx,beq_iff_eq,ih,UInt8.lt_iff_toNat_lt,qy,qy,hl];by_cases h3:a.toNat<b.toNat
  ·have h4:(a.toNat - 48+1)*10 ^ y.length<=(b.toNat - 48)*10 ^ y.length:=zg _ (by omega);rw[zm,Nat.one_mul] at h4;simp only[h3,true_or,true_iff];omega
  ·by_cases h5:a=b
   ·subst h5;simp
   ·have h6:b.toNat<a.toNat:=by
     have:a.toNat≠b.toNat:=fun e=>h5 (zF e)
     omega
    have h4:(b.toNat - 48+1)*10 ^ y.length<=(a.toNat - 48)*10 ^ y.length:=zg _ (by omega);rw[zm,Nat.one_mul] at h4;simp only[h3,h5,false_or,false_and,false_iff];omega
theorem eS{x y:Wd}(h:x.length=y.length)(hx:x.all xJ=true)(hy:y.all xJ=true):(if zI x y=true then (-1:Int) else if x=y then 0 else 1)<0 ↔ xE x<xE y:=by
 rw[←LN x y h hx hy];split
 ·next h1=>simp[h1]
 ·next h1 =>
  simp only[h1];split<;>simp
theorem Oc{w:World}{a:Option Addr}{l:List Int}(h:xK w a l)(k:Nat):xK w a (l.take k):=fun j hj=>by
 obtain⟨b,h1,h2⟩:=h j (by simp at hj;omega);exact⟨b,h1,by simpa using h2⟩
theorem Oe{l:List UInt8}{k:Nat}(hk:k<l.length)(h:l[k]=48):uF (l.take (k+1))=uF (l.take k):=by
 rw[zE hk,h,short_zero]
theorem Oi{l:List UInt8}{k:Nat}(hk:k<l.length)(h:¬l[k]=48):uF (l.take (k+1))=l.take (k+1):=by
 rw[zE hk,Oq _ _ h]
theorem EJ(c:UInt8):(((c.toNat:Int) - 48)==0)=(c==48):=by
 have h2:=bY c 48;have h3:((48:UInt8).toNat:Int)=48:=rfl;rw[h3] at h2;rw[zV,beq_iff_eq,beq_iff_eq];rw[zV,beq_iff_eq,decide_eq_true_eq] at h2;rw[←h2];omega
theorem Be(v:Value)(x:Dg)(w:World)(h:uR w v x) :
  Calls prog 217 #[v] w fun e w'=>(∃ ad cap,e = .returned (.slice ad (uF x.2).length cap)/\xK w' ad (xW (uF x.2))/\(uF x.2).length<=cap/\cap<=maxLen)/\Below w.heap.size w w':=by
 have hl:=h.ok.JI;have hF:=fun W (hW:uR W v x)=>FX v x W hW
 have HF:=z8 hF;have HH:=z8 h;obtain⟨b,g,go,cap,rfl,_,_,_,_,_⟩:=h;clear hF;go_enter func217,ntmps217;go_wp2_with fail;refine(HF.out _ (HH.out.below ((zv _ _).alloc (z7 _) _))).mono ?_;rintro e w1 ⟨⟨Yj,ve,rfl,qX,jJ,hB⟩,xB⟩;have Zv:Below w.heap.size w w1:=((zv _ _).alloc (z7 _) _).trans (xB.mono (by simp));have HB:=z8 hB;have jy:ve<=9223372036854775807:=by unfold maxLen at jJ;omega
 clear xB hB;obtain⟨f,hf⟩:∃ f,f=x.2:=⟨_,rfl⟩;rw[←hf] at hl qX HB ⊢;have HFE:=z8 hf;clear hf;go_wp2_with fail;go_loop [3] (fun u=>∃ k uG:Nat,k<=f.length/\u = .slice Yj k uG/\k<=uG/\uG<=ve/\uF (f.take k)=uF f) (fun u=>match u with | .slice _ n _=>n|_=>0)
 case atStart=>exact⟨f.length,ve,z7 _,rfl,qX,z7 _,by rw[List.take_length]⟩
 case round =>
  obtain⟨k,uG,hk,rfl,h1,h2,hs⟩:=hrel;have HS:=z8 hs;clear hs;by_cases h0:k=0
  ·subst h0;have hz:uF f=[]:=by rw[←HS.out];rfl
   have HZ:=z8 hz;clear hz;go_wp2;go_ret;rw[←HFE.out,HZ.out];exact⟨⟨Yj,uG,rfl,ZH _ _,Nat.zero_le _,by omega⟩,Zv⟩
  ·obtain⟨m,rfl⟩:∃ m,k=m+1:=⟨k - 1,by omega⟩;have hm:m<f.length:=by omega
   obtain⟨p,rfl,hc⟩:=HB.out m (by rw[vX];exact hm);have hvm:(xW f)[m]'(by rw[vX];exact hm)=(f[m].toNat:Int) - 48:=by simp[xW]
   rw[hvm] at hc;have hz:=EJ f[m];have e0:((m+1:Nat):Int) - 1=(m:Int):=by omega
   have e1:(0:Int)<=((m+1:Nat):Int) - 1:=by omega
   clear hvm;by_cases TY:f[m]=48
   ·have hz':(((f[m].toNat:Int) - 48)==0)=true:=by rw[hz,TY];rfl
    have vH:=Oe hm TY;rw[HS.out] at vH;have jX:=z8 vH;clear vH hz TY;go_wp2;exact⟨⟨m,uG,by omega,rfl,by omega,h2,jX.out.symm⟩,Nat.lt_succ_self _⟩
   ·have hz':(((f[m].toNat:Int) - 48)==0)=false:=by rw[hz];simpa using TY
    have vH:=Oi hm TY;rw[HS.out] at vH;have jX:=z8 vH;clear vH hz TY;go_wp2;go_ret;have hlen:(uF f).length=m+1:=by rw[jX.out];simp;omega
    rw[←HFE.out,hlen];refine⟨⟨some p,uG,rfl,?_,h1,by omega⟩,Zv⟩;rw[jX.out,show xW (f.take (m+1))=(xW f).take (m+1) by simp[xW]];exact Oc HB.out _
theorem TT{l:List UInt8}(h:l.all xJ=true):(uF l).all xJ=true:=by
 unfold uF;rw[zX] at h ⊢;intro c hc;exact h c (zh.1 ((zk _).subset (zh.1 hc)))
theorem Bi(l:List UInt8):(uF l).length<=l.length:=by
 unfold uF;have:=(zk (· == 48) (l:=l.reverse)).length_le;simpa using this
structure dJ(W:World)(q:Nat):Prop where
 c0:W.cell? ⟨q,0,none⟩=some (.bool false)
 c1:W.cell? ⟨q,1,none⟩=some (.slice none 0 0)
 c2:W.cell? ⟨q,2,none⟩=some (.int .i64 0)
 z0:W.frozen? ⟨q,0,none⟩=false
 z1:W.frozen? ⟨q,1,none⟩=false
 z2:W.frozen? ⟨q,2,none⟩=false
 lt:q<W.heap.size
theorem dJ.below{W W':World}{q:Nat}(h:dJ W q)(hb:Below W.heap.size W W'):dJ W' q :=
 ⟨(hb.cell h.lt).trans h.c0,(hb.cell h.lt).trans h.c1,(hb.cell h.lt).trans h.c2,(hb.frozen h.lt).trans h.z0,(hb.frozen h.lt).trans h.z1,(hb.frozen h.lt).trans h.z2,Nat.lt_of_lt_of_le h.lt hb.size⟩
theorem fI(w:World)(o:Obj):Below w.heap.size w ((w.alloc o).alloc (.cells #[.bool false,.slice none 0 0,.int .i64 0] 97))/\dJ ((w.alloc o).alloc (.cells #[.bool false,.slice none 0 0,.int .i64 0] 97)) (w.heap.size+1):=by
 have hs:(w.alloc o).heap.size=w.heap.size+1:=by simp
 refine⟨((zv _ _).alloc (z7 _) _).alloc (by omega) _,?_⟩;rw[←hs];exact⟨xu _ _ _ _ _,xu _ _ _ _ _,xu _ _ _ _ _,by simp,by simp,by simp,by simp⟩
theorem uR.set{w:World}{v:Value}{x:Dg}{q:Nat}{b:Bool}(h:uR w v x)(hq:w.cell? ⟨q,0,none⟩=some (.bool b))(j:Nat)(u:Value):uR (w.setCell ⟨q,j,none⟩ u) v x:=by
 obtain⟨b',g,go,cap,h1,h2,h3,h4,h5,h6⟩:=h;have xc:g≠q:=by
  rintro rfl;obtain⟨c,hc⟩:=h4;rw[hq] at hc
  cases hc
 exact⟨b',g,go,cap,h1,h2,h3,h4.imp fun _ hc=>by rw[zR (h:=by simp[xc,Ne.symm xc])];exact hc,h5.set (fun b hb=>by cases hb;exact xc) u,h6⟩
theorem gV{w W:World}{x:Dg}{q:Nat}{b:Bool}{s k:Value}(h:uR W (.agg #[.bool b,s,k]) x)(hr:dJ W q)(hq:w.heap.size<=q)(hb:Below w.heap.size w W) :
  qh x w (.returned (.agg #[.bool b,s,k])) (((W.setCell ⟨q,0,none⟩ (.bool b)).setCell ⟨q,1,none⟩ s).setCell ⟨q,2,none⟩ k):=by
 have e0:(W.setCell ⟨q,0,none⟩ (.bool b)).cell? ⟨q,0,none⟩=some (.bool b):=by rw[World.cell?_setCell_same (h:=hr.c0)]
 have e1:((W.setCell ⟨q,0,none⟩ (.bool b)).setCell ⟨q,1,none⟩ s).cell? ⟨q,0,none⟩=some (.bool b):=by rw[zR (h:=by simp)];exact e0
 exact⟨⟨_,rfl,((h.set hr.c0 0 _).set e0 1 _).set e1 2 _⟩,((hb.setCell hq _).setCell hq _).setCell hq _⟩
theorem uR.form{w:World}{v:Value}{x:Dg}(h:uR w v x):∃ b g go cap n k,v = .agg #[.bool b,.slice (some ⟨g,go,none⟩) n cap,.int .i64 k]:=by
 obtain⟨b,g,go,cap,h1,_⟩:=h;exact⟨b,g,go,cap,_,_,h1⟩
theorem yad(v:Value)(x:Dg)(w:World)(h:uR w v x):Calls prog 215 #[v] w (qh (xI x.2.length,[]) w):=by
 have ku:=h.ok;have DD:=ku.FZ;have PW:=ku.JI;have HH:=z8 h;have HO:=z8 ku;obtain⟨b,g,go,cap,rfl,_,_,_,_,_⟩:=h;clear ku;obtain⟨jz,vv⟩:=fI w (.cells #[.bool b,.slice (some ⟨g,go,none⟩) (x.1.length+x.2.length) cap,.int .i64 x.2.length] 97);go_enter func215,ntmps215;go_wp2_with fail;generalize (w.alloc (.cells #[.bool b,.slice (some ⟨g,go,none⟩) (x.1.length+x.2.length) cap,.int .i64 x.2.length] 97)).alloc (.cells #[.bool false,.slice none 0 0,.int .i64 0] 97)=W at jz vv ⊢;refine(BA x.2.length _ (by omega)).mono ?_;rintro e w2 ⟨⟨v2,rfl,Jv⟩,xF⟩;have hr:=vv.below xF;have Zv:Below w.heap.size w w2:=jz.trans (xF.mono (by have:=jz.size;omega));have c0:=hr.c0;have c1:=hr.c1;have c2:=hr.c2;have z0:=hr.z0;have z1:=hr.z1;have z2:=hr.z2;have TW:=z8 Jv;obtain⟨b2,g2,Mw,uG,n2,k2,rfl⟩:=Jv.form;clear Jv;go_wp2;refine bodyPost_ret (v := .agg #[.bool b2,.slice (some ⟨g2,Mw,none⟩) n2 uG,.int .i64 k2]) ?_ rfl ?_
 ·simp[results,results215,go_sem,c0,c1,c2]
 exact gV TW.out hr (by omega) Zv
theorem yab(v:Value)(x:Dg)(w:World)(h:uR w v x):Calls prog 213 #[v] w (qh (jB x.1,[]) w):=by
 have ku:=h.ok;have DD:=ku.FZ;have PW:=ku.JI;have HH:=z8 h;have HO:=z8 ku;obtain⟨b,g,go,cap,rfl,_,_,_,_,_⟩:=h;clear ku;obtain⟨jz,vv⟩:=fI w (.cells #[.bool b,.slice (some ⟨g,go,none⟩) (x.1.length+x.2.length) cap,.int .i64 x.2.length] 97);go_enter func213,ntmps213;go_wp2_with fail;generalize (w.alloc (.cells #[.bool b,.slice (some ⟨g,go,none⟩) (x.1.length+x.2.length) cap,.int .i64 x.2.length] 97)).alloc (.cells #[.bool false,.slice none 0 0,.int .i64 0] 97)=W at jz vv ⊢;refine(EU _ x _ (HH.out.below jz)).mono ?_;rintro e w1 ⟨⟨Yj,ve,rfl,qX,jJ,hB⟩,xB⟩;have Xv:=vv.below xB;have vO:Below w.heap.size w w1:=jz.trans (xB.mono (by have:=jz.size;omega));have HB:=z8 hB;clear hB;go_wp2_with fail;refine(FY x.1 Yj ve _ HO.out.eN (by omega) qX jJ HB.out).mono ?_;rintro e w2 ⟨⟨v2,rfl,Jv⟩,xF⟩;have hr:=Xv.below xF;have Zv:Below w.heap.size w w2:=vO.trans (xF.mono (by have:=vO.size;omega));have c0:=hr.c0;have c1:=hr.c1;have c2:=hr.c2;have z0:=hr.z0;have z1:=hr.z1;have z2:=hr.z2;have TW:=z8 Jv;obtain⟨b2,g2,Mw,uG,n2,k2,rfl⟩:=Jv.form;clear Jv;go_wp2;refine bodyPost_ret (v := .agg #[.bool b2,.slice (some ⟨g2,Mw,none⟩) n2 uG,.int .i64 k2]) ?_ rfl ?_
 ·simp[results,results213,go_sem,c0,c1,c2]
 exact gV TW.out hr (by omega) Zv
theorem yc0(v:Value)(x:Dg)(w:World)(h:uR w v x):Calls prog 216 #[v] w (qh (xI (uF x.2).length,[]) w):=by
 have ku:=h.ok;have DD:=ku.FZ;have PW:=ku.JI;have HH:=z8 h;have HO:=z8 ku;have fU:=Bi x.2;obtain⟨b,g,go,cap,rfl,_,_,_,_,_⟩:=h;clear ku;obtain⟨jz,vv⟩:=fI w (.cells #[.bool b,.slice (some ⟨g,go,none⟩) (x.1.length+x.2.length) cap,.int .i64 x.2.length] 97);go_enter func216,ntmps216;go_wp2_with fail;generalize (w.alloc (.cells #[.bool b,.slice (some ⟨g,go,none⟩) (x.1.length+x.2.length) cap,.int .i64 x.2.length] 97)).alloc (.cells #[.bool false,.slice none 0 0,.int .i64 0] 97)=W at jz vv ⊢;refine(Be _ x _ (HH.out.below jz)).mono ?_;rintro e w1 ⟨⟨Yj,ve,rfl,hB,qX,jJ⟩,xB⟩;have Xv:=vv.below xB;have vO:Below w.heap.size w w1:=jz.trans (xB.mono (by have:=jz.size;omega));clear hB;go_wp2_with fail;refine(BA (uF x.2).length _ (by omega)).mono ?_;rintro e w2 ⟨⟨v2,rfl,Jv⟩,xF⟩;have hr:=Xv.below xF;have Zv:Below w.heap.size w w2:=vO.trans (xF.mono (by have:=vO.size;omega));have c0:=hr.c0;have c1:=hr.c1;have c2:=hr.c2;have z0:=hr.z0;have z1:=hr.z1;have z2:=hr.z2;have TW:=z8 Jv;obtain⟨b2,g2,Mw,uG,n2,k2,rfl⟩:=Jv.form;clear Jv;go_wp2;refine bodyPost_ret (v := .agg #[.bool b2,.slice (some ⟨g2,Mw,none⟩) n2 uG,.int .i64 k2]) ?_ rfl ?_
 ·simp[results,results216,go_sem,c0,c1,c2]
 exact gV TW.out hr (by omega) Zv
theorem yc1(v:Value)(x:Dg)(w:World)(h:uR w v x):Calls prog 218 #[v] w (qh (jB x.2,[]) w):=by
 have ku:=h.ok;have DD:=ku.FZ;have PW:=ku.JI;have HH:=z8 h;have HO:=z8 ku;obtain⟨b,g,go,cap,rfl,_,_,_,_,_⟩:=h;clear ku;obtain⟨jz,vv⟩:=fI w (.cells #[.bool b,.slice (some ⟨g,go,none⟩) (x.1.length+x.2.length) cap,.int .i64 x.2.length] 97);go_enter func218,ntmps218;go_wp2_with fail;generalize (w.alloc (.cells #[.bool b,.slice (some ⟨g,go,none⟩) (x.1.length+x.2.length) cap,.int .i64 x.2.length] 97)).alloc (.cells #[.bool false,.slice none 0 0,.int .i64 0] 97)=W at jz vv ⊢;refine(FX _ x _ (HH.out.below jz)).mono ?_;rintro e w1 ⟨⟨Yj,ve,rfl,qX,jJ,hB⟩,xB⟩;have Xv:=vv.below xB;have vO:Below w.heap.size w w1:=jz.trans (xB.mono (by have:=jz.size;omega));have HB:=z8 hB;clear hB;go_wp2_with fail;refine(FY x.2 Yj ve _ HO.out.TM (by omega) qX jJ HB.out).mono ?_;rintro e w2 ⟨⟨v2,rfl,Jv⟩,xF⟩;have hr:=Xv.below xF;have Zv:Below w.heap.size w w2:=vO.trans (xF.mono (by have:=vO.size;omega));have c0:=hr.c0;have c1:=hr.c1;have c2:=hr.c2;have z0:=hr.z0;have z1:=hr.z1;have z2:=hr.z2;have TW:=z8 Jv;obtain⟨b2,g2,Mw,uG,n2,k2,rfl⟩:=Jv.form;clear Jv;go_wp2;refine bodyPost_ret (v := .agg #[.bool b2,.slice (some ⟨g2,Mw,none⟩) n2 uG,.int .i64 k2]) ?_ rfl ?_
 ·simp[results,results218,go_sem,c0,c1,c2]
 exact gV TW.out hr (by omega) Zv
theorem yc2(v:Value)(x:Dg)(w:World)(h:uR w v x):Calls prog 219 #[v] w (qh (jB (uF x.2),[]) w):=by
 have ku:=h.ok;have DD:=ku.FZ;have PW:=ku.JI;have HH:=z8 h;have HO:=z8 ku;have fU:=Bi x.2;obtain⟨b,g,go,cap,rfl,_,_,_,_,_⟩:=h;clear ku;obtain⟨jz,vv⟩:=fI w (.cells #[.bool b,.slice (some ⟨g,go,none⟩) (x.1.length+x.2.length) cap,.int .i64 x.2.length] 97);go_enter func219,ntmps219;go_wp2_with fail;generalize (w.alloc (.cells #[.bool b,.slice (some ⟨g,go,none⟩) (x.1.length+x.2.length) cap,.int .i64 x.2.length] 97)).alloc (.cells #[.bool false,.slice none 0 0,.int .i64 0] 97)=W at jz vv ⊢;refine(Be _ x _ (HH.out.below jz)).mono ?_;rintro e w1 ⟨⟨Yj,ve,rfl,hB,qX,jJ⟩,xB⟩;have Xv:=vv.below xB;have vO:Below w.heap.size w w1:=jz.trans (xB.mono (by have:=jz.size;omega));have HB:=z8 hB;clear hB;go_wp2_with fail;refine(FY (uF x.2) Yj ve _ (TT HO.out.TM) (by omega) qX jJ HB.out).mono ?_;rintro e w2 ⟨⟨v2,rfl,Jv⟩,xF⟩;have hr:=Xv.below xF;have Zv:Below w.heap.size w w2:=vO.trans (xF.mono (by have:=vO.size;omega));have c0:=hr.c0;have c1:=hr.c1;have c2:=hr.c2;have z0:=hr.z0;have z1:=hr.z1;have z2:=hr.z2;have TW:=z8 Jv;obtain⟨b2,g2,Mw,uG,n2,k2,rfl⟩:=Jv.form;clear Jv;go_wp2;refine bodyPost_ret (v := .agg #[.bool b2,.slice (some ⟨g2,Mw,none⟩) n2 uG,.int .i64 k2]) ?_ rfl ?_
 ·simp[results,results219,go_sem,c0,c1,c2]
 exact gV TW.out hr (by omega) Zv
end Go.Proofs.YthpldolmpinnhaaGreatDoor
