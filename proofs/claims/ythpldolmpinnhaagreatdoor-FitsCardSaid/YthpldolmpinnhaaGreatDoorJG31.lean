import Derived.Test.YthpldolmpinnhaaGreatDoorJG30
import Derived.Test.YthpldolmpinnhaaGreatDoorShelfR
import Derived.Shelf.SlicesE.Reverse
set_option maxHeartbeats 64000000
open Nat renaming le_refl→z7,mul_le_mul_right→zg,zero_add→zc,pow_succ→ze,add_mul→zm,add_sub_cancel→zt
open Go.Lib renaming hid→z8
open Go.World renaming frozen?_of_block→zy,block_lt_of_cell?→zY,cell?_of_block→zQ,cell?_alloc_lt→zJ,cell?_setCell_other→zR
open Bool renaming and_eq_true→zx,eq_iff_iff→zV
open Go.RowKit.Below renaming refl→zv,heap_alloc→zH
open Go.Value renaming int→zu,ownBlock→zP,slice→za
open List renaming dropWhile_sublist→zk,all_cons→zj,dropWhile_cons_of_pos→zf,dropWhile_cons_of_neg→zZ,all_eq_true→zX,length_append→zD,take_succ_eq_append_getElem→zE,length_cons→zL,foldl_cons→zM,append_nil→zN,all_append→zO,replicate→zS,drop_of_length_le→zW,length_replicate→zi,getElem?_eq_none→zl,replicate_succ→zn,length_pos_iff→zo,mem_reverse→zh,cons_append→zw
open Array renaming getElem?_modify→zU
open UInt8 renaming toNat_ofNat'→zG
open UInt8.toNat renaming inj→zF
open Go.Op renaming bytesLess→zI
open Go.Sort renaming ahead→zr
open Go.Proofs.Tryz
namespace Go.Proofs.YthpldolmpinnhaaGreatDoor
open Go Go.RowKit Go.Shelf Go.Sort
set_option maxRecDepth 10000
theorem Ti{w:World}{base g cap:Nat}{e:TypeId}{zs:List Int}(h:w.ownsRow base e 1 (.slice (some ⟨g,0,none⟩) zs.length cap) zs.length (zs.map (zu .u8))):Holds (zu .u8) w g 0 zs.toArray:=by
 intro j hj;have hj':j<zs.length:=by simpa using hj
 refine⟨?_,?_⟩
 .rw[zc,h.cellAt j (by omega)];simp[hj',getElem!_pos]
 .exact h.frozenAt _
theorem Oh{w:World}{base g n cap:Nat}{e:TypeId}{xs:List Value}{zs:List Int}(h:w.ownsRow base e 1 (.slice (some ⟨g,0,none⟩) n cap) n xs)(hz:zs.length=n) :
  (putRow (zu .u8) w g 0 zs.toArray).ownsRow base e 1 (.slice (some ⟨g,0,none⟩) n cap) n (zs.map (zu .u8)):=by
 refine⟨by simp[hz],?_⟩;rcases h.2 with⟨hv,_⟩|⟨g2,uL,cur,hv,hg,hh,h1,h2,h3,ht⟩
 .cases hv
 .simp only[Value.slice.injEq,Option.some.injEq,Addr.mk.injEq] at hv;obtain⟨⟨rfl,-⟩,-,rfl⟩:=hv;refine .inr ⟨g,cap,putCells (zu .u8) 0 zs.toArray cur,rfl,hg,?_,h1,h2,by simpa[putCells] using h3,?_⟩
  .simp[putRow,mapBlock,zU,hh,onCells]
  .apply List.ext_getElem?;intro j;by_cases hj:j<n
   .have hjc:j<cur.size:=by omega
    simp[putCells,List.getElem?_take,hj,hjc,hz]
   .rw[zl (by simp;omega),zl (by simp;omega)]
theorem EJ{B:Nat}{a w:World}(h:Below B a w){g:Nat}(hg:B<=g)(d:Array Int):Below B a (putRow (zu .u8) w g 0 d):=by
 refine h.trans ⟨rfl,rfl,rfl,by simp[putRow,mapBlock],fun k hk=>?_⟩;simp only[putRow,mapBlock,zU];rw[if_neg (by omega)]
theorem LR(g cap base:Nat)(zs:List Int)(w:World)(hz:zs.length<=2000000000)(h:w.ownsRow base 5 1 (.slice (some ⟨g,0,none⟩) zs.length cap) zs.length (zs.map (zu .u8))) :
  Calls prog 208 #[.slice (some ⟨g,0,none⟩) zs.length cap] w fun e w'=>e = .returned (.tuple #[])/\w'.ownsRow base 5 1 (.slice (some ⟨g,0,none⟩) zs.length cap) zs.length (zs.reverse.map (zu .u8)) /\
   w'.heap.size=w.heap.size/\(∀ k,k≠g->w'.heap[k]? = w.heap[k]?)/\Below base w w':=by
 have hg:base<=g:=(h.lt g rfl).1;refine(AnyE.slices_Reverse Tryz.laysRev (zu .u8) (fun _=>rfl) g 0 cap zs w (Ti h) (by omega)).mono ?_;rintro e w' ⟨rfl,n,rfl⟩;have ha:(zr w n).ownsRow base 5 1 (.slice (some ⟨g,0,none⟩) zs.length cap) zs.length (zs.map (zu .u8)):=h;refine⟨rfl,Oh ha (by simp),by simp[putRow,mapBlock,zr],fun k hk=>?_,EJ (show Below base w (zr w n) from⟨rfl,rfl,rfl,z7 _,fun _ _=>rfl⟩) hg _⟩;simp only[putRow,mapBlock,zU];rw[if_neg (by omega)];rfl
theorem Bs(l:List UInt8):vz l=(xl l).map (Value.int .u8):=by simp[vz,xl]
theorem Yk{d:Nat}(h:d<10):((kH d).toNat:Int) - 48=d:=by
 unfold kH;rw[zG];omega
def Tl(v:Nat)(w:World)(e:Ending)(w':World):Prop :=
 (∃ g cap,e = .returned (.agg #[.bool false,.slice (some ⟨g,0,none⟩) (xH v).length cap,.int .i64 0])/\w'.ownsRow w.heap.size 5 1 (.slice (some ⟨g,0,none⟩) (xH v).length cap) (xH v).length (vz (xH v)))/\Below w.heap.size w w'
theorem Yj(v:Nat)(w:World)(hv:v<=1000000000):Calls prog 166 #[.int .i64 v] w (Tl v w):=by
 have hL:=Ho v;obtain⟨i,hi,hz,h2,h3⟩:=vx.info;go_enter func166,ntmps166;go_wp2;refine GU ?_;intro W hW;have F:W.heap.size=w.heap.size+1/\Below w.heap.size w W/\W.cell? ⟨w.heap.size,0,none⟩=some (.bool false)/\W.cell? ⟨w.heap.size,1,none⟩=some (.slice none 0 0)/\W.cell? ⟨w.heap.size,2,none⟩=some (.int .i64 0)/\W.frozen? ⟨w.heap.size,1,none⟩=false/\W.frozen? ⟨w.heap.size,0,none⟩=false/\W.frozen? ⟨w.heap.size,2,none⟩=false:=by
  subst hW;exact⟨by simp,(zv _ _).alloc (z7 _) _,by go_simp,by go_simp,by go_simp,by go_simp,by go_simp,by go_simp⟩
 obtain⟨f1,f2,f3,f4,f5,f6,f7,f8⟩:=F;clear hW;go_loopw [0,3] (fun n ok wr=>∃ (m:Nat) (acc:List UInt8) (sv:Value) (b:Bool),n = .int .i64 m/\ok = .bool b/\m<=v/\wr.ownsRow (w.heap.size+1) 5 1 sv acc.length (vz acc)/\Below w.heap.size w wr/\w.heap.size<wr.heap.size /\
   wr.cell? ⟨w.heap.size,0,none⟩=some (.bool false)/\wr.cell? ⟨w.heap.size,1,none⟩=some sv/\wr.cell? ⟨w.heap.size,2,none⟩=some (.int .i64 0)/\wr.frozen? ⟨w.heap.size,1,none⟩=false/\wr.frozen? ⟨w.heap.size,0,none⟩=false/\wr.frozen? ⟨w.heap.size,2,none⟩=false /\
   (b=true->xH v=xH m++acc.reverse)/\(b=false->xH v=acc.reverse)) (fun n ok _=>(intOf n).toNat+match ok with | .bool true=>1|_=>0)
 case atStart=>exact⟨v,[],.slice none 0 0,true,rfl,rfl,z7 _,World.ownsRow_nil _ _ _ _,f2,by omega,f3,f4,f5,f6,f7,f8,fun _=>by simp,fun h=>by cases h⟩
 case round =>
  obtain⟨m,acc,sv,b,rfl,rfl,hm,xV,hb,hs,g0,g1,g2,g3,g4,g5,ht,hf⟩:=hrel;clear f2 f3 f4 f5 f6 f7 f8
  cases b with
  | false =>
   have hd:=hf rfl;clear ht hf;have rF:acc.length=(xH v).length:=by rw[hd];simp
   have hlen:0<acc.length:=by
    rw[rF];by_cases du:v<10
    .rw[qk du];simp
    .rw[dQ du];simp
   obtain⟨g,cap,rfl,Au,Zw,hgc⟩:=vZ xV hlen;have hR:=LR g cap (w.heap.size+1) (xl acc) wr (by simp[xl];omega) (by rw[<-Bs];simpa[xl] using xV);have Dh:(xl acc).length=acc.length:=by simp[xl]
   have hrd:(xl acc).reverse.map (zu .u8)=vz (xH v):=by rw[hd,Bs];simp[xl,List.map_reverse]
   rw[Dh,hrd,rF] at hR;rw[rF] at g1;have HR:=z8 hR;clear hR hrd hd rF Dh hgc xV;go_wp2_with fail;refine HR.out.mono ?_;rintro e w1 ⟨rfl,ZG,qc,Ow,xG⟩;have vy:w.heap.size≠g:=by omega
   have e0:w1.cell? ⟨w.heap.size,0,none⟩=some (.bool false):=(zQ (Ow _ vy)).trans g0;have e1:w1.cell? ⟨w.heap.size,1,none⟩=some (.slice (some ⟨g,0,none⟩) (xH v).length cap):=(zQ (Ow _ vy)).trans g1;have e2:w1.cell? ⟨w.heap.size,2,none⟩=some (.int .i64 0):=(zQ (Ow _ vy)).trans g2;have Zf:Below w.heap.size w w1:=hb.trans (xG.mono (by omega));have z1:w1.frozen? ⟨w.heap.size,1,none⟩=false:=(zy (Ow _ vy)).trans g3;have z0:w1.frozen? ⟨w.heap.size,0,none⟩=false:=(zy (Ow _ vy)).trans g4;have z2:w1.frozen? ⟨w.heap.size,2,none⟩=false:=(zy (Ow _ vy)).trans g5;clear Ow g0 g1 g2 g3 g4 g5;go_wp2;refine bodyPost_ret (v := .agg #[.bool false,.slice (some ⟨g,0,none⟩) (xH v).length cap,.int .i64 0]) ?_ rfl ?_
   .simp[results,results166,go_sem,e0,e1,e2]
   have hn:some w.heap.size≠(za (some ⟨g,0,none⟩) (xH v).length cap).ownBlock:=fun e=>vy (by simpa[zP] using e)
   exact⟨⟨g,cap,rfl,xp (xp (xp (gp ZG (Nat.le_succ _)) hn _) hn _) hn _⟩,((Zf.setCell (z7 _) _).setCell (z7 _) _).setCell (z7 _) _⟩
  | true =>
   have hd:=ht rfl;have HD:=z8 hd;clear ht hf hd;go_wp2_with (at_builtin;refine qX vx rfl _ _ rfl (w.heap.size+1) sv acc.length (vz acc) rfl (xV.alloc _) ⟨wr.heap.size,0,none⟩ 1 1 [.int .u8 ((m:Int) % 10)] rfl rfl ?c1 ?c2 ?c3 ?c4 ?_)
   case c1=>exact cells_one (xu _ _ _ _ _)
   case c2=>intro u hu;simp at hu;subst hu;rfl
   case c3 =>
    have:=congrArg List.length HD.out;simp at this;omega
   case c4=>simp;omega
   intro QE w1 ZG uA;have xG:Below w.heap.size w w1:=(hb.alloc hb.size _).grown uA (by have:=hb.size;simp;omega) (fun q hq=>by have:=(xV.lt q hq).1;omega);have vy:some w.heap.size≠sv.ownBlock:=fun e=>by have:=(xV.lt _ e.symm).1;omega
   have k0:w1.cell? ⟨w.heap.size,0,none⟩=some (.bool false):=uA.cell ((zJ _ _ _ hs).trans g0) vy;have k1:w1.cell? ⟨w.heap.size,1,none⟩=some sv:=uA.cell ((zJ _ _ _ hs).trans g1) vy;have k2:w1.cell? ⟨w.heap.size,2,none⟩=some (.int .i64 0):=uA.cell ((zJ _ _ _ hs).trans g2) vy;have k3:w1.frozen? ⟨w.heap.size,1,none⟩=false:=(zy (uA.block w.heap.size (by simp;omega) vy)).trans ((zy (zH _ _ _ hs)).trans g3);have k4:w1.frozen? ⟨w.heap.size,0,none⟩=false:=(zy (uA.block w.heap.size (by simp;omega) vy)).trans ((zy (zH _ _ _ hs)).trans g4);have k5:w1.frozen? ⟨w.heap.size,2,none⟩=false:=(zy (uA.block w.heap.size (by simp;omega) vy)).trans ((zy (zH _ _ _ hs)).trans g5);have uH:w.heap.size<w1.heap.size:=zY w1 _ k0;have hq:((m:Int).tdiv 10)=((m / 10:Nat):Int):=by rw[Int.tdiv_eq_ediv_of_nonneg (by omega)];rfl
   obtain⟨a1,c1,rfl⟩:=xf ZG;clear uA xV g0 g1 g2 g3 g4 g5 hb hs;go_wp2;have Jv:(w1.setCell ⟨w.heap.size,1,none⟩ (.slice a1 (acc.length+1) c1)).ownsRow (w.heap.size+1) 5 1 (.slice a1 (acc.length+1) c1) (acc.length+1) (vz acc++[.int .u8 ((m:Int) % 10)]) :=
    xp ZG (fun e=>by have:=(ZG.lt _ e.symm).1;simp at this;omega) _
   have Po:vz (acc++[kH (m % 10)])=vz acc++[.int .u8 ((m:Int) % 10)]:=by
    have du:=Yk (d:=m % 10) (by omega);simp only[vz,List.map_append,List.map_cons,List.map_nil,du];rfl
   refine⟨⟨m / 10,acc++[kH (m % 10)],.slice a1 (acc.length+1) c1,decide (0<m / 10),by go_num,?_,by omega,?_,xG.setCell (z7 _) _,by simpa[World.setCell] using uH,?_,?_,?_,?_,?_,?_,?_,?_⟩,?_⟩
   .congr 1;exact decide_eq_decide.2 (by omega)
   .rw[Po];simpa using Jv
   .go_simp
   .go_simp
   .go_simp
   .go_simp
   .go_simp
   .go_simp
   .intro h;have du:0<m / 10:=of_decide_eq_true h;rw[HD.out,dQ (by omega)];simp
   .intro h;have du:¬0<m / 10:=of_decide_eq_false h;have:m % 10=m:=by omega
    rw[HD.out,qk (by omega),this];simp
   .by_cases du:0<m / 10
    .have:decide (0<(m:Int) / 10)=true:=decide_eq_true (by omega);rw[this];simp[intOf];omega
    .have:decide (0<(m:Int) / 10)=false:=decide_eq_false (by omega);rw[this];simp[intOf];omega
end Go.Proofs.YthpldolmpinnhaaGreatDoor
namespace Go.Proofs.YthpldolmpinnhaaGreatDoor
open Go Go.RowKit
set_option maxRecDepth 10000
structure EG(x:Dg):Prop where
 ig:x.1.all xF=true
 Tn:x.2.all xF=true
 ne:x.1≠[]
 FO:x.1.length<=100
 Je:x.2.length<=100
def uP(w:World)(v:Value)(x:Dg):Prop :=
 ∃ b g o cap,v = .agg #[.bool b,.slice (some ⟨g,o,none⟩) (x.1.length+x.2.length) cap,.int .i64 x.2.length]/\x.1.length+x.2.length<=cap/\cap<=maxLen/\(∃ c,w.cell? ⟨g,0,none⟩=some (.int .u8 c))/\xK w (some ⟨g,o,none⟩) (xl (x.1++x.2))/\EG x
theorem uP.below{w w':World}{v:Value}{x:Dg}(h:uP w v x)(hb:Below w.heap.size w w'):uP w' v x:=by
 obtain⟨b,g,o,cap,h1,h2,h3,h4,h5,h6⟩:=h;exact⟨b,g,o,cap,h1,h2,h3,h4.imp fun _ hc=>(hb.cell (zY w _ hc)).trans hc,h5.below hb,h6⟩
theorem uP.ok{w:World}{v:Value}{x:Dg}(h:uP w v x):EG x:=by
 obtain⟨b,g,o,cap,h1,h2,h3,h4,h5,h6⟩:=h;exact h6
theorem JU(a b:List UInt8):xl (a++b)=xl a++xl b:=by simp[xl]
theorem vV(a:List UInt8):(xl a).length=a.length:=by simp[xl]
theorem To(l:List UInt8):(xl l).dropWhile (· == 0)=xl (l.dropWhile (· == 48)):=by
 induction l with
 | nil=>rfl
 | cons c t ih =>
  have h2:=bK c 48;have h3:((48:UInt8).toNat:Int)=48:=rfl;rw[h3] at h2;have h4:(((c.toNat:Int) - 48)==0)=(c==48):=by
   rw[zV,beq_iff_eq,beq_iff_eq];rw[zV,beq_iff_eq,decide_eq_true_eq] at h2;rw[<-h2];omega
  rw[show xl (c::t)=((c.toNat:Int) - 48)::xl t from rfl];by_cases hc:(c==48)=true
  .rw[zf (p:=fun x:Int=>x==0) (h4.trans hc),zf (p:=fun x:UInt8=>x==48) hc,ih]
  .rw[zZ (p:=fun x:Int=>x==0) (by rw[h4];exact hc),zZ (p:=fun x:UInt8=>x==48) hc];rfl
theorem UD(l:List UInt8):jR l=if l.dropWhile (· == 48)=[] then [48] else l.dropWhile (· == 48):=by
 unfold jR;by_cases h:l=[]
 .subst h;rfl
 .rw[if_neg h];induction l with
  | nil=>exact absurd rfl h
  | cons c t ih =>
   by_cases hc:c=48
   .subst hc;rw[zf (by decide)];by_cases ht:t=[]
    .subst ht;rfl
    .rw[OZ ht rfl,ih ht]
   .rw[OY hc,zZ (by simpa using hc),if_neg (by simp)]
theorem Tp{l:List UInt8}(h:l.all xF=true):(jR l).all xF=true:=by
 rw[UD];split
 .decide
 .rw[zX] at h |-
  exact fun c hc=>h c ((zk _).subset hc)
theorem Tr(l:List UInt8):(jR l).length<=l.length\/(jR l).length=1:=by
 rw[UD];split
 .exact .inr rfl
 .exact .inl (zk (· == 48) (l:=l)).length_le
theorem Xo(n:Nat):(xH n).all xF=true:=by
 induction n using Nat.strongRecOn with
 | _ n ih =>
  have hd:∀ d,d<10->xF (kH d)=true:=by
   intro d h;rw[vW];have:=Yk h;omega
  by_cases h:n<10
  .rw[qk h];simp[hd n h]
  .rw[dQ h,zO,ih (n / 10) (by omega)];simp[hd (n % 10) (by omega)]
theorem bV(n:Nat):xH n≠[]:=by
 by_cases h:n<10
 .rw[qk h];simp
 .rw[dQ h];simp
theorem qA:∀ (k n:Nat),n<10 ^ (k+1)->(xH n).length<=k+1
 | 0,n,h=>by rw[qk (by simpa using h)];simp
 | k+1,n,h=>by
  by_cases du:n<10
  .rw[qk du];simp
  .rw[dQ du];have:=qA k (n / 10) (by rw[ze] at h;omega);simp;omega
def kx(x:Dg)(w:World)(e:Ending)(w':World):Prop:=(∃ v,e = .returned v/\uP w' v x)/\Below w.heap.size w w'
theorem VK{w w':World}{g cap n:Nat}{b:Bool}{d:List UInt8}{x:Dg}(hx:x.1++x.2=d)(hn:n=d.length)(ho:w'.ownsRow w.heap.size 5 1 (.slice (some ⟨g,0,none⟩) n cap) n (vz d))(kZ:EG x) :
  uP w' (.agg #[.bool b,.slice (some ⟨g,0,none⟩) n cap,.int .i64 x.2.length]) x:=by
 subst hn;have hl:x.1.length+x.2.length=d.length:=by rw[<-hx];simp
 have hB:=qO ho rfl;rw[<-hx] at hB;have xB:∃ c,w'.cell? ⟨g,0,none⟩=some (.int .u8 c):=by
  obtain⟨q,hq,hc⟩:=hB 0 (by rw[vV,zD];have:=zo.2 kZ.ne;omega)
  cases hq;exact⟨_,hc⟩
 refine⟨b,g,0,cap,by rw[hl],?_,?_,xB,hB,kZ⟩;all_goals
  rcases ho.2 with⟨hv,_⟩|⟨g2,uL,cur,hv,_,_,h1,h2,_⟩
  .cases hv
  .cases hv;omega
theorem Bt(v:Nat)(w:World)(hv:v<=1000000000):Calls prog 166 #[.int .i64 v] w (kx (xH v,[]) w):=by
 refine(Yj v w hv).mono ?_;rintro e w' ⟨⟨g,cap,rfl,ho⟩,hb⟩;have:=qA 9 v (by omega);exact⟨⟨_,rfl,VK (x:=(xH v,[])) (zN _) rfl ho ⟨Xo v,rfl,bV v,by show(xH v).length<=100;omega,by simp⟩⟩,hb⟩
theorem FT(l:List UInt8)(a:Option Addr)(cap:Nat)(w:World)(hd:l.all xF=true)(hl:l.length<=100)(Zm:l.length<=cap)(jT:cap<=maxLen)(hB:xK w a (xl l)) :
  Calls prog 214 #[.slice a l.length cap] w (kx (jR l,[]) w):=by
 have Dh:=vV l;have hT:=EK (xl l) a cap;rw[Dh] at hT;have HT:=z8 hT;have HB:=z8 hB;obtain⟨r,hr⟩:=xX (l.dropWhile (· == 48));have hrv:(xl l).dropWhile (· == 0)=xl r:=by rw[To,hr]
 have Oy:jR l=if r=[] then [48] else r:=by rw[UD,hr]
 have Rc:=Tp hd;have hpn:=Tr l;have HPL:=z8 Oy;have HRV:=z8 hrv;have ib:=z8 Rc;clear hT hB Dh hr hrv Oy Rc;go_enter func214,ntmps214;go_wp2_with fail;refine(HT.out _ (by omega) Zm (by unfold maxLen at jT;omega) ?_).mono ?_
 .exact HB.out.alloc _
 rintro e w1 ⟨⟨a',vw,rfl,h2,h3,h4⟩,rfl⟩;rw[HRV.out,vV] at *;obtain⟨W,hW⟩:∃ W,W=w.alloc (.cells #[.bool false,.slice none 0 0,.int .i64 0] 97):=⟨_,rfl⟩;have F:W.heap.size=w.heap.size+1/\Below w.heap.size w W/\W.cell? ⟨w.heap.size,0,none⟩=some (.bool false)/\W.cell? ⟨w.heap.size,1,none⟩=some (.slice none 0 0)/\W.cell? ⟨w.heap.size,2,none⟩=some (.int .i64 0) /\
   W.frozen? ⟨w.heap.size,0,none⟩=false/\W.frozen? ⟨w.heap.size,1,none⟩=false/\W.frozen? ⟨w.heap.size,2,none⟩=false:=by
  subst hW;exact⟨by simp,(zv _ _).alloc (z7 _) _,by go_simp,by go_simp,by go_simp,by go_simp,by go_simp,by go_simp⟩
 obtain⟨f1,f2,f3,f4,f5,f6,f7,f8⟩:=F;rw[<-hW] at h2 |-
 clear hW;have xB:w.heap.size<W.heap.size:=by omega
 by_cases vg:r=[]
 .have hp:=HPL.out;rw[if_pos vg] at hp;have HP:=z8 hp;clear hp;subst vg;go_wp2_with fail;refine(Yj 0 _ (by omega)).mono ?_;rintro e w2 ⟨⟨g,uL,rfl,ho⟩,xJ⟩;have c0:=(xJ.cell (p:=⟨w.heap.size,0,none⟩) xB).trans f3;have c1:=(xJ.cell (p:=⟨w.heap.size,1,none⟩) xB).trans f4;have c2:=(xJ.cell (p:=⟨w.heap.size,2,none⟩) xB).trans f5;have z0:=(xJ.frozen (p:=⟨w.heap.size,0,none⟩) xB).trans f6;have z1:=(xJ.frozen (p:=⟨w.heap.size,1,none⟩) xB).trans f7;have z2:=(xJ.frozen (p:=⟨w.heap.size,2,none⟩) xB).trans f8;have hg:=(ho.lt g rfl).1;have Zf:Below w.heap.size w w2:=f2.trans (xJ.mono (by omega));clear f3 f4 f5 f6 f7 f8 xJ f2;go_wp2;refine bodyPost_ret (v := .agg #[.bool false,.slice (some ⟨g,0,none⟩) (xH 0).length uL,.int .i64 0]) ?_ rfl ?_
  .simp[results,results214,go_sem,c0,c1,c2]
  have hn:some w.heap.size≠(za (some ⟨g,0,none⟩) (xH 0).length uL).ownBlock:=fun e=>by simp[zP] at e;omega
  rw[HP.out];exact⟨⟨_,rfl,VK (w:=w) (x:=([48],[])) (d:=xH 0) (by rw[qk (by decide)];rfl) rfl (xp (xp (xp (gp ho (by omega)) hn _) hn _) hn _) ⟨by decide,rfl,by simp,by simp,by simp⟩⟩,((Zf.setCell (z7 _) _).setCell (z7 _) _).setCell (z7 _) _⟩
 .have hp:=HPL.out;rw[if_neg vg] at hp;have HP:=z8 hp;clear hp;have gx:0<r.length:=zo.2 vg;obtain⟨b,rfl,_⟩:=h2 0 (by rw[vV];exact gx);have vy:((r.length:Int)==0)=false:=by simp;omega
  have JS:r.length<=100:=by rw[<-HP.out];omega
  have H2:=z8 h2;have gB:=z8 vg;clear h2 vg;go_wp2_with fail;refine(Te r b vw _ (by omega) H2.out).mono ?_;rintro e w2 ⟨⟨v,rfl,ho⟩,xJ⟩;obtain⟨g,uL,rfl,hg,je,_⟩:=vZ ho gx;have c0:=(xJ.cell (p:=⟨w.heap.size,0,none⟩) xB).trans f3;have c1:=(xJ.cell (p:=⟨w.heap.size,1,none⟩) xB).trans f4;have c2:=(xJ.cell (p:=⟨w.heap.size,2,none⟩) xB).trans f5;have z0:=(xJ.frozen (p:=⟨w.heap.size,0,none⟩) xB).trans f6;have z1:=(xJ.frozen (p:=⟨w.heap.size,1,none⟩) xB).trans f7;have z2:=(xJ.frozen (p:=⟨w.heap.size,2,none⟩) xB).trans f8;have Zf:Below w.heap.size w w2:=f2.trans (xJ.mono (by omega));clear f3 f4 f5 f6 f7 f8 xJ f2;go_wp2;refine bodyPost_ret (v := .agg #[.bool false,.slice (some ⟨g,0,none⟩) r.length uL,.int .i64 0]) ?_ rfl ?_
  .simp[results,results214,go_sem,c0,c1,c2]
  have hn:some w.heap.size≠(za (some ⟨g,0,none⟩) r.length uL).ownBlock:=fun e=>by simp[zP] at e;omega
  have Rc:=ib.out;rw[HP.out] at Rc |-
  exact⟨⟨_,rfl,VK (w:=w) (x:=(r,[])) (zN _) rfl (xp (xp (xp (gp ho (by omega)) hn _) hn _) hn _) ⟨Rc,rfl,gB.out,JS,by simp⟩⟩,((Zf.setCell (z7 _) _).setCell (z7 _) _).setCell (z7 _) _⟩
theorem Tt{l:List UInt8}(h:l.all xF=true):∀ x∈xl l,0<=x/\x<=9:=by
 intro x hx;simp only[xl,List.mem_map] at hx;obtain⟨c,hc,rfl⟩:=hx;have:=(vW c).1 (zX.1 h c hc);omega
theorem rD(l:List UInt8):(xl l).any (· != 0)=we l:=by
 have:=zero_eq l;unfold we;have h2:(l.all (· == 48)) = !(l.any (· != 48)):=by
  rw[List.all_eq_not_any_not];rfl
 rw[h2] at this;simpa using congrArg (fun b => !b) this
theorem iZ(g o:Nat)(n cap sc:Nat)(b:Bool)(l:List Int)(w:World)(hl:l.length=n)(hs:sc<=n)(Zm:n<=cap)(hn:n<=1000000)(hB:xK w (some ⟨g,o,none⟩) l) :
  Calls prog 70 #[.agg #[.bool b,.slice (some ⟨g,o,none⟩) n cap,.int .i64 sc]] w fun e w'=>(∃ YF vw,e = .returned (.slice YF (n - sc) vw)/\n - sc<=vw/\vw<=cap/\xK w' YF (l.take (n - sc)))/\Below w.heap.size w w':=by
 obtain⟨k,hk⟩:∃ k,n=k+sc:=⟨n - sc,by omega⟩;subst hk;rw[show k+sc - sc=k from by omega];have h0:(0:Int)<=((k+sc:Nat):Int) - (sc:Int):=by omega
 have h1:((k+sc:Nat):Int) - (sc:Int)=(k:Int):=by omega
 have h2:k<=cap:=by omega
 go_enter func70,ntmps70;go_wp2;go_ret;exact⟨⟨_,_,rfl,by omega,by omega,(hB.alloc _).take k⟩,(zv _ _).alloc (z7 _) _⟩
theorem Th(g o:Nat)(n cap sc:Nat)(b:Bool)(l:List Int)(w:World)(hl:l.length=n)(hs:sc<=n)(Zm:n<=cap)(hn:n<=1000000)(hB:xK w (some ⟨g,o,none⟩) l) :
  Calls prog 72 #[.agg #[.bool b,.slice (some ⟨g,o,none⟩) n cap,.int .i64 sc]] w fun e w'=>(∃ YF vw,e = .returned (.slice (some YF) sc vw)/\sc<=vw/\vw<=cap/\xK w' (some YF) (l.drop (n - sc)))/\Below w.heap.size w w':=by
 obtain⟨k,hk⟩:∃ k,n=k+sc:=⟨n - sc,by omega⟩;subst hk;rw[show k+sc - sc=k from by omega];have h1:((k+sc:Nat):Int) - (sc:Int)=(k:Int):=by omega
 have h2:k<=cap:=by omega
 go_enter func72,ntmps72;by_cases o8:cap=k
 .have hz:l.drop k=[]:=zW (by omega);have HZ:=z8 hz;clear hz;go_wp2;go_ret;refine⟨⟨_,_,rfl,by omega,by omega,?_⟩,(zv _ _).alloc (z7 _) _⟩;rw[HZ.out];intro j hj;simp at hj
 .go_wp2;go_ret;exact⟨⟨_,_,rfl,by omega,by omega,(hB.alloc _).drop k⟩,(zv _ _).alloc (z7 _) _⟩
theorem Km(v:Value)(x:Dg)(w:World)(h:uP w v x) :
  Calls prog 72 #[v] w fun e w'=>(∃ YF vw,e = .returned (.slice (some YF) x.2.length vw)/\x.2.length<=vw/\vw<=maxLen/\xK w' (some YF) (xl x.2))/\Below w.heap.size w w':=by
 obtain⟨b,g,go,cap,rfl,h2,h3,h4,h5,h6⟩:=h;have Ph:=h6.FO;have h62:=h6.Je;refine(Th g go (x.1.length+x.2.length) cap x.2.length b (xl (x.1++x.2)) w (by rw[vV];simp) (by omega) h2 (by omega) h5).mono ?_;rintro e w' ⟨⟨YF,vw,rfl,qK,jT,hB⟩,hb⟩;refine⟨⟨YF,vw,rfl,qK,by omega,?_⟩,hb⟩;have:(xl (x.1++x.2)).drop (x.1.length+x.2.length - x.2.length)=xl x.2:=by
  rw[zt,JU,List.drop_append_of_le_length (by rw[vV];exact z7 _),zW (by rw[vV];exact z7 _),List.nil_append]
 rw[this] at hB;exact hB
theorem FW(v:Value)(x:Dg)(w:World)(h:uP w v x) :
  Calls prog 72 #[v] w fun e w'=>(∃ YF vw,e = .returned (.slice YF x.2.length vw)/\x.2.length<=vw/\vw<=maxLen/\xK w' YF (xl x.2))/\Below w.heap.size w w' :=
 (Km v x w h).mono fun _ _ ⟨⟨a,c,h1,h2,h3,h4⟩,hb⟩=>⟨⟨some a,c,h1,h2,h3,h4⟩,hb⟩
theorem EF(v:Value)(x:Dg)(w:World)(h:uP w v x) :
  Calls prog 70 #[v] w fun e w'=>(∃ YF vw,e = .returned (.slice YF x.1.length vw)/\x.1.length<=vw/\vw<=maxLen/\xK w' YF (xl x.1))/\Below w.heap.size w w':=by
 obtain⟨b,g,go,cap,rfl,h2,h3,h4,h5,h6⟩:=h;have Ph:=h6.FO;have h62:=h6.Je;refine(iZ g go (x.1.length+x.2.length) cap x.2.length b (xl (x.1++x.2)) w (by rw[vV];simp) (by omega) h2 (by omega) h5).mono ?_;rintro e w' ⟨⟨YF,vw,rfl,qK,jT,hB⟩,hb⟩;rw[zt] at hB qK |-
 refine⟨⟨YF,vw,rfl,qK,by omega,?_⟩,hb⟩;have:(xl (x.1++x.2)).take x.1.length=xl x.1:=by
  rw[JU,List.take_append_of_le_length (by rw[vV];exact z7 _),List.take_of_length_le (by rw[vV];exact z7 _)]
 rw[this] at hB;exact hB
theorem Fa(v:Value)(x:Dg)(w:World)(h:uP w v x) :
  Calls prog 210 #[v] w fun e w'=>e = .returned (.bool (we x.2))/\Below w.heap.size w w':=by
 have hb:=rD x.2;have hl:=h.ok.Je;have hF:=fun W (hW:uP W v x)=>FW v x W hW
 have HF:=z8 hF;have HH:=z8 h;have HB:=z8 hb;obtain⟨b,g,go,cap,rfl,_,_,_,_,_⟩:=h;clear hF hb;go_enter func210,ntmps210;go_wp2_with fail;refine(HF.out _ (HH.out.below ((zv _ _).alloc (z7 _) _))).mono ?_;rintro e w1 ⟨⟨YF,vw,rfl,_,_,hB⟩,xG⟩;have Zf:Below w.heap.size w w1:=((zv _ _).alloc (z7 _) _).trans (xG.mono (by simp));have hC:=XW (xl x.2) YF vw w1 (by rw[vV];omega) hB;rw[vV,HB.out] at hC;have HC:=z8 hC;clear hC hB xG;go_wp2_with fail;refine HC.out.mono ?_;rintro e w2 ⟨rfl,rfl⟩;go_wp2;go_ret;exact⟨rfl,Zf⟩
theorem rB(v:Value)(x:Dg)(w:World)(h:uP w v x):Calls prog 212 #[v] w (kx x w):=by
 have HH:=z8 h;obtain⟨b,g,go,cap,rfl,h2,h3,h4,h5,h6⟩:=h;go_enter func212,ntmps212;go_wp2;refine bodyPost_ret (v := .agg #[.bool false,.slice (some ⟨g,go,none⟩) (x.1.length+x.2.length) cap,.int .i64 x.2.length]) ?_ rfl ?_
 .simp[results,results212,go_sem]
 have hb:Below w.heap.size w ((w.alloc (.cells #[.bool false,.slice (some ⟨g,go,none⟩) (x.1.length+x.2.length) cap,.int .i64 x.2.length] 97)).alloc (.cells #[.bool false,.slice (some ⟨g,go,none⟩) (x.1.length+x.2.length) cap,.int .i64 x.2.length] 97)):=((zv _ _).alloc (z7 _) _).alloc (by simp) _;exact⟨⟨_,rfl,false,g,go,cap,rfl,h2,h3,h4.imp fun _ hc=>(hb.cell (zY w _ hc)).trans hc,h5.below hb,h6⟩,hb⟩
theorem Bh(l:Wd)(c:UInt8):xE (l++[c])=10*xE l+(c.toNat - 48):=by simp[xE]
theorem LS(l:Wd):∀ v,l.foldl (fun v c=>10*v+(c.toNat - 48)) v=v*10 ^ l.length+xE l:=by
 induction l with
 | nil=>intro v;simp[xE]
 | cons c t ih =>
  intro v;unfold xE;rw[zM,zM,ih,ih,zL,ze];simp only[Nat.mul_zero,zc,zm];rw[Nat.mul_comm 10 v,Nat.mul_assoc,Nat.mul_comm 10 (10 ^ t.length),Nat.add_assoc]
theorem qu(c:UInt8)(l:Wd):xE (c::l)=(c.toNat - 48)*10 ^ l.length+xE l:=by
 rw[xE,zM,LS];simp
theorem iY(a b:Wd):xE (a++b)=xE a*10 ^ b.length+xE b:=by rw[xE,List.foldl_append,LS];rfl
theorem QH(k:Nat)(l:Wd):xE (zS k 48++l)=xE l:=by
 induction k with
 | zero=>simp
 | succ k ih =>
  rw[zn,zw,qu,ih];simp
theorem Xp(k:Nat):xE (zS k 48)=0:=by
 have:=QH k [];rw[zN] at this;rw[this];rfl
theorem LW(l:Wd)(k:Nat):xE (l++zS k 48)=xE l*10 ^ k:=by rw[iY,Xp];simp
theorem kF{c:UInt8}(h:xF c=true):48<=c.toNat/\c.toNat<=57:=by have:=(vW c).1 h;omega
theorem QI:∀ (l:Wd),l.all xF=true->xE l<10 ^ l.length
 | [],_=>by simp[xE]
 | c::l,h=>by
  rw[zj,zx] at h;have h1:=QI l h.2;have h2:=kF h.1;rw[qu,zL,ze];have h3:(c.toNat - 48)*10 ^ l.length<=9*10 ^ l.length:=zg _ (by omega);omega
theorem Bw{c:UInt8}(h:xF c=true):kH (c.toNat - 48)=c:=by
 have h2:=kF h;unfold kH;apply zF;rw[zG];omega
theorem LA{c:UInt8}{l:Wd}(hc:xF c=true)(h:c≠48):10 ^ l.length<=xE (c::l):=by
 have h2:=kF hc;have h3:c.toNat≠48:=fun e=>h (zF e)
 rw[qu];have:1*10 ^ l.length<=(c.toNat - 48)*10 ^ l.length:=zg _ (by omega);omega
theorem ED:∀ (n:Nat) (l:Wd),l.length=n->l.all xF=true->(l.headD 48≠48\/l.length=1)->xH (xE l)=l
 | 0,l,h,_,h2=>by
  have:l=[]:=List.eq_nil_of_length_eq_zero h;subst this;simp at h2
 | n+1,l,h,hd,h2=>by
  rcases List.eq_nil_or_concat l with rfl|⟨l',c,rfl⟩
  .simp at h
  .rw[List.concat_eq_append] at *;rw[zO,zx] at hd;have hc:xF c=true:=by simpa using hd.2
   have JT:=kF hc;rw[Bh]
   cases l' with
   | nil =>
    rw[show xE []=0 from rfl,Nat.mul_zero,zc,qk (by omega),Bw hc];rfl
   | cons a t =>
    have ha:a≠48:=by
     rcases h2 with h2|h2
     .simpa using h2
     .simp at h2
    have had:xF a=true:=by
     have:=hd.1;rw[zj,zx] at this;exact this.1
    have h3:=LA (l:=t) had ha;have h4:1<=10 ^ t.length:=Nat.one_le_pow _ _ (by omega);rw[dQ (by omega),show(10*xE (a::t)+(c.toNat - 48)) / 10=xE (a::t) by omega,show(10*xE (a::t)+(c.toNat - 48)) % 10=c.toNat - 48 by omega,Bw hc,
     ED n (a::t) (by simp at h |-;omega) hd.1 (.inl (by simpa using ha))]
theorem Re(n:Nat):xE (xH n)=n:=by
 induction n using Nat.strongRecOn with
 | _ n ih =>
  have hd:∀ d,d<10->(kH d).toNat - 48=d:=by
   intro d h;unfold kH;rw[zG];omega
  by_cases h:n<10
  .rw[qk h,qu];simp[hd n h,xE]
  .rw[dQ h,Bh,ih (n / 10) (by omega),hd _ (by omega)];omega
theorem Ri:∀ (l:Wd),l.all xF=true->l≠[]->fU l.length (xH (xE l))=l
 | [],_,h=>absurd rfl h
 | c::t,hd,_=>by
  by_cases hc:c=48
  .subst hc;have DI:t.all xF=true:=by
    rw[zj,zx] at hd;exact hd.2
   have e:xE (48::t)=xE t:=by rw[qu];simp
   rw[e];by_cases ht:t=[]
   .subst ht;rw[show xE []=0 from rfl,qk (by omega)];rfl
   .have ih:=Ri t DI ht;have hl:(xH (xE t)).length<=t.length:=by
     have:=congrArg List.length ih;rw[fU,zD,zi] at this;omega
    unfold fU at ih |-
    rw[zL,show t.length+1 - (xH (xE t)).length=(t.length - (xH (xE t)).length)+1 by omega,zn,zw,ih]
  .rw[ED _ (c::t) rfl hd (.inl (by simpa using hc))];simp[fU]
theorem Rl{d:Wd}{k:Nat}(hd:d.all xF=true)(vy:d≠[])(hk:k<=d.length)(h:d.length=k\/d.headD 48≠48):fU k (xH (xE d))=d:=by
 rcases h with h|h
 .rw[<-h];exact Ri d hd vy
 .rw[ED _ d rfl hd (.inl h),fU,Nat.sub_eq_zero_of_le hk];rfl
theorem Gg(k:Nat)(l:Wd):(fU k l).length=max k l.length:=by rw[fU,zD,zi];omega
theorem Rm{k:Nat}{l:Wd}(h:l.all xF=true):(fU k l).all xF=true:=by
 rw[fU,zO,h,Bool.and_true,zX];intro c hc;rw[List.eq_of_mem_replicate hc];rfl
theorem Fc:∀ {l:Wd},l.all xF=true->((l.all (· == 48))=true ↔ xE l=0)
 | [],_=>by simp[xE]
 | c::t,h=>by
  rw[zj,zx] at h;have h1:=Fc h.2;rw[zj,zx,beq_iff_eq,h1];by_cases hc:c=48
  .subst hc;rw[qu];simp
  .have:=LA (l:=t) h.1 hc;have h4:1<=10 ^ t.length:=Nat.one_le_pow _ _ (by omega);simp only[hc,false_and,false_iff];omega
theorem La:∀ (x y:Wd),x.length=y.length->x.all xF=true->y.all xF=true->(zI x y=true ↔ xE x<xE y)
 | [],[],_,_,_=>by simp[zI]
 | [],_::_,h,_,_=>by simp at h
 | _::_,[],h,_,_=>by simp at h
 | a::x,b::y,h,hx,hy=>by
  rw[zj,zx] at hx hy;have hl:x.length=y.length:=by simpa using h
  have ih:=La x y hl hx.2 hy.2;have h1:=QI x hx.2;have h2:=QI y hy.2;have ha:=kF hx.1;have hb:=kF hy.1;rw[hl] at h1;rw[zI,Bool.or_eq_true,decide_eq_true_eq,zx,beq_iff_eq,ih,UInt8.lt_iff_toNat_lt,qu,qu,hl];by_cases h3:a.toNat<b.toNat
  .have h4:(a.toNat - 48+1)*10 ^ y.length<=(b.toNat - 48)*10 ^ y.length:=zg _ (by omega);rw[zm,Nat.one_mul] at h4;simp only[h3,true_or,true_iff];omega
  .by_cases h5:a=b
   .subst h5;simp
   .have h6:b.toNat<a.toNat:=by
     have:a.toNat≠b.toNat:=fun e=>h5 (zF e)
     omega
    have h4:(b.toNat - 48+1)*10 ^ y.length<=(a.toNat - 48)*10 ^ y.length:=zg _ (by omega);rw[zm,Nat.one_mul] at h4;simp only[h3,h5,false_or,false_and,false_iff];omega
theorem iX{x y:Wd}(h:x.length=y.length)(hx:x.all xF=true)(hy:y.all xF=true):(if zI x y=true then (-1:Int) else if x=y then 0 else 1)<0 ↔ xE x<xE y:=by
 rw[<-La x y h hx hy];split
 .next h1=>simp[h1]
 .next h1 =>
  simp only[h1];split<;>simp
theorem P5{w:World}{a:Option Addr}{l:List Int}(h:xK w a l)(k:Nat):xK w a (l.take k):=fun j hj=>by
 obtain⟨b,h1,h2⟩:=h j (by simp at hj;omega);exact⟨b,h1,by simpa using h2⟩
theorem P6{l:List UInt8}{k:Nat}(hk:k<l.length)(h:l[k]=48):uD (l.take (k+1))=uD (l.take k):=by
 rw[zE hk,h,short_zero]
theorem P7{l:List UInt8}{k:Nat}(hk:k<l.length)(h:¬l[k]=48):uD (l.take (k+1))=l.take (k+1):=by
 rw[zE hk,OX _ _ h]
theorem EB(c:UInt8):(((c.toNat:Int) - 48)==0)=(c==48):=by
 have h2:=bK c 48;have h3:((48:UInt8).toNat:Int)=48:=rfl;rw[h3] at h2;rw[zV,beq_iff_eq,beq_iff_eq];rw[zV,beq_iff_eq,decide_eq_true_eq] at h2;rw[<-h2];omega
theorem C0(v:Value)(x:Dg)(w:World)(h:uP w v x) :
  Calls prog 217 #[v] w fun e w'=>(∃ ad cap,e = .returned (.slice ad (uD x.2).length cap)/\xK w' ad (xl (uD x.2))/\(uD x.2).length<=cap/\cap<=maxLen)/\Below w.heap.size w w':=by
 have hl:=h.ok.Je;have hF:=fun W (hW:uP W v x)=>FW v x W hW
 have HF:=z8 hF;have HH:=z8 h;obtain⟨b,g,go,cap,rfl,_,_,_,_,_⟩:=h;clear hF;go_enter func217,ntmps217;go_wp2_with fail;refine(HF.out _ (HH.out.below ((zv _ _).alloc (z7 _) _))).mono ?_;rintro e w1 ⟨⟨YF,vw,rfl,qK,jT,hB⟩,xG⟩;have Zf:Below w.heap.size w w1:=((zv _ _).alloc (z7 _) _).trans (xG.mono (by simp));have HB:=z8 hB;have jS:vw<=9223372036854775807:=by unfold maxLen at jT;omega
 clear xG hB;obtain⟨f,hf⟩:∃ f,f=x.2:=⟨_,rfl⟩;rw[<-hf] at hl qK HB |-
 have HFE:=z8 hf;clear hf;go_wp2_with fail;go_loop [3] (fun u=>∃ k uL:Nat,k<=f.length/\u = .slice YF k uL/\k<=uL/\uL<=vw/\uD (f.take k)=uD f) (fun u=>match u with | .slice _ n _=>n|_=>0)
 case atStart=>exact⟨f.length,vw,z7 _,rfl,qK,z7 _,by rw[List.take_length]⟩
 case round =>
  obtain⟨k,uL,hk,rfl,h1,h2,hs⟩:=hrel;have HS:=z8 hs;clear hs;by_cases h0:k=0
  .subst h0;have hz:uD f=[]:=by rw[<-HS.out];rfl
   have HZ:=z8 hz;clear hz;go_wp2;go_ret;rw[<-HFE.out,HZ.out];exact⟨⟨YF,uL,rfl,ZN _ _,Nat.zero_le _,by omega⟩,Zf⟩
  .obtain⟨m,rfl⟩:∃ m,k=m+1:=⟨k - 1,by omega⟩;have hm:m<f.length:=by omega
   obtain⟨p,rfl,hc⟩:=HB.out m (by rw[vV];exact hm);have hvm:(xl f)[m]'(by rw[vV];exact hm)=(f[m].toNat:Int) - 48:=by simp[xl]
   rw[hvm] at hc;have hz:=EB f[m];have e0:((m+1:Nat):Int) - 1=(m:Int):=by omega
   have e1:(0:Int)<=((m+1:Nat):Int) - 1:=by omega
   clear hvm;by_cases TI:f[m]=48
   .have hz':(((f[m].toNat:Int) - 48)==0)=true:=by rw[hz,TI];rfl
    have vM:=P6 hm TI;rw[HS.out] at vM;have jD:=z8 vM;clear vM hz TI;go_wp2;exact⟨⟨m,uL,by omega,rfl,by omega,h2,jD.out.symm⟩,Nat.lt_succ_self _⟩
   .have hz':(((f[m].toNat:Int) - 48)==0)=false:=by rw[hz];simpa using TI
    have vM:=P7 hm TI;rw[HS.out] at vM;have jD:=z8 vM;clear vM hz TI;go_wp2;go_ret;have hlen:(uD f).length=m+1:=by rw[jD.out];simp;omega
    rw[<-HFE.out,hlen];refine⟨⟨some p,uL,rfl,?_,h1,by omega⟩,Zf⟩;rw[jD.out,show xl (f.take (m+1))=(xl f).take (m+1) by simp[xl]];exact P5 HB.out _
theorem Tw{l:List UInt8}(h:l.all xF=true):(uD l).all xF=true:=by
 unfold uD;rw[zX] at h |-
 intro c hc;exact h c (zh.1 ((zk _).subset (zh.1 hc)))
theorem C1(l:List UInt8):(uD l).length<=l.length:=by
 unfold uD;have:=(zk (· == 48) (l:=l.reverse)).length_le;simpa using this
structure dC(W:World)(q:Nat):Prop where
 c0:W.cell? ⟨q,0,none⟩=some (.bool false)
 c1:W.cell? ⟨q,1,none⟩=some (.slice none 0 0)
 c2:W.cell? ⟨q,2,none⟩=some (.int .i64 0)
 z0:W.frozen? ⟨q,0,none⟩=false
 z1:W.frozen? ⟨q,1,none⟩=false
 z2:W.frozen? ⟨q,2,none⟩=false
 lt:q<W.heap.size
theorem dC.below{W W':World}{q:Nat}(h:dC W q)(hb:Below W.heap.size W W'):dC W' q :=
 ⟨(hb.cell h.lt).trans h.c0,(hb.cell h.lt).trans h.c1,(hb.cell h.lt).trans h.c2,(hb.frozen h.lt).trans h.z0,(hb.frozen h.lt).trans h.z1,(hb.frozen h.lt).trans h.z2,Nat.lt_of_lt_of_le h.lt hb.size⟩
theorem fS(w:World)(o:Obj):Below w.heap.size w ((w.alloc o).alloc (.cells #[.bool false,.slice none 0 0,.int .i64 0] 97))/\dC ((w.alloc o).alloc (.cells #[.bool false,.slice none 0 0,.int .i64 0] 97)) (w.heap.size+1):=by
 have hs:(w.alloc o).heap.size=w.heap.size+1:=by simp
 refine⟨((zv _ _).alloc (z7 _) _).alloc (by omega) _,?_⟩;rw[<-hs];exact⟨xu _ _ _ _ _,xu _ _ _ _ _,xu _ _ _ _ _,by simp,by simp,by simp,by simp⟩
theorem uP.set{w:World}{v:Value}{x:Dg}{q:Nat}{b:Bool}(h:uP w v x)(hq:w.cell? ⟨q,0,none⟩=some (.bool b))(j:Nat)(u:Value):uP (w.setCell ⟨q,j,none⟩ u) v x:=by
 obtain⟨b',g,go,cap,h1,h2,h3,h4,h5,h6⟩:=h;have vy:g≠q:=by
  rintro rfl;obtain⟨c,hc⟩:=h4;rw[hq] at hc
  cases hc
 exact⟨b',g,go,cap,h1,h2,h3,h4.imp fun _ hc=>by rw[zR (h:=by simp[vy,Ne.symm vy])];exact hc,h5.set (fun b hb=>by cases hb;exact vy) u,h6⟩
theorem gC{w W:World}{x:Dg}{q:Nat}{b:Bool}{s k:Value}(h:uP W (.agg #[.bool b,s,k]) x)(hr:dC W q)(hq:w.heap.size<=q)(hb:Below w.heap.size w W) :
  kx x w (.returned (.agg #[.bool b,s,k])) (((W.setCell ⟨q,0,none⟩ (.bool b)).setCell ⟨q,1,none⟩ s).setCell ⟨q,2,none⟩ k):=by
 have e0:(W.setCell ⟨q,0,none⟩ (.bool b)).cell? ⟨q,0,none⟩=some (.bool b):=by rw[World.cell?_setCell_same (h:=hr.c0)]
 have e1:((W.setCell ⟨q,0,none⟩ (.bool b)).setCell ⟨q,1,none⟩ s).cell? ⟨q,0,none⟩=some (.bool b):=by rw[zR (h:=by simp)];exact e0
 exact⟨⟨_,rfl,((h.set hr.c0 0 _).set e0 1 _).set e1 2 _⟩,((hb.setCell hq _).setCell hq _).setCell hq _⟩
theorem uP.form{w:World}{v:Value}{x:Dg}(h:uP w v x):∃ b g go cap n k,v = .agg #[.bool b,.slice (some ⟨g,go,none⟩) n cap,.int .i64 k]:=by
 obtain⟨b,g,go,cap,h1,_⟩:=h;exact⟨b,g,go,cap,_,_,h1⟩
theorem yaq(v:Value)(x:Dg)(w:World)(h:uP w v x):Calls prog 215 #[v] w (kx (xH x.2.length,[]) w):=by
 have kZ:=h.ok;have DW:=kZ.FO;have Pr:=kZ.Je;have HH:=z8 h;have HO:=z8 kZ;obtain⟨b,g,go,cap,rfl,_,_,_,_,_⟩:=h;clear kZ;obtain⟨jk,vg⟩:=fS w (.cells #[.bool b,.slice (some ⟨g,go,none⟩) (x.1.length+x.2.length) cap,.int .i64 x.2.length] 97);go_enter func215,ntmps215;go_wp2_with fail;generalize (w.alloc (.cells #[.bool b,.slice (some ⟨g,go,none⟩) (x.1.length+x.2.length) cap,.int .i64 x.2.length] 97)).alloc (.cells #[.bool false,.slice none 0 0,.int .i64 0] 97)=W at jk vg |-
 refine(Bt x.2.length _ (by omega)).mono ?_;rintro e w2 ⟨⟨v2,rfl,JQ⟩,xJ⟩;have hr:=vg.below xJ;have Zf:Below w.heap.size w w2:=jk.trans (xJ.mono (by have:=jk.size;omega));have c0:=hr.c0;have c1:=hr.c1;have c2:=hr.c2;have z0:=hr.z0;have z1:=hr.z1;have z2:=hr.z2;have Wz:=z8 JQ;obtain⟨b2,g2,N1,uL,n2,k2,rfl⟩:=JQ.form;clear JQ;go_wp2;refine bodyPost_ret (v := .agg #[.bool b2,.slice (some ⟨g2,N1,none⟩) n2 uL,.int .i64 k2]) ?_ rfl ?_
 .simp[results,results215,go_sem,c0,c1,c2]
 exact gC Wz.out hr (by omega) Zf
theorem yak(v:Value)(x:Dg)(w:World)(h:uP w v x):Calls prog 213 #[v] w (kx (jR x.1,[]) w):=by
 have kZ:=h.ok;have DW:=kZ.FO;have Pr:=kZ.Je;have HH:=z8 h;have HO:=z8 kZ;obtain⟨b,g,go,cap,rfl,_,_,_,_,_⟩:=h;clear kZ;obtain⟨jk,vg⟩:=fS w (.cells #[.bool b,.slice (some ⟨g,go,none⟩) (x.1.length+x.2.length) cap,.int .i64 x.2.length] 97);go_enter func213,ntmps213;go_wp2_with fail;generalize (w.alloc (.cells #[.bool b,.slice (some ⟨g,go,none⟩) (x.1.length+x.2.length) cap,.int .i64 x.2.length] 97)).alloc (.cells #[.bool false,.slice none 0 0,.int .i64 0] 97)=W at jk vg |-
 refine(EF _ x _ (HH.out.below jk)).mono ?_;rintro e w1 ⟨⟨YF,vw,rfl,qK,jT,hB⟩,xG⟩;have VB:=vg.below xG;have uv:Below w.heap.size w w1:=jk.trans (xG.mono (by have:=jk.size;omega));have HB:=z8 hB;clear hB;go_wp2_with fail;refine(FT x.1 YF vw _ HO.out.ig (by omega) qK jT HB.out).mono ?_;rintro e w2 ⟨⟨v2,rfl,JQ⟩,xJ⟩;have hr:=VB.below xJ;have Zf:Below w.heap.size w w2:=uv.trans (xJ.mono (by have:=uv.size;omega));have c0:=hr.c0;have c1:=hr.c1;have c2:=hr.c2;have z0:=hr.z0;have z1:=hr.z1;have z2:=hr.z2;have Wz:=z8 JQ;obtain⟨b2,g2,N1,uL,n2,k2,rfl⟩:=JQ.form;clear JQ;go_wp2;refine bodyPost_ret (v := .agg #[.bool b2,.slice (some ⟨g2,N1,none⟩) n2 uL,.int .i64 k2]) ?_ rfl ?_
 .simp[results,results213,go_sem,c0,c1,c2]
 exact gC Wz.out hr (by omega) Zf
theorem yaj(v:Value)(x:Dg)(w:World)(h:uP w v x):Calls prog 216 #[v] w (kx (xH (uD x.2).length,[]) w):=by
 have kZ:=h.ok;have DW:=kZ.FO;have Pr:=kZ.Je;have HH:=z8 h;have HO:=z8 kZ;have dW:=C1 x.2;obtain⟨b,g,go,cap,rfl,_,_,_,_,_⟩:=h;clear kZ;obtain⟨jk,vg⟩:=fS w (.cells #[.bool b,.slice (some ⟨g,go,none⟩) (x.1.length+x.2.length) cap,.int .i64 x.2.length] 97);go_enter func216,ntmps216;go_wp2_with fail;generalize (w.alloc (.cells #[.bool b,.slice (some ⟨g,go,none⟩) (x.1.length+x.2.length) cap,.int .i64 x.2.length] 97)).alloc (.cells #[.bool false,.slice none 0 0,.int .i64 0] 97)=W at jk vg |-
 refine(C0 _ x _ (HH.out.below jk)).mono ?_;rintro e w1 ⟨⟨YF,vw,rfl,hB,qK,jT⟩,xG⟩;have VB:=vg.below xG;have uv:Below w.heap.size w w1:=jk.trans (xG.mono (by have:=jk.size;omega));clear hB;go_wp2_with fail;refine(Bt (uD x.2).length _ (by omega)).mono ?_;rintro e w2 ⟨⟨v2,rfl,JQ⟩,xJ⟩;have hr:=VB.below xJ;have Zf:Below w.heap.size w w2:=uv.trans (xJ.mono (by have:=uv.size;omega));have c0:=hr.c0;have c1:=hr.c1;have c2:=hr.c2;have z0:=hr.z0;have z1:=hr.z1;have z2:=hr.z2;have Wz:=z8 JQ;obtain⟨b2,g2,N1,uL,n2,k2,rfl⟩:=JQ.form;clear JQ;go_wp2;refine bodyPost_ret (v := .agg #[.bool b2,.slice (some ⟨g2,N1,none⟩) n2 uL,.int .i64 k2]) ?_ rfl ?_
 .simp[results,results216,go_sem,c0,c1,c2]
 exact gC Wz.out hr (by omega) Zf
theorem yag(v:Value)(x:Dg)(w:World)(h:uP w v x):Calls prog 218 #[v] w (kx (jR x.2,[]) w):=by
 have kZ:=h.ok;have DW:=kZ.FO;have Pr:=kZ.Je;have HH:=z8 h;have HO:=z8 kZ;obtain⟨b,g,go,cap,rfl,_,_,_,_,_⟩:=h;clear kZ;obtain⟨jk,vg⟩:=fS w (.cells #[.bool b,.slice (some ⟨g,go,none⟩) (x.1.length+x.2.length) cap,.int .i64 x.2.length] 97);go_enter func218,ntmps218;go_wp2_with fail;generalize (w.alloc (.cells #[.bool b,.slice (some ⟨g,go,none⟩) (x.1.length+x.2.length) cap,.int .i64 x.2.length] 97)).alloc (.cells #[.bool false,.slice none 0 0,.int .i64 0] 97)=W at jk vg |-
 refine(FW _ x _ (HH.out.below jk)).mono ?_;rintro e w1 ⟨⟨YF,vw,rfl,qK,jT,hB⟩,xG⟩;have VB:=vg.below xG;have uv:Below w.heap.size w w1:=jk.trans (xG.mono (by have:=jk.size;omega));have HB:=z8 hB;clear hB;go_wp2_with fail;refine(FT x.2 YF vw _ HO.out.Tn (by omega) qK jT HB.out).mono ?_;rintro e w2 ⟨⟨v2,rfl,JQ⟩,xJ⟩;have hr:=VB.below xJ;have Zf:Below w.heap.size w w2:=uv.trans (xJ.mono (by have:=uv.size;omega));have c0:=hr.c0;have c1:=hr.c1;have c2:=hr.c2;have z0:=hr.z0;have z1:=hr.z1;have z2:=hr.z2;have Wz:=z8 JQ;obtain⟨b2,g2,N1,uL,n2,k2,rfl⟩:=JQ.form;clear JQ;go_wp2;refine bodyPost_ret (v := .agg #[.bool b2,.slice (some ⟨g2,N1,none⟩) n2 uL,.int .i64 k2]) ?_ rfl ?_
 .simp[results,results218,go_sem,c0,c1,c2]
 exact gC Wz.out hr (by omega) Zf
theorem yaf(v:Value)(x:Dg)(w:World)(h:uP w v x):Calls prog 219 #[v] w (kx (jR (uD x.2),[]) w):=by
 have kZ:=h.ok;have DW:=kZ.FO;have Pr:=kZ.Je;have HH:=z8 h;have HO:=z8 kZ;have dW:=C1 x.2;obtain⟨b,g,go,cap,rfl,_,_,_,_,_⟩:=h;clear kZ;obtain⟨jk,vg⟩:=fS w (.cells #[.bool b,.slice (some ⟨g,go,none⟩) (x.1.length+x.2.length) cap,.int .i64 x.2.length] 97);go_enter func219,ntmps219;go_wp2_with fail;generalize (w.alloc (.cells #[.bool b,.slice (some ⟨g,go,none⟩) (x.1.length+x.2.length) cap,.int .i64 x.2.length] 97)).alloc (.cells #[.bool false,.slice none 0 0,.int .i64 0] 97)=W at jk vg |-
 refine(C0 _ x _ (HH.out.below jk)).mono ?_;rintro e w1 ⟨⟨YF,vw,rfl,hB,qK,jT⟩,xG⟩;have VB:=vg.below xG;have uv:Below w.heap.size w w1:=jk.trans (xG.mono (by have:=jk.size;omega));have HB:=z8 hB;clear hB;go_wp2_with fail;refine(FT (uD x.2) YF vw _ (Tw HO.out.Tn) (by omega) qK jT HB.out).mono ?_;rintro e w2 ⟨⟨v2,rfl,JQ⟩,xJ⟩;have hr:=VB.below xJ;have Zf:Below w.heap.size w w2:=uv.trans (xJ.mono (by have:=uv.size;omega));have c0:=hr.c0;have c1:=hr.c1;have c2:=hr.c2;have z0:=hr.z0;have z1:=hr.z1;have z2:=hr.z2;have Wz:=z8 JQ;obtain⟨b2,g2,N1,uL,n2,k2,rfl⟩:=JQ.form;clear JQ;go_wp2;refine bodyPost_ret (v := .agg #[.bool b2,.slice (some ⟨g2,N1,none⟩) n2 uL,.int .i64 k2]) ?_ rfl ?_
 .simp[results,results219,go_sem,c0,c1,c2]
 exact gC Wz.out hr (by omega) Zf
end Go.Proofs.YthpldolmpinnhaaGreatDoor
