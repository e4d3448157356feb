import Derived.Test.YthpldolmpinnhaaGreatDoorJP7
import Derived.Laws.Cover4
import Derived.Deep.LoopGhost
import Derived.WalkMore
set_option maxHeartbeats 64000000
open Go.Lib renaming hid→z7
open List renaming getD_eq_getElem?_getD→z8,getElem?_eq_getElem→zx,drop_eq_getElem_cons→zu,take_of_length_le→zk,getElem?_eq_none→zj
open Go.RowKit.Below renaming refl→zy
open Classical renaming byContradiction→zv
open Nat renaming le_refl→zg
open Go.Proofs.Tryz
namespace Go.Proofs.YthpldolmpinnhaaGreatDoor
open Go Go.RowKit
set_option maxRecDepth 10000
theorem Wo(g cap:Nat)(rs:List Int)(r:Int)(w:World)(hl:rs.length<=1000000)(hc:∀ j (h:j<rs.length),w.cell? ⟨g,j,none⟩=some (.int .i32 rs[j])) :
  Calls prog 258 #[.slice (some ⟨g,0,none⟩) rs.length cap,.int .i32 r] w fun e w'=>(∃ k:Int,e = .returned (.int .i64 k)/\decide (0<=k)=rs.contains r)/\w=w':=by
 have HC:=z7 hc;obtain⟨n,hn⟩:∃ n,rs.length=n:=⟨_,rfl⟩;have HN:=z7 hn;rw[hn] at hl ⊢;clear hc hn;go_enter func258,ntmps258;go_wp2;go_loop [8] (fun i=>∃ k:Nat,k<=n/\i = .int .i64 k/\r ∉ rs.take k) (fun i=>n - (intOf i).toNat)
 case atStart=>exact⟨0,Nat.zero_le _,rfl,by simp⟩
 case round =>
  obtain⟨k,hk,rfl,EA⟩:=hrel;have zbq:=z7 EA;clear EA;by_cases xC:k<n
  ·have vU:=HC.out k (by rw[HN.out];exact xC);obtain⟨x,hx⟩:∃ x,rs[k]'(by rw[HN.out];exact xC)=x:=⟨_,rfl⟩;rw[hx] at vU;have HX:=z7 hx;clear hx;by_cases hq:r=x
   ·have ju:(r==x)=true:=by simpa using hq
    have HF:=z7 (show r∈rs by rw[hq,←HX.out];exact List.getElem_mem _);clear hq;go_wp2;go_ret;exact⟨⟨k,rfl,by simpa using HF.out⟩,rfl⟩
   ·have ju:(r==x)=false:=by simpa using hq
    have HF:=z7 (show r ∉ rs.take (k+1) by
     rw[List.take_succ_eq_append_getElem (by rw[HN.out];exact xC),List.mem_append];rintro(q|q)
     ·exact zbq.out q
     ·rw[HX.out] at q;exact hq (List.mem_singleton.1 q))
    go_wp2;go_round
    case rel=>exact⟨k+1,by omega,by go_num,HF.out⟩
    case measure=>simp[intOf];omega
  ·obtain rfl:k=n:=by omega
   have lh:=zbq.out;rw[zk (by rw[HN.out];exact zg _)] at lh;have HF:=z7 lh;clear lh;go_wp2;go_ret;exact⟨⟨-1,rfl,by simpa using HF.out⟩,rfl⟩
theorem Dx(g cap:Nat)(rs:List Int)(r:Int)(w:World)(hl:rs.length<=1000000)(hc:∀ j (h:j<rs.length),w.cell? ⟨g,j,none⟩=some (.int .i32 rs[j])) :
  Calls prog 234 #[.slice (some ⟨g,0,none⟩) rs.length cap,.int .i32 r] w fun e w'=>e = .returned (.bool (rs.contains r))/\w=w':=by
 have HI:=z7 (Wo g cap rs r w hl hc);clear hc;go_enter func234,ntmps234;go_wp2_with fail;refine HI.out.mono ?_;rintro e w' ⟨⟨k,rfl,hk⟩,rfl⟩;have HK:=z7 hk;clear hk HI;go_wp2;go_ret;exact⟨by rw[←HK.out];rfl,rfl⟩
def ZP(r:Int):Bool:=[32,9,10,13].contains r
def xP(rs:List Int)(i:Nat):Nat:=i+((rs.drop i).takeWhile ZP).length
theorem Wp{rs:List Int}{i:Nat}(h:ZP (xX rs i)=true):i<rs.length/\xP rs i=xP rs (i+1):=by
 have xC:i<rs.length:=by
  apply zv;intro hc;unfold xX at h;rw[z8,zj (by omega)] at h;revert h
  decide
 refine⟨xC,?_⟩;have hn:xX rs i=rs[i]:=by unfold xX;rw[z8,zx xC];rfl
 rw[hn] at h;unfold xP;rw[zu xC,List.takeWhile_cons_of_pos h];simp;omega
theorem mT{rs:List Int}{i:Nat}(h:ZP (xX rs i)=false):xP rs i=i:=by
 unfold xP;by_cases xC:i<rs.length
 ·have hn:xX rs i=rs[i]:=by unfold xX;rw[z8,zx xC];rfl
  rw[hn] at h;rw[zu xC,List.takeWhile_cons_of_neg (by simp[h])];rfl
 ·rw[List.drop_of_length_le (by omega)];rfl
def MK(p:Nat)(w:World):Nat:=match w.cell? ⟨p,1,none⟩ with|some v=>(intOf v).toNat|none=>0
theorem vG{p:Nat}{rs:List Int}{i d:Nat}{w:World}(h:vJ p rs i d w):MK p w=i:=by
 unfold MK;rw[h.at_];simp[intOf]
theorem qg(p:Nat)(rs:List Int)(i d:Nat)(w:World)(h:vJ p rs i d w) :
  Calls prog 198 #[.pointer (some ⟨p,0,none⟩)] w (P8 p rs d (.tuple #[]) (xP rs i) w):=by
 have HH:=z7 h;obtain⟨R,hR⟩:∃ R,xP rs i=R:=⟨_,rfl⟩;rw[hR];have HR:=z7 hR;clear h hR;go_enter func198,ntmps198;go_wp2_with fail;go_loopw [] (fun wr=>∃ j,vJ p rs j d wr/\xl p w wr/\xP rs j=R) (fun wr=>rs.length - MK p wr)
 case atStart=>exact⟨i,HH.out,xl.refl _ _,HR.out⟩
 case round =>
  obtain⟨j,hs,fg,hsk⟩:=hrel;have HS:=z7 hs;have JE:=z7 hsk;clear hs hsk;go_wp2_with fail;refine vz ?_;intro W hW;have hb:Below wr.heap.size wr W:=by rw[hW];exact(zy _ _).alloc (zg _) _
  have hc:∀ k (h:k<4),W.cell? ⟨wr.heap.size,k,none⟩=some (.int .i32 ([32,9,10,13][k]'h)):=by
   rw[hW];intro k hk;rw[xq];match k,hk with
   | 0,_=>rfl
   | 1,_=>rfl
   | 2,_=>rfl
   | 3,_=>rfl
  clear hW;refine(jP p rs j d W (HS.out.below hb)).mono ?_;rintro e w1 ⟨rfl,xH⟩;have uf:=hb.trans (xH.mono hb.size);have hz:wr.heap.size<W.heap.size:=World.block_lt_of_cell? W _ (hc 0 (by decide));have qD:∀ k (h:k<4),w1.cell? ⟨wr.heap.size,k,none⟩=some (.int .i32 ([32,9,10,13][k]'h)):=fun k hk=>(xH.cell (p:=⟨wr.heap.size,k,none⟩) hz).trans (hc k hk)
  have vE:=Dx wr.heap.size 4 [32,9,10,13] (xX rs j) w1 (by decide) qD;rw[show[32,9,10,13].contains (xX rs j)=ZP (xX rs j) from rfl] at vE;have qC:=z7 vE;have uT:=HS.out.below uf;have gM:=z7 uT;have h5:=uT.at_;have h7:=uT.z1;have hlen:=uT.len;have Es:=uT.here;obtain⟨bl,Wr⟩:∃ b,ZP (xX rs j)=b:=⟨_,rfl⟩;rw[Wr] at qC;have HBL:=z7 Wr;clear hc qD vE hb xH uT Wr;go_wp2_with fail;refine qC.out.mono ?_;rintro e w' ⟨rfl,rfl⟩
  cases bl
  ·have HF:=z7 (show j=R by rw[←JE.out];exact(mT HBL.out).symm);go_wp2;go_end0
   exact⟨rfl,by rw[←HF.out];exact gM.out,fg.below uf⟩
  ·obtain⟨xC,kM⟩:=Wp HBL.out;have HF:=z7 (show xP rs (j+1)=R by rw[←JE.out,kM]);have De:=gM.out.move (j+1) (by omega);have HM:=z7 (show vJ p rs (j+1) d (w1.setCell ⟨p,1,none⟩ (.int .i64 ((j:Int)+1))) by simpa using De);clear kM De;go_wp2;go_roundw
   case rel=>exact⟨j+1,HM.out,(fg.below uf).UM 1 _,HF.out⟩
   case measure=>rw[vG HM.out,vG HS.out];omega
theorem Xf(l:List Int):runesBytes l=⟨(l.flatMap enc).toArray⟩:=by
 unfold runesBytes;have h:∀ (l:List Int) (a:List UInt8),l.foldl (fun r n=>r++Utf8.encode n) (⟨a.toArray⟩:ByteArray)=⟨(a++l.flatMap enc).toArray⟩:=by
  intro l;induction l with
  | nil=>intro a;simp
  | cons c t ih =>
   intro a;rw[List.foldl_cons,append_eq,toList_mk];rw[show(Utf8.encode c).data.toList=enc c from rfl,ih];simp
 have:=h l [];rw[List.nil_append] at this;exact this
def Ws(p:Nat)(rs:List Int)(i d:Nat)(w:World)(v:Value)(F:Int->Nat->Bool):Prop :=
 ∃ k cap,v = .func (.func k) #[] cap/\(∀ args w,(callFunc k args).run prog w = .ok (.enter k args) w) /\
  ∀ W,xl p w W->∀ n,(n=0\/i+n<=rs.length)->n<=1000000->vJ p rs (i+n) d W->Calls prog k (#[.int .i32 (xX rs (i+n)),.int .i64 (n:Nat)]++cap) W fun e W'=>e = .returned (.bool (F (xX rs (i+n)) n))/\Below W.heap.size W W'
def Xd(F:Int->Nat->Bool)(rs:List Int)(i:Nat):Nat->Nat->Nat
 | 0,n=>n
 | f+1,n=>if F (xX rs (i+n)) n=true then Xd F rs i f (n+1) else n
def runN(F:Int->Nat->Bool)(rs:List Int)(i:Nat):Nat:=Xd F rs i (rs.length+1) 0
def qi(rs:List Int)(i n:Nat):Wd:=((rs.drop i).take n).flatMap enc
def zzu(p:Nat)(rs:List Int)(i d n:Nat)(w:World)(e:Ending)(w':World):Prop :=
 (if n=0 then Qn p 3 i e w' else e = .returned (xf (qi rs i n))/\vJ p rs (i+n) d w')/\xl p w w'
theorem qw{rs:List Int}{i:Nat}(h:rs.length<=i):xX rs i = -1:=by
 unfold xX;rw[z8,zj h];rfl
theorem Wt{F:Int->Nat->Bool}{rs:List Int}{i n R f:Nat}(h:Xd F rs i (f+1) n=R):(F (xX rs (i+n)) n=true->Xd F rs i f (n+1)=R)/\(F (xX rs (i+n)) n=false->n=R):=by
 rw[Xd] at h;constructor
 ·intro q;rw[if_pos q] at h;exact h
 ·intro q;rw[if_neg (by rw[q];simp)] at h;exact h
theorem P9(p:Nat)(rs:List Int)(i d:Nat)(w:World)(v:Value)(F:Int->Nat->Bool)(h:vJ p rs i d w)(hf:Ws p rs i d w v F)(Zs:∀ n,F (-1) n=false) :
  Calls prog 235 #[.pointer (some ⟨p,0,none⟩),v] w (zzu p rs i d (runN F rs i) w):=by
 obtain⟨kf,cf,rfl,C5,vE⟩:=hf;have HH:=z7 h;have qC:=z7 vE;obtain⟨R,hR⟩:∃ R,runN F rs i=R:=⟨_,rfl⟩;rw[hR];have HR:=z7 hR;have wo:=h.at_;have yiv:=h.here;have hL0:=h.len;clear h vE hR;go_enter func235,ntmps235;go_wp2_with fail;clear wo;go_loopw [] (fun wr=>∃ n,n<=rs.length/\(n=0\/i+n<=rs.length)/\vJ p rs (i+n) d wr/\xl p w wr/\Xd F rs i (rs.length+1 - n) n=R) (fun wr=>rs.length+1 - MK p wr)
 case atStart=>exact⟨0,Nat.zero_le _,.inl rfl,HH.out,xl.refl _ _,HR.out⟩
 case round =>
  obtain⟨n,hn,Et,hs,fg,jR⟩:=hrel;have HS:=z7 hs;have vR:=Wt (F:=F) (rs:=rs) (i:=i) (n:=n) (R:=R) (f:=rs.length - n) (by rw[show rs.length - n+1=rs.length+1 - n by omega];exact jR);have jN:=z7 vR;have h5:=hs.at_;have jh:wr.drew.cell? ⟨p,1,none⟩=some (.int .i64 ((i+n:Nat):Int)):=h5;have EB:((i+n:Nat):Int) - (i:Int)=(n:Int):=by omega
  have D0:IntKind.i64.wrap ((i:Int)+(n:Int) - (i:Int))=(n:Int):=by rw[show(i:Int)+(n:Int) - (i:Int)=(n:Int) by omega];simp[IntKind.wrap,IntKind.signed,IntKind.bits];omega
  clear hs jR vR;go_wp2_with fail;refine rt (fun W':World=>W'.cell? ⟨p,1,none⟩=some (.int .i64 ((i+n:Nat):Int))) [0,1,3,4,5,6,7,8] 2 jh ?_;(iterate 8 ((first|refine ty ?_|refine tn ?_);try simp only[pl]))
  refine xk ?_;refine xg 2 (by kernel_rfl) rfl (fun K hK=>?_);go_simp;refine(jP p rs (i+n) d wr.drew (HS.out.below (zy _ _).drew)).mono ?_;rintro e w1 ⟨rfl,xH⟩;have uf:Below wr.heap.size wr w1:=(zy _ wr).drew.trans xH;have gM:=z7 (HS.out.below uf);have Dy:w1.cell? ⟨p,1,none⟩=some (.int .i64 ((i+n:Nat):Int)):=gM.out.at_;refine hK.out _ _ Dy (fun _=>?_);clear hK K;refine xg 9 (by kernel_rfl) rfl (fun K hK=>?_);go_simp;refine(qC.out w1 (fg.below uf) n Et (by omega) gM.out).mono ?_;rintro e w2 ⟨rfl,xB⟩;have qf:=uf.trans (xB.mono uf.size);have qU:=gM.out.below xB;have di:=z7 qU;have MJ:w2.cell? ⟨p,1,none⟩=some (.int .i64 ((i+n:Nat):Int)):=qU.at_;have h7:=qU.z1;refine hK.out _ _ MJ (fun _=>?_);clear hK K;refine wpAnyH_done (by kernel_rfl) ?_ _;obtain⟨b,hb⟩:∃ b,F (xX rs (i+n)) n=b:=⟨_,rfl⟩;rw[hb];rw[hb] at jN;have HB:=z7 hb;clear qU hb jh Dy h5 EB D0
  cases b
  ·have HE:=z7 (show n=R from jN.out.2 rfl);by_cases qX:n=0
   ·subst qX;have hq:(((i+0:Nat):Int)==(i:Int))=true:=by simp
    go_wp2_with fail;refine(dU p 3 i w2 di.out.KO).mono ?_;rintro e w3 ⟨hff,uP⟩;have HFF:=z7 hff;obtain⟨bf,rfl,_,_⟩:=hff;go_wp2;exact⟨rfl,by rw[←HE.out,if_pos rfl];exact HFF.out,(fg.below qf).below uP⟩
   ·have hq:(((i+n:Nat):Int)==(i:Int))=false:=by simp;omega
    obtain⟨⟨g,cap,c0,MG,jM,KP,gN⟩,c1,_,_,_,_,_,_⟩:=di.out;have b7:i+n<=rs.length:=Et.resolve_left qX;obtain⟨L,hL⟩:∃ L,rs.length=L:=⟨_,rfl⟩;have HLL:=z7 hL;rw[hL] at c0 MG b7;have hS3:w2.drew.cell? ⟨p,1,none⟩=some (.int .i64 ((i+n:Nat):Int))/\w2.drew.cell? ⟨p,0,none⟩=some (.slice (some ⟨g,0,none⟩) L cap)/\∀ j (h:j<rs.length),w2.drew.cell? ⟨g,j,none⟩=some (.int .i32 rs[j]):=⟨c1,c0,gN⟩;have k1:i<=i+n:=by omega
    have k2:i+n<=cap:=by omega
    have k3:i<=cap:=by omega
    have k4:(i:Int)<=(i:Int)+(n:Int):=by omega
    have k5:(i:Int)+(n:Int)<=(cap:Int):=by omega
    have k6:((i:Int)+(n:Int)).toNat=i+n:=by omega
    have k7:(0:Int)<=(i:Int)+(n:Int):=by omega
    have k8:i+n - i=n:=by omega
    have k9:(i:Int)+(n:Int) - (i:Int)=(n:Int):=by omega
    clear hL gN c0 c1 MJ xB;go_wp2_with fail;refine rt (fun W':World=>W'.cell? ⟨p,1,none⟩=some (.int .i64 ((i+n:Nat):Int))/\W'.cell? ⟨p,0,none⟩=some (.slice (some ⟨g,0,none⟩) L cap)/\∀ j (h:j<rs.length),W'.cell? ⟨g,j,none⟩=some (.int .i32 rs[j])) [0,1,2,3,4,5,6,7,8,9,10,11] 0 hS3 ?_;(iterate 10 ((first|refine ty ?_|refine tn ?_);try simp only[pl]))
    refine QT (v:=xf (qi rs i n)) rfl (by rfl) ?_ ?_
    ·intro w' sf;have hcv:=run_convert_runes (P:=prog) w' 147 9 21 ⟨g,i,none⟩ n (cap - i) ((rs.drop i).take n) (by simp;have:=HLL.out;omega) underlying147 underlying21 underlying9 (fun j hj=>by
      have MF:i+j<rs.length:=by simp at hj;omega
      have e:(⟨g,i,none⟩:Addr).add j=⟨g,i+j,none⟩:=by
       unfold Addr.add;split
       ·next h=>subst h;rfl
       ·rfl
      rw[e,sf.2.2 (i+j) MF];have hjn:j<n:=by simp at hj;omega
      simp[z8,List.getElem?_take,List.getElem?_drop,hjn,MF])
     rw[zk (by simp;omega),Xf] at hcv;go_simp;rw[if_neg (show ¬cap=i by omega),hcv];rfl
    (try simp only[Act.put,List.setIfInBounds_toArray,List.set_cons_zero,List.set_cons_succ])
    (iterate 1 ((first|refine ty ?_|refine tn ?_);try simp only[pl]))
    refine xk ?_;refine wpAnyH_done (by kernel_rfl) ?_ _;go_wp2;go_ret;exact⟨by rw[if_neg (by rw[←HE.out];exact qX)];exact⟨by rw[←HE.out];rfl,by rw[←HE.out];exact di.out.below (zy _ _).drew⟩,(fg.below qf).drew⟩
  ·have xC:i+n<rs.length:=by
    apply zv;intro hc;have:=HB.out;rw[qw (by omega),Zs] at this
    cases this
   have HG:=z7 (jN.out.1 rfl);have De:=di.out.move (i+(n+1)) (by omega);have HM:=z7 (show vJ p rs (i+(n+1)) d (w2.setCell ⟨p,1,none⟩ (.int .i64 ((i:Int)+(n:Int)+1))) by rw[show(i:Int)+(n:Int)+1=((i+(n+1):Nat):Int) by omega];exact De);clear De;go_wp2;go_roundw
   case rel=>exact⟨n+1,by omega,.inr (by omega),HM.out,(fg.below qf).UM 1 _,by rw[show rs.length+1 - (n+1)=rs.length - n by omega];exact HG.out⟩
   case measure=>rw[vG HM.out,vG HS.out];omega
def Zt(r:Int)(n:Nat):Bool:=decide (n<16) && (kF r ||(decide (0<n) && uY r))
theorem Ra(r:Int)(n:Nat)(w:World)(hn:n<=1000000):Calls prog 236 #[.int .i32 r,.int .i64 (n:Nat)] w fun e w'=>e = .returned (.bool (Zt r n))/\w=w':=by
 obtain⟨l,hl⟩:∃ b,kF r=b:=⟨_,rfl⟩;obtain⟨dg,Pz⟩:∃ b,uY r=b:=⟨_,rfl⟩;have HL:=z7 (hl▸Vl r w);have HD:=z7 (Pz▸V7 r w);have HF:=z7 (show Zt r n=(decide (n<16) && (l ||(decide (0<n) && dg))) by unfold Zt;rw[hl,Pz]);clear hl Pz;by_cases h1:n<16
 ·have g1:decide (n<16)=true:=decide_eq_true h1;go_enter func236,ntmps236;go_wp2_with fail;refine HL.out.mono ?_;rintro e w' ⟨rfl,rfl⟩
  cases l
  ·by_cases h2:0<n
   ·have g2:decide (0<n)=true:=decide_eq_true h2;go_wp2_with fail;refine HD.out.mono ?_;rintro e w' ⟨rfl,rfl⟩;go_wp2;go_ret;exact⟨by rw[HF.out,g1,g2];simp,rfl⟩
   ·have g2:decide (0<n)=false:=decide_eq_false h2;go_wp2;go_ret;exact⟨by rw[HF.out,g1,g2];simp,rfl⟩
  ·go_wp2;go_ret;exact⟨by rw[HF.out,g1];simp,rfl⟩
 ·have g1:decide (n<16)=false:=decide_eq_false h1;go_enter func236,ntmps236;go_wp2;go_ret;exact⟨by rw[HF.out,g1];simp,rfl⟩
def qo(rs:List Int)(i:Nat):Nat:=runN Zt rs i
theorem UN(p:Nat)(rs:List Int)(i d:Nat)(w:World)(h:vJ p rs i d w) :
  Calls prog 199 #[.pointer (some ⟨p,0,none⟩)] w (zzu p rs i d (qo rs i) w):=by
 have hf:Ws p rs i d w (.func (.func 236) #[] #[]) Zt :=
  ⟨_,_,rfl,fun args w=>by rfl,fun W _ n _ hn _=>(Ra (xX rs (i+n)) n W hn).mono fun e w' q=>⟨q.1,q.2▸zy _ _⟩⟩
 have HR:=z7 (P9 p rs i d w _ Zt h hf (fun n=>by unfold Zt;simp[kF,uY]));rw[show runN Zt rs i=qo rs i from rfl] at HR;obtain⟨n,hn⟩:∃ n,qo rs i=n:=⟨_,rfl⟩;rw[hn] at HR ⊢;clear h hf hn;go_enter func199,ntmps199;go_wp2_with fail;refine HR.out.mono ?_;rintro e w1 ⟨hq,hb⟩;by_cases h0:n=0
 ·rw[if_pos h0] at hq;have HQ:=z7 hq;obtain⟨b,rfl,_,_⟩:=hq;have H0:=z7 h0;clear h0;go_wp2;exact⟨rfl,by rw[if_pos H0.out];exact HQ.out,hb⟩
 ·rw[if_neg h0] at hq;obtain⟨rfl,hs⟩:=hq;have H0:=z7 h0;clear h0;go_wp2;go_ret;exact⟨by rw[if_neg H0.out];exact⟨rfl,hs⟩,hb⟩
def fG(r0:Int)(r:Int)(n:Nat):Bool:=(decide (n<9) && uY r) && (decide (n=0) || r0 !=48)
theorem MD(p bt bf:Nat)(rs:List Int)(i n d:Nat)(w:World)(hs:vJ p rs (i+n) d w)(hn:n<=1000000)(hi:n=0\/i+n<=rs.length)(ht:w.cell? ⟨bt,0,none⟩=some (.pointer (some ⟨p,0,none⟩)))(hf:w.cell? ⟨bf,0,none⟩=some (.int .i64 i))(r:Int) :
  Calls prog 238 #[.int .i32 r,.int .i64 (n:Nat),.pointer (some ⟨bt,0,none⟩),.pointer (some ⟨bf,0,none⟩)] w fun e w'=>e = .returned (.bool (fG (xX rs i) r n))/\Below w.heap.size w w':=by
 obtain⟨dg,Pz⟩:∃ b,uY r=b:=⟨_,rfl⟩;have HD:=z7 (fun W=>Pz▸V7 r W);obtain⟨r0,vZ⟩:∃ q,xX rs i=q:=⟨_,rfl⟩;rw[vZ];have HF:=z7 (show fG r0 r n=((decide (n<9) && dg) && (decide (n=0) || r0 !=48)) by unfold fG;rw[Pz]);obtain⟨⟨g,cap,c0,MG,jM,KP,gN⟩,c1,_,_,_,_,_,_⟩:=hs;obtain⟨L,hL⟩:∃ L,rs.length=L:=⟨_,rfl⟩;rw[hL] at c0 MG hi;have HC:=z7 (show i<L->w.cell? ⟨g,i,none⟩=some (.int .i32 r0) from fun h=>by
  rw[gN i (by rw[hL];exact h),←vZ];unfold xX;rw[z8,zx (by rw[hL];exact h)];rfl)
 clear Pz vZ gN hL;by_cases h1:n<9
 ·have g1:decide (n<9)=true:=decide_eq_true h1;have g1i:decide ((n:Int)<9)=true:=by simp;omega
  cases dg
  ·go_enter func238,ntmps238;go_wp2_with fail;refine uo (fun W':World=>True) [0,1,2,3] 17 (by intro _ _ d _ _ h;cases d<;>exact h) (by kernel_rfl) (by kernel_rfl) (show True from trivial) ?_;(iterate 4 ((first|refine ty ?_|refine tn ?_);try simp only[pl]))
   refine xk ?_;refine xg 4 (by kernel_rfl) rfl (fun K hK=>?_);go_simp;refine(HD.out _).mono ?_;rintro e w' ⟨rfl,rfl⟩;refine hK.out _ _ trivial (fun _=>?_);clear hK K;refine xE [5,6,7,8,9,10,11,12,13,14,15,16,17,18,19,20] 0 rfl (by intro _ _ d _ _ h;cases d<;>exact h) (by kernel_rfl) (by kernel_rfl) (show True from trivial) ?_;(iterate 16 ((first|refine ty ?_|refine tn ?_);try simp only[pl]))
   refine xk ?_;refine wpAnyH_done (by kernel_rfl) ?_ _;go_wp2;go_ret;exact⟨by rw[HF.out,g1];simp,(zy _ _).drew⟩
  ·by_cases h0:n=0
   ·subst h0;go_enter func238,ntmps238;go_wp2_with fail;refine uo (fun W':World=>True) [0,1,2,3] 17 (by intro _ _ d _ _ h;cases d<;>exact h) (by kernel_rfl) (by kernel_rfl) (show True from trivial) ?_;(iterate 4 ((first|refine ty ?_|refine tn ?_);try simp only[pl]))
    refine xk ?_;refine xg 4 (by kernel_rfl) rfl (fun K hK=>?_);go_simp;refine(HD.out _).mono ?_;rintro e w' ⟨rfl,rfl⟩;refine hK.out _ _ trivial (fun _=>?_);clear hK K;refine xE [5,6,7,8,9,10,11,12,13,14,15,16,17,18,19,20] 0 rfl (by intro _ _ d _ _ h;cases d<;>exact h) (by kernel_rfl) (by kernel_rfl) (show True from trivial) ?_;(iterate 16 ((first|refine ty ?_|refine tn ?_);try simp only[pl]))
    refine xk ?_;refine wpAnyH_done (by kernel_rfl) ?_ _;go_wp2;go_ret;exact⟨by rw[HF.out,g1];simp,(zy _ _).drew⟩
   ·have g2:decide (n=0)=false:=decide_eq_false h0;have g3:(n==0)=false:=by simpa using h0
    have g3i:((n:Int)==0)=false:=by simp;omega
    have C6:=hi.resolve_left h0;have hiL:i<L:=by omega
    have Py:=HC.out hiL;have jh:w.drew.cell? ⟨bt,0,none⟩=some (.pointer (some ⟨p,0,none⟩))/\w.drew.cell? ⟨bf,0,none⟩=some (.int .i64 i)/\w.drew.cell? ⟨p,0,none⟩=some (.slice (some ⟨g,0,none⟩) L cap)/\w.drew.cell? ⟨g,i,none⟩=some (.int .i32 r0):=⟨ht,hf,c0,Py⟩;go_enter func238,ntmps238;go_wp2_with fail;refine rt (fun W':World=>W'.cell? ⟨bt,0,none⟩=some (.pointer (some ⟨p,0,none⟩))/\W'.cell? ⟨bf,0,none⟩=some (.int .i64 i)/\W'.cell? ⟨p,0,none⟩=some (.slice (some ⟨g,0,none⟩) L cap)/\W'.cell? ⟨g,i,none⟩=some (.int .i32 r0)) [0,1,2,3] 17 jh ?_;(iterate 4 ((first|refine ty ?_|refine tn ?_);try simp only[pl]))
    refine xk ?_;refine xg 4 (by kernel_rfl) rfl (fun K hK=>?_);go_simp;refine(HD.out _).mono ?_;rintro e w' ⟨rfl,rfl⟩;refine hK.out _ _ jh (fun _=>?_);clear hK K;refine xE [5,6,7,8,9,10,11,12,13,14,15,16,17,18,19,20] 0 rfl (by intro _ _ d _ _ h;cases d<;>exact h) (by kernel_rfl) (by kernel_rfl) jh ?_;(iterate 16 ((first|refine ty ?_|refine tn ?_);try simp only[pl]))
    refine xk ?_;refine wpAnyH_done (by kernel_rfl) ?_ _;go_wp2;go_ret;exact⟨by rw[HF.out,g1,g2];simp,(zy _ _).drew⟩
 ·have g1:decide (n<9)=false:=decide_eq_false h1;have g1i:decide ((n:Int)<9)=false:=by simp;omega
  go_enter func238,ntmps238;go_wp2_with fail;refine uo (fun W':World=>True) [0,1,2,3] 17 (by intro _ _ d _ _ h;cases d<;>exact h) (by kernel_rfl) (by kernel_rfl) (show True from trivial) ?_;(iterate 4 ((first|refine ty ?_|refine tn ?_);try simp only[pl]))
  refine xk ?_;refine xg 4 (by kernel_rfl) rfl (fun K hK=>?_);rw[if_neg (by exact Bool.false_ne_true)];refine hK.out _ _ trivial (fun _=>?_);clear hK K;refine xE [5,6,7,8,9,10,11,12,13,14,15,16,17,18,19,20] 0 rfl (by intro _ _ d _ _ h;cases d<;>exact h) (by kernel_rfl) (by kernel_rfl) (show True from trivial) ?_;(iterate 16 ((first|refine ty ?_|refine tn ?_);try simp only[pl]))
  refine xk ?_;refine wpAnyH_done (by kernel_rfl) ?_ _;go_wp2;go_ret;exact⟨by rw[HF.out,g1];simp,(zy _ _).drew⟩
def qv(rs:List Int)(i:Nat):Nat:=runN (fG (xX rs i)) rs i
theorem Di(p:Nat)(rs:List Int)(i d:Nat)(w:World)(h:vJ p rs i d w) :
  Calls prog 203 #[.pointer (some ⟨p,0,none⟩)] w (zzu p rs i d (qv rs i) w):=by
 have HH:=z7 h;have xC:=h.lt;have h5:=h.at_;obtain⟨n,hn⟩:∃ n,qv rs i=n:=⟨_,rfl⟩;rw[hn];have HN:=z7 hn;clear h hn;go_enter func203,ntmps203;go_wp2_with fail;refine vz ?_;intro W hW;have hb:Below w.heap.size w W:=by rw[hW];exact((zy _ _).alloc (zg _) _).alloc (by simp) _
 have ht:W.cell? ⟨w.heap.size,0,none⟩=some (.pointer (some ⟨p,0,none⟩)):=by rw[hW];go_simp
 have hf:W.cell? ⟨w.heap.size+1,0,none⟩=some (.int .i64 i):=by rw[hW];go_simp
 clear hW h5;have MB:Ws p rs i d W (.func (.func 238) #[] #[.pointer (some ⟨w.heap.size,0,none⟩),.pointer (some ⟨w.heap.size+1,0,none⟩)]) (fG (xX rs i)) :=
  ⟨_,_,rfl,fun args w=>by rfl,fun W' fg n hi hn hs=>MD p w.heap.size (w.heap.size+1) rs i n d W' hs hn hi (fg.cell ht (by show w.heap.size≠p;omega)) (fg.cell hf (by show w.heap.size+1≠p;omega)) (xX rs (i+n))⟩
 refine(P9 p rs i d W _ (fG (xX rs i)) (HH.out.below hb) MB (fun n=>by unfold fG;simp[uY])).mono ?_;rintro e w1 ⟨hq,xH⟩;rw[show runN (fG (xX rs i)) rs i=n from HN.out] at hq;have uf:=(xl.of (p:=p) hb).trans xH;by_cases h0:n=0
 ·rw[if_pos h0] at hq;have HQ:=z7 hq;obtain⟨b,rfl,_,_⟩:=hq;have H0:=z7 h0;clear h0;go_wp2;exact⟨rfl,by rw[if_pos H0.out];exact HQ.out,uf⟩
 ·rw[if_neg h0] at hq;obtain⟨rfl,hs⟩:=hq;have H0:=z7 h0;clear h0;go_wp2;go_ret;exact⟨by rw[if_neg H0.out];exact⟨rfl,hs⟩,uf⟩
end Go.Proofs.YthpldolmpinnhaaGreatDoor
