import Derived.Test.YthpldolmpinnhaaGreatDoorJF7
import Derived.Laws.Cover4
import Derived.Deep.LoopGhost
import Derived.WalkMore
set_option maxHeartbeats 64000000
open Go.Lib renaming hid→z7
open List renaming getD_eq_getElem?_getD→z8,getElem?_eq_getElem→zx,drop_eq_getElem_cons→zu,take_of_length_le→zk,getElem?_eq_none→zj
open Go.RowKit.Below renaming refl→zy
open Classical renaming byContradiction→zv
open Nat renaming le_refl→zg
open Go.Proofs.Tryz
namespace Go.Proofs.YthpldolmpinnhaaGreatDoor
open Go Go.RowKit
set_option maxRecDepth 10000
theorem Aj(g cap:Nat)(rs:List Int)(r:Int)(w:World)(hl:rs.length<=1000000)(hc:∀ j (h:j<rs.length),w.cell? ⟨g,j,none⟩=some (.int .i32 rs[j])) :
  Calls prog 258 #[.slice (some ⟨g,0,none⟩) rs.length cap,.int .i32 r] w fun e w'=>(∃ k:Int,e = .returned (.int .i64 k)/\decide (0<=k)=rs.contains r)/\w=w':=by
 have HC:=z7 hc;obtain⟨n,hn⟩:=xX rs.length;have HN:=z7 hn;rw[hn] at hl ⊢;clear hc hn;go_enter func258,ntmps258;go_wp2;go_loop [8] (fun i=>∃ k:Nat,k<=n/\i = .int .i64 k/\r ∉ rs.take k) (fun i=>n - (intOf i).toNat)
 case atStart=>exact⟨0,Nat.zero_le _,rfl,by simp⟩
 case round =>
  obtain⟨k,hk,rfl,Hl⟩:=hrel;have zc2:=z7 Hl;clear Hl;by_cases xD:k<n
  ·have xi:=HC.out k (by rw[HN.out];exact xD);obtain⟨x,hx⟩:=xX (rs[k]'(by rw[HN.out];exact xD));rw[hx] at xi;have HX:=z7 hx;clear hx;by_cases hq:r=x
   ·have j9:(r==x)=true:=by simpa using hq
    have HF:=z7 (show r∈rs by rw[hq,←HX.out];exact List.getElem_mem _);clear hq;go_wp2;go_ret;exact⟨⟨k,rfl,by simpa using HF.out⟩,rfl⟩
   ·have j9:(r==x)=false:=by simpa using hq
    have HF:=z7 (show r ∉ rs.take (k+1) by
     rw[List.take_succ_eq_append_getElem (by rw[HN.out];exact xD),List.mem_append];rintro(q|q)
     ·exact zc2.out q
     ·rw[HX.out] at q;exact hq (List.mem_singleton.1 q))
    go_wp2;go_round
    case rel=>exact⟨k+1,by omega,by go_num,HF.out⟩
    case measure=>simp[intOf];omega
  ·obtain rfl:k=n:=by omega
   have nD:=zc2.out;rw[zk (by rw[HN.out];exact zg _)] at nD;have HF:=z7 nD;clear nD;go_wp2;go_ret;exact⟨⟨-1,rfl,by simpa using HF.out⟩,rfl⟩
theorem DB(g cap:Nat)(rs:List Int)(r:Int)(w:World)(hl:rs.length<=1000000)(hc:∀ j (h:j<rs.length),w.cell? ⟨g,j,none⟩=some (.int .i32 rs[j])) :
  Calls prog 234 #[.slice (some ⟨g,0,none⟩) rs.length cap,.int .i32 r] w fun e w'=>e = .returned (.bool (rs.contains r))/\w=w':=by
 have HI:=z7 (Aj g cap rs r w hl hc);clear hc;go_enter func234,ntmps234;go_wp2_with fail;refine HI.out.mono ?_;rintro e w' ⟨⟨k,rfl,hk⟩,rfl⟩;have HK:=z7 hk;clear hk HI;go_wp2;go_ret;exact⟨by rw[←HK.out];rfl,rfl⟩
def Gf(r:Int):Bool:=[32,9,10,13].contains r
def xr(rs:List Int)(i:Nat):Nat:=i+((rs.drop i).takeWhile Gf).length
theorem Ag{rs:List Int}{i:Nat}(h:Gf (xU rs i)=true):i<rs.length/\xr rs i=xr rs (i+1):=by
 have xD:i<rs.length:=by
  apply zv;intro hc;unfold xU at h;rw[z8,zj (by omega)] at h;revert h
  decide
 refine⟨xD,?_⟩;have hn:xU rs i=rs[i]:=by unfold xU;rw[z8,zx xD];rfl
 rw[hn] at h;unfold xr;rw[zu xD,List.takeWhile_cons_of_pos h];simp;omega
theorem oX{rs:List Int}{i:Nat}(h:Gf (xU rs i)=false):xr rs i=i:=by
 unfold xr;by_cases xD:i<rs.length
 ·have hn:xU rs i=rs[i]:=by unfold xU;rw[z8,zx xD];rfl
  rw[hn] at h;rw[zu xD,List.takeWhile_cons_of_neg (by simp[h])];rfl
 ·rw[List.drop_of_length_le (by omega)];rfl
def N6(p:Nat)(w:World):Nat:=match w.cell? ⟨p,1,none⟩ with|some v=>(intOf v).toNat|none=>0
theorem vJ{p:Nat}{rs:List Int}{i d:Nat}{w:World}(h:vK p rs i d w):N6 p w=i:=by
 unfold N6;rw[h.at_];simp[intOf]
theorem uw(p:Nat)(rs:List Int)(i d:Nat)(w:World)(h:vK p rs i d w) :
  Calls prog 198 #[.pointer (some ⟨p,0,none⟩)] w (PO p rs d (.tuple #[]) (xr rs i) w):=by
 have HH:=z7 h;obtain⟨R,hR⟩:=xX (xr rs i);rw[hR];have HR:=z7 hR;clear h hR;go_enter func198,ntmps198;go_wp2_with fail;go_loopw [] (fun wr=>∃ j,vK p rs j d wr/\xP p w wr/\xr rs j=R) (fun wr=>rs.length - N6 p wr)
 case atStart=>exact⟨i,HH.out,xP.refl _ _,HR.out⟩
 case round =>
  obtain⟨j,hs,fx,hsk⟩:=hrel;have HS:=z7 hs;have Je:=z7 hsk;clear hs hsk;go_wp2_with fail;refine vZ ?_;intro W hW;have hb:Below wr.heap.size wr W:=by rw[hW];exact(zy _ _).alloc (zg _) _
  have hc:∀ k (h:k<4),W.cell? ⟨wr.heap.size,k,none⟩=some (.int .i32 ([32,9,10,13][k]'h)):=by
   rw[hW];intro k hk;rw[xu];match k,hk with
   | 0,_=>rfl
   | 1,_=>rfl
   | 2,_=>rfl
   | 3,_=>rfl
  clear hW;refine(jL p rs j d W (HS.out.below hb)).mono ?_;rintro e w1 ⟨rfl,xB⟩;have vO:=hb.trans (xB.mono hb.size);have hz:wr.heap.size<W.heap.size:=World.block_lt_of_cell? W _ (hc 0 (by decide));have qX:∀ k (h:k<4),w1.cell? ⟨wr.heap.size,k,none⟩=some (.int .i32 ([32,9,10,13][k]'h)):=fun k hk=>(xB.cell (p:=⟨wr.heap.size,k,none⟩) hz).trans (hc k hk)
  have vY:=DB wr.heap.size 4 [32,9,10,13] (xU rs j) w1 (by decide) qX;rw[show[32,9,10,13].contains (xU rs j)=Gf (xU rs j) from rfl] at vY;have ur:=z7 vY;have uL:=HS.out.below vO;have gC:=z7 uL;have h5:=uL.at_;have h7:=uL.z1;have hlen:=uL.len;have I6:=uL.here;obtain⟨bl,N7⟩:∃ b,Gf (xU rs j)=b:=⟨_,rfl⟩;rw[N7] at ur;have HBL:=z7 N7;clear hc qX vY hb xB uL N7;go_wp2_with fail;refine ur.out.mono ?_;rintro e w' ⟨rfl,rfl⟩
  cases bl
  ·have HF:=z7 (show j=R by rw[←Je.out];exact(oX HBL.out).symm);go_wp2;go_end0
   exact⟨rfl,by rw[←HF.out];exact gC.out,fx.below vO⟩
  ·obtain⟨xD,kF⟩:=Ag HBL.out;have HF:=z7 (show xr rs (j+1)=R by rw[←Je.out,kF]);have Bz:=gC.out.move (j+1) (by omega);have HM:=z7 (show vK p rs (j+1) d (w1.setCell ⟨p,1,none⟩ (.int .i64 ((j:Int)+1))) by simpa using Bz);clear kF Bz;go_wp2;go_roundw
   case rel=>exact⟨j+1,HM.out,(fx.below vO).Ue 1 _,HF.out⟩
   case measure=>rw[vJ HM.out,vJ HS.out];omega
theorem XU(l:List Int):runesBytes l=⟨(l.flatMap enc).toArray⟩:=by
 unfold runesBytes;have h:∀ (l:List Int) (a:List UInt8),l.foldl (fun r n=>r++Utf8.encode n) (⟨a.toArray⟩:ByteArray)=⟨(a++l.flatMap enc).toArray⟩:=by
  intro l;induction l with
  | nil=>intro a;simp
  | cons c t ih =>
   intro a;rw[List.foldl_cons,append_eq,toList_mk];rw[show(Utf8.encode c).data.toList=enc c from rfl,ih];simp
 have:=h l [];rw[List.nil_append] at this;exact this
def Af(p:Nat)(rs:List Int)(i d:Nat)(w:World)(v:Value)(F:Int->Nat->Bool):Prop :=
 ∃ k cap,v = .func (.func k) #[] cap/\(∀ args w,(callFunc k args).run prog w = .ok (.enter k args) w) /\
  ∀ W,xP p w W->∀ n,(n=0\/i+n<=rs.length)->n<=1000000->vK p rs (i+n) d W->Calls prog k (#[.int .i32 (xU rs (i+n)),.int .i64 (n:Nat)]++cap) W fun e W'=>e = .returned (.bool (F (xU rs (i+n)) n))/\Below W.heap.size W W'
def Ui(F:Int->Nat->Bool)(rs:List Int)(i:Nat):Nat->Nat->Nat
 | 0,n=>n
 | f+1,n=>if F (xU rs (i+n)) n=true then Ui F rs i f (n+1) else n
def runN(F:Int->Nat->Bool)(rs:List Int)(i:Nat):Nat:=Ui F rs i (rs.length+1) 0
def kb(rs:List Int)(i n:Nat):Wd:=((rs.drop i).take n).flatMap enc
def zxz(p:Nat)(rs:List Int)(i d n:Nat)(w:World)(e:Ending)(w':World):Prop :=
 (if n=0 then K7 p 3 i e w' else e = .returned (xk (kb rs i n))/\vK p rs (i+n) d w')/\xP p w w'
theorem kD{rs:List Int}{i:Nat}(h:rs.length<=i):xU rs i = -1:=by
 unfold xU;rw[z8,zj h];rfl
theorem Ad{F:Int->Nat->Bool}{rs:List Int}{i n R f:Nat}(h:Ui F rs i (f+1) n=R):(F (xU rs (i+n)) n=true->Ui F rs i f (n+1)=R)/\(F (xU rs (i+n)) n=false->n=R):=by
 rw[Ui] at h;constructor
 ·intro q;rw[if_pos q] at h;exact h
 ·intro q;rw[if_neg (by rw[q];simp)] at h;exact h
theorem PR(p:Nat)(rs:List Int)(i d:Nat)(w:World)(v:Value)(F:Int->Nat->Bool)(h:vK p rs i d w)(hf:Af p rs i d w v F)(Zm:∀ n,F (-1) n=false) :
  Calls prog 235 #[.pointer (some ⟨p,0,none⟩),v] w (zxz p rs i d (runN F rs i) w):=by
 obtain⟨kf,cf,rfl,CQ,vY⟩:=hf;have HH:=z7 h;have ur:=z7 vY;obtain⟨R,hR⟩:=xX (runN F rs i);rw[hR];have HR:=z7 hR;have hi0:=h.at_;have ymx:=h.here;have hL0:=h.len;clear h vY hR;go_enter func235,ntmps235;go_wp2_with fail;clear hi0;go_loopw [] (fun wr=>∃ n,n<=rs.length/\(n=0\/i+n<=rs.length)/\vK p rs (i+n) d wr/\xP p w wr/\Ui F rs i (rs.length+1 - n) n=R) (fun wr=>rs.length+1 - N6 p wr)
 case atStart=>exact⟨0,Nat.zero_le _,.inl rfl,HH.out,xP.refl _ _,HR.out⟩
 case round =>
  obtain⟨n,hn,I7,hs,fx,jM⟩:=hrel;have HS:=z7 hs;have vH:=Ad (F:=F) (rs:=rs) (i:=i) (n:=n) (R:=R) (f:=rs.length - n) (by rw[show rs.length - n+1=rs.length+1 - n by omega];exact jM);have jX:=z7 vH;have h5:=hs.at_;have jo:wr.drew.cell? ⟨p,1,none⟩=some (.int .i64 ((i+n:Nat):Int)):=h5;have H7:((i+n:Nat):Int) - (i:Int)=(n:Int):=by omega
  have Df:IntKind.i64.wrap ((i:Int)+(n:Int) - (i:Int))=(n:Int):=by rw[show(i:Int)+(n:Int) - (i:Int)=(n:Int) by omega];simp[IntKind.wrap,IntKind.signed,IntKind.bits];omega
  clear hs jM vH;go_wp2_with fail;refine rt (fun W':World=>W'.cell? ⟨p,1,none⟩=some (.int .i64 ((i+n:Nat):Int))) [0,1,3,4,5,6,7,8] 2 jo ?_;(iterate 8 ((first|refine ty ?_|refine tn ?_);try simp only[pl]))
  refine xq ?_;refine kR 2 (fun K hK=>?_);go_simp;refine(jL p rs (i+n) d wr.drew (HS.out.below (zy _ _).drew)).mono ?_;rintro e w1 ⟨rfl,xB⟩;have vO:Below wr.heap.size wr w1:=(zy _ wr).drew.trans xB;have gC:=z7 (HS.out.below vO);have Gg:w1.cell? ⟨p,1,none⟩=some (.int .i64 ((i+n:Nat):Int)):=gC.out.at_;refine hK.out _ _ Gg (fun _=>?_);clear hK K;refine kR 9 (fun K hK=>?_);go_simp;refine(ur.out w1 (fx.below vO) n I7 (by omega) gC.out).mono ?_;rintro e w2 ⟨rfl,xF⟩;have uK:=vO.trans (xF.mono vO.size);have ue:=gC.out.below xF;have dv:=z7 ue;have N8:w2.cell? ⟨p,1,none⟩=some (.int .i64 ((i+n:Nat):Int)):=ue.at_;have h7:=ue.z1;refine hK.out _ _ N8 (fun _=>?_);clear hK K;refine bX ?_ _;obtain⟨b,hb⟩:=xX (F (xU rs (i+n)) n);rw[hb];rw[hb] at jX;have HB:=z7 hb;clear ue hb jo Gg h5 H7 Df
  cases b
  ·have HE:=z7 (show n=R from jX.out.2 rfl);by_cases q9:n=0
   ·subst q9;have hq:(((i+0:Nat):Int)==(i:Int))=true:=by simp
    go_wp2_with fail;refine(dy p 3 i w2 dv.out.Ki).mono ?_;rintro e w3 ⟨hff,uP⟩;have HFF:=z7 hff;obtain⟨bf,rfl,_,_⟩:=hff;go_wp2;exact⟨rfl,by rw[←HE.out,if_pos rfl];exact HFF.out,(fx.below uK).below uP⟩
   ·have hq:(((i+n:Nat):Int)==(i:Int))=false:=by simp;omega
    obtain⟨⟨g,cap,c0,N9,jy,Kl,gH⟩,c1,_,_,_,_,_,_⟩:=dv.out;have dp:i+n<=rs.length:=I7.resolve_left q9;obtain⟨L,hL⟩:=xX rs.length;have HLL:=z7 hL;rw[hL] at c0 N9 dp;have hS3:w2.drew.cell? ⟨p,1,none⟩=some (.int .i64 ((i+n:Nat):Int))/\w2.drew.cell? ⟨p,0,none⟩=some (.slice (some ⟨g,0,none⟩) L cap)/\∀ j (h:j<rs.length),w2.drew.cell? ⟨g,j,none⟩=some (.int .i32 rs[j]):=⟨c1,c0,gH⟩;have k1:i<=i+n:=by omega
    have k2:i+n<=cap:=by omega
    have k3:i<=cap:=by omega
    have k4:(i:Int)<=(i:Int)+(n:Int):=by omega
    have k5:(i:Int)+(n:Int)<=(cap:Int):=by omega
    have k6:((i:Int)+(n:Int)).toNat=i+n:=by omega
    have k7:(0:Int)<=(i:Int)+(n:Int):=by omega
    have k8:i+n - i=n:=by omega
    have k9:(i:Int)+(n:Int) - (i:Int)=(n:Int):=by omega
    clear hL gH c0 c1 N8 xF;go_wp2_with fail;refine rt (fun W':World=>W'.cell? ⟨p,1,none⟩=some (.int .i64 ((i+n:Nat):Int))/\W'.cell? ⟨p,0,none⟩=some (.slice (some ⟨g,0,none⟩) L cap)/\∀ j (h:j<rs.length),W'.cell? ⟨g,j,none⟩=some (.int .i32 rs[j])) [0,1,2,3,4,5,6,7,8,9,10,11] 0 hS3 ?_;(iterate 10 ((first|refine ty ?_|refine tn ?_);try simp only[pl]))
    refine Qt (v:=xk (kb rs i n)) rfl (by rfl) ?_ ?_
    ·intro w' tM;have hcv:=run_convert_runes (P:=prog) w' 147 9 21 ⟨g,i,none⟩ n (cap - i) ((rs.drop i).take n) (by simp;have:=HLL.out;omega) underlying147 underlying21 underlying9 (fun j hj=>by
      have H8:i+j<rs.length:=by simp at hj;omega
      have e:(⟨g,i,none⟩:Addr).add j=⟨g,i+j,none⟩:=by
       unfold Addr.add;split
       ·next h=>subst h;rfl
       ·rfl
      rw[e,tM.2.2 (i+j) H8];have hjn:j<n:=by simp at hj;omega
      simp[z8,List.getElem?_take,List.getElem?_drop,hjn,H8])
     rw[zk (by simp;omega),XU] at hcv;go_simp;rw[if_neg (show ¬cap=i by omega),hcv];rfl
    (try simp only[Act.put,List.setIfInBounds_toArray,List.set_cons_zero,List.set_cons_succ])
    (iterate 1 ((first|refine ty ?_|refine tn ?_);try simp only[pl]))
    refine xq ?_;refine bX ?_ _;go_wp2;go_ret;exact⟨by rw[if_neg (by rw[←HE.out];exact q9)];exact⟨by rw[←HE.out];rfl,by rw[←HE.out];exact dv.out.below (zy _ _).drew⟩,(fx.below uK).drew⟩
  ·have xD:i+n<rs.length:=by
    apply zv;intro hc;have:=HB.out;rw[kD (by omega),Zm] at this
    cases this
   have HG:=z7 (jX.out.1 rfl);have Bz:=dv.out.move (i+(n+1)) (by omega);have HM:=z7 (show vK p rs (i+(n+1)) d (w2.setCell ⟨p,1,none⟩ (.int .i64 ((i:Int)+(n:Int)+1))) by rw[show(i:Int)+(n:Int)+1=((i+(n+1):Nat):Int) by omega];exact Bz);clear Bz;go_wp2;go_roundw
   case rel=>exact⟨n+1,by omega,.inr (by omega),HM.out,(fx.below uK).Ue 1 _,by rw[show rs.length+1 - (n+1)=rs.length - n by omega];exact HG.out⟩
   case measure=>rw[vJ HM.out,vJ HS.out];omega
def XQ(r:Int)(n:Nat):Bool:=decide (n<16) && (jY r ||(decide (0<n) && qQ r))
theorem Sj(r:Int)(n:Nat)(w:World)(hn:n<=1000000):Calls prog 236 #[.int .i32 r,.int .i64 (n:Nat)] w fun e w'=>e = .returned (.bool (XQ r n))/\w=w':=by
 obtain⟨l,hl⟩:∃ b,jY r=b:=⟨_,rfl⟩;obtain⟨dg,PS⟩:∃ b,qQ r=b:=⟨_,rfl⟩;have HL:=z7 (hl▸U3 r w);have HD:=z7 (PS▸Vf r w);have HF:=z7 (show XQ r n=(decide (n<16) && (l ||(decide (0<n) && dg))) by unfold XQ;rw[hl,PS]);clear hl PS;by_cases h1:n<16
 ·have g1:decide (n<16)=true:=decide_eq_true h1;go_enter func236,ntmps236;go_wp2_with fail;refine HL.out.mono ?_;rintro e w' ⟨rfl,rfl⟩
  cases l
  ·by_cases h2:0<n
   ·have g2:decide (0<n)=true:=decide_eq_true h2;go_wp2_with fail;refine HD.out.mono ?_;rintro e w' ⟨rfl,rfl⟩;go_wp2;go_ret;exact⟨by rw[HF.out,g1,g2];simp,rfl⟩
   ·have g2:decide (0<n)=false:=decide_eq_false h2;go_wp2;go_ret;exact⟨by rw[HF.out,g1,g2];simp,rfl⟩
  ·go_wp2;go_ret;exact⟨by rw[HF.out,g1];simp,rfl⟩
 ·have g1:decide (n<16)=false:=decide_eq_false h1;go_enter func236,ntmps236;go_wp2;go_ret;exact⟨by rw[HF.out,g1];simp,rfl⟩
def ql(rs:List Int)(i:Nat):Nat:=runN XQ rs i
theorem Ul(p:Nat)(rs:List Int)(i d:Nat)(w:World)(h:vK p rs i d w) :
  Calls prog 199 #[.pointer (some ⟨p,0,none⟩)] w (zxz p rs i d (ql rs i) w):=by
 have hf:Af p rs i d w (.func (.func 236) #[] #[]) XQ :=
  ⟨_,_,rfl,fun args w=>by rfl,fun W _ n _ hn _=>(Sj (xU rs (i+n)) n W hn).mono fun e w' q=>⟨q.1,q.2▸zy _ _⟩⟩
 have HR:=z7 (PR p rs i d w _ XQ h hf (fun n=>by unfold XQ;simp[jY,qQ]));rw[show runN XQ rs i=ql rs i from rfl] at HR;obtain⟨n,hn⟩:=xX (ql rs i);rw[hn] at HR ⊢;clear h hf hn;go_enter func199,ntmps199;go_wp2_with fail;refine HR.out.mono ?_;rintro e w1 ⟨hq,hb⟩;by_cases h0:n=0
 ·rw[if_pos h0] at hq;have HQ:=z7 hq;obtain⟨b,rfl,_,_⟩:=hq;have H0:=z7 h0;clear h0;go_wp2;exact⟨rfl,by rw[if_pos H0.out];exact HQ.out,hb⟩
 ·rw[if_neg h0] at hq;obtain⟨rfl,hs⟩:=hq;have H0:=z7 h0;clear h0;go_wp2;go_ret;exact⟨by rw[if_neg H0.out];exact⟨rfl,hs⟩,hb⟩
def bO(r0:Int)(r:Int)(n:Nat):Bool:=(decide (n<9) && qQ r) && (decide (n=0) || r0 !=48)
theorem Nz(p bt bf:Nat)(rs:List Int)(i n d:Nat)(w:World)(hs:vK p rs (i+n) d w)(hn:n<=1000000)(hi:n=0\/i+n<=rs.length)(ht:w.cell? ⟨bt,0,none⟩=some (.pointer (some ⟨p,0,none⟩)))(hf:w.cell? ⟨bf,0,none⟩=some (.int .i64 i))(r:Int) :
  Calls prog 238 #[.int .i32 r,.int .i64 (n:Nat),.pointer (some ⟨bt,0,none⟩),.pointer (some ⟨bf,0,none⟩)] w fun e w'=>e = .returned (.bool (bO (xU rs i) r n))/\Below w.heap.size w w':=by
 obtain⟨dg,PS⟩:∃ b,qQ r=b:=⟨_,rfl⟩;have HD:=z7 (fun W=>PS▸Vf r W);obtain⟨r0,vv⟩:∃ q,xU rs i=q:=⟨_,rfl⟩;rw[vv];have HF:=z7 (show bO r0 r n=((decide (n<9) && dg) && (decide (n=0) || r0 !=48)) by unfold bO;rw[PS]);obtain⟨⟨g,cap,c0,N9,jy,Kl,gH⟩,c1,_,_,_,_,_,_⟩:=hs;obtain⟨L,hL⟩:=xX rs.length;rw[hL] at c0 N9 hi;have HC:=z7 (show i<L->w.cell? ⟨g,i,none⟩=some (.int .i32 r0) from fun h=>by
  rw[gH i (by rw[hL];exact h),←vv];unfold xU;rw[z8,zx (by rw[hL];exact h)];rfl)
 clear PS vv gH hL;by_cases h1:n<9
 ·have g1:decide (n<9)=true:=decide_eq_true h1;have g1i:decide ((n:Int)<9)=true:=by simp;omega
  cases dg
  ·go_enter func238,ntmps238;go_wp2_with fail;refine uA (fun W':World=>True) [0,1,2,3] 17 (by intro _ _ d _ _ h;cases d<;>exact h) (by kernel_rfl) (by kernel_rfl) (show True from trivial) ?_;(iterate 4 ((first|refine ty ?_|refine tn ?_);try simp only[pl]))
   refine xq ?_;refine kR 4 (fun K hK=>?_);go_simp;refine(HD.out _).mono ?_;rintro e w' ⟨rfl,rfl⟩;refine hK.out _ _ trivial (fun _=>?_);clear hK K;refine Vv [5,6,7,8,9,10,11,12,13,14,15,16,17,18,19,20] 0 (show True from trivial) ?_;(iterate 16 ((first|refine ty ?_|refine tn ?_);try simp only[pl]))
   refine xq ?_;refine bX ?_ _;go_wp2;go_ret;exact⟨by rw[HF.out,g1];simp,(zy _ _).drew⟩
  ·by_cases h0:n=0
   ·subst h0;go_enter func238,ntmps238;go_wp2_with fail;refine uA (fun W':World=>True) [0,1,2,3] 17 (by intro _ _ d _ _ h;cases d<;>exact h) (by kernel_rfl) (by kernel_rfl) (show True from trivial) ?_;(iterate 4 ((first|refine ty ?_|refine tn ?_);try simp only[pl]))
    refine xq ?_;refine kR 4 (fun K hK=>?_);go_simp;refine(HD.out _).mono ?_;rintro e w' ⟨rfl,rfl⟩;refine hK.out _ _ trivial (fun _=>?_);clear hK K;refine Vv [5,6,7,8,9,10,11,12,13,14,15,16,17,18,19,20] 0 (show True from trivial) ?_;(iterate 16 ((first|refine ty ?_|refine tn ?_);try simp only[pl]))
    refine xq ?_;refine bX ?_ _;go_wp2;go_ret;exact⟨by rw[HF.out,g1];simp,(zy _ _).drew⟩
   ·have g2:decide (n=0)=false:=decide_eq_false h0;have g3:(n==0)=false:=by simpa using h0
    have g3i:((n:Int)==0)=false:=by simp;omega
    have CK:=hi.resolve_left h0;have hiL:i<L:=by omega
    have PT:=HC.out hiL;have jo:w.drew.cell? ⟨bt,0,none⟩=some (.pointer (some ⟨p,0,none⟩))/\w.drew.cell? ⟨bf,0,none⟩=some (.int .i64 i)/\w.drew.cell? ⟨p,0,none⟩=some (.slice (some ⟨g,0,none⟩) L cap)/\w.drew.cell? ⟨g,i,none⟩=some (.int .i32 r0):=⟨ht,hf,c0,PT⟩;go_enter func238,ntmps238;go_wp2_with fail;refine rt (fun W':World=>W'.cell? ⟨bt,0,none⟩=some (.pointer (some ⟨p,0,none⟩))/\W'.cell? ⟨bf,0,none⟩=some (.int .i64 i)/\W'.cell? ⟨p,0,none⟩=some (.slice (some ⟨g,0,none⟩) L cap)/\W'.cell? ⟨g,i,none⟩=some (.int .i32 r0)) [0,1,2,3] 17 jo ?_;(iterate 4 ((first|refine ty ?_|refine tn ?_);try simp only[pl]))
    refine xq ?_;refine kR 4 (fun K hK=>?_);go_simp;refine(HD.out _).mono ?_;rintro e w' ⟨rfl,rfl⟩;refine hK.out _ _ jo (fun _=>?_);clear hK K;refine Vv [5,6,7,8,9,10,11,12,13,14,15,16,17,18,19,20] 0 jo ?_;(iterate 16 ((first|refine ty ?_|refine tn ?_);try simp only[pl]))
    refine xq ?_;refine bX ?_ _;go_wp2;go_ret;exact⟨by rw[HF.out,g1,g2];simp,(zy _ _).drew⟩
 ·have g1:decide (n<9)=false:=decide_eq_false h1;have g1i:decide ((n:Int)<9)=false:=by simp;omega
  go_enter func238,ntmps238;go_wp2_with fail;refine uA (fun W':World=>True) [0,1,2,3] 17 (by intro _ _ d _ _ h;cases d<;>exact h) (by kernel_rfl) (by kernel_rfl) (show True from trivial) ?_;(iterate 4 ((first|refine ty ?_|refine tn ?_);try simp only[pl]))
  refine xq ?_;refine kR 4 (fun K hK=>?_);rw[if_neg (by exact Bool.false_ne_true)];refine hK.out _ _ trivial (fun _=>?_);clear hK K;refine Vv [5,6,7,8,9,10,11,12,13,14,15,16,17,18,19,20] 0 (show True from trivial) ?_;(iterate 16 ((first|refine ty ?_|refine tn ?_);try simp only[pl]))
  refine xq ?_;refine bX ?_ _;go_wp2;go_ret;exact⟨by rw[HF.out,g1];simp,(zy _ _).drew⟩
def qu(rs:List Int)(i:Nat):Nat:=runN (bO (xU rs i)) rs i
theorem By(p:Nat)(rs:List Int)(i d:Nat)(w:World)(h:vK p rs i d w) :
  Calls prog 203 #[.pointer (some ⟨p,0,none⟩)] w (zxz p rs i d (qu rs i) w):=by
 have HH:=z7 h;have xD:=h.lt;have h5:=h.at_;obtain⟨n,hn⟩:=xX (qu rs i);rw[hn];have HN:=z7 hn;clear h hn;go_enter func203,ntmps203;go_wp2_with fail;refine vZ ?_;intro W hW;have hb:Below w.heap.size w W:=by rw[hW];exact((zy _ _).alloc (zg _) _).alloc (by simp) _
 have ht:W.cell? ⟨w.heap.size,0,none⟩=some (.pointer (some ⟨p,0,none⟩)):=by rw[hW];go_simp
 have hf:W.cell? ⟨w.heap.size+1,0,none⟩=some (.int .i64 i):=by rw[hW];go_simp
 clear hW h5;have CJ:Af p rs i d W (.func (.func 238) #[] #[.pointer (some ⟨w.heap.size,0,none⟩),.pointer (some ⟨w.heap.size+1,0,none⟩)]) (bO (xU rs i)) :=
  ⟨_,_,rfl,fun args w=>by rfl,fun W' fx n hi hn hs=>Nz p w.heap.size (w.heap.size+1) rs i n d W' hs hn hi (fx.cell ht (by show w.heap.size≠p;omega)) (fx.cell hf (by show w.heap.size+1≠p;omega)) (xU rs (i+n))⟩
 refine(PR p rs i d W _ (bO (xU rs i)) (HH.out.below hb) CJ (fun n=>by unfold bO;simp[qQ])).mono ?_;rintro e w1 ⟨hq,xB⟩;rw[show runN (bO (xU rs i)) rs i=n from HN.out] at hq;have vO:=(xP.of (p:=p) hb).trans xB;by_cases h0:n=0
 ·rw[if_pos h0] at hq;have HQ:=z7 hq;obtain⟨b,rfl,_,_⟩:=hq;have H0:=z7 h0;clear h0;go_wp2;exact⟨rfl,by rw[if_pos H0.out];exact HQ.out,vO⟩
 ·rw[if_neg h0] at hq;obtain⟨rfl,hs⟩:=hq;have H0:=z7 h0;clear h0;go_wp2;go_ret;exact⟨by rw[if_neg H0.out];exact⟨rfl,hs⟩,vO⟩
end Go.Proofs.YthpldolmpinnhaaGreatDoor
