import Derived.Test.YthpldolmpinnhaaGreatDoorJK7
import Derived.Laws.Cover4
import Derived.Deep.LoopGhost
import Derived.WalkMore
set_option maxHeartbeats 64000000
open Go.Lib renaming hid→z7
open List renaming getD_eq_getElem?_getD→z8,getElem?_eq_getElem→zx,drop_eq_getElem_cons→zu,take_of_length_le→zk,getElem?_eq_none→zj
open Go.RowKit.Below renaming refl→zy
open Classical renaming byContradiction→zv
open Nat renaming le_refl→zg
open Go.Proofs.Tryz
namespace Go.Proofs.YthpldolmpinnhaaGreatDoor
open Go Go.RowKit
set_option maxRecDepth 10000
theorem Tw(g cap:Nat)(rs:List Int)(r:Int)(w:World)(hl:rs.length<=1000000)(hc:∀ j (h:j<rs.length),w.cell? ⟨g,j,none⟩=some (.int .i32 rs[j])) :
  Calls prog 258 #[.slice (some ⟨g,0,none⟩) rs.length cap,.int .i32 r] w fun e w'=>(∃ k:Int,e = .returned (.int .i64 k)/\decide (0<=k)=rs.contains r)/\w=w':=by
 have HC:=z7 hc;obtain⟨n,hn⟩:∃ n,rs.length=n:=⟨_,rfl⟩;have HN:=z7 hn;rw[hn] at hl ⊢;clear hc hn;go_enter func258,ntmps258;go_wp2;go_loop [8] (fun i=>∃ k:Nat,k<=n/\i = .int .i64 k/\r ∉ rs.take k) (fun i=>n - (intOf i).toNat)
 case atStart=>exact⟨0,Nat.zero_le _,rfl,by simp⟩
 case round =>
  obtain⟨k,hk,rfl,EJ⟩:=hrel;have zgv:=z7 EJ;clear EJ;by_cases xC:k<n
  ·have vX:=HC.out k (by rw[HN.out];exact xC);obtain⟨x,hx⟩:∃ x,rs[k]'(by rw[HN.out];exact xC)=x:=⟨_,rfl⟩;rw[hx] at vX;have HX:=z7 hx;clear hx;by_cases hq:r=x
   ·have j4:(r==x)=true:=by simpa using hq
    have HF:=z7 (show r∈rs by rw[hq,←HX.out];exact List.getElem_mem _);clear hq;go_wp2;go_ret;exact⟨⟨k,rfl,by simpa using HF.out⟩,rfl⟩
   ·have j4:(r==x)=false:=by simpa using hq
    have HF:=z7 (show r ∉ rs.take (k+1) by
     rw[List.take_succ_eq_append_getElem (by rw[HN.out];exact xC),List.mem_append];rintro(q|q)
     ·exact zgv.out q
     ·rw[HX.out] at q;exact hq (List.mem_singleton.1 q))
    go_wp2;go_round
    case rel=>exact⟨k+1,by omega,by go_num,HF.out⟩
    case measure=>simp[intOf];omega
  ·obtain rfl:k=n:=by omega
   have iO:=zgv.out;rw[zk (by rw[HN.out];exact zg _)] at iO;have HF:=z7 iO;clear iO;go_wp2;go_ret;exact⟨⟨-1,rfl,by simpa using HF.out⟩,rfl⟩
theorem Fl(g cap:Nat)(rs:List Int)(r:Int)(w:World)(hl:rs.length<=1000000)(hc:∀ j (h:j<rs.length),w.cell? ⟨g,j,none⟩=some (.int .i32 rs[j])) :
  Calls prog 234 #[.slice (some ⟨g,0,none⟩) rs.length cap,.int .i32 r] w fun e w'=>e = .returned (.bool (rs.contains r))/\w=w':=by
 have HI:=z7 (Tw g cap rs r w hl hc);clear hc;go_enter func234,ntmps234;go_wp2_with fail;refine HI.out.mono ?_;rintro e w' ⟨⟨k,rfl,hk⟩,rfl⟩;have HK:=z7 hk;clear hk HI;go_wp2;go_ret;exact⟨by rw[←HK.out];rfl,rfl⟩
def JT(r:Int):Bool:=[32,9,10,13].contains r
def xm(rs:List Int)(i:Nat):Nat:=i+((rs.drop i).takeWhile JT).length
theorem Wz{rs:List Int}{i:Nat}(h:JT (xU rs i)=true):i<rs.length/\xm rs i=xm rs (i+1):=by
 have xC:i<rs.length:=by
  apply zv;intro hc;unfold xU at h;rw[z8,zj (by omega)] at h;revert h
  decide
 refine⟨xC,?_⟩;have hn:xU rs i=rs[i]:=by unfold xU;rw[z8,zx xC];rfl
 rw[hn] at h;unfold xm;rw[zu xC,List.takeWhile_cons_of_pos h];simp;omega
theorem lV{rs:List Int}{i:Nat}(h:JT (xU rs i)=false):xm rs i=i:=by
 unfold xm;by_cases xC:i<rs.length
 ·have hn:xU rs i=rs[i]:=by unfold xU;rw[z8,zx xC];rfl
  rw[hn] at h;rw[zu xC,List.takeWhile_cons_of_neg (by simp[h])];rfl
 ·rw[List.drop_of_length_le (by omega)];rfl
def M0(p:Nat)(w:World):Nat:=match w.cell? ⟨p,1,none⟩ with|some v=>(intOf v).toNat|none=>0
theorem vJ{p:Nat}{rs:List Int}{i d:Nat}{w:World}(h:vK p rs i d w):M0 p w=i:=by
 unfold M0;rw[h.at_];simp[intOf]
theorem uh(p:Nat)(rs:List Int)(i d:Nat)(w:World)(h:vK p rs i d w) :
  Calls prog 198 #[.pointer (some ⟨p,0,none⟩)] w (OU p rs d (.tuple #[]) (xm rs i) w):=by
 have HH:=z7 h;obtain⟨R,hR⟩:∃ R,xm rs i=R:=⟨_,rfl⟩;rw[hR];have HR:=z7 hR;clear h hR;go_enter func198,ntmps198;go_wp2_with fail;go_loopw [] (fun wr=>∃ j,vK p rs j d wr/\xS p w wr/\xm rs j=R) (fun wr=>rs.length - M0 p wr)
 case atStart=>exact⟨i,HH.out,xS.refl _ _,HR.out⟩
 case round =>
  obtain⟨j,hs,gT,hsk⟩:=hrel;have HS:=z7 hs;have Jb:=z7 hsk;clear hs hsk;go_wp2_with fail;refine vN ?_;intro W hW;have hb:Below wr.heap.size wr W:=by rw[hW];exact(zy _ _).alloc (zg _) _
  have hc:∀ k (h:k<4),W.cell? ⟨wr.heap.size,k,none⟩=some (.int .i32 ([32,9,10,13][k]'h)):=by
   rw[hW];intro k hk;rw[xu];match k,hk with
   | 0,_=>rfl
   | 1,_=>rfl
   | 2,_=>rfl
   | 3,_=>rfl
  clear hW;refine(jE p rs j d W (HS.out.below hb)).mono ?_;rintro e w1 ⟨rfl,xB⟩;have uH:=hb.trans (xB.mono hb.size);have hz:wr.heap.size<W.heap.size:=World.block_lt_of_cell? W _ (hc 0 (by decide));have qY:∀ k (h:k<4),w1.cell? ⟨wr.heap.size,k,none⟩=some (.int .i32 ([32,9,10,13][k]'h)):=fun k hk=>(xB.cell (p:=⟨wr.heap.size,k,none⟩) hz).trans (hc k hk)
  have vF:=Fl wr.heap.size 4 [32,9,10,13] (xU rs j) w1 (by decide) qY;rw[show[32,9,10,13].contains (xU rs j)=JT (xU rs j) from rfl] at vF;have qU:=z7 vF;have uF:=HS.out.below uH;have gQ:=z7 uF;have h5:=uF.at_;have h7:=uF.z1;have hlen:=uF.len;have EN:=uF.here;obtain⟨bl,Wy⟩:∃ b,JT (xU rs j)=b:=⟨_,rfl⟩;rw[Wy] at qU;have HBL:=z7 Wy;clear hc qY vF hb xB uF Wy;go_wp2_with fail;refine qU.out.mono ?_;rintro e w' ⟨rfl,rfl⟩
  cases bl
  ·have HF:=z7 (show j=R by rw[←Jb.out];exact(lV HBL.out).symm);go_wp2;go_end0
   exact⟨rfl,by rw[←HF.out];exact gQ.out,gT.below uH⟩
  ·obtain⟨xC,kG⟩:=Wz HBL.out;have HF:=z7 (show xm rs (j+1)=R by rw[←Jb.out,kG]);have DB:=gQ.out.move (j+1) (by omega);have HM:=z7 (show vK p rs (j+1) d (w1.setCell ⟨p,1,none⟩ (.int .i64 ((j:Int)+1))) by simpa using DB);clear kG DB;go_wp2;go_roundw
   case rel=>exact⟨j+1,HM.out,(gT.below uH).UY 1 _,HF.out⟩
   case measure=>rw[vJ HM.out,vJ HS.out];omega
theorem X0(l:List Int):runesBytes l=⟨(l.flatMap enc).toArray⟩:=by
 unfold runesBytes;have h:∀ (l:List Int) (a:List UInt8),l.foldl (fun r n=>r++Utf8.encode n) (⟨a.toArray⟩:ByteArray)=⟨(a++l.flatMap enc).toArray⟩:=by
  intro l;induction l with
  | nil=>intro a;simp
  | cons c t ih =>
   intro a;rw[List.foldl_cons,append_eq,toList_mk];rw[show(Utf8.encode c).data.toList=enc c from rfl,ih];simp
 have:=h l [];rw[List.nil_append] at this;exact this
def Wx(p:Nat)(rs:List Int)(i d:Nat)(w:World)(v:Value)(F:Int->Nat->Bool):Prop :=
 ∃ k cap,v = .func (.func k) #[] cap/\(∀ args w,(callFunc k args).run prog w = .ok (.enter k args) w) /\
  ∀ W,xS p w W->∀ n,(n=0\/i+n<=rs.length)->n<=1000000->vK p rs (i+n) d W->Calls prog k (#[.int .i32 (xU rs (i+n)),.int .i64 (n:Nat)]++cap) W fun e W'=>e = .returned (.bool (F (xU rs (i+n)) n))/\Below W.heap.size W W'
def UX(F:Int->Nat->Bool)(rs:List Int)(i:Nat):Nat->Nat->Nat
 | 0,n=>n
 | f+1,n=>if F (xU rs (i+n)) n=true then UX F rs i f (n+1) else n
def runN(F:Int->Nat->Bool)(rs:List Int)(i:Nat):Nat:=UX F rs i (rs.length+1) 0
def kb(rs:List Int)(i n:Nat):Wd:=((rs.drop i).take n).flatMap enc
def tR(p:Nat)(rs:List Int)(i d n:Nat)(w:World)(e:Ending)(w':World):Prop :=
 (if n=0 then QM p 3 i e w' else e = .returned (xk (kb rs i n))/\vK p rs (i+n) d w')/\xS p w w'
theorem kF{rs:List Int}{i:Nat}(h:rs.length<=i):xU rs i = -1:=by
 unfold xU;rw[z8,zj h];rfl
theorem Wv{F:Int->Nat->Bool}{rs:List Int}{i n R f:Nat}(h:UX F rs i (f+1) n=R):(F (xU rs (i+n)) n=true->UX F rs i f (n+1)=R)/\(F (xU rs (i+n)) n=false->n=R):=by
 rw[UX] at h;constructor
 ·intro q;rw[if_pos q] at h;exact h
 ·intro q;rw[if_neg (by rw[q];simp)] at h;exact h
theorem OQ(p:Nat)(rs:List Int)(i d:Nat)(w:World)(v:Value)(F:Int->Nat->Bool)(h:vK p rs i d w)(hf:Wx p rs i d w v F)(ZL:∀ n,F (-1) n=false) :
  Calls prog 235 #[.pointer (some ⟨p,0,none⟩),v] w (tR p rs i d (runN F rs i) w):=by
 obtain⟨kf,cf,rfl,Bc,vF⟩:=hf;have HH:=z7 h;have qU:=z7 vF;obtain⟨R,hR⟩:∃ R,runN F rs i=R:=⟨_,rfl⟩;rw[hR];have HR:=z7 hR;have tU:=h.at_;have ya8:=h.here;have hL0:=h.len;clear h vF hR;go_enter func235,ntmps235;go_wp2_with fail;clear tU;go_loopw [] (fun wr=>∃ n,n<=rs.length/\(n=0\/i+n<=rs.length)/\vK p rs (i+n) d wr/\xS p w wr/\UX F rs i (rs.length+1 - n) n=R) (fun wr=>rs.length+1 - M0 p wr)
 case atStart=>exact⟨0,Nat.zero_le _,.inl rfl,HH.out,xS.refl _ _,HR.out⟩
 case round =>
  obtain⟨n,hn,EO,hs,gT,jH⟩:=hrel;have HS:=z7 hs;have vL:=Wv (F:=F) (rs:=rs) (i:=i) (n:=n) (R:=R) (f:=rs.length - n) (by rw[show rs.length - n+1=rs.length+1 - n by omega];exact jH);have jF:=z7 vL;have h5:=hs.at_;have kO:wr.drew.cell? ⟨p,1,none⟩=some (.int .i64 ((i+n:Nat):Int)):=h5;have Ev:((i+n:Nat):Int) - (i:Int)=(n:Int):=by omega
  have FE:IntKind.i64.wrap ((i:Int)+(n:Int) - (i:Int))=(n:Int):=by rw[show(i:Int)+(n:Int) - (i:Int)=(n:Int) by omega];simp[IntKind.wrap,IntKind.signed,IntKind.bits];omega
  clear hs jH vL;go_wp2_with fail;refine rt (fun W':World=>W'.cell? ⟨p,1,none⟩=some (.int .i64 ((i+n:Nat):Int))) [0,1,3,4,5,6,7,8] 2 kO ?_;(iterate 8 ((first|refine ty ?_|refine tn ?_);try simp only[pl]))
  refine xq ?_;refine xg 2 (by kernel_rfl) rfl (fun K hK=>?_);go_simp;refine(jE p rs (i+n) d wr.drew (HS.out.below (zy _ _).drew)).mono ?_;rintro e w1 ⟨rfl,xB⟩;have uH:Below wr.heap.size wr w1:=(zy _ wr).drew.trans xB;have gQ:=z7 (HS.out.below uH);have Fi:w1.cell? ⟨p,1,none⟩=some (.int .i64 ((i+n:Nat):Int)):=gQ.out.at_;refine hK.out _ _ Fi (fun _=>?_);clear hK K;refine xg 9 (by kernel_rfl) rfl (fun K hK=>?_);go_simp;refine(qU.out w1 (gT.below uH) n EO (by omega) gQ.out).mono ?_;rintro e w2 ⟨rfl,xD⟩;have qX:=uH.trans (xD.mono uH.size);have uw:=gQ.out.below xD;have dN:=z7 uw;have M3:w2.cell? ⟨p,1,none⟩=some (.int .i64 ((i+n:Nat):Int)):=uw.at_;have h7:=uw.z1;refine hK.out _ _ M3 (fun _=>?_);clear hK K;refine wpAnyH_done (by kernel_rfl) ?_ _;obtain⟨b,hb⟩:∃ b,F (xU rs (i+n)) n=b:=⟨_,rfl⟩;rw[hb];rw[hb] at jF;have HB:=z7 hb;clear uw hb kO Fi h5 Ev FE
  cases b
  ·have HE:=z7 (show n=R from jF.out.2 rfl);by_cases q9:n=0
   ·subst q9;have hq:(((i+0:Nat):Int)==(i:Int))=true:=by simp
    go_wp2_with fail;refine(fR p 3 i w2 dN.out.KQ).mono ?_;rintro e w3 ⟨hff,uD⟩;have HFF:=z7 hff;obtain⟨bf,rfl,_,_⟩:=hff;go_wp2;exact⟨rfl,by rw[←HE.out,if_pos rfl];exact HFF.out,(gT.below qX).below uD⟩
   ·have hq:(((i+n:Nat):Int)==(i:Int))=false:=by simp;omega
    obtain⟨⟨g,cap,c0,M4,jG,KK,gK⟩,c1,_,_,_,_,_,_⟩:=dN.out;have dI:i+n<=rs.length:=EO.resolve_left q9;obtain⟨L,hL⟩:∃ L,rs.length=L:=⟨_,rfl⟩;have HLL:=z7 hL;rw[hL] at c0 M4 dI;have tS:w2.drew.cell? ⟨p,1,none⟩=some (.int .i64 ((i+n:Nat):Int))/\w2.drew.cell? ⟨p,0,none⟩=some (.slice (some ⟨g,0,none⟩) L cap)/\∀ j (h:j<rs.length),w2.drew.cell? ⟨g,j,none⟩=some (.int .i32 rs[j]):=⟨c1,c0,gK⟩;have k1:i<=i+n:=by omega
    have k2:i+n<=cap:=by omega
    have k3:i<=cap:=by omega
    have k4:(i:Int)<=(i:Int)+(n:Int):=by omega
    have k5:(i:Int)+(n:Int)<=(cap:Int):=by omega
    have k6:((i:Int)+(n:Int)).toNat=i+n:=by omega
    have k7:(0:Int)<=(i:Int)+(n:Int):=by omega
    have k8:i+n - i=n:=by omega
    have k9:(i:Int)+(n:Int) - (i:Int)=(n:Int):=by omega
    clear hL gK c0 c1 M3 xD;go_wp2_with fail;refine rt (fun W':World=>W'.cell? ⟨p,1,none⟩=some (.int .i64 ((i+n:Nat):Int))/\W'.cell? ⟨p,0,none⟩=some (.slice (some ⟨g,0,none⟩) L cap)/\∀ j (h:j<rs.length),W'.cell? ⟨g,j,none⟩=some (.int .i32 rs[j])) [0,1,2,3,4,5,6,7,8,9,10,11] 0 tS ?_;(iterate 10 ((first|refine ty ?_|refine tn ?_);try simp only[pl]))
    refine QD (v:=xk (kb rs i n)) rfl (by rfl) ?_ ?_
    ·intro w' pS;have hcv:=run_convert_runes (P:=prog) w' 147 9 21 ⟨g,i,none⟩ n (cap - i) ((rs.drop i).take n) (by simp;have:=HLL.out;omega) underlying147 underlying21 underlying9 (fun j hj=>by
      have TU:i+j<rs.length:=by simp at hj;omega
      have e:(⟨g,i,none⟩:Addr).add j=⟨g,i+j,none⟩:=by
       unfold Addr.add;split
       ·next h=>subst h;rfl
       ·rfl
      rw[e,pS.2.2 (i+j) TU];have hjn:j<n:=by simp at hj;omega
      simp[z8,List.getElem?_take,List.getElem?_drop,hjn,TU])
     rw[zk (by simp;omega),X0] at hcv;go_simp;rw[if_neg (show ¬cap=i by omega),hcv];rfl
    (try simp only[Act.put,List.setIfInBounds_toArray,List.set_cons_zero,List.set_cons_succ])
    (iterate 1 ((first|refine ty ?_|refine tn ?_);try simp only[pl]))
    refine xq ?_;refine wpAnyH_done (by kernel_rfl) ?_ _;go_wp2;go_ret;exact⟨by rw[if_neg (by rw[←HE.out];exact q9)];exact⟨by rw[←HE.out];rfl,by rw[←HE.out];exact dN.out.below (zy _ _).drew⟩,(gT.below qX).drew⟩
  ·have xC:i+n<rs.length:=by
    apply zv;intro hc;have:=HB.out;rw[kF (by omega),ZL] at this
    cases this
   have HG:=z7 (jF.out.1 rfl);have DB:=dN.out.move (i+(n+1)) (by omega);have HM:=z7 (show vK p rs (i+(n+1)) d (w2.setCell ⟨p,1,none⟩ (.int .i64 ((i:Int)+(n:Int)+1))) by rw[show(i:Int)+(n:Int)+1=((i+(n+1):Nat):Int) by omega];exact DB);clear DB;go_wp2;go_roundw
   case rel=>exact⟨n+1,by omega,.inr (by omega),HM.out,(gT.below qX).UY 1 _,by rw[show rs.length+1 - (n+1)=rs.length - n by omega];exact HG.out⟩
   case measure=>rw[vJ HM.out,vJ HS.out];omega
def X1(r:Int)(n:Nat):Bool:=decide (n<16) && (jb r ||(decide (0<n) && qK r))
theorem R2(r:Int)(n:Nat)(w:World)(hn:n<=1000000):Calls prog 236 #[.int .i32 r,.int .i64 (n:Nat)] w fun e w'=>e = .returned (.bool (X1 r n))/\w=w':=by
 obtain⟨l,hl⟩:∃ b,jb r=b:=⟨_,rfl⟩;obtain⟨dg,OK⟩:∃ b,qK r=b:=⟨_,rfl⟩;have HL:=z7 (hl▸VC r w);have HD:=z7 (OK▸Xn r w);have HF:=z7 (show X1 r n=(decide (n<16) && (l ||(decide (0<n) && dg))) by unfold X1;rw[hl,OK]);clear hl OK;by_cases h1:n<16
 ·have g1:decide (n<16)=true:=decide_eq_true h1;go_enter func236,ntmps236;go_wp2_with fail;refine HL.out.mono ?_;rintro e w' ⟨rfl,rfl⟩
  cases l
  ·by_cases h2:0<n
   ·have g2:decide (0<n)=true:=decide_eq_true h2;go_wp2_with fail;refine HD.out.mono ?_;rintro e w' ⟨rfl,rfl⟩;go_wp2;go_ret;exact⟨by rw[HF.out,g1,g2];simp,rfl⟩
   ·have g2:decide (0<n)=false:=decide_eq_false h2;go_wp2;go_ret;exact⟨by rw[HF.out,g1,g2];simp,rfl⟩
  ·go_wp2;go_ret;exact⟨by rw[HF.out,g1];simp,rfl⟩
 ·have g1:decide (n<16)=false:=decide_eq_false h1;go_enter func236,ntmps236;go_wp2;go_ret;exact⟨by rw[HF.out,g1];simp,rfl⟩
def qi(rs:List Int)(i:Nat):Nat:=runN X1 rs i
theorem UU(p:Nat)(rs:List Int)(i d:Nat)(w:World)(h:vK p rs i d w) :
  Calls prog 199 #[.pointer (some ⟨p,0,none⟩)] w (tR p rs i d (qi rs i) w):=by
 have hf:Wx p rs i d w (.func (.func 236) #[] #[]) X1 :=
  ⟨_,_,rfl,fun args w=>by rfl,fun W _ n _ hn _=>(R2 (xU rs (i+n)) n W hn).mono fun e w' q=>⟨q.1,q.2▸zy _ _⟩⟩
 have HR:=z7 (OQ p rs i d w _ X1 h hf (fun n=>by unfold X1;simp[jb,qK]));rw[show runN X1 rs i=qi rs i from rfl] at HR;obtain⟨n,hn⟩:∃ n,qi rs i=n:=⟨_,rfl⟩;rw[hn] at HR ⊢;clear h hf hn;go_enter func199,ntmps199;go_wp2_with fail;refine HR.out.mono ?_;rintro e w1 ⟨hq,hb⟩;by_cases h0:n=0
 ·rw[if_pos h0] at hq;have HQ:=z7 hq;obtain⟨b,rfl,_,_⟩:=hq;have H0:=z7 h0;clear h0;go_wp2;exact⟨rfl,by rw[if_pos H0.out];exact HQ.out,hb⟩
 ·rw[if_neg h0] at hq;obtain⟨rfl,hs⟩:=hq;have H0:=z7 h0;clear h0;go_wp2;go_ret;exact⟨by rw[if_neg H0.out];exact⟨rfl,hs⟩,hb⟩
def bQ(r0:Int)(r:Int)(n:Nat):Bool:=(decide (n<9) && qK r) && (decide (n=0) || r0 !=48)
theorem M5(p bt bf:Nat)(rs:List Int)(i n d:Nat)(w:World)(hs:vK p rs (i+n) d w)(hn:n<=1000000)(hi:n=0\/i+n<=rs.length)(ht:w.cell? ⟨bt,0,none⟩=some (.pointer (some ⟨p,0,none⟩)))(hf:w.cell? ⟨bf,0,none⟩=some (.int .i64 i))(r:Int) :
  Calls prog 238 #[.int .i32 r,.int .i64 (n:Nat),.pointer (some ⟨bt,0,none⟩),.pointer (some ⟨bf,0,none⟩)] w fun e w'=>e = .returned (.bool (bQ (xU rs i) r n))/\Below w.heap.size w w':=by
 obtain⟨dg,OK⟩:∃ b,qK r=b:=⟨_,rfl⟩;have HD:=z7 (fun W=>OK▸Xn r W);obtain⟨r0,vu⟩:∃ q,xU rs i=q:=⟨_,rfl⟩;rw[vu];have HF:=z7 (show bQ r0 r n=((decide (n<9) && dg) && (decide (n=0) || r0 !=48)) by unfold bQ;rw[OK]);obtain⟨⟨g,cap,c0,M4,jG,KK,gK⟩,c1,_,_,_,_,_,_⟩:=hs;obtain⟨L,hL⟩:∃ L,rs.length=L:=⟨_,rfl⟩;rw[hL] at c0 M4 hi;have HC:=z7 (show i<L->w.cell? ⟨g,i,none⟩=some (.int .i32 r0) from fun h=>by
  rw[gK i (by rw[hL];exact h),←vu];unfold xU;rw[z8,zx (by rw[hL];exact h)];rfl)
 clear OK vu gK hL;by_cases h1:n<9
 ·have g1:decide (n<9)=true:=decide_eq_true h1;have g1i:decide ((n:Int)<9)=true:=by simp;omega
  cases dg
  ·go_enter func238,ntmps238;go_wp2_with fail;refine uR (fun W':World=>True) [0,1,2,3] 17 (by intro _ _ d _ _ h;cases d<;>exact h) (by kernel_rfl) (by kernel_rfl) (show True from trivial) ?_;(iterate 4 ((first|refine ty ?_|refine tn ?_);try simp only[pl]))
   refine xq ?_;refine xg 4 (by kernel_rfl) rfl (fun K hK=>?_);go_simp;refine(HD.out _).mono ?_;rintro e w' ⟨rfl,rfl⟩;refine hK.out _ _ trivial (fun _=>?_);clear hK K;refine xG [5,6,7,8,9,10,11,12,13,14,15,16,17,18,19,20] 0 rfl (by intro _ _ d _ _ h;cases d<;>exact h) (by kernel_rfl) (by kernel_rfl) (show True from trivial) ?_;(iterate 16 ((first|refine ty ?_|refine tn ?_);try simp only[pl]))
   refine xq ?_;refine wpAnyH_done (by kernel_rfl) ?_ _;go_wp2;go_ret;exact⟨by rw[HF.out,g1];simp,(zy _ _).drew⟩
  ·by_cases h0:n=0
   ·subst h0;go_enter func238,ntmps238;go_wp2_with fail;refine uR (fun W':World=>True) [0,1,2,3] 17 (by intro _ _ d _ _ h;cases d<;>exact h) (by kernel_rfl) (by kernel_rfl) (show True from trivial) ?_;(iterate 4 ((first|refine ty ?_|refine tn ?_);try simp only[pl]))
    refine xq ?_;refine xg 4 (by kernel_rfl) rfl (fun K hK=>?_);go_simp;refine(HD.out _).mono ?_;rintro e w' ⟨rfl,rfl⟩;refine hK.out _ _ trivial (fun _=>?_);clear hK K;refine xG [5,6,7,8,9,10,11,12,13,14,15,16,17,18,19,20] 0 rfl (by intro _ _ d _ _ h;cases d<;>exact h) (by kernel_rfl) (by kernel_rfl) (show True from trivial) ?_;(iterate 16 ((first|refine ty ?_|refine tn ?_);try simp only[pl]))
    refine xq ?_;refine wpAnyH_done (by kernel_rfl) ?_ _;go_wp2;go_ret;exact⟨by rw[HF.out,g1];simp,(zy _ _).drew⟩
   ·have g2:decide (n=0)=false:=decide_eq_false h0;have g3:(n==0)=false:=by simpa using h0
    have g3i:((n:Int)==0)=false:=by simp;omega
    have Be:=hi.resolve_left h0;have hiL:i<L:=by omega
    have OJ:=HC.out hiL;have kO:w.drew.cell? ⟨bt,0,none⟩=some (.pointer (some ⟨p,0,none⟩))/\w.drew.cell? ⟨bf,0,none⟩=some (.int .i64 i)/\w.drew.cell? ⟨p,0,none⟩=some (.slice (some ⟨g,0,none⟩) L cap)/\w.drew.cell? ⟨g,i,none⟩=some (.int .i32 r0):=⟨ht,hf,c0,OJ⟩;go_enter func238,ntmps238;go_wp2_with fail;refine rt (fun W':World=>W'.cell? ⟨bt,0,none⟩=some (.pointer (some ⟨p,0,none⟩))/\W'.cell? ⟨bf,0,none⟩=some (.int .i64 i)/\W'.cell? ⟨p,0,none⟩=some (.slice (some ⟨g,0,none⟩) L cap)/\W'.cell? ⟨g,i,none⟩=some (.int .i32 r0)) [0,1,2,3] 17 kO ?_;(iterate 4 ((first|refine ty ?_|refine tn ?_);try simp only[pl]))
    refine xq ?_;refine xg 4 (by kernel_rfl) rfl (fun K hK=>?_);go_simp;refine(HD.out _).mono ?_;rintro e w' ⟨rfl,rfl⟩;refine hK.out _ _ kO (fun _=>?_);clear hK K;refine xG [5,6,7,8,9,10,11,12,13,14,15,16,17,18,19,20] 0 rfl (by intro _ _ d _ _ h;cases d<;>exact h) (by kernel_rfl) (by kernel_rfl) kO ?_;(iterate 16 ((first|refine ty ?_|refine tn ?_);try simp only[pl]))
    refine xq ?_;refine wpAnyH_done (by kernel_rfl) ?_ _;go_wp2;go_ret;exact⟨by rw[HF.out,g1,g2];simp,(zy _ _).drew⟩
 ·have g1:decide (n<9)=false:=decide_eq_false h1;have g1i:decide ((n:Int)<9)=false:=by simp;omega
  go_enter func238,ntmps238;go_wp2_with fail;refine uR (fun W':World=>True) [0,1,2,3] 17 (by intro _ _ d _ _ h;cases d<;>exact h) (by kernel_rfl) (by kernel_rfl) (show True from trivial) ?_;(iterate 4 ((first|refine ty ?_|refine tn ?_);try simp only[pl]))
  refine xq ?_;refine xg 4 (by kernel_rfl) rfl (fun K hK=>?_);rw[if_neg (by exact Bool.false_ne_true)];refine hK.out _ _ trivial (fun _=>?_);clear hK K;refine xG [5,6,7,8,9,10,11,12,13,14,15,16,17,18,19,20] 0 rfl (by intro _ _ d _ _ h;cases d<;>exact h) (by kernel_rfl) (by kernel_rfl) (show True from trivial) ?_;(iterate 16 ((first|refine ty ?_|refine tn ?_);try simp only[pl]))
  refine xq ?_;refine wpAnyH_done (by kernel_rfl) ?_ _;go_wp2;go_ret;exact⟨by rw[HF.out,g1];simp,(zy _ _).drew⟩
def qk(rs:List Int)(i:Nat):Nat:=runN (bQ (xU rs i)) rs i
theorem DC(p:Nat)(rs:List Int)(i d:Nat)(w:World)(h:vK p rs i d w) :
  Calls prog 203 #[.pointer (some ⟨p,0,none⟩)] w (tR p rs i d (qk rs i) w):=by
 have HH:=z7 h;have xC:=h.lt;have h5:=h.at_;obtain⟨n,hn⟩:∃ n,qk rs i=n:=⟨_,rfl⟩;rw[hn];have HN:=z7 hn;clear h hn;go_enter func203,ntmps203;go_wp2_with fail;refine vN ?_;intro W hW;have hb:Below w.heap.size w W:=by rw[hW];exact((zy _ _).alloc (zg _) _).alloc (by simp) _
 have ht:W.cell? ⟨w.heap.size,0,none⟩=some (.pointer (some ⟨p,0,none⟩)):=by rw[hW];go_simp
 have hf:W.cell? ⟨w.heap.size+1,0,none⟩=some (.int .i64 i):=by rw[hW];go_simp
 clear hW h5;have M6:Wx p rs i d W (.func (.func 238) #[] #[.pointer (some ⟨w.heap.size,0,none⟩),.pointer (some ⟨w.heap.size+1,0,none⟩)]) (bQ (xU rs i)) :=
  ⟨_,_,rfl,fun args w=>by rfl,fun W' gT n hi hn hs=>M5 p w.heap.size (w.heap.size+1) rs i n d W' hs hn hi (gT.cell ht (by show w.heap.size≠p;omega)) (gT.cell hf (by show w.heap.size+1≠p;omega)) (xU rs (i+n))⟩
 refine(OQ p rs i d W _ (bQ (xU rs i)) (HH.out.below hb) M6 (fun n=>by unfold bQ;simp[qK])).mono ?_;rintro e w1 ⟨hq,xB⟩;rw[show runN (bQ (xU rs i)) rs i=n from HN.out] at hq;have uH:=(xS.of (p:=p) hb).trans xB;by_cases h0:n=0
 ·rw[if_pos h0] at hq;have HQ:=z7 hq;obtain⟨b,rfl,_,_⟩:=hq;have H0:=z7 h0;clear h0;go_wp2;exact⟨rfl,by rw[if_pos H0.out];exact HQ.out,uH⟩
 ·rw[if_neg h0] at hq;obtain⟨rfl,hs⟩:=hq;have H0:=z7 h0;clear h0;go_wp2;go_ret;exact⟨by rw[if_neg H0.out];exact⟨rfl,hs⟩,uH⟩
end Go.Proofs.YthpldolmpinnhaaGreatDoor
