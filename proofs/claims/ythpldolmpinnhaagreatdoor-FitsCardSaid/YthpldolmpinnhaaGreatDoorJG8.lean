import Derived.Test.YthpldolmpinnhaaGreatDoorJG7
import Derived.Laws.Cover4
import Derived.Deep.LoopGhost
import Derived.WalkMore
set_option maxHeartbeats 64000000
open Go.Lib renaming hid→z7
open List renaming getD_eq_getElem?_getD→z8,getElem?_eq_getElem→zx,drop_eq_getElem_cons→zu,take_of_length_le→zk,getElem?_eq_none→zj
open Go.RowKit.Below renaming refl→zy
open Classical renaming byContradiction→zv
open Nat renaming le_refl→zg
open Go.Proofs.Tryz
namespace Go.Proofs.YthpldolmpinnhaaGreatDoor
open Go Go.RowKit
set_option maxRecDepth 10000
theorem AD(g cap:Nat)(rs:List Int)(r:Int)(w:World)(hl:rs.length<=1000000)(hc:∀ j (h:j<rs.length),w.cell? ⟨g,j,none⟩=some (.int .i32 rs[j])) :
  Calls prog 258 #[.slice (some ⟨g,0,none⟩) rs.length cap,.int .i32 r] w fun e w'=>(∃ k:Int,e = .returned (.int .i64 k)/\decide (0<=k)=rs.contains r)/\w=w':=by
 have HC:=z7 hc;obtain⟨n,hn⟩:=xX rs.length;have HN:=z7 hn;rw[hn] at hl |-
 clear hc hn;go_enter func258,ntmps258;go_wp2;go_loop [8] (fun i=>∃ k:Nat,k<=n/\i = .int .i64 k/\r ∉ rs.take k) (fun i=>n - (intOf i).toNat)
 case atStart=>exact⟨0,Nat.zero_le _,rfl,by simp⟩
 case round =>
  obtain⟨k,hk,rfl,Hs⟩:=hrel;have zc0:=z7 Hs;clear Hs;by_cases xB:k<n
  .have vQ:=HC.out k (by rw[HN.out];exact xB);obtain⟨x,hx⟩:=xX (rs[k]'(by rw[HN.out];exact xB));rw[hx] at vQ;have HX:=z7 hx;clear hx;by_cases hq:r=x
   .have kh:(r==x)=true:=by simpa using hq
    have HF:=z7 (show r∈rs by rw[hq,<-HX.out];exact List.getElem_mem _);clear hq;go_wp2;go_ret;exact⟨⟨k,rfl,by simpa using HF.out⟩,rfl⟩
   .have kh:(r==x)=false:=by simpa using hq
    have HF:=z7 (show r ∉ rs.take (k+1) by
     rw[List.take_succ_eq_append_getElem (by rw[HN.out];exact xB),List.mem_append];rintro(q|q)
     .exact zc0.out q
     .rw[HX.out] at q;exact hq (List.mem_singleton.1 q))
    go_wp2;go_round
    case rel=>exact⟨k+1,by omega,by go_num,HF.out⟩
    case measure=>simp[intOf];omega
  .obtain rfl:k=n:=by omega
   have nM:=zc0.out;rw[zk (by rw[HN.out];exact zg _)] at nM;have HF:=z7 nM;clear nM;go_wp2;go_ret;exact⟨⟨-1,rfl,by simpa using HF.out⟩,rfl⟩
theorem Da(g cap:Nat)(rs:List Int)(r:Int)(w:World)(hl:rs.length<=1000000)(hc:∀ j (h:j<rs.length),w.cell? ⟨g,j,none⟩=some (.int .i32 rs[j])) :
  Calls prog 234 #[.slice (some ⟨g,0,none⟩) rs.length cap,.int .i32 r] w fun e w'=>e = .returned (.bool (rs.contains r))/\w=w':=by
 have HI:=z7 (AD g cap rs r w hl hc);clear hc;go_enter func234,ntmps234;go_wp2_with fail;refine HI.out.mono ?_;rintro e w' ⟨⟨k,rfl,hk⟩,rfl⟩;have HK:=z7 hk;clear hk HI;go_wp2;go_ret;exact⟨by rw[<-HK.out];rfl,rfl⟩
def GB(r:Int):Bool:=[32,9,10,13].contains r
def xh(rs:List Int)(i:Nat):Nat:=i+((rs.drop i).takeWhile GB).length
theorem AB{rs:List Int}{i:Nat}(h:GB (xU rs i)=true):i<rs.length/\xh rs i=xh rs (i+1):=by
 have xB:i<rs.length:=by
  apply zv;intro hc;unfold xU at h;rw[z8,zj (by omega)] at h;revert h
  decide
 refine⟨xB,?_⟩;have hn:xU rs i=rs[i]:=by unfold xU;rw[z8,zx xB];rfl
 rw[hn] at h;unfold xh;rw[zu xB,List.takeWhile_cons_of_pos h];simp;omega
theorem oQ{rs:List Int}{i:Nat}(h:GB (xU rs i)=false):xh rs i=i:=by
 unfold xh;by_cases xB:i<rs.length
 .have hn:xU rs i=rs[i]:=by unfold xU;rw[z8,zx xB];rfl
  rw[hn] at h;rw[zu xB,List.takeWhile_cons_of_neg (by simp[h])];rfl
 .rw[List.drop_of_length_le (by omega)];rfl
def Nu(p:Nat)(w:World):Nat:=match w.cell? ⟨p,1,none⟩ with|some v=>(intOf v).toNat|none=>0
theorem vF{p:Nat}{rs:List Int}{i d:Nat}{w:World}(h:vG p rs i d w):Nu p w=i:=by
 unfold Nu;rw[h.at_];simp[intOf]
theorem qy(p:Nat)(rs:List Int)(i d:Nat)(w:World)(h:vG p rs i d w) :
  Calls prog 198 #[.pointer (some ⟨p,0,none⟩)] w (Pm p rs d (.tuple #[]) (xh rs i) w):=by
 have HH:=z7 h;obtain⟨R,hR⟩:=xX (xh rs i);rw[hR];have HR:=z7 hR;clear h hR;go_enter func198,ntmps198;go_wp2_with fail;go_loopw [] (fun wr=>∃ j,vG p rs j d wr/\xR p w wr/\xh rs j=R) (fun wr=>rs.length - Nu p wr)
 case atStart=>exact⟨i,HH.out,xR.refl _ _,HR.out⟩
 case round =>
  obtain⟨j,hs,fY,hsk⟩:=hrel;have HS:=z7 hs;have G8:=z7 hsk;clear hs hsk;go_wp2_with fail;refine vB ?_;intro W hW;have hb:Below wr.heap.size wr W:=by rw[hW];exact(zy _ _).alloc (zg _) _
  have hc:∀ k (h:k<4),W.cell? ⟨wr.heap.size,k,none⟩=some (.int .i32 ([32,9,10,13][k]'h)):=by
   rw[hW];intro k hk;rw[xu];match k,hk with
   | 0,_=>rfl
   | 1,_=>rfl
   | 2,_=>rfl
   | 3,_=>rfl
  clear hW;refine(ja p rs j d W (HS.out.below hb)).mono ?_;rintro e w1 ⟨rfl,xG⟩;have uv:=hb.trans (xG.mono hb.size);have hz:wr.heap.size<W.heap.size:=World.block_lt_of_cell? W _ (hc 0 (by decide));have qK:∀ k (h:k<4),w1.cell? ⟨wr.heap.size,k,none⟩=some (.int .i32 ([32,9,10,13][k]'h)):=fun k hk=>(xG.cell (p:=⟨wr.heap.size,k,none⟩) hz).trans (hc k hk)
  have vu:=Da wr.heap.size 4 [32,9,10,13] (xU rs j) w1 (by decide) qK;rw[show[32,9,10,13].contains (xU rs j)=GB (xU rs j) from rfl] at vu;have uw:=z7 vu;have uH:=HS.out.below uv;have gN:=z7 uH;have h5:=uH.at_;have h7:=uH.z1;have hlen:=uH.len;have Ix:=uH.here;obtain⟨bl,AE⟩:∃ b,GB (xU rs j)=b:=⟨_,rfl⟩;rw[AE] at uw;have HBL:=z7 AE;clear hc qK vu hb xG uH AE;go_wp2_with fail;refine uw.out.mono ?_;rintro e w' ⟨rfl,rfl⟩
  cases bl
  .have HF:=z7 (show j=R by rw[<-G8.out];exact(oQ HBL.out).symm);go_wp2;go_end0
   exact⟨rfl,by rw[<-HF.out];exact gN.out,fY.below uv⟩
  .obtain⟨xB,kL⟩:=AB HBL.out;have HF:=z7 (show xh rs (j+1)=R by rw[<-G8.out,kL]);have BU:=gN.out.move (j+1) (by omega);have HM:=z7 (show vG p rs (j+1) d (w1.setCell ⟨p,1,none⟩ (.int .i64 ((j:Int)+1))) by simpa using BU);clear kL BU;go_wp2;go_roundw
   case rel=>exact⟨j+1,HM.out,(fY.below uv).Up 1 _,HF.out⟩
   case measure=>rw[vF HM.out,vF HS.out];omega
theorem XB(l:List Int):runesBytes l=⟨(l.flatMap enc).toArray⟩:=by
 unfold runesBytes;have h:∀ (l:List Int) (a:List UInt8),l.foldl (fun r n=>r++Utf8.encode n) (⟨a.toArray⟩:ByteArray)=⟨(a++l.flatMap enc).toArray⟩:=by
  intro l;induction l with
  | nil=>intro a;simp
  | cons c t ih =>
   intro a;rw[List.foldl_cons,append_eq,toList_mk];rw[show(Utf8.encode c).data.toList=enc c from rfl,ih];simp
 have:=h l [];rw[List.nil_append] at this;exact this
def AH(p:Nat)(rs:List Int)(i d:Nat)(w:World)(v:Value)(F:Int->Nat->Bool):Prop :=
 ∃ k cap,v = .func (.func k) #[] cap/\(∀ args w,(callFunc k args).run prog w = .ok (.enter k args) w) /\
  ∀ W,xR p w W->∀ n,(n=0\/i+n<=rs.length)->n<=1000000->vG p rs (i+n) d W->Calls prog k (#[.int .i32 (xU rs (i+n)),.int .i64 (n:Nat)]++cap) W fun e W'=>e = .returned (.bool (F (xU rs (i+n)) n))/\Below W.heap.size W W'
def Ur(F:Int->Nat->Bool)(rs:List Int)(i:Nat):Nat->Nat->Nat
 | 0,n=>n
 | f+1,n=>if F (xU rs (i+n)) n=true then Ur F rs i f (n+1) else n
def runN(F:Int->Nat->Bool)(rs:List Int)(i:Nat):Nat:=Ur F rs i (rs.length+1) 0
def kQ(rs:List Int)(i n:Nat):Wd:=((rs.drop i).take n).flatMap enc
def zx8(p:Nat)(rs:List Int)(i d n:Nat)(w:World)(e:Ending)(w':World):Prop :=
 (if n=0 then Kq p 3 i e w' else e = .returned (xg (kQ rs i n))/\vG p rs (i+n) d w')/\xR p w w'
theorem kM{rs:List Int}{i:Nat}(h:rs.length<=i):xU rs i = -1:=by
 unfold xU;rw[z8,zj h];rfl
theorem AI{F:Int->Nat->Bool}{rs:List Int}{i n R f:Nat}(h:Ur F rs i (f+1) n=R):(F (xU rs (i+n)) n=true->Ur F rs i f (n+1)=R)/\(F (xU rs (i+n)) n=false->n=R):=by
 rw[Ur] at h;constructor
 .intro q;rw[if_pos q] at h;exact h
 .intro q;rw[if_neg (by rw[q];simp)] at h;exact h
theorem Pn(p:Nat)(rs:List Int)(i d:Nat)(w:World)(v:Value)(F:Int->Nat->Bool)(h:vG p rs i d w)(hf:AH p rs i d w v F)(Y1:∀ n,F (-1) n=false) :
  Calls prog 235 #[.pointer (some ⟨p,0,none⟩),v] w (zx8 p rs i d (runN F rs i) w):=by
 obtain⟨kf,cf,rfl,Dc,vu⟩:=hf;have HH:=z7 h;have uw:=z7 vu;obtain⟨R,hR⟩:=xX (runN F rs i);rw[hR];have HR:=z7 hR;have hi0:=h.at_;have ym6:=h.here;have hL0:=h.len;clear h vu hR;go_enter func235,ntmps235;go_wp2_with fail;clear hi0;go_loopw [] (fun wr=>∃ n,n<=rs.length/\(n=0\/i+n<=rs.length)/\vG p rs (i+n) d wr/\xR p w wr/\Ur F rs i (rs.length+1 - n) n=R) (fun wr=>rs.length+1 - Nu p wr)
 case atStart=>exact⟨0,Nat.zero_le _,.inl rfl,HH.out,xR.refl _ _,HR.out⟩
 case round =>
  obtain⟨n,hn,Iv,hs,fY,jc⟩:=hrel;have HS:=z7 hs;have vM:=AI (F:=F) (rs:=rs) (i:=i) (n:=n) (R:=R) (f:=rs.length - n) (by rw[show rs.length - n+1=rs.length+1 - n by omega];exact jc);have jD:=z7 vM;have h5:=hs.at_;have jO:wr.drew.cell? ⟨p,1,none⟩=some (.int .i64 ((i+n:Nat):Int)):=h5;have Hy:((i+n:Nat):Int) - (i:Int)=(n:Int):=by omega
  have DI:IntKind.i64.wrap ((i:Int)+(n:Int) - (i:Int))=(n:Int):=by rw[show(i:Int)+(n:Int) - (i:Int)=(n:Int) by omega];simp[IntKind.wrap,IntKind.signed,IntKind.bits];omega
  clear hs jc vM;go_wp2_with fail;refine rt (fun W':World=>W'.cell? ⟨p,1,none⟩=some (.int .i64 ((i+n:Nat):Int))) [0,1,3,4,5,6,7,8] 2 jO ?_;(iterate 8 ((first|refine ty ?_|refine tn ?_);try simp only[pl]))
  refine xq ?_;refine jx 2 (fun K hK=>?_);go_simp;refine(ja p rs (i+n) d wr.drew (HS.out.below (zy _ _).drew)).mono ?_;rintro e w1 ⟨rfl,xG⟩;have uv:Below wr.heap.size wr w1:=(zy _ wr).drew.trans xG;have gN:=z7 (HS.out.below uv);have DA:w1.cell? ⟨p,1,none⟩=some (.int .i64 ((i+n:Nat):Int)):=gN.out.at_;refine hK.out _ _ DA (fun _=>?_);clear hK K;refine jx 9 (fun K hK=>?_);go_simp;refine(uw.out w1 (fY.below uv) n Iv (by omega) gN.out).mono ?_;rintro e w2 ⟨rfl,xJ⟩;have uG:=uv.trans (xJ.mono uv.size);have qf:=gN.out.below xJ;have bk:=z7 qf;have Nq:w2.cell? ⟨p,1,none⟩=some (.int .i64 ((i+n:Nat):Int)):=qf.at_;have h7:=qf.z1;refine hK.out _ _ Nq (fun _=>?_);clear hK K;refine b7 ?_ _;obtain⟨b,hb⟩:=xX (F (xU rs (i+n)) n);rw[hb];rw[hb] at jD;have HB:=z7 hb;clear qf hb jO DA h5 Hy DI
  cases b
  .have HE:=z7 (show n=R from jD.out.2 rfl);by_cases qx:n=0
   .subst qx;have hq:(((i+0:Nat):Int)==(i:Int))=true:=by simp
    go_wp2_with fail;refine(dK p 3 i w2 bk.out.Jy).mono ?_;rintro e w3 ⟨hff,ub⟩;have HFF:=z7 hff;obtain⟨bf,rfl,_,_⟩:=hff;go_wp2;exact⟨rfl,by rw[<-HE.out,if_pos rfl];exact HFF.out,(fY.below uG).below ub⟩
   .have hq:(((i+n:Nat):Int)==(i:Int))=false:=by simp;omega
    obtain⟨⟨g,cap,c0,Nk,jS,Jx,gO⟩,c1,_,_,_,_,_,_⟩:=bk.out;have dI:i+n<=rs.length:=Iv.resolve_left qx;obtain⟨L,hL⟩:=xX rs.length;have HLL:=z7 hL;rw[hL] at c0 Nk dI;have hS3:w2.drew.cell? ⟨p,1,none⟩=some (.int .i64 ((i+n:Nat):Int))/\w2.drew.cell? ⟨p,0,none⟩=some (.slice (some ⟨g,0,none⟩) L cap)/\∀ j (h:j<rs.length),w2.drew.cell? ⟨g,j,none⟩=some (.int .i32 rs[j]):=⟨c1,c0,gO⟩;have k1:i<=i+n:=by omega
    have k2:i+n<=cap:=by omega
    have k3:i<=cap:=by omega
    have k4:(i:Int)<=(i:Int)+(n:Int):=by omega
    have k5:(i:Int)+(n:Int)<=(cap:Int):=by omega
    have k6:((i:Int)+(n:Int)).toNat=i+n:=by omega
    have k7:(0:Int)<=(i:Int)+(n:Int):=by omega
    have k8:i+n - i=n:=by omega
    have k9:(i:Int)+(n:Int) - (i:Int)=(n:Int):=by omega
    clear hL gO c0 c1 Nq xJ;go_wp2_with fail;refine rt (fun W':World=>W'.cell? ⟨p,1,none⟩=some (.int .i64 ((i+n:Nat):Int))/\W'.cell? ⟨p,0,none⟩=some (.slice (some ⟨g,0,none⟩) L cap)/\∀ j (h:j<rs.length),W'.cell? ⟨g,j,none⟩=some (.int .i32 rs[j])) [0,1,2,3,4,5,6,7,8,9,10,11] 0 hS3 ?_;(iterate 10 ((first|refine ty ?_|refine tn ?_);try simp only[pl]))
    refine K9 (v:=xg (kQ rs i n)) rfl (by rfl) ?_ ?_
    .intro w' tB;have hcv:=run_convert_runes (P:=prog) w' 147 9 21 ⟨g,i,none⟩ n (cap - i) ((rs.drop i).take n) (by simp;have:=HLL.out;omega) underlying147 underlying21 underlying9 (fun j hj=>by
      have Iu:i+j<rs.length:=by simp at hj;omega
      have e:(⟨g,i,none⟩:Addr).add j=⟨g,i+j,none⟩:=by
       unfold Addr.add;split
       .next h=>subst h;rfl
       .rfl
      rw[e,tB.2.2 (i+j) Iu];have hjn:j<n:=by simp at hj;omega
      simp[z8,List.getElem?_take,List.getElem?_drop,hjn,Iu])
     rw[zk (by simp;omega),XB] at hcv;go_simp;rw[if_neg (show ¬cap=i by omega),hcv];rfl
    (try simp only[Act.put,List.setIfInBounds_toArray,List.set_cons_zero,List.set_cons_succ])
    (iterate 1 ((first|refine ty ?_|refine tn ?_);try simp only[pl]))
    refine xq ?_;refine b7 ?_ _;go_wp2;go_ret;exact⟨by rw[if_neg (by rw[<-HE.out];exact qx)];exact⟨by rw[<-HE.out];rfl,by rw[<-HE.out];exact bk.out.below (zy _ _).drew⟩,(fY.below uG).drew⟩
  .have xB:i+n<rs.length:=by
    apply zv;intro hc;have:=HB.out;rw[kM (by omega),Y1] at this
    cases this
   have HG:=z7 (jD.out.1 rfl);have BU:=bk.out.move (i+(n+1)) (by omega);have HM:=z7 (show vG p rs (i+(n+1)) d (w2.setCell ⟨p,1,none⟩ (.int .i64 ((i:Int)+(n:Int)+1))) by rw[show(i:Int)+(n:Int)+1=((i+(n+1):Nat):Int) by omega];exact BU);clear BU;go_wp2;go_roundw
   case rel=>exact⟨n+1,by omega,.inr (by omega),HM.out,(fY.below uG).Up 1 _,by rw[show rs.length+1 - (n+1)=rs.length - n by omega];exact HG.out⟩
   case measure=>rw[vF HM.out,vF HS.out];omega
def bW(r:Int)(n:Nat):Bool:=decide (n<16) && (ju r ||(decide (0<n) && qg r))
theorem SQ(r:Int)(n:Nat)(w:World)(hn:n<=1000000):Calls prog 236 #[.int .i32 r,.int .i64 (n:Nat)] w fun e w'=>e = .returned (.bool (bW r n))/\w=w':=by
 obtain⟨l,hl⟩:∃ b,ju r=b:=⟨_,rfl⟩;obtain⟨dg,Po⟩:∃ b,qg r=b:=⟨_,rfl⟩;have HL:=z7 (hl▸U4 r w);have HD:=z7 (Po▸Vb r w);have HF:=z7 (show bW r n=(decide (n<16) && (l ||(decide (0<n) && dg))) by unfold bW;rw[hl,Po]);clear hl Po;by_cases h1:n<16
 .have g1:decide (n<16)=true:=decide_eq_true h1;go_enter func236,ntmps236;go_wp2_with fail;refine HL.out.mono ?_;rintro e w' ⟨rfl,rfl⟩
  cases l
  .by_cases h2:0<n
   .have g2:decide (0<n)=true:=decide_eq_true h2;go_wp2_with fail;refine HD.out.mono ?_;rintro e w' ⟨rfl,rfl⟩;go_wp2;go_ret;exact⟨by rw[HF.out,g1,g2];simp,rfl⟩
   .have g2:decide (0<n)=false:=decide_eq_false h2;go_wp2;go_ret;exact⟨by rw[HF.out,g1,g2];simp,rfl⟩
  .go_wp2;go_ret;exact⟨by rw[HF.out,g1];simp,rfl⟩
 .have g1:decide (n<16)=false:=decide_eq_false h1;go_enter func236,ntmps236;go_wp2;go_ret;exact⟨by rw[HF.out,g1];simp,rfl⟩
def qe(rs:List Int)(i:Nat):Nat:=runN bW rs i
theorem Us(p:Nat)(rs:List Int)(i d:Nat)(w:World)(h:vG p rs i d w) :
  Calls prog 199 #[.pointer (some ⟨p,0,none⟩)] w (zx8 p rs i d (qe rs i) w):=by
 have hf:AH p rs i d w (.func (.func 236) #[] #[]) bW :=
  ⟨_,_,rfl,fun args w=>by rfl,fun W _ n _ hn _=>(SQ (xU rs (i+n)) n W hn).mono fun e w' q=>⟨q.1,q.2▸zy _ _⟩⟩
 have HR:=z7 (Pn p rs i d w _ bW h hf (fun n=>by unfold bW;simp[ju,qg]));rw[show runN bW rs i=qe rs i from rfl] at HR;obtain⟨n,hn⟩:=xX (qe rs i);rw[hn] at HR |-
 clear h hf hn;go_enter func199,ntmps199;go_wp2_with fail;refine HR.out.mono ?_;rintro e w1 ⟨hq,hb⟩;by_cases h0:n=0
 .rw[if_pos h0] at hq;have HQ:=z7 hq;obtain⟨b,rfl,_,_⟩:=hq;have H0:=z7 h0;clear h0;go_wp2;exact⟨rfl,by rw[if_pos H0.out];exact HQ.out,hb⟩
 .rw[if_neg h0] at hq;obtain⟨rfl,hs⟩:=hq;have H0:=z7 h0;clear h0;go_wp2;go_ret;exact⟨by rw[if_neg H0.out];exact⟨rfl,hs⟩,hb⟩
def bA(r0:Int)(r:Int)(n:Nat):Bool:=(decide (n<9) && qg r) && (decide (n=0) || r0 !=48)
theorem Nj(p bt bf:Nat)(rs:List Int)(i n d:Nat)(w:World)(hs:vG p rs (i+n) d w)(hn:n<=1000000)(hi:n=0\/i+n<=rs.length)(ht:w.cell? ⟨bt,0,none⟩=some (.pointer (some ⟨p,0,none⟩)))(hf:w.cell? ⟨bf,0,none⟩=some (.int .i64 i))(r:Int) :
  Calls prog 238 #[.int .i32 r,.int .i64 (n:Nat),.pointer (some ⟨bt,0,none⟩),.pointer (some ⟨bf,0,none⟩)] w fun e w'=>e = .returned (.bool (bA (xU rs i) r n))/\Below w.heap.size w w':=by
 obtain⟨dg,Po⟩:∃ b,qg r=b:=⟨_,rfl⟩;have HD:=z7 (fun W=>Po▸Vb r W);obtain⟨r0,vg⟩:∃ q,xU rs i=q:=⟨_,rfl⟩;rw[vg];have HF:=z7 (show bA r0 r n=((decide (n<9) && dg) && (decide (n=0) || r0 !=48)) by unfold bA;rw[Po]);obtain⟨⟨g,cap,c0,Nk,jS,Jx,gO⟩,c1,_,_,_,_,_,_⟩:=hs;obtain⟨L,hL⟩:=xX rs.length;rw[hL] at c0 Nk hi;have HC:=z7 (show i<L->w.cell? ⟨g,i,none⟩=some (.int .i32 r0) from fun h=>by
  rw[gO i (by rw[hL];exact h),<-vg];unfold xU;rw[z8,zx (by rw[hL];exact h)];rfl)
 clear Po vg gO hL;by_cases h1:n<9
 .have g1:decide (n<9)=true:=decide_eq_true h1;have g1i:decide ((n:Int)<9)=true:=by simp;omega
  cases dg
  .go_enter func238,ntmps238;go_wp2_with fail;refine ue (fun W':World=>True) [0,1,2,3] 17 (by intro _ _ d _ _ h;cases d<;>exact h) (by kernel_rfl) (by kernel_rfl) (show True from trivial) ?_;(iterate 4 ((first|refine ty ?_|refine tn ?_);try simp only[pl]))
   refine xq ?_;refine jx 4 (fun K hK=>?_);go_simp;refine(HD.out _).mono ?_;rintro e w' ⟨rfl,rfl⟩;refine hK.out _ _ trivial (fun _=>?_);clear hK K;refine VA [5,6,7,8,9,10,11,12,13,14,15,16,17,18,19,20] 0 (show True from trivial) ?_;(iterate 16 ((first|refine ty ?_|refine tn ?_);try simp only[pl]))
   refine xq ?_;refine b7 ?_ _;go_wp2;go_ret;exact⟨by rw[HF.out,g1];simp,(zy _ _).drew⟩
  .by_cases h0:n=0
   .subst h0;go_enter func238,ntmps238;go_wp2_with fail;refine ue (fun W':World=>True) [0,1,2,3] 17 (by intro _ _ d _ _ h;cases d<;>exact h) (by kernel_rfl) (by kernel_rfl) (show True from trivial) ?_;(iterate 4 ((first|refine ty ?_|refine tn ?_);try simp only[pl]))
    refine xq ?_;refine jx 4 (fun K hK=>?_);go_simp;refine(HD.out _).mono ?_;rintro e w' ⟨rfl,rfl⟩;refine hK.out _ _ trivial (fun _=>?_);clear hK K;refine VA [5,6,7,8,9,10,11,12,13,14,15,16,17,18,19,20] 0 (show True from trivial) ?_;(iterate 16 ((first|refine ty ?_|refine tn ?_);try simp only[pl]))
    refine xq ?_;refine b7 ?_ _;go_wp2;go_ret;exact⟨by rw[HF.out,g1];simp,(zy _ _).drew⟩
   .have g2:decide (n=0)=false:=decide_eq_false h0;have g3:(n==0)=false:=by simpa using h0
    have g3i:((n:Int)==0)=false:=by simp;omega
    have Kk:=hi.resolve_left h0;have hiL:i<L:=by omega
    have Pp:=HC.out hiL;have jO:w.drew.cell? ⟨bt,0,none⟩=some (.pointer (some ⟨p,0,none⟩))/\w.drew.cell? ⟨bf,0,none⟩=some (.int .i64 i)/\w.drew.cell? ⟨p,0,none⟩=some (.slice (some ⟨g,0,none⟩) L cap)/\w.drew.cell? ⟨g,i,none⟩=some (.int .i32 r0):=⟨ht,hf,c0,Pp⟩;go_enter func238,ntmps238;go_wp2_with fail;refine rt (fun W':World=>W'.cell? ⟨bt,0,none⟩=some (.pointer (some ⟨p,0,none⟩))/\W'.cell? ⟨bf,0,none⟩=some (.int .i64 i)/\W'.cell? ⟨p,0,none⟩=some (.slice (some ⟨g,0,none⟩) L cap)/\W'.cell? ⟨g,i,none⟩=some (.int .i32 r0)) [0,1,2,3] 17 jO ?_;(iterate 4 ((first|refine ty ?_|refine tn ?_);try simp only[pl]))
    refine xq ?_;refine jx 4 (fun K hK=>?_);go_simp;refine(HD.out _).mono ?_;rintro e w' ⟨rfl,rfl⟩;refine hK.out _ _ jO (fun _=>?_);clear hK K;refine VA [5,6,7,8,9,10,11,12,13,14,15,16,17,18,19,20] 0 jO ?_;(iterate 16 ((first|refine ty ?_|refine tn ?_);try simp only[pl]))
    refine xq ?_;refine b7 ?_ _;go_wp2;go_ret;exact⟨by rw[HF.out,g1,g2];simp,(zy _ _).drew⟩
 .have g1:decide (n<9)=false:=decide_eq_false h1;have g1i:decide ((n:Int)<9)=false:=by simp;omega
  go_enter func238,ntmps238;go_wp2_with fail;refine ue (fun W':World=>True) [0,1,2,3] 17 (by intro _ _ d _ _ h;cases d<;>exact h) (by kernel_rfl) (by kernel_rfl) (show True from trivial) ?_;(iterate 4 ((first|refine ty ?_|refine tn ?_);try simp only[pl]))
  refine xq ?_;refine jx 4 (fun K hK=>?_);rw[if_neg (by exact Bool.false_ne_true)];refine hK.out _ _ trivial (fun _=>?_);clear hK K;refine VA [5,6,7,8,9,10,11,12,13,14,15,16,17,18,19,20] 0 (show True from trivial) ?_;(iterate 16 ((first|refine ty ?_|refine tn ?_);try simp only[pl]))
  refine xq ?_;refine b7 ?_ _;go_wp2;go_ret;exact⟨by rw[HF.out,g1];simp,(zy _ _).drew⟩
def qd(rs:List Int)(i:Nat):Nat:=runN (bA (xU rs i)) rs i
theorem BQ(p:Nat)(rs:List Int)(i d:Nat)(w:World)(h:vG p rs i d w) :
  Calls prog 203 #[.pointer (some ⟨p,0,none⟩)] w (zx8 p rs i d (qd rs i) w):=by
 have HH:=z7 h;have xB:=h.lt;have h5:=h.at_;obtain⟨n,hn⟩:=xX (qd rs i);rw[hn];have HN:=z7 hn;clear h hn;go_enter func203,ntmps203;go_wp2_with fail;refine vB ?_;intro W hW;have hb:Below w.heap.size w W:=by rw[hW];exact((zy _ _).alloc (zg _) _).alloc (by simp) _
 have ht:W.cell? ⟨w.heap.size,0,none⟩=some (.pointer (some ⟨p,0,none⟩)):=by rw[hW];go_simp
 have hf:W.cell? ⟨w.heap.size+1,0,none⟩=some (.int .i64 i):=by rw[hW];go_simp
 clear hW h5;have Ng:AH p rs i d W (.func (.func 238) #[] #[.pointer (some ⟨w.heap.size,0,none⟩),.pointer (some ⟨w.heap.size+1,0,none⟩)]) (bA (xU rs i)) :=
  ⟨_,_,rfl,fun args w=>by rfl,fun W' fY n hi hn hs=>Nj p w.heap.size (w.heap.size+1) rs i n d W' hs hn hi (fY.cell ht (by show w.heap.size≠p;omega)) (fY.cell hf (by show w.heap.size+1≠p;omega)) (xU rs (i+n))⟩
 refine(Pn p rs i d W _ (bA (xU rs i)) (HH.out.below hb) Ng (fun n=>by unfold bA;simp[qg])).mono ?_;rintro e w1 ⟨hq,xG⟩;rw[show runN (bA (xU rs i)) rs i=n from HN.out] at hq;have uv:=(xR.of (p:=p) hb).trans xG;by_cases h0:n=0
 .rw[if_pos h0] at hq;have HQ:=z7 hq;obtain⟨b,rfl,_,_⟩:=hq;have H0:=z7 h0;clear h0;go_wp2;exact⟨rfl,by rw[if_pos H0.out];exact HQ.out,uv⟩
 .rw[if_neg h0] at hq;obtain⟨rfl,hs⟩:=hq;have H0:=z7 h0;clear h0;go_wp2;go_ret;exact⟨by rw[if_neg H0.out];exact⟨rfl,hs⟩,uv⟩
end Go.Proofs.YthpldolmpinnhaaGreatDoor
