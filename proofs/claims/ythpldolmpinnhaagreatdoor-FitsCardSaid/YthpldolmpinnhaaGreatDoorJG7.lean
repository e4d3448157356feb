import Derived.Test.YthpldolmpinnhaaGreatDoorJG6
import Derived.IntWalk
import Derived.StillTailTactics
set_option maxHeartbeats 64000000
open Bool renaming eq_iff_iff→z7,or_assoc→zj
open Go.Lib renaming hid→z8
open Go.World renaming block_lt_of_cell?→zy,frozen?_setCell→zx,frozen?_of_block→zg
open List renaming getD_eq_getElem?_getD→zv,getElem?_eq_none→zf
open Go.Value renaming bool→zu
open Go.Utf8 renaming encode→zk
open Go.RowKit.Below renaming refl→zZ
open Go.Proofs.Tryz
namespace Go.Proofs.YthpldolmpinnhaaGreatDoor
open Go Go.RowKit
set_option maxRecDepth 10000
structure vG(p:Nat)(rs:List Int)(i d:Nat)(w:World):Prop where
 row:∃ g cap,w.cell? ⟨p,0,none⟩=some (.slice (some ⟨g,0,none⟩) rs.length cap)/\rs.length<=cap/\cap<=maxLen/\g<p/\∀ j (h:j<rs.length),w.cell? ⟨g,j,none⟩=some (.int .i32 rs[j])
 at_:w.cell? ⟨p,1,none⟩=some (.int .i64 i)
 deep:w.cell? ⟨p,2,none⟩=some (.int .i64 d)
 z1:w.frozen? ⟨p,1,none⟩=false
 z2:w.frozen? ⟨p,2,none⟩=false
 len:rs.length<=1000000
 here:i<=rs.length+1
 low:d<=100
 pos:∀ r∈rs,0<=r
theorem vG.lt{p:Nat}{rs:List Int}{i d:Nat}{w:World}(h:vG p rs i d w):p<w.heap.size:=zy w _ h.at_
theorem vG.below{p:Nat}{rs:List Int}{i d:Nat}{w w':World}(h:vG p rs i d w)(hb:Below w.heap.size w w'):vG p rs i d w':=by
 have xB:=h.lt;obtain⟨⟨g,cap,h0,h1,h2,h3,h4⟩,h5,h6,h7,h8,h9,du,Qn,Qp⟩:=h;refine⟨⟨g,cap,(hb.cell (p:=⟨p,0,none⟩) xB).trans h0,h1,h2,h3,fun j hj=>?_⟩,(hb.cell (p:=⟨p,1,none⟩) xB).trans h5,(hb.cell (p:=⟨p,2,none⟩) xB).trans h6,(hb.frozen (p:=⟨p,1,none⟩) xB).trans h7,(hb.frozen (p:=⟨p,2,none⟩) xB).trans h8,h9,du,Qn,Qp⟩;rw[hb.cell (zy w _ (h4 j hj))];exact h4 j hj
theorem vG.move{p:Nat}{rs:List Int}{i d:Nat}{w:World}(h:vG p rs i d w)(j:Nat)(hj:j<=rs.length+1):vG p rs j d (w.setCell ⟨p,1,none⟩ (.int .i64 j)):=by
 obtain⟨⟨g,cap,h0,h1,h2,h3,h4⟩,h5,h6,h7,h8,h9,du,Qn,Qp⟩:=h;refine⟨⟨g,cap,by rw[xk,if_neg (by simp)];exact h0,h1,h2,h3,fun k hk=>by rw[xk,if_neg (fun e=>by have:=congrArg Addr.block e;simp at this;omega)];exact h4 k hk⟩,by rw[xk,if_pos rfl,h5];rfl,by rw[xk,if_neg (by simp)];exact h6,by rw[zx];exact h7,by rw[zx];exact h8,h9,hj,Qn,Qp⟩
theorem vG.zad{p:Nat}{rs:List Int}{i d:Nat}{w:World}(h:vG p rs i d w)(e:Nat)(he:e<=100):vG p rs i e (w.setCell ⟨p,2,none⟩ (.int .i64 e)):=by
 obtain⟨⟨g,cap,h0,h1,h2,h3,h4⟩,h5,h6,h7,h8,h9,du,Qn,Qp⟩:=h;refine⟨⟨g,cap,by rw[xk,if_neg (by simp)];exact h0,h1,h2,h3,fun k hk=>by rw[xk,if_neg (fun e=>by have:=congrArg Addr.block e;simp at this;omega)];exact h4 k hk⟩,by rw[xk,if_neg (by simp)];exact h5,by rw[xk,if_pos rfl,h6];rfl,by rw[zx];exact h7,by rw[zx];exact h8,h9,du,he,Qp⟩
theorem vG.grown{p:Nat}{rs:List Int}{i d:Nat}{w w':World}{row:Option Nat}(h:vG p rs i d w)(hg:w.grownBy w' row)(hr:∀ q,row=some q->p<q):vG p rs i d w':=by
 have xB:=h.lt;have hp:some p≠row:=fun e=>by have:=hr p e.symm;omega
 obtain⟨⟨g,cap,h0,h1,h2,h3,h4⟩,h5,h6,h7,h8,h9,du,Qn,Qp⟩:=h;have hgn:some g≠row:=fun e=>by have:=hr g e.symm;omega
 have hb:=hg.block p xB (fun e=>hp (by rw[e]));exact⟨⟨g,cap,hg.cell h0 hp,h1,h2,h3,fun j hj=>hg.cell (h4 j hj) hgn⟩,hg.cell h5 hp,hg.cell h6 hp,(zg (a:=⟨p,1,none⟩) hb).trans h7,(zg (a:=⟨p,2,none⟩) hb).trans h8,h9,du,Qn,Qp⟩
def xU(rs:List Int)(i:Nat):Int:=rs.getD i (-1)
theorem ja(p:Nat)(rs:List Int)(i d:Nat)(w:World)(h:vG p rs i d w) :
  Calls prog 112 #[.pointer (some ⟨p,0,none⟩)] w fun e w'=>e = .returned (.int .i32 (xU rs i))/\Below w.heap.size w w':=by
 obtain⟨⟨g,cap,h0,h1,h2,h3,h4⟩,h5,h6,h7,h8,h9,du,Qn⟩:=h;have H4:=z8 h4;obtain⟨n,hn⟩:=xX rs.length;rw[hn] at h0 h9 du;have HN:=z8 hn;have jO:w.drew.cell? ⟨p,1,none⟩=some (.int .i64 i)/\w.drew.cell? ⟨p,0,none⟩=some (.slice (some ⟨g,0,none⟩) n cap):=⟨h5,h0⟩;clear h1 h4 hn h6 h7 h8 h2;by_cases xB:i<n
 .have hc:=H4.out i (by rw[HN.out];exact xB);have HF:=Lib.hid (show xU rs i=rs[i]'(by rw[HN.out];exact xB) by unfold xU;rw[List.getD_eq_getElem?_getD,List.getElem?_eq_getElem (by rw[HN.out];exact xB)];rfl);obtain⟨r,hr⟩:=xX (rs[i]'(by rw[HN.out];exact xB));rw[hr] at hc;have HR:=Lib.hid hr;have b8:decide ((i:Int)<(n:Int))=true:=by simp;omega
  have DA:w.drew.drew.cell? ⟨p,1,none⟩=some (.int .i64 i)/\w.drew.drew.cell? ⟨p,0,none⟩=some (.slice (some ⟨g,0,none⟩) n cap)/\w.drew.drew.cell? ⟨g,i,none⟩=some (.int .i32 r):=⟨h5,h0,hc⟩;clear hr;go_enter func112,ntmps112;go_wp2_with fail;refine rt (fun W':World=>W'.cell? ⟨p,1,none⟩=some (.int .i64 i)/\W'.cell? ⟨p,0,none⟩=some (.slice (some ⟨g,0,none⟩) n cap)) [0,1,2,3,4,5,6,7,8,9] 0 jO ?_;(iterate 10 ((first|refine ty ?_|refine tn ?_);try simp only[pl]))
  refine xq ?_;refine b7 ?_ _;go_wp2_with fail;refine rt (fun W':World=>W'.cell? ⟨p,1,none⟩=some (.int .i64 i)/\W'.cell? ⟨p,0,none⟩=some (.slice (some ⟨g,0,none⟩) n cap)/\W'.cell? ⟨g,i,none⟩=some (.int .i32 r)) [0,1,2,3,4,5,6,7,8,9,10] 0 DA ?_;(iterate 11 ((first|refine ty ?_|refine tn ?_);try simp only[pl]))
  refine xq ?_;refine b7 ?_ _;go_wp2;go_ret;exact⟨by rw[HF.out,HR.out];rfl,(zZ _ _).drew.drew⟩
 .have HF:=Lib.hid (show xU rs i = -1 by unfold xU;rw[List.getD_eq_getElem?_getD,List.getElem?_eq_none (by have:=HN.out;omega)];rfl);have b8:decide ((i:Int)<(n:Int))=false:=by simp;omega
  go_enter func112,ntmps112;go_wp2_with fail;refine rt (fun W':World=>W'.cell? ⟨p,1,none⟩=some (.int .i64 i)/\W'.cell? ⟨p,0,none⟩=some (.slice (some ⟨g,0,none⟩) n cap)) [0,1,2,3,4,5,6,7,8,9] 0 jO ?_;(iterate 10 ((first|refine ty ?_|refine tn ?_);try simp only[pl]))
  refine xq ?_;refine b7 ?_ _;go_wp2;go_ret;exact⟨by rw[HF.out];rfl,(zZ _ _).drew⟩
def Pm(p:Nat)(rs:List Int)(d:Nat)(r:Value)(j:Nat)(w:World)(e:Ending)(w':World):Prop:=e = .returned r/\vG p rs j d w'/\xR p w w'
theorem xR.grown{p:Nat}{a w w':World}{row:Option Nat}(h:xR p a w)(hg:w.grownBy w' row)(hr:∀ q,row=some q->a.heap.size<=q):xR p a w' :=
 ⟨hg.os.trans h.os,hg.tape.trans h.tape,hg.output.trans h.output,Nat.le_trans h.size hg.size,fun k hk hkp=>(hg.block k (Nat.lt_of_lt_of_le hk h.size) (fun e=>by have:=hr k (by rw[e]);omega)).trans (h.block k hk hkp)⟩
theorem xR.Up{p:Nat}{w w':World}(h:xR p w w')(j:Nat)(u:Value):xR p w (w'.setCell ⟨p,j,none⟩ u):=h.trans (xR.set p w' j u)
theorem XD(p:Nat)(rs:List Int)(i d:Nat)(r:Int)(w:World)(h:vG p rs i d w)(hr:r≠-1) :
  Calls prog 200 #[.pointer (some ⟨p,0,none⟩),.int .i32 r] w (Pm p rs d (.bool (xU rs i==r)) (if xU rs i=r then i+1 else i) w):=by
 have HN:=z8 (ja p rs i d w h);have HH:=z8 h;obtain⟨q,hq⟩:=xX (xU rs i);have HQ:=z8 hq;rw[hq] at HN |-
 by_cases hqr:q=r
 .subst hqr;have hi:i+1<=rs.length+1:=by
   have:i<rs.length:=by
    apply Classical.byContradiction;intro hc;apply hr;rw[<-hq];unfold xU;rw[zv,zf (by omega)];rfl
   omega
  clear hq h;go_enter func200,ntmps200;go_wp2_with fail;refine HN.out.mono ?_;rintro e w1 ⟨rfl,hb⟩;have hs:=HH.out.below hb;have HS:=z8 hs;have h5:=hs.at_;have h7:=hs.z1;have hlen:=hs.len;clear hs HN;go_wp2;go_ret;refine⟨by simp,?_,(xR.of hb).Up 1 _⟩;have:=HS.out.move (i+1) hi;simpa using this
 .have xxq:(q !=r)=true:=by simpa using hqr
  have HE:=z8 (show(q==r)=false by simpa using hqr);have HI:=z8 (show(if q=r then i+1 else i)=i from if_neg hqr);clear hq h;go_enter func200,ntmps200;go_wp2_with fail;refine HN.out.mono ?_;rintro e w1 ⟨rfl,hb⟩;have HS:=z8 (HH.out.below hb);clear HN;go_wp2;go_ret;exact⟨by rw[HE.out];rfl,HS.out,xR.of hb⟩
def BV(p:Nat)(w:World):Prop:=∃ x,w.cell? ⟨p,2,none⟩=some (.int .i64 x)/\w.frozen? ⟨p,2,none⟩=false
theorem vG.Jy{p:Nat}{rs:List Int}{i d:Nat}{w:World}(h:vG p rs i d w):BV p w:=⟨_,h.deep,h.z2⟩
theorem BV.below{p:Nat}{w w':World}(h:BV p w)(hb:Below w.heap.size w w'):BV p w':=by
 obtain⟨x,h1,h2⟩:=h;have xB:p<w.heap.size:=zy w _ h1;exact⟨x,(hb.cell (p:=⟨p,2,none⟩) xB).trans h1,(hb.frozen (p:=⟨p,2,none⟩) xB).trans h2⟩
def Kq(p:Nat)(n:Nat)(at_:Nat)(e:Ending)(w':World):Prop:=∃ b,e = .panicked [{ v := .iface 101 (.pointer (some ⟨b,0,none⟩)),recovered:=false }]/\w'.cell? ⟨b,0,none⟩=some (.int .i64 n)/\w'.cell? ⟨b,1,none⟩=some (.int .i64 at_)/\BV p w'/\b≠p/\b<w'.heap.size
theorem dK(p:Nat)(n at_:Nat)(w:World)(hd:BV p w) :
  Calls prog 113 #[.pointer (some ⟨p,0,none⟩),.int .i64 n,.int .i64 at_] w fun e w'=>Kq p n at_ e w'/\Below w.heap.size w w':=by
 go_enter func113,ntmps113;have HD:=z8 hd;clear hd;go_wp2;have hb:=fun o=>(zZ w.heap.size w).alloc (Nat.le_refl _) o
 have xB:p<w.heap.size:=by
  obtain⟨x,h1,_⟩:=HD.out;exact zy w _ h1
 exact⟨rfl,⟨_,rfl,xu _ _ _ _ _,xu _ _ _ _ _,HD.out.below (hb _),by omega,by simp⟩,hb _⟩
def bT(r:Int)(num:Bool):Bool:=r==123 ||(r==125 ||(r==35 && num))
def ju(r:Int):Bool:=(decide (97<=r) && decide (r<=122)) ||((decide (65<=r) && decide (r<=90)) || r==95)
def qg(r:Int):Bool:=decide (48<=r) && decide (r<=57)
theorem Iy(r:Int)(num:Bool)(w:World):Calls prog 188 #[.int .i32 r,.bool num] w fun e w'=>e = .returned (.bool (bT r num))/\w=w':=by
 go_enter func188,ntmps188;go_wp2;all_goals (go_ret;refine⟨CK ?_,rfl⟩;show zu _=zu _;congr 1;first|(simp[bT, *];done)|(rw[z7];simp[bT, *];done)|(rw[z7];simp[bT];omega)|(rw[z7];simp[bT,zj, *];done))
theorem U4(r:Int)(w:World):Calls prog 124 #[.int .i32 r] w fun e w'=>e = .returned (.bool (ju r))/\w=w':=by
 go_enter func124,ntmps124;go_wp2;all_goals (go_ret;refine⟨CK ?_,rfl⟩;show zu _=zu _;congr 1;first|(simp[ju, *];done)|(rw[z7];simp[ju, *];done)|(rw[z7];simp[ju];omega)|(rw[z7];simp[ju,zj, *];done))
theorem Vb(r:Int)(w:World):Calls prog 125 #[.int .i32 r] w fun e w'=>e = .returned (.bool (qg r))/\w=w':=by
 go_enter func125,ntmps125;go_wp2;all_goals (go_ret;refine⟨CK ?_,rfl⟩;show zu _=zu _;congr 1;first|(simp[qg, *];done)|(rw[z7];simp[qg, *];done)|(rw[z7];simp[qg];omega)|(rw[z7];simp[qg,zj, *];done))
def zab(p:Nat)(rs:List Int)(i d:Nat)(r:Int)(w:World)(e:Ending)(w':World):Prop :=
 (if xU rs i=r then e = .returned (.tuple #[])/\vG p rs (i+1) d w' else Kq p 3 i e w')/\xR p w w'
theorem jY(p:Nat)(rs:List Int)(i d:Nat)(r:Int)(w:World)(h:vG p rs i d w)(hr:r≠-1) :
  Calls prog 197 #[.pointer (some ⟨p,0,none⟩),.int .i32 r] w (zab p rs i d r w):=by
 have HT:=z8 (XD p rs i d r w h hr);by_cases hq:xU rs i=r
 .have kh:(xU rs i==r)=true:=by simpa using hq
  rw[kh,if_pos hq] at HT;have HQ:=z8 hq;clear h hq kh;go_enter func197,ntmps197;go_wp2_with fail;refine HT.out.mono ?_;rintro e w1 ⟨rfl,hs,hb⟩;have HS:=z8 hs;clear hs HT;go_wp2;refine bodyPost_ret (v := .tuple #[]) ?_ rfl ⟨by rw[if_pos HQ.out];exact⟨rfl,HS.out⟩,hb⟩;simp[results,results197,go_sem]
 .have kh:(xU rs i==r)=false:=by simpa using hq
  rw[kh,if_neg hq] at HT;have HQ:=z8 hq;clear h hq kh;go_enter func197,ntmps197;go_wp2_with fail;refine HT.out.mono ?_;rintro e w1 ⟨rfl,hs,hb⟩;have h5:=hs.at_;have HDC:=z8 hs.Jy;clear hs HT;go_wp2_with fail;refine(dK p 3 i w1 HDC.out).mono ?_;rintro e w2 ⟨hf,xJ⟩;have HF:=z8 hf;obtain⟨b,rfl,_,_⟩:=hf;clear h5;go_wp2;exact⟨rfl,by rw[if_neg HQ.out];exact HF.out,hb.below xJ⟩
def enc(r:Int):List UInt8:=(zk r).data.toList
theorem kU(r:Int):(enc r).length<=4/\(zk r).size<=4:=by
 have h:(zk r).size<=4:=by
  unfold zk;simp only[];generalize (if Utf8.valid r=true then r.toNat else Utf8.runeError)=x;split
  .exact(by decide:1<=4)
  split
  .exact(by decide:2<=4)
  split
  .exact(by decide:3<=4)
  .exact(by decide:4<=4)
 exact⟨by simpa[enc] using h,h⟩
end Go.Proofs.YthpldolmpinnhaaGreatDoor
