import Derived.Test.YthpldolmpinnhaaGreatDoorJG36
import Derived.Laws.RangeAny
import Derived.Test.YthpldolmpinnhaaGreatDoorShelf
set_option maxHeartbeats 64000000
open Go.Lib renaming hid→z7
open Go.World renaming block_lt_of_cell?→z8,cell?_setCell_other→zy,frozen?_of_block→zv,cell?_setCell_same→zk,cell?_alloc_some→zY,cell?_of_block→zG,setCell→za,iterPos_iter→zl
open Nat renaming le_refl→zx,le_trans→zJ,zero_le→zF,le_add_right→zN,lt_of_lt_of_le→zt
open And renaming intro→zu
open Go.Value renaming ownBlock→zj,slice→zE
open List renaming getElem?_eq_some_iff→zg,take_succ_eq_append_getElem→zf,getElem?_eq_getElem→zZ,drop_eq_getElem_cons→zU,take_length→zI,getElem_mem→zL,eq_nil_of_length_eq_zero→zO,setIfInBounds_toArray→zS,mem_of_getElem?→zi,length_pos_iff→zm,set_cons_zero→zo,set_cons_succ→zr,any_eq_true→zh,any_append→yz
open Go.RowKit.Below renaming refl→zX,heap_setCell→zQ
open Option.some renaming inj→zV
open Go.Instr renaming makeFunc→zD
open Go.IntKind renaming wrap_i64→zH,i64→zM
open Go.World.ownsRow renaming drew→zP
open ByteArray renaming mk→zR
open Bool renaming false_and→zW,true_and→zc,and_eq_false_iff→ze,and_eq_true→zw
open Go.AllReadyH renaming cons→zn
open Go.Proofs.Tryz
namespace Go.Proofs.YthpldolmpinnhaaGreatDoor
open Go Go.RowKit
set_option maxRecDepth 10000
theorem GZ{r:Nat}(h:128<=r):ju (r:Int)=false/\qg (r:Int)=false:=by
 constructor
 .simp only[ju,Bool.or_eq_false_iff,ze,decide_eq_false_iff_not,beq_eq_false_iff_ne,ne_eq];omega
 .simp only[qg,ze,decide_eq_false_iff_not];omega
theorem WC(t:Wd)(w:World)(ht:t.length<=5000000):Calls Tryz.prog 83 #[xg t] w fun e w'=>e = .returned (.bool (j8 t))/\Fr xI xI w w':=by
 obtain⟨s,hs⟩:=xX (zR t.toArray);have qc:s.size=t.length:=by rw[<-hs,size_mk]
 have UO:∀ (k:Nat) (h:k<s.size),∃ c,t[k]? = some c/\s[k]'h=c:=by
  intro k h;subst hs;exact⟨_,zZ (by rw[size_mk] at h;exact h),by rfl⟩
 obtain⟨n,hn⟩:=xX t.length;have Qs:=z7 UO;have dJ:=z7 qc;have HN:=z7 hn;have HT:=z7 ht;rw[show xg t = .string s from congrArg Value.string hs];have kR:s.size=n:=qc.trans hn;have HL:=z7 kR;clear hs qc hn ht kR UO;go_enter func83,ntmps83;go_wp2_with fail;go_loopw [] (fun wr=>∃ pos,wr=w.iter s pos/\pos<=n/\Bx 0 t=Bx pos (t.drop pos)) (fun wr=>n - wr.iterPos w.heap.size)
 case atStart=>exact⟨0,rfl,zF _,rfl⟩
 case round =>
  obtain⟨pos,rfl,hp,hg⟩:=hrel;have HG:=z7 hg;clear hg;by_cases xB:pos<s.size
  .obtain⟨c,hc,hsc⟩:=Qs.out pos xB;have zzb:t.drop pos=c::t.drop (pos+1):=by
    obtain⟨h1,h2⟩:=zg.1 hc;rw[zU h1,h2]
   have je:=HG.out;rw[zzb,Bx] at je;have HG2:=z7 je;clear zzb je;by_cases ha:c.toNat<128
   .have EY:=fun ty=>run_next_ascii (P:=Tryz.prog) w s pos ty xB (by rw[hsc];exact ha)
    rw[hsc] at EY;obtain⟨l,hl⟩:∃ b,ju (c.toNat:Int)=b:=⟨_,rfl⟩;obtain⟨dg,Po⟩:∃ b,qg (c.toNat:Int)=b:=⟨_,rfl⟩;obtain⟨r,hr⟩:∃ r:Int,(c.toNat:Int)=r:=⟨_,rfl⟩;rw[hr] at EY hl Po;have Ml:=fun W=>z7 (hl▸U4 r W)
    have HDG:=fun W=>z7 (Po▸Vb r W)
    have HX:=z7 (show Bx 0 t=((l ||(!decide (pos=0) && dg)) && Bx (pos+1) (t.drop (pos+1))) by have:=HG2.out;rw[hr,hl,Po] at this;exact this);have aR:=z7 (show pos+1<=n by have:=HL.out;omega);clear hl Po hr hsc hc ha xB;have HB:l=false->(pos=0\/dg=false)->j8 t=false:=fun h1 h2=>by
     unfold j8;rw[HX.out,h1];rcases h2 with h2|h2<;>simp[h2]
    have HB:=z7 HB;go_wp2_with fail;refine(Ml _).out.mono ?_;rintro e w' ⟨rfl,rfl⟩
    cases l with
    | true =>
     go_wp2;go_roundw
     case measure=>simp only[zl];have:=aR.out;omega
     case rel=>exact⟨pos+1,rfl,aR.out,by rw[HX.out];simp⟩
    | false =>
     by_cases h0:pos=0
     .subst h0;go_wp2;go_ret;exact⟨by rw[HB.out (by simp) (by simp)];rfl,(Fr.refl xI w).alloc _⟩
     .have g0:((pos:Int)=0)=False:=by simp;omega
      go_wp2_with fail;refine(HDG _).out.mono ?_;rintro e w' ⟨rfl,rfl⟩
      cases dg with
      | false =>
       go_wp2;go_ret;exact⟨by rw[HB.out (by simp) (by simp)];rfl,(Fr.refl xI w).alloc _⟩
      | true =>
       go_wp2;go_roundw
       case measure=>simp only[zl];have:=aR.out;omega
       case rel=>exact⟨pos+1,rfl,aR.out,by rw[HX.out];simp[h0]⟩
   .have EY:=fun ty=>run_next_any (P:=Tryz.prog) w s pos ty xB
    obtain⟨h1,-⟩:=decode_high s pos xB (by rw[hsc];omega);obtain⟨r,hr⟩:=xX ((Utf8.decode s pos).1);obtain⟨z,hz⟩:=xX ((Utf8.decode s pos).2);rw[hr,hz] at EY;rw[hr] at h1;have Ml:=fun W=>z7 ((GZ h1).1▸U4 r W)
    have HDG:=fun W=>z7 ((GZ h1).2▸Vb r W)
    have HB:=z7 (show j8 t=false by
     unfold j8;rw[HG2.out,(GZ (r:=c.toNat) (by omega)).1,(GZ (r:=c.toNat) (by omega)).2];simp)
    clear hr hz hsc hc ha xB h1;go_wp2_with fail;refine(Ml _).out.mono ?_;rintro e w' ⟨rfl,rfl⟩;by_cases h0:pos=0
    .subst h0;go_wp2;go_ret;exact⟨by rw[HB.out];rfl,(Fr.refl xI w).alloc _⟩
    .have g0:((pos:Int)=0)=False:=by simp;omega
     go_wp2_with fail;refine(HDG _).out.mono ?_;rintro e w' ⟨rfl,rfl⟩;go_wp2;go_ret;exact⟨by rw[HB.out];rfl,(Fr.refl xI w).alloc _⟩
  .have EY:=fun ty=>run_next_end (P:=Tryz.prog) w s pos ty xB
   have HB:=z7 (show j8 t=(decide (0<n) && decide (n<=16)) by
    unfold j8;rw[HG.out,List.drop_eq_nil_of_le (by have:=HL.out;have:=HN.out;omega),HN.out];rfl)
   clear xB hp;have e:=HL.out;subst e;by_cases h0:0<s.size
   .have g0:(0:Int)<(s.size:Int):=by omega
    by_cases h1:s.size<=16
    .have g1:(s.size:Int)<=16:=by omega
     go_wp2;go_ret;exact⟨by rw[HB.out];simp[h0,h1],(Fr.refl xI w).alloc _⟩
    .have g1:¬(s.size:Int)<=16:=by omega
     go_wp2;go_ret;exact⟨by rw[HB.out];simp[h0,h1],(Fr.refl xI w).alloc _⟩
   .have g0:¬(0:Int)<(s.size:Int):=by omega
    go_wp2;go_ret;exact⟨by rw[HB.out];simp[h0],(Fr.refl xI w).alloc _⟩
theorem GY(p:Value)(ty ty':TypeId)(w:World):(Instr.next p false ty).run Tryz.prog w=(Instr.next p false ty').run Tryz.prog w:=rfl
theorem km{row:Option Nat}{w w':World}(hg:w.grownBy w' row):Fr (fun k=>row=some k) (fun k=>row=some k) w w' :=
 ⟨hg.os,hg.tape,hg.output,hg.size,fun k hk hn=>hg.block k hk (fun e=>hn e.symm),fun _ q => .inl q⟩
def Zp(f:Wd->Option (Wd×Bool))(z:Nat):Prop:=z<=16/\∀ m x,f m=some x->j8 m=true/\gi x.1 x.2=true
def zr9(b n z:Nat)(f:Wd->Option (Wd×Bool))(w:World)(e:Ending)(w':World):Prop :=
 ((Zp f z/\∃ c,e = .returned (.tuple #[lz c,.bool true])/\sx b c n z f () w'/\w.heap.size<=c)\/(¬Zp f z/\e = .returned (.tuple #[.nilFunc,.bool false])))/\Fr xI xI w w'
theorem ly{b n z:Nat}{f:Wd->Option (Wd×Bool)}{w:World}(h:gX w b n z f)(hl:∀ m x,f m=some x->m.length<=5000000/\x.1.length<=1000000)(Fu:z<=1000000000) :
  Calls Tryz.prog 52 #[.map (some b)] w (zr9 b n z f w):=by
 have Nv:∀ (fn:Fn) (first cap:Array Value) (w:World),(zD fn first cap).run Tryz.prog w = .ok (.func fn first cap) w:=fun _ _ _ _=>rfl
 have xB:=h.lt;obtain⟨W,hW⟩:=xX (w.alloc (.cells #[.map (some b)] 82));have ug:Fr xI xI w W:=by rw[<-hW];exact(Fr.refl xI w).alloc _
 have hmW:gX W b n z f:=h.fr ug id;have hcW:W.cell? ⟨w.heap.size,0,none⟩=some (.map (some b)):=by rw[<-hW];exact xu w #[.map (some b)] _ (0,0) 0
 have Wk:W.heap.size=w.heap.size+1:=by rw[<-hW];simp
 have kR:=hmW.len 3;obtain⟨w2,wB,hR,je,qf⟩:=hmW.range;obtain⟨c,hc⟩:=xX w.heap.size;rw[hc] at hcW Wk;rw[Wk] at wB hR;have vU:Fr xI xI w w2:=ug.over (km je) (fun q hq=>by cases hq);have c2:=(km je).cell hcW (fun q=>by cases q);have fL:=z7 vU;have Ve:=z7 ug;have HMA:=z7 h;have HR:=z7 hR;have HC:=z7 hc;have HL:=z7 hl;have Ml:=z7 xB;have HC2:=z7 c2;clear hmW ug je qf vU hR hl xB Wk h c2;by_cases hz:z<=16
 .have g1:¬(16:Int)<(z:Int):=by omega
  have HZ:=z7 hz;clear hz Fu;go_enter func52,ntmps52;go_wp2_with fail;go_loopw [] (fun wr=>∃ left cnt,D6 wr b (c+1) n f left cnt/\Fr xI xI w wr/\wr.cell? ⟨c,0,none⟩=some (.map (some b))/\∀ m x,f m=some x->left m=false->j8 m=true/\gi x.1 x.2=true) (fun wr=>wr.rangeLeft b (c+1))
  case atStart=>exact⟨_,_,HR.out,fL.out,HC2.out,fun m x hm hl=>by simp[hm] at hl⟩
  case round =>
   obtain⟨left,cnt,LH,hf,Pp,kZ⟩:=hrel;have Ec:=z7 (zu LH (zu hf kZ));rcases LH.next 0 with⟨-,CB,EY⟩|⟨m,x,w',WB,hlm,XV,EY,N0,Nk,XX,qc,fT⟩
   .have EY:=fun ty=>(GY (.pointer (some ⟨c+1,0,none⟩)) ty 0 wr).trans EY
    have HNO:=z7 CB;clear LH hf kZ CB;go_wp2;go_ret2
    have LH:=Ec.out.1;refine⟨.inl ⟨⟨HZ.out,fun m x hm=>Ec.out.2.2 m x hm (HNO.out m)⟩,c,rfl,⟨?_,Pp,fun m x hm=>(HL.out m x hm).2⟩,by rw[HC.out];exact zx _⟩,Ec.out.2.1⟩;exact HMA.out.fr Ec.out.2.1 id
   .have EY:=fun ty=>(GY (.pointer (some ⟨c+1,0,none⟩)) ty 0 wr).trans EY
    obtain⟨t,num⟩:=x;obtain⟨l1,l2⟩:=HL.out m _ XV;obtain⟨d,hd⟩:=xX w'.heap.size;obtain⟨V,hV⟩:=xX (w'.alloc (.cells #[xg t,.bool num] 86));have d0:V.cell? ⟨d,0,none⟩=some (xg t):=by rw[<-hV,<-hd];exact xu w' #[xg t,.bool num] _ (0,0) 0
    have d1:V.cell? ⟨d,1,none⟩=some (.bool num):=by rw[<-hV,<-hd];exact xu w' #[xg t,.bool num] _ (0,0) 1
    have fV:Fr xI xI w' V:=by rw[<-hV];exact(Fr.refl xI w').alloc _
    have GD:Fr xI xI w w':=hf.over (km XX) (fun q hq => .inr (by cases hq;have:=HC.out;omega));have N3:w'.cell? ⟨c,0,none⟩=some (.map (some b)):=(km XX).cell Pp (fun q=>by cases q);obtain⟨nm,Jc⟩:∃ q,j8 m=q:=⟨_,rfl⟩;obtain⟨vd,hvd⟩:∃ q,gi t num=q:=⟨_,rfl⟩;have HNM:=fun W=>z7 (Jc▸WC m W l1)
    have Cr:=fun W=>z7 (hvd▸C5 t num W l2)
    have HB:=z7 (zu N0 (zu Nk (zu fV (zu GD N3))));have HM:=z7 (zu XV (zu Jc hvd));have HD:=z7 (zu d0 d1);clear LH hf kZ N0 Nk fV GD N3 XX qc hlm XV Jc hvd l1 l2 d0 d1;go_wp2_with fail;refine(HNM _).out.mono ?_;rintro e w3 ⟨rfl,gQ⟩;have e0:=gQ.cell HD.out.1 id;have e1:=gQ.cell HD.out.2 id;have U3:=z7 gQ;clear gQ
    cases nm with
    | false =>
     go_wp2;go_ret2
     refine⟨.inr ⟨fun q=>?_,rfl⟩,HB.out.2.2.2.1.trans (HB.out.2.2.1.trans U3.out)⟩;have:=(q.2 m _ HM.out.1).1;rw[HM.out.2.1] at this
     cases this
    | true =>
     go_wp2_with fail;refine(Cr _).out.mono ?_;rintro e w4 ⟨rfl,hb⟩;have Vi:Fr xI xI w3 w4:=⟨hb.os,hb.tape,hb.output,hb.size,fun k hk _=>hb.block k hk,fun _ q => .inl q⟩;have AG:=z7 (HB.out.2.2.1.trans (U3.out.trans Vi));clear hb Vi
     cases vd with
     | false =>
      go_wp2;go_ret2
      refine⟨.inr ⟨fun q=>?_,rfl⟩,HB.out.2.2.2.1.trans AG.out⟩;have:=(q.2 m _ HM.out.1).2;rw[HM.out.2.2] at this
      cases this
     | true =>
      go_wp2;go_roundw
      case measure =>
       rw[(HB.out.1.fr AG.out id id).left_eq,Ec.out.1.left_eq];exact HB.out.2.1
      case rel =>
       refine⟨_,_,HB.out.1.fr AG.out id id,HB.out.2.2.2.1.trans AG.out,AG.out.cell HB.out.2.2.2.2 id,fun m' x' o7 hl'=>?_⟩;by_cases he:m'=m
       .subst he;have:=HM.out.1;rw[o7] at this
        cases this;exact⟨HM.out.2.1,HM.out.2.2⟩
       .exact Ec.out.2.2 m' x' o7 (by simpa[he] using hl')
 .have g1:(16:Int)<(z:Int):=by omega
  have HZ:=z7 hz;clear hz Fu;go_enter func52,ntmps52;go_wp2;go_ret2
  exact⟨.inr ⟨fun q=>by have:=q.1;have:=HZ.out;omega,rfl⟩,Ve.out⟩
def uY:List Wd->Nat×(Wd->Option (Wd×Bool))->Nat×(Wd->Option (Wd×Bool))
 | k::d::t::r,p=>uY r (if (p.2 k).isSome then p.1 else p.1+1,fun m=>if k=m then some (t,d==[110]) else p.2 m)
 | _,p=>p
theorem Pf{l:List Wd}(h:l.length<3)(p:Nat×(Wd->Option (Wd×Bool))):uY l p=p:=by
 match l,h with
 | [],_=>rfl
 | [_],_=>rfl
 | [_,_],_=>rfl
 | _::_::_::_,h=>simp at h;omega
def Ys(w:World)(a:Option Addr)(l:List Wd):Prop:=l≠[]->∃ g o,a=some ⟨g,o,none⟩/\∀ j t,l[j]? = some t->w.cell? ⟨g,o+j,none⟩=some (xg t)
theorem Ys.fr{w w':World}{a:Option Addr}{l:List Wd}(h:Ys w a l)(hf:Fr xI xI w w'):Ys w' a l:=fun vy=>by
 obtain⟨g,o,ha,hc⟩:=h vy;exact⟨g,o,ha,fun j t ht=>hf.cell (hc j t ht) id⟩
theorem M3{l:List Wd}{a:Option Addr}{n c:Nat}{w:World}(h:Ys w a l)(hn:l.length=n)(hl:∀ t∈l,t.length<=1000000)(qx:n<=1000000) :
  Calls Tryz.prog 34 #[.slice a n c] w fun e w'=>e = .returned (.map (some w.heap.size))/\(∃ N,N<=2000000/\gX w' w.heap.size N (uY l (0,fun _=>none)).1 (uY l (0,fun _=>none)).2)/\Fr xI xI w w':=by
 have GM:=@run_makeMap Tryz.prog;obtain⟨b,hb⟩:=xX w.heap.size;have h0:=gX.made w;have f0:Fr xI xI w (w.alloc (.map #[] 0)):=(Fr.refl xI w).alloc _;rw[hb] at h0;have H0:=z7 (zu h0 f0);have HH:=z7 h;have HN:=z7 (zu hn qx);have HL:=z7 hl;have HB:=z7 hb;clear h hn hl qx h0 f0;go_enter func34,ntmps34;go_wp2;go_loopw [4] (fun i wr=>∃ k N z f,i = .int .i64 (k:Nat)/\k<=n+3/\N<=k/\gX wr b N z f/\uY l (0,fun _=>none)=uY (l.drop k) (z,f)/\Fr xI xI w wr) (fun i _=>n+3 - (intOf i).toNat)
 case atStart=>exact⟨0,0,0,_,rfl,zF _,zx _,H0.out.1,rfl,H0.out.2⟩
 case round =>
  obtain⟨k,N,z,f,rfl,hk,hNk,hm,hv,hf⟩:=hrel;by_cases xB:k+2<n
  .obtain⟨g,o,rfl,hc⟩:=HH.out (fun e=>by have:=HN.out.1;rw[e] at this;simp at this;omega);obtain⟨t0,g0⟩:∃ t,l[k]? = some t:=⟨_,zZ (by have:=HN.out.1;omega)⟩;obtain⟨t1,g1⟩:∃ t,l[k+1]? = some t:=⟨_,zZ (by have:=HN.out.1;omega)⟩;obtain⟨t2,g2⟩:∃ t,l[k+2]? = some t:=⟨_,zZ (by have:=HN.out.1;omega)⟩;have c0:=hf.cell (hc k t0 g0) id;have c1:=hf.cell (hc (k+1) t1 g1) id;have c2:=hf.cell (hc (k+2) t2 g2) id;have hd:l.drop k=t0::t1::t2::l.drop (k+3):=by
    obtain⟨h1,e1⟩:=zg.1 g0;obtain⟨h2,e2⟩:=zg.1 g1;obtain⟨h3,e3⟩:=zg.1 g2;rw[zU h1,e1,zU h2,e2,zU h3,e3]
   have l0:=HL.out t0 (zi g0);have l2:=HL.out t2 (zi g2);obtain⟨B,hB⟩:=xX ((t1==[110]));obtain⟨w2,XG,jA,je⟩:=(hm.keep (w':=wr.drew) rfl).put t0 (by omega) (t2,B) (by show t2.length<=_;omega) (by have:=HN.out.2;omega);rw[hd,uY,hB] at hv;have vU:Fr xI xI w w2:=(hf.drew).over (km je) (fun q hq=>by cases hq;exact .inr (by rw[HB.out];exact zx _));have Dl:b≠g:=fun e=>by
    have:=z8 w _ (hc k t0 g0);rw[<-e,HB.out] at this;exact Nat.lt_irrefl _ this
   have e0:=(km je).cell (w:=wr.drew) c0 (fun e=>Dl (zV e));have e1:=(km je).cell (w:=wr.drew) c1 (fun e=>Dl (zV e));have e2:=(km je).cell (w:=wr.drew) c2 (fun e=>Dl (zV e));have HQ:=z7 (zu jA (zu hv vU));clear hc g0 g1 g2 hd l0 l2 hm hv hf jA je vU Dl;have k1:(k:Int)+2<(n:Int):=by omega
   have k0:k<n:=by omega
   have k01:k+1<n:=by omega
   have k2:(k:Int)+1<(n:Int):=by omega
   have bO:n<=1000000:=HN.out.2;have K7:zM.wrap ((k:Int)+2)=(k:Int)+2:=by rw[zH];omega
   have SK:zM.wrap ((k:Int)+1)=(k:Int)+1:=by rw[zH];omega
   have hw3:zM.wrap ((k:Int)+3)=(k:Int)+3:=by rw[zH];omega
   have Ml:=z7 xB;have q2:(0:Int)<=(k:Int)+2:=by omega
   have q1:(0:Int)<=(k:Int)+1:=by omega
   have u2:((k:Int)+2).toNat=k+2:=by omega
   have u1:((k:Int)+1).toNat=k+1:=by omega
   clear bO;go_wp2_with fail;refine rt (fun W':World=>W'.cell? ⟨g,o+k,none⟩=some (xg t0)/\W'.cell? ⟨g,o+(k+1),none⟩=some (xg t1)/\W'.cell? ⟨g,o+(k+2),none⟩=some (xg t2)) (List.range 17) 1 ⟨c0,c1,c2⟩ ?_;(iterate 17 (refine ty ?_;try simp only[pl]))
   refine xq ?_;refine jx 17 (fun J hJ=>?_);go_simp;refine hJ.out _ _ ⟨e0,e1,e2⟩ fun _=>?_
   clear hJ J;refine b7 ?_ _;clear XG;go_wp2;go_roundw
   case rel =>
    obtain⟨m1,m2,m3⟩:=HQ.out;have hl:=Ml.out;exact⟨k+3,N+1,_,_,by go_num,by omega,by omega,m1,m2,m3⟩
   case measure=>simp only[intOf];omega
  .have HQ:=z7 (show uY l (0,fun _=>none)=(z,f) by rw[hv,Pf (by rw[List.length_drop,HN.out.1];omega)]);have HM:=z7 (zu hm hf);have k1:¬(k:Int)+2<(n:Int):=by omega
   have bO:n<=1000000:=HN.out.2;have K7:zM.wrap ((k:Int)+2)=(k:Int)+2:=by rw[zH];omega
   have HNk:=z7 (show N<=2000000 by have:=HN.out.2;omega);clear hv hm hf bO;go_wp2;go_ret;exact⟨rfl,⟨N,HNk.out,by rw[HQ.out];exact HM.out.1⟩,HM.out.2⟩
structure zg8{τ:Type}(w:World)(g:Nat)(E:qJ τ):Prop where
 wr:∀ W nv n,Fr xI xI w W->fy (fun _=>False) W nv n->Calls Tryz.prog 45 #[.pointer (some ⟨g,0,none⟩),nv] W fun e w'=>e = .returned (xg (E.wr n))/\Below W.heap.size W w'
 wrl:∀ n:vq,EG n.2->(E.wr n).length<=5000
 set:∃ cv ov,(∀ W,Fr xI xI w W->W.cell? ⟨g,0,none⟩=some cv/\W.cell? ⟨g,1,none⟩=some ov) /\
  (∀ W nv d,Fr xI xI w W->uP W nv d->Calls Tryz.prog 60 #[cv,nv] W fun e w'=>e = .returned (.int .i64 (E.sort false d))/\Below W.heap.size W w') /\
  ∀ W nv d,Fr xI xI w W->uP W nv d->Calls Tryz.prog 60 #[ov,nv] W fun e w'=>e = .returned (.int .i64 (E.sort true d))/\Below W.heap.size W w'
 srt:∀ b d,E.sort b d<6
structure JD{τ:Type}(P q g mb:Nat)(f:Fo)(vC vI:Value)(rs:List (Value×Value))(E:qJ τ)(w:World):Prop where
 p0:w.cell? ⟨P,0,none⟩=some (.pointer (some ⟨q,0,none⟩))
 p1:w.cell? ⟨P,1,none⟩=some (.pointer (some ⟨g,0,none⟩))
 prog:jX q (MkS.all f) vC vI rs mb w
 loc:zg8 w g E
 msg:f.vD=true
 C9:f.C9 false
 UW:f.UW
 sh:f.sh
 cw:f.cw<=90000
section
variable {P q g mb:Nat} {f:Fo} {vC vI:Value} {rs:List (Value×Value)} {w:World}
theorem UC{w w':World}(h:Fr xI xI w w'):Below w.heap.size w w':=⟨h.os,h.tape,h.output,h.size,fun k hk=>h.keep k hk id⟩
theorem JD.env{E:qJ Unit}(h:JD P q g mb f vC vI rs E w){w0:World}(hf:Fr xI xI w w0){A:Nat}(hA:w0.heap.size=A){b c n z:Nat}{fm:Wd->Option (Wd×Bool)} :
  bU w0 (A+2) (A+2) (fun k=>A+2<=k) q mb g (MkS.all f) vC vI rs (lz c) (Jo E fm) (fun _=>xI) (fun _ k=>k=b\/k=c) (sx b c n z fm):=by
 obtain⟨a1,a2,a3,a4,a5⟩:=Lt h.UW h.sh h.cw;have R6:∀ W,Fr (fun k=>A+2<=k) (fun k=>A+2<=k) w0 W->Fr xI xI w W:=fun W hW=>hf.over hW (fun q hq => .inr (by have:=hf.size;omega))
 obtain⟨cv,ov,s1,s2,s3⟩:=h.loc.set;exact⟨fun W hW=>h.prog.below (UC (R6 W hW)),fun W nv n hW=>h.loc.wr W nv n (R6 W hW),h.loc.wrl,⟨cv,ov,fun W hW=>s1 W (R6 W hW),fun W nv d hW=>s2 W nv d (R6 W hW),fun W nv d hW=>s3 W nv d (R6 W hW)⟩,h.loc.srt,M0 E b c n z fm,by omega,a3,a4,a5,fun k hk=>hk,zx _⟩
def sq{τ:Type}(res:Except (Nat×τ) (Wd×τ))(a b:Value):Prop:=match res with | .ok (o,_)=>a=xg o/\b = .nilIface | .error (n,_)=>a=xg []/\b=qW n
theorem Pd{τ:Type}{G:Nat->Prop}{Inv:τ->World->Prop}{res:Except (Nat×τ) (Wd×τ)}{w w':World}{e:Ending}(h:zzf G Inv res w e w'):∃ a b,e = .returned (.tuple #[a,b])/\sq res a b/\Fr G G w w':=by
 obtain⟨h1,h2⟩:=h;match res,h1 with
 | .ok (o,g'),h1=>exact⟨_,_,h1.1,⟨rfl,rfl⟩,h2⟩
 | .error (n,g'),h1=>exact⟨_,_,h1.1,⟨rfl,rfl⟩,h2⟩
def yej(E:qJ Unit)(f:Fo)(z:Nat)(fm:Wd->Option (Wd×Bool))(w:World)(e:Ending)(w':World):Prop :=
 ∃ a b,e = .returned (.tuple #[a,b])/\(Zp fm z/\sq (kT (Jo E fm) f [] (false,([],[])) [] ()) a b\/¬Zp fm z/\a=xg []/\b=qW 11)/\Fr xI xI w w'
theorem M4{E:qJ Unit}(h:JD P q g mb f vC vI rs E w){b n z:Nat}{fm:Wd->Option (Wd×Bool)}(hm:gX w b n z fm)(hl:∀ m x,fm m=some x->m.length<=5000000/\x.1.length<=1000000)(hz:z<=1000000000) :
  Calls Tryz.prog 35 #[.pointer (some ⟨P,0,none⟩),.map (some b)] w (yej E f z fm w):=by
 have HH:=z7 h;have HA:=z7 (ly hm hl hz);clear h hm hl hz;go_enter func35,ntmps35;go_wp2_with fail;refine HA.out.mono ?_;rintro e w1 ⟨⟨kZ,c,rfl,hI,hc⟩|⟨CB,rfl⟩,ug⟩
 .have Ve:=z7 ug;have HOK:=z7 kZ;have c0:=ug.cell HH.out.p0 id;have c1:=ug.cell HH.out.p1 id;have hE:=HH.out.env (w0:=w1.drew) ug.drew (A:=w1.heap.size) rfl (b:=b) (c:=c) (n:=n) (z:=z) (fm:=fm);have Ng:=Lt HH.out.UW HH.out.sh HH.out.cw;have HR:=z7 (l8 HH.out.msg HH.out.C9 hE Ng.1 Ng.2.1 rfl (show ¬w1.heap.size+2<=w1.heap.size by omega) (show ¬w1.heap.size+2<=w1.heap.size+1 by omega) (false,([],[])) (g0:=()) (show sx b c n z fm () w1.drew from(M0 E b c n z fm).fr hI ((Fr.refl xI w1).drew) (fun _ q=>q.elim)) (fun k q=>q.elim));clear hE Ng hI hc HA kZ ug;go_wp2_with fail;refine rt (fun W':World=>W'.cell? ⟨P,0,none⟩=some (.pointer (some ⟨q,0,none⟩))/\W'.cell? ⟨P,1,none⟩=some (.pointer (some ⟨g,0,none⟩))) (List.range 9) 5 ⟨c0,c1⟩ ?_;(iterate 9 (refine ty ?_;try simp only[pl]))
  refine xq ?_;refine jx 9 (fun J hJ=>?_);go_simp;refine HR.out.mono ?_;intro e w2 hq;obtain⟨a,b',rfl,vE,vU⟩:=Pd hq;have sk:Fr xI xI w1 w2:=((Fr.refl xI w1).drew).over vU (fun q hq => .inr (by have:w1.heap.size+2<=q:=hq;omega));have d0:=sk.cell c0 id;have d1:=sk.cell c1 id;have HQ:=z7 (zu vE sk);clear hq vE vU sk HR;refine hJ.out _ _ ⟨d0,d1⟩ fun _=>?_
  clear hJ J;refine VA [10,11,12,13] 0 ⟨d0,d1⟩ ?_;(iterate 4 (refine ty ?_;try simp only[pl]))
  refine xq ?_;refine b7 ?_ _;clear d0 d1 c0 c1;go_wp2;go_ret2
  exact⟨a,b',rfl,.inl ⟨HOK.out,HQ.out.1⟩,Ve.out.trans HQ.out.2⟩
 .have Ve:=z7 ug;have HNO:=z7 CB;clear ug CB HA;go_wp2;go_ret2
  exact⟨_,_,rfl,.inr ⟨HNO.out,rfl,rfl⟩,Ve.out⟩
end
theorem D7{l:List Wd}(hl:∀ t∈l,t.length<=1000000):∀ (p:Nat×(Wd->Option (Wd×Bool))),(∀ m x,p.2 m=some x->m.length<=1000000/\x.1.length<=1000000)->∀ m x,(uY l p).2 m=some x->m.length<=1000000/\x.1.length<=1000000:=by
 match l with
 | []=>exact fun p h=>h
 | [_]=>exact fun p h=>h
 | [_,_]=>exact fun p h=>h
 | k::d::t::r =>
  intro p h;rw[uY];refine D7 (l:=r) (fun u hu=>hl u (by simp[hu])) _ fun m x hx=>?_
  simp only at hx;split at hx
  .next e =>
   cases hx;exact⟨by rw[<-e];exact hl k (by simp),hl t (by simp)⟩
  .exact h m x hx
theorem UE:∀ (n:Nat) (l:List Wd),l.length<=n->∀ (p:Nat×(Wd->Option (Wd×Bool))),(uY l p).1<=p.1+l.length
 | _,[],_,p=>zN _ _
 | _,[_],_,p=>zN _ _
 | _,[_,_],_,p=>zN _ _
 | 0,_::_::_::_,h,_=>by simp at h
 | n+1,k::d::t::r,h,p=>by
  obtain⟨q,hq⟩:=xX ((if (p.2 k).isSome then p.1 else p.1+1));have hle:q<=p.1+1:=by rw[<-hq];split<;>omega
  rw[uY,hq];have:=UE n r (by simp at h;omega) (q,fun m=>if k=m then some (t,d==[110]) else p.2 m);simp only[List.length_cons] at this |-
  omega
theorem gX.Kt{w:World}{b n z:Nat}{f:Wd->Option (Wd×Bool)}(h:gX w b n z f)(m:Wd)(hm:m.length<=5000000) :
  (Instr.lookup 82 (.map (some b)) (xg m) false).run Tryz.prog w = .ok (D3 ((f m).getD ([],false))) w:=by
 obtain⟨D,h1,-,h3⟩:=h;obtain⟨v,ps,vH,hv⟩:=h1.lookup (Maps.string_keyed underlying9) underlying82 (z:=D3 ([],false)) (by first|rfl|simp[go_sem]) (zd:=Xb ([],false)) (zp:=[]) (Ea _ (by simp))
  (key:=xg m) (WideMaps.keyOf_string_mk (s:=⟨m.toArray⟩) underlying9 (by rw[size_mk];unfold maxLen;omega))
 rw[toList_mk] at hv;obtain⟨x,dM,qV,-⟩:=D4 hv;have he:D.atKey (.string m) (Xb ([],false))=Xb x:=congrArg Prod.fst qV;rw[(h3 m).2] at he;rw[vH,dM,D5 he]
section
variable {P q g mb:Nat} {f:Fo} {vC vI:Value} {rs:List (Value×Value)} {w:World}
def M5(E:qJ Unit)(f:Fo)(z:Nat)(fm:Wd->Option (Wd×Bool))(s:Wd)(k:Nat):Prop :=
 Zp fm z/\(match kT (Jo E fm) f [] (false,([],[])) [] () with | .ok (o,_)=>s=o/\k=0 | .error (n,_)=>s=[]/\k=n)\/¬Zp fm z/\s=[]/\k=11
theorem sj{E:qJ Unit}{z:Nat}{fm:Wd->Option (Wd×Bool)}{a b:Value}(h:Zp fm z/\sq (kT (Jo E fm) f [] (false,([],[])) [] ()) a b\/¬Zp fm z/\a=xg []/\b=qW 11) :
  ∃ s k,M5 E f z fm s k/\a=xg s/\(k=0/\b = .nilIface\/b=qW k):=by
 rcases h with⟨h1,h2⟩|⟨h1,rfl,rfl⟩
 .unfold sq at h2;unfold M5;split at h2
  .next o g' he=>exact⟨o,0,.inl ⟨h1,by rw[he];exact⟨rfl,rfl⟩⟩,h2.1,.inl ⟨rfl,h2.2⟩⟩
  .next n g' he=>exact⟨[],n,.inl ⟨h1,by rw[he];exact⟨rfl,rfl⟩⟩,h2.1,.inr h2.2⟩
 .exact⟨[],11,.inr ⟨h1,rfl,rfl⟩,rfl,.inr rfl⟩
theorem WE{k:Nat}{b:Value}(h:k=0/\b = .nilIface\/b=qW k)(w:World)(hE:QG w):Calls Tryz.prog 30 #[b] w (Xi (k:Nat) 0 w):=by
 rcases h with⟨rfl,rfl⟩|rfl
 .exact QF w
 .exact eJ _ w hE
theorem JD.fr{τ:Type}{E:qJ τ}(h:JD P q g mb f vC vI rs E w){w':World}(hf:Fr xI xI w w'):JD P q g mb f vC vI rs E w':=by
 obtain⟨cv,ov,s1,s2,s3⟩:=h.loc.set;exact⟨hf.cell h.p0 id,hf.cell h.p1 id,h.prog.below (UC hf),⟨fun W nv n hW=>h.loc.wr W nv n (hf.trans hW),h.loc.wrl,⟨cv,ov,fun W hW=>s1 W (hf.trans hW),fun W nv d hW=>s2 W nv d (hf.trans hW),fun W nv d hW=>s3 W nv d (hf.trans hW)⟩,h.loc.srt⟩,h.msg,h.C9,h.UW,h.sh,h.cw⟩
theorem D8{w w':World}(hb:Below w.heap.size w w'):Fr xI xI w w':=⟨hb.os,hb.tape,hb.output,hb.size,fun k hk _=>hb.block k hk,fun _ q => .inl q⟩
theorem JB{E:qJ Unit}(h:JD P q g mb f vC vI rs E w)(hR:QG w){l:List Wd}{a:Option Addr}{n c:Nat}(ht:Ys w a l)(hn:l.length=n)(hl:∀ t∈l,t.length<=1000000)(qx:n<=1000000) :
  Calls Tryz.prog 21 #[.pointer (some ⟨P,0,none⟩),.slice a n c] w fun e w'=>(∃ s k,e = .returned (.tuple #[xg s,.int .i64 (k:Nat),.bool true])/\M5 E f (uY l (0,fun _=>none)).1 (uY l (0,fun _=>none)).2 s k)/\Fr xI xI w w':=by
 obtain⟨z,hz⟩:=xX ((uY l (0,fun _=>none)).1);obtain⟨fm,XV⟩:=xX ((uY l (0,fun _=>none)).2);have Xg:∀ m x,fm m=some x->m.length<=1000000/\x.1.length<=1000000:=by rw[<-XV];exact D7 hl _ (fun m x hx=>by cases hx)
 have hzc:z<=1000000:=by rw[<-hz];have:=UE _ l (zx _) (0,fun _=>none);simp only at this;omega
 have HV:=z7 (fun (W:World) (hf:Fr xI xI w W)=>M3 (c:=c) (ht.fr hf) hn hl qx);rw[hz,XV] at HV;rw[hz,XV];have HH:=z7 h;have HR:=z7 hR;have HS:=z7 Xg;have HZ:=z7 hzc;clear h hR ht hn hl qx hz XV Xg hzc;go_enter func21,ntmps21;go_wp2_with fail;refine(HV.out w (Fr.refl _ _)).mono ?_;rintro e w1 ⟨rfl,⟨N,hN,m1⟩,ug⟩;have HF:=z7 (M4 (HH.out.fr ug) m1 (fun m x hx=>⟨zJ (HS.out m x hx).1 (by omega),(HS.out m x hx).2⟩) (by have:=HZ.out;omega));have H1:=z7 (zu m1 ug);obtain⟨b1,xG⟩:=xX w.heap.size;rw[xG] at HF H1 |-
 clear m1 ug xG hN;go_wp2_with fail;refine HF.out.mono ?_;rintro e w2 ⟨r1,r2,rfl,hr,vU⟩;obtain⟨s,k,hs,rfl,hk⟩:=sj hr;have zg9:=H1.out.2.trans vU;have H2:=z7 (zu (H1.out.1.fr vU id) zg9);have HT:=z7 (WE hk w2 (HR.out.below (UC zg9)));have HQ:=z7 hs;clear hr hs hk vU zg9 HF H1;go_wp2_with fail;refine HT.out.mono ?_;rintro e w3 ⟨rfl,ub⟩;have gQ:=H2.out.2.trans (D8 ub);have H3:=z7 (zu (H2.out.1.fr (D8 ub) id) gQ);clear ub gQ H2 HT;go_wp2_with fail;refine(HV.out w3 H3.out.2).mono ?_;rintro e w4 ⟨rfl,⟨N4,hN4,m4⟩,Vi⟩;obtain⟨b4,ur⟩:=xX w3.heap.size;rw[ur] at m4 |-
 have m1:=H3.out.1.fr Vi id;have l1:=m1.len 3;have l4:=m4.len 3;obtain⟨w5,wB,hRg,qm,Hv⟩:=m4.range;obtain⟨r,hr⟩:=xX w4.heap.size;rw[hr] at wB hRg;have G6:=(H3.out.2.trans Vi).over (km qm) (fun q hq=>by cases hq);have hlb:=m1.lt;have H5:=z7 (zu hRg (zu (m1.fr (km qm) (fun q=>by cases q)) (zu G6 (show b1≠r by omega))));have IG:=z7 (zu hr (show w.heap.size<=w4.heap.size from(H3.out.2.trans Vi).size));clear hRg qm Hv G6 m1 m4 Vi ur hlb H3 hr HV hN4;go_wp2_with fail;go_loopw [13] (fun sv wr=>∃ left cnt,sv = .bool true/\D6 wr b4 r N4 fm left cnt/\gX wr b1 N z fm/\Fr xI xI w wr) (fun _ wr=>wr.rangeLeft b4 r)
 case atStart=>exact⟨_,_,rfl,H5.out.1,H5.out.2.1,H5.out.2.2.1⟩
 case round =>
  obtain⟨left,cnt,rfl,LH,hm,hf⟩:=hrel;have Ec:=z7 (zu LH hf);rcases LH.next 0 with⟨-,CB,EY⟩|⟨m,x,w',WB,hlm,XV,EY,N0,Nk,XX,qc,fT⟩
  .have EY:=fun ty=>(GY (.pointer (some ⟨r,0,none⟩)) ty 0 wr).trans EY
   clear LH hm hf CB;go_wp2;go_ret3
   exact⟨⟨s,k,rfl,HQ.out⟩,Ec.out.2⟩
  .have EY:=fun ty=>(GY (.pointer (some ⟨r,0,none⟩)) ty 0 wr).trans EY
   obtain⟨t,num⟩:=x;have GD:Fr xI xI w w':=hf.over (km XX) (fun q hq => .inr (by cases hq;have:=IG.out;omega));have hmw:gX w' b1 N z fm:=hm.fr (km XX) (fun q=>H5.out.2.2.2 (zV q).symm);have VE:=fun o=>(hmw.fr ((Fr.refl xI w').alloc o) id).Kt m (by have:=(HS.out m _ XV).1;omega)
   rw[XV] at VE;have HB:=z7 (zu N0 (zu Nk (zu GD hmw)));clear LH hm hf N0 Nk XX qc hlm XV GD hmw;go_wp2;go_roundw
   case measure =>
    rw[(HB.out.1.fr ((Fr.refl xI w').alloc _) id id).left_eq,Ec.out.1.left_eq];exact HB.out.2.1
   case rel =>
    exact⟨_,_,rfl,HB.out.1.fr ((Fr.refl xI w').alloc _) id id,HB.out.2.2.2.fr ((Fr.refl xI w').alloc _) id,HB.out.2.2.1.alloc _⟩
end
theorem dC.grown{W W':World}{q:Nat}{row:Option Nat}(h:dC W q)(hg:W.grownBy W' row)(vy:some q≠row):dC W' q :=
 ⟨hg.cell h.c0 vy,hg.cell h.c1 vy,hg.cell h.c2 vy,(zv (hg.block q h.lt vy)).trans h.z0,(zv (hg.block q h.lt vy)).trans h.z1,(zv (hg.block q h.lt vy)).trans h.z2,zt h.lt hg.size⟩
theorem dC.set{W:World}{q:Nat}(h:dC W q){a:Addr}(ha:a.block≠q)(u:Value):dC (W.setCell a u) q :=
 have hb:(W.setCell a u).heap[q]? = W.heap[q]? := zQ _ _ _ _ (fun e=>ha e.symm);⟨(zG hb).trans h.c0,(zG hb).trans h.c1,(zG hb).trans h.c2,(zv hb).trans h.z0,(zv hb).trans h.z1,(zv hb).trans h.z2,by simpa[za] using h.lt⟩
theorem D9{w:World}{p:Addr}{l:List UInt8}(h:xK w (some p) (xl l)):∀ j u,(vz l)[j]? = some u->w.cell? (p.add j)=some u:=by
 intro j u hu;have hj:j<(xl l).length:=by
  have:=(zg.1 hu).1;simpa[vz,xl] using this
 obtain⟨b,hb,hc⟩:=h j hj
 cases hb;rw[hc];rw[UF,List.getElem?_map,zZ hj] at hu;simpa using hu
theorem M6(l:List UInt8):∀ u∈vz l,u.oneCell'=true:=by
 intro u hu;simp only[vz,List.mem_map] at hu;obtain⟨c,_,rfl⟩:=hu;rfl
theorem QT{w:World}{base g n cap:Nat}{e:TypeId}{a:List UInt8}{xs:List Value}{b:Bool}(h:w.ownsRow base e 1 (.slice (some ⟨g,0,none⟩) n cap) n (vz a++xs))(ha:a≠[])(hc:w.cell? ⟨g,0,none⟩=some (.bool b)):False:=by
 cases a with
 | nil=>exact ha rfl
 | cons c t =>
  have hn:0<n:=by have:=h.1;simp[vz] at this;omega
  have:=h.cellAt 0 (by omega);rw[hc] at this;simp[vz] at this
theorem sg(v:Value)(x:Dg)(m:Nat)(w:World)(h:uP w v x)(hm:m<=1000000000)(By:0<m) :
  Calls Tryz.prog 183 #[v,.int .i64 m] w (kx (xH (XA x.1 m),x.2) w):=by
 have kZ:=h.ok;have DW:=kZ.FO;have Pr:=kZ.Je;have HH:=z7 h;have HO:=z7 kZ;obtain⟨b,g,go,cap,rfl,_,_,_,_,_⟩:=h;obtain⟨jk,vg⟩:=fS w (.cells #[.bool b,.slice (some ⟨g,go,none⟩) (x.1.length+x.2.length) cap,.int .i64 x.2.length] 97);have lx:((w.alloc (.cells #[.bool b,.slice (some ⟨g,go,none⟩) (x.1.length+x.2.length) cap,.int .i64 x.2.length] 97)).alloc (.cells #[.bool false,.slice none 0 0,.int .i64 0] 97)).cell? ⟨w.heap.size,0,none⟩=some (.bool b) /\
   ((w.alloc (.cells #[.bool b,.slice (some ⟨g,go,none⟩) (x.1.length+x.2.length) cap,.int .i64 x.2.length] 97)).alloc (.cells #[.bool false,.slice none 0 0,.int .i64 0] 97)).cell? ⟨w.heap.size,1,none⟩=some (.slice (some ⟨g,go,none⟩) (x.1.length+x.2.length) cap) /\
   ((w.alloc (.cells #[.bool b,.slice (some ⟨g,go,none⟩) (x.1.length+x.2.length) cap,.int .i64 x.2.length] 97)).alloc (.cells #[.bool false,.slice none 0 0,.int .i64 0] 97)).cell? ⟨w.heap.size,2,none⟩=some (.int .i64 x.2.length):=⟨by go_simp,by go_simp,by go_simp⟩
 clear kZ;go_enter func183,ntmps183;go_wp2_with fail;generalize (w.alloc (.cells #[.bool b,.slice (some ⟨g,go,none⟩) (x.1.length+x.2.length) cap,.int .i64 x.2.length] 97)).alloc (.cells #[.bool false,.slice none 0 0,.int .i64 0] 97)=W at jk vg lx |-
 obtain⟨k0,k1,k2⟩:=lx;have hWs:w.heap.size<W.heap.size:=z8 W _ k0;refine(EF _ x _ (HH.out.below jk)).mono ?_;rintro e w1 ⟨⟨YF,vw,rfl,qK,jT,hB⟩,xG⟩;have VB:=vg.below xG;have uv:Below w.heap.size w w1:=jk.trans (xG.mono jk.size);have j0:=(xG.cell (p:=⟨w.heap.size,0,none⟩) hWs).trans k0;have j1:=(xG.cell (p:=⟨w.heap.size,1,none⟩) hWs).trans k1;have j2:=(xG.cell (p:=⟨w.heap.size,2,none⟩) hWs).trans k2;have HB:=z7 hB;clear jk vg xG k0 k1 k2 hB hWs;have xB:=fun l=>cX l m By
 have Ml:=z7 xB;clear xB;go_wp2_with fail;go_loop [5,12] (fun r i=>∃ k:Nat,k<=x.1.length/\i = .int .i64 k/\r = .int .i64 (XA (x.1.take k) m)) (fun _ i=>x.1.length - (intOf i).toNat)
 case atStart=>exact⟨0,zF _,rfl,rfl⟩
 case round =>
  obtain⟨k,hk,rfl,rfl⟩:=hrel;by_cases xB:k<x.1.length
  .obtain⟨p,rfl,hc⟩:=HB.out k (by rw[vV];exact xB);have hvm:(xl x.1)[k]'(by rw[vV];exact xB)=(x.1[k].toNat:Int) - 48:=by simp[xl]
   rw[hvm] at hc;have hd:=(vW _).1 (List.all_eq_true.1 HO.out.ig _ (zL xB));have hL:=Ml.out (x.1.take k);have hsn:XA (x.1.take (k+1)) m=(10*XA (x.1.take k) m+(x.1[k].toNat - 48)) % m:=by rw[zf xB,Fk]
   have pZ:=z7 hsn;obtain⟨r,hr⟩:∃ r,r=XA (x.1.take k) m:=⟨_,rfl⟩;obtain⟨d,hdd⟩:∃ d:Nat,(d:Int)=(x.1[k].toNat:Int) - 48:=⟨x.1[k].toNat - 48,by omega⟩;have DI:x.1[k].toNat - 48=d:=by omega
   rw[<-hdd] at hc;rw[<-hr,DI] at pZ;rw[<-hr] at hL |-
   have hd9:d<=9:=by omega
   have hmz:¬((m:Int)=0):=by omega
   clear hsn hvm hd hr hdd DI;go_wp2;exact⟨⟨k+1,by omega,by go_num,by rw[pZ.out];go_num⟩,by simp[intOf];omega⟩
  .obtain rfl:k=x.1.length:=by omega
   have ZE:=Ml.out (x.1.take x.1.length);rw[zI] at ZE |-
   clear Ml HB;obtain⟨r,hr⟩:∃ r,r=XA x.1 m:=⟨_,rfl⟩;have HR:=z7 hr;rw[<-hr] at ZE |-
   clear hr;go_wp2_with fail;refine(Yj r _ (by omega)).mono ?_;rintro e w2 ⟨⟨g2,uL,rfl,ho⟩,xJ⟩;have ZF:=VB.below xJ;have uG:Below w.heap.size w w2:=uv.trans (xJ.mono uv.size);have uH:w.heap.size<w1.heap.size:=z8 w1 _ j0;have i0:=(xJ.cell (p:=⟨w.heap.size,0,none⟩) uH).trans j0;have i1:=(xJ.cell (p:=⟨w.heap.size,1,none⟩) uH).trans j1;have i2:=(xJ.cell (p:=⟨w.heap.size,2,none⟩) uH).trans j2;have je:=(ho.lt g2 rfl);have S5:=z7 VB.lt;clear xJ j0 j1 j2 VB uv;go_wp2_with (fail);have F:∃ W3,W3=w2.alloc (.cells #[.bool false,.slice (some ⟨g2,0,none⟩) (xH r).length uL,.int .i64 0] 97)/\Below w2.heap.size w2 W3/\W3.heap.size=w2.heap.size+1 /\
     W3.cell? ⟨w2.heap.size,0,none⟩=some (.bool false)/\W3.cell? ⟨w2.heap.size,1,none⟩=some (.slice (some ⟨g2,0,none⟩) (xH r).length uL)/\W3.cell? ⟨w2.heap.size,2,none⟩=some (.int .i64 0) /\
     W3.frozen? ⟨w2.heap.size,0,none⟩=false/\W3.frozen? ⟨w2.heap.size,1,none⟩=false/\W3.frozen? ⟨w2.heap.size,2,none⟩=false /\
     W3.ownsRow w1.heap.size 5 1 (.slice (some ⟨g2,0,none⟩) (xH r).length uL) (xH r).length (vz (xH r)) :=
    ⟨_,rfl,(zX _ _).alloc (zx _) _,by simp,by go_simp,by go_simp,by go_simp,by go_simp,by go_simp,by go_simp,ho.alloc _⟩
   obtain⟨W3,kg,ub,Ma,q0,q1,q2,y0,y1,y2,T9⟩:=F;rw[<-kg];have Kb:=ZF.below ub;have qf:w.heap.size<w2.heap.size:=z8 w2 _ i0;have o0:=(ub.cell (p:=⟨w.heap.size,0,none⟩) qf).trans i0;have o1:=(ub.cell (p:=⟨w.heap.size,1,none⟩) qf).trans i1;have o2:=(ub.cell (p:=⟨w.heap.size,2,none⟩) qf).trans i2;have ZQ:Below w.heap.size w W3:=uG.trans (ub.mono uG.size);have O5:w1.heap.size<=w2.heap.size:=by omega
   clear kg ub ZF i0 i1 i2 ho;obtain⟨B,hBq⟩:∃ B,B=w.heap.size:=⟨_,rfl⟩;obtain⟨q,hq⟩:∃ q,q=w2.heap.size:=⟨_,rfl⟩;rw[<-hBq] at o0 o1 o2 Kb qf |-
   rw[<-hq] at q0 q1 q2 y0 y1 y2 qf Ma |-
   have HBq:=z7 hBq;have HQ:=z7 hq;clear hBq hq;have jO:W3.drew.cell? ⟨B,0,none⟩=some (.bool b)/\W3.drew.cell? ⟨B,1,none⟩=some (.slice (some ⟨g,go,none⟩) (x.1.length+x.2.length) cap)/\W3.drew.cell? ⟨B,2,none⟩=some (.int .i64 x.2.length):=⟨o0,o1,o2⟩;refine ue (fun W':World=>W'.cell? ⟨B,0,none⟩=some (.bool b)/\W'.cell? ⟨B,1,none⟩=some (.slice (some ⟨g,go,none⟩) (x.1.length+x.2.length) cap)/\W'.cell? ⟨B,2,none⟩=some (.int .i64 x.2.length))
    [0,2,5,6] 7 (by intro _ _ d _ _ h;cases d<;>exact h) (by kernel_rfl) (by kernel_rfl) jO ?_
   (iterate 4 ((first|refine ty ?_|refine tn ?_);try simp only[pl]))
   refine xq ?_;refine wpAnyH_ready (rs:=[1,3]) (by kernel_rfl) (by simp) (zn rfl (fun K hK=>?_) (zn rfl (fun K hK=>?_) AllReadyH.nil))
   .go_simp;refine hK.out _ _ jO (fun _=>?_);clear hK K;refine jx 3 (fun K hK=>?_);go_simp;refine(Km _ x _ (HH.out.below ZQ.drew)).mono ?_;rintro e w4 ⟨⟨p4,zgz,rfl,Mp,BI,rM⟩,ur⟩;have B3:B<W3.heap.size:=z8 W3 _ o0;have XE:q<W3.heap.size:=z8 W3 _ q1;have a0:=(ur.cell (p:=⟨B,0,none⟩) B3).trans jO.1;have a1:=(ur.cell (p:=⟨B,1,none⟩) B3).trans jO.2.1;have a2:=(ur.cell (p:=⟨B,2,none⟩) B3).trans jO.2.2;have p1:=(ur.cell (p:=⟨q,1,none⟩) XE).trans q1;have p0:=(ur.cell (p:=⟨q,0,none⟩) XE).trans q0;have p2:=(ur.cell (p:=⟨q,2,none⟩) XE).trans q2;have x0:=(ur.frozen (p:=⟨q,0,none⟩) XE).trans y0;have x1:=(ur.frozen (p:=⟨q,1,none⟩) XE).trans y1;have x2:=(ur.frozen (p:=⟨q,2,none⟩) XE).trans y2;have VU:=fR (zP T9) ur;have Jw:=(show dC W3.drew (B+1) from⟨Kb.c0,Kb.c1,Kb.c2,Kb.z0,Kb.z1,Kb.z2,Kb.lt⟩).below ur;have dO:Below w.heap.size w w4:=ZQ.drew.trans (ur.mono ZQ.size);have Ks:W3.heap.size<=w4.heap.size:=ur.size;refine hK.out _ _ ⟨a0,a1,a2⟩ (fun _=>?_);clear hK K jO o0 o1 o2 q0 q1 q2 y0 y1 y2 T9 Kb ur;refine jx 4 (fun K hK=>?_);rw[if_pos (by rfl)];obtain⟨i,hi,hz,h2,h3⟩:=vx.info;refine wp_append_own w4 _ _ 48 rfl w1.heap.size 5 i _ 1 1 vx.under hi hz h2 h3 vx.Ua vx.pos _ _ _ rfl VU p4 x.2.length zgz (vz x.2) rfl (by simp[vz]) (D9 rM) (M6 x.2)
      (by unfold maxLen;have:=qA 9 r (by omega);omega) (by have:=qA 9 r (by omega);omega) (by have:=HQ.out;omega) ?_
    intro v5 w5 jo qm _;have sf:some B≠(zE (some ⟨g2,0,none⟩) (xH r).length uL).ownBlock:=fun e=>by simp[zj] at e;have:=HBq.out;omega
    have Pb:some q≠(zE (some ⟨g2,0,none⟩) (xH r).length uL).ownBlock:=fun e=>by simp[zj] at e;have:=HQ.out;omega
    have lu:some (B+1)≠(zE (some ⟨g2,0,none⟩) (xH r).length uL).ownBlock:=fun e=>by
     simp[zj] at e;have xG:=S5.out;have:=HBq.out;omega
    have gx:0<(xH r).length+x.2.length:=by have:=zm.2 (bV r);omega
    obtain⟨g5,fx,rfl,yed,yeb,_⟩:=vZ jo gx;have b0:=qm.cell a0 sf;have b1:=qm.cell a1 sf;have b2:=qm.cell a2 sf;have r0:=qm.cell p0 Pb;have r1:=qm.cell p1 Pb;have r2:=qm.cell p2 Pb;have Wb:q<w4.heap.size:=z8 w4 _ p0;have f0:=(zv (a:=⟨q,0,none⟩) (qm.block q Wb Pb)).trans x0;have f1:=(zv (a:=⟨q,1,none⟩) (qm.block q Wb Pb)).trans x1;have f2:=(zv (a:=⟨q,2,none⟩) (qm.block q Wb Pb)).trans x2;have Ry:=Jw.grown qm lu;have lj:Below w.heap.size w w5:=dO.grown qm dO.size (fun k hk=>by have Nx:g2=k:=zV hk;have:=je.1;omega);have yi0:B+1<q:=by have:=S5.out;have:=HBq.out;have:=HQ.out;omega
    have hBw:w.heap.size<=B:=by have:=HBq.out;omega
    simp only[Act.put,zS,zo,zr];refine hK.out _ _ ⟨b0,b1,b2⟩ (fun _=>?_);clear hK K a0 a1 a2 p0 p1 p2 x0 x1 x2 Jw dO VU rM qm sf Pb lu hi hz;refine VA [7] 3 ⟨b0,b1,b2⟩ ?_;(iterate 1 ((first|refine ty ?_|refine tn ?_);try simp only[pl]))
    refine xq ?_;refine jx 8 (fun K hK=>?_);go_simp;have yi1:¬q=B:=by omega
    refine hK.out _ _ ⟨by rw[World.cell?_setCell_other (h:=by first|(simp;done)|(simp;omega))];exact b0,by rw[World.cell?_setCell_other (h:=by first|(simp;done)|(simp;omega))];exact b1,by rw[World.cell?_setCell_other (h:=by first|(simp;done)|(simp;omega))];exact b2⟩ (fun _=>?_);clear hK K;have t0:(w5.setCell ⟨q,1,none⟩ (.slice (some ⟨g5,0,none⟩) ((xH r).length+x.2.length) fx)).cell? ⟨q,0,none⟩=some (.bool false):=by rw[World.cell?_setCell_other (h:=by simp)];exact r0
    have t1:(w5.setCell ⟨q,1,none⟩ (.slice (some ⟨g5,0,none⟩) ((xH r).length+x.2.length) fx)).cell? ⟨q,1,none⟩=some (.slice (some ⟨g5,0,none⟩) ((xH r).length+x.2.length) fx):=by rw[zk (h:=r1)]
    have t2:(w5.setCell ⟨q,1,none⟩ (.slice (some ⟨g5,0,none⟩) ((xH r).length+x.2.length) fx)).cell? ⟨q,2,none⟩=some (.int .i64 0):=by rw[zy (h:=by simp)];exact r2
    have u2:(w5.setCell ⟨q,1,none⟩ (.slice (some ⟨g5,0,none⟩) ((xH r).length+x.2.length) fx)).frozen? ⟨q,2,none⟩=false:=by simpa using f2
    have c0:(w5.setCell ⟨q,1,none⟩ (.slice (some ⟨g5,0,none⟩) ((xH r).length+x.2.length) fx)).cell? ⟨B,0,none⟩=some (.bool b):=by rw[zy (h:=by first|(simp;done)|(simp;omega))];exact b0
    have c1:(w5.setCell ⟨q,1,none⟩ (.slice (some ⟨g5,0,none⟩) ((xH r).length+x.2.length) fx)).cell? ⟨B,1,none⟩=some (.slice (some ⟨g,go,none⟩) (x.1.length+x.2.length) cap):=by rw[zy (h:=by first|(simp;done)|(simp;omega))];exact b1
    have c2:(w5.setCell ⟨q,1,none⟩ (.slice (some ⟨g5,0,none⟩) ((xH r).length+x.2.length) fx)).cell? ⟨B,2,none⟩=some (.int .i64 x.2.length):=by rw[zy (h:=by first|(simp;done)|(simp;omega))];exact b2
    have VC:=Ry.set (a:=⟨q,1,none⟩) (by show q≠B+1;omega) (.slice (some ⟨g5,0,none⟩) ((xH r).length+x.2.length) fx);have Yo:=lj.setCell (p:=⟨q,1,none⟩) (show w.heap.size<=q by omega) (.slice (some ⟨g5,0,none⟩) ((xH r).length+x.2.length) fx);have lg:g5≠q:=fun e=>by
     subst e;exact QT jo (bV r) r0
    have K6:=xp (p:=⟨q,1,none⟩) jo (fun e=>lg (by simpa[zj,eq_comm] using e)) (.slice (some ⟨g5,0,none⟩) ((xH r).length+x.2.length) fx);clear b0 b1 b2 r0 r1 r2 f0 f1 f2 Ry lj jo;generalize w5.setCell ⟨q,1,none⟩ (.slice (some ⟨g5,0,none⟩) ((xH r).length+x.2.length) fx)=w6 at *;refine VA [9] 1 ⟨c0,c1,c2⟩ ?_;(iterate 1 ((first|refine ty ?_|refine tn ?_);try simp only[pl]))
    refine xq ?_;refine jx 10 (fun K hK=>?_);go_simp;refine hK.out _ _ ⟨by rw[World.cell?_setCell_other (h:=by first|(simp;done)|(simp;omega))];exact c0,by rw[World.cell?_setCell_other (h:=by first|(simp;done)|(simp;omega))];exact c1,by rw[World.cell?_setCell_other (h:=by first|(simp;done)|(simp;omega))];exact c2⟩ (fun _=>?_);clear hK K;have d0:(w6.setCell ⟨q,2,none⟩ (.int .i64 x.2.length)).cell? ⟨q,0,none⟩=some (.bool false):=by rw[World.cell?_setCell_other (h:=by simp)];exact t0
    have d1:(w6.setCell ⟨q,2,none⟩ (.int .i64 x.2.length)).cell? ⟨q,1,none⟩=some (.slice (some ⟨g5,0,none⟩) ((xH r).length+x.2.length) fx):=by rw[zy (h:=by simp)];exact t1
    have d2:(w6.setCell ⟨q,2,none⟩ (.int .i64 x.2.length)).cell? ⟨q,2,none⟩=some (.int .i64 x.2.length):=by rw[zk (h:=t2)]
    have Gw:=VC.set (a:=⟨q,2,none⟩) (by show q≠B+1;omega) (.int .i64 x.2.length);have Kc:=Yo.setCell (p:=⟨q,2,none⟩) (show w.heap.size<=q by omega) (.int .i64 x.2.length);have ho7:=xp (p:=⟨q,2,none⟩) K6 (fun e=>lg (by simpa[zj,eq_comm] using e)) (.int .i64 x.2.length);clear t0 t1 t2 u2 c0 c1 c2 VC Yo K6;generalize w6.setCell ⟨q,2,none⟩ (.int .i64 x.2.length)=w7 at *;refine b7 ?_ _;have e0:=Gw.c0;have e1:=Gw.c1;have e2:=Gw.c2;have z0:=Gw.z0;have z1:=Gw.z1;have z2:=Gw.z2;have wz:=z7 ho7;have HR7:=z7 Gw;clear ho7 Gw;go_wp2;refine bodyPost_ret (v := .agg #[.bool false,.slice (some ⟨g5,0,none⟩) ((xH r).length+x.2.length) fx,.int .i64 x.2.length]) ?_ rfl ?_
    .simp[results,results183,go_sem,e0,e1,e2]
    rw[<-HR.out];refine gC (w:=w) ?_ HR7.out (by omega) Kc;have hdd:vz (xH r)++vz x.2=vz (xH r++x.2):=by simp[vz]
    have AR:=wz.out;rw[hdd] at AR;have qc:=qA 9 r (by omega);exact VK (w:=w) (x:=(xH r,x.2)) rfl (by simp) (gp AR (by omega)) ⟨Xo r,HO.out.Tn,bV r,by show(xH r).length<=100;omega,Pr⟩
   .skip
    go_simp;refine(Km _ x _ (HH.out.below ZQ.drew)).mono ?_;rintro e w4 ⟨⟨p4,zgz,rfl,Mp,BI,rM⟩,ur⟩;have B3:B<W3.heap.size:=z8 W3 _ o0;have XE:q<W3.heap.size:=z8 W3 _ q1;have a0:=(ur.cell (p:=⟨B,0,none⟩) B3).trans jO.1;have a1:=(ur.cell (p:=⟨B,1,none⟩) B3).trans jO.2.1;have a2:=(ur.cell (p:=⟨B,2,none⟩) B3).trans jO.2.2;have p1:=(ur.cell (p:=⟨q,1,none⟩) XE).trans q1;have p0:=(ur.cell (p:=⟨q,0,none⟩) XE).trans q0;have p2:=(ur.cell (p:=⟨q,2,none⟩) XE).trans q2;have x0:=(ur.frozen (p:=⟨q,0,none⟩) XE).trans y0;have x1:=(ur.frozen (p:=⟨q,1,none⟩) XE).trans y1;have x2:=(ur.frozen (p:=⟨q,2,none⟩) XE).trans y2;have VU:=fR (zP T9) ur;have Jw:=(show dC W3.drew (B+1) from⟨Kb.c0,Kb.c1,Kb.c2,Kb.z0,Kb.z1,Kb.z2,Kb.lt⟩).below ur;have dO:Below w.heap.size w w4:=ZQ.drew.trans (ur.mono ZQ.size);have Ks:W3.heap.size<=w4.heap.size:=ur.size;refine hK.out _ _ ⟨a0,a1,a2⟩ (fun _=>?_);clear hK K jO o0 o1 o2 q0 q1 q2 y0 y1 y2 T9 Kb ur;refine jx 1 (fun K hK=>?_);go_simp;refine hK.out _ _ ⟨a0,a1,a2⟩ (fun _=>?_);clear hK K;refine jx 4 (fun K hK=>?_);rw[if_pos (by rfl)];obtain⟨i,hi,hz,h2,h3⟩:=vx.info;refine wp_append_own w4 _ _ 48 rfl w1.heap.size 5 i _ 1 1 vx.under hi hz h2 h3 vx.Ua vx.pos _ _ _ rfl VU p4 x.2.length zgz (vz x.2) rfl (by simp[vz]) (D9 rM) (M6 x.2)
      (by unfold maxLen;have:=qA 9 r (by omega);omega) (by have:=qA 9 r (by omega);omega) (by have:=HQ.out;omega) ?_
    intro v5 w5 jo qm _;have sf:some B≠(zE (some ⟨g2,0,none⟩) (xH r).length uL).ownBlock:=fun e=>by simp[zj] at e;have:=HBq.out;omega
    have Pb:some q≠(zE (some ⟨g2,0,none⟩) (xH r).length uL).ownBlock:=fun e=>by simp[zj] at e;have:=HQ.out;omega
    have lu:some (B+1)≠(zE (some ⟨g2,0,none⟩) (xH r).length uL).ownBlock:=fun e=>by
     simp[zj] at e;have xG:=S5.out;have:=HBq.out;omega
    have gx:0<(xH r).length+x.2.length:=by have:=zm.2 (bV r);omega
    obtain⟨g5,fx,rfl,yed,yeb,_⟩:=vZ jo gx;have b0:=qm.cell a0 sf;have b1:=qm.cell a1 sf;have b2:=qm.cell a2 sf;have r0:=qm.cell p0 Pb;have r1:=qm.cell p1 Pb;have r2:=qm.cell p2 Pb;have Wb:q<w4.heap.size:=z8 w4 _ p0;have f0:=(zv (a:=⟨q,0,none⟩) (qm.block q Wb Pb)).trans x0;have f1:=(zv (a:=⟨q,1,none⟩) (qm.block q Wb Pb)).trans x1;have f2:=(zv (a:=⟨q,2,none⟩) (qm.block q Wb Pb)).trans x2;have Ry:=Jw.grown qm lu;have lj:Below w.heap.size w w5:=dO.grown qm dO.size (fun k hk=>by have Nx:g2=k:=zV hk;have:=je.1;omega);have yi0:B+1<q:=by have:=S5.out;have:=HBq.out;have:=HQ.out;omega
    have hBw:w.heap.size<=B:=by have:=HBq.out;omega
    simp only[Act.put,zS,zo,zr];refine hK.out _ _ ⟨b0,b1,b2⟩ (fun _=>?_);clear hK K a0 a1 a2 p0 p1 p2 x0 x1 x2 Jw dO VU rM qm sf Pb lu hi hz;refine VA [7] 3 ⟨b0,b1,b2⟩ ?_;(iterate 1 ((first|refine ty ?_|refine tn ?_);try simp only[pl]))
    refine xq ?_;refine jx 8 (fun K hK=>?_);go_simp;have yi1:¬q=B:=by omega
    refine hK.out _ _ ⟨by rw[World.cell?_setCell_other (h:=by first|(simp;done)|(simp;omega))];exact b0,by rw[World.cell?_setCell_other (h:=by first|(simp;done)|(simp;omega))];exact b1,by rw[World.cell?_setCell_other (h:=by first|(simp;done)|(simp;omega))];exact b2⟩ (fun _=>?_);clear hK K;have t0:(w5.setCell ⟨q,1,none⟩ (.slice (some ⟨g5,0,none⟩) ((xH r).length+x.2.length) fx)).cell? ⟨q,0,none⟩=some (.bool false):=by rw[World.cell?_setCell_other (h:=by simp)];exact r0
    have t1:(w5.setCell ⟨q,1,none⟩ (.slice (some ⟨g5,0,none⟩) ((xH r).length+x.2.length) fx)).cell? ⟨q,1,none⟩=some (.slice (some ⟨g5,0,none⟩) ((xH r).length+x.2.length) fx):=by rw[zk (h:=r1)]
    have t2:(w5.setCell ⟨q,1,none⟩ (.slice (some ⟨g5,0,none⟩) ((xH r).length+x.2.length) fx)).cell? ⟨q,2,none⟩=some (.int .i64 0):=by rw[zy (h:=by simp)];exact r2
    have u2:(w5.setCell ⟨q,1,none⟩ (.slice (some ⟨g5,0,none⟩) ((xH r).length+x.2.length) fx)).frozen? ⟨q,2,none⟩=false:=by simpa using f2
    have c0:(w5.setCell ⟨q,1,none⟩ (.slice (some ⟨g5,0,none⟩) ((xH r).length+x.2.length) fx)).cell? ⟨B,0,none⟩=some (.bool b):=by rw[zy (h:=by first|(simp;done)|(simp;omega))];exact b0
    have c1:(w5.setCell ⟨q,1,none⟩ (.slice (some ⟨g5,0,none⟩) ((xH r).length+x.2.length) fx)).cell? ⟨B,1,none⟩=some (.slice (some ⟨g,go,none⟩) (x.1.length+x.2.length) cap):=by rw[zy (h:=by first|(simp;done)|(simp;omega))];exact b1
    have c2:(w5.setCell ⟨q,1,none⟩ (.slice (some ⟨g5,0,none⟩) ((xH r).length+x.2.length) fx)).cell? ⟨B,2,none⟩=some (.int .i64 x.2.length):=by rw[zy (h:=by first|(simp;done)|(simp;omega))];exact b2
    have VC:=Ry.set (a:=⟨q,1,none⟩) (by show q≠B+1;omega) (.slice (some ⟨g5,0,none⟩) ((xH r).length+x.2.length) fx);have Yo:=lj.setCell (p:=⟨q,1,none⟩) (show w.heap.size<=q by omega) (.slice (some ⟨g5,0,none⟩) ((xH r).length+x.2.length) fx);have lg:g5≠q:=fun e=>by
     subst e;exact QT jo (bV r) r0
    have K6:=xp (p:=⟨q,1,none⟩) jo (fun e=>lg (by simpa[zj,eq_comm] using e)) (.slice (some ⟨g5,0,none⟩) ((xH r).length+x.2.length) fx);clear b0 b1 b2 r0 r1 r2 f0 f1 f2 Ry lj jo;generalize w5.setCell ⟨q,1,none⟩ (.slice (some ⟨g5,0,none⟩) ((xH r).length+x.2.length) fx)=w6 at *;refine VA [9] 1 ⟨c0,c1,c2⟩ ?_;(iterate 1 ((first|refine ty ?_|refine tn ?_);try simp only[pl]))
    refine xq ?_;refine jx 10 (fun K hK=>?_);go_simp;refine hK.out _ _ ⟨by rw[World.cell?_setCell_other (h:=by first|(simp;done)|(simp;omega))];exact c0,by rw[World.cell?_setCell_other (h:=by first|(simp;done)|(simp;omega))];exact c1,by rw[World.cell?_setCell_other (h:=by first|(simp;done)|(simp;omega))];exact c2⟩ (fun _=>?_);clear hK K;have d0:(w6.setCell ⟨q,2,none⟩ (.int .i64 x.2.length)).cell? ⟨q,0,none⟩=some (.bool false):=by rw[World.cell?_setCell_other (h:=by simp)];exact t0
    have d1:(w6.setCell ⟨q,2,none⟩ (.int .i64 x.2.length)).cell? ⟨q,1,none⟩=some (.slice (some ⟨g5,0,none⟩) ((xH r).length+x.2.length) fx):=by rw[zy (h:=by simp)];exact t1
    have d2:(w6.setCell ⟨q,2,none⟩ (.int .i64 x.2.length)).cell? ⟨q,2,none⟩=some (.int .i64 x.2.length):=by rw[zk (h:=t2)]
    have Gw:=VC.set (a:=⟨q,2,none⟩) (by show q≠B+1;omega) (.int .i64 x.2.length);have Kc:=Yo.setCell (p:=⟨q,2,none⟩) (show w.heap.size<=q by omega) (.int .i64 x.2.length);have ho7:=xp (p:=⟨q,2,none⟩) K6 (fun e=>lg (by simpa[zj,eq_comm] using e)) (.int .i64 x.2.length);clear t0 t1 t2 u2 c0 c1 c2 VC Yo K6;generalize w6.setCell ⟨q,2,none⟩ (.int .i64 x.2.length)=w7 at *;refine b7 ?_ _;have e0:=Gw.c0;have e1:=Gw.c1;have e2:=Gw.c2;have z0:=Gw.z0;have z1:=Gw.z1;have z2:=Gw.z2;have wz:=z7 ho7;have HR7:=z7 Gw;clear ho7 Gw;go_wp2;refine bodyPost_ret (v := .agg #[.bool false,.slice (some ⟨g5,0,none⟩) ((xH r).length+x.2.length) fx,.int .i64 x.2.length]) ?_ rfl ?_
    .simp[results,results183,go_sem,e0,e1,e2]
    rw[<-HR.out];refine gC (w:=w) ?_ HR7.out (by omega) Kc;have hdd:vz (xH r)++vz x.2=vz (xH r++x.2):=by simp[vz]
    have AR:=wz.out;rw[hdd] at AR;have qc:=qA 9 r (by omega);exact VK (w:=w) (x:=(xH r,x.2)) rfl (by simp) (gp AR (by omega)) ⟨Xo r,HO.out.Tn,bV r,by show(xH r).length<=100;omega,Pr⟩
def jd(lo hi:Nat)(w:World)(v:Value)(T:qT):Prop :=
 ∃ k cap,v = .func (.func k) #[] cap/\(∀ args w,(callFunc k args).run Tryz.prog w = .ok (.enter k args) w) /\
  ∀ W,xr lo hi w W->∀ nv x,uP W nv x->Calls Tryz.prog k (#[nv]++cap) W fun e W'=>e = .returned (.bool (T x))/\Below W.heap.size W W'
def WH(lo hi:Nat)(w:World)(v:Value)(F:Dg->Dg):Prop :=
 ∃ k cap,v = .func (.func k) #[] cap/\(∀ args w,(callFunc k args).run Tryz.prog w = .ok (.enter k args) w) /\
  ∀ W,xr lo hi w W->∀ nv x,uP W nv x->Calls Tryz.prog k (#[nv]++cap) W (kx (F x) W)
theorem jd.keep{lo hi lo' hi':Nat}{w w':World}{v:Value}{T:qT}(h:jd lo hi w v T)(hk:xr lo hi w w')(h1:lo'<=lo)(h2:hi<=hi'):jd lo' hi' w' v T:=by
 obtain⟨k,cap,hv,he,hc⟩:=h;exact⟨k,cap,hv,he,fun W hW=>hc W (hW.via hk h1 h2)⟩
theorem WH.keep{lo hi lo' hi':Nat}{w w':World}{v:Value}{F:Dg->Dg}(h:WH lo hi w v F)(hk:xr lo hi w w')(h1:lo'<=lo)(h2:hi<=hi'):WH lo' hi' w' v F:=by
 obtain⟨k,cap,hv,he,hc⟩:=h;exact⟨k,cap,hv,he,fun W hW=>hc W (hW.via hk h1 h2)⟩
theorem WI(v:Value)(x:Dg)(a b:Nat)(br:Bool)(pa pb pc:Nat)(w:World)(h:uP w v x)(ha:a<=1000000000)(hb:b<=1000000000)(ca:w.cell? ⟨pa,0,none⟩=some (.int .i64 a))(cb:w.cell? ⟨pb,0,none⟩=some (.int .i64 b))(cc:w.cell? ⟨pc,0,none⟩=some (.bool br)) :
  Calls Tryz.prog 247 #[v,.pointer (some ⟨pa,0,none⟩),.pointer (some ⟨pb,0,none⟩),.pointer (some ⟨pc,0,none⟩)] w fun e w'=>e = .returned (.bool (gD a b br x))/\Below w.heap.size w w':=by
 have hC:=fun W m (hW:uP W v x) (hm:m<=1000000000)=>JK v x m W hW hm
 have hK:=fun W (hW:uP W v x)=>Fa v x W hW
 obtain⟨r,hr⟩:=xX (gD a b br x);rw[hr];unfold gD at hr;obtain⟨c1,qK⟩:∃ c,KI x a=c:=⟨_,rfl⟩;obtain⟨c2,jT⟩:∃ c,KI x b=c:=⟨_,rfl⟩;obtain⟨k,hk⟩:=xX (we x.2);have h1:=fun W (hW:uP W v x)=>hC W a hW ha
 have h2:=fun W (hW:uP W v x)=>hC W b hW hb
 rw[qK,jT,hk] at hr;simp only[qK] at h1;simp only[jT] at h2;simp only[hk] at hK;have H1:=z7 h1;have H2:=z7 h2;have HK:=z7 hK;have HH:=z7 h;have HR:=z7 hr;obtain⟨b',g,go,cap,rfl,_,_,_,_,_⟩:=h;clear hC hK h1 h2 hr qK jT hk;have F:∃ W,W=w.alloc (.cells #[.bool b',.slice (some ⟨g,go,none⟩) (x.1.length+x.2.length) cap,.int .i64 x.2.length] 97)/\Below w.heap.size w W/\W.heap.size=w.heap.size+1/\W.cell? ⟨w.heap.size,0,none⟩=some (.bool b')/\W.cell? ⟨w.heap.size,1,none⟩=some (.slice (some ⟨g,go,none⟩) (x.1.length+x.2.length) cap)/\W.cell? ⟨w.heap.size,2,none⟩=some (.int .i64 x.2.length) /\
   W.cell? ⟨pa,0,none⟩=some (.int .i64 a)/\W.cell? ⟨pb,0,none⟩=some (.int .i64 b)/\W.cell? ⟨pc,0,none⟩=some (.bool br) :=
  ⟨_,rfl,(zX _ _).alloc (zx _) _,by simp,by go_simp,by go_simp,by go_simp,by rw[zY _ _ _ (by rw[ca];rfl)];exact ca,by rw[zY _ _ _ (by rw[cb];rfl)];exact cb,by rw[zY _ _ _ (by rw[cc];rfl)];exact cc⟩
 obtain⟨W,hW,jB,hs,d0,d1,d2,da,db,dc⟩:=F;have RP:=z7 (HH.out.below jB);rw[hW] at da db dc;go_enter func247,ntmps247;go_wp2_with fail;rw[<-hW] at da db dc |-
 clear hW ca cb cc;refine(H1.out _ RP.out).mono ?_;rintro e w1 ⟨rfl,xG⟩;have xB:w.heap.size<W.heap.size:=by omega
 have e0:=(xG.cell (p:=⟨w.heap.size,0,none⟩) xB).trans d0;have e1:=(xG.cell (p:=⟨w.heap.size,1,none⟩) xB).trans d1;have e2:=(xG.cell (p:=⟨w.heap.size,2,none⟩) xB).trans d2;have eb:=(xG.cell (p:=⟨pb,0,none⟩) (z8 W _ db)).trans db;have ec:=(xG.cell (p:=⟨pc,0,none⟩) (z8 W _ dc)).trans dc;have Jp:Below w.heap.size w w1:=jB.trans (xG.mono (by omega));have HN1:=z7 (RP.out.below xG);have pM:w.heap.size<w1.heap.size:=z8 w1 _ e0;clear d0 d1 d2 da db dc xG;by_cases g1:0<=c1
 .have g1':decide (0<=c1)=true:=decide_eq_true g1;have hr:=HR.out;rw[g1',zc] at hr;have fI:=z7 hr;clear hr;go_wp2_with fail;refine(H2.out _ HN1.out).mono ?_;rintro e w2 ⟨rfl,xJ⟩;have f0:=(xJ.cell (p:=⟨w.heap.size,0,none⟩) pM).trans e0;have f1:=(xJ.cell (p:=⟨w.heap.size,1,none⟩) pM).trans e1;have f2:=(xJ.cell (p:=⟨w.heap.size,2,none⟩) pM).trans e2;have fc:=(xJ.cell (p:=⟨pc,0,none⟩) (z8 w1 _ ec)).trans ec;have ZZ:Below w.heap.size w w2:=Jp.trans (xJ.mono (by omega));have nL:=z7 (HN1.out.below xJ);clear e0 e1 e2 eb ec xJ;by_cases g2:c2<=0
  .have ow:decide (c2<=0)=true:=decide_eq_true g2;have hr:=fI.out;rw[ow,zc] at hr;have Jh:=z7 hr;clear hr
   cases br
   .go_wp2_with fail;refine(HK.out _ nL.out).mono ?_;rintro e w3 ⟨rfl,ub⟩;have yi4:Below w.heap.size w w3:=ZZ.trans (ub.mono ZZ.size);go_wp2;go_ret;exact⟨by rw[<-Jh.out];rfl,yi4⟩
   .go_wp2;go_ret;exact⟨by rw[<-Jh.out];rfl,ZZ⟩
  .have ow:decide (c2<=0)=false:=decide_eq_false g2;have hr:=fI.out;rw[ow,zW] at hr;have Jh:=z7 hr;clear hr;go_wp2;go_ret;exact⟨by rw[<-Jh.out];rfl,ZZ⟩
 .have g1':decide (0<=c1)=false:=decide_eq_false g1;have hr:=HR.out;rw[g1',zW] at hr;have fI:=z7 hr;clear hr;go_wp2;go_ret;exact⟨by rw[<-fI.out];rfl,Jp⟩
theorem QW(a b:Nat)(br:Bool)(w:World)(ha:a<=1000000000)(hb:b<=1000000000) :
  Calls Tryz.prog 221 #[.int .i64 a,.int .i64 b,.bool br] w fun e w'=>(∃ v,e = .returned v/\jd w.heap.size w'.heap.size w' v (gD a b br))/\Below w.heap.size w w':=by
 have Nv:∀ (fn:Fn) (first cap:Array Value) (w:World),(zD fn first cap).run Tryz.prog w = .ok (.func fn first cap) w:=fun _ _ _ _=>rfl
 go_enter func221,ntmps221;go_wp2;go_ret;have hs:(((w.alloc (.cells #[.int .i64 a] 3)).alloc (.cells #[.int .i64 b] 3)).alloc (.cells #[.bool br] 4)).heap.size=w.heap.size+3:=by simp
 refine⟨⟨_,rfl,247,_,rfl,fun args w=>enters_of func247 (by kernel_rfl) rfl args w,fun W hW nv x hx=>?_⟩,(((zX _ _).alloc (zx _) _).alloc (by simp) _).alloc (by simp;omega) _⟩;refine WI nv x a b br _ _ _ W hx ha hb ((hW.cell (zx _) ?_).trans ?_) ((hW.cell ?_ ?_).trans ?_) ((hW.cell ?_ ?_).trans ?_);all_goals first|(show w.heap.size<=w.heap.size+1;omega)|(show w.heap.size<=w.heap.size+1+1;omega)|(rw[hs];simp;done)|(rw[hs];simp;omega)|(show w.heap.size<=_;simp;done)|(show w.heap.size<=_;omega)|(go_simp;done)
theorem PZ(v:Value)(q:Nat)(w:World)(nv:Value)(x:Dg)(T:qT)(lo hi:Nat)(h:jd lo hi w v T)(Z2:hi<=w.heap.size)(hn:uP w nv x)(cs:Array Value)(dT:nv = .agg cs)
  (hc:∀ j u,cs[j]? = some u->w.cell? ⟨q,j,none⟩=some u) :
  Calls Tryz.prog 178 #[v,.pointer (some ⟨q,0,none⟩)] w fun e w'=>e = .returned (.bool (T x))/\Below w.heap.size w w':=by
 have HN:=z7 hn;obtain⟨b,g,go,cap,n,k,rfl⟩:=hn.form
 cases dT;have c0:=hc 0 _ rfl;have c1:=hc 1 _ rfl;have c2:=hc 2 _ rfl;obtain⟨K,cp,rfl,Dc,vu⟩:=h;have hW:=vu w (xW Z2) _ x HN.out;have HW:=z7 hW;clear vu hW hc;go_enter func178,ntmps178;go_wp2_with fail;refine HW.out.mono ?_;rintro e w1 ⟨rfl,hb⟩;go_wp2;go_ret;exact⟨rfl,hb⟩
def Zv(lo hi:Nat)(w:World)(a:Option Addr)(Ts:List qT):Prop :=
 ∀ j (h:j<Ts.length),∃ b v,a=some b/\w.cell? (b.add j)=some v/\lo<=b.block/\b.block<hi/\jd lo hi w v Ts[j]
theorem Zv.keep{lo hi lo' hi':Nat}{w w':World}{a:Option Addr}{Ts:List qT}(h:Zv lo hi w a Ts)(hk:xr lo hi w w')(h1:lo'<=lo)(h2:hi<=hi'):Zv lo' hi' w' a Ts:=fun j hj=>by
 obtain⟨b,v,e1,e2,e3,e4,e5⟩:=h j hj;exact⟨b,v,e1,by rw[hk.cell (p:=b.add j) (by rw[addr_add];exact e3) (by rw[addr_add];exact e4)];exact e2,by omega,by omega,e5.keep hk h1 h2⟩
structure Ee(w:World)(q:Nat)(nv:Value):Prop where
 lt:q<w.heap.size
 cells:∃ b s k,nv = .agg #[b,s,k]/\w.cell? ⟨q,0,none⟩=some b/\w.cell? ⟨q,1,none⟩=some s/\w.cell? ⟨q,2,none⟩=some k
theorem Ee.below{w w':World}{q:Nat}{nv:Value}(h:Ee w q nv)(hb:Below w.heap.size w w'):Ee w' q nv:=by
 obtain⟨hl,b,s,k,h1,h2,h3,h4⟩:=h;exact⟨zt hl hb.size,b,s,k,h1,(hb.cell hl).trans h2,(hb.cell hl).trans h3,(hb.cell hl).trans h4⟩
theorem PY(v:Value)(q:Nat)(w:World)(nv:Value)(x:Dg)(T:qT)(lo hi:Nat)(h:jd lo hi w v T)(Z2:hi<=w.heap.size)(hn:uP w nv x)(hb:Ee w q nv) :
  Calls Tryz.prog 178 #[v,.pointer (some ⟨q,0,none⟩)] w fun e w'=>e = .returned (.bool (T x))/\Below w.heap.size w w':=by
 obtain⟨_,b,s,k,h1,h2,h3,h4⟩:=hb;refine PZ v q w nv x T lo hi h Z2 hn #[b,s,k] h1 (fun j u hu=>?_);match j,hu with
 | 0,hu=>cases hu;exact h2
 | 1,hu=>cases hu;exact h3
 | 2,hu=>cases hu;exact h4
 | n+3,hu=>simp at hu
theorem sZ{Ts:List qT}{x:Dg}{k:Nat}(h:k<Ts.length)(hT:Ts[k] x=true):Z3 Ts x=true:=zh.2 ⟨Ts[k],zL h,hT⟩
theorem WL{Ts:List qT}{x:Dg}{k:Nat}(h:k<Ts.length)(h0:Z3 (Ts.take k) x=false)(hT:Ts[k] x=false):Z3 (Ts.take (k+1)) x=false:=by
 unfold Z3 at *;rw[zf h,yz,h0];simp[hT]
theorem PX(Ts:List qT)(a:Option Addr)(c:Nat)(q:Nat)(nv:Value)(x:Dg)(lo hi:Nat)(w:World)(hl:Ts.length<=1000000)(ht:Zv lo hi w a Ts)(Z2:hi<=w.heap.size)(hn:uP w nv x)(hb:Ee w q nv) :
  Calls Tryz.prog 211 #[.slice a Ts.length c,.func (.func 178) #[] #[.pointer (some ⟨q,0,none⟩)]] w
   fun e w'=>(∃ n:Int,e = .returned (.int .i64 n)/\decide (0<=n)=Z3 Ts x)/\Below w.heap.size w w':=by
 have HT:=z7 ht;have HN:=z7 hn;have HB:=z7 hb;clear ht hn hb;go_enter func211,ntmps211;go_wp2;go_loopw [8] (fun i wr=>∃ k:Nat,k<=Ts.length/\i = .int .i64 k/\Z3 (Ts.take k) x=false/\Below w.heap.size w wr) (fun i _=>Ts.length - (intOf i).toNat)
 case atStart=>exact⟨0,zF _,rfl,rfl,zX _ _⟩
 case round =>
  obtain⟨k,hk,rfl,hz,qB⟩:=hrel;have HZ:=z7 hz;clear hz;by_cases xB:k<Ts.length
  .obtain⟨b,v,rfl,hc,h1,h2,hT⟩:=HT.out k xB;have rH:wr.cell? (b.add k)=some v:=by rw[qB.cell (z8 w _ hc)];exact hc
   have hkp:=vK (lo:=lo) qB Z2 Z2;have vu:=PY v q wr nv x Ts[k] lo hi (hT.keep hkp (zx _) (zx _)) (zJ Z2 qB.size) (HN.out.below qB) (HB.out.below qB);have HC:=z7 vu;clear hc vu hT;go_wp2_with fail;refine HC.out.mono ?_;rintro e w1 ⟨rfl,xG⟩;have Zf:=qB.trans (xG.mono qB.size)
   cases S6:Ts[k] x
   .have HF:=z7 (WL xB HZ.out S6);clear S6;go_wp2;go_roundw
    case rel=>exact⟨k+1,by omega,by go_num,HF.out,Zf⟩
    case measure=>simp[intOf];omega
   .have HF:=z7 (sZ xB S6);clear S6;go_wp2;go_ret;exact⟨⟨_,rfl,by rw[HF.out];simp⟩,Zf⟩
  .obtain rfl:k=Ts.length:=by omega
   have hz:=HZ.out;rw[zI] at hz;have HF:=z7 hz;clear hz HZ;go_wp2;go_ret;exact⟨⟨_,rfl,by rw[HF.out];rfl⟩,qB⟩
theorem Bj(Ts:List qT)(a:Option Addr)(c:Nat)(q:Nat)(nv:Value)(x:Dg)(lo hi:Nat)(w:World)(hl:Ts.length<=1000000)(ht:Zv lo hi w a Ts)(Z2:hi<=w.heap.size)(hn:uP w nv x)(hb:Ee w q nv) :
  Calls Tryz.prog 177 #[.slice a Ts.length c,.func (.func 178) #[] #[.pointer (some ⟨q,0,none⟩)]] w
   fun e w'=>e = .returned (.bool (Z3 Ts x))/\Below w.heap.size w w':=by
 have hI:=PX Ts a c q nv x lo hi w hl ht Z2 hn hb;have HI:=z7 hI;clear ht hn hb hI;go_enter func177,ntmps177;go_wp2_with fail;refine HI.out.mono ?_;rintro e w1 ⟨⟨n,rfl,hn⟩,hb⟩;have HF:=z7 hn;clear hn;go_wp2;go_ret;exact⟨by rw[<-HF.out];rfl,hb⟩
theorem WM(Ts:List qT)(a:Option Addr)(c:Nat)(pl:Nat)(nv:Value)(x:Dg)(lo hi:Nat)(w:World)(hl:Ts.length<=1000000)(ht:Zv lo hi w a Ts)(Z2:hi<=w.heap.size)(hn:uP w nv x)(hc:w.cell? ⟨pl,0,none⟩=some (.slice a Ts.length c)) :
  Calls Tryz.prog 176 #[nv,.pointer (some ⟨pl,0,none⟩)] w fun e w'=>e = .returned (.bool (Z3 Ts x))/\Below w.heap.size w w':=by
 have Nv:∀ (fn:Fn) (first cap:Array Value) (w:World),(zD fn first cap).run Tryz.prog w = .ok (.func fn first cap) w:=fun _ _ _ _=>rfl
 have HN:=z7 hn;obtain⟨b',g,go,cap,n',k',rfl⟩:=hn.form;have F:∃ W,W=w.alloc (.cells #[.bool b',.slice (some ⟨g,go,none⟩) n' cap,.int .i64 k'] 97)/\Below w.heap.size w W/\W.heap.size=w.heap.size+1/\Ee W w.heap.size (.agg #[.bool b',.slice (some ⟨g,go,none⟩) n' cap,.int .i64 k'])/\(w.alloc (.cells #[.bool b',.slice (some ⟨g,go,none⟩) n' cap,.int .i64 k'] 97)).cell? ⟨pl,0,none⟩=some (.slice a Ts.length c) :=
  ⟨_,rfl,(zX _ _).alloc (zx _) _,by simp,⟨by simp,_,_,_,rfl,by go_simp,by go_simp,by go_simp⟩,by rw[zY _ _ _ (by rw[hc];rfl)];exact hc⟩
 obtain⟨W,hW,jB,hs,lx,dc⟩:=F;have hC:=Bj Ts a c w.heap.size _ x lo hi W hl (ht.keep (vK jB Z2 Z2) (zx _) (zx _)) (by omega) (HN.out.below jB) lx;have HC:=z7 hC;clear hC ht hn lx;go_enter func176,ntmps176;go_wp2_with fail;rw[<-hW];refine HC.out.mono ?_;rintro e w1 ⟨rfl,hb⟩;have Zf:Below w.heap.size w w1:=jB.trans (hb.mono (by omega));go_wp2;go_ret;exact⟨rfl,Zf⟩
theorem M7(Ts:List qT)(a:Option Addr)(c:Nat)(lo:Nat)(w:World)(hl:Ts.length<=1000000)(Hz:lo<=w.heap.size)(ht:Zv lo w.heap.size w a Ts) :
  Calls Tryz.prog 142 #[.slice a Ts.length c] w fun e w'=>(∃ v,e = .returned v/\jd lo w'.heap.size w' v (Z3 Ts))/\Below w.heap.size w w':=by
 have Nv:∀ (fn:Fn) (first cap:Array Value) (w:World),(zD fn first cap).run Tryz.prog w = .ok (.func fn first cap) w:=fun _ _ _ _=>rfl
 have HT:=z7 ht;clear ht;go_enter func142,ntmps142;go_wp2;go_ret;have hb:Below w.heap.size w (w.alloc (.cells #[.slice a Ts.length c] 305)):=(zX _ _).alloc (zx _) _;refine⟨⟨_,rfl,176,_,rfl,fun args w=>enters_of func176 (by kernel_rfl) rfl args w,fun W hW nv x hx=>?_⟩,hb⟩;have hk:xr lo w.heap.size w W:=hW.via (vK hb (zx _) (zx _)) (zx _) hb.size;refine WM Ts a c _ nv x lo w.heap.size W hl (HT.out.keep hk (zx _) (zx _)) hk.1 hx ((hW.cell Hz (by simp)).trans (by go_simp))
theorem sY{Ts:List qT}{x:Dg}{k:Nat}(h:k<Ts.length)(hT:Ts[k] x=false):allT Ts x=false:=by
 unfold allT;rw[List.all_eq_false];exact⟨Ts[k],zL h,by simp[hT]⟩
theorem WN{Ts:List qT}{x:Dg}{k:Nat}(h:k<Ts.length)(h0:allT (Ts.take k) x=true)(hT:Ts[k] x=true):allT (Ts.take (k+1)) x=true:=by
 unfold allT at *;rw[zf h,List.all_append,h0];simp[hT]
theorem ld(Ts:List qT)(a:Option Addr)(c:Nat)(pl:Nat)(nv:Value)(x:Dg)(lo hi:Nat)(w:World)(hl:Ts.length<=1000000)(ht:Zv lo hi w a Ts)(Z2:hi<=w.heap.size)(hn:uP w nv x)(hc:w.cell? ⟨pl,0,none⟩=some (.slice a Ts.length c)) :
  Calls Tryz.prog 179 #[nv,.pointer (some ⟨pl,0,none⟩)] w fun e w'=>e = .returned (.bool (allT Ts x))/\Below w.heap.size w w':=by
 have HN:=z7 hn;obtain⟨b',g,go,cap,n',k',rfl⟩:=hn.form;have F:∃ W,W=w.alloc (.cells #[.bool b',.slice (some ⟨g,go,none⟩) n' cap,.int .i64 k'] 97)/\Below w.heap.size w W/\W.heap.size=w.heap.size+1/\Ee W w.heap.size (.agg #[.bool b',.slice (some ⟨g,go,none⟩) n' cap,.int .i64 k'])/\(w.alloc (.cells #[.bool b',.slice (some ⟨g,go,none⟩) n' cap,.int .i64 k'] 97)).cell? ⟨pl,0,none⟩=some (.slice a Ts.length c) :=
  ⟨_,rfl,(zX _ _).alloc (zx _) _,by simp,⟨by simp,_,_,_,rfl,by go_simp,by go_simp,by go_simp⟩,by rw[zY _ _ _ (by rw[hc];rfl)];exact hc⟩
 obtain⟨W,hW,jB,hs,lx,dc⟩:=F;have HT:=z7 (ht.keep (vK jB Z2 Z2) (zx _) (zx _));have RP:=z7 (HN.out.below jB);have M8:hi<=W.heap.size:=by omega
 clear ht hn;go_enter func179,ntmps179;go_wp2_with fail;rw[<-hW];clear hW dc hc;obtain⟨B,hB⟩:∃ B,B=w.heap.size:=⟨_,rfl⟩;rw[<-hB] at lx |-
 have Oj:=z7 hB;clear hB;go_loopw [8] (fun i wr=>∃ k:Nat,k<=Ts.length/\i = .int .i64 k/\allT (Ts.take k) x=true/\Below W.heap.size W wr) (fun i _=>Ts.length - (intOf i).toNat)
 case atStart=>exact⟨0,zF _,rfl,rfl,zX _ _⟩
 case round =>
  obtain⟨k,hk,rfl,hz,qB⟩:=hrel;have HZ:=z7 hz;clear hz;have PV:Below w.heap.size w wr:=jB.trans (qB.mono (by omega));by_cases xB:k<Ts.length
  .obtain⟨b,v,rfl,hc,h1,h2,hT⟩:=HT.out k xB;have rH:wr.cell? (b.add k)=some v:=by rw[qB.cell (z8 W _ hc)];exact hc
   have hkp:=vK (lo:=lo) qB M8 M8;obtain⟨K,cp,rfl,Dc,vu⟩:=hT.keep hkp (zx _) (zx _);have Zd:=vu wr (xW (zJ M8 qB.size)) _ x (RP.out.below qB);have HC:=z7 Zd;obtain⟨_,bb,ss,kk,e0,c0,c1,c2⟩:=lx.below qB
   cases e0;clear hc vu Zd hT;go_wp2_with fail;refine HC.out.mono ?_;rintro e w1 ⟨rfl,xG⟩;have Zf:=qB.trans (xG.mono qB.size);have Jp:Below w.heap.size w w1:=PV.trans (xG.mono PV.size)
   cases S6:Ts[k] x
   .have HF:=z7 (sY xB S6);clear S6;go_wp2;go_ret;exact⟨by rw[HF.out];rfl,Jp⟩
   .have HF:=z7 (WN xB HZ.out S6);clear S6;go_wp2;go_roundw
    case rel=>exact⟨k+1,by omega,by go_num,HF.out,Zf⟩
    case measure=>simp[intOf];omega
  .obtain rfl:k=Ts.length:=by omega
   have hz:=HZ.out;rw[zI] at hz;have HF:=z7 hz;clear hz HZ;go_wp2;go_ret;exact⟨by rw[HF.out];rfl,PV⟩
theorem sX(Ts:List qT)(a:Option Addr)(c:Nat)(lo:Nat)(w:World)(hl:Ts.length<=1000000)(Hz:lo<=w.heap.size)(ht:Zv lo w.heap.size w a Ts) :
  Calls Tryz.prog 144 #[.slice a Ts.length c] w fun e w'=>(∃ v,e = .returned v/\jd lo w'.heap.size w' v (allT Ts))/\Below w.heap.size w w':=by
 have Nv:∀ (fn:Fn) (first cap:Array Value) (w:World),(zD fn first cap).run Tryz.prog w = .ok (.func fn first cap) w:=fun _ _ _ _=>rfl
 have HT:=z7 ht;clear ht;go_enter func144,ntmps144;go_wp2;go_ret;have hb:Below w.heap.size w (w.alloc (.cells #[.slice a Ts.length c] 305)):=(zX _ _).alloc (zx _) _;refine⟨⟨_,rfl,179,_,rfl,fun args w=>enters_of func179 (by kernel_rfl) rfl args w,fun W hW nv x hx=>?_⟩,hb⟩;have hk:xr lo w.heap.size w W:=hW.via (vK hb (zx _) (zx _)) (zx _) hb.size;refine ld Ts a c _ nv x lo w.heap.size W hl (HT.out.keep hk (zx _) (zx _)) hk.1 hx ((hW.cell Hz (by simp)).trans (by go_simp))
theorem bE{k:Nat}{F:Dg->Dg}(he:∀ args w,(callFunc k args).run Tryz.prog w = .ok (.enter k args) w)(h:∀ v x w,uP w v x->Calls Tryz.prog k #[v] w (kx (F x) w))(lo hi:Nat)(w:World):WH lo hi w (.func (.func k) #[] #[]) F :=
 ⟨k,#[],rfl,he,fun W _ nv x hx=>h nv x W hx⟩
def lb(r:Option (Dg->Dg))(w:World)(e:Ending)(w':World):Prop :=
 (match r with|none=>e = .returned .nilFunc|some F=>∃ v,e = .returned v/\∀ lo hi W,WH lo hi W v F)/\w=w'
theorem Ei(c:ByteArray)(w:World):Calls Tryz.prog 180 #[.string c] w (lb (uU c.data.toList) w):=by
 have ht:=Tb c;by_cases h1:c.data.toList=[110]
 .have hf:uU c.data.toList=some (fun x=>x):=by unfold uU;rw[if_pos h1]
  rw[hf];have q1:(c.toList==[110])=true:=by rw[ht,h1];decide
  clear ht h1 hf;go_enter func180,ntmps180;go_wp2;go_ret;exact⟨⟨_,rfl,bE (fun args w=>enters_of func212 (by kernel_rfl) rfl args w) (fun v x w h=>rB v x w h)⟩,rfl⟩
 have q1:(c.toList==[110])=false:=by rw[ht];simpa using h1
 by_cases h2:c.data.toList=[105]
 .have hf:uU c.data.toList=some (fun x=>(jR x.1,[])):=by unfold uU;rw[if_neg h1,if_pos h2]
  rw[hf];have q2:(c.toList==[105])=true:=by rw[ht,h2];decide
  clear ht h1 h2 hf;go_enter func180,ntmps180;go_wp2;go_ret;exact⟨⟨_,rfl,bE (fun args w=>enters_of func213 (by kernel_rfl) rfl args w) (fun v x w h=>yak v x w h)⟩,rfl⟩
 have q2:(c.toList==[105])=false:=by rw[ht];simpa using h2
 by_cases h3:c.data.toList=[118]
 .have hf:uU c.data.toList=some (fun x=>(xH x.2.length,[])):=by unfold uU;rw[if_neg h1,if_neg h2,if_pos h3]
  rw[hf];have q3:(c.toList==[118])=true:=by rw[ht,h3];decide
  clear ht h1 h2 h3 hf;go_enter func180,ntmps180;go_wp2;go_ret;exact⟨⟨_,rfl,bE (fun args w=>enters_of func215 (by kernel_rfl) rfl args w) (fun v x w h=>yaq v x w h)⟩,rfl⟩
 have q3:(c.toList==[118])=false:=by rw[ht];simpa using h3
 by_cases h4:c.data.toList=[119]
 .have hf:uU c.data.toList=some (fun x=>(xH (uD x.2).length,[])):=by unfold uU;rw[if_neg h1,if_neg h2,if_neg h3,if_pos h4]
  rw[hf];have q4:(c.toList==[119])=true:=by rw[ht,h4];decide
  clear ht h1 h2 h3 h4 hf;go_enter func180,ntmps180;go_wp2;go_ret;exact⟨⟨_,rfl,bE (fun args w=>enters_of func216 (by kernel_rfl) rfl args w) (fun v x w h=>yaj v x w h)⟩,rfl⟩
 have q4:(c.toList==[119])=false:=by rw[ht];simpa using h4
 by_cases h5:c.data.toList=[102]
 .have hf:uU c.data.toList=some (fun x=>(jR x.2,[])):=by unfold uU;rw[if_neg h1,if_neg h2,if_neg h3,if_neg h4,if_pos h5]
  rw[hf];have q5:(c.toList==[102])=true:=by rw[ht,h5];decide
  clear ht h1 h2 h3 h4 h5 hf;go_enter func180,ntmps180;go_wp2;go_ret;exact⟨⟨_,rfl,bE (fun args w=>enters_of func218 (by kernel_rfl) rfl args w) (fun v x w h=>yag v x w h)⟩,rfl⟩
 have q5:(c.toList==[102])=false:=by rw[ht];simpa using h5
 by_cases h6:c.data.toList=[116]
 .have hf:uU c.data.toList=some (fun x=>(jR (uD x.2),[])):=by unfold uU;rw[if_neg h1,if_neg h2,if_neg h3,if_neg h4,if_neg h5,if_pos h6]
  rw[hf];have q6:(c.toList==[116])=true:=by rw[ht,h6];decide
  clear ht h1 h2 h3 h4 h5 h6 hf;go_enter func180,ntmps180;go_wp2;go_ret;exact⟨⟨_,rfl,bE (fun args w=>enters_of func219 (by kernel_rfl) rfl args w) (fun v x w h=>yaf v x w h)⟩,rfl⟩
 have q6:(c.toList==[116])=false:=by rw[ht];simpa using h6
 have hf:uU c.data.toList=none:=by unfold uU;rw[if_neg h1,if_neg h2,if_neg h3,if_neg h4,if_neg h5,if_neg h6]
 rw[hf];clear ht h1 h2 h3 h4 h5 h6 hf;go_enter func180,ntmps180;go_wp2;go_ret;exact⟨rfl,rfl⟩
theorem M9{W:World}{q:Nat}{p:Addr}{v u0 u1 u2:Value}(h:W.cell? p=some v)(hp:p.block≠q):(((W.setCell ⟨q,0,none⟩ u0).setCell ⟨q,1,none⟩ u1).setCell ⟨q,2,none⟩ u2).cell? p=some v:=by
 refine(zG ?_).trans h;rw[zQ _ _ _ _ hp,zQ _ _ _ _ hp,zQ _ _ _ _ hp]
theorem Mz(nv:Value)(x:Dg)(pw pm:Nat)(wv:Value)(m:Nat)(F:Dg->Dg)(lo hi:Nat)(w:World)(hn:uP w nv x)(hm:m<=1000000000)(By:0<m)(cw:w.cell? ⟨pw,0,none⟩=some wv)(cm:w.cell? ⟨pm,0,none⟩=some (.int .i64 m))(hw:WH lo hi w wv F)(Z2:hi<=w.heap.size) :
  Calls Tryz.prog 182 #[nv,.pointer (some ⟨pw,0,none⟩),.pointer (some ⟨pm,0,none⟩)] w (kx (B8 F m x) w):=by
 have HN:=z7 hn;obtain⟨b,g,go,cap,n',k',rfl⟩:=hn.form;obtain⟨jk,vg⟩:=fS w (.cells #[.bool b,.slice (some ⟨g,go,none⟩) n' cap,.int .i64 k'] 97);have F0:∃ W,W=(w.alloc (.cells #[.bool b,.slice (some ⟨g,go,none⟩) n' cap,.int .i64 k'] 97)).alloc (.cells #[.bool false,.slice none 0 0,.int .i64 0] 97)/\W.cell? ⟨w.heap.size,0,none⟩=some (.bool b)/\W.cell? ⟨w.heap.size,1,none⟩=some (.slice (some ⟨g,go,none⟩) n' cap)/\W.cell? ⟨w.heap.size,2,none⟩=some (.int .i64 k') :=
  ⟨_,rfl,by go_simp,by go_simp,by go_simp⟩
 obtain⟨W,hW,d0,d1,d2⟩:=F0;rw[<-hW] at jk vg;have ew:=(jk.cell (p:=⟨pw,0,none⟩) (z8 w _ cw)).trans cw;have em:=(jk.cell (p:=⟨pm,0,none⟩) (z8 w _ cm)).trans cm;obtain⟨K0,cp,rfl,Dc,vu⟩:=hw.keep (vK jk Z2 Z2) (zx _) (zx _);have HC:=z7 (vu W.drew (show xr lo hi W W.drew from xW (zJ Z2 jk.size)) _ x (HN.out.below jk.drew));have hpw:=z8 w _ cw;have hpm:=z8 w _ cm;dsimp only at hpw hpm;clear vu hn cw cm;go_enter func182,ntmps182;go_wp2_with fail;rw[<-hW];clear hW;obtain⟨B,hB⟩:∃ B,B=w.heap.size:=⟨_,rfl⟩;rw[<-hB] at d0 d1 d2 vg |-
 have HB:=z7 hB;clear hB;have jO:W.drew.cell? ⟨B,0,none⟩=some (.bool b)/\W.drew.cell? ⟨B,1,none⟩=some (.slice (some ⟨g,go,none⟩) n' cap)/\W.drew.cell? ⟨B,2,none⟩=some (.int .i64 k')/\W.drew.cell? ⟨pw,0,none⟩=some (.func (.func K0) #[] cp)/\W.drew.cell? ⟨pm,0,none⟩=some (.int .i64 m):=⟨d0,d1,d2,ew,em⟩;refine ue (fun W':World=>W'.cell? ⟨B,0,none⟩=some (.bool b)/\W'.cell? ⟨B,1,none⟩=some (.slice (some ⟨g,go,none⟩) n' cap)/\W'.cell? ⟨B,2,none⟩=some (.int .i64 k')/\W'.cell? ⟨pw,0,none⟩=some (.func (.func K0) #[] cp)/\W'.cell? ⟨pm,0,none⟩=some (.int .i64 m))
  [0,1,3] 3 (by intro _ _ d _ _ h;cases d<;>exact h) (by kernel_rfl) (by kernel_rfl) jO ?_
 (iterate 3 ((first|refine ty ?_|refine tn ?_);try simp only[pl]))
 refine xq ?_;refine jx 2 (fun K hK=>?_);go_simp;refine HC.out.mono ?_;rintro e w1 ⟨⟨v1,rfl,bO⟩,xG⟩;have xB:∀ {p:Addr} {u:Value},W.cell? p=some u->w1.cell? p=some u:=fun {p u} h=>(xG.cell (z8 W p h)).trans h
 have DA:w1.cell? ⟨B,0,none⟩=some (.bool b)/\w1.cell? ⟨B,1,none⟩=some (.slice (some ⟨g,go,none⟩) n' cap)/\w1.cell? ⟨B,2,none⟩=some (.int .i64 k')/\w1.cell? ⟨pw,0,none⟩=some (.func (.func K0) #[] cp)/\w1.cell? ⟨pm,0,none⟩=some (.int .i64 m):=⟨xB d0,xB d1,xB d2,xB ew,xB em⟩;have VB:=(show dC W.drew (B+1) from⟨vg.c0,vg.c1,vg.c2,vg.z0,vg.z1,vg.z2,vg.lt⟩).below xG;have Jp:Below w.heap.size w w1:=jk.drew.trans (xG.mono jk.size);refine hK.out _ _ DA (fun _=>?_);clear hK K jO xB d0 d1 d2 ew em;have HM:=z7 (sg v1 (F x) m w1 bO hm By);obtain⟨b1,g1,go1,yi5,n1,k1,rfl⟩:=bO.form;clear bO;refine jx 4 (fun K hK=>?_);go_simp;refine HM.out.mono ?_;rintro e w2 ⟨⟨v2,rfl,dN⟩,xJ⟩;have xB:∀ {p:Addr} {u:Value},w1.cell? p=some u->w2.cell? p=some u:=fun {p u} h=>(xJ.cell (z8 w1 p h)).trans h
 have Nq:w2.cell? ⟨B,0,none⟩=some (.bool b)/\w2.cell? ⟨B,1,none⟩=some (.slice (some ⟨g,go,none⟩) n' cap)/\w2.cell? ⟨B,2,none⟩=some (.int .i64 k')/\w2.cell? ⟨pw,0,none⟩=some (.func (.func K0) #[] cp)/\w2.cell? ⟨pm,0,none⟩=some (.int .i64 m):=⟨xB DA.1,xB DA.2.1,xB DA.2.2.1,xB DA.2.2.2.1,xB DA.2.2.2.2⟩;have ZF:=VB.below xJ;have ZZ:Below w.heap.size w w2:=Jp.trans (xJ.mono Jp.size);refine hK.out _ _ Nq (fun _=>?_);clear hK K xB DA VB;have nL:=z7 dN;obtain⟨b2,g2,N1,uL,n2,k2,rfl⟩:=dN.form;clear dN;have c0:=ZF.c0;have c1:=ZF.c1;have c2:=ZF.c2;have z0:=ZF.z0;have z1:=ZF.z1;have z2:=ZF.z2;refine jx 5 (fun K hK=>?_);go_simp;have XF:=HB.out;have e0:=M9 (u0 := .bool b2) (u1 := .slice (some ⟨g2,N1,none⟩) n2 uL) (u2 := .int .i64 k2) Nq.1 (show B≠B+1 by omega);have e1:=M9 (u0 := .bool b2) (u1 := .slice (some ⟨g2,N1,none⟩) n2 uL) (u2 := .int .i64 k2) Nq.2.1 (show B≠B+1 by omega);have e2:=M9 (u0 := .bool b2) (u1 := .slice (some ⟨g2,N1,none⟩) n2 uL) (u2 := .int .i64 k2) Nq.2.2.1 (show B≠B+1 by omega);have e3:=M9 (u0 := .bool b2) (u1 := .slice (some ⟨g2,N1,none⟩) n2 uL) (u2 := .int .i64 k2) Nq.2.2.2.1 (show pw≠B+1 by omega);have e4:=M9 (u0 := .bool b2) (u1 := .slice (some ⟨g2,N1,none⟩) n2 uL) (u2 := .int .i64 k2) Nq.2.2.2.2 (show pm≠B+1 by omega);refine hK.out _ _ ⟨e0,e1,e2,e3,e4⟩ (fun _=>?_);clear hK K e0 e1 e2 e3 e4;refine b7 ?_ _;go_wp2;refine bodyPost_ret (v := .agg #[.bool b2,.slice (some ⟨g2,N1,none⟩) n2 uL,.int .i64 k2]) ?_ rfl ?_
 .simp[results,results182,go_sem,c0,c1,c2]
 exact gC (w:=w) nL.out ZF (by omega) ZZ
theorem QA(nv:Value)(x:Dg)(pi po pn:Nat)(iv ov:Value)(nt:Bool)(T:qT)(F:Dg->Dg)(lo hi:Nat)(w:World)(hn:uP w nv x)(ci:w.cell? ⟨pi,0,none⟩=some iv)(co:w.cell? ⟨po,0,none⟩=some ov)(cn:w.cell? ⟨pn,0,none⟩=some (.bool nt))(hI:jd lo hi w iv T)(hO:WH lo hi w ov F)(Z2:hi<=w.heap.size) :
  Calls Tryz.prog 185 #[nv,.pointer (some ⟨pi,0,none⟩),.pointer (some ⟨po,0,none⟩),.pointer (some ⟨pn,0,none⟩)] w fun e w'=>e = .returned (.bool (T (F x) !=nt))/\Below w.heap.size w w':=by
 have HN:=z7 hn;obtain⟨b,g,go,cap,n',k',rfl⟩:=hn.form;have F0:∃ W,W=w.alloc (.cells #[.bool b,.slice (some ⟨g,go,none⟩) n' cap,.int .i64 k'] 97)/\Below w.heap.size w W/\W.cell? ⟨w.heap.size,0,none⟩=some (.bool b)/\W.cell? ⟨w.heap.size,1,none⟩=some (.slice (some ⟨g,go,none⟩) n' cap)/\W.cell? ⟨w.heap.size,2,none⟩=some (.int .i64 k') :=
  ⟨_,rfl,(zX _ _).alloc (zx _) _,by go_simp,by go_simp,by go_simp⟩
 obtain⟨W,hW,jk,d0,d1,d2⟩:=F0;have ei:=(jk.cell (p:=⟨pi,0,none⟩) (z8 w _ ci)).trans ci;have eo:=(jk.cell (p:=⟨po,0,none⟩) (z8 w _ co)).trans co;have en:=(jk.cell (p:=⟨pn,0,none⟩) (z8 w _ cn)).trans cn;obtain⟨K0,cp,rfl,Dc,vu⟩:=hO.keep (vK jk Z2 Z2) (zx _) (zx _);have HC:=z7 (vu W.drew (show xr lo hi W W.drew from xW (zJ Z2 jk.size)) _ x (HN.out.below jk.drew));obtain⟨K1,rZ,rfl,xzq,lZ⟩:=hI.keep (vK jk Z2 Z2) (zx _) (zx _);have HC1:=z7 lZ;clear vu lZ hn ci co cn;go_enter func185,ntmps185;go_wp2_with fail;rw[<-hW];clear hW;obtain⟨B,hB⟩:∃ B,B=w.heap.size:=⟨_,rfl⟩;rw[<-hB] at d0 d1 d2 |-
 have HB:=z7 hB;clear hB;have jO:W.drew.cell? ⟨B,0,none⟩=some (.bool b)/\W.drew.cell? ⟨B,1,none⟩=some (.slice (some ⟨g,go,none⟩) n' cap)/\W.drew.cell? ⟨B,2,none⟩=some (.int .i64 k')/\W.drew.cell? ⟨pi,0,none⟩=some (.func (.func K1) #[] rZ)/\W.drew.cell? ⟨po,0,none⟩=some (.func (.func K0) #[] cp)/\W.drew.cell? ⟨pn,0,none⟩=some (.bool nt):=⟨d0,d1,d2,ei,eo,en⟩;refine ue (fun W':World=>W'.cell? ⟨B,0,none⟩=some (.bool b)/\W'.cell? ⟨B,1,none⟩=some (.slice (some ⟨g,go,none⟩) n' cap)/\W'.cell? ⟨B,2,none⟩=some (.int .i64 k')/\W'.cell? ⟨pi,0,none⟩=some (.func (.func K1) #[] rZ)/\W'.cell? ⟨po,0,none⟩=some (.func (.func K0) #[] cp)/\W'.cell? ⟨pn,0,none⟩=some (.bool nt))
  [0,1,2,5] 4 (by intro _ _ d _ _ h;cases d<;>exact h) (by kernel_rfl) (by kernel_rfl) jO ?_
 (iterate 4 ((first|refine ty ?_|refine tn ?_);try simp only[pl]))
 refine xq ?_;refine jx 3 (fun K hK=>?_);go_simp;refine HC.out.mono ?_;rintro e w1 ⟨⟨v1,rfl,bO⟩,xG⟩;have xB:∀ {p:Addr} {u:Value},W.cell? p=some u->w1.cell? p=some u:=fun {p u} h=>(xG.cell (z8 W p h)).trans h
 have DA:w1.cell? ⟨B,0,none⟩=some (.bool b)/\w1.cell? ⟨B,1,none⟩=some (.slice (some ⟨g,go,none⟩) n' cap)/\w1.cell? ⟨B,2,none⟩=some (.int .i64 k')/\w1.cell? ⟨pi,0,none⟩=some (.func (.func K1) #[] rZ)/\w1.cell? ⟨po,0,none⟩=some (.func (.func K0) #[] cp)/\w1.cell? ⟨pn,0,none⟩=some (.bool nt):=⟨xB d0,xB d1,xB d2,xB ei,xB eo,xB en⟩;have Jp:Below w.heap.size w w1:=jk.drew.trans (xG.mono jk.size);have hhW:hi<=W.heap.size:=zJ Z2 jk.size;have eP:xr lo hi W w1:=vK (w:=W.drew) xG hhW hhW;refine hK.out _ _ DA (fun _=>?_);clear hK K jO xB d0 d1 d2 ei eo en;have HI:=z7 (HC1.out w1 eP v1 (F x) bO);obtain⟨b1,g1,go1,yi5,n1,k1,rfl⟩:=bO.form;clear bO;refine jx 4 (fun K hK=>?_);go_simp;refine HI.out.mono ?_;rintro e w2 ⟨rfl,xJ⟩;have xB:∀ {p:Addr} {u:Value},w1.cell? p=some u->w2.cell? p=some u:=fun {p u} h=>(xJ.cell (z8 w1 p h)).trans h
 have Nq:w2.cell? ⟨B,0,none⟩=some (.bool b)/\w2.cell? ⟨B,1,none⟩=some (.slice (some ⟨g,go,none⟩) n' cap)/\w2.cell? ⟨B,2,none⟩=some (.int .i64 k')/\w2.cell? ⟨pi,0,none⟩=some (.func (.func K1) #[] rZ)/\w2.cell? ⟨po,0,none⟩=some (.func (.func K0) #[] cp)/\w2.cell? ⟨pn,0,none⟩=some (.bool nt):=⟨xB DA.1,xB DA.2.1,xB DA.2.2.1,xB DA.2.2.2.1,xB DA.2.2.2.2.1,xB DA.2.2.2.2.2⟩;have ZZ:Below w.heap.size w w2:=Jp.trans (xJ.mono Jp.size);refine hK.out _ _ Nq (fun _=>?_);clear hK K xB DA;obtain⟨r,hr⟩:=xX (T (F x));rw[hr];have HR:=z7 hr;clear HI hr;refine VA [6,7] 0 Nq ?_;(iterate 2 ((first|refine ty ?_|refine tn ?_);try simp only[pl]))
 refine xq ?_;refine b7 ?_ _;go_wp2;go_ret;exact⟨by rw[HR.out];rfl,ZZ⟩
theorem fw(c:UInt8)(w:World):Calls Tryz.prog 174 #[.int .u8 c.toNat] w fun e w'=>e = .returned (.int .i64 (xC c))/\w=w':=by
 have xB:=c.toNat_lt;obtain⟨n,hn⟩:∃ n,n=c.toNat:=⟨_,rfl⟩;obtain⟨r,hr⟩:=xX (xC c);rw[hr];unfold xC at hr;rw[<-hn] at xB hr |-
 by_cases h1:97<=n/\n<=122
 .rw[if_pos h1] at hr;subst hr;have a1:decide ((97:Int)<=(n:Int))=true:=by simp;omega
  have a2:decide ((n:Int)<=(122:Int))=true:=by simp;omega
  clear hn;go_enter func174,ntmps174;go_wp2;all_goals (first|(exfalso;omega)|(go_ret;exact⟨rfl,rfl⟩))
 .rw[if_neg h1] at hr;by_cases h2:48<=n/\n<=57
  .rw[if_pos h2] at hr;subst hr;clear hn;go_enter func174,ntmps174;go_wp2;all_goals (first|(exfalso;omega)|(go_ret;exact⟨rfl,rfl⟩))
  .rw[if_neg h2] at hr;by_cases h3:n=32
   .rw[if_pos h3] at hr;subst hr;subst h3;clear hn;go_enter func174,ntmps174;go_wp2;all_goals (first|(exfalso;omega)|(go_ret;exact⟨rfl,rfl⟩))
   .rw[if_neg h3] at hr;subst hr;have a3:((n:Int)==32)=false:=by simp;omega
    clear hn;go_enter func174,ntmps174;go_wp2;all_goals (first|(exfalso;omega)|(go_ret;exact⟨rfl,rfl⟩))
theorem xR.keep{p lo hi:Nat}{w w':World}(h:xR p w w')(hp:p<lo)(hi':hi<=w.heap.size):xr lo hi w w' :=
 ⟨zJ hi' h.size,fun k h1 h2=>h.block k (by omega) (by omega)⟩
def El(w:World)(k:Nat):Prop:=∃ cs fr,w.heap[k]? = some (.cells cs 9 fr)
theorem El.of{w w':World}{k:Nat}(h:El w k)(he:w'.heap[k]? = w.heap[k]?):El w' k:=by
 obtain⟨cs,fr,h⟩:=h;exact⟨cs,fr,he.trans h⟩
def gL(w:World)(p:Nat)(ws:List Wd):Prop :=
 ∃ a cap,w.cell? ⟨p,0,none⟩=some (.slice a ws.length cap)/\w.frozen? ⟨p,0,none⟩=false/\ws.length<=cap/\cap<=maxLen/\∀ j (h:j<ws.length),∃ b,a=some b/\(b.block≠p/\El w b.block)/\w.cell? (b.add j)=some (xg ws[j])
theorem gL.lt{w:World}{p:Nat}{ws:List Wd}(h:gL w p ws):p<w.heap.size:=by
 obtain⟨a,cap,hc,_⟩:=h;exact z8 w _ hc
theorem gL.below{w w':World}{p:Nat}{ws:List Wd}(h:gL w p ws)(hb:Below w.heap.size w w'):gL w' p ws:=by
 have xB:=h.lt;obtain⟨a,cap,hc,hf,h1,h2,h3⟩:=h;refine⟨a,cap,(hb.cell xB).trans hc,(hb.frozen xB).trans hf,h1,h2,fun j hj=>?_⟩;obtain⟨b,e1,e2,e3⟩:=h3 j hj;have hl:=z8 w _ e3;rw[addr_add] at hl;exact⟨b,e1,⟨e2.1,e2.2.of (hb.block _ hl)⟩,(hb.cell (z8 w _ e3)).trans e3⟩
theorem gL.pass{w:World}{p cap:Nat}{b:Addr}{x:Wd}{t:List Wd}(hf:w.frozen? ⟨p,0,none⟩=false)(hc:w.cell? ⟨p,0,none⟩=some (.slice (some b) (t.length+1) cap))(h1:t.length+1<=cap)(h2:cap<=maxLen)(hb:b.block≠p/\El w b.block)(hw:∀ j (h:j<(x::t).length),w.cell? (b.add j)=some (xg (x::t)[j])) :
  gL (w.setCell ⟨p,0,none⟩ (.slice (some (b.add 1)) t.length (cap - 1))) p t:=by
 refine⟨some (b.add 1),cap - 1,by rw[zk (h:=hc)],by simpa using hf,by omega,by omega,fun j hj=>⟨b.add 1,rfl,by rw[addr_add];exact⟨hb.1,hb.2.of (zQ _ _ _ _ hb.1)⟩,?_⟩⟩;have:=hw (j+1) (by simp;omega);rw[add_add,Nat.add_comm 1 j,zy (h:=fun e=>hb.1 (by rw[<-addr_add b (j+1),<-e]))];simpa using this
theorem gL.last{w:World}{p cap:Nat}{b:Addr}(hf:w.frozen? ⟨p,0,none⟩=false){n:Nat}(hc:w.cell? ⟨p,0,none⟩=some (.slice (some b) n cap)) :
  gL (w.setCell ⟨p,0,none⟩ (.slice (some b) 0 0)) p [] :=
 ⟨some b,0,by rw[zk (h:=hc)];rfl,by simpa using hf,zx _,zF _,fun j hj=>absurd hj (Nat.not_lt_zero j)⟩
def Dz(ms:List Wd)(ws:List Wd):Bool:=ms.any (fun m=>Yy m ws)
def zgy(p:Nat)(ms ws:List Wd)(w:World)(e:Ending)(w':World):Prop :=
 e = .returned (.bool (Dz ms ws))/\gL w' p (if Dz ms ws then ws.tail else ws)/\xR p w w'/\w'.heap.size=w.heap.size
theorem sU{ms ws:List Wd}{k:Nat}(h:k<ms.length)(hT:Yy ms[k] ws=true):Dz ms ws=true:=zh.2 ⟨ms[k],zL h,hT⟩
theorem Cu{ms ws:List Wd}{k:Nat}(h:k<ms.length)(h0:Dz (ms.take k) ws=false)(hT:Yy ms[k] ws=false):Dz (ms.take (k+1)) ws=false:=by
 unfold Dz at *;rw[zf h,yz,h0];simp[hT]
theorem lY(p:Nat)(ms ws:List Wd)(v:Value)(w:World)(hp:gL w p ws)(hm:Of w v ms)(hl:ms.length<=1000) :
  Calls Tryz.prog 175 #[.pointer (some ⟨p,0,none⟩),v] w (zgy p ms ws w):=by
 have HP:=z7 hp;obtain⟨a,cap,hc,hf,h1,h2,h3⟩:=hp;obtain⟨a2,uL,rfl,m1,m2,m3,m4⟩:=hm;have HM:=z7 m4;have H3:=z7 h3;clear m4 h3;have hmx:cap<=9223372036854775807:=by unfold maxLen at h2;omega
 go_enter func175,ntmps175;go_wp2;go_loop [9] (fun i=>∃ k:Nat,k<=ms.length/\i = .int .i64 k/\Dz (ms.take k) ws=false) (fun i=>ms.length - (intOf i).toNat)
 case atStart=>exact⟨0,zF _,rfl,rfl⟩
 case round =>
  obtain⟨k,hk,rfl,hz⟩:=hrel;have HZ:=z7 hz;clear hz;by_cases xB:k<ms.length
  .obtain⟨b2,rfl,jT⟩:=HM.out k xB;obtain Vp|⟨x,t,Vp⟩:ws=[]\/∃ x t,ws=x::t:=by
    cases ws with
    | nil=>exact .inl rfl
    | cons x t=>exact .inr ⟨x,t,rfl⟩
   .have hq:Yy ms[k] ws=false:=by rw[Vp];rfl
    have HF:=z7 (Cu xB HZ.out hq);rw[Vp] at hc;clear hq Vp;go_wp2;exact⟨⟨k+1,by omega,by go_num,HF.out⟩,by simp[intOf];omega⟩
   .obtain⟨b,rfl,hb,hx⟩:=H3.out 0 (by rw[Vp];simp);have Pe:w.cell? b=some (xg x):=by
     have:(b.add 0)=b:=by simp[Addr.add]
     rw[this] at hx;rw[hx];simp[Vp]
    have hiw:=LO ms[k] x t;have hlen:ws.length=t.length+1:=by rw[Vp];rfl
    rw[hlen] at hc h1;clear hx
    cases hq:(x==ms[k])
    .have HF:=z7 (Cu xB HZ.out (by rw[Vp,hiw,hq]));have HW:=z7 Vp;clear hiw Vp hlen;go_wp2;exact⟨⟨k+1,by omega,by go_num,HF.out⟩,by simp[intOf];omega⟩
    .have HF:=z7 (sU (ws:=ws) xB (by rw[Vp,hiw,hq]));have HW:=z7 Vp;clear hiw Vp hlen;by_cases qK:cap=1
     .have ht:t=[]:=zO (by omega);subst ht;subst qK;go_wp2;go_ret;refine⟨by rw[HF.out];rfl,?_,xR.set p w 0 _,by simp[za]⟩;rw[if_pos HF.out,HW.out];exact gL.last hf hc
     .have vy:¬(cap:Int)=1:=by omega
      go_wp2;go_ret;refine⟨by rw[HF.out];rfl,?_,xR.set p w 0 _,by simp[za]⟩;rw[if_pos HF.out,HW.out];refine gL.pass hf hc h1 h2 hb (x:=x) (fun j hj=>?_);obtain⟨b',e1,_,e3⟩:=H3.out j (by rw[HW.out];exact hj)
      cases e1;rw[e3];simp[HW.out]
  .obtain rfl:k=ms.length:=by omega
   have hz:=HZ.out;rw[zI] at hz;have HF:=z7 hz;clear hz HZ;go_wp2;go_ret;refine⟨by rw[HF.out];rfl,?_,xR.refl _ _,rfl⟩;rw[HF.out];exact HP.out
structure RT(p:Nat)(w:World):Prop where
 s:∃ t v,w.cell? ⟨7,0,none⟩=some (.iface t v)
 r:∃ t v,w.cell? ⟨8,0,none⟩=some (.iface t v)
 ns:7≠p
 nr:8≠p
theorem RT.but{p:Nat}{w w':World}(h:RT p w)(hb:xR p w w'):RT p w':=by
 obtain⟨⟨t,v,hs⟩,⟨t2,v2,hr⟩,h1,h2⟩:=h;exact⟨⟨t,v,hb.cell hs h1⟩,⟨t2,v2,hb.cell hr h2⟩,h1,h2⟩
structure Em(x:Wd):Prop where
 ne:x≠[]
 len:x.length<=1000
 form:x.all xF=true\/xF (x.headD 0)=false
theorem JC:∀ (l:List UInt8) (acc:Nat),l.all xF=true->Lib.decFrom acc l=some (l.foldl (fun v c=>10*v+(c.toNat - 48)) acc)
 | [],_,_=>rfl
 | c::t,acc,h=>by
  simp only[List.all_cons,zw] at h;have hc:=(vW c).1 h.1;rw[Lib.decFrom,Lib.digitVal,if_pos (by omega)];dsimp only;rw[JC t _ h.2,List.foldl_cons,Nat.mul_comm acc 10]
theorem lX{l:List UInt8}(h:l.all xF=true)(hn:l≠[]):Lib.atoi l=some (B7 l:Int):=by
 cases l with
 | nil=>exact absurd rfl hn
 | cons c t =>
  have hd:=h;simp only[List.all_cons,zw] at hd;have hc:=(vW c).1 hd.1;have h45:(c==45)=false:=by
   rw[beq_eq_false_iff_ne];rintro rfl;exact absurd hc.1 (by decide)
  have h43:(c==43)=false:=by
   rw[beq_eq_false_iff_ne];rintro rfl;exact absurd hc.1 (by decide)
  rw[Lib.atoi,h45,h43];simp only[Bool.false_eq_true,if_false,Lib.decNat];rw[if_neg (by simp),JC _ 0 h];rfl
theorem below_bytesWorld(w:World)(e:TypeId)(t:ByteArray):Below w.heap.size w (Lib.bytesWorld w e t):=Lib.bytesWorld_below _ _ _
theorem My(p:Nat)(s:ByteArray)(w:World)(hs:s.size<=1000)(hT:RT p w) :
  Calls Tryz.prog 163 #[.string s] w fun e w'=>(∃ v ev,e = .returned (.tuple #[.int .i64 v,ev])/\(ev = .nilIface\/∃ N,ev = .iface 353 (.pointer (some N))))/\Below w.heap.size w w':=by
 obtain⟨⟨t,v,hS⟩,⟨t2,v2,hR⟩,_,_⟩:=hT
 cases h:Lib.atoiAll s.data.toList with
 | ok n =>
  refine(Tryz.strconv_Atoi_ok s (by omega) n h w).mono ?_;rintro e w' ⟨rfl,rfl|⟨t,rfl⟩⟩
  .exact⟨⟨_,_,rfl,.inl rfl⟩,zX _ _⟩
  .exact⟨⟨_,_,rfl,.inl rfl⟩,below_bytesWorld _ _ _⟩
 | range =>
  refine(Tryz.strconv_Atoi_range s (by omega) h _ w hR (.inr ⟨_,_,rfl⟩)).mono ?_;rintro e w' ⟨N,rfl,_,_,hb⟩;exact⟨⟨_,_,rfl,.inr ⟨_,rfl⟩⟩,hb⟩
 | _ =>
  refine(Tryz.strconv_Atoi_none s (by omega) (fun v q=>by rw[h] at q;cases q) (fun q=>by rw[h] at q;cases q) _ w hS (.inr ⟨_,_,rfl⟩)).mono ?_;rintro e w' ⟨N,rfl,_,_,hb⟩;exact⟨⟨_,_,rfl,.inr ⟨_,rfl⟩⟩,hb⟩
theorem lV(s:ByteArray)(w:World)(hs:s.size<=9)(hd:s.data.toList.all xF=true)(hn:s.data.toList≠[]) :
  Calls Tryz.prog 163 #[.string s] w fun e w'=>e = .returned (.tuple #[.int .i64 (B7 s.data.toList),.nilIface])/\Below w.heap.size w w':=by
 refine(Tryz.strconv_Atoi s (B7 s.data.toList) (by omega) (lX hd hn) w).mono ?_;rintro e w' ⟨rfl,t,rfl⟩;exact⟨rfl,below_bytesWorld _ _ _⟩
abbrev En:Ending := .panicked [{ v := .iface 278 (.agg #[]),recovered:=false }]
def zgx(p:Nat)(r:Option (Nat×List Wd))(w:World)(e:Ending)(w':World):Prop :=
 (match r with|none=>e=En|some (v,t)=>e = .returned (.int .i64 v)/\gL w' p t)/\xR p w w'
theorem sQ{x:Wd}(hd:x.all xF=true)(hn:x≠[]):Fq x=(decide (x.length<=9) && (decide (x.length=1) || decide (x.headD 0≠48))):=by
 unfold Fq vA;rw[hd]
 cases x with
 | nil=>exact absurd rfl hn
 | cons c t=>simp
theorem YY(c:UInt8):(xC c=2) ↔ xF c=true:=by
 rw[vW];unfold xC;split
 .constructor<;>intro h<;>omega
 split
 .constructor<;>intro h<;>omega
 split
 .constructor<;>intro h<;>omega
 .constructor<;>intro h<;>omega
theorem PU(p:Nat)(w:World)(hp:gL w p []):Calls Tryz.prog 181 #[.pointer (some ⟨p,0,none⟩)] w (zgx p none w):=by
 obtain⟨a,cap,hc,hf,h1,h2,h3⟩:=hp;clear h3;go_enter func181,ntmps181;go_wp2;exact⟨rfl,rfl,xR.refl _ _⟩
theorem gL.step{w:World}{p cap:Nat}{b:Addr}{x:Wd}{t:List Wd}(h:gL w p (x::t))(hc:w.cell? ⟨p,0,none⟩=some (.slice (some b) (t.length+1) cap)) :
  gL (w.setCell ⟨p,0,none⟩ (.slice (some (b.add 1)) t.length (cap - 1))) p t/\(t=[]->gL (w.setCell ⟨p,0,none⟩ (.slice (some b) 0 0)) p t):=by
 obtain⟨a,vw,rH,hf,h1,h2,h3⟩:=h;rw[hc] at rH
 cases rH;obtain⟨b',e1,e2,_⟩:=h3 0 (by simp)
 cases e1;refine⟨gL.pass hf hc (by simpa using h1) h2 e2 (x:=x) (fun j hj=>?_),fun ht=>?_⟩
 .obtain⟨b',e1,_,e3⟩:=h3 j hj
  cases e1;exact e3
 .subst ht;exact gL.last hf hc
theorem PQ(c:UInt8)(t:List UInt8)(h:0<(zR (c::t).toArray).size):(zR (c::t).toArray)[0]=c:=by
 simp[ByteArray.getElem_eq_getElem_data]
theorem Mx(p:Nat)(c:UInt8)(x':List UInt8)(t:List Wd)(w:World)(hp:gL w p ((c::x')::t))(hx:Em (c::x'))(hT:RT p w) :
  Calls Tryz.prog 181 #[.pointer (some ⟨p,0,none⟩)] w (zgx p (kS ((c::x')::t)) w):=by
 have HP:=z7 hp;have HX:=z7 hx;have HT:=z7 hT;have xB:=hp.lt;obtain⟨a,cap,hc,hf,h1,h2,h3⟩:=hp;obtain⟨b,rfl,hb,JO⟩:=h3 0 (by simp);have Pe:w.cell? b=some (xg (c::x')):=by
  have:(b.add 0)=b:=by simp[Addr.add]
  rw[this] at JO;exact JO
 have hmx:cap<=9223372036854775807:=by unfold maxLen at h2;omega
 have hlen:((c::x')::t).length=t.length+1:=rfl;rw[hlen] at hc h1;obtain⟨r,hr⟩:=xX (kS ((c::x')::t));rw[hr];have HR:=z7 hr;obtain⟨s,hs⟩:∃ s:ByteArray,s=⟨(c::x').toArray⟩:=⟨_,rfl⟩;have Hu:0<s.size:=by rw[hs,size_mk];simp
 have qc:s.size=x'.length+1:=by rw[hs,size_mk];rfl
 have hg:s[0]=c:=by subst hs;exact PQ c x' Hu
 have oU:=hx.len;have dW:s.size<=1000:=by rw[qc];simpa using oU
 have hsd:s.data.toList=c::x':=by rw[hs]
 have dT:w.cell? b=some (.string s):=by rw[Pe,hs]
 clear JO h3 hr Pe hx hT hs;have HG:=z7 hg;have HSD:=z7 hsd;have dJ:=z7 qc;by_cases hd:xF c=true
 .have qQ:(c::x').all xF=true:=by
   rcases HX.out.form with h|h
   .exact h
   .exact absurd hd (by simpa using h)
  have Zd:xC c=2:=(YY c).2 hd;have lU:((xC c:Int) !=2)=false:=by rw[Zd];decide
  have N3:=fun W=>fw c W
  have Ex:=sQ qQ (by simp);by_cases h9:s.size<=9
  .have zrx:(c::x').length<=9:=by simp;omega
   rw[decide_eq_true zrx,Bool.true_and] at Ex;have h9':decide ((9:Int)<(s.size:Int))=false:=by simp;omega
   have HA:=z7 (lV s w h9 (by rw[hsd];exact qQ) (by rw[hsd];simp));by_cases hz:1<s.size/\c=48
   .have vg:r=none:=by
     rw[<-HR.out];have:Fq (c::x')=false:=by
      rw[Ex];simp[hz.2];intro e;rw[e] at qc;simp at qc;omega
     simp[kS,this]
    subst vg;have e48:((s[0].toNat:Int)==48)=true:=by rw[hg,hz.2];decide
    have e1:decide ((1:Int)<(s.size:Int))=true:=by simp;omega
    rw[<-hg] at N3 lU;have og:=z7 N3;clear Zd N3 hg hsd hd qQ Ex hz qc;go_enter func181,ntmps181;go_wp2_with fail;refine HA.out.mono ?_;rintro e w1 ⟨rfl,xG⟩;go_wp2_with fail;refine(og.out _).mono ?_;rintro e w2 ⟨rfl,rfl⟩;go_wp2;exact⟨rfl,rfl,xR.of xG⟩
   .have zrv:Fq (c::x')=true:=by
     rw[Ex];by_cases h1s:x'.length=0
     .simp[h1s]
     .have:¬c=48:=fun e=>hz ⟨by omega,e⟩
      simp[this]
    have vg:r=some (B7 (c::x'),t):=by
     rw[<-HR.out];simp[kS,zrv]
    subst vg;have LJ:=z7 hsd;rw[<-hg] at N3 lU;have og:=z7 N3;have zy3:∀ W,Below w.heap.size w W->W.cell? ⟨p,0,none⟩=some (.slice (some b) (t.length+1) cap)/\W.frozen? ⟨p,0,none⟩=false:=fun W hW=>⟨(hW.cell xB).trans hc,(hW.frozen xB).trans hf⟩
    have oZ:=z7 zy3;have Mt:¬(1<s.size/\s[0]=48):=by rw[hg];exact hz
    have rT:=z7 hlen;clear Zd N3 hg hsd hd qQ Ex hz zrv zy3 qc hlen;by_cases qK:cap=1
    .have R5:t=[]:=zO (by omega);subst R5;subst qK;by_cases uH:1<s.size
     .have e48:((s[0].toNat:Int)==48)=false:=by
       rw[show((48:Int))=(((48:UInt8).toNat:Nat):Int) from rfl,bK];simpa using fun e=>Mt ⟨uH,e⟩
      have e1:decide ((1:Int)<(s.size:Int))=true:=by simp;omega
      clear Mt;go_enter func181,ntmps181;go_wp2_with fail;refine HA.out.mono ?_;rintro e w1 ⟨rfl,xG⟩;obtain⟨j0,j1⟩:=oZ.out w1 xG;have JZ:=z7 (HP.out.below xG);go_wp2_with fail;refine(og.out _).mono ?_;rintro e w2 ⟨rfl,rfl⟩;go_wp2;go_ret;exact⟨⟨by rw[LJ.out];rfl,(JZ.out.step j0).2 rfl⟩,(xR.of xG).trans (xR.set p _ 0 _)⟩
     .have e1:decide ((1:Int)<(s.size:Int))=false:=by simp;omega
      clear Mt;go_enter func181,ntmps181;go_wp2_with fail;refine HA.out.mono ?_;rintro e w1 ⟨rfl,xG⟩;obtain⟨j0,j1⟩:=oZ.out w1 xG;have JZ:=z7 (HP.out.below xG);go_wp2_with fail;refine(og.out _).mono ?_;rintro e w2 ⟨rfl,rfl⟩;go_wp2;go_ret;exact⟨⟨by rw[LJ.out];rfl,(JZ.out.step j0).2 rfl⟩,(xR.of xG).trans (xR.set p _ 0 _)⟩
    .have vy:¬(cap:Int)=1:=by omega
     by_cases uH:1<s.size
     .have e48:((s[0].toNat:Int)==48)=false:=by
       rw[show((48:Int))=(((48:UInt8).toNat:Nat):Int) from rfl,bK];simpa using fun e=>Mt ⟨uH,e⟩
      have e1:decide ((1:Int)<(s.size:Int))=true:=by simp;omega
      clear Mt;go_enter func181,ntmps181;go_wp2_with fail;refine HA.out.mono ?_;rintro e w1 ⟨rfl,xG⟩;obtain⟨j0,j1⟩:=oZ.out w1 xG;have JZ:=z7 (HP.out.below xG);go_wp2_with fail;refine(og.out _).mono ?_;rintro e w2 ⟨rfl,rfl⟩;go_wp2;go_ret;exact⟨⟨by rw[LJ.out];rfl,(JZ.out.step j0).1⟩,(xR.of xG).trans (xR.set p _ 0 _)⟩
     .have e1:decide ((1:Int)<(s.size:Int))=false:=by simp;omega
      clear Mt;go_enter func181,ntmps181;go_wp2_with fail;refine HA.out.mono ?_;rintro e w1 ⟨rfl,xG⟩;obtain⟨j0,j1⟩:=oZ.out w1 xG;have JZ:=z7 (HP.out.below xG);go_wp2_with fail;refine(og.out _).mono ?_;rintro e w2 ⟨rfl,rfl⟩;go_wp2;go_ret;exact⟨⟨by rw[LJ.out];rfl,(JZ.out.step j0).1⟩,(xR.of xG).trans (xR.set p _ 0 _)⟩
  .have vg:r=none:=by
    rw[<-HR.out];have:Fq (c::x')=false:=by
     rw[Ex,decide_eq_false (by simp;omega),zW]
    simp[kS,this]
   subst vg;have h9':decide ((9:Int)<(s.size:Int))=true:=by simp;omega
   have HA:=z7 (My p s w dW HT.out);rw[<-hg] at N3 lU;have og:=z7 N3;clear Zd N3 hg hsd hd qQ Ex qc;go_enter func181,ntmps181;go_wp2_with fail;refine HA.out.mono ?_;rintro e w1 ⟨⟨v,ev,rfl,hev⟩,xG⟩;rcases hev with rfl|⟨N,rfl⟩
   .go_wp2_with fail;refine(og.out _).mono ?_;rintro e w2 ⟨rfl,rfl⟩;go_wp2;exact⟨rfl,rfl,xR.of xG⟩
   .go_wp2;exact⟨rfl,rfl,xR.of xG⟩
 .have vg:r=none:=by
   rw[<-HR.out];have:Fq (c::x')=false:=by
    unfold Fq vA;simp[hd]
   simp[kS,this]
  subst vg;have Zd:¬(xC c=2):=fun e=>hd ((YY c).1 e)
  have lU:((xC c:Int) !=2)=true:=by simp;omega
  have HA:=z7 (My p s w dW HT.out);have N3:=fun W=>fw c W
  rw[<-hg] at N3 lU;have og:=z7 N3;clear Zd N3 hg hsd hd qc;go_enter func181,ntmps181;go_wp2_with fail;refine HA.out.mono ?_;rintro e w1 ⟨⟨v,ev,rfl,hev⟩,xG⟩;rcases hev with rfl|⟨N,rfl⟩
  .go_wp2_with fail;refine(og.out _).mono ?_;rintro e w2 ⟨rfl,rfl⟩;go_wp2;exact⟨rfl,rfl,xR.of xG⟩
  .go_wp2;exact⟨rfl,rfl,xR.of xG⟩
theorem dz(p:Nat)(ws:List Wd)(w:World)(hp:gL w p ws)(hx:∀ x∈ws,Em x)(hT:RT p w) :
  Calls Tryz.prog 181 #[.pointer (some ⟨p,0,none⟩)] w (zgx p (kS ws) w):=by
 match ws,hp,hx with
 | [],hp,_=>exact PU p w hp
 | x::t,hp,hx =>
  have h:=hx x (by simp)
  cases x with
  | nil=>exact absurd rfl h.ne
  | cons c x'=>exact Mx p c x' t w hp h hT
theorem jK{ws t:List Wd}{v:Nat}(h:kS ws=some (v,t)):v<=1000000000/\(∀ x∈t,x∈ws)/\t.length+1=ws.length:=by
 cases ws with
 | nil=>cases h
 | cons w u =>
  by_cases hf:Fq w=true
  .simp only[kS,hf,if_true,Option.some.injEq,Prod.mk.injEq] at h;obtain⟨rfl,rfl⟩:=h;have h1:=(Fig.of hf);have h2:=pL w h1.1.dig;have h3:10 ^ w.length<=10 ^ 9:=Nat.pow_le_pow_right (by decide) h1.2;exact⟨by omega,fun x hx=>by simp[hx],by simp⟩
  .simp[kS,hf] at h
end Go.Proofs.YthpldolmpinnhaaGreatDoor
