import Derived.Test.YthpldolmpinnhaaGreatDoorJF22
import Derived.Lib.Builder
import Derived.Lib.RuneBytes
set_option maxHeartbeats 64000000
open Go.Lib renaming encodeRune→z7,byteCells→z8,IsBuilder→zy,hid→zx,cell_of_heap→zY,BuilderAt→zJ,runeCells_le→zH
open List renaming getElem?_eq_getElem→zv,getElem_mem→zk,length_append→zj,getD_eq_getElem?_getD→zg,mem_of_mem_take→zG,mem_of_mem_drop→zF,range_succ→zE
open Go.RowKit.Below renaming refl→zu
open Option renaming getD_some→zf
open Int renaming toNat_natCast→zZ
open Go.Result renaming andThen→zX
open Go.Oper renaming upon_value→zV
open Nat renaming le_refl→zU
open Go.Addr renaming add→zQ
open Go.Extern.AbiNoEscape renaming same→zD
open Go.Proofs.Tryz
namespace Go.Proofs.YthpldolmpinnhaaGreatDoor
open Go Go.RowKit
set_option maxRecDepth 10000
theorem Eu:(prog.info? 155).map (fun j=>j.size)=some 2:=by kernel_rfl
theorem Ds(B b:Nat)(bs:List Value)(w:World)(h:zy 155 5 B b bs w) :
  Calls prog 104 #[.pointer (some ⟨b,0,none⟩)] w fun e w'=>e = .returned (.tuple #[])/\zJ 155 5 B b (.pointer (some ⟨b,0,none⟩)) bs w'/\Below B w w':=by
 obtain⟨j,hj,hjs⟩:=Option.map_eq_some_iff.1 Eu;rcases h with h|h
 ·have h0:=h.cell0;have PA:=h.shape;have VH:=h.frozen0;have H:=zx h;clear h;go_enter func104,ntmps104;go_wp2;rw[Lib.run_to_unsafe w ⟨b,0,none⟩ underlying153 underlying159 hj (by rw[hjs];decide) PA (Nat.zero_lt_succ 1)];simp only[zX];rw[zV];go_wp2;rw[run_callFunc_extern func153 (by kernel_rfl) (by kernel_rfl) (by kernel_rfl) (e:=zD) (by kernel_rfl)];rw[Lib.run_noEscape];simp only[zX];rw[zV];go_wp2;rw[Lib.run_from_unsafe w ⟨b,0,none⟩ underlying159 underlying153 hj PA (by kernel_rfl)];simp only[zX];rw[zV];go_wp2;go_end0
  exact⟨rfl,H.out.used _,(zu B w).setCell (p:=⟨b,0,none⟩) H.out.1 _⟩
 ·have h0:=h.cell0;have H:=zx h;clear h;go_enter func104,ntmps104;go_wp2;rw[Lib.run_neq_ptr_same w _ underlying153 hj];go_wp2;go_end0
  exact⟨rfl,H.out,zu B _⟩
theorem Dt(B b:Nat)(bs:List Value)(r:Int)(vv : -2147483648<=r)(Xv:r<=2147483647)(w:World)(h:zy 155 5 B b bs w)(hlen:bs.length+4<=140737488355328)(hBw:B<=w.heap.size) :
  Calls prog 69 #[.pointer (some ⟨b,0,none⟩),.int .i32 r] w fun e w'=>(∃ v,e = .returned v)/\zy 155 5 B b (bs++Lib.runeCells r) w'/\Below B w w':=by
 have fw:=zH r;go_enter func69,ntmps69;go_wp2_with fail;refine(Ds B b bs _ h).mono ?_;rintro e w1 ⟨rfl,h1,xB⟩;obtain⟨hB,v,ZU,xV,xc⟩:=h1;obtain⟨ao,cap,rfl⟩:=xd xV;have c0:w1.cell? ⟨b,0,none⟩=some (.pointer (some ⟨b,0,none⟩)):=by rw[zY ZU];rfl
 have c1:w1.cell? ⟨b,1,none⟩=some (.slice ao bs.length cap):=by rw[zY ZU];rfl
 have xD:b<w1.heap.size:=by
  rcases Nat.lt_or_ge b w1.heap.size with h' | h'
  ·exact h'
  ·simp[Array.getElem?_eq_none h'] at ZU
 go_wp2_with fail;refine(Tryz.utf8_AppendRune_plain B _ bs.length bs r vv Xv _ xV hlen (by have:=xB.size;omega)).mono ?_;rintro e w2 ⟨v',rfl,Vr,o,uW⟩;have xF:w2.heap[b]? = some (.cells #[.pointer (some ⟨b,0,none⟩),.slice ao bs.length cap] 155 (0,0)):=by
  rw[uW.block b (by simp;omega) (fun e=>xc e.symm),Below.heap_alloc w1 _ b xD];exact ZU
 have d0:w2.cell? ⟨b,0,none⟩=some (.pointer (some ⟨b,0,none⟩)):=by rw[zY xF];rfl
 have d1:w2.cell? ⟨b,1,none⟩=some (.slice ao bs.length cap):=by rw[zY xF];rfl
 have f1:w2.frozen? ⟨b,1,none⟩=false:=Lib.frozen_of_heap xF 1;have ybg:=xd Vr;obtain⟨a',ve,rfl⟩:=ybg;have HO:=zx xV;have HO':=zx Vr;have HN:=zx xc;clear xV Vr xc;go_wp2;go_ret2
 refine⟨⟨_,rfl⟩,.inr ?_,?_⟩
 ·exact Lib.BuilderAt.put (T:=155) (e:=5) hB xF (bs':=bs++Lib.runeCells r) (by simpa using HO'.out) (by decide)
 ·exact((xB.alloc (by have:=xB.size;omega) _).grown uW (by have:=xB.size;simp;omega) (fun k hk=>(HO.out.lt k hk).1)).setCell (p:=⟨b,1,none⟩) hB _
structure Ek(w:World)(g:Nat)(mi po gr fi ne:Int)(ds:List Int):Prop where
 c2:w.cell? ⟨g,2,none⟩=some (.int .i32 mi)
 c3:w.cell? ⟨g,3,none⟩=some (.int .i32 po)
 c4:w.cell? ⟨g,4,none⟩=some (.int .i32 gr)
 c5:w.cell? ⟨g,5,none⟩=some (.int .i64 fi)
 c6:w.cell? ⟨g,6,none⟩=some (.int .i64 ne)
 len:ds.length=10
 c7:∀ j (h:j<ds.length),w.cell? ⟨g,7+j,none⟩=some (.int .i32 ds[j])
def ZC(gr fi ne:Int)(left:Nat):Bool:=gr !=0 && decide (0<fi) && decide (fi<=(left:Int)) && (((left:Int) - fi) % ne==0)
theorem Fz(g:Nat)(mi po gr:Int)(fi ne:Nat)(ds:List Int)(left:Nat)(w:World)(h:Ek w g mi po gr fi ne ds)(hl:left<=1000000)(hf:fi<=255)(hn:0<fi->0<ne)(dC:ne<=255) :
  Calls prog 71 #[.pointer (some ⟨g,0,none⟩),.int .i64 left] w fun e w'=>e = .returned (.bool (ZC gr fi ne left))/\∃ n,w'=w.drewN n:=by
 have c4:=h.c4;have c5:=h.c5;have c6:=h.c6;clear h;by_cases h1:(gr !=0)=true
 ·by_cases h2:(0:Int)<(fi:Int)
  ·by_cases h3:(fi:Int)<=(left:Int)
   ·have h2n:0<fi:=by omega
    have h3n:fi<=left:=by omega
    have vA:ZC gr fi ne left=(((left:Int) - fi) % ne==0):=by simp[ZC,h1,h2n,h3n]
    have HF:=zx vA;clear vA;have xc:0<ne:=hn (by omega);have pB:¬((ne:Int)=0):=by omega
    have DH:(0:Int)<=(left:Int) - (fi:Int):=by omega
    go_enter func71,ntmps71;go_wp2_with fail;go_quiet (fail)
    go_wp2;go_ret;exact⟨by rw[HF.out];rfl,nq,rfl⟩
   ·have h2n:0<fi:=by omega
    have h3n:¬fi<=left:=by omega
    have h3':(left:Int)<(fi:Int):=by omega
    have vA:ZC gr fi ne left=false:=by simp[ZC];omega
    have HF:=zx vA;clear vA;go_enter func71,ntmps71;go_wp2_with fail;go_quiet (fail)
    go_wp2;go_ret;exact⟨by rw[HF.out];rfl,nq,rfl⟩
  ·have h2n:fi=0:=by omega
   subst h2n;clear h2;have vA:ZC gr (0:Nat) ne left=false:=by simp[ZC]
   have HF:=zx vA;clear vA;go_enter func71,ntmps71;go_wp2_with fail;go_quiet (fail)
   go_wp2;go_ret;exact⟨by rw[HF.out];rfl,nq,rfl⟩
 ·have h1':(gr !=0)=false:=by simpa using h1
  have vA:ZC gr fi ne left=false:=by simp[ZC,h1']
  have HF:=zx vA;clear vA h1;go_enter func71,ntmps71;go_wp2_with fail;go_quiet (fail)
  go_wp2;go_ret;exact⟨by rw[HF.out];rfl,nq,rfl⟩
theorem TX(g o j:Nat):(⟨g,o,none⟩:Addr).add j=⟨g,o+j,none⟩:=by
 unfold zQ;split
 ·simp_all
 ·simp
theorem xK.take{w:World}{a:Option Addr}{l:List Int}(h:xK w a l)(m:Nat):xK w a (l.take m):=fun j hj=>by
 have H8:j<l.length:=by simp at hj;omega
 obtain⟨b,hb,hc⟩:=h j H8;exact⟨b,hb,by simpa using hc⟩
theorem xK.drop{w:World}{g o:Nat}{l:List Int}(h:xK w (some ⟨g,o,none⟩) l)(k:Nat):xK w (some ⟨g,o+k,none⟩) (l.drop k):=fun j hj=>by
 have H8:k+j<l.length:=by simp at hj;omega
 obtain⟨b,hb,hc⟩:=h (k+j) H8
 cases hb;refine⟨_,rfl,?_⟩;rw[TX] at hc ⊢;simpa[Nat.add_assoc] using hc
theorem RQ(g o:Nat)(n cap sc:Nat)(b:Bool)(l:List Int)(w:World)(hl:l.length=n)(hs:sc<=n)(dQ:n<=cap)(hn:n<=1000000)(hB:xK w (some ⟨g,o,none⟩) l) :
  Calls prog 70 #[.agg #[.bool b,.slice (some ⟨g,o,none⟩) n cap,.int .i64 sc]] w fun e w'=>(∃ Yj ve,e = .returned (.slice Yj (n - sc) ve)/\(∀ q,Yj=some q->q.block=g)/\xK w' Yj (l.take (n - sc)))/\Below w.heap.size w w':=by
 obtain⟨k,hk⟩:∃ k,n=k+sc:=⟨n - sc,by omega⟩;subst hk;rw[show k+sc - sc=k from by omega];have h0:(0:Int)<=((k+sc:Nat):Int) - (sc:Int):=by omega
 have h1:((k+sc:Nat):Int) - (sc:Int)=(k:Int):=by omega
 have h2:k<=cap:=by omega
 go_enter func70,ntmps70;go_wp2;go_ret;exact⟨⟨_,_,rfl,(by intro q hq;cases hq;rfl),(hB.alloc _).take k⟩,(zu _ _).alloc (zU _) _⟩
theorem LZ(g o:Nat)(n cap sc:Nat)(b:Bool)(l:List Int)(w:World)(hl:l.length=n)(hs:sc<=n)(dQ:n<=cap)(hn:n<=1000000)(hB:xK w (some ⟨g,o,none⟩) l) :
  Calls prog 72 #[.agg #[.bool b,.slice (some ⟨g,o,none⟩) n cap,.int .i64 sc]] w fun e w'=>(∃ Yj ve,e = .returned (.slice Yj sc ve)/\(∀ q,Yj=some q->q.block=g)/\xK w' Yj (l.drop (n - sc)))/\Below w.heap.size w w':=by
 obtain⟨k,hk⟩:∃ k,n=k+sc:=⟨n - sc,by omega⟩;subst hk;rw[show k+sc - sc=k from by omega];have h1:((k+sc:Nat):Int) - (sc:Int)=(k:Int):=by omega
 have h2:k<=cap:=by omega
 go_enter func72,ntmps72;by_cases DV:cap=k
 ·have hz:l.drop k=[]:=List.drop_of_length_le (by omega);have HZ:=zx hz;clear hz;go_wp2;go_ret;refine⟨⟨_,_,rfl,(by intro q hq;cases hq;rfl),?_⟩,(zu _ _).alloc (zU _) _⟩;rw[HZ.out];intro j hj;simp at hj
 ·go_wp2;go_ret;exact⟨⟨_,_,rfl,(by intro q hq;cases hq;rfl),(hB.alloc _).drop k⟩,(zu _ _).alloc (zU _) _⟩
theorem xK.dA{w w':World}{B:Nat}{a:Option Addr}{l:List Int}(h:xK w a l)(hb:Below B w w')(hq:∀ q,a=some q->q.block<B):xK w' a l:=fun j hj=>by
 obtain⟨b,xF,hc⟩:=h j hj;refine⟨b,xF,?_⟩;rw[hb.cell (by rw[addr_add];exact hq b xF)];exact hc
theorem Ek.below{w w':World}{B g:Nat}{mi po gr fi ne:Int}{ds:List Int}(h:Ek w g mi po gr fi ne ds)(hb:Below B w w')(hg:g<B):Ek w' g mi po gr fi ne ds where
 c2:=by rw[hb.cell (p:=⟨g,2,none⟩) hg];exact h.c2
 c3:=by rw[hb.cell (p:=⟨g,3,none⟩) hg];exact h.c3
 c4:=by rw[hb.cell (p:=⟨g,4,none⟩) hg];exact h.c4
 c5:=by rw[hb.cell (p:=⟨g,5,none⟩) hg];exact h.c5
 c6:=by rw[hb.cell (p:=⟨g,6,none⟩) hg];exact h.c6
 len:=h.len
 c7:=fun j hj=>by rw[hb.cell (p:=⟨g,7+j,none⟩) hg];exact h.c7 j hj
abbrev Ww(r:Int):Prop:=-2147483648<=r/\r<=2147483647
def VO(ds l:List Int)(i:Nat):List UInt8:=z7 (ds.getD (l.getD i 0).toNat 0)
def ff(gr:Int)(fi ne:Nat)(ds l:List Int)(k:Nat):List UInt8 :=
 (List.range k).flatMap fun i=>(if 0<i && ZC gr fi ne (l.length - i) then z7 gr else [])++VO ds l i
def qU(po:Int)(ds l:List Int)(k:Nat):List UInt8 :=
 (List.range k).flatMap fun i=>(if i==0 then z7 po else [])++VO ds l i
def ZR(neg:Bool)(l:List Int)(sc:Nat)(mi po gr:Int)(fi ne:Nat)(ds:List Int):List UInt8 :=
 (if neg then z7 mi else [])++ff gr fi ne ds (l.take (l.length - sc)) (l.length - sc)++qU po ds (l.drop (l.length - sc)) sc
theorem KJ(gr:Int)(fi ne:Nat)(ds l:List Int)(k:Nat):ff gr fi ne ds l (k+1)=ff gr fi ne ds l k++((if 0<k && ZC gr fi ne (l.length - k) then z7 gr else [])++VO ds l k):=by
 simp[ff,zE]
theorem UU(po:Int)(ds l:List Int)(k:Nat):qU po ds l (k+1)=qU po ds l k++((if k==0 then z7 po else [])++VO ds l k):=by
 simp[qU,zE]
theorem byteCells_append(a b:List UInt8):z8 (a++b)=z8 a++z8 b:=by simp[z8]
theorem jh(B b:Nat)(acc:List UInt8)(r:Int)(hr:Ww r)(w:World)(h:zy 155 5 B b (z8 acc) w)(hlen:acc.length<=1000000)(hBw:B<=w.heap.size) :
  Calls prog 69 #[.pointer (some ⟨b,0,none⟩),.int .i32 r] w fun e w'=>(∃ v,e = .returned v)/\zy 155 5 B b (z8 (acc++z7 r)) w'/\Below B w w':=by
 rw[byteCells_append,Lib.byteCells_encodeRune];exact Dt B b _ r hr.1 hr.2 w h (by simp[z8];omega) hBw
theorem gR(r:Int):(z7 r).length<=4:=by
 have:=(zH r).2;rw[Lib.runeCells_length] at this;exact this
theorem Fy(gr:Int)(fi ne:Nat)(ds l:List Int):∀ k,(ff gr fi ne ds l k).length<=8*k
 | 0=>by simp[ff]
 | k+1=>by
  rw[KJ];have:=Fy gr fi ne ds l k;have h1:=gR gr;have h2:(VO ds l k).length<=4:=gR _;simp only[zj];split<;>simp<;>omega
theorem KG(po:Int)(ds l:List Int):∀ k,(qU po ds l k).length<=8*k
 | 0=>by simp[qU]
 | k+1=>by
  rw[UU];have:=KG po ds l k;have h1:=gR po;have h2:(VO ds l k).length<=4:=gR _;simp only[zj];split<;>simp<;>omega
theorem IsBuilder.later{T e:TypeId}{B b:Nat}{bs:List Value}{w w':World}(h:zy T e B b bs w)(hb:Below w.heap.size w w'):zy T e B b bs w':=by
 have key:∀ p,zJ T e B b p bs w->zJ T e B b p bs w':=fun p h=>by
  have xD:=h.lt;obtain⟨h1,v,h2,h3,h4⟩:=h;exact⟨h1,v,by rw[hb.block b xD];exact h2,fH h3 hb,h4⟩
 exact h.elim (fun x => .inl (key _ x)) (fun x => .inr (key _ x))
theorem LY(w:World)(B:Nat)(hB:B<=w.heap.size):zy 155 5 B w.heap.size (z8 []) (w.alloc (.cells #[.pointer none,.slice none 0 0] 155)) :=
 .inl ⟨hB,.slice none 0 0,by show(w.heap.push _)[w.heap.size]? = _;simp,World.ownsRow_nil _ _ _ _,by simp[Value.ownBlock]⟩
theorem bk{x:Int}(h:0<=x/\x<=9):∃ m:Nat,x=(m:Int)/\m<10:=⟨x.toNat,by omega,by omega⟩
theorem BL(g gd od cap sc n:Nat)(b:Bool)(l:List Int)(mi po gr:Int)(fi ne:Nat)(ds:List Int)(w:World)
  (hX:Ek w g mi po gr fi ne ds) (hg:g<w.heap.size) (hB:xK w (some ⟨gd,od,none⟩) l) (JY:gd<w.heap.size) (hl:l.length=n) (hs:sc<=n) (dQ:n<=cap) (hn:n<=10000)
  (hd:∀ x∈l,0<=x/\x<=9) (h32:Ww mi/\Ww po/\Ww gr/\∀ x∈ds,Ww x) (LV:fi<=255) (xc:0<fi->0<ne) (rq:ne<=255) :
  Calls prog 45 #[.pointer (some ⟨g,0,none⟩),.agg #[.bool b,.slice (some ⟨gd,od,none⟩) n cap,.int .i64 sc]] w fun e w' =>
   e = .returned (xk (ZR b l sc mi po gr fi ne ds))/\Below w.heap.size w w':=by
 have c2:=hX.c2;have q9:¬(w.heap.size=g):=by omega
 go_enter func45,ntmps45;have OD:∀ W:World,W=((w.alloc (.cells #[.bool b,.slice (some ⟨gd,od,none⟩) n cap,.int .i64 sc] 97)).alloc (.cells #[.pointer none,.slice none 0 0] 155)) ->
   Below w.heap.size w W/\W.heap.size=w.heap.size+2/\W.cell? ⟨w.heap.size,0,none⟩=some (.bool b)/\W.cell? ⟨w.heap.size,1,none⟩=some (.slice (some ⟨gd,od,none⟩) n cap)/\W.cell? ⟨w.heap.size,2,none⟩=some (.int .i64 sc) /\
   zy 155 5 (w.heap.size+1) (w.heap.size+1) (z8 []) W:=by
  intro W hW;subst hW;refine⟨((zu _ _).alloc (zU _) _).alloc (by simp) _,by simp,by go_simp,by go_simp,by go_simp,?_⟩;have:=LY (w.alloc (.cells #[.bool b,.slice (some ⟨gd,od,none⟩) n cap,.int .i64 sc] 97)) (w.heap.size+1) (by simp);simpa using this
 have hmi:=h32.1;have hpo:=h32.2.1;have Yt:=h32.2.2.1;have hds:=h32.2.2.2;obtain⟨XA,DO⟩:∃ a:List UInt8,a=if b then z7 mi else []:=⟨_,rfl⟩;have HA:=zx DO;have xjg:XA.length<=4:=by rw[DO];split;exact gR mi;simp
 clear DO h32
 cases b
 ·go_wp2_with fail;refine vZ ?_;intro W1 Vu;obtain⟨xB,Uu,gh,qX,jJ,Fx⟩:=OD W1 Vu;have eg:zy 155 5 (w.heap.size+1) (w.heap.size+1) (z8 XA) W1:=by rw[HA.out];exact Fx
  clear Vu OD Fx;have zkk:w.heap.size+2<=W1.heap.size:=by omega
  clear Uu;have hX1:=hX.below xB hg;have XX:=hB.dA xB (by intro q hq;cases hq;exact JY);refine(RQ gd od n cap sc _ l _ hl hs dQ (by omega) XX).mono ?_;rintro e w2 ⟨⟨a1,rj,rfl,th,hI⟩,xF⟩;obtain⟨nw,hnw⟩:∃ k:Nat,k=n - sc:=⟨_,rfl⟩;obtain⟨lw,ef⟩:∃ k:List Int,k=l.take nw:=⟨_,rfl⟩;rw[←hnw] at hI ⊢;rw[←ef] at hI;have hlen:lw.length=nw:=by rw[ef];simp;omega
  have hdw:∀ x∈lw,0<=x/\x<=9:=fun x hx=>hd x (by rw[ef] at hx;exact zG hx)
  have ed:=IsBuilder.later eg xF;have Uf:w.heap.size+2<=w2.heap.size:=by have:=xF.size;omega
  have TV:Below w.heap.size w w2:=xB.trans (xF.mono (by omega));have aE:w2.cell? ⟨w.heap.size,0,none⟩=some (.bool false):=by rw[xF.cell (by simp;omega)];exact gh
  have H7:w2.cell? ⟨w.heap.size,1,none⟩=some (.slice (some ⟨gd,od,none⟩) n cap):=by rw[xF.cell (by simp;omega)];exact qX
  have Df:w2.cell? ⟨w.heap.size,2,none⟩=some (.int .i64 sc):=by rw[xF.cell (by simp;omega)];exact jJ
  clear gh qX jJ eg xB XX hX1 xF zkk;have LU:=zx hnw;have oQ:=zx ef;have ybb:nw<=10000:=by omega
  have Xj:=zx hlen;have HL:=zx hl;clear hnw ef hlen hl;go_wp2;go_loopw [22] (fun i wr=>∃ k:Nat,k<=nw/\i = .int .i64 k/\zy 155 5 (w.heap.size+1) (w.heap.size+1) (z8 (XA++ff gr fi ne ds lw k)) wr/\Below (w.heap.size+1) w2 wr) (fun i _=>nw - (intOf i).toNat)
  case atStart=>exact⟨0,by omega,rfl,by simpa[ff] using ed,zu _ _⟩
  case round =>
   obtain⟨k,hk,rfl,Fx,Yk⟩:=hrel;have qG:Below w.heap.size w wr:=TV.trans (Yk.mono (by omega));have Ej:=hX.below qG hg;have hIr:=hI.dA Yk (by intro q hq;have:=th q hq;omega);have hzr:w.heap.size+2<=wr.heap.size:=by have:=Yk.size;omega
   have um:(XA++ff gr fi ne ds lw k).length<=200000:=by have:=Fy gr fi ne ds lw k;simp;omega
   by_cases xD:k<nw
   ·have OB:k<lw.length:=by rw[Xj.out];exact xD
    obtain⟨q,rfl,xi⟩:=hIr k OB;obtain⟨m,hm,Fv⟩:=bk (hdw lw[k] (zk OB));rw[hm] at xi;have Ey:m<ds.length:=by rw[Ej.len];exact Fv
    have hdm:=Ej.c7 m Ey;have c4:=Ej.c4;have KF:(nw:Int) - (k:Int)=((nw - k:Nat):Int):=by omega
    have kF:=KJ gr fi ne ds lw k;have Fu:VO ds lw k=z7 ds[m]:=by
     unfold VO;simp only[zg,zv OB,zf,hm,zZ,zv Ey]
    rw[Fu,Xj.out] at kF;have qs:=zx kF;have KD:=hds ds[m] (zk Ey);have hxm:(0:Int)<=(m:Int):=by omega
    have eZ:m<10:=Fv;clear hm Fu kF;by_cases Cs:0<k
    ·go_wp2_with fail;refine(Fz g mi po gr fi ne ds (nw - k) _ Ej (by omega) LV xc rq).mono ?_;rintro e w3 ⟨rfl,nq,rfl⟩;obtain⟨pb,pz⟩:∃ p,ZC gr fi ne (nw - k)=p:=⟨_,rfl⟩;rw[pz];have vH:=qs.out;rw[pz] at vH;have eY:decide (0<k)=true:=by simpa using Cs
     rw[eY,Bool.true_and] at vH;have jX:=zx vH;have eX:=IsBuilder.later Fx (below_drewN (zu _ _) nq);have hbq:=below_drewN (zu (w.heap.size+1) wr) nq;have hdq:(wr.drewN nq).cell? ⟨g,7+m,none⟩=some (.int .i32 ds[m]):=hdm;clear qs vH eY pz
     cases pb
     ·go_wp2_with fail;refine(jh _ _ _ _ KD _ eX (by omega) (by simp;omega)).mono ?_;rintro e w4 ⟨⟨v,rfl⟩,YW,uN⟩;have vA:zy 155 5 (w.heap.size+1) (w.heap.size+1) (z8 (XA++ff gr fi ne ds lw (k+1))) w4:=by
       rw[jX.out];simpa using YW
      have JD:=Yk.trans (hbq.trans uN);go_wp2;go_roundw
      case rel=>exact⟨k+1,by omega,by go_num,vA,JD⟩
      case measure=>simp[intOf];omega
     ·go_wp2_with fail;refine(jh _ _ _ _ Yt _ eX (by omega) (by simp;omega)).mono ?_;rintro e w4 ⟨⟨v,rfl⟩,YW,uN⟩;have eV:=uN.size;have zkf:w4.cell? ⟨g,7+m,none⟩=some (.int .i32 ds[m]):=by rw[uN.cell (by simp;omega)];exact hdq
      have Di:(XA++ff gr fi ne ds lw k++z7 gr).length<=300000:=by have:=gR gr;rw[zj];omega
      go_wp2_with fail;refine(jh _ _ _ _ KD _ YW (by omega) (by simp at eV;omega)).mono ?_;rintro e w5 ⟨⟨v5,rfl⟩,OC,ju⟩;have vA:zy 155 5 (w.heap.size+1) (w.heap.size+1) (z8 (XA++ff gr fi ne ds lw (k+1))) w5:=by
       rw[jX.out];simpa using OC
      have JD:=Yk.trans (hbq.trans (uN.trans ju));go_wp2;go_roundw
      case rel=>exact⟨k+1,by omega,by go_num,vA,JD⟩
      case measure=>simp[intOf];omega
    ·have zkd:k=0:=by omega
     subst zkd;clear Cs;have OE:wr.cell? q=some (.int .u8 m):=by rw[show q.add 0=q from by unfold zQ;simp] at xi;exact xi
     have vH:ff gr fi ne ds lw 1=ff gr fi ne ds lw 0++z7 ds[m]:=by simpa using qs.out
     have jX:=zx vH;clear vH xi qs;go_wp2_with fail;refine(jh _ _ _ _ KD _ Fx (by omega) (by omega)).mono ?_;rintro e w4 ⟨⟨v,rfl⟩,YW,uN⟩;have vA:zy 155 5 (w.heap.size+1) (w.heap.size+1) (z8 (XA++ff gr fi ne ds lw 1)) w4:=by
      rw[jX.out];simpa using YW
     have JD:=Yk.trans uN;go_wp2;go_roundw
     case rel=>exact⟨1,by omega,by go_num,vA,JD⟩
     case measure=>simp[intOf];omega
   ·have QA:k=nw:=by omega
    subst QA;clear hIr hI xD;have he0:wr.cell? ⟨w.heap.size,0,none⟩=some (.bool false):=by rw[Yk.cell (by simp)];exact aE
    have Cp:wr.cell? ⟨w.heap.size,1,none⟩=some (.slice (some ⟨gd,od,none⟩) n cap):=by rw[Yk.cell (by simp)];exact H7
    have Co:wr.cell? ⟨w.heap.size,2,none⟩=some (.int .i64 sc):=by rw[Yk.cell (by simp)];exact Df
    have hBr:=hB.dA qG (by intro q hq;cases hq;exact JY);go_wp2_with fail;refine(LZ gd od n cap sc _ l _ HL.out hs dQ (by omega) hBr).mono ?_;rintro e w3 ⟨⟨a2,cp2,rfl,wz,hF⟩,uP⟩;rw[←LU.out] at hF;obtain⟨lf,eU⟩:∃ x:List Int,x=l.drop k:=⟨_,rfl⟩;rw[←eU] at hF;have hlen:lf.length=sc:=by rw[eU];simp;have:=HL.out;have:=LU.out;omega
    have hdf:∀ x∈lf,0<=x/\x<=9:=fun x hx=>hd x (by rw[eU] at hx;exact zF hx)
    have eQ:=IsBuilder.later Fx uP;have Mr:w.heap.size+2<=w3.heap.size:=by have:=uP.size;omega
    have zkb:Below w.heap.size w w3:=qG.trans (uP.mono (by omega));obtain⟨KB,OH⟩:∃ x:List UInt8,x=XA++ff gr fi ne ds lw k:=⟨_,rfl⟩;rw[←OH] at eQ um;have HLF:=zx eU;have HFN:=zx hlen;have wy:=zx OH;clear eU hlen OH Fx uP he0 Cp Co aE H7 Df Yk qG Ej hzr hBr ed TV Uf;have hsc:sc<=10000:=by omega
    go_wp2;go_loopw [53] (fun i wr=>∃ k:Nat,k<=sc/\i = .int .i64 k/\zy 155 5 (w.heap.size+1) (w.heap.size+1) (z8 (KB++qU po ds lf k)) wr/\Below (w.heap.size+1) w3 wr) (fun i _=>sc - (intOf i).toNat)
    case atStart=>exact⟨0,by omega,rfl,by simpa[qU] using eQ,zu _ _⟩
    case round =>
     obtain⟨j,hj,rfl,Fx,Yk⟩:=hrel;have qG:Below w.heap.size w wr:=zkb.trans (Yk.mono (by omega));have Ej:=hX.below qG hg;have hFr:=hF.dA Yk (by intro q hq;have:=wz q hq;omega);have hzr:w.heap.size+2<=wr.heap.size:=by have:=Yk.size;omega
     have KC:(KB++qU po ds lf j).length<=400000:=by have:=KG po ds lf j;simp;omega
     by_cases xD:j<sc
     ·have OI:j<lf.length:=by rw[HFN.out];exact xD
      obtain⟨q,rfl,xi⟩:=hFr j OI;obtain⟨m,hm,Fv⟩:=bk (hdf lf[j] (zk OI));rw[hm] at xi;have Ey:m<ds.length:=by rw[Ej.len];exact Fv
      have hdm:=Ej.c7 m Ey;have c3:=Ej.c3;have kF:=UU po ds lf j;have Fu:VO ds lf j=z7 ds[m]:=by
       unfold VO;simp only[zg,zv OI,zf,hm,zZ,zv Ey]
      rw[Fu] at kF;have qs:=zx kF;have KD:=hds ds[m] (zk Ey);have hxm:(0:Int)<=(m:Int):=by omega
      have eZ:m<10:=Fv;clear hm Fu kF;by_cases hj0:j=0
      ·subst hj0;have OE:wr.cell? q=some (.int .u8 m):=by rw[show q.add 0=q from by unfold zQ;simp] at xi;exact xi
       have vH:qU po ds lf 1=qU po ds lf 0++(z7 po++z7 ds[m]):=by simpa using qs.out
       have jX:=zx vH;clear vH xi qs;go_wp2_with fail;refine(jh _ _ _ _ hpo _ Fx (by omega) (by omega)).mono ?_;rintro e w4 ⟨⟨v,rfl⟩,YW,uN⟩;have eV:=uN.size;have zkf:w4.cell? ⟨g,7+m,none⟩=some (.int .i32 ds[m]):=by rw[uN.cell (by simp;omega)];exact hdm
       have Di:(KB++qU po ds lf 0++z7 po).length<=500000:=by have:=gR po;rw[zj];omega
       go_wp2_with fail;refine(jh _ _ _ _ KD _ YW (by omega) (by omega)).mono ?_;rintro e w5 ⟨⟨v5,rfl⟩,OC,ju⟩;have vA:zy 155 5 (w.heap.size+1) (w.heap.size+1) (z8 (KB++qU po ds lf 1)) w5:=by
        rw[jX.out];simpa using OC
       have JD:=Yk.trans (uN.trans ju);go_wp2;go_roundw
       case rel=>exact⟨1,by omega,by go_num,vA,JD⟩
       case measure=>simp[intOf];omega
      ·have ya5:((j:Int)==0)=false:=by simpa using hj0
       have vH:qU po ds lf (j+1)=qU po ds lf j++z7 ds[m]:=by
        have:=qs.out;rw[show(j==0)=false from by simpa using hj0] at this;simpa using this
       have jX:=zx vH;clear vH qs;go_wp2_with fail;refine(jh _ _ _ _ KD _ Fx (by omega) (by omega)).mono ?_;rintro e w4 ⟨⟨v,rfl⟩,YW,uN⟩;have vA:zy 155 5 (w.heap.size+1) (w.heap.size+1) (z8 (KB++qU po ds lf (j+1))) w4:=by
        rw[jX.out];simpa using YW
       have JD:=Yk.trans uN;go_wp2;go_roundw
       case rel=>exact⟨j+1,by omega,by go_num,vA,JD⟩
       case measure=>simp[intOf];omega
     ·have hj':j=sc:=by omega
      subst hj';clear hFr hF xD;have vA:KB++qU po ds lf j=ZR false l j mi po gr fi ne ds:=by
       have e1:=wy.out;have e2:=HA.out;have e3:=LU.out;have e4:=oQ.out;have e5:=HLF.out;have e6:=HL.out;subst e1 e2 e4 e5 e6;unfold ZR;rw[←e3];try simp
      have kM:=zx vA;clear vA;go_wp2_with fail;refine(Tryz.Builder_String_any _ _ _ _ Fx (by omega)).mono ?_;rintro e w5 ⟨rfl,ju⟩;go_wp2;go_ret;exact⟨by rw[←kM.out];rfl,qG.trans (ju.mono (by omega))⟩
 ·go_wp2_with fail;refine vZ ?_;intro W0 Hz;obtain⟨jz,Qn,zo5,Uj,zj1,Fx⟩:=OD W0 Hz;clear Hz OD;refine(jh _ _ _ _ hmi _ Fx (by simp) (by omega)).mono ?_;rintro e W1 ⟨⟨v,rfl⟩,zz8,qG⟩;have eg:zy 155 5 (w.heap.size+1) (w.heap.size+1) (z8 XA) W1:=by rw[HA.out];exact zz8
  have xB:Below w.heap.size w W1:=jz.trans (qG.mono (by omega));have zkk:w.heap.size+2<=W1.heap.size:=by have:=qG.size;omega
  have gh:W1.cell? ⟨w.heap.size,0,none⟩=some (.bool true):=by rw[qG.cell (by simp)];exact zo5
  have qX:W1.cell? ⟨w.heap.size,1,none⟩=some (.slice (some ⟨gd,od,none⟩) n cap):=by rw[qG.cell (by simp)];exact Uj
  have jJ:W1.cell? ⟨w.heap.size,2,none⟩=some (.int .i64 sc):=by rw[qG.cell (by simp)];exact zj1
  clear jz Qn zo5 Uj zj1 Fx zz8 qG;go_wp2_with fail;have hX1:=hX.below xB hg;have XX:=hB.dA xB (by intro q hq;cases hq;exact JY);refine(RQ gd od n cap sc _ l _ hl hs dQ (by omega) XX).mono ?_;rintro e w2 ⟨⟨a1,rj,rfl,th,hI⟩,xF⟩;obtain⟨nw,hnw⟩:∃ k:Nat,k=n - sc:=⟨_,rfl⟩;obtain⟨lw,ef⟩:∃ k:List Int,k=l.take nw:=⟨_,rfl⟩;rw[←hnw] at hI ⊢;rw[←ef] at hI;have hlen:lw.length=nw:=by rw[ef];simp;omega
  have hdw:∀ x∈lw,0<=x/\x<=9:=fun x hx=>hd x (by rw[ef] at hx;exact zG hx)
  have ed:=IsBuilder.later eg xF;have Uf:w.heap.size+2<=w2.heap.size:=by have:=xF.size;omega
  have TV:Below w.heap.size w w2:=xB.trans (xF.mono (by omega));have aE:w2.cell? ⟨w.heap.size,0,none⟩=some (.bool true):=by rw[xF.cell (by simp;omega)];exact gh
  have H7:w2.cell? ⟨w.heap.size,1,none⟩=some (.slice (some ⟨gd,od,none⟩) n cap):=by rw[xF.cell (by simp;omega)];exact qX
  have Df:w2.cell? ⟨w.heap.size,2,none⟩=some (.int .i64 sc):=by rw[xF.cell (by simp;omega)];exact jJ
  clear gh qX jJ eg xB XX hX1 xF zkk;have LU:=zx hnw;have oQ:=zx ef;have ybb:nw<=10000:=by omega
  have Xj:=zx hlen;have HL:=zx hl;clear hnw ef hlen hl;go_wp2;go_loopw [22] (fun i wr=>∃ k:Nat,k<=nw/\i = .int .i64 k/\zy 155 5 (w.heap.size+1) (w.heap.size+1) (z8 (XA++ff gr fi ne ds lw k)) wr/\Below (w.heap.size+1) w2 wr) (fun i _=>nw - (intOf i).toNat)
  case atStart=>exact⟨0,by omega,rfl,by simpa[ff] using ed,zu _ _⟩
  case round =>
   obtain⟨k,hk,rfl,Fx,Yk⟩:=hrel;have qG:Below w.heap.size w wr:=TV.trans (Yk.mono (by omega));have Ej:=hX.below qG hg;have hIr:=hI.dA Yk (by intro q hq;have:=th q hq;omega);have hzr:w.heap.size+2<=wr.heap.size:=by have:=Yk.size;omega
   have um:(XA++ff gr fi ne ds lw k).length<=200000:=by have:=Fy gr fi ne ds lw k;simp;omega
   by_cases xD:k<nw
   ·have OB:k<lw.length:=by rw[Xj.out];exact xD
    obtain⟨q,rfl,xi⟩:=hIr k OB;obtain⟨m,hm,Fv⟩:=bk (hdw lw[k] (zk OB));rw[hm] at xi;have Ey:m<ds.length:=by rw[Ej.len];exact Fv
    have hdm:=Ej.c7 m Ey;have c4:=Ej.c4;have KF:(nw:Int) - (k:Int)=((nw - k:Nat):Int):=by omega
    have kF:=KJ gr fi ne ds lw k;have Fu:VO ds lw k=z7 ds[m]:=by
     unfold VO;simp only[zg,zv OB,zf,hm,zZ,zv Ey]
    rw[Fu,Xj.out] at kF;have qs:=zx kF;have KD:=hds ds[m] (zk Ey);have hxm:(0:Int)<=(m:Int):=by omega
    have eZ:m<10:=Fv;clear hm Fu kF;by_cases Cs:0<k
    ·go_wp2_with fail;refine(Fz g mi po gr fi ne ds (nw - k) _ Ej (by omega) LV xc rq).mono ?_;rintro e w3 ⟨rfl,nq,rfl⟩;obtain⟨pb,pz⟩:∃ p,ZC gr fi ne (nw - k)=p:=⟨_,rfl⟩;rw[pz];have vH:=qs.out;rw[pz] at vH;have eY:decide (0<k)=true:=by simpa using Cs
     rw[eY,Bool.true_and] at vH;have jX:=zx vH;have eX:=IsBuilder.later Fx (below_drewN (zu _ _) nq);have hbq:=below_drewN (zu (w.heap.size+1) wr) nq;have hdq:(wr.drewN nq).cell? ⟨g,7+m,none⟩=some (.int .i32 ds[m]):=hdm;clear qs vH eY pz
     cases pb
     ·go_wp2_with fail;refine(jh _ _ _ _ KD _ eX (by omega) (by simp;omega)).mono ?_;rintro e w4 ⟨⟨v,rfl⟩,YW,uN⟩;have vA:zy 155 5 (w.heap.size+1) (w.heap.size+1) (z8 (XA++ff gr fi ne ds lw (k+1))) w4:=by
       rw[jX.out];simpa using YW
      have JD:=Yk.trans (hbq.trans uN);go_wp2;go_roundw
      case rel=>exact⟨k+1,by omega,by go_num,vA,JD⟩
      case measure=>simp[intOf];omega
     ·go_wp2_with fail;refine(jh _ _ _ _ Yt _ eX (by omega) (by simp;omega)).mono ?_;rintro e w4 ⟨⟨v,rfl⟩,YW,uN⟩;have eV:=uN.size;have zkf:w4.cell? ⟨g,7+m,none⟩=some (.int .i32 ds[m]):=by rw[uN.cell (by simp;omega)];exact hdq
      have Di:(XA++ff gr fi ne ds lw k++z7 gr).length<=300000:=by have:=gR gr;rw[zj];omega
      go_wp2_with fail;refine(jh _ _ _ _ KD _ YW (by omega) (by simp at eV;omega)).mono ?_;rintro e w5 ⟨⟨v5,rfl⟩,OC,ju⟩;have vA:zy 155 5 (w.heap.size+1) (w.heap.size+1) (z8 (XA++ff gr fi ne ds lw (k+1))) w5:=by
       rw[jX.out];simpa using OC
      have JD:=Yk.trans (hbq.trans (uN.trans ju));go_wp2;go_roundw
      case rel=>exact⟨k+1,by omega,by go_num,vA,JD⟩
      case measure=>simp[intOf];omega
    ·have zkd:k=0:=by omega
     subst zkd;clear Cs;have OE:wr.cell? q=some (.int .u8 m):=by rw[show q.add 0=q from by unfold zQ;simp] at xi;exact xi
     have vH:ff gr fi ne ds lw 1=ff gr fi ne ds lw 0++z7 ds[m]:=by simpa using qs.out
     have jX:=zx vH;clear vH xi qs;go_wp2_with fail;refine(jh _ _ _ _ KD _ Fx (by omega) (by omega)).mono ?_;rintro e w4 ⟨⟨v,rfl⟩,YW,uN⟩;have vA:zy 155 5 (w.heap.size+1) (w.heap.size+1) (z8 (XA++ff gr fi ne ds lw 1)) w4:=by
      rw[jX.out];simpa using YW
     have JD:=Yk.trans uN;go_wp2;go_roundw
     case rel=>exact⟨1,by omega,by go_num,vA,JD⟩
     case measure=>simp[intOf];omega
   ·have QA:k=nw:=by omega
    subst QA;clear hIr hI xD;have he0:wr.cell? ⟨w.heap.size,0,none⟩=some (.bool true):=by rw[Yk.cell (by simp)];exact aE
    have Cp:wr.cell? ⟨w.heap.size,1,none⟩=some (.slice (some ⟨gd,od,none⟩) n cap):=by rw[Yk.cell (by simp)];exact H7
    have Co:wr.cell? ⟨w.heap.size,2,none⟩=some (.int .i64 sc):=by rw[Yk.cell (by simp)];exact Df
    have hBr:=hB.dA qG (by intro q hq;cases hq;exact JY);go_wp2_with fail;refine(LZ gd od n cap sc _ l _ HL.out hs dQ (by omega) hBr).mono ?_;rintro e w3 ⟨⟨a2,cp2,rfl,wz,hF⟩,uP⟩;rw[←LU.out] at hF;obtain⟨lf,eU⟩:∃ x:List Int,x=l.drop k:=⟨_,rfl⟩;rw[←eU] at hF;have hlen:lf.length=sc:=by rw[eU];simp;have:=HL.out;have:=LU.out;omega
    have hdf:∀ x∈lf,0<=x/\x<=9:=fun x hx=>hd x (by rw[eU] at hx;exact zF hx)
    have eQ:=IsBuilder.later Fx uP;have Mr:w.heap.size+2<=w3.heap.size:=by have:=uP.size;omega
    have zkb:Below w.heap.size w w3:=qG.trans (uP.mono (by omega));obtain⟨KB,OH⟩:∃ x:List UInt8,x=XA++ff gr fi ne ds lw k:=⟨_,rfl⟩;rw[←OH] at eQ um;have HLF:=zx eU;have HFN:=zx hlen;have wy:=zx OH;clear eU hlen OH Fx uP he0 Cp Co aE H7 Df Yk qG Ej hzr hBr ed TV Uf;have hsc:sc<=10000:=by omega
    go_wp2;go_loopw [53] (fun i wr=>∃ k:Nat,k<=sc/\i = .int .i64 k/\zy 155 5 (w.heap.size+1) (w.heap.size+1) (z8 (KB++qU po ds lf k)) wr/\Below (w.heap.size+1) w3 wr) (fun i _=>sc - (intOf i).toNat)
    case atStart=>exact⟨0,by omega,rfl,by simpa[qU] using eQ,zu _ _⟩
    case round =>
     obtain⟨j,hj,rfl,Fx,Yk⟩:=hrel;have qG:Below w.heap.size w wr:=zkb.trans (Yk.mono (by omega));have Ej:=hX.below qG hg;have hFr:=hF.dA Yk (by intro q hq;have:=wz q hq;omega);have hzr:w.heap.size+2<=wr.heap.size:=by have:=Yk.size;omega
     have KC:(KB++qU po ds lf j).length<=400000:=by have:=KG po ds lf j;simp;omega
     by_cases xD:j<sc
     ·have OI:j<lf.length:=by rw[HFN.out];exact xD
      obtain⟨q,rfl,xi⟩:=hFr j OI;obtain⟨m,hm,Fv⟩:=bk (hdf lf[j] (zk OI));rw[hm] at xi;have Ey:m<ds.length:=by rw[Ej.len];exact Fv
      have hdm:=Ej.c7 m Ey;have c3:=Ej.c3;have kF:=UU po ds lf j;have Fu:VO ds lf j=z7 ds[m]:=by
       unfold VO;simp only[zg,zv OI,zf,hm,zZ,zv Ey]
      rw[Fu] at kF;have qs:=zx kF;have KD:=hds ds[m] (zk Ey);have hxm:(0:Int)<=(m:Int):=by omega
      have eZ:m<10:=Fv;clear hm Fu kF;by_cases hj0:j=0
      ·subst hj0;have OE:wr.cell? q=some (.int .u8 m):=by rw[show q.add 0=q from by unfold zQ;simp] at xi;exact xi
       have vH:qU po ds lf 1=qU po ds lf 0++(z7 po++z7 ds[m]):=by simpa using qs.out
       have jX:=zx vH;clear vH xi qs;go_wp2_with fail;refine(jh _ _ _ _ hpo _ Fx (by omega) (by omega)).mono ?_;rintro e w4 ⟨⟨v,rfl⟩,YW,uN⟩;have eV:=uN.size;have zkf:w4.cell? ⟨g,7+m,none⟩=some (.int .i32 ds[m]):=by rw[uN.cell (by simp;omega)];exact hdm
       have Di:(KB++qU po ds lf 0++z7 po).length<=500000:=by have:=gR po;rw[zj];omega
       go_wp2_with fail;refine(jh _ _ _ _ KD _ YW (by omega) (by omega)).mono ?_;rintro e w5 ⟨⟨v5,rfl⟩,OC,ju⟩;have vA:zy 155 5 (w.heap.size+1) (w.heap.size+1) (z8 (KB++qU po ds lf 1)) w5:=by
        rw[jX.out];simpa using OC
       have JD:=Yk.trans (uN.trans ju);go_wp2;go_roundw
       case rel=>exact⟨1,by omega,by go_num,vA,JD⟩
       case measure=>simp[intOf];omega
      ·have ya5:((j:Int)==0)=false:=by simpa using hj0
       have vH:qU po ds lf (j+1)=qU po ds lf j++z7 ds[m]:=by
        have:=qs.out;rw[show(j==0)=false from by simpa using hj0] at this;simpa using this
       have jX:=zx vH;clear vH qs;go_wp2_with fail;refine(jh _ _ _ _ KD _ Fx (by omega) (by omega)).mono ?_;rintro e w4 ⟨⟨v,rfl⟩,YW,uN⟩;have vA:zy 155 5 (w.heap.size+1) (w.heap.size+1) (z8 (KB++qU po ds lf (j+1))) w4:=by
        rw[jX.out];simpa using YW
       have JD:=Yk.trans uN;go_wp2;go_roundw
       case rel=>exact⟨j+1,by omega,by go_num,vA,JD⟩
       case measure=>simp[intOf];omega
     ·have hj':j=sc:=by omega
      subst hj';clear hFr hF xD;have vA:KB++qU po ds lf j=ZR true l j mi po gr fi ne ds:=by
       have e1:=wy.out;have e2:=HA.out;have e3:=LU.out;have e4:=oQ.out;have e5:=HLF.out;have e6:=HL.out;subst e1 e2 e4 e5 e6;unfold ZR;rw[←e3];try simp
      have kM:=zx vA;clear vA;go_wp2_with fail;refine(Tryz.Builder_String_any _ _ _ _ Fx (by omega)).mono ?_;rintro e w5 ⟨rfl,ju⟩;go_wp2;go_ret;exact⟨by rw[←kM.out];rfl,qG.trans (ju.mono (by omega))⟩
end Go.Proofs.YthpldolmpinnhaaGreatDoor
