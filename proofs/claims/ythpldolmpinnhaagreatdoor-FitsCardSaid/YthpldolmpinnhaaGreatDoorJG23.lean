import Derived.Test.YthpldolmpinnhaaGreatDoorJG22
import Derived.Lib.Builder
import Derived.Lib.RuneBytes
set_option maxHeartbeats 64000000
open Go.Lib renaming encodeRune→z7,byteCells→z8,IsBuilder→zy,hid→zx,cell_of_heap→zY,BuilderAt→zJ,runeCells_le→zH
open List renaming getElem?_eq_getElem→zv,getElem_mem→zk,length_append→zj,getD_eq_getElem?_getD→zg,mem_of_mem_take→zG,mem_of_mem_drop→zF,range_succ→zE
open Go.RowKit.Below renaming refl→zu
open Option renaming getD_some→zf
open Int renaming toNat_natCast→zZ
open Go.Result renaming andThen→zX
open Go.Oper renaming upon_value→zV
open Nat renaming le_refl→zU
open Go.Addr renaming add→zQ
open Go.Extern.AbiNoEscape renaming same→zD
open Go.Proofs.Tryz
namespace Go.Proofs.YthpldolmpinnhaaGreatDoor
open Go Go.RowKit
set_option maxRecDepth 10000
theorem Ed:(prog.info? 155).map (fun j=>j.size)=some 2:=by kernel_rfl
theorem Bv(B b:Nat)(bs:List Value)(w:World)(h:zy 155 5 B b bs w) :
  Calls prog 104 #[.pointer (some ⟨b,0,none⟩)] w fun e w'=>e = .returned (.tuple #[])/\zJ 155 5 B b (.pointer (some ⟨b,0,none⟩)) bs w'/\Below B w w':=by
 obtain⟨j,hj,hjs⟩:=Option.map_eq_some_iff.1 Ed;rcases h with h|h
 .have h0:=h.cell0;have A1:=h.shape;have Uk:=h.frozen0;have H:=zx h;clear h;go_enter func104,ntmps104;go_wp2;rw[Lib.run_to_unsafe w ⟨b,0,none⟩ underlying153 underlying159 hj (by rw[hjs];decide) A1 (Nat.zero_lt_succ 1)];simp only[zX];rw[zV];go_wp2;rw[run_callFunc_extern func153 (by kernel_rfl) (by kernel_rfl) (by kernel_rfl) (e:=zD) (by kernel_rfl)];rw[Lib.run_noEscape];simp only[zX];rw[zV];go_wp2;rw[Lib.run_from_unsafe w ⟨b,0,none⟩ underlying159 underlying153 hj A1 (by kernel_rfl)];simp only[zX];rw[zV];go_wp2;go_end0
  exact⟨rfl,H.out.used _,(zu B w).setCell (p:=⟨b,0,none⟩) H.out.1 _⟩
 .have h0:=h.cell0;have H:=zx h;clear h;go_enter func104,ntmps104;go_wp2;rw[Lib.run_neq_ptr_same w _ underlying153 hj];go_wp2;go_end0
  exact⟨rfl,H.out,zu B _⟩
theorem Bu(B b:Nat)(bs:List Value)(r:Int)(vg : -2147483648<=r)(VB:r<=2147483647)(w:World)(h:zy 155 5 B b bs w)(hlen:bs.length+4<=140737488355328)(hBw:B<=w.heap.size) :
  Calls prog 69 #[.pointer (some ⟨b,0,none⟩),.int .i32 r] w fun e w'=>(∃ v,e = .returned v)/\zy 155 5 B b (bs++Lib.runeCells r) w'/\Below B w w':=by
 have dV:=zH r;go_enter func69,ntmps69;go_wp2_with fail;refine(Bv B b bs _ h).mono ?_;rintro e w1 ⟨rfl,h1,xG⟩;obtain⟨hB,v,bP,xV,vy⟩:=h1;obtain⟨ao,cap,rfl⟩:=xf xV;have c0:w1.cell? ⟨b,0,none⟩=some (.pointer (some ⟨b,0,none⟩)):=by rw[zY bP];rfl
 have c1:w1.cell? ⟨b,1,none⟩=some (.slice ao bs.length cap):=by rw[zY bP];rfl
 have xB:b<w1.heap.size:=by
  rcases Nat.lt_or_ge b w1.heap.size with h' | h'
  .exact h'
  .simp[Array.getElem?_eq_none h'] at bP
 go_wp2_with fail;refine(Tryz.utf8_AppendRune_plain B _ bs.length bs r vg VB _ xV hlen (by have:=xG.size;omega)).mono ?_;rintro e w2 ⟨v',rfl,Vs,o,uA⟩;have xJ:w2.heap[b]? = some (.cells #[.pointer (some ⟨b,0,none⟩),.slice ao bs.length cap] 155 (0,0)):=by
  rw[uA.block b (by simp;omega) (fun e=>vy e.symm),Below.heap_alloc w1 _ b xB];exact bP
 have d0:w2.cell? ⟨b,0,none⟩=some (.pointer (some ⟨b,0,none⟩)):=by rw[zY xJ];rfl
 have d1:w2.cell? ⟨b,1,none⟩=some (.slice ao bs.length cap):=by rw[zY xJ];rfl
 have f1:w2.frozen? ⟨b,1,none⟩=false:=Lib.frozen_of_heap xJ 1;have ybq:=xf Vs;obtain⟨a',vw,rfl⟩:=ybq;have HO:=zx xV;have HO':=zx Vs;have HN:=zx vy;clear xV Vs vy;go_wp2;go_ret2
 refine⟨⟨_,rfl⟩,.inr ?_,?_⟩
 .exact Lib.BuilderAt.put (T:=155) (e:=5) hB xJ (bs':=bs++Lib.runeCells r) (by simpa using HO'.out) (by decide)
 .exact((xG.alloc (by have:=xG.size;omega) _).grown uA (by have:=xG.size;simp;omega) (fun k hk=>(HO.out.lt k hk).1)).setCell (p:=⟨b,1,none⟩) hB _
structure Eb(w:World)(g:Nat)(mi po gr fi ne:Int)(ds:List Int):Prop where
 c2:w.cell? ⟨g,2,none⟩=some (.int .i32 mi)
 c3:w.cell? ⟨g,3,none⟩=some (.int .i32 po)
 c4:w.cell? ⟨g,4,none⟩=some (.int .i32 gr)
 c5:w.cell? ⟨g,5,none⟩=some (.int .i64 fi)
 c6:w.cell? ⟨g,6,none⟩=some (.int .i64 ne)
 len:ds.length=10
 c7:∀ j (h:j<ds.length),w.cell? ⟨g,7+j,none⟩=some (.int .i32 ds[j])
def ZI(gr fi ne:Int)(left:Nat):Bool:=gr !=0 && decide (0<fi) && decide (fi<=(left:Int)) && (((left:Int) - fi) % ne==0)
theorem FJ(g:Nat)(mi po gr:Int)(fi ne:Nat)(ds:List Int)(left:Nat)(w:World)(h:Eb w g mi po gr fi ne ds)(hl:left<=1000000)(hf:fi<=255)(hn:0<fi->0<ne)(dN:ne<=255) :
  Calls prog 71 #[.pointer (some ⟨g,0,none⟩),.int .i64 left] w fun e w'=>e = .returned (.bool (ZI gr fi ne left))/\∃ n,w'=w.drewN n:=by
 have c4:=h.c4;have c5:=h.c5;have c6:=h.c6;clear h;by_cases h1:(gr !=0)=true
 .by_cases h2:(0:Int)<(fi:Int)
  .by_cases h3:(fi:Int)<=(left:Int)
   .have h2n:0<fi:=by omega
    have h3n:fi<=left:=by omega
    have ve:ZI gr fi ne left=(((left:Int) - fi) % ne==0):=by simp[ZI,h1,h2n,h3n]
    have HF:=zx ve;clear ve;have vy:0<ne:=hn (by omega);have pH:¬((ne:Int)=0):=by omega
    have Hu:(0:Int)<=(left:Int) - (fi:Int):=by omega
    go_enter func71,ntmps71;go_wp2_with fail;go_quiet (fail)
    go_wp2;go_ret;exact⟨by rw[HF.out];rfl,nq,rfl⟩
   .have h2n:0<fi:=by omega
    have h3n:¬fi<=left:=by omega
    have h3':(left:Int)<(fi:Int):=by omega
    have ve:ZI gr fi ne left=false:=by simp[ZI];omega
    have HF:=zx ve;clear ve;go_enter func71,ntmps71;go_wp2_with fail;go_quiet (fail)
    go_wp2;go_ret;exact⟨by rw[HF.out];rfl,nq,rfl⟩
  .have h2n:fi=0:=by omega
   subst h2n;clear h2;have ve:ZI gr (0:Nat) ne left=false:=by simp[ZI]
   have HF:=zx ve;clear ve;go_enter func71,ntmps71;go_wp2_with fail;go_quiet (fail)
   go_wp2;go_ret;exact⟨by rw[HF.out];rfl,nq,rfl⟩
 .have h1':(gr !=0)=false:=by simpa using h1
  have ve:ZI gr fi ne left=false:=by simp[ZI,h1']
  have HF:=zx ve;clear ve h1;go_enter func71,ntmps71;go_wp2_with fail;go_quiet (fail)
  go_wp2;go_ret;exact⟨by rw[HF.out];rfl,nq,rfl⟩
theorem TL(g o j:Nat):(⟨g,o,none⟩:Addr).add j=⟨g,o+j,none⟩:=by
 unfold zQ;split
 .simp_all
 .simp
theorem xK.take{w:World}{a:Option Addr}{l:List Int}(h:xK w a l)(m:Nat):xK w a (l.take m):=fun j hj=>by
 have Iu:j<l.length:=by simp at hj;omega
 obtain⟨b,hb,hc⟩:=h j Iu;exact⟨b,hb,by simpa using hc⟩
theorem xK.drop{w:World}{g o:Nat}{l:List Int}(h:xK w (some ⟨g,o,none⟩) l)(k:Nat):xK w (some ⟨g,o+k,none⟩) (l.drop k):=fun j hj=>by
 have Iu:k+j<l.length:=by simp at hj;omega
 obtain⟨b,hb,hc⟩:=h (k+j) Iu
 cases hb;refine⟨_,rfl,?_⟩;rw[TL] at hc |-
 simpa[Nat.add_assoc] using hc
theorem RO(g o:Nat)(n cap sc:Nat)(b:Bool)(l:List Int)(w:World)(hl:l.length=n)(hs:sc<=n)(Zm:n<=cap)(hn:n<=1000000)(hB:xK w (some ⟨g,o,none⟩) l) :
  Calls prog 70 #[.agg #[.bool b,.slice (some ⟨g,o,none⟩) n cap,.int .i64 sc]] w fun e w'=>(∃ YF vw,e = .returned (.slice YF (n - sc) vw)/\(∀ q,YF=some q->q.block=g)/\xK w' YF (l.take (n - sc)))/\Below w.heap.size w w':=by
 obtain⟨k,hk⟩:∃ k,n=k+sc:=⟨n - sc,by omega⟩;subst hk;rw[show k+sc - sc=k from by omega];have h0:(0:Int)<=((k+sc:Nat):Int) - (sc:Int):=by omega
 have h1:((k+sc:Nat):Int) - (sc:Int)=(k:Int):=by omega
 have h2:k<=cap:=by omega
 go_enter func70,ntmps70;go_wp2;go_ret;exact⟨⟨_,_,rfl,(by intro q hq;cases hq;rfl),(hB.alloc _).take k⟩,(zu _ _).alloc (zU _) _⟩
theorem LG(g o:Nat)(n cap sc:Nat)(b:Bool)(l:List Int)(w:World)(hl:l.length=n)(hs:sc<=n)(Zm:n<=cap)(hn:n<=1000000)(hB:xK w (some ⟨g,o,none⟩) l) :
  Calls prog 72 #[.agg #[.bool b,.slice (some ⟨g,o,none⟩) n cap,.int .i64 sc]] w fun e w'=>(∃ YF vw,e = .returned (.slice YF sc vw)/\(∀ q,YF=some q->q.block=g)/\xK w' YF (l.drop (n - sc)))/\Below w.heap.size w w':=by
 obtain⟨k,hk⟩:∃ k,n=k+sc:=⟨n - sc,by omega⟩;subst hk;rw[show k+sc - sc=k from by omega];have h1:((k+sc:Nat):Int) - (sc:Int)=(k:Int):=by omega
 have h2:k<=cap:=by omega
 go_enter func72,ntmps72;by_cases o8:cap=k
 .have hz:l.drop k=[]:=List.drop_of_length_le (by omega);have HZ:=zx hz;clear hz;go_wp2;go_ret;refine⟨⟨_,_,rfl,(by intro q hq;cases hq;rfl),?_⟩,(zu _ _).alloc (zU _) _⟩;rw[HZ.out];intro j hj;simp at hj
 .go_wp2;go_ret;exact⟨⟨_,_,rfl,(by intro q hq;cases hq;rfl),(hB.alloc _).drop k⟩,(zu _ _).alloc (zU _) _⟩
theorem xK.b6{w w':World}{B:Nat}{a:Option Addr}{l:List Int}(h:xK w a l)(hb:Below B w w')(hq:∀ q,a=some q->q.block<B):xK w' a l:=fun j hj=>by
 obtain⟨b,xJ,hc⟩:=h j hj;refine⟨b,xJ,?_⟩;rw[hb.cell (by rw[addr_add];exact hq b xJ)];exact hc
theorem Eb.below{w w':World}{B g:Nat}{mi po gr fi ne:Int}{ds:List Int}(h:Eb w g mi po gr fi ne ds)(hb:Below B w w')(hg:g<B):Eb w' g mi po gr fi ne ds where
 c2:=by rw[hb.cell (p:=⟨g,2,none⟩) hg];exact h.c2
 c3:=by rw[hb.cell (p:=⟨g,3,none⟩) hg];exact h.c3
 c4:=by rw[hb.cell (p:=⟨g,4,none⟩) hg];exact h.c4
 c5:=by rw[hb.cell (p:=⟨g,5,none⟩) hg];exact h.c5
 c6:=by rw[hb.cell (p:=⟨g,6,none⟩) hg];exact h.c6
 len:=h.len
 c7:=fun j hj=>by rw[hb.cell (p:=⟨g,7+j,none⟩) hg];exact h.c7 j hj
abbrev Av(r:Int):Prop:=-2147483648<=r/\r<=2147483647
def VP(ds l:List Int)(i:Nat):List UInt8:=z7 (ds.getD (l.getD i 0).toNat 0)
def fJ(gr:Int)(fi ne:Nat)(ds l:List Int)(k:Nat):List UInt8 :=
 (List.range k).flatMap fun i=>(if 0<i && ZI gr fi ne (l.length - i) then z7 gr else [])++VP ds l i
def qG(po:Int)(ds l:List Int)(k:Nat):List UInt8 :=
 (List.range k).flatMap fun i=>(if i==0 then z7 po else [])++VP ds l i
def Zn(neg:Bool)(l:List Int)(sc:Nat)(mi po gr:Int)(fi ne:Nat)(ds:List Int):List UInt8 :=
 (if neg then z7 mi else [])++fJ gr fi ne ds (l.take (l.length - sc)) (l.length - sc)++qG po ds (l.drop (l.length - sc)) sc
theorem KP(gr:Int)(fi ne:Nat)(ds l:List Int)(k:Nat):fJ gr fi ne ds l (k+1)=fJ gr fi ne ds l k++((if 0<k && ZI gr fi ne (l.length - k) then z7 gr else [])++VP ds l k):=by
 simp[fJ,zE]
theorem UU(po:Int)(ds l:List Int)(k:Nat):qG po ds l (k+1)=qG po ds l k++((if k==0 then z7 po else [])++VP ds l k):=by
 simp[qG,zE]
theorem byteCells_append(a b:List UInt8):z8 (a++b)=z8 a++z8 b:=by simp[z8]
theorem gZ(B b:Nat)(acc:List UInt8)(r:Int)(hr:Av r)(w:World)(h:zy 155 5 B b (z8 acc) w)(hlen:acc.length<=1000000)(hBw:B<=w.heap.size) :
  Calls prog 69 #[.pointer (some ⟨b,0,none⟩),.int .i32 r] w fun e w'=>(∃ v,e = .returned v)/\zy 155 5 B b (z8 (acc++z7 r)) w'/\Below B w w':=by
 rw[byteCells_append,Lib.byteCells_encodeRune];exact Bu B b _ r hr.1 hr.2 w h (by simp[z8];omega) hBw
theorem gh(r:Int):(z7 r).length<=4:=by
 have:=(zH r).2;rw[Lib.runeCells_length] at this;exact this
theorem FG(gr:Int)(fi ne:Nat)(ds l:List Int):∀ k,(fJ gr fi ne ds l k).length<=8*k
 | 0=>by simp[fJ]
 | k+1=>by
  rw[KP];have:=FG gr fi ne ds l k;have h1:=gh gr;have h2:(VP ds l k).length<=4:=gh _;simp only[zj];split<;>simp<;>omega
theorem KR(po:Int)(ds l:List Int):∀ k,(qG po ds l k).length<=8*k
 | 0=>by simp[qG]
 | k+1=>by
  rw[UU];have:=KR po ds l k;have h1:=gh po;have h2:(VP ds l k).length<=4:=gh _;simp only[zj];split<;>simp<;>omega
theorem IsBuilder.later{T e:TypeId}{B b:Nat}{bs:List Value}{w w':World}(h:zy T e B b bs w)(hb:Below w.heap.size w w'):zy T e B b bs w':=by
 have key:∀ p,zJ T e B b p bs w->zJ T e B b p bs w':=fun p h=>by
  have xB:=h.lt;obtain⟨h1,v,h2,h3,h4⟩:=h;exact⟨h1,v,by rw[hb.block b xB];exact h2,fR h3 hb,h4⟩
 exact h.elim (fun x => .inl (key _ x)) (fun x => .inr (key _ x))
theorem LF(w:World)(B:Nat)(hB:B<=w.heap.size):zy 155 5 B w.heap.size (z8 []) (w.alloc (.cells #[.pointer none,.slice none 0 0] 155)) :=
 .inl ⟨hB,.slice none 0 0,by show(w.heap.push _)[w.heap.size]? = _;simp,World.ownsRow_nil _ _ _ _,by simp[Value.ownBlock]⟩
theorem bX{x:Int}(h:0<=x/\x<=9):∃ m:Nat,x=(m:Int)/\m<10:=⟨x.toNat,by omega,by omega⟩
theorem Bl(g gd od cap sc n:Nat)(b:Bool)(l:List Int)(mi po gr:Int)(fi ne:Nat)(ds:List Int)(w:World)
  (hX:Eb w g mi po gr fi ne ds) (hg:g<w.heap.size) (hB:xK w (some ⟨gd,od,none⟩) l) (GV:gd<w.heap.size) (hl:l.length=n) (hs:sc<=n) (Zm:n<=cap) (hn:n<=10000)
  (hd:∀ x∈l,0<=x/\x<=9) (h32:Av mi/\Av po/\Av gr/\∀ x∈ds,Av x) (TM:fi<=255) (vy:0<fi->0<ne) (FD:ne<=255) :
  Calls prog 45 #[.pointer (some ⟨g,0,none⟩),.agg #[.bool b,.slice (some ⟨gd,od,none⟩) n cap,.int .i64 sc]] w fun e w' =>
   e = .returned (xg (Zn b l sc mi po gr fi ne ds))/\Below w.heap.size w w':=by
 have c2:=hX.c2;have qx:¬(w.heap.size=g):=by omega
 go_enter func45,ntmps45;have OO:∀ W:World,W=((w.alloc (.cells #[.bool b,.slice (some ⟨gd,od,none⟩) n cap,.int .i64 sc] 97)).alloc (.cells #[.pointer none,.slice none 0 0] 155)) ->
   Below w.heap.size w W/\W.heap.size=w.heap.size+2/\W.cell? ⟨w.heap.size,0,none⟩=some (.bool b)/\W.cell? ⟨w.heap.size,1,none⟩=some (.slice (some ⟨gd,od,none⟩) n cap)/\W.cell? ⟨w.heap.size,2,none⟩=some (.int .i64 sc) /\
   zy 155 5 (w.heap.size+1) (w.heap.size+1) (z8 []) W:=by
  intro W hW;subst hW;refine⟨((zu _ _).alloc (zU _) _).alloc (by simp) _,by simp,by go_simp,by go_simp,by go_simp,?_⟩;have:=LF (w.alloc (.cells #[.bool b,.slice (some ⟨gd,od,none⟩) n cap,.int .i64 sc] 97)) (w.heap.size+1) (by simp);simpa using this
 have hmi:=h32.1;have hpo:=h32.2.1;have XX:=h32.2.2.1;have hds:=h32.2.2.2;obtain⟨Xm,Dp⟩:∃ a:List UInt8,a=if b then z7 mi else []:=⟨_,rfl⟩;have HA:=zx Dp;have xju:Xm.length<=4:=by rw[Dp];split;exact gh mi;simp
 clear Dp h32
 cases b
 .go_wp2_with fail;refine vB ?_;intro W1 XY;obtain⟨xG,Qv,ff,qK,jT,FB⟩:=OO W1 XY;have eD:zy 155 5 (w.heap.size+1) (w.heap.size+1) (z8 Xm) W1:=by rw[HA.out];exact FB
  clear XY OO FB;have zkz:w.heap.size+2<=W1.heap.size:=by omega
  clear Qv;have hX1:=hX.below xG hg;have XF:=hB.b6 xG (by intro q hq;cases hq;exact GV);refine(RO gd od n cap sc _ l _ hl hs Zm (by omega) XF).mono ?_;rintro e w2 ⟨⟨a1,rZ,rfl,tR,hI⟩,xJ⟩;obtain⟨nw,hnw⟩:∃ k:Nat,k=n - sc:=⟨_,rfl⟩;obtain⟨lw,eB⟩:∃ k:List Int,k=l.take nw:=⟨_,rfl⟩;rw[<-hnw] at hI |-
  rw[<-eB] at hI;have hlen:lw.length=nw:=by rw[eB];simp;omega
  have hdw:∀ x∈lw,0<=x/\x<=9:=fun x hx=>hd x (by rw[eB] at hx;exact zG hx)
  have eC:=IsBuilder.later eD xJ;have Qw:w.heap.size+2<=w2.heap.size:=by have:=xJ.size;omega
  have TN:Below w.heap.size w w2:=xG.trans (xJ.mono (by omega));have ah:w2.cell? ⟨w.heap.size,0,none⟩=some (.bool false):=by rw[xJ.cell (by simp;omega)];exact ff
  have Hy:w2.cell? ⟨w.heap.size,1,none⟩=some (.slice (some ⟨gd,od,none⟩) n cap):=by rw[xJ.cell (by simp;omega)];exact qK
  have DI:w2.cell? ⟨w.heap.size,2,none⟩=some (.int .i64 sc):=by rw[xJ.cell (by simp;omega)];exact jT
  clear ff qK jT eD xG XF hX1 xJ zkz;have RP:=zx hnw;have oG:=zx eB;have ybg:nw<=10000:=by omega
  have XU:=zx hlen;have HL:=zx hl;clear hnw eB hlen hl;go_wp2;go_loopw [22] (fun i wr=>∃ k:Nat,k<=nw/\i = .int .i64 k/\zy 155 5 (w.heap.size+1) (w.heap.size+1) (z8 (Xm++fJ gr fi ne ds lw k)) wr/\Below (w.heap.size+1) w2 wr) (fun i _=>nw - (intOf i).toNat)
  case atStart=>exact⟨0,by omega,rfl,by simpa[fJ] using eC,zu _ _⟩
  case round =>
   obtain⟨k,hk,rfl,FB,YJ⟩:=hrel;have qB:Below w.heap.size w wr:=TN.trans (YJ.mono (by omega));have EZ:=hX.below qB hg;have hIr:=hI.b6 YJ (by intro q hq;have:=tR q hq;omega);have hzr:w.heap.size+2<=wr.heap.size:=by have:=YJ.size;omega
   have uN:(Xm++fJ gr fi ne ds lw k).length<=200000:=by have:=FG gr fi ne ds lw k;simp;omega
   by_cases xB:k<nw
   .have OP:k<lw.length:=by rw[XU.out];exact xB
    obtain⟨q,rfl,vQ⟩:=hIr k OP;obtain⟨m,hm,FC⟩:=bX (hdw lw[k] (zk OP));rw[hm] at vQ;have Ek:m<ds.length:=by rw[EZ.len];exact FC
    have hdm:=EZ.c7 m Ek;have c4:=EZ.c4;have KS:(nw:Int) - (k:Int)=((nw - k:Nat):Int):=by omega
    have kL:=KP gr fi ne ds lw k;have FE:VP ds lw k=z7 ds[m]:=by
     unfold VP;simp only[zg,zv OP,zf,hm,zZ,zv Ek]
    rw[FE,XU.out] at kL;have kz:=zx kL;have KT:=hds ds[m] (zk Ek);have hxm:(0:Int)<=(m:Int):=by omega
    have eE:m<10:=FC;clear hm FE kL;by_cases E0:0<k
    .go_wp2_with fail;refine(FJ g mi po gr fi ne ds (nw - k) _ EZ (by omega) TM vy FD).mono ?_;rintro e w3 ⟨rfl,nq,rfl⟩;obtain⟨pb,pq⟩:∃ p,ZI gr fi ne (nw - k)=p:=⟨_,rfl⟩;rw[pq];have vM:=kz.out;rw[pq] at vM;have eH:decide (0<k)=true:=by simpa using E0
     rw[eH,Bool.true_and] at vM;have jD:=zx vM;have eI:=IsBuilder.later FB (below_drewN (zu _ _) nq);have hbq:=below_drewN (zu (w.heap.size+1) wr) nq;have hdq:(wr.drewN nq).cell? ⟨g,7+m,none⟩=some (.int .i32 ds[m]):=hdm;clear kz vM eH pq
     cases pb
     .go_wp2_with fail;refine(gZ _ _ _ _ KT _ eI (by omega) (by simp;omega)).mono ?_;rintro e w4 ⟨⟨v,rfl⟩,Yn,ur⟩;have ve:zy 155 5 (w.heap.size+1) (w.heap.size+1) (z8 (Xm++fJ gr fi ne ds lw (k+1))) w4:=by
       rw[jD.out];simpa using Yn
      have KV:=YJ.trans (hbq.trans ur);go_wp2;go_roundw
      case rel=>exact⟨k+1,by omega,by go_num,ve,KV⟩
      case measure=>simp[intOf];omega
     .go_wp2_with fail;refine(gZ _ _ _ _ XX _ eI (by omega) (by simp;omega)).mono ?_;rintro e w4 ⟨⟨v,rfl⟩,Yn,ur⟩;have eL:=ur.size;have zkv:w4.cell? ⟨g,7+m,none⟩=some (.int .i32 ds[m]):=by rw[ur.cell (by simp;omega)];exact hdq
      have B4:(Xm++fJ gr fi ne ds lw k++z7 gr).length<=300000:=by have:=gh gr;rw[zj];omega
      go_wp2_with fail;refine(gZ _ _ _ _ KT _ Yn (by omega) (by simp at eL;omega)).mono ?_;rintro e w5 ⟨⟨v5,rfl⟩,OR,jW⟩;have ve:zy 155 5 (w.heap.size+1) (w.heap.size+1) (z8 (Xm++fJ gr fi ne ds lw (k+1))) w5:=by
       rw[jD.out];simpa using OR
      have KV:=YJ.trans (hbq.trans (ur.trans jW));go_wp2;go_roundw
      case rel=>exact⟨k+1,by omega,by go_num,ve,KV⟩
      case measure=>simp[intOf];omega
    .have zku:k=0:=by omega
     subst zku;clear E0;have OS:wr.cell? q=some (.int .u8 m):=by rw[show q.add 0=q from by unfold zQ;simp] at vQ;exact vQ
     have vM:fJ gr fi ne ds lw 1=fJ gr fi ne ds lw 0++z7 ds[m]:=by simpa using kz.out
     have jD:=zx vM;clear vM vQ kz;go_wp2_with fail;refine(gZ _ _ _ _ KT _ FB (by omega) (by omega)).mono ?_;rintro e w4 ⟨⟨v,rfl⟩,Yn,ur⟩;have ve:zy 155 5 (w.heap.size+1) (w.heap.size+1) (z8 (Xm++fJ gr fi ne ds lw 1)) w4:=by
      rw[jD.out];simpa using Yn
     have KV:=YJ.trans ur;go_wp2;go_roundw
     case rel=>exact⟨1,by omega,by go_num,ve,KV⟩
     case measure=>simp[intOf];omega
   .have Qr:k=nw:=by omega
    subst Qr;clear hIr hI xB;have he0:wr.cell? ⟨w.heap.size,0,none⟩=some (.bool false):=by rw[YJ.cell (by simp)];exact ah
    have Ch:wr.cell? ⟨w.heap.size,1,none⟩=some (.slice (some ⟨gd,od,none⟩) n cap):=by rw[YJ.cell (by simp)];exact Hy
    have Ct:wr.cell? ⟨w.heap.size,2,none⟩=some (.int .i64 sc):=by rw[YJ.cell (by simp)];exact DI
    have hBr:=hB.b6 qB (by intro q hq;cases hq;exact GV);go_wp2_with fail;refine(LG gd od n cap sc _ l _ HL.out hs Zm (by omega) hBr).mono ?_;rintro e w3 ⟨⟨a2,cp2,rfl,tS,hF⟩,ub⟩;rw[<-RP.out] at hF;obtain⟨lf,eM⟩:∃ x:List Int,x=l.drop k:=⟨_,rfl⟩;rw[<-eM] at hF;have hlen:lf.length=sc:=by rw[eM];simp;have:=HL.out;have:=RP.out;omega
    have hdf:∀ x∈lf,0<=x/\x<=9:=fun x hx=>hd x (by rw[eM] at hx;exact zF hx)
    have eN:=IsBuilder.later FB ub;have Ms:w.heap.size+2<=w3.heap.size:=by have:=ub.size;omega
    have zkq:Below w.heap.size w w3:=qB.trans (ub.mono (by omega));obtain⟨KW,OT⟩:∃ x:List UInt8,x=Xm++fJ gr fi ne ds lw k:=⟨_,rfl⟩;rw[<-OT] at eN uN;have HLF:=zx eM;have HFN:=zx hlen;have tW:=zx OT;clear eM hlen OT FB ub he0 Ch Ct ah Hy DI YJ qB EZ hzr hBr eC TN Qw;have hsc:sc<=10000:=by omega
    go_wp2;go_loopw [53] (fun i wr=>∃ k:Nat,k<=sc/\i = .int .i64 k/\zy 155 5 (w.heap.size+1) (w.heap.size+1) (z8 (KW++qG po ds lf k)) wr/\Below (w.heap.size+1) w3 wr) (fun i _=>sc - (intOf i).toNat)
    case atStart=>exact⟨0,by omega,rfl,by simpa[qG] using eN,zu _ _⟩
    case round =>
     obtain⟨j,hj,rfl,FB,YJ⟩:=hrel;have qB:Below w.heap.size w wr:=zkq.trans (YJ.mono (by omega));have EZ:=hX.below qB hg;have hFr:=hF.b6 YJ (by intro q hq;have:=tS q hq;omega);have hzr:w.heap.size+2<=wr.heap.size:=by have:=YJ.size;omega
     have KA:(KW++qG po ds lf j).length<=400000:=by have:=KR po ds lf j;simp;omega
     by_cases xB:j<sc
     .have OW:j<lf.length:=by rw[HFN.out];exact xB
      obtain⟨q,rfl,vQ⟩:=hFr j OW;obtain⟨m,hm,FC⟩:=bX (hdf lf[j] (zk OW));rw[hm] at vQ;have Ek:m<ds.length:=by rw[EZ.len];exact FC
      have hdm:=EZ.c7 m Ek;have c3:=EZ.c3;have kL:=UU po ds lf j;have FE:VP ds lf j=z7 ds[m]:=by
       unfold VP;simp only[zg,zv OW,zf,hm,zZ,zv Ek]
      rw[FE] at kL;have kz:=zx kL;have KT:=hds ds[m] (zk Ek);have hxm:(0:Int)<=(m:Int):=by omega
      have eE:m<10:=FC;clear hm FE kL;by_cases hj0:j=0
      .subst hj0;have OS:wr.cell? q=some (.int .u8 m):=by rw[show q.add 0=q from by unfold zQ;simp] at vQ;exact vQ
       have vM:qG po ds lf 1=qG po ds lf 0++(z7 po++z7 ds[m]):=by simpa using kz.out
       have jD:=zx vM;clear vM vQ kz;go_wp2_with fail;refine(gZ _ _ _ _ hpo _ FB (by omega) (by omega)).mono ?_;rintro e w4 ⟨⟨v,rfl⟩,Yn,ur⟩;have eL:=ur.size;have zkv:w4.cell? ⟨g,7+m,none⟩=some (.int .i32 ds[m]):=by rw[ur.cell (by simp;omega)];exact hdm
       have B4:(KW++qG po ds lf 0++z7 po).length<=500000:=by have:=gh po;rw[zj];omega
       go_wp2_with fail;refine(gZ _ _ _ _ KT _ Yn (by omega) (by omega)).mono ?_;rintro e w5 ⟨⟨v5,rfl⟩,OR,jW⟩;have ve:zy 155 5 (w.heap.size+1) (w.heap.size+1) (z8 (KW++qG po ds lf 1)) w5:=by
        rw[jD.out];simpa using OR
       have KV:=YJ.trans (ur.trans jW);go_wp2;go_roundw
       case rel=>exact⟨1,by omega,by go_num,ve,KV⟩
       case measure=>simp[intOf];omega
      .have ya2:((j:Int)==0)=false:=by simpa using hj0
       have vM:qG po ds lf (j+1)=qG po ds lf j++z7 ds[m]:=by
        have:=kz.out;rw[show(j==0)=false from by simpa using hj0] at this;simpa using this
       have jD:=zx vM;clear vM kz;go_wp2_with fail;refine(gZ _ _ _ _ KT _ FB (by omega) (by omega)).mono ?_;rintro e w4 ⟨⟨v,rfl⟩,Yn,ur⟩;have ve:zy 155 5 (w.heap.size+1) (w.heap.size+1) (z8 (KW++qG po ds lf (j+1))) w4:=by
        rw[jD.out];simpa using Yn
       have KV:=YJ.trans ur;go_wp2;go_roundw
       case rel=>exact⟨j+1,by omega,by go_num,ve,KV⟩
       case measure=>simp[intOf];omega
     .have hj':j=sc:=by omega
      subst hj';clear hFr hF xB;have ve:KW++qG po ds lf j=Zn false l j mi po gr fi ne ds:=by
       have e1:=tW.out;have e2:=HA.out;have e3:=RP.out;have e4:=oG.out;have e5:=HLF.out;have e6:=HL.out;subst e1 e2 e4 e5 e6;unfold Zn;rw[<-e3];try simp
      have kW:=zx ve;clear ve;go_wp2_with fail;refine(Tryz.Builder_String_any _ _ _ _ FB (by omega)).mono ?_;rintro e w5 ⟨rfl,jW⟩;go_wp2;go_ret;exact⟨by rw[<-kW.out];rfl,qB.trans (jW.mono (by omega))⟩
 .go_wp2_with fail;refine vB ?_;intro W0 Jf;obtain⟨jk,Fu,zo2,Uj,zkj,FB⟩:=OO W0 Jf;clear Jf OO;refine(gZ _ _ _ _ hmi _ FB (by simp) (by omega)).mono ?_;rintro e W1 ⟨⟨v,rfl⟩,zz3,qB⟩;have eD:zy 155 5 (w.heap.size+1) (w.heap.size+1) (z8 Xm) W1:=by rw[HA.out];exact zz3
  have xG:Below w.heap.size w W1:=jk.trans (qB.mono (by omega));have zkz:w.heap.size+2<=W1.heap.size:=by have:=qB.size;omega
  have ff:W1.cell? ⟨w.heap.size,0,none⟩=some (.bool true):=by rw[qB.cell (by simp)];exact zo2
  have qK:W1.cell? ⟨w.heap.size,1,none⟩=some (.slice (some ⟨gd,od,none⟩) n cap):=by rw[qB.cell (by simp)];exact Uj
  have jT:W1.cell? ⟨w.heap.size,2,none⟩=some (.int .i64 sc):=by rw[qB.cell (by simp)];exact zkj
  clear jk Fu zo2 Uj zkj FB zz3 qB;go_wp2_with fail;have hX1:=hX.below xG hg;have XF:=hB.b6 xG (by intro q hq;cases hq;exact GV);refine(RO gd od n cap sc _ l _ hl hs Zm (by omega) XF).mono ?_;rintro e w2 ⟨⟨a1,rZ,rfl,tR,hI⟩,xJ⟩;obtain⟨nw,hnw⟩:∃ k:Nat,k=n - sc:=⟨_,rfl⟩;obtain⟨lw,eB⟩:∃ k:List Int,k=l.take nw:=⟨_,rfl⟩;rw[<-hnw] at hI |-
  rw[<-eB] at hI;have hlen:lw.length=nw:=by rw[eB];simp;omega
  have hdw:∀ x∈lw,0<=x/\x<=9:=fun x hx=>hd x (by rw[eB] at hx;exact zG hx)
  have eC:=IsBuilder.later eD xJ;have Qw:w.heap.size+2<=w2.heap.size:=by have:=xJ.size;omega
  have TN:Below w.heap.size w w2:=xG.trans (xJ.mono (by omega));have ah:w2.cell? ⟨w.heap.size,0,none⟩=some (.bool true):=by rw[xJ.cell (by simp;omega)];exact ff
  have Hy:w2.cell? ⟨w.heap.size,1,none⟩=some (.slice (some ⟨gd,od,none⟩) n cap):=by rw[xJ.cell (by simp;omega)];exact qK
  have DI:w2.cell? ⟨w.heap.size,2,none⟩=some (.int .i64 sc):=by rw[xJ.cell (by simp;omega)];exact jT
  clear ff qK jT eD xG XF hX1 xJ zkz;have RP:=zx hnw;have oG:=zx eB;have ybg:nw<=10000:=by omega
  have XU:=zx hlen;have HL:=zx hl;clear hnw eB hlen hl;go_wp2;go_loopw [22] (fun i wr=>∃ k:Nat,k<=nw/\i = .int .i64 k/\zy 155 5 (w.heap.size+1) (w.heap.size+1) (z8 (Xm++fJ gr fi ne ds lw k)) wr/\Below (w.heap.size+1) w2 wr) (fun i _=>nw - (intOf i).toNat)
  case atStart=>exact⟨0,by omega,rfl,by simpa[fJ] using eC,zu _ _⟩
  case round =>
   obtain⟨k,hk,rfl,FB,YJ⟩:=hrel;have qB:Below w.heap.size w wr:=TN.trans (YJ.mono (by omega));have EZ:=hX.below qB hg;have hIr:=hI.b6 YJ (by intro q hq;have:=tR q hq;omega);have hzr:w.heap.size+2<=wr.heap.size:=by have:=YJ.size;omega
   have uN:(Xm++fJ gr fi ne ds lw k).length<=200000:=by have:=FG gr fi ne ds lw k;simp;omega
   by_cases xB:k<nw
   .have OP:k<lw.length:=by rw[XU.out];exact xB
    obtain⟨q,rfl,vQ⟩:=hIr k OP;obtain⟨m,hm,FC⟩:=bX (hdw lw[k] (zk OP));rw[hm] at vQ;have Ek:m<ds.length:=by rw[EZ.len];exact FC
    have hdm:=EZ.c7 m Ek;have c4:=EZ.c4;have KS:(nw:Int) - (k:Int)=((nw - k:Nat):Int):=by omega
    have kL:=KP gr fi ne ds lw k;have FE:VP ds lw k=z7 ds[m]:=by
     unfold VP;simp only[zg,zv OP,zf,hm,zZ,zv Ek]
    rw[FE,XU.out] at kL;have kz:=zx kL;have KT:=hds ds[m] (zk Ek);have hxm:(0:Int)<=(m:Int):=by omega
    have eE:m<10:=FC;clear hm FE kL;by_cases E0:0<k
    .go_wp2_with fail;refine(FJ g mi po gr fi ne ds (nw - k) _ EZ (by omega) TM vy FD).mono ?_;rintro e w3 ⟨rfl,nq,rfl⟩;obtain⟨pb,pq⟩:∃ p,ZI gr fi ne (nw - k)=p:=⟨_,rfl⟩;rw[pq];have vM:=kz.out;rw[pq] at vM;have eH:decide (0<k)=true:=by simpa using E0
     rw[eH,Bool.true_and] at vM;have jD:=zx vM;have eI:=IsBuilder.later FB (below_drewN (zu _ _) nq);have hbq:=below_drewN (zu (w.heap.size+1) wr) nq;have hdq:(wr.drewN nq).cell? ⟨g,7+m,none⟩=some (.int .i32 ds[m]):=hdm;clear kz vM eH pq
     cases pb
     .go_wp2_with fail;refine(gZ _ _ _ _ KT _ eI (by omega) (by simp;omega)).mono ?_;rintro e w4 ⟨⟨v,rfl⟩,Yn,ur⟩;have ve:zy 155 5 (w.heap.size+1) (w.heap.size+1) (z8 (Xm++fJ gr fi ne ds lw (k+1))) w4:=by
       rw[jD.out];simpa using Yn
      have KV:=YJ.trans (hbq.trans ur);go_wp2;go_roundw
      case rel=>exact⟨k+1,by omega,by go_num,ve,KV⟩
      case measure=>simp[intOf];omega
     .go_wp2_with fail;refine(gZ _ _ _ _ XX _ eI (by omega) (by simp;omega)).mono ?_;rintro e w4 ⟨⟨v,rfl⟩,Yn,ur⟩;have eL:=ur.size;have zkv:w4.cell? ⟨g,7+m,none⟩=some (.int .i32 ds[m]):=by rw[ur.cell (by simp;omega)];exact hdq
      have B4:(Xm++fJ gr fi ne ds lw k++z7 gr).length<=300000:=by have:=gh gr;rw[zj];omega
      go_wp2_with fail;refine(gZ _ _ _ _ KT _ Yn (by omega) (by simp at eL;omega)).mono ?_;rintro e w5 ⟨⟨v5,rfl⟩,OR,jW⟩;have ve:zy 155 5 (w.heap.size+1) (w.heap.size+1) (z8 (Xm++fJ gr fi ne ds lw (k+1))) w5:=by
       rw[jD.out];simpa using OR
      have KV:=YJ.trans (hbq.trans (ur.trans jW));go_wp2;go_roundw
      case rel=>exact⟨k+1,by omega,by go_num,ve,KV⟩
      case measure=>simp[intOf];omega
    .have zku:k=0:=by omega
     subst zku;clear E0;have OS:wr.cell? q=some (.int .u8 m):=by rw[show q.add 0=q from by unfold zQ;simp] at vQ;exact vQ
     have vM:fJ gr fi ne ds lw 1=fJ gr fi ne ds lw 0++z7 ds[m]:=by simpa using kz.out
     have jD:=zx vM;clear vM vQ kz;go_wp2_with fail;refine(gZ _ _ _ _ KT _ FB (by omega) (by omega)).mono ?_;rintro e w4 ⟨⟨v,rfl⟩,Yn,ur⟩;have ve:zy 155 5 (w.heap.size+1) (w.heap.size+1) (z8 (Xm++fJ gr fi ne ds lw 1)) w4:=by
      rw[jD.out];simpa using Yn
     have KV:=YJ.trans ur;go_wp2;go_roundw
     case rel=>exact⟨1,by omega,by go_num,ve,KV⟩
     case measure=>simp[intOf];omega
   .have Qr:k=nw:=by omega
    subst Qr;clear hIr hI xB;have he0:wr.cell? ⟨w.heap.size,0,none⟩=some (.bool true):=by rw[YJ.cell (by simp)];exact ah
    have Ch:wr.cell? ⟨w.heap.size,1,none⟩=some (.slice (some ⟨gd,od,none⟩) n cap):=by rw[YJ.cell (by simp)];exact Hy
    have Ct:wr.cell? ⟨w.heap.size,2,none⟩=some (.int .i64 sc):=by rw[YJ.cell (by simp)];exact DI
    have hBr:=hB.b6 qB (by intro q hq;cases hq;exact GV);go_wp2_with fail;refine(LG gd od n cap sc _ l _ HL.out hs Zm (by omega) hBr).mono ?_;rintro e w3 ⟨⟨a2,cp2,rfl,tS,hF⟩,ub⟩;rw[<-RP.out] at hF;obtain⟨lf,eM⟩:∃ x:List Int,x=l.drop k:=⟨_,rfl⟩;rw[<-eM] at hF;have hlen:lf.length=sc:=by rw[eM];simp;have:=HL.out;have:=RP.out;omega
    have hdf:∀ x∈lf,0<=x/\x<=9:=fun x hx=>hd x (by rw[eM] at hx;exact zF hx)
    have eN:=IsBuilder.later FB ub;have Ms:w.heap.size+2<=w3.heap.size:=by have:=ub.size;omega
    have zkq:Below w.heap.size w w3:=qB.trans (ub.mono (by omega));obtain⟨KW,OT⟩:∃ x:List UInt8,x=Xm++fJ gr fi ne ds lw k:=⟨_,rfl⟩;rw[<-OT] at eN uN;have HLF:=zx eM;have HFN:=zx hlen;have tW:=zx OT;clear eM hlen OT FB ub he0 Ch Ct ah Hy DI YJ qB EZ hzr hBr eC TN Qw;have hsc:sc<=10000:=by omega
    go_wp2;go_loopw [53] (fun i wr=>∃ k:Nat,k<=sc/\i = .int .i64 k/\zy 155 5 (w.heap.size+1) (w.heap.size+1) (z8 (KW++qG po ds lf k)) wr/\Below (w.heap.size+1) w3 wr) (fun i _=>sc - (intOf i).toNat)
    case atStart=>exact⟨0,by omega,rfl,by simpa[qG] using eN,zu _ _⟩
    case round =>
     obtain⟨j,hj,rfl,FB,YJ⟩:=hrel;have qB:Below w.heap.size w wr:=zkq.trans (YJ.mono (by omega));have EZ:=hX.below qB hg;have hFr:=hF.b6 YJ (by intro q hq;have:=tS q hq;omega);have hzr:w.heap.size+2<=wr.heap.size:=by have:=YJ.size;omega
     have KA:(KW++qG po ds lf j).length<=400000:=by have:=KR po ds lf j;simp;omega
     by_cases xB:j<sc
     .have OW:j<lf.length:=by rw[HFN.out];exact xB
      obtain⟨q,rfl,vQ⟩:=hFr j OW;obtain⟨m,hm,FC⟩:=bX (hdf lf[j] (zk OW));rw[hm] at vQ;have Ek:m<ds.length:=by rw[EZ.len];exact FC
      have hdm:=EZ.c7 m Ek;have c3:=EZ.c3;have kL:=UU po ds lf j;have FE:VP ds lf j=z7 ds[m]:=by
       unfold VP;simp only[zg,zv OW,zf,hm,zZ,zv Ek]
      rw[FE] at kL;have kz:=zx kL;have KT:=hds ds[m] (zk Ek);have hxm:(0:Int)<=(m:Int):=by omega
      have eE:m<10:=FC;clear hm FE kL;by_cases hj0:j=0
      .subst hj0;have OS:wr.cell? q=some (.int .u8 m):=by rw[show q.add 0=q from by unfold zQ;simp] at vQ;exact vQ
       have vM:qG po ds lf 1=qG po ds lf 0++(z7 po++z7 ds[m]):=by simpa using kz.out
       have jD:=zx vM;clear vM vQ kz;go_wp2_with fail;refine(gZ _ _ _ _ hpo _ FB (by omega) (by omega)).mono ?_;rintro e w4 ⟨⟨v,rfl⟩,Yn,ur⟩;have eL:=ur.size;have zkv:w4.cell? ⟨g,7+m,none⟩=some (.int .i32 ds[m]):=by rw[ur.cell (by simp;omega)];exact hdm
       have B4:(KW++qG po ds lf 0++z7 po).length<=500000:=by have:=gh po;rw[zj];omega
       go_wp2_with fail;refine(gZ _ _ _ _ KT _ Yn (by omega) (by omega)).mono ?_;rintro e w5 ⟨⟨v5,rfl⟩,OR,jW⟩;have ve:zy 155 5 (w.heap.size+1) (w.heap.size+1) (z8 (KW++qG po ds lf 1)) w5:=by
        rw[jD.out];simpa using OR
       have KV:=YJ.trans (ur.trans jW);go_wp2;go_roundw
       case rel=>exact⟨1,by omega,by go_num,ve,KV⟩
       case measure=>simp[intOf];omega
      .have ya2:((j:Int)==0)=false:=by simpa using hj0
       have vM:qG po ds lf (j+1)=qG po ds lf j++z7 ds[m]:=by
        have:=kz.out;rw[show(j==0)=false from by simpa using hj0] at this;simpa using this
       have jD:=zx vM;clear vM kz;go_wp2_with fail;refine(gZ _ _ _ _ KT _ FB (by omega) (by omega)).mono ?_;rintro e w4 ⟨⟨v,rfl⟩,Yn,ur⟩;have ve:zy 155 5 (w.heap.size+1) (w.heap.size+1) (z8 (KW++qG po ds lf (j+1))) w4:=by
        rw[jD.out];simpa using Yn
       have KV:=YJ.trans ur;go_wp2;go_roundw
       case rel=>exact⟨j+1,by omega,by go_num,ve,KV⟩
       case measure=>simp[intOf];omega
     .have hj':j=sc:=by omega
      subst hj';clear hFr hF xB;have ve:KW++qG po ds lf j=Zn true l j mi po gr fi ne ds:=by
       have e1:=tW.out;have e2:=HA.out;have e3:=RP.out;have e4:=oG.out;have e5:=HLF.out;have e6:=HL.out;subst e1 e2 e4 e5 e6;unfold Zn;rw[<-e3];try simp
      have kW:=zx ve;clear ve;go_wp2_with fail;refine(Tryz.Builder_String_any _ _ _ _ FB (by omega)).mono ?_;rintro e w5 ⟨rfl,jW⟩;go_wp2;go_ret;exact⟨by rw[<-kW.out];rfl,qB.trans (jW.mono (by omega))⟩
end Go.Proofs.YthpldolmpinnhaaGreatDoor
