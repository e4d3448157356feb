import Derived.Test.YthpldolmpinnhaaGreatDoorJK22
import Derived.Lib.Builder
import Derived.Lib.RuneBytes
set_option maxHeartbeats 64000000
open Go.Lib renaming encodeRune→z7,byteCells→z8,IsBuilder→zy,hid→zx,cell_of_heap→zY,BuilderAt→zJ,runeCells_le→zH
open List renaming getElem?_eq_getElem→zv,getElem_mem→zk,length_append→zj,getD_eq_getElem?_getD→zg,mem_of_mem_take→zG,mem_of_mem_drop→zF,range_succ→zE
open Go.RowKit.Below renaming refl→zu
open Option renaming getD_some→zf
open Int renaming toNat_natCast→zZ
open Go.Result renaming andThen→zX
open Go.Oper renaming upon_value→zV
open Nat renaming le_refl→zU
open Go.Addr renaming add→zQ
open Go.Extern.AbiNoEscape renaming same→zD
open Go.Proofs.Tryz
namespace Go.Proofs.YthpldolmpinnhaaGreatDoor
open Go Go.RowKit
set_option maxRecDepth 10000
theorem CQ:(prog.info? 155).map (fun j=>j.size)=some 2:=by kernel_rfl
theorem Df(B b:Nat)(bs:List Value)(w:World)(h:zy 155 5 B b bs w) :
  Calls prog 104 #[.pointer (some ⟨b,0,none⟩)] w fun e w'=>e = .returned (.tuple #[])/\zJ 155 5 B b (.pointer (some ⟨b,0,none⟩)) bs w'/\Below B w w':=by
 obtain⟨j,hj,hjs⟩:=Option.map_eq_some_iff.1 CQ;rcases h with h|h
 ·have h0:=h.cell0;have TK:=h.shape;have VA:=h.frozen0;have H:=zx h;clear h;go_enter func104,ntmps104;go_wp2;rw[Lib.run_to_unsafe w ⟨b,0,none⟩ underlying153 underlying159 hj (by rw[hjs];decide) TK (Nat.zero_lt_succ 1)];simp only[zX];rw[zV];go_wp2;rw[run_callFunc_extern func153 (by kernel_rfl) (by kernel_rfl) (by kernel_rfl) (e:=zD) (by kernel_rfl)];rw[Lib.run_noEscape];simp only[zX];rw[zV];go_wp2;rw[Lib.run_from_unsafe w ⟨b,0,none⟩ underlying159 underlying153 hj TK (by kernel_rfl)];simp only[zX];rw[zV];go_wp2;go_end0
  exact⟨rfl,H.out.used _,(zu B w).setCell (p:=⟨b,0,none⟩) H.out.1 _⟩
 ·have h0:=h.cell0;have H:=zx h;clear h;go_enter func104,ntmps104;go_wp2;rw[Lib.run_neq_ptr_same w _ underlying153 hj];go_wp2;go_end0
  exact⟨rfl,H.out,zu B _⟩
theorem Dd(B b:Nat)(bs:List Value)(r:Int)(vu : -2147483648<=r)(V2:r<=2147483647)(w:World)(h:zy 155 5 B b bs w)(hlen:bs.length+4<=140737488355328)(hBw:B<=w.heap.size) :
  Calls prog 69 #[.pointer (some ⟨b,0,none⟩),.int .i32 r] w fun e w'=>(∃ v,e = .returned v)/\zy 155 5 B b (bs++Lib.runeCells r) w'/\Below B w w':=by
 have fM:=zH r;go_enter func69,ntmps69;go_wp2_with fail;refine(Df B b bs _ h).mono ?_;rintro e w1 ⟨rfl,h1,xB⟩;obtain⟨hB,v,Zy,xV,vx⟩:=h1;obtain⟨ao,cap,rfl⟩:=xZ xV;have c0:w1.cell? ⟨b,0,none⟩=some (.pointer (some ⟨b,0,none⟩)):=by rw[zY Zy];rfl
 have c1:w1.cell? ⟨b,1,none⟩=some (.slice ao bs.length cap):=by rw[zY Zy];rfl
 have xC:b<w1.heap.size:=by
  rcases Nat.lt_or_ge b w1.heap.size with h' | h'
  ·exact h'
  ·simp[Array.getElem?_eq_none h'] at Zy
 go_wp2_with fail;refine(Tryz.utf8_AppendRune_plain B _ bs.length bs r vu V2 _ xV hlen (by have:=xB.size;omega)).mono ?_;rintro e w2 ⟨v',rfl,VU,o,uP⟩;have xD:w2.heap[b]? = some (.cells #[.pointer (some ⟨b,0,none⟩),.slice ao bs.length cap] 155 (0,0)):=by
  rw[uP.block b (by simp;omega) (fun e=>vx e.symm),Below.heap_alloc w1 _ b xC];exact Zy
 have d0:w2.cell? ⟨b,0,none⟩=some (.pointer (some ⟨b,0,none⟩)):=by rw[zY xD];rfl
 have d1:w2.cell? ⟨b,1,none⟩=some (.slice ao bs.length cap):=by rw[zY xD];rfl
 have f1:w2.frozen? ⟨b,1,none⟩=false:=Lib.frozen_of_heap xD 1;have ykq:=xZ VU;obtain⟨a',vh,rfl⟩:=ykq;have HO:=zx xV;have HO':=zx VU;have HN:=zx vx;clear xV VU vx;go_wp2;go_ret2
 refine⟨⟨_,rfl⟩,.inr ?_,?_⟩
 ·exact Lib.BuilderAt.put (T:=155) (e:=5) hB xD (bs':=bs++Lib.runeCells r) (by simpa using HO'.out) (by decide)
 ·exact((xB.alloc (by have:=xB.size;omega) _).grown uP (by have:=xB.size;simp;omega) (fun k hk=>(HO.out.lt k hk).1)).setCell (p:=⟨b,1,none⟩) hB _
structure Ib(w:World)(g:Nat)(mi po gr fi ne:Int)(ds:List Int):Prop where
 c2:w.cell? ⟨g,2,none⟩=some (.int .i32 mi)
 c3:w.cell? ⟨g,3,none⟩=some (.int .i32 po)
 c4:w.cell? ⟨g,4,none⟩=some (.int .i32 gr)
 c5:w.cell? ⟨g,5,none⟩=some (.int .i64 fi)
 c6:w.cell? ⟨g,6,none⟩=some (.int .i64 ne)
 len:ds.length=10
 c7:∀ j (h:j<ds.length),w.cell? ⟨g,7+j,none⟩=some (.int .i32 ds[j])
def Zf(gr fi ne:Int)(left:Nat):Bool:=gr !=0 && decide (0<fi) && decide (fi<=(left:Int)) && (((left:Int) - fi) % ne==0)
theorem GD(g:Nat)(mi po gr:Int)(fi ne:Nat)(ds:List Int)(left:Nat)(w:World)(h:Ib w g mi po gr fi ne ds)(hl:left<=1000000)(hf:fi<=255)(hn:0<fi->0<ne)(dy:ne<=255) :
  Calls prog 71 #[.pointer (some ⟨g,0,none⟩),.int .i64 left] w fun e w'=>e = .returned (.bool (Zf gr fi ne left))/\∃ n,w'=w.drewN n:=by
 have c4:=h.c4;have c5:=h.c5;have c6:=h.c6;clear h;by_cases h1:(gr !=0)=true
 ·by_cases h2:(0:Int)<(fi:Int)
  ·by_cases h3:(fi:Int)<=(left:Int)
   ·have h2n:0<fi:=by omega
    have h3n:fi<=left:=by omega
    have vS:Zf gr fi ne left=(((left:Int) - fi) % ne==0):=by simp[Zf,h1,h2n,h3n]
    have HF:=zx vS;clear vS;have vx:0<ne:=hn (by omega);have ng:¬((ne:Int)=0):=by omega
    have Ek:(0:Int)<=(left:Int) - (fi:Int):=by omega
    go_enter func71,ntmps71;go_wp2_with fail;go_quiet (fail)
    go_wp2;go_ret;exact⟨by rw[HF.out];rfl,nq,rfl⟩
   ·have h2n:0<fi:=by omega
    have h3n:¬fi<=left:=by omega
    have h3':(left:Int)<(fi:Int):=by omega
    have vS:Zf gr fi ne left=false:=by simp[Zf];omega
    have HF:=zx vS;clear vS;go_enter func71,ntmps71;go_wp2_with fail;go_quiet (fail)
    go_wp2;go_ret;exact⟨by rw[HF.out];rfl,nq,rfl⟩
  ·have h2n:fi=0:=by omega
   subst h2n;clear h2;have vS:Zf gr (0:Nat) ne left=false:=by simp[Zf]
   have HF:=zx vS;clear vS;go_enter func71,ntmps71;go_wp2_with fail;go_quiet (fail)
   go_wp2;go_ret;exact⟨by rw[HF.out];rfl,nq,rfl⟩
 ·have h1':(gr !=0)=false:=by simpa using h1
  have vS:Zf gr fi ne left=false:=by simp[Zf,h1']
  have HF:=zx vS;clear vS h1;go_enter func71,ntmps71;go_wp2_with fail;go_quiet (fail)
  go_wp2;go_ret;exact⟨by rw[HF.out];rfl,nq,rfl⟩
theorem S7(g o j:Nat):(⟨g,o,none⟩:Addr).add j=⟨g,o+j,none⟩:=by
 unfold zQ;split
 ·simp_all
 ·simp
theorem xK.take{w:World}{a:Option Addr}{l:List Int}(h:xK w a l)(m:Nat):xK w a (l.take m):=fun j hj=>by
 have TU:j<l.length:=by simp at hj;omega
 obtain⟨b,hb,hc⟩:=h j TU;exact⟨b,hb,by simpa using hc⟩
theorem xK.drop{w:World}{g o:Nat}{l:List Int}(h:xK w (some ⟨g,o,none⟩) l)(k:Nat):xK w (some ⟨g,o+k,none⟩) (l.drop k):=fun j hj=>by
 have TU:k+j<l.length:=by simp at hj;omega
 obtain⟨b,hb,hc⟩:=h (k+j) TU
 cases hb;refine⟨_,rfl,?_⟩;rw[S7] at hc ⊢;simpa[Nat.add_assoc] using hc
theorem Pg(g o:Nat)(n cap sc:Nat)(b:Bool)(l:List Int)(w:World)(hl:l.length=n)(hs:sc<=n)(YK:n<=cap)(hn:n<=1000000)(hB:xK w (some ⟨g,o,none⟩) l) :
  Calls prog 70 #[.agg #[.bool b,.slice (some ⟨g,o,none⟩) n cap,.int .i64 sc]] w fun e w'=>(∃ Y3 vh,e = .returned (.slice Y3 (n - sc) vh)/\(∀ q,Y3=some q->q.block=g)/\xK w' Y3 (l.take (n - sc)))/\Below w.heap.size w w':=by
 obtain⟨k,hk⟩:∃ k,n=k+sc:=⟨n - sc,by omega⟩;subst hk;rw[show k+sc - sc=k from by omega];have h0:(0:Int)<=((k+sc:Nat):Int) - (sc:Int):=by omega
 have h1:((k+sc:Nat):Int) - (sc:Int)=(k:Int):=by omega
 have h2:k<=cap:=by omega
 go_enter func70,ntmps70;go_wp2;go_ret;exact⟨⟨_,_,rfl,(by intro q hq;cases hq;rfl),(hB.alloc _).take k⟩,(zu _ _).alloc (zU _) _⟩
theorem IZ(g o:Nat)(n cap sc:Nat)(b:Bool)(l:List Int)(w:World)(hl:l.length=n)(hs:sc<=n)(YK:n<=cap)(hn:n<=1000000)(hB:xK w (some ⟨g,o,none⟩) l) :
  Calls prog 72 #[.agg #[.bool b,.slice (some ⟨g,o,none⟩) n cap,.int .i64 sc]] w fun e w'=>(∃ Y3 vh,e = .returned (.slice Y3 sc vh)/\(∀ q,Y3=some q->q.block=g)/\xK w' Y3 (l.drop (n - sc)))/\Below w.heap.size w w':=by
 obtain⟨k,hk⟩:∃ k,n=k+sc:=⟨n - sc,by omega⟩;subst hk;rw[show k+sc - sc=k from by omega];have h1:((k+sc:Nat):Int) - (sc:Int)=(k:Int):=by omega
 have h2:k<=cap:=by omega
 go_enter func72,ntmps72;by_cases l9:cap=k
 ·have hz:l.drop k=[]:=List.drop_of_length_le (by omega);have HZ:=zx hz;clear hz;go_wp2;go_ret;refine⟨⟨_,_,rfl,(by intro q hq;cases hq;rfl),?_⟩,(zu _ _).alloc (zU _) _⟩;rw[HZ.out];intro j hj;simp at hj
 ·go_wp2;go_ret;exact⟨⟨_,_,rfl,(by intro q hq;cases hq;rfl),(hB.alloc _).drop k⟩,(zu _ _).alloc (zU _) _⟩
theorem xK.dC{w w':World}{B:Nat}{a:Option Addr}{l:List Int}(h:xK w a l)(hb:Below B w w')(hq:∀ q,a=some q->q.block<B):xK w' a l:=fun j hj=>by
 obtain⟨b,xD,hc⟩:=h j hj;refine⟨b,xD,?_⟩;rw[hb.cell (by rw[addr_add];exact hq b xD)];exact hc
theorem Ib.below{w w':World}{B g:Nat}{mi po gr fi ne:Int}{ds:List Int}(h:Ib w g mi po gr fi ne ds)(hb:Below B w w')(hg:g<B):Ib w' g mi po gr fi ne ds where
 c2:=by rw[hb.cell (p:=⟨g,2,none⟩) hg];exact h.c2
 c3:=by rw[hb.cell (p:=⟨g,3,none⟩) hg];exact h.c3
 c4:=by rw[hb.cell (p:=⟨g,4,none⟩) hg];exact h.c4
 c5:=by rw[hb.cell (p:=⟨g,5,none⟩) hg];exact h.c5
 c6:=by rw[hb.cell (p:=⟨g,6,none⟩) hg];exact h.c6
 len:=h.len
 c7:=fun j hj=>by rw[hb.cell (p:=⟨g,7+j,none⟩) hg];exact h.c7 j hj
abbrev az(r:Int):Prop:=-2147483648<=r/\r<=2147483647
def Vv(ds l:List Int)(i:Nat):List UInt8:=z7 (ds.getD (l.getD i 0).toNat 0)
def gm(gr:Int)(fi ne:Nat)(ds l:List Int)(k:Nat):List UInt8 :=
 (List.range k).flatMap fun i=>(if 0<i && Zf gr fi ne (l.length - i) then z7 gr else [])++Vv ds l i
def qQ(po:Int)(ds l:List Int)(k:Nat):List UInt8 :=
 (List.range k).flatMap fun i=>(if i==0 then z7 po else [])++Vv ds l i
def YJ(neg:Bool)(l:List Int)(sc:Nat)(mi po gr:Int)(fi ne:Nat)(ds:List Int):List UInt8 :=
 (if neg then z7 mi else [])++gm gr fi ne ds (l.take (l.length - sc)) (l.length - sc)++qQ po ds (l.drop (l.length - sc)) sc
theorem K3(gr:Int)(fi ne:Nat)(ds l:List Int)(k:Nat):gm gr fi ne ds l (k+1)=gm gr fi ne ds l k++((if 0<k && Zf gr fi ne (l.length - k) then z7 gr else [])++Vv ds l k):=by
 simp[gm,zE]
theorem Vo(po:Int)(ds l:List Int)(k:Nat):qQ po ds l (k+1)=qQ po ds l k++((if k==0 then z7 po else [])++Vv ds l k):=by
 simp[qQ,zE]
theorem byteCells_append(a b:List UInt8):z8 (a++b)=z8 a++z8 b:=by simp[z8]
theorem jo(B b:Nat)(acc:List UInt8)(r:Int)(hr:az r)(w:World)(h:zy 155 5 B b (z8 acc) w)(hlen:acc.length<=1000000)(hBw:B<=w.heap.size) :
  Calls prog 69 #[.pointer (some ⟨b,0,none⟩),.int .i32 r] w fun e w'=>(∃ v,e = .returned v)/\zy 155 5 B b (z8 (acc++z7 r)) w'/\Below B w w':=by
 rw[byteCells_append,Lib.byteCells_encodeRune];exact Dd B b _ r hr.1 hr.2 w h (by simp[z8];omega) hBw
theorem gI(r:Int):(z7 r).length<=4:=by
 have:=(zH r).2;rw[Lib.runeCells_length] at this;exact this
theorem GB(gr:Int)(fi ne:Nat)(ds l:List Int):∀ k,(gm gr fi ne ds l k).length<=8*k
 | 0=>by simp[gm]
 | k+1=>by
  rw[K3];have:=GB gr fi ne ds l k;have h1:=gI gr;have h2:(Vv ds l k).length<=4:=gI _;simp only[zj];split<;>simp<;>omega
theorem K4(po:Int)(ds l:List Int):∀ k,(qQ po ds l k).length<=8*k
 | 0=>by simp[qQ]
 | k+1=>by
  rw[Vo];have:=K4 po ds l k;have h1:=gI po;have h2:(Vv ds l k).length<=4:=gI _;simp only[zj];split<;>simp<;>omega
theorem IsBuilder.later{T e:TypeId}{B b:Nat}{bs:List Value}{w w':World}(h:zy T e B b bs w)(hb:Below w.heap.size w w'):zy T e B b bs w':=by
 have key:∀ p,zJ T e B b p bs w->zJ T e B b p bs w':=fun p h=>by
  have xC:=h.lt;obtain⟨h1,v,h2,h3,h4⟩:=h;exact⟨h1,v,by rw[hb.block b xC];exact h2,bu h3 hb,h4⟩
 exact h.elim (fun x => .inl (key _ x)) (fun x => .inr (key _ x))
theorem IY(w:World)(B:Nat)(hB:B<=w.heap.size):zy 155 5 B w.heap.size (z8 []) (w.alloc (.cells #[.pointer none,.slice none 0 0] 155)) :=
 .inl ⟨hB,.slice none 0 0,by show(w.heap.push _)[w.heap.size]? = _;simp,World.ownsRow_nil _ _ _ _,by simp[Value.ownBlock]⟩
theorem dA{x:Int}(h:0<=x/\x<=9):∃ m:Nat,x=(m:Int)/\m<10:=⟨x.toNat,by omega,by omega⟩
theorem S8(g gd od cap sc n:Nat)(b:Bool)(l:List Int)(mi po gr:Int)(fi ne:Nat)(ds:List Int)(w:World)
  (hX:Ib w g mi po gr fi ne ds) (hg:g<w.heap.size) (hB:xK w (some ⟨gd,od,none⟩) l) (FW:gd<w.heap.size) (hl:l.length=n) (hs:sc<=n) (YK:n<=cap) (hn:n<=10000)
  (hd:∀ x∈l,0<=x/\x<=9) (h32:az mi/\az po/\az gr/\∀ x∈ds,az x) (o7:fi<=255) (vx:0<fi->0<ne) (o8:ne<=255) :
  Calls prog 45 #[.pointer (some ⟨g,0,none⟩),.agg #[.bool b,.slice (some ⟨gd,od,none⟩) n cap,.int .i64 sc]] w fun e w' =>
   e = .returned (xk (YJ b l sc mi po gr fi ne ds))/\Below w.heap.size w w':=by
 have c2:=hX.c2;have q9:¬(w.heap.size=g):=by omega
 go_enter func45,ntmps45;have Nd:∀ W:World,W=((w.alloc (.cells #[.bool b,.slice (some ⟨gd,od,none⟩) n cap,.int .i64 sc] 97)).alloc (.cells #[.pointer none,.slice none 0 0] 155)) ->
   Below w.heap.size w W/\W.heap.size=w.heap.size+2/\W.cell? ⟨w.heap.size,0,none⟩=some (.bool b)/\W.cell? ⟨w.heap.size,1,none⟩=some (.slice (some ⟨gd,od,none⟩) n cap)/\W.cell? ⟨w.heap.size,2,none⟩=some (.int .i64 sc) /\
   zy 155 5 (w.heap.size+1) (w.heap.size+1) (z8 []) W:=by
  intro W hW;subst hW;refine⟨((zu _ _).alloc (zU _) _).alloc (by simp) _,by simp,by go_simp,by go_simp,by go_simp,?_⟩;have:=IY (w.alloc (.cells #[.bool b,.slice (some ⟨gd,od,none⟩) n cap,.int .i64 sc] 97)) (w.heap.size+1) (by simp);simpa using this
 have hmi:=h32.1;have hpo:=h32.2.1;have Yo:=h32.2.2.1;have hds:=h32.2.2.2;obtain⟨XU,D1⟩:∃ a:List UInt8,a=if b then z7 mi else []:=⟨_,rfl⟩;have HA:=zx D1;have xx9:XU.length<=4:=by rw[D1];split;exact gI mi;simp
 clear D1 h32
 cases b
 ·go_wp2_with fail;refine vN ?_;intro W1 VD;obtain⟨xB,UL,gP,qY,jD,GC⟩:=Nd W1 VD;have ay:zy 155 5 (w.heap.size+1) (w.heap.size+1) (z8 XU) W1:=by rw[HA.out];exact GC
  clear VD Nd GC;have zxv:w.heap.size+2<=W1.heap.size:=by omega
  clear UL;have hX1:=hX.below xB hg;have Yh:=hB.dC xB (by intro q hq;cases hq;exact FW);refine(Pg gd od n cap sc _ l _ hl hs YK (by omega) Yh).mono ?_;rintro e w2 ⟨⟨a1,o9,rfl,r9,hI⟩,xD⟩;obtain⟨nw,hnw⟩:∃ k:Nat,k=n - sc:=⟨_,rfl⟩;obtain⟨lw,ax⟩:∃ k:List Int,k=l.take nw:=⟨_,rfl⟩;rw[←hnw] at hI ⊢;rw[←ax] at hI;have hlen:lw.length=nw:=by rw[ax];simp;omega
  have hdw:∀ x∈lw,0<=x/\x<=9:=fun x hx=>hd x (by rw[ax] at hx;exact zG hx)
  have av:=IsBuilder.later ay xD;have QQ:w.heap.size+2<=w2.heap.size:=by have:=xD.size;omega
  have S9:Below w.heap.size w w2:=xB.trans (xD.mono (by omega));have Aj:w2.cell? ⟨w.heap.size,0,none⟩=some (.bool false):=by rw[xD.cell (by simp;omega)];exact gP
  have Ev:w2.cell? ⟨w.heap.size,1,none⟩=some (.slice (some ⟨gd,od,none⟩) n cap):=by rw[xD.cell (by simp;omega)];exact qY
  have FE:w2.cell? ⟨w.heap.size,2,none⟩=some (.int .i64 sc):=by rw[xD.cell (by simp;omega)];exact jD
  clear gP qY jD ay xB Yh hX1 xD zxv;have Pf:=zx hnw;have lJ:=zx ax;have ykg:nw<=10000:=by omega
  have Yp:=zx hlen;have HL:=zx hl;clear hnw ax hlen hl;go_wp2;go_loopw [22] (fun i wr=>∃ k:Nat,k<=nw/\i = .int .i64 k/\zy 155 5 (w.heap.size+1) (w.heap.size+1) (z8 (XU++gm gr fi ne ds lw k)) wr/\Below (w.heap.size+1) w2 wr) (fun i _=>nw - (intOf i).toNat)
  case atStart=>exact⟨0,by omega,rfl,by simpa[gm] using av,zu _ _⟩
  case round =>
   obtain⟨k,hk,rfl,GC,Y1⟩:=hrel;have qG:Below w.heap.size w wr:=S9.trans (Y1.mono (by omega));have CK:=hX.below qG hg;have hIr:=hI.dC Y1 (by intro q hq;have:=r9 q hq;omega);have hzr:w.heap.size+2<=wr.heap.size:=by have:=Y1.size;omega
   have qz:(XU++gm gr fi ne ds lw k).length<=200000:=by have:=GB gr fi ne ds lw k;simp;omega
   by_cases xC:k<nw
   ·have Nb:k<lw.length:=by rw[Yp.out];exact xC
    obtain⟨q,rfl,vX⟩:=hIr k Nb;obtain⟨m,hm,GH⟩:=dA (hdw lw[k] (zk Nb));rw[hm] at vX;have CX:m<ds.length:=by rw[CK.len];exact GH
    have hdm:=CK.c7 m CX;have c4:=CK.c4;have K5:(nw:Int) - (k:Int)=((nw - k:Nat):Int):=by omega
    have kG:=K3 gr fi ne ds lw k;have GI:Vv ds lw k=z7 ds[m]:=by
     unfold Vv;simp only[zg,zv Nb,zf,hm,zZ,zv CX]
    rw[GI,Yp.out] at kG;have qs:=zx kG;have K6:=hds ds[m] (zk CX);have hxm:(0:Int)<=(m:Int):=by omega
    have au:m<10:=GH;clear hm GI kG;by_cases Cu:0<k
    ·go_wp2_with fail;refine(GD g mi po gr fi ne ds (nw - k) _ CK (by omega) o7 vx o8).mono ?_;rintro e w3 ⟨rfl,nq,rfl⟩;obtain⟨pb,mH⟩:∃ p,Zf gr fi ne (nw - k)=p:=⟨_,rfl⟩;rw[mH];have vL:=qs.out;rw[mH] at vL;have aq:decide (0<k)=true:=by simpa using Cu
     rw[aq,Bool.true_and] at vL;have jF:=zx vL;have aj:=IsBuilder.later GC (below_drewN (zu _ _) nq);have su:=below_drewN (zu (w.heap.size+1) wr) nq;have hdq:(wr.drewN nq).cell? ⟨g,7+m,none⟩=some (.int .i32 ds[m]):=hdm;clear qs vL aq mH
     cases pb
     ·go_wp2_with fail;refine(jo _ _ _ _ K6 _ aj (by omega) (by simp;omega)).mono ?_;rintro e w4 ⟨⟨v,rfl⟩,YG,uW⟩;have vS:zy 155 5 (w.heap.size+1) (w.heap.size+1) (z8 (XU++gm gr fi ne ds lw (k+1))) w4:=by
       rw[jF.out];simpa using YG
      have Kp:=Y1.trans (su.trans uW);go_wp2;go_roundw
      case rel=>exact⟨k+1,by omega,by go_num,vS,Kp⟩
      case measure=>simp[intOf];omega
     ·go_wp2_with fail;refine(jo _ _ _ _ Yo _ aj (by omega) (by simp;omega)).mono ?_;rintro e w4 ⟨⟨v,rfl⟩,YG,uW⟩;have ag:=uW.size;have zxk:w4.cell? ⟨g,7+m,none⟩=some (.int .i32 ds[m]):=by rw[uW.cell (by simp;omega)];exact hdq
      have Dz:(XU++gm gr fi ne ds lw k++z7 gr).length<=300000:=by have:=gI gr;rw[zj];omega
      go_wp2_with fail;refine(jo _ _ _ _ K6 _ YG (by omega) (by simp at ag;omega)).mono ?_;rintro e w5 ⟨⟨v5,rfl⟩,NZ,kZ⟩;have vS:zy 155 5 (w.heap.size+1) (w.heap.size+1) (z8 (XU++gm gr fi ne ds lw (k+1))) w5:=by
       rw[jF.out];simpa using NZ
      have Kp:=Y1.trans (su.trans (uW.trans kZ));go_wp2;go_roundw
      case rel=>exact⟨k+1,by omega,by go_num,vS,Kp⟩
      case measure=>simp[intOf];omega
    ·have zxj:k=0:=by omega
     subst zxj;clear Cu;have NY:wr.cell? q=some (.int .u8 m):=by rw[show q.add 0=q from by unfold zQ;simp] at vX;exact vX
     have vL:gm gr fi ne ds lw 1=gm gr fi ne ds lw 0++z7 ds[m]:=by simpa using qs.out
     have jF:=zx vL;clear vL vX qs;go_wp2_with fail;refine(jo _ _ _ _ K6 _ GC (by omega) (by omega)).mono ?_;rintro e w4 ⟨⟨v,rfl⟩,YG,uW⟩;have vS:zy 155 5 (w.heap.size+1) (w.heap.size+1) (z8 (XU++gm gr fi ne ds lw 1)) w4:=by
      rw[jF.out];simpa using YG
     have Kp:=Y1.trans uW;go_wp2;go_roundw
     case rel=>exact⟨1,by omega,by go_num,vS,Kp⟩
     case measure=>simp[intOf];omega
   ·have QY:k=nw:=by omega
    subst QY;clear hIr hI xC;have he0:wr.cell? ⟨w.heap.size,0,none⟩=some (.bool false):=by rw[Y1.cell (by simp)];exact Aj
    have Cx:wr.cell? ⟨w.heap.size,1,none⟩=some (.slice (some ⟨gd,od,none⟩) n cap):=by rw[Y1.cell (by simp)];exact Ev
    have Cy:wr.cell? ⟨w.heap.size,2,none⟩=some (.int .i64 sc):=by rw[Y1.cell (by simp)];exact FE
    have hBr:=hB.dC qG (by intro q hq;cases hq;exact FW);go_wp2_with fail;refine(IZ gd od n cap sc _ l _ HL.out hs YK (by omega) hBr).mono ?_;rintro e w3 ⟨⟨a2,cp2,rfl,rz,hF⟩,uD⟩;rw[←Pf.out] at hF;obtain⟨lf,af⟩:∃ x:List Int,x=l.drop k:=⟨_,rfl⟩;rw[←af] at hF;have hlen:lf.length=sc:=by rw[af];simp;have:=HL.out;have:=Pf.out;omega
    have hdf:∀ x∈lf,0<=x/\x<=9:=fun x hx=>hd x (by rw[af] at hx;exact zF hx)
    have aZ:=IsBuilder.later GC uD;have Li:w.heap.size+2<=w3.heap.size:=by have:=uD.size;omega
    have zxg:Below w.heap.size w w3:=qG.trans (uD.mono (by omega));obtain⟨K7,NV⟩:∃ x:List UInt8,x=XU++gm gr fi ne ds lw k:=⟨_,rfl⟩;rw[←NV] at aZ qz;have HLF:=zx af;have HFN:=zx hlen;have ry:=zx NV;clear af hlen NV GC uD he0 Cx Cy Aj Ev FE Y1 qG CK hzr hBr av S9 QQ;have hsc:sc<=10000:=by omega
    go_wp2;go_loopw [53] (fun i wr=>∃ k:Nat,k<=sc/\i = .int .i64 k/\zy 155 5 (w.heap.size+1) (w.heap.size+1) (z8 (K7++qQ po ds lf k)) wr/\Below (w.heap.size+1) w3 wr) (fun i _=>sc - (intOf i).toNat)
    case atStart=>exact⟨0,by omega,rfl,by simpa[qQ] using aZ,zu _ _⟩
    case round =>
     obtain⟨j,hj,rfl,GC,Y1⟩:=hrel;have qG:Below w.heap.size w wr:=zxg.trans (Y1.mono (by omega));have CK:=hX.below qG hg;have hFr:=hF.dC Y1 (by intro q hq;have:=rz q hq;omega);have hzr:w.heap.size+2<=wr.heap.size:=by have:=Y1.size;omega
     have K8:(K7++qQ po ds lf j).length<=400000:=by have:=K4 po ds lf j;simp;omega
     by_cases xC:j<sc
     ·have NU:j<lf.length:=by rw[HFN.out];exact xC
      obtain⟨q,rfl,vX⟩:=hFr j NU;obtain⟨m,hm,GH⟩:=dA (hdf lf[j] (zk NU));rw[hm] at vX;have CX:m<ds.length:=by rw[CK.len];exact GH
      have hdm:=CK.c7 m CX;have c3:=CK.c3;have kG:=Vo po ds lf j;have GI:Vv ds lf j=z7 ds[m]:=by
       unfold Vv;simp only[zg,zv NU,zf,hm,zZ,zv CX]
      rw[GI] at kG;have qs:=zx kG;have K6:=hds ds[m] (zk CX);have hxm:(0:Int)<=(m:Int):=by omega
      have au:m<10:=GH;clear hm GI kG;by_cases hj0:j=0
      ·subst hj0;have NY:wr.cell? q=some (.int .u8 m):=by rw[show q.add 0=q from by unfold zQ;simp] at vX;exact vX
       have vL:qQ po ds lf 1=qQ po ds lf 0++(z7 po++z7 ds[m]):=by simpa using qs.out
       have jF:=zx vL;clear vL vX qs;go_wp2_with fail;refine(jo _ _ _ _ hpo _ GC (by omega) (by omega)).mono ?_;rintro e w4 ⟨⟨v,rfl⟩,YG,uW⟩;have ag:=uW.size;have zxk:w4.cell? ⟨g,7+m,none⟩=some (.int .i32 ds[m]):=by rw[uW.cell (by simp;omega)];exact hdm
       have Dz:(K7++qQ po ds lf 0++z7 po).length<=500000:=by have:=gI po;rw[zj];omega
       go_wp2_with fail;refine(jo _ _ _ _ K6 _ YG (by omega) (by omega)).mono ?_;rintro e w5 ⟨⟨v5,rfl⟩,NZ,kZ⟩;have vS:zy 155 5 (w.heap.size+1) (w.heap.size+1) (z8 (K7++qQ po ds lf 1)) w5:=by
        rw[jF.out];simpa using NZ
       have Kp:=Y1.trans (uW.trans kZ);go_wp2;go_roundw
       case rel=>exact⟨1,by omega,by go_num,vS,Kp⟩
       case measure=>simp[intOf];omega
      ·have yj2:((j:Int)==0)=false:=by simpa using hj0
       have vL:qQ po ds lf (j+1)=qQ po ds lf j++z7 ds[m]:=by
        have:=qs.out;rw[show(j==0)=false from by simpa using hj0] at this;simpa using this
       have jF:=zx vL;clear vL qs;go_wp2_with fail;refine(jo _ _ _ _ K6 _ GC (by omega) (by omega)).mono ?_;rintro e w4 ⟨⟨v,rfl⟩,YG,uW⟩;have vS:zy 155 5 (w.heap.size+1) (w.heap.size+1) (z8 (K7++qQ po ds lf (j+1))) w4:=by
        rw[jF.out];simpa using YG
       have Kp:=Y1.trans uW;go_wp2;go_roundw
       case rel=>exact⟨j+1,by omega,by go_num,vS,Kp⟩
       case measure=>simp[intOf];omega
     ·have IX:j=sc:=by omega
      subst IX;clear hFr hF xC;have vS:K7++qQ po ds lf j=YJ false l j mi po gr fi ne ds:=by
       have e1:=ry.out;have e2:=HA.out;have e3:=Pf.out;have e4:=lJ.out;have e5:=HLF.out;have e6:=HL.out;subst e1 e2 e4 e5 e6;unfold YJ;rw[←e3];try simp
      have kI:=zx vS;clear vS;go_wp2_with fail;refine(Tryz.Builder_String_any _ _ _ _ GC (by omega)).mono ?_;rintro e w5 ⟨rfl,kZ⟩;go_wp2;go_ret;exact⟨by rw[←kI.out];rfl,qG.trans (kZ.mono (by omega))⟩
 ·go_wp2_with fail;refine vN ?_;intro W0 Ej;obtain⟨jg,Gf,zeu,Va,zxd,GC⟩:=Nd W0 Ej;clear Ej Nd;refine(jo _ _ _ _ hmi _ GC (by simp) (by omega)).mono ?_;rintro e W1 ⟨⟨v,rfl⟩,sq,qG⟩;have ay:zy 155 5 (w.heap.size+1) (w.heap.size+1) (z8 XU) W1:=by rw[HA.out];exact sq
  have xB:Below w.heap.size w W1:=jg.trans (qG.mono (by omega));have zxv:w.heap.size+2<=W1.heap.size:=by have:=qG.size;omega
  have gP:W1.cell? ⟨w.heap.size,0,none⟩=some (.bool true):=by rw[qG.cell (by simp)];exact zeu
  have qY:W1.cell? ⟨w.heap.size,1,none⟩=some (.slice (some ⟨gd,od,none⟩) n cap):=by rw[qG.cell (by simp)];exact Va
  have jD:W1.cell? ⟨w.heap.size,2,none⟩=some (.int .i64 sc):=by rw[qG.cell (by simp)];exact zxd
  clear jg Gf zeu Va zxd GC sq qG;go_wp2_with fail;have hX1:=hX.below xB hg;have Yh:=hB.dC xB (by intro q hq;cases hq;exact FW);refine(Pg gd od n cap sc _ l _ hl hs YK (by omega) Yh).mono ?_;rintro e w2 ⟨⟨a1,o9,rfl,r9,hI⟩,xD⟩;obtain⟨nw,hnw⟩:∃ k:Nat,k=n - sc:=⟨_,rfl⟩;obtain⟨lw,ax⟩:∃ k:List Int,k=l.take nw:=⟨_,rfl⟩;rw[←hnw] at hI ⊢;rw[←ax] at hI;have hlen:lw.length=nw:=by rw[ax];simp;omega
  have hdw:∀ x∈lw,0<=x/\x<=9:=fun x hx=>hd x (by rw[ax] at hx;exact zG hx)
  have av:=IsBuilder.later ay xD;have QQ:w.heap.size+2<=w2.heap.size:=by have:=xD.size;omega
  have S9:Below w.heap.size w w2:=xB.trans (xD.mono (by omega));have Aj:w2.cell? ⟨w.heap.size,0,none⟩=some (.bool true):=by rw[xD.cell (by simp;omega)];exact gP
  have Ev:w2.cell? ⟨w.heap.size,1,none⟩=some (.slice (some ⟨gd,od,none⟩) n cap):=by rw[xD.cell (by simp;omega)];exact qY
  have FE:w2.cell? ⟨w.heap.size,2,none⟩=some (.int .i64 sc):=by rw[xD.cell (by simp;omega)];exact jD
  clear gP qY jD ay xB Yh hX1 xD zxv;have Pf:=zx hnw;have lJ:=zx ax;have ykg:nw<=10000:=by omega
  have Yp:=zx hlen;have HL:=zx hl;clear hnw ax hlen hl;go_wp2;go_loopw [22] (fun i wr=>∃ k:Nat,k<=nw/\i = .int .i64 k/\zy 155 5 (w.heap.size+1) (w.heap.size+1) (z8 (XU++gm gr fi ne ds lw k)) wr/\Below (w.heap.size+1) w2 wr) (fun i _=>nw - (intOf i).toNat)
  case atStart=>exact⟨0,by omega,rfl,by simpa[gm] using av,zu _ _⟩
  case round =>
   obtain⟨k,hk,rfl,GC,Y1⟩:=hrel;have qG:Below w.heap.size w wr:=S9.trans (Y1.mono (by omega));have CK:=hX.below qG hg;have hIr:=hI.dC Y1 (by intro q hq;have:=r9 q hq;omega);have hzr:w.heap.size+2<=wr.heap.size:=by have:=Y1.size;omega
   have qz:(XU++gm gr fi ne ds lw k).length<=200000:=by have:=GB gr fi ne ds lw k;simp;omega
   by_cases xC:k<nw
   ·have Nb:k<lw.length:=by rw[Yp.out];exact xC
    obtain⟨q,rfl,vX⟩:=hIr k Nb;obtain⟨m,hm,GH⟩:=dA (hdw lw[k] (zk Nb));rw[hm] at vX;have CX:m<ds.length:=by rw[CK.len];exact GH
    have hdm:=CK.c7 m CX;have c4:=CK.c4;have K5:(nw:Int) - (k:Int)=((nw - k:Nat):Int):=by omega
    have kG:=K3 gr fi ne ds lw k;have GI:Vv ds lw k=z7 ds[m]:=by
     unfold Vv;simp only[zg,zv Nb,zf,hm,zZ,zv CX]
    rw[GI,Yp.out] at kG;have qs:=zx kG;have K6:=hds ds[m] (zk CX);have hxm:(0:Int)<=(m:Int):=by omega
    have au:m<10:=GH;clear hm GI kG;by_cases Cu:0<k
    ·go_wp2_with fail;refine(GD g mi po gr fi ne ds (nw - k) _ CK (by omega) o7 vx o8).mono ?_;rintro e w3 ⟨rfl,nq,rfl⟩;obtain⟨pb,mH⟩:∃ p,Zf gr fi ne (nw - k)=p:=⟨_,rfl⟩;rw[mH];have vL:=qs.out;rw[mH] at vL;have aq:decide (0<k)=true:=by simpa using Cu
     rw[aq,Bool.true_and] at vL;have jF:=zx vL;have aj:=IsBuilder.later GC (below_drewN (zu _ _) nq);have su:=below_drewN (zu (w.heap.size+1) wr) nq;have hdq:(wr.drewN nq).cell? ⟨g,7+m,none⟩=some (.int .i32 ds[m]):=hdm;clear qs vL aq mH
     cases pb
     ·go_wp2_with fail;refine(jo _ _ _ _ K6 _ aj (by omega) (by simp;omega)).mono ?_;rintro e w4 ⟨⟨v,rfl⟩,YG,uW⟩;have vS:zy 155 5 (w.heap.size+1) (w.heap.size+1) (z8 (XU++gm gr fi ne ds lw (k+1))) w4:=by
       rw[jF.out];simpa using YG
      have Kp:=Y1.trans (su.trans uW);go_wp2;go_roundw
      case rel=>exact⟨k+1,by omega,by go_num,vS,Kp⟩
      case measure=>simp[intOf];omega
     ·go_wp2_with fail;refine(jo _ _ _ _ Yo _ aj (by omega) (by simp;omega)).mono ?_;rintro e w4 ⟨⟨v,rfl⟩,YG,uW⟩;have ag:=uW.size;have zxk:w4.cell? ⟨g,7+m,none⟩=some (.int .i32 ds[m]):=by rw[uW.cell (by simp;omega)];exact hdq
      have Dz:(XU++gm gr fi ne ds lw k++z7 gr).length<=300000:=by have:=gI gr;rw[zj];omega
      go_wp2_with fail;refine(jo _ _ _ _ K6 _ YG (by omega) (by simp at ag;omega)).mono ?_;rintro e w5 ⟨⟨v5,rfl⟩,NZ,kZ⟩;have vS:zy 155 5 (w.heap.size+1) (w.heap.size+1) (z8 (XU++gm gr fi ne ds lw (k+1))) w5:=by
       rw[jF.out];simpa using NZ
      have Kp:=Y1.trans (su.trans (uW.trans kZ));go_wp2;go_roundw
      case rel=>exact⟨k+1,by omega,by go_num,vS,Kp⟩
      case measure=>simp[intOf];omega
    ·have zxj:k=0:=by omega
     subst zxj;clear Cu;have NY:wr.cell? q=some (.int .u8 m):=by rw[show q.add 0=q from by unfold zQ;simp] at vX;exact vX
     have vL:gm gr fi ne ds lw 1=gm gr fi ne ds lw 0++z7 ds[m]:=by simpa using qs.out
     have jF:=zx vL;clear vL vX qs;go_wp2_with fail;refine(jo _ _ _ _ K6 _ GC (by omega) (by omega)).mono ?_;rintro e w4 ⟨⟨v,rfl⟩,YG,uW⟩;have vS:zy 155 5 (w.heap.size+1) (w.heap.size+1) (z8 (XU++gm gr fi ne ds lw 1)) w4:=by
      rw[jF.out];simpa using YG
     have Kp:=Y1.trans uW;go_wp2;go_roundw
     case rel=>exact⟨1,by omega,by go_num,vS,Kp⟩
     case measure=>simp[intOf];omega
   ·have QY:k=nw:=by omega
    subst QY;clear hIr hI xC;have he0:wr.cell? ⟨w.heap.size,0,none⟩=some (.bool true):=by rw[Y1.cell (by simp)];exact Aj
    have Cx:wr.cell? ⟨w.heap.size,1,none⟩=some (.slice (some ⟨gd,od,none⟩) n cap):=by rw[Y1.cell (by simp)];exact Ev
    have Cy:wr.cell? ⟨w.heap.size,2,none⟩=some (.int .i64 sc):=by rw[Y1.cell (by simp)];exact FE
    have hBr:=hB.dC qG (by intro q hq;cases hq;exact FW);go_wp2_with fail;refine(IZ gd od n cap sc _ l _ HL.out hs YK (by omega) hBr).mono ?_;rintro e w3 ⟨⟨a2,cp2,rfl,rz,hF⟩,uD⟩;rw[←Pf.out] at hF;obtain⟨lf,af⟩:∃ x:List Int,x=l.drop k:=⟨_,rfl⟩;rw[←af] at hF;have hlen:lf.length=sc:=by rw[af];simp;have:=HL.out;have:=Pf.out;omega
    have hdf:∀ x∈lf,0<=x/\x<=9:=fun x hx=>hd x (by rw[af] at hx;exact zF hx)
    have aZ:=IsBuilder.later GC uD;have Li:w.heap.size+2<=w3.heap.size:=by have:=uD.size;omega
    have zxg:Below w.heap.size w w3:=qG.trans (uD.mono (by omega));obtain⟨K7,NV⟩:∃ x:List UInt8,x=XU++gm gr fi ne ds lw k:=⟨_,rfl⟩;rw[←NV] at aZ qz;have HLF:=zx af;have HFN:=zx hlen;have ry:=zx NV;clear af hlen NV GC uD he0 Cx Cy Aj Ev FE Y1 qG CK hzr hBr av S9 QQ;have hsc:sc<=10000:=by omega
    go_wp2;go_loopw [53] (fun i wr=>∃ k:Nat,k<=sc/\i = .int .i64 k/\zy 155 5 (w.heap.size+1) (w.heap.size+1) (z8 (K7++qQ po ds lf k)) wr/\Below (w.heap.size+1) w3 wr) (fun i _=>sc - (intOf i).toNat)
    case atStart=>exact⟨0,by omega,rfl,by simpa[qQ] using aZ,zu _ _⟩
    case round =>
     obtain⟨j,hj,rfl,GC,Y1⟩:=hrel;have qG:Below w.heap.size w wr:=zxg.trans (Y1.mono (by omega));have CK:=hX.below qG hg;have hFr:=hF.dC Y1 (by intro q hq;have:=rz q hq;omega);have hzr:w.heap.size+2<=wr.heap.size:=by have:=Y1.size;omega
     have K8:(K7++qQ po ds lf j).length<=400000:=by have:=K4 po ds lf j;simp;omega
     by_cases xC:j<sc
     ·have NU:j<lf.length:=by rw[HFN.out];exact xC
      obtain⟨q,rfl,vX⟩:=hFr j NU;obtain⟨m,hm,GH⟩:=dA (hdf lf[j] (zk NU));rw[hm] at vX;have CX:m<ds.length:=by rw[CK.len];exact GH
      have hdm:=CK.c7 m CX;have c3:=CK.c3;have kG:=Vo po ds lf j;have GI:Vv ds lf j=z7 ds[m]:=by
       unfold Vv;simp only[zg,zv NU,zf,hm,zZ,zv CX]
      rw[GI] at kG;have qs:=zx kG;have K6:=hds ds[m] (zk CX);have hxm:(0:Int)<=(m:Int):=by omega
      have au:m<10:=GH;clear hm GI kG;by_cases hj0:j=0
      ·subst hj0;have NY:wr.cell? q=some (.int .u8 m):=by rw[show q.add 0=q from by unfold zQ;simp] at vX;exact vX
       have vL:qQ po ds lf 1=qQ po ds lf 0++(z7 po++z7 ds[m]):=by simpa using qs.out
       have jF:=zx vL;clear vL vX qs;go_wp2_with fail;refine(jo _ _ _ _ hpo _ GC (by omega) (by omega)).mono ?_;rintro e w4 ⟨⟨v,rfl⟩,YG,uW⟩;have ag:=uW.size;have zxk:w4.cell? ⟨g,7+m,none⟩=some (.int .i32 ds[m]):=by rw[uW.cell (by simp;omega)];exact hdm
       have Dz:(K7++qQ po ds lf 0++z7 po).length<=500000:=by have:=gI po;rw[zj];omega
       go_wp2_with fail;refine(jo _ _ _ _ K6 _ YG (by omega) (by omega)).mono ?_;rintro e w5 ⟨⟨v5,rfl⟩,NZ,kZ⟩;have vS:zy 155 5 (w.heap.size+1) (w.heap.size+1) (z8 (K7++qQ po ds lf 1)) w5:=by
        rw[jF.out];simpa using NZ
       have Kp:=Y1.trans (uW.trans kZ);go_wp2;go_roundw
       case rel=>exact⟨1,by omega,by go_num,vS,Kp⟩
       case measure=>simp[intOf];omega
      ·have yj2:((j:Int)==0)=false:=by simpa using hj0
       have vL:qQ po ds lf (j+1)=qQ po ds lf j++z7 ds[m]:=by
        have:=qs.out;rw[show(j==0)=false from by simpa using hj0] at this;simpa using this
       have jF:=zx vL;clear vL qs;go_wp2_with fail;refine(jo _ _ _ _ K6 _ GC (by omega) (by omega)).mono ?_;rintro e w4 ⟨⟨v,rfl⟩,YG,uW⟩;have vS:zy 155 5 (w.heap.size+1) (w.heap.size+1) (z8 (K7++qQ po ds lf (j+1))) w4:=by
        rw[jF.out];simpa using YG
       have Kp:=Y1.trans uW;go_wp2;go_roundw
       case rel=>exact⟨j+1,by omega,by go_num,vS,Kp⟩
       case measure=>simp[intOf];omega
     ·have IX:j=sc:=by omega
      subst IX;clear hFr hF xC;have vS:K7++qQ po ds lf j=YJ true l j mi po gr fi ne ds:=by
       have e1:=ry.out;have e2:=HA.out;have e3:=Pf.out;have e4:=lJ.out;have e5:=HLF.out;have e6:=HL.out;subst e1 e2 e4 e5 e6;unfold YJ;rw[←e3];try simp
      have kI:=zx vS;clear vS;go_wp2_with fail;refine(Tryz.Builder_String_any _ _ _ _ GC (by omega)).mono ?_;rintro e w5 ⟨rfl,kZ⟩;go_wp2;go_ret;exact⟨by rw[←kI.out];rfl,qG.trans (kZ.mono (by omega))⟩
end Go.Proofs.YthpldolmpinnhaaGreatDoor
