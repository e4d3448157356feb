import Derived.Test.YthpldolmpinnhaaGreatDoorJP20
import Derived.Lib.Builder
import Derived.Lib.RuneBytes
set_option maxHeartbeats 64000000
open Go.Lib renaming encodeRune→z7,byteCells→z8,IsBuilder→zy,hid→zx,cell_of_heap→zY,BuilderAt→zJ,runeCells_le→zH
open List renaming getElem?_eq_getElem→zv,getElem_mem→zk,length_append→zj,getD_eq_getElem?_getD→zg,mem_of_mem_take→zG,mem_of_mem_drop→zF,range_succ→zE
open Go.RowKit.Below renaming refl→zu
open Option renaming getD_some→zf
open Int renaming toNat_natCast→zZ
open Go.Result renaming andThen→zX
open Go.Oper renaming upon_value→zV
open Nat renaming le_refl→zU
open Go.Addr renaming add→zQ
open Go.Extern.AbiNoEscape renaming same→zD
open Go.Proofs.Tryz
namespace Go.Proofs.YthpldolmpinnhaaGreatDoor
open Go Go.RowKit
set_option maxRecDepth 10000
theorem CT:(prog.info? 155).map (fun j=>j.size)=some 2:=by kernel_rfl
theorem DI(B b:Nat)(bs:List Value)(w:World)(h:zy 155 5 B b bs w) :
  Calls prog 104 #[.pointer (some ⟨b,0,none⟩)] w fun e w'=>e = .returned (.tuple #[])/\zJ 155 5 B b (.pointer (some ⟨b,0,none⟩)) bs w'/\Below B w w':=by
 obtain⟨j,hj,hjs⟩:=Option.map_eq_some_iff.1 CT;rcases h with h|h
 ·have h0:=h.cell0;have Jh:=h.shape;have U3:=h.frozen0;have H:=zx h;clear h;go_enter func104,ntmps104;go_wp2;rw[Lib.run_to_unsafe w ⟨b,0,none⟩ underlying153 underlying159 hj (by rw[hjs];decide) Jh (Nat.zero_lt_succ 1)];simp only[zX];rw[zV];go_wp2;rw[run_callFunc_extern func153 (by kernel_rfl) (by kernel_rfl) (by kernel_rfl) (e:=zD) (by kernel_rfl)];rw[Lib.run_noEscape];simp only[zX];rw[zV];go_wp2;rw[Lib.run_from_unsafe w ⟨b,0,none⟩ underlying159 underlying153 hj Jh (by kernel_rfl)];simp only[zX];rw[zV];go_wp2;go_end0
  exact⟨rfl,H.out.used _,(zu B w).setCell (p:=⟨b,0,none⟩) H.out.1 _⟩
 ·have h0:=h.cell0;have H:=zx h;clear h;go_enter func104,ntmps104;go_wp2;rw[Lib.run_neq_ptr_same w _ underlying153 hj];go_wp2;go_end0
  exact⟨rfl,H.out,zu B _⟩
theorem DL(B b:Nat)(bs:List Value)(r:Int)(vZ : -2147483648<=r)(Vg:r<=2147483647)(w:World)(h:zy 155 5 B b bs w)(hlen:bs.length+4<=140737488355328)(hBw:B<=w.heap.size) :
  Calls prog 69 #[.pointer (some ⟨b,0,none⟩),.int .i32 r] w fun e w'=>(∃ v,e = .returned v)/\zy 155 5 B b (bs++Lib.runeCells r) w'/\Below B w w':=by
 have du:=zH r;go_enter func69,ntmps69;go_wp2_with fail;refine(DI B b bs _ h).mono ?_;rintro e w1 ⟨rfl,h1,xH⟩;obtain⟨hB,v,ZJ,xJ,xw⟩:=h1;obtain⟨ao,cap,rfl⟩:=xY xJ;have c0:w1.cell? ⟨b,0,none⟩=some (.pointer (some ⟨b,0,none⟩)):=by rw[zY ZJ];rfl
 have c1:w1.cell? ⟨b,1,none⟩=some (.slice ao bs.length cap):=by rw[zY ZJ];rfl
 have xC:b<w1.heap.size:=by
  rcases Nat.lt_or_ge b w1.heap.size with h' | h'
  ·exact h'
  ·simp[Array.getElem?_eq_none h'] at ZJ
 go_wp2_with fail;refine(Tryz.utf8_AppendRune_plain B _ bs.length bs r vZ Vg _ xJ hlen (by have:=xH.size;omega)).mono ?_;rintro e w2 ⟨v',rfl,VP,o,um⟩;have xB:w2.heap[b]? = some (.cells #[.pointer (some ⟨b,0,none⟩),.slice ao bs.length cap] 155 (0,0)):=by
  rw[um.block b (by simp;omega) (fun e=>xw e.symm),Below.heap_alloc w1 _ b xC];exact ZJ
 have d0:w2.cell? ⟨b,0,none⟩=some (.pointer (some ⟨b,0,none⟩)):=by rw[zY xB];rfl
 have d1:w2.cell? ⟨b,1,none⟩=some (.slice ao bs.length cap):=by rw[zY xB];rfl
 have f1:w2.frozen? ⟨b,1,none⟩=false:=Lib.frozen_of_heap xB 1;have yfb:=xY VP;obtain⟨a',uy,rfl⟩:=yfb;have HO:=zx xJ;have HO':=zx VP;have HN:=zx xw;clear xJ VP xw;go_wp2;go_ret2
 refine⟨⟨_,rfl⟩,.inr ?_,?_⟩
 ·exact Lib.BuilderAt.put (T:=155) (e:=5) hB xB (bs':=bs++Lib.runeCells r) (by simpa using HO'.out) (by decide)
 ·exact((xH.alloc (by have:=xH.size;omega) _).grown um (by have:=xH.size;simp;omega) (fun k hk=>(HO.out.lt k hk).1)).setCell (p:=⟨b,1,none⟩) hB _
structure CW(w:World)(g:Nat)(mi po gr fi ne:Int)(ds:List Int):Prop where
 c2:w.cell? ⟨g,2,none⟩=some (.int .i32 mi)
 c3:w.cell? ⟨g,3,none⟩=some (.int .i32 po)
 c4:w.cell? ⟨g,4,none⟩=some (.int .i32 gr)
 c5:w.cell? ⟨g,5,none⟩=some (.int .i64 fi)
 c6:w.cell? ⟨g,6,none⟩=some (.int .i64 ne)
 len:ds.length=10
 c7:∀ j (h:j<ds.length),w.cell? ⟨g,7+j,none⟩=some (.int .i32 ds[j])
def fK(gr fi ne:Int)(left:Nat):Bool:=gr !=0 && decide (0<fi) && decide (fi<=(left:Int)) && (((left:Int) - fi) % ne==0)
theorem Gi(g:Nat)(mi po gr:Int)(fi ne:Nat)(ds:List Int)(left:Nat)(w:World)(h:CW w g mi po gr fi ne ds)(hl:left<=1000000)(hf:fi<=255)(hn:0<fi->0<ne)(dE:ne<=255) :
  Calls prog 71 #[.pointer (some ⟨g,0,none⟩),.int .i64 left] w fun e w'=>e = .returned (.bool (fK gr fi ne left))/\∃ n,w'=w.drewN n:=by
 have c4:=h.c4;have c5:=h.c5;have c6:=h.c6;clear h;by_cases h1:(gr !=0)=true
 ·by_cases h2:(0:Int)<(fi:Int)
  ·by_cases h3:(fi:Int)<=(left:Int)
   ·have h2n:0<fi:=by omega
    have h3n:fi<=left:=by omega
    have ve:fK gr fi ne left=(((left:Int) - fi) % ne==0):=by simp[fK,h1,h2n,h3n]
    have HF:=zx ve;clear ve;have xw:0<ne:=hn (by omega);have oE:¬((ne:Int)=0):=by omega
    have EH:(0:Int)<=(left:Int) - (fi:Int):=by omega
    go_enter func71,ntmps71;go_wp2_with fail;go_quiet (fail)
    go_wp2;go_ret;exact⟨by rw[HF.out];rfl,nq,rfl⟩
   ·have h2n:0<fi:=by omega
    have h3n:¬fi<=left:=by omega
    have h3':(left:Int)<(fi:Int):=by omega
    have ve:fK gr fi ne left=false:=by simp[fK];omega
    have HF:=zx ve;clear ve;go_enter func71,ntmps71;go_wp2_with fail;go_quiet (fail)
    go_wp2;go_ret;exact⟨by rw[HF.out];rfl,nq,rfl⟩
  ·have h2n:fi=0:=by omega
   subst h2n;clear h2;have ve:fK gr (0:Nat) ne left=false:=by simp[fK]
   have HF:=zx ve;clear ve;go_enter func71,ntmps71;go_wp2_with fail;go_quiet (fail)
   go_wp2;go_ret;exact⟨by rw[HF.out];rfl,nq,rfl⟩
 ·have h1':(gr !=0)=false:=by simpa using h1
  have ve:fK gr fi ne left=false:=by simp[fK,h1']
  have HF:=zx ve;clear ve h1;go_enter func71,ntmps71;go_wp2_with fail;go_quiet (fail)
  go_wp2;go_ret;exact⟨by rw[HF.out];rfl,nq,rfl⟩
theorem SA(g o j:Nat):(⟨g,o,none⟩:Addr).add j=⟨g,o+j,none⟩:=by
 unfold zQ;split
 ·simp_all
 ·simp
theorem xF.take{w:World}{a:Option Addr}{l:List Int}(h:xF w a l)(m:Nat):xF w a (l.take m):=fun j hj=>by
 have MF:j<l.length:=by simp at hj;omega
 obtain⟨b,hb,hc⟩:=h j MF;exact⟨b,hb,by simpa using hc⟩
theorem xF.drop{w:World}{g o:Nat}{l:List Int}(h:xF w (some ⟨g,o,none⟩) l)(k:Nat):xF w (some ⟨g,o+k,none⟩) (l.drop k):=fun j hj=>by
 have MF:k+j<l.length:=by simp at hj;omega
 obtain⟨b,hb,hc⟩:=h (k+j) MF
 cases hb;refine⟨_,rfl,?_⟩;rw[SA] at hc ⊢;simpa[Nat.add_assoc] using hc
theorem Ps(g o:Nat)(n cap sc:Nat)(b:Bool)(l:List Int)(w:World)(hl:l.length=n)(hs:sc<=n)(ZA:n<=cap)(hn:n<=1000000)(hB:xF w (some ⟨g,o,none⟩) l) :
  Calls prog 70 #[.agg #[.bool b,.slice (some ⟨g,o,none⟩) n cap,.int .i64 sc]] w fun e w'=>(∃ YX uy,e = .returned (.slice YX (n - sc) uy)/\(∀ q,YX=some q->q.block=g)/\xF w' YX (l.take (n - sc)))/\Below w.heap.size w w':=by
 obtain⟨k,hk⟩:∃ k,n=k+sc:=⟨n - sc,by omega⟩;subst hk;rw[show k+sc - sc=k from by omega];have h0:(0:Int)<=((k+sc:Nat):Int) - (sc:Int):=by omega
 have h1:((k+sc:Nat):Int) - (sc:Int)=(k:Int):=by omega
 have h2:k<=cap:=by omega
 go_enter func70,ntmps70;go_wp2;go_ret;exact⟨⟨_,_,rfl,(by intro q hq;cases hq;rfl),(hB.alloc _).take k⟩,(zu _ _).alloc (zU _) _⟩
theorem IH(g o:Nat)(n cap sc:Nat)(b:Bool)(l:List Int)(w:World)(hl:l.length=n)(hs:sc<=n)(ZA:n<=cap)(hn:n<=1000000)(hB:xF w (some ⟨g,o,none⟩) l) :
  Calls prog 72 #[.agg #[.bool b,.slice (some ⟨g,o,none⟩) n cap,.int .i64 sc]] w fun e w'=>(∃ YX uy,e = .returned (.slice YX sc uy)/\(∀ q,YX=some q->q.block=g)/\xF w' YX (l.drop (n - sc)))/\Below w.heap.size w w':=by
 obtain⟨k,hk⟩:∃ k,n=k+sc:=⟨n - sc,by omega⟩;subst hk;rw[show k+sc - sc=k from by omega];have h1:((k+sc:Nat):Int) - (sc:Int)=(k:Int):=by omega
 have h2:k<=cap:=by omega
 go_enter func72,ntmps72;by_cases mF:cap=k
 ·have hz:l.drop k=[]:=List.drop_of_length_le (by omega);have HZ:=zx hz;clear hz;go_wp2;go_ret;refine⟨⟨_,_,rfl,(by intro q hq;cases hq;rfl),?_⟩,(zu _ _).alloc (zU _) _⟩;rw[HZ.out];intro j hj;simp at hj
 ·go_wp2;go_ret;exact⟨⟨_,_,rfl,(by intro q hq;cases hq;rfl),(hB.alloc _).drop k⟩,(zu _ _).alloc (zU _) _⟩
theorem xF.dw{w w':World}{B:Nat}{a:Option Addr}{l:List Int}(h:xF w a l)(hb:Below B w w')(hq:∀ q,a=some q->q.block<B):xF w' a l:=fun j hj=>by
 obtain⟨b,xB,hc⟩:=h j hj;refine⟨b,xB,?_⟩;rw[hb.cell (by rw[addr_add];exact hq b xB)];exact hc
theorem CW.below{w w':World}{B g:Nat}{mi po gr fi ne:Int}{ds:List Int}(h:CW w g mi po gr fi ne ds)(hb:Below B w w')(hg:g<B):CW w' g mi po gr fi ne ds where
 c2:=by rw[hb.cell (p:=⟨g,2,none⟩) hg];exact h.c2
 c3:=by rw[hb.cell (p:=⟨g,3,none⟩) hg];exact h.c3
 c4:=by rw[hb.cell (p:=⟨g,4,none⟩) hg];exact h.c4
 c5:=by rw[hb.cell (p:=⟨g,5,none⟩) hg];exact h.c5
 c6:=by rw[hb.cell (p:=⟨g,6,none⟩) hg];exact h.c6
 len:=h.len
 c7:=fun j hj=>by rw[hb.cell (p:=⟨g,7+j,none⟩) hg];exact h.c7 j hj
abbrev WE(r:Int):Prop:=-2147483648<=r/\r<=2147483647
def X7(ds l:List Int)(i:Nat):List UInt8:=z7 (ds.getD (l.getD i 0).toNat 0)
def gi(gr:Int)(fi ne:Nat)(ds l:List Int)(k:Nat):List UInt8 :=
 (List.range k).flatMap fun i=>(if 0<i && fK gr fi ne (l.length - i) then z7 gr else [])++X7 ds l i
def qQ(po:Int)(ds l:List Int)(k:Nat):List UInt8 :=
 (List.range k).flatMap fun i=>(if i==0 then z7 po else [])++X7 ds l i
def Z5(neg:Bool)(l:List Int)(sc:Nat)(mi po gr:Int)(fi ne:Nat)(ds:List Int):List UInt8 :=
 (if neg then z7 mi else [])++gi gr fi ne ds (l.take (l.length - sc)) (l.length - sc)++qQ po ds (l.drop (l.length - sc)) sc
theorem Kf(gr:Int)(fi ne:Nat)(ds l:List Int)(k:Nat):gi gr fi ne ds l (k+1)=gi gr fi ne ds l k++((if 0<k && fK gr fi ne (l.length - k) then z7 gr else [])++X7 ds l k):=by
 simp[gi,zE]
theorem Uy(po:Int)(ds l:List Int)(k:Nat):qQ po ds l (k+1)=qQ po ds l k++((if k==0 then z7 po else [])++X7 ds l k):=by
 simp[qQ,zE]
theorem byteCells_append(a b:List UInt8):z8 (a++b)=z8 a++z8 b:=by simp[z8]
theorem gx(B b:Nat)(acc:List UInt8)(r:Int)(hr:WE r)(w:World)(h:zy 155 5 B b (z8 acc) w)(hlen:acc.length<=1000000)(hBw:B<=w.heap.size) :
  Calls prog 69 #[.pointer (some ⟨b,0,none⟩),.int .i32 r] w fun e w'=>(∃ v,e = .returned v)/\zy 155 5 B b (z8 (acc++z7 r)) w'/\Below B w w':=by
 rw[byteCells_append,Lib.byteCells_encodeRune];exact DL B b _ r hr.1 hr.2 w h (by simp[z8];omega) hBw
theorem gm(r:Int):(z7 r).length<=4:=by
 have:=(zH r).2;rw[Lib.runeCells_length] at this;exact this
theorem Gl(gr:Int)(fi ne:Nat)(ds l:List Int):∀ k,(gi gr fi ne ds l k).length<=8*k
 | 0=>by simp[gi]
 | k+1=>by
  rw[Kf];have:=Gl gr fi ne ds l k;have h1:=gm gr;have h2:(X7 ds l k).length<=4:=gm _;simp only[zj];split<;>simp<;>omega
theorem Kd(po:Int)(ds l:List Int):∀ k,(qQ po ds l k).length<=8*k
 | 0=>by simp[qQ]
 | k+1=>by
  rw[Uy];have:=Kd po ds l k;have h1:=gm po;have h2:(X7 ds l k).length<=4:=gm _;simp only[zj];split<;>simp<;>omega
theorem IsBuilder.later{T e:TypeId}{B b:Nat}{bs:List Value}{w w':World}(h:zy T e B b bs w)(hb:Below w.heap.size w w'):zy T e B b bs w':=by
 have key:∀ p,zJ T e B b p bs w->zJ T e B b p bs w':=fun p h=>by
  have xC:=h.lt;obtain⟨h1,v,h2,h3,h4⟩:=h;exact⟨h1,v,by rw[hb.block b xC];exact h2,fN h3 hb,h4⟩
 exact h.elim (fun x => .inl (key _ x)) (fun x => .inr (key _ x))
theorem II(w:World)(B:Nat)(hB:B<=w.heap.size):zy 155 5 B w.heap.size (z8 []) (w.alloc (.cells #[.pointer none,.slice none 0 0] 155)) :=
 .inl ⟨hB,.slice none 0 0,by show(w.heap.push _)[w.heap.size]? = _;simp,World.ownsRow_nil _ _ _ _,by simp[Value.ownBlock]⟩
theorem bZ{x:Int}(h:0<=x/\x<=9):∃ m:Nat,x=(m:Int)/\m<10:=⟨x.toNat,by omega,by omega⟩
theorem Bg(g gd od cap sc n:Nat)(b:Bool)(l:List Int)(mi po gr:Int)(fi ne:Nat)(ds:List Int)(w:World)
  (hX:CW w g mi po gr fi ne ds) (hg:g<w.heap.size) (hB:xF w (some ⟨gd,od,none⟩) l) (Jl:gd<w.heap.size) (hl:l.length=n) (hs:sc<=n) (ZA:n<=cap) (hn:n<=10000)
  (hd:∀ x∈l,0<=x/\x<=9) (h32:WE mi/\WE po/\WE gr/\∀ x∈ds,WE x) (Mf:fi<=255) (xw:0<fi->0<ne) (px:ne<=255) :
  Calls prog 45 #[.pointer (some ⟨g,0,none⟩),.agg #[.bool b,.slice (some ⟨gd,od,none⟩) n cap,.int .i64 sc]] w fun e w' =>
   e = .returned (xf (Z5 b l sc mi po gr fi ne ds))/\Below w.heap.size w w':=by
 have c2:=hX.c2;have qX:¬(w.heap.size=g):=by omega
 go_enter func45,ntmps45;have Na:∀ W:World,W=((w.alloc (.cells #[.bool b,.slice (some ⟨gd,od,none⟩) n cap,.int .i64 sc] 97)).alloc (.cells #[.pointer none,.slice none 0 0] 155)) ->
   Below w.heap.size w W/\W.heap.size=w.heap.size+2/\W.cell? ⟨w.heap.size,0,none⟩=some (.bool b)/\W.cell? ⟨w.heap.size,1,none⟩=some (.slice (some ⟨gd,od,none⟩) n cap)/\W.cell? ⟨w.heap.size,2,none⟩=some (.int .i64 sc) /\
   zy 155 5 (w.heap.size+1) (w.heap.size+1) (z8 []) W:=by
  intro W hW;subst hW;refine⟨((zu _ _).alloc (zU _) _).alloc (by simp) _,by simp,by go_simp,by go_simp,by go_simp,?_⟩;have:=II (w.alloc (.cells #[.bool b,.slice (some ⟨gd,od,none⟩) n cap,.int .i64 sc] 97)) (w.heap.size+1) (by simp);simpa using this
 have hmi:=h32.1;have hpo:=h32.2.1;have Xy:=h32.2.2.1;have hds:=h32.2.2.2;obtain⟨XM,Db⟩:∃ a:List UInt8,a=if b then z7 mi else []:=⟨_,rfl⟩;have HA:=zx Db;have xq7:XM.length<=4:=by rw[Db];split;exact gm mi;simp
 clear Db h32
 cases b
 ·go_wp2_with fail;refine vz ?_;intro W1 Ve;obtain⟨xH,Ul,fk,qD,jJ,Gm⟩:=Na W1 Ve;have cg:zy 155 5 (w.heap.size+1) (w.heap.size+1) (z8 XM) W1:=by rw[HA.out];exact Gm
  clear Ve Na Gm;have zq1:w.heap.size+2<=W1.heap.size:=by omega
  clear Ul;have hX1:=hX.below xH hg;have Xj:=hB.dw xH (by intro q hq;cases hq;exact Jl);refine(Ps gd od n cap sc _ l _ hl hs ZA (by omega) Xj).mono ?_;rintro e w2 ⟨⟨a1,pq,rfl,sG,hI⟩,xB⟩;obtain⟨nw,hnw⟩:∃ k:Nat,k=n - sc:=⟨_,rfl⟩;obtain⟨lw,cZ⟩:∃ k:List Int,k=l.take nw:=⟨_,rfl⟩;rw[←hnw] at hI ⊢;rw[←cZ] at hI;have hlen:lw.length=nw:=by rw[cZ];simp;omega
  have hdw:∀ x∈lw,0<=x/\x<=9:=fun x hx=>hd x (by rw[cZ] at hx;exact zG hx)
  have cY:=IsBuilder.later cg xB;have VO:w.heap.size+2<=w2.heap.size:=by have:=xB.size;omega
  have Sa:Below w.heap.size w w2:=xH.trans (xB.mono (by omega));have Ah:w2.cell? ⟨w.heap.size,0,none⟩=some (.bool false):=by rw[xB.cell (by simp;omega)];exact fk
  have EB:w2.cell? ⟨w.heap.size,1,none⟩=some (.slice (some ⟨gd,od,none⟩) n cap):=by rw[xB.cell (by simp;omega)];exact qD
  have D0:w2.cell? ⟨w.heap.size,2,none⟩=some (.int .i64 sc):=by rw[xB.cell (by simp;omega)];exact jJ
  clear fk qD jJ cg xH Xj hX1 xB zq1;have Pt:=zx hnw;have n7:=zx cZ;have yd2:nw<=10000:=by omega
  have Xv:=zx hlen;have HL:=zx hl;clear hnw cZ hlen hl;go_wp2;go_loopw [22] (fun i wr=>∃ k:Nat,k<=nw/\i = .int .i64 k/\zy 155 5 (w.heap.size+1) (w.heap.size+1) (z8 (XM++gi gr fi ne ds lw k)) wr/\Below (w.heap.size+1) w2 wr) (fun i _=>nw - (intOf i).toNat)
  case atStart=>exact⟨0,by omega,rfl,by simpa[gi] using cY,zu _ _⟩
  case round =>
   obtain⟨k,hk,rfl,Gm,YZ⟩:=hrel;have qI:Below w.heap.size w wr:=Sa.trans (YZ.mono (by omega));have CA:=hX.below qI hg;have hIr:=hI.dw YZ (by intro q hq;have:=sG q hq;omega);have hzr:w.heap.size+2<=wr.heap.size:=by have:=YZ.size;omega
   have qd:(XM++gi gr fi ne ds lw k).length<=200000:=by have:=Gl gr fi ne ds lw k;simp;omega
   by_cases xC:k<nw
   ·have Nc:k<lw.length:=by rw[Xv.out];exact xC
    obtain⟨q,rfl,vU⟩:=hIr k Nc;obtain⟨m,hm,Gn⟩:=bZ (hdw lw[k] (zk Nc));rw[hm] at vU;have CO:m<ds.length:=by rw[CA.len];exact Gn
    have hdm:=CA.c7 m CO;have c4:=CA.c4;have Kb:(nw:Int) - (k:Int)=((nw - k:Nat):Int):=by omega
    have kM:=Kf gr fi ne ds lw k;have Gp:X7 ds lw k=z7 ds[m]:=by
     unfold X7;simp only[zg,zv Nc,zf,hm,zZ,zv CO]
    rw[Gp,Xv.out] at kM;have kd:=zx kM;have KZ:=hds ds[m] (zk CO);have hxm:(0:Int)<=(m:Int):=by omega
    have cX:m<10:=Gn;clear hm Gp kM;by_cases CF:0<k
    ·go_wp2_with fail;refine(Gi g mi po gr fi ne ds (nw - k) _ CA (by omega) Mf xw px).mono ?_;rintro e w3 ⟨rfl,nq,rfl⟩;obtain⟨pb,o9⟩:∃ p,fK gr fi ne (nw - k)=p:=⟨_,rfl⟩;rw[o9];have vR:=kd.out;rw[o9] at vR;have cV:decide (0<k)=true:=by simpa using CF
     rw[cV,Bool.true_and] at vR;have jN:=zx vR;have cK:=IsBuilder.later Gm (below_drewN (zu _ _) nq);have Pr:=below_drewN (zu (w.heap.size+1) wr) nq;have hdq:(wr.drewN nq).cell? ⟨g,7+m,none⟩=some (.int .i32 ds[m]):=hdm;clear kd vR cV o9
     cases pb
     ·go_wp2_with fail;refine(gx _ _ _ _ KZ _ cK (by omega) (by simp;omega)).mono ?_;rintro e w4 ⟨⟨v,rfl⟩,YT,uQ⟩;have ve:zy 155 5 (w.heap.size+1) (w.heap.size+1) (z8 (XM++gi gr fi ne ds lw (k+1))) w4:=by
       rw[jN.out];simpa using YT
      have Jj:=YZ.trans (Pr.trans uQ);go_wp2;go_roundw
      case rel=>exact⟨k+1,by omega,by go_num,ve,Jj⟩
      case measure=>simp[intOf];omega
     ·go_wp2_with fail;refine(gx _ _ _ _ Xy _ cK (by omega) (by simp;omega)).mono ?_;rintro e w4 ⟨⟨v,rfl⟩,YT,uQ⟩;have cJ:=uQ.size;have zq4:w4.cell? ⟨g,7+m,none⟩=some (.int .i32 ds[m]):=by rw[uQ.cell (by simp;omega)];exact hdq
      have DJ:(XM++gi gr fi ne ds lw k++z7 gr).length<=300000:=by have:=gm gr;rw[zj];omega
      go_wp2_with fail;refine(gx _ _ _ _ KZ _ YT (by omega) (by simp at cJ;omega)).mono ?_;rintro e w5 ⟨⟨v5,rfl⟩,Ni,jw⟩;have ve:zy 155 5 (w.heap.size+1) (w.heap.size+1) (z8 (XM++gi gr fi ne ds lw (k+1))) w5:=by
       rw[jN.out];simpa using Ni
      have Jj:=YZ.trans (Pr.trans (uQ.trans jw));go_wp2;go_roundw
      case rel=>exact⟨k+1,by omega,by go_num,ve,Jj⟩
      case measure=>simp[intOf];omega
    ·have zq5:k=0:=by omega
     subst zq5;clear CF;have Nl:wr.cell? q=some (.int .u8 m):=by rw[show q.add 0=q from by unfold zQ;simp] at vU;exact vU
     have vR:gi gr fi ne ds lw 1=gi gr fi ne ds lw 0++z7 ds[m]:=by simpa using kd.out
     have jN:=zx vR;clear vR vU kd;go_wp2_with fail;refine(gx _ _ _ _ KZ _ Gm (by omega) (by omega)).mono ?_;rintro e w4 ⟨⟨v,rfl⟩,YT,uQ⟩;have ve:zy 155 5 (w.heap.size+1) (w.heap.size+1) (z8 (XM++gi gr fi ne ds lw 1)) w4:=by
      rw[jN.out];simpa using YT
     have Jj:=YZ.trans uQ;go_wp2;go_roundw
     case rel=>exact⟨1,by omega,by go_num,ve,Jj⟩
     case measure=>simp[intOf];omega
   ·have QI:k=nw:=by omega
    subst QI;clear hIr hI xC;have he0:wr.cell? ⟨w.heap.size,0,none⟩=some (.bool false):=by rw[YZ.cell (by simp)];exact Ah
    have CK:wr.cell? ⟨w.heap.size,1,none⟩=some (.slice (some ⟨gd,od,none⟩) n cap):=by rw[YZ.cell (by simp)];exact EB
    have CQ:wr.cell? ⟨w.heap.size,2,none⟩=some (.int .i64 sc):=by rw[YZ.cell (by simp)];exact D0
    have hBr:=hB.dw qI (by intro q hq;cases hq;exact Jl);go_wp2_with fail;refine(IH gd od n cap sc _ l _ HL.out hs ZA (by omega) hBr).mono ?_;rintro e w3 ⟨⟨a2,cp2,rfl,sF,hF⟩,uP⟩;rw[←Pt.out] at hF;obtain⟨lf,cG⟩:∃ x:List Int,x=l.drop k:=⟨_,rfl⟩;rw[←cG] at hF;have hlen:lf.length=sc:=by rw[cG];simp;have:=HL.out;have:=Pt.out;omega
    have hdf:∀ x∈lf,0<=x/\x<=9:=fun x hx=>hd x (by rw[cG] at hx;exact zF hx)
    have cD:=IsBuilder.later Gm uP;have CJ:w.heap.size+2<=w3.heap.size:=by have:=uP.size;omega
    have zq6:Below w.heap.size w w3:=qI.trans (uP.mono (by omega));obtain⟨KY,Nn⟩:∃ x:List UInt8,x=XM++gi gr fi ne ds lw k:=⟨_,rfl⟩;rw[←Nn] at cD qd;have HLF:=zx cG;have HFN:=zx hlen;have sD:=zx Nn;clear cG hlen Nn Gm uP he0 CK CQ Ah EB D0 YZ qI CA hzr hBr cY Sa VO;have hsc:sc<=10000:=by omega
    go_wp2;go_loopw [53] (fun i wr=>∃ k:Nat,k<=sc/\i = .int .i64 k/\zy 155 5 (w.heap.size+1) (w.heap.size+1) (z8 (KY++qQ po ds lf k)) wr/\Below (w.heap.size+1) w3 wr) (fun i _=>sc - (intOf i).toNat)
    case atStart=>exact⟨0,by omega,rfl,by simpa[qQ] using cD,zu _ _⟩
    case round =>
     obtain⟨j,hj,rfl,Gm,YZ⟩:=hrel;have qI:Below w.heap.size w wr:=zq6.trans (YZ.mono (by omega));have CA:=hX.below qI hg;have hFr:=hF.dw YZ (by intro q hq;have:=sF q hq;omega);have hzr:w.heap.size+2<=wr.heap.size:=by have:=YZ.size;omega
     have KX:(KY++qQ po ds lf j).length<=400000:=by have:=Kd po ds lf j;simp;omega
     by_cases xC:j<sc
     ·have Np:j<lf.length:=by rw[HFN.out];exact xC
      obtain⟨q,rfl,vU⟩:=hFr j Np;obtain⟨m,hm,Gn⟩:=bZ (hdf lf[j] (zk Np));rw[hm] at vU;have CO:m<ds.length:=by rw[CA.len];exact Gn
      have hdm:=CA.c7 m CO;have c3:=CA.c3;have kM:=Uy po ds lf j;have Gp:X7 ds lf j=z7 ds[m]:=by
       unfold X7;simp only[zg,zv Np,zf,hm,zZ,zv CO]
      rw[Gp] at kM;have kd:=zx kM;have KZ:=hds ds[m] (zk CO);have hxm:(0:Int)<=(m:Int):=by omega
      have cX:m<10:=Gn;clear hm Gp kM;by_cases hj0:j=0
      ·subst hj0;have Nl:wr.cell? q=some (.int .u8 m):=by rw[show q.add 0=q from by unfold zQ;simp] at vU;exact vU
       have vR:qQ po ds lf 1=qQ po ds lf 0++(z7 po++z7 ds[m]):=by simpa using kd.out
       have jN:=zx vR;clear vR vU kd;go_wp2_with fail;refine(gx _ _ _ _ hpo _ Gm (by omega) (by omega)).mono ?_;rintro e w4 ⟨⟨v,rfl⟩,YT,uQ⟩;have cJ:=uQ.size;have zq4:w4.cell? ⟨g,7+m,none⟩=some (.int .i32 ds[m]):=by rw[uQ.cell (by simp;omega)];exact hdm
       have DJ:(KY++qQ po ds lf 0++z7 po).length<=500000:=by have:=gm po;rw[zj];omega
       go_wp2_with fail;refine(gx _ _ _ _ KZ _ YT (by omega) (by omega)).mono ?_;rintro e w5 ⟨⟨v5,rfl⟩,Ni,jw⟩;have ve:zy 155 5 (w.heap.size+1) (w.heap.size+1) (z8 (KY++qQ po ds lf 1)) w5:=by
        rw[jN.out];simpa using Ni
       have Jj:=YZ.trans (uQ.trans jw);go_wp2;go_roundw
       case rel=>exact⟨1,by omega,by go_num,ve,Jj⟩
       case measure=>simp[intOf];omega
      ·have yd8:((j:Int)==0)=false:=by simpa using hj0
       have vR:qQ po ds lf (j+1)=qQ po ds lf j++z7 ds[m]:=by
        have:=kd.out;rw[show(j==0)=false from by simpa using hj0] at this;simpa using this
       have jN:=zx vR;clear vR kd;go_wp2_with fail;refine(gx _ _ _ _ KZ _ Gm (by omega) (by omega)).mono ?_;rintro e w4 ⟨⟨v,rfl⟩,YT,uQ⟩;have ve:zy 155 5 (w.heap.size+1) (w.heap.size+1) (z8 (KY++qQ po ds lf (j+1))) w4:=by
        rw[jN.out];simpa using YT
       have Jj:=YZ.trans uQ;go_wp2;go_roundw
       case rel=>exact⟨j+1,by omega,by go_num,ve,Jj⟩
       case measure=>simp[intOf];omega
     ·have hj':j=sc:=by omega
      subst hj';clear hFr hF xC;have ve:KY++qQ po ds lf j=Z5 false l j mi po gr fi ne ds:=by
       have e1:=sD.out;have e2:=HA.out;have e3:=Pt.out;have e4:=n7.out;have e5:=HLF.out;have e6:=HL.out;subst e1 e2 e4 e5 e6;unfold Z5;rw[←e3];try simp
      have kS:=zx ve;clear ve;go_wp2_with fail;refine(Tryz.Builder_String_any _ _ _ _ Gm (by omega)).mono ?_;rintro e w5 ⟨rfl,jw⟩;go_wp2;go_ret;exact⟨by rw[←kS.out];rfl,qI.trans (jw.mono (by omega))⟩
 ·go_wp2_with fail;refine vz ?_;intro W0 EI;obtain⟨jQ,GB,zmx,U4,zq8,Gm⟩:=Na W0 EI;clear EI Na;refine(gx _ _ _ _ hmi _ Gm (by simp) (by omega)).mono ?_;rintro e W1 ⟨⟨v,rfl⟩,tP,qI⟩;have cg:zy 155 5 (w.heap.size+1) (w.heap.size+1) (z8 XM) W1:=by rw[HA.out];exact tP
  have xH:Below w.heap.size w W1:=jQ.trans (qI.mono (by omega));have zq1:w.heap.size+2<=W1.heap.size:=by have:=qI.size;omega
  have fk:W1.cell? ⟨w.heap.size,0,none⟩=some (.bool true):=by rw[qI.cell (by simp)];exact zmx
  have qD:W1.cell? ⟨w.heap.size,1,none⟩=some (.slice (some ⟨gd,od,none⟩) n cap):=by rw[qI.cell (by simp)];exact U4
  have jJ:W1.cell? ⟨w.heap.size,2,none⟩=some (.int .i64 sc):=by rw[qI.cell (by simp)];exact zq8
  clear jQ GB zmx U4 zq8 Gm tP qI;go_wp2_with fail;have hX1:=hX.below xH hg;have Xj:=hB.dw xH (by intro q hq;cases hq;exact Jl);refine(Ps gd od n cap sc _ l _ hl hs ZA (by omega) Xj).mono ?_;rintro e w2 ⟨⟨a1,pq,rfl,sG,hI⟩,xB⟩;obtain⟨nw,hnw⟩:∃ k:Nat,k=n - sc:=⟨_,rfl⟩;obtain⟨lw,cZ⟩:∃ k:List Int,k=l.take nw:=⟨_,rfl⟩;rw[←hnw] at hI ⊢;rw[←cZ] at hI;have hlen:lw.length=nw:=by rw[cZ];simp;omega
  have hdw:∀ x∈lw,0<=x/\x<=9:=fun x hx=>hd x (by rw[cZ] at hx;exact zG hx)
  have cY:=IsBuilder.later cg xB;have VO:w.heap.size+2<=w2.heap.size:=by have:=xB.size;omega
  have Sa:Below w.heap.size w w2:=xH.trans (xB.mono (by omega));have Ah:w2.cell? ⟨w.heap.size,0,none⟩=some (.bool true):=by rw[xB.cell (by simp;omega)];exact fk
  have EB:w2.cell? ⟨w.heap.size,1,none⟩=some (.slice (some ⟨gd,od,none⟩) n cap):=by rw[xB.cell (by simp;omega)];exact qD
  have D0:w2.cell? ⟨w.heap.size,2,none⟩=some (.int .i64 sc):=by rw[xB.cell (by simp;omega)];exact jJ
  clear fk qD jJ cg xH Xj hX1 xB zq1;have Pt:=zx hnw;have n7:=zx cZ;have yd2:nw<=10000:=by omega
  have Xv:=zx hlen;have HL:=zx hl;clear hnw cZ hlen hl;go_wp2;go_loopw [22] (fun i wr=>∃ k:Nat,k<=nw/\i = .int .i64 k/\zy 155 5 (w.heap.size+1) (w.heap.size+1) (z8 (XM++gi gr fi ne ds lw k)) wr/\Below (w.heap.size+1) w2 wr) (fun i _=>nw - (intOf i).toNat)
  case atStart=>exact⟨0,by omega,rfl,by simpa[gi] using cY,zu _ _⟩
  case round =>
   obtain⟨k,hk,rfl,Gm,YZ⟩:=hrel;have qI:Below w.heap.size w wr:=Sa.trans (YZ.mono (by omega));have CA:=hX.below qI hg;have hIr:=hI.dw YZ (by intro q hq;have:=sG q hq;omega);have hzr:w.heap.size+2<=wr.heap.size:=by have:=YZ.size;omega
   have qd:(XM++gi gr fi ne ds lw k).length<=200000:=by have:=Gl gr fi ne ds lw k;simp;omega
   by_cases xC:k<nw
   ·have Nc:k<lw.length:=by rw[Xv.out];exact xC
    obtain⟨q,rfl,vU⟩:=hIr k Nc;obtain⟨m,hm,Gn⟩:=bZ (hdw lw[k] (zk Nc));rw[hm] at vU;have CO:m<ds.length:=by rw[CA.len];exact Gn
    have hdm:=CA.c7 m CO;have c4:=CA.c4;have Kb:(nw:Int) - (k:Int)=((nw - k:Nat):Int):=by omega
    have kM:=Kf gr fi ne ds lw k;have Gp:X7 ds lw k=z7 ds[m]:=by
     unfold X7;simp only[zg,zv Nc,zf,hm,zZ,zv CO]
    rw[Gp,Xv.out] at kM;have kd:=zx kM;have KZ:=hds ds[m] (zk CO);have hxm:(0:Int)<=(m:Int):=by omega
    have cX:m<10:=Gn;clear hm Gp kM;by_cases CF:0<k
    ·go_wp2_with fail;refine(Gi g mi po gr fi ne ds (nw - k) _ CA (by omega) Mf xw px).mono ?_;rintro e w3 ⟨rfl,nq,rfl⟩;obtain⟨pb,o9⟩:∃ p,fK gr fi ne (nw - k)=p:=⟨_,rfl⟩;rw[o9];have vR:=kd.out;rw[o9] at vR;have cV:decide (0<k)=true:=by simpa using CF
     rw[cV,Bool.true_and] at vR;have jN:=zx vR;have cK:=IsBuilder.later Gm (below_drewN (zu _ _) nq);have Pr:=below_drewN (zu (w.heap.size+1) wr) nq;have hdq:(wr.drewN nq).cell? ⟨g,7+m,none⟩=some (.int .i32 ds[m]):=hdm;clear kd vR cV o9
     cases pb
     ·go_wp2_with fail;refine(gx _ _ _ _ KZ _ cK (by omega) (by simp;omega)).mono ?_;rintro e w4 ⟨⟨v,rfl⟩,YT,uQ⟩;have ve:zy 155 5 (w.heap.size+1) (w.heap.size+1) (z8 (XM++gi gr fi ne ds lw (k+1))) w4:=by
       rw[jN.out];simpa using YT
      have Jj:=YZ.trans (Pr.trans uQ);go_wp2;go_roundw
      case rel=>exact⟨k+1,by omega,by go_num,ve,Jj⟩
      case measure=>simp[intOf];omega
     ·go_wp2_with fail;refine(gx _ _ _ _ Xy _ cK (by omega) (by simp;omega)).mono ?_;rintro e w4 ⟨⟨v,rfl⟩,YT,uQ⟩;have cJ:=uQ.size;have zq4:w4.cell? ⟨g,7+m,none⟩=some (.int .i32 ds[m]):=by rw[uQ.cell (by simp;omega)];exact hdq
      have DJ:(XM++gi gr fi ne ds lw k++z7 gr).length<=300000:=by have:=gm gr;rw[zj];omega
      go_wp2_with fail;refine(gx _ _ _ _ KZ _ YT (by omega) (by simp at cJ;omega)).mono ?_;rintro e w5 ⟨⟨v5,rfl⟩,Ni,jw⟩;have ve:zy 155 5 (w.heap.size+1) (w.heap.size+1) (z8 (XM++gi gr fi ne ds lw (k+1))) w5:=by
       rw[jN.out];simpa using Ni
      have Jj:=YZ.trans (Pr.trans (uQ.trans jw));go_wp2;go_roundw
      case rel=>exact⟨k+1,by omega,by go_num,ve,Jj⟩
      case measure=>simp[intOf];omega
    ·have zq5:k=0:=by omega
     subst zq5;clear CF;have Nl:wr.cell? q=some (.int .u8 m):=by rw[show q.add 0=q from by unfold zQ;simp] at vU;exact vU
     have vR:gi gr fi ne ds lw 1=gi gr fi ne ds lw 0++z7 ds[m]:=by simpa using kd.out
     have jN:=zx vR;clear vR vU kd;go_wp2_with fail;refine(gx _ _ _ _ KZ _ Gm (by omega) (by omega)).mono ?_;rintro e w4 ⟨⟨v,rfl⟩,YT,uQ⟩;have ve:zy 155 5 (w.heap.size+1) (w.heap.size+1) (z8 (XM++gi gr fi ne ds lw 1)) w4:=by
      rw[jN.out];simpa using YT
     have Jj:=YZ.trans uQ;go_wp2;go_roundw
     case rel=>exact⟨1,by omega,by go_num,ve,Jj⟩
     case measure=>simp[intOf];omega
   ·have QI:k=nw:=by omega
    subst QI;clear hIr hI xC;have he0:wr.cell? ⟨w.heap.size,0,none⟩=some (.bool true):=by rw[YZ.cell (by simp)];exact Ah
    have CK:wr.cell? ⟨w.heap.size,1,none⟩=some (.slice (some ⟨gd,od,none⟩) n cap):=by rw[YZ.cell (by simp)];exact EB
    have CQ:wr.cell? ⟨w.heap.size,2,none⟩=some (.int .i64 sc):=by rw[YZ.cell (by simp)];exact D0
    have hBr:=hB.dw qI (by intro q hq;cases hq;exact Jl);go_wp2_with fail;refine(IH gd od n cap sc _ l _ HL.out hs ZA (by omega) hBr).mono ?_;rintro e w3 ⟨⟨a2,cp2,rfl,sF,hF⟩,uP⟩;rw[←Pt.out] at hF;obtain⟨lf,cG⟩:∃ x:List Int,x=l.drop k:=⟨_,rfl⟩;rw[←cG] at hF;have hlen:lf.length=sc:=by rw[cG];simp;have:=HL.out;have:=Pt.out;omega
    have hdf:∀ x∈lf,0<=x/\x<=9:=fun x hx=>hd x (by rw[cG] at hx;exact zF hx)
    have cD:=IsBuilder.later Gm uP;have CJ:w.heap.size+2<=w3.heap.size:=by have:=uP.size;omega
    have zq6:Below w.heap.size w w3:=qI.trans (uP.mono (by omega));obtain⟨KY,Nn⟩:∃ x:List UInt8,x=XM++gi gr fi ne ds lw k:=⟨_,rfl⟩;rw[←Nn] at cD qd;have HLF:=zx cG;have HFN:=zx hlen;have sD:=zx Nn;clear cG hlen Nn Gm uP he0 CK CQ Ah EB D0 YZ qI CA hzr hBr cY Sa VO;have hsc:sc<=10000:=by omega
    go_wp2;go_loopw [53] (fun i wr=>∃ k:Nat,k<=sc/\i = .int .i64 k/\zy 155 5 (w.heap.size+1) (w.heap.size+1) (z8 (KY++qQ po ds lf k)) wr/\Below (w.heap.size+1) w3 wr) (fun i _=>sc - (intOf i).toNat)
    case atStart=>exact⟨0,by omega,rfl,by simpa[qQ] using cD,zu _ _⟩
    case round =>
     obtain⟨j,hj,rfl,Gm,YZ⟩:=hrel;have qI:Below w.heap.size w wr:=zq6.trans (YZ.mono (by omega));have CA:=hX.below qI hg;have hFr:=hF.dw YZ (by intro q hq;have:=sF q hq;omega);have hzr:w.heap.size+2<=wr.heap.size:=by have:=YZ.size;omega
     have KX:(KY++qQ po ds lf j).length<=400000:=by have:=Kd po ds lf j;simp;omega
     by_cases xC:j<sc
     ·have Np:j<lf.length:=by rw[HFN.out];exact xC
      obtain⟨q,rfl,vU⟩:=hFr j Np;obtain⟨m,hm,Gn⟩:=bZ (hdf lf[j] (zk Np));rw[hm] at vU;have CO:m<ds.length:=by rw[CA.len];exact Gn
      have hdm:=CA.c7 m CO;have c3:=CA.c3;have kM:=Uy po ds lf j;have Gp:X7 ds lf j=z7 ds[m]:=by
       unfold X7;simp only[zg,zv Np,zf,hm,zZ,zv CO]
      rw[Gp] at kM;have kd:=zx kM;have KZ:=hds ds[m] (zk CO);have hxm:(0:Int)<=(m:Int):=by omega
      have cX:m<10:=Gn;clear hm Gp kM;by_cases hj0:j=0
      ·subst hj0;have Nl:wr.cell? q=some (.int .u8 m):=by rw[show q.add 0=q from by unfold zQ;simp] at vU;exact vU
       have vR:qQ po ds lf 1=qQ po ds lf 0++(z7 po++z7 ds[m]):=by simpa using kd.out
       have jN:=zx vR;clear vR vU kd;go_wp2_with fail;refine(gx _ _ _ _ hpo _ Gm (by omega) (by omega)).mono ?_;rintro e w4 ⟨⟨v,rfl⟩,YT,uQ⟩;have cJ:=uQ.size;have zq4:w4.cell? ⟨g,7+m,none⟩=some (.int .i32 ds[m]):=by rw[uQ.cell (by simp;omega)];exact hdm
       have DJ:(KY++qQ po ds lf 0++z7 po).length<=500000:=by have:=gm po;rw[zj];omega
       go_wp2_with fail;refine(gx _ _ _ _ KZ _ YT (by omega) (by omega)).mono ?_;rintro e w5 ⟨⟨v5,rfl⟩,Ni,jw⟩;have ve:zy 155 5 (w.heap.size+1) (w.heap.size+1) (z8 (KY++qQ po ds lf 1)) w5:=by
        rw[jN.out];simpa using Ni
       have Jj:=YZ.trans (uQ.trans jw);go_wp2;go_roundw
       case rel=>exact⟨1,by omega,by go_num,ve,Jj⟩
       case measure=>simp[intOf];omega
      ·have yd8:((j:Int)==0)=false:=by simpa using hj0
       have vR:qQ po ds lf (j+1)=qQ po ds lf j++z7 ds[m]:=by
        have:=kd.out;rw[show(j==0)=false from by simpa using hj0] at this;simpa using this
       have jN:=zx vR;clear vR kd;go_wp2_with fail;refine(gx _ _ _ _ KZ _ Gm (by omega) (by omega)).mono ?_;rintro e w4 ⟨⟨v,rfl⟩,YT,uQ⟩;have ve:zy 155 5 (w.heap.size+1) (w.heap.size+1) (z8 (KY++qQ po ds lf (j+1))) w4:=by
        rw[jN.out];simpa using YT
       have Jj:=YZ.trans uQ;go_wp2;go_roundw
       case rel=>exact⟨j+1,by omega,by go_num,ve,Jj⟩
       case measure=>simp[intOf];omega
     ·have hj':j=sc:=by omega
      subst hj';clear hFr hF xC;have ve:KY++qQ po ds lf j=Z5 true l j mi po gr fi ne ds:=by
       have e1:=sD.out;have e2:=HA.out;have e3:=Pt.out;have e4:=n7.out;have e5:=HLF.out;have e6:=HL.out;subst e1 e2 e4 e5 e6;unfold Z5;rw[←e3];try simp
      have kS:=zx ve;clear ve;go_wp2_with fail;refine(Tryz.Builder_String_any _ _ _ _ Gm (by omega)).mono ?_;rintro e w5 ⟨rfl,jw⟩;go_wp2;go_ret;exact⟨by rw[←kS.out];rfl,qI.trans (jw.mono (by omega))⟩
end Go.Proofs.YthpldolmpinnhaaGreatDoor
