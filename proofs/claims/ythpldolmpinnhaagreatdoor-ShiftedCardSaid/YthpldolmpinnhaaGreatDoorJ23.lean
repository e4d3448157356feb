import Derived.Test.YthpldolmpinnhaaGreatDoorJ22
import Derived.Lib.Builder
import Derived.Lib.RuneBytes
namespace Go.Proofs.YthpldolmpinnhaaGreatDoor
open Go Go.RowKit
set_option maxRecDepth 10000
theorem builder_info:(Tryz.prog.info? 155).map (fun j=>j.size)=some 2:=by kernel_rfl
set_option maxHeartbeats 1000000 in
theorem copyCheck_any (B b:Nat) (bs:List Value) (w:World) (h:Lib.IsBuilder 155 5 B b bs w) :
  Calls Tryz.prog 104 #[.pointer (some ⟨b,0,none⟩)] w fun e w'=>e = .returned (.tuple #[])/\Lib.BuilderAt 155 5 B b (.pointer (some ⟨b,0,none⟩)) bs w'/\Below B w w':=by
 obtain ⟨j,hj,hjs⟩:=Option.map_eq_some_iff.1 builder_info;rcases h with h | h
 ·have h0:=h.cell0;have hsh:=h.shape;have hfz:=h.frozen0;have H:=Lib.hid h;clear h;go_enter Tryz.func104,Tryz.ntmps104
  go_wp2
  rw [Lib.run_to_unsafe w ⟨b,0,none⟩ Tryz.underlying153 Tryz.underlying159 hj (by rw [hjs];decide) hsh (Nat.zero_lt_succ 1)];simp only [Result.andThen];rw [Oper.upon_value];go_wp2
  rw [run_callFunc_extern Tryz.func153 (by kernel_rfl) (by kernel_rfl) (by kernel_rfl) (e:=Extern.AbiNoEscape.same) (by kernel_rfl)];rw [Lib.run_noEscape];simp only [Result.andThen];rw [Oper.upon_value];go_wp2
  rw [Lib.run_from_unsafe w ⟨b,0,none⟩ Tryz.underlying159 Tryz.underlying153 hj hsh (by kernel_rfl)];simp only [Result.andThen];rw [Oper.upon_value];go_wp2
  go_end0
  exact ⟨rfl,H.out.used _,(Below.refl B w).setCell (p:=⟨b,0,none⟩) H.out.1 _⟩
 ·have h0:=h.cell0;have H:=Lib.hid h;clear h;go_enter Tryz.func104,Tryz.ntmps104
  go_wp2
  rw [Lib.run_neq_ptr_same w _ Tryz.underlying153 hj];go_wp2
  go_end0
  exact ⟨rfl,H.out,Below.refl B _⟩
set_option maxHeartbeats 2000000 in
theorem writeRune_any (B b:Nat) (bs:List Value) (r:Int) (hr0 : -2147483648<=r) (hr1:r<=2147483647) (w:World) (h:Lib.IsBuilder 155 5 B b bs w) (hlen:bs.length+4<=140737488355328) (hBw:B<=w.heap.size) :
  Calls Tryz.prog 69 #[.pointer (some ⟨b,0,none⟩),.int .i32 r] w fun e w'=>(∃ v,e = .returned v)/\Lib.IsBuilder 155 5 B b (bs++Lib.runeCells r) w'/\Below B w w':=by
 have hk4:=Lib.runeCells_le r;go_enter Tryz.func69,Tryz.ntmps69
 go_wp2_with fail
 refine (copyCheck_any B b bs _ h).mono ?_;rintro e w1 ⟨rfl,h1,hb1⟩;obtain ⟨hB,v,hbk,hown,hne⟩:=h1;obtain ⟨ao,cap,rfl⟩:=own_slice hown;have c0:w1.cell? ⟨b,0,none⟩=some (.pointer (some ⟨b,0,none⟩)):=by rw [Lib.cell_of_heap hbk];rfl
 have c1:w1.cell? ⟨b,1,none⟩=some (.slice ao bs.length cap):=by rw [Lib.cell_of_heap hbk];rfl
 have hlt:b<w1.heap.size:=by
  rcases Nat.lt_or_ge b w1.heap.size with h' | h'
  ·exact h'
  ·simp [Array.getElem?_eq_none h'] at hbk
 go_wp2_with fail
 refine (Tryz.utf8_AppendRune_plain B _ bs.length bs r hr0 hr1 _ hown hlen (by have:=hb1.size;omega)).mono ?_;rintro e w2 ⟨v',rfl,hown',o,hgrow⟩;have hb2:w2.heap[b]? = some (.cells #[.pointer (some ⟨b,0,none⟩),.slice ao bs.length cap] 155 (0,0)):=by
  rw [hgrow.block b (by simp;omega) (fun e=>hne e.symm),Below.heap_alloc w1 _ b hlt];exact hbk
 have d0:w2.cell? ⟨b,0,none⟩=some (.pointer (some ⟨b,0,none⟩)):=by rw [Lib.cell_of_heap hb2];rfl
 have d1:w2.cell? ⟨b,1,none⟩=some (.slice ao bs.length cap):=by rw [Lib.cell_of_heap hb2];rfl
 have f1:w2.frozen? ⟨b,1,none⟩=false:=Lib.frozen_of_heap hb2 1;have hfar:=own_slice hown';obtain ⟨a',cap',rfl⟩:=hfar;have HO:=Lib.hid hown;have HO':=Lib.hid hown';have HN:=Lib.hid hne;clear hown hown' hne;go_wp2
 go_ret2
 refine ⟨⟨_,rfl⟩,.inr ?_,?_⟩
 ·exact Lib.BuilderAt.put (T:=155) (e:=5) hB hb2 (bs':=bs++Lib.runeCells r) (by simpa using HO'.out) (by decide)
 ·exact ((hb1.alloc (by have:=hb1.size;omega) _).grown hgrow (by have:=hb1.size;simp;omega) (fun k hk=>(HO.out.lt k hk).1)).setCell (p:=⟨b,1,none⟩) hB _
structure LocX (w:World) (g:Nat) (mi po gr fi ne:Int) (ds:List Int):Prop where
 c2:w.cell? ⟨g,2,none⟩=some (.int .i32 mi)
 c3:w.cell? ⟨g,3,none⟩=some (.int .i32 po)
 c4:w.cell? ⟨g,4,none⟩=some (.int .i32 gr)
 c5:w.cell? ⟨g,5,none⟩=some (.int .i64 fi)
 c6:w.cell? ⟨g,6,none⟩=some (.int .i64 ne)
 len:ds.length=10
 c7:∀ j (h:j<ds.length),w.cell? ⟨g,7+j,none⟩=some (.int .i32 ds[j])
def partB (gr fi ne:Int) (left:Nat):Bool:=gr !=0 && decide (0<fi) && decide (fi<=(left:Int)) && (((left:Int) - fi) % ne==0)
set_option maxHeartbeats 4000000 in
theorem parted_any (g:Nat) (mi po gr:Int) (fi ne:Nat) (ds:List Int) (left:Nat) (w:World) (h:LocX w g mi po gr fi ne ds) (hl:left<=1000000) (hf:fi<=255) (hn:0<fi->0<ne) (hn2:ne<=255) :
  Calls Tryz.prog 71 #[.pointer (some ⟨g,0,none⟩),.int .i64 left] w fun e w'=>e = .returned (.bool (partB gr fi ne left))/\∃ n,w'=w.drewN n:=by
 have c4:=h.c4;have c5:=h.c5;have c6:=h.c6;clear h;by_cases h1:(gr !=0)=true
 ·by_cases h2:(0:Int)<(fi:Int)
  ·by_cases h3:(fi:Int)<=(left:Int)
   ·have h2n:0<fi:=by omega
    have h3n:fi<=left:=by omega
    have hfin:partB gr fi ne left=(((left:Int) - fi) % ne==0):=by simp [partB,h1,h2n,h3n]
    have HF:=Lib.hid hfin;clear hfin;have hne:0<ne:=hn (by omega);have hne':¬((ne:Int)=0):=by omega
    have hs0:(0:Int)<=(left:Int) - (fi:Int):=by omega
    go_enter Tryz.func71,Tryz.ntmps71
    go_wp2_with fail
    go_quiet (fail)
    go_wp2
    go_ret
    exact ⟨by rw [HF.out];rfl,nq,rfl⟩
   ·have h2n:0<fi:=by omega
    have h3n:¬fi<=left:=by omega
    have h3':(left:Int)<(fi:Int):=by omega
    have hfin:partB gr fi ne left=false:=by simp [partB];omega
    have HF:=Lib.hid hfin;clear hfin;go_enter Tryz.func71,Tryz.ntmps71
    go_wp2_with fail
    go_quiet (fail)
    go_wp2
    go_ret
    exact ⟨by rw [HF.out];rfl,nq,rfl⟩
  ·have h2n:fi=0:=by omega
   subst h2n;clear h2;have hfin:partB gr (0:Nat) ne left=false:=by simp [partB]
   have HF:=Lib.hid hfin;clear hfin;go_enter Tryz.func71,Tryz.ntmps71
   go_wp2_with fail
   go_quiet (fail)
   go_wp2
   go_ret
   exact ⟨by rw [HF.out];rfl,nq,rfl⟩
 ·have h1':(gr !=0)=false:=by simpa using h1
  have hfin:partB gr fi ne left=false:=by simp [partB,h1']
  have HF:=Lib.hid hfin;clear hfin h1;go_enter Tryz.func71,Tryz.ntmps71
  go_wp2_with fail
  go_quiet (fail)
  go_wp2
  go_ret
  exact ⟨by rw [HF.out];rfl,nq,rfl⟩
theorem addr_addo (g o j:Nat):(⟨g,o,none⟩:Addr).add j=⟨g,o+j,none⟩:=by
 unfold Addr.add;split
 ·simp_all
 ·simp
theorem BytesAt.take {w:World} {a:Option Addr} {l:List Int} (h:BytesAt w a l) (m:Nat):BytesAt w a (l.take m):=fun j hj=>by
 have hj2:j<l.length:=by simp at hj;omega
 obtain ⟨b,hb,hc⟩:=h j hj2;exact ⟨b,hb,by simpa using hc⟩
theorem BytesAt.drop {w:World} {g o:Nat} {l:List Int} (h:BytesAt w (some ⟨g,o,none⟩) l) (k:Nat):BytesAt w (some ⟨g,o+k,none⟩) (l.drop k):=fun j hj=>by
 have hj2:k+j<l.length:=by simp at hj;omega
 obtain ⟨b,hb,hc⟩:=h (k+j) hj2
 cases hb;refine ⟨_,rfl,?_⟩;rw [addr_addo] at hc ⊢;simpa [Nat.add_assoc] using hc
set_option maxHeartbeats 1000000 in
theorem int_any (g o:Nat) (n cap sc:Nat) (b:Bool) (l:List Int) (w:World) (hl:l.length=n) (hs:sc<=n) (hcap:n<=cap) (hn:n<=1000000) (hB:BytesAt w (some ⟨g,o,none⟩) l) :
  Calls Tryz.prog 70 #[.agg #[.bool b,.slice (some ⟨g,o,none⟩) n cap,.int .i64 sc]] w fun e w'=>(∃ ad' cap',e = .returned (.slice ad' (n - sc) cap')/\(∀ q,ad'=some q->q.block=g)/\BytesAt w' ad' (l.take (n - sc)))/\Below w.heap.size w w':=by
 obtain ⟨k,hk⟩:∃ k,n=k+sc:=⟨n - sc,by omega⟩;subst hk;rw [show k+sc - sc=k from by omega];have h0:(0:Int)<=((k+sc:Nat):Int) - (sc:Int):=by omega
 have h1:((k+sc:Nat):Int) - (sc:Int)=(k:Int):=by omega
 have h2:k<=cap:=by omega
 go_enter Tryz.func70,Tryz.ntmps70
 go_wp2
 go_ret
 exact ⟨⟨_,_,rfl,(by intro q hq;cases hq;rfl),(hB.alloc _).take k⟩,(Below.refl _ _).alloc (Nat.le_refl _) _⟩
set_option maxHeartbeats 1000000 in
theorem frac_any (g o:Nat) (n cap sc:Nat) (b:Bool) (l:List Int) (w:World) (hl:l.length=n) (hs:sc<=n) (hcap:n<=cap) (hn:n<=1000000) (hB:BytesAt w (some ⟨g,o,none⟩) l) :
  Calls Tryz.prog 72 #[.agg #[.bool b,.slice (some ⟨g,o,none⟩) n cap,.int .i64 sc]] w fun e w'=>(∃ ad' cap',e = .returned (.slice ad' sc cap')/\(∀ q,ad'=some q->q.block=g)/\BytesAt w' ad' (l.drop (n - sc)))/\Below w.heap.size w w':=by
 obtain ⟨k,hk⟩:∃ k,n=k+sc:=⟨n - sc,by omega⟩;subst hk;rw [show k+sc - sc=k from by omega];have h1:((k+sc:Nat):Int) - (sc:Int)=(k:Int):=by omega
 have h2:k<=cap:=by omega
 go_enter Tryz.func72,Tryz.ntmps72
 by_cases hck:cap=k
 ·have hz:l.drop k=[]:=List.drop_of_length_le (by omega);have HZ:=Lib.hid hz;clear hz;go_wp2
  go_ret
  refine ⟨⟨_,_,rfl,(by intro q hq;cases hq;rfl),?_⟩,(Below.refl _ _).alloc (Nat.le_refl _) _⟩;rw [HZ.out];intro j hj;simp at hj
 ·go_wp2
  go_ret
  exact ⟨⟨_,_,rfl,(by intro q hq;cases hq;rfl),(hB.alloc _).drop k⟩,(Below.refl _ _).alloc (Nat.le_refl _) _⟩
theorem BytesAt.belowAt {w w':World} {B:Nat} {a:Option Addr} {l:List Int} (h:BytesAt w a l) (hb:Below B w w') (hq:∀ q,a=some q->q.block<B):BytesAt w' a l:=fun j hj=>by
 obtain ⟨b,hb2,hc⟩:=h j hj;refine ⟨b,hb2,?_⟩;rw [hb.cell (by rw [addr_add];exact hq b hb2)];exact hc
theorem LocX.below {w w':World} {B g:Nat} {mi po gr fi ne:Int} {ds:List Int} (h:LocX w g mi po gr fi ne ds) (hb:Below B w w') (hg:g<B):LocX w' g mi po gr fi ne ds where
 c2:=by rw [hb.cell (p:=⟨g,2,none⟩) hg];exact h.c2
 c3:=by rw [hb.cell (p:=⟨g,3,none⟩) hg];exact h.c3
 c4:=by rw [hb.cell (p:=⟨g,4,none⟩) hg];exact h.c4
 c5:=by rw [hb.cell (p:=⟨g,5,none⟩) hg];exact h.c5
 c6:=by rw [hb.cell (p:=⟨g,6,none⟩) hg];exact h.c6
 len:=h.len
 c7:=fun j hj=>by rw [hb.cell (p:=⟨g,7+j,none⟩) hg];exact h.c7 j hj
abbrev I32 (r:Int):Prop:=-2147483648<=r/\r<=2147483647
def digX (ds l:List Int) (i:Nat):List UInt8:=Lib.encodeRune (ds.getD (l.getD i 0).toNat 0)
def intX (gr:Int) (fi ne:Nat) (ds l:List Int) (k:Nat):List UInt8 :=
 (List.range k).flatMap fun i=>(if 0<i && partB gr fi ne (l.length - i) then Lib.encodeRune gr else [])++digX ds l i
def fracX (po:Int) (ds l:List Int) (k:Nat):List UInt8 :=
 (List.range k).flatMap fun i=>(if i==0 then Lib.encodeRune po else [])++digX ds l i
def writeX (neg:Bool) (l:List Int) (sc:Nat) (mi po gr:Int) (fi ne:Nat) (ds:List Int):List UInt8 :=
 (if neg then Lib.encodeRune mi else [])++intX gr fi ne ds (l.take (l.length - sc)) (l.length - sc)++fracX po ds (l.drop (l.length - sc)) sc
theorem intX_succ (gr:Int) (fi ne:Nat) (ds l:List Int) (k:Nat):intX gr fi ne ds l (k+1)=intX gr fi ne ds l k++((if 0<k && partB gr fi ne (l.length - k) then Lib.encodeRune gr else [])++digX ds l k):=by
 simp [intX,List.range_succ]
theorem fracX_succ (po:Int) (ds l:List Int) (k:Nat):fracX po ds l (k+1)=fracX po ds l k++((if k==0 then Lib.encodeRune po else [])++digX ds l k):=by
 simp [fracX,List.range_succ]
theorem byteCells_append (a b:List UInt8):Lib.byteCells (a++b)=Lib.byteCells a++Lib.byteCells b:=by simp [Lib.byteCells]
theorem runeOn (B b:Nat) (acc:List UInt8) (r:Int) (hr:I32 r) (w:World) (h:Lib.IsBuilder 155 5 B b (Lib.byteCells acc) w) (hlen:acc.length<=1000000) (hBw:B<=w.heap.size) :
  Calls Tryz.prog 69 #[.pointer (some ⟨b,0,none⟩),.int .i32 r] w fun e w'=>(∃ v,e = .returned v)/\Lib.IsBuilder 155 5 B b (Lib.byteCells (acc++Lib.encodeRune r)) w'/\Below B w w':=by
 rw [byteCells_append,Lib.byteCells_encodeRune];exact writeRune_any B b _ r hr.1 hr.2 w h (by simp [Lib.byteCells];omega) hBw
theorem encR_len (r:Int):(Lib.encodeRune r).length<=4:=by
 have:=(Lib.runeCells_le r).2;rw [Lib.runeCells_length] at this;exact this
theorem intX_len (gr:Int) (fi ne:Nat) (ds l:List Int):∀ k,(intX gr fi ne ds l k).length<=8*k
 | 0=>by simp [intX]
 | k+1=>by
  rw [intX_succ];have:=intX_len gr fi ne ds l k;have h1:=encR_len gr;have h2:(digX ds l k).length<=4:=encR_len _;simp only [List.length_append];split<;>simp<;>omega
theorem fracX_len (po:Int) (ds l:List Int):∀ k,(fracX po ds l k).length<=8*k
 | 0=>by simp [fracX]
 | k+1=>by
  rw [fracX_succ];have:=fracX_len po ds l k;have h1:=encR_len po;have h2:(digX ds l k).length<=4:=encR_len _;simp only [List.length_append];split<;>simp<;>omega
theorem IsBuilder.later {T e:TypeId} {B b:Nat} {bs:List Value} {w w':World} (h:Lib.IsBuilder T e B b bs w) (hb:Below w.heap.size w w'):Lib.IsBuilder T e B b bs w':=by
 have key:∀ p,Lib.BuilderAt T e B b p bs w->Lib.BuilderAt T e B b p bs w':=fun p h=>by
  have hlt:=h.lt;obtain ⟨h1,v,h2,h3,h4⟩:=h;exact ⟨h1,v,by rw [hb.block b hlt];exact h2,own_below h3 hb,h4⟩
 exact h.elim (fun x => .inl (key _ x)) (fun x => .inr (key _ x))
theorem builder_new (w:World) (B:Nat) (hB:B<=w.heap.size):Lib.IsBuilder 155 5 B w.heap.size (Lib.byteCells []) (w.alloc (.cells #[.pointer none,.slice none 0 0] 155)) :=
 .inl ⟨hB,.slice none 0 0,by show (w.heap.push _)[w.heap.size]? = _;simp,World.ownsRow_nil _ _ _ _,by simp [Value.ownBlock]⟩
theorem nat_of_digit {x:Int} (h:0<=x/\x<=9):∃ m:Nat,x=(m:Int)/\m<10:=⟨x.toNat,by omega,by omega⟩
set_option maxHeartbeats 4000000 in
theorem write_any (g gd od cap sc n:Nat) (b:Bool) (l:List Int) (mi po gr:Int) (fi ne:Nat) (ds:List Int) (w:World)
  (hX:LocX w g mi po gr fi ne ds) (hg:g<w.heap.size) (hB:BytesAt w (some ⟨gd,od,none⟩) l) (hgd:gd<w.heap.size) (hl:l.length=n) (hs:sc<=n) (hcap:n<=cap) (hn:n<=10000)
  (hd:∀ x∈l,0<=x/\x<=9) (h32:I32 mi/\I32 po/\I32 gr/\∀ x∈ds,I32 x) (hfi:fi<=255) (hne:0<fi->0<ne) (hne2:ne<=255) :
  Calls Tryz.prog 45 #[.pointer (some ⟨g,0,none⟩),.agg #[.bool b,.slice (some ⟨gd,od,none⟩) n cap,.int .i64 sc]] w fun e w' =>
   e = .returned (strv (writeX b l sc mi po gr fi ne ds))/\Below w.heap.size w w':=by
 have c2:=hX.c2;have hn0:¬(w.heap.size=g):=by omega
 go_enter Tryz.func45,Tryz.ntmps45
 have hbox:∀ W:World,W=((w.alloc (.cells #[.bool b,.slice (some ⟨gd,od,none⟩) n cap,.int .i64 sc] 97)).alloc (.cells #[.pointer none,.slice none 0 0] 155)) ->
   Below w.heap.size w W/\W.heap.size=w.heap.size+2/\W.cell? ⟨w.heap.size,0,none⟩=some (.bool b)/\W.cell? ⟨w.heap.size,1,none⟩=some (.slice (some ⟨gd,od,none⟩) n cap)/\W.cell? ⟨w.heap.size,2,none⟩=some (.int .i64 sc) /\
   Lib.IsBuilder 155 5 (w.heap.size+1) (w.heap.size+1) (Lib.byteCells []) W:=by
  intro W hW;subst hW;refine ⟨((Below.refl _ _).alloc (Nat.le_refl _) _).alloc (by simp) _,by simp,by go_simp,by go_simp,by go_simp,?_⟩;have:=builder_new (w.alloc (.cells #[.bool b,.slice (some ⟨gd,od,none⟩) n cap,.int .i64 sc] 97)) (w.heap.size+1) (by simp);simpa using this
 have hmi:=h32.1;have hpo:=h32.2.1;have hgr:=h32.2.2.1;have hds:=h32.2.2.2;obtain ⟨acc0,hacc⟩:∃ a:List UInt8,a=if b then Lib.encodeRune mi else []:=⟨_,rfl⟩;have HA:=Lib.hid hacc;have hacl:acc0.length<=4:=by rw [hacc];split;exact encR_len mi;simp
 clear hacc h32
 cases b
 ·go_wp2_with fail
  refine calls_gen ?_;intro W1 hW1;obtain ⟨hb1,hz1,hc0,hc1,hc2,hbu⟩:=hbox W1 hW1;have hbu1:Lib.IsBuilder 155 5 (w.heap.size+1) (w.heap.size+1) (Lib.byteCells acc0) W1:=by rw [HA.out];exact hbu
  clear hW1 hbox hbu;have hz1':w.heap.size+2<=W1.heap.size:=by omega
  clear hz1;have hX1:=hX.below hb1 hg;have hB1:=hB.belowAt hb1 (by intro q hq;cases hq;exact hgd);refine (int_any gd od n cap sc _ l _ hl hs hcap (by omega) hB1).mono ?_;rintro e w2 ⟨⟨a1,cp1,rfl,ha1,hI⟩,hb2⟩;obtain ⟨nw,hnw⟩:∃ k:Nat,k=n - sc:=⟨_,rfl⟩;obtain ⟨lw,hlw⟩:∃ k:List Int,k=l.take nw:=⟨_,rfl⟩;rw [←hnw] at hI ⊢;rw [←hlw] at hI;have hlen:lw.length=nw:=by rw [hlw];simp;omega
  have hdw:∀ x∈lw,0<=x/\x<=9:=fun x hx=>hd x (by rw [hlw] at hx;exact List.mem_of_mem_take hx)
  have hbu2:=IsBuilder.later hbu1 hb2;have hz2:w.heap.size+2<=w2.heap.size:=by have:=hb2.size;omega
  have hb12:Below w.heap.size w w2:=hb1.trans (hb2.mono (by omega));have hd0:w2.cell? ⟨w.heap.size,0,none⟩=some (.bool false):=by rw [hb2.cell (by simp;omega)];exact hc0
  have hd1:w2.cell? ⟨w.heap.size,1,none⟩=some (.slice (some ⟨gd,od,none⟩) n cap):=by rw [hb2.cell (by simp;omega)];exact hc1
  have hd2:w2.cell? ⟨w.heap.size,2,none⟩=some (.int .i64 sc):=by rw [hb2.cell (by simp;omega)];exact hc2
  clear hc0 hc1 hc2 hbu1 hb1 hB1 hX1 hb2 hz1';have HNW:=Lib.hid hnw;have HLW:=Lib.hid hlw;have hnw':nw<=10000:=by omega
  have HLN:=Lib.hid hlen;have HL:=Lib.hid hl;clear hnw hlw hlen hl;go_wp2
  go_loopw [22] (fun i wr=>∃ k:Nat,k<=nw/\i = .int .i64 k/\Lib.IsBuilder 155 5 (w.heap.size+1) (w.heap.size+1) (Lib.byteCells (acc0++intX gr fi ne ds lw k)) wr/\Below (w.heap.size+1) w2 wr) (fun i _=>nw - (intOf i).toNat)
  case atStart=>exact ⟨0,by omega,rfl,by simpa [intX] using hbu2,Below.refl _ _⟩
  case round =>
   obtain ⟨k,hk,rfl,hbu,hbr⟩:=hrel;have hbw:Below w.heap.size w wr:=hb12.trans (hbr.mono (by omega));have hXr:=hX.below hbw hg;have hIr:=hI.belowAt hbr (by intro q hq;have:=ha1 q hq;omega);have hzr:w.heap.size+2<=wr.heap.size:=by have:=hbr.size;omega
   have hal:(acc0++intX gr fi ne ds lw k).length<=200000:=by have:=intX_len gr fi ne ds lw k;simp;omega
   by_cases hlt:k<nw
   ·have hklt:k<lw.length:=by rw [HLN.out];exact hlt
    obtain ⟨q,rfl,hcell⟩:=hIr k hklt;obtain ⟨m,hm,hm10⟩:=nat_of_digit (hdw lw[k] (List.getElem_mem hklt));rw [hm] at hcell;have hmd:m<ds.length:=by rw [hXr.len];exact hm10
    have hdm:=hXr.c7 m hmd;have c4:=hXr.c4;have hsub:(nw:Int) - (k:Int)=((nw - k:Nat):Int):=by omega
    have hstep:=intX_succ gr fi ne ds lw k;have hdig:digX ds lw k=Lib.encodeRune ds[m]:=by
     unfold digX;simp only [List.getD_eq_getElem?_getD,List.getElem?_eq_getElem hklt,Option.getD_some,hm,Int.toNat_natCast,List.getElem?_eq_getElem hmd]
    rw [hdig,HLN.out] at hstep;have HSTEP:=Lib.hid hstep;have hI32:=hds ds[m] (List.getElem_mem hmd);have hxm:(0:Int)<=(m:Int):=by omega
    have hxm10:m<10:=hm10;clear hm hdig hstep;by_cases hk0:0<k
    ·go_wp2_with fail
     refine (parted_any g mi po gr fi ne ds (nw - k) _ hXr (by omega) hfi hne hne2).mono ?_;rintro e w3 ⟨rfl,nq,rfl⟩;obtain ⟨pb,hpb⟩:∃ p,partB gr fi ne (nw - k)=p:=⟨_,rfl⟩;rw [hpb];have hst:=HSTEP.out;rw [hpb] at hst;have hk0d:decide (0<k)=true:=by simpa using hk0
     rw [hk0d,Bool.true_and] at hst;have HST:=Lib.hid hst;have hbuq:=IsBuilder.later hbu (below_drewN (Below.refl _ _) nq);have hbq:=below_drewN (Below.refl (w.heap.size+1) wr) nq;have hdq:(wr.drewN nq).cell? ⟨g,7+m,none⟩=some (.int .i32 ds[m]):=hdm;clear HSTEP hst hk0d hpb
     cases pb
     ·go_wp2_with fail
      refine (runeOn _ _ _ _ hI32 _ hbuq (by omega) (by simp;omega)).mono ?_;rintro e w4 ⟨⟨v,rfl⟩,hbu4,hb4⟩;have hfin:Lib.IsBuilder 155 5 (w.heap.size+1) (w.heap.size+1) (Lib.byteCells (acc0++intX gr fi ne ds lw (k+1))) w4:=by
       rw [HST.out];simpa using hbu4
      have hbf:=hbr.trans (hbq.trans hb4);go_wp2
      go_roundw
      case rel=>exact ⟨k+1,by omega,by go_num,hfin,hbf⟩
      case measure=>simp [intOf];omega
     ·go_wp2_with fail
      refine (runeOn _ _ _ _ hgr _ hbuq (by omega) (by simp;omega)).mono ?_;rintro e w4 ⟨⟨v,rfl⟩,hbu4,hb4⟩;have hb4s:=hb4.size;have hdm4:w4.cell? ⟨g,7+m,none⟩=some (.int .i32 ds[m]):=by rw [hb4.cell (by simp;omega)];exact hdq
      have hal4:(acc0++intX gr fi ne ds lw k++Lib.encodeRune gr).length<=300000:=by have:=encR_len gr;rw [List.length_append];omega
      go_wp2_with fail
      refine (runeOn _ _ _ _ hI32 _ hbu4 (by omega) (by simp at hb4s;omega)).mono ?_;rintro e w5 ⟨⟨v5,rfl⟩,hbu5,hb5⟩;have hfin:Lib.IsBuilder 155 5 (w.heap.size+1) (w.heap.size+1) (Lib.byteCells (acc0++intX gr fi ne ds lw (k+1))) w5:=by
       rw [HST.out];simpa using hbu5
      have hbf:=hbr.trans (hbq.trans (hb4.trans hb5));go_wp2
      go_roundw
      case rel=>exact ⟨k+1,by omega,by go_num,hfin,hbf⟩
      case measure=>simp [intOf];omega
    ·have hk0':k=0:=by omega
     subst hk0';clear hk0;have hcell0:wr.cell? q=some (.int .u8 m):=by rw [show q.add 0=q from by unfold Addr.add;simp] at hcell;exact hcell
     have hst:intX gr fi ne ds lw 1=intX gr fi ne ds lw 0++Lib.encodeRune ds[m]:=by simpa using HSTEP.out
     have HST:=Lib.hid hst;clear hst hcell HSTEP;go_wp2_with fail
     refine (runeOn _ _ _ _ hI32 _ hbu (by omega) (by omega)).mono ?_;rintro e w4 ⟨⟨v,rfl⟩,hbu4,hb4⟩;have hfin:Lib.IsBuilder 155 5 (w.heap.size+1) (w.heap.size+1) (Lib.byteCells (acc0++intX gr fi ne ds lw 1)) w4:=by
      rw [HST.out];simpa using hbu4
     have hbf:=hbr.trans hb4;go_wp2
     go_roundw
     case rel=>exact ⟨1,by omega,by go_num,hfin,hbf⟩
     case measure=>simp [intOf];omega
   ·have hk':k=nw:=by omega
    subst hk';clear hIr hI hlt;have he0:wr.cell? ⟨w.heap.size,0,none⟩=some (.bool false):=by rw [hbr.cell (by simp)];exact hd0
    have he1:wr.cell? ⟨w.heap.size,1,none⟩=some (.slice (some ⟨gd,od,none⟩) n cap):=by rw [hbr.cell (by simp)];exact hd1
    have he2:wr.cell? ⟨w.heap.size,2,none⟩=some (.int .i64 sc):=by rw [hbr.cell (by simp)];exact hd2
    have hBr:=hB.belowAt hbw (by intro q hq;cases hq;exact hgd);go_wp2_with fail
    refine (frac_any gd od n cap sc _ l _ HL.out hs hcap (by omega) hBr).mono ?_;rintro e w3 ⟨⟨a2,cp2,rfl,ha2,hF⟩,hb3⟩;rw [←HNW.out] at hF;obtain ⟨lf,hlf⟩:∃ x:List Int,x=l.drop k:=⟨_,rfl⟩;rw [←hlf] at hF;have hlen:lf.length=sc:=by rw [hlf];simp;have:=HL.out;have:=HNW.out;omega
    have hdf:∀ x∈lf,0<=x/\x<=9:=fun x hx=>hd x (by rw [hlf] at hx;exact List.mem_of_mem_drop hx)
    have hbu3:=IsBuilder.later hbu hb3;have hz3:w.heap.size+2<=w3.heap.size:=by have:=hb3.size;omega
    have hb13:Below w.heap.size w w3:=hbw.trans (hb3.mono (by omega));obtain ⟨acc1,hac1⟩:∃ x:List UInt8,x=acc0++intX gr fi ne ds lw k:=⟨_,rfl⟩;rw [←hac1] at hbu3 hal;have HLF:=Lib.hid hlf;have HFN:=Lib.hid hlen;have HA1:=Lib.hid hac1;clear hlf hlen hac1 hbu hb3 he0 he1 he2 hd0 hd1 hd2 hbr hbw hXr hzr hBr hbu2 hb12 hz2;have hsc:sc<=10000:=by omega
    go_wp2
    go_loopw [53] (fun i wr=>∃ k:Nat,k<=sc/\i = .int .i64 k/\Lib.IsBuilder 155 5 (w.heap.size+1) (w.heap.size+1) (Lib.byteCells (acc1++fracX po ds lf k)) wr/\Below (w.heap.size+1) w3 wr) (fun i _=>sc - (intOf i).toNat)
    case atStart=>exact ⟨0,by omega,rfl,by simpa [fracX] using hbu3,Below.refl _ _⟩
    case round =>
     obtain ⟨j,hj,rfl,hbu,hbr⟩:=hrel;have hbw:Below w.heap.size w wr:=hb13.trans (hbr.mono (by omega));have hXr:=hX.below hbw hg;have hFr:=hF.belowAt hbr (by intro q hq;have:=ha2 q hq;omega);have hzr:w.heap.size+2<=wr.heap.size:=by have:=hbr.size;omega
     have hal2:(acc1++fracX po ds lf j).length<=400000:=by have:=fracX_len po ds lf j;simp;omega
     by_cases hlt:j<sc
     ·have hjlt:j<lf.length:=by rw [HFN.out];exact hlt
      obtain ⟨q,rfl,hcell⟩:=hFr j hjlt;obtain ⟨m,hm,hm10⟩:=nat_of_digit (hdf lf[j] (List.getElem_mem hjlt));rw [hm] at hcell;have hmd:m<ds.length:=by rw [hXr.len];exact hm10
      have hdm:=hXr.c7 m hmd;have c3:=hXr.c3;have hstep:=fracX_succ po ds lf j;have hdig:digX ds lf j=Lib.encodeRune ds[m]:=by
       unfold digX;simp only [List.getD_eq_getElem?_getD,List.getElem?_eq_getElem hjlt,Option.getD_some,hm,Int.toNat_natCast,List.getElem?_eq_getElem hmd]
      rw [hdig] at hstep;have HSTEP:=Lib.hid hstep;have hI32:=hds ds[m] (List.getElem_mem hmd);have hxm:(0:Int)<=(m:Int):=by omega
      have hxm10:m<10:=hm10;clear hm hdig hstep;by_cases hj0:j=0
      ·subst hj0;have hcell0:wr.cell? q=some (.int .u8 m):=by rw [show q.add 0=q from by unfold Addr.add;simp] at hcell;exact hcell
       have hst:fracX po ds lf 1=fracX po ds lf 0++(Lib.encodeRune po++Lib.encodeRune ds[m]):=by simpa using HSTEP.out
       have HST:=Lib.hid hst;clear hst hcell HSTEP;go_wp2_with fail
       refine (runeOn _ _ _ _ hpo _ hbu (by omega) (by omega)).mono ?_;rintro e w4 ⟨⟨v,rfl⟩,hbu4,hb4⟩;have hb4s:=hb4.size;have hdm4:w4.cell? ⟨g,7+m,none⟩=some (.int .i32 ds[m]):=by rw [hb4.cell (by simp;omega)];exact hdm
       have hal4:(acc1++fracX po ds lf 0++Lib.encodeRune po).length<=500000:=by have:=encR_len po;rw [List.length_append];omega
       go_wp2_with fail
       refine (runeOn _ _ _ _ hI32 _ hbu4 (by omega) (by omega)).mono ?_;rintro e w5 ⟨⟨v5,rfl⟩,hbu5,hb5⟩;have hfin:Lib.IsBuilder 155 5 (w.heap.size+1) (w.heap.size+1) (Lib.byteCells (acc1++fracX po ds lf 1)) w5:=by
        rw [HST.out];simpa using hbu5
       have hbf:=hbr.trans (hb4.trans hb5);go_wp2
       go_roundw
       case rel=>exact ⟨1,by omega,by go_num,hfin,hbf⟩
       case measure=>simp [intOf];omega
      ·have hj0':((j:Int)==0)=false:=by simpa using hj0
       have hst:fracX po ds lf (j+1)=fracX po ds lf j++Lib.encodeRune ds[m]:=by
        have:=HSTEP.out;rw [show (j==0)=false from by simpa using hj0] at this;simpa using this
       have HST:=Lib.hid hst;clear hst HSTEP;go_wp2_with fail
       refine (runeOn _ _ _ _ hI32 _ hbu (by omega) (by omega)).mono ?_;rintro e w4 ⟨⟨v,rfl⟩,hbu4,hb4⟩;have hfin:Lib.IsBuilder 155 5 (w.heap.size+1) (w.heap.size+1) (Lib.byteCells (acc1++fracX po ds lf (j+1))) w4:=by
        rw [HST.out];simpa using hbu4
       have hbf:=hbr.trans hb4;go_wp2
       go_roundw
       case rel=>exact ⟨j+1,by omega,by go_num,hfin,hbf⟩
       case measure=>simp [intOf];omega
     ·have hj':j=sc:=by omega
      subst hj';clear hFr hF hlt;have hfin:acc1++fracX po ds lf j=writeX false l j mi po gr fi ne ds:=by
       have e1:=HA1.out;have e2:=HA.out;have e3:=HNW.out;have e4:=HLW.out;have e5:=HLF.out;have e6:=HL.out;subst e1 e2 e4 e5 e6;unfold writeX;rw [←e3];try simp
      have HFIN:=Lib.hid hfin;clear hfin;go_wp2_with fail
      refine (Tryz.Builder_String_any _ _ _ _ hbu (by omega)).mono ?_;rintro e w5 ⟨rfl,hb5⟩;go_wp2
      go_ret
      exact ⟨by rw [←HFIN.out];rfl,hbw.trans (hb5.mono (by omega))⟩
 ·go_wp2_with fail
  refine calls_gen ?_;intro W0 hW0;obtain ⟨hb0,hz0,hc0',hc1',hc2',hbu⟩:=hbox W0 hW0;clear hW0 hbox;refine (runeOn _ _ _ _ hmi _ hbu (by simp) (by omega)).mono ?_;rintro e W1 ⟨⟨v,rfl⟩,hbu1',hbw⟩;have hbu1:Lib.IsBuilder 155 5 (w.heap.size+1) (w.heap.size+1) (Lib.byteCells acc0) W1:=by rw [HA.out];exact hbu1'
  have hb1:Below w.heap.size w W1:=hb0.trans (hbw.mono (by omega));have hz1':w.heap.size+2<=W1.heap.size:=by have:=hbw.size;omega
  have hc0:W1.cell? ⟨w.heap.size,0,none⟩=some (.bool true):=by rw [hbw.cell (by simp)];exact hc0'
  have hc1:W1.cell? ⟨w.heap.size,1,none⟩=some (.slice (some ⟨gd,od,none⟩) n cap):=by rw [hbw.cell (by simp)];exact hc1'
  have hc2:W1.cell? ⟨w.heap.size,2,none⟩=some (.int .i64 sc):=by rw [hbw.cell (by simp)];exact hc2'
  clear hb0 hz0 hc0' hc1' hc2' hbu hbu1' hbw;go_wp2_with fail
  have hX1:=hX.below hb1 hg;have hB1:=hB.belowAt hb1 (by intro q hq;cases hq;exact hgd);refine (int_any gd od n cap sc _ l _ hl hs hcap (by omega) hB1).mono ?_;rintro e w2 ⟨⟨a1,cp1,rfl,ha1,hI⟩,hb2⟩;obtain ⟨nw,hnw⟩:∃ k:Nat,k=n - sc:=⟨_,rfl⟩;obtain ⟨lw,hlw⟩:∃ k:List Int,k=l.take nw:=⟨_,rfl⟩;rw [←hnw] at hI ⊢;rw [←hlw] at hI;have hlen:lw.length=nw:=by rw [hlw];simp;omega
  have hdw:∀ x∈lw,0<=x/\x<=9:=fun x hx=>hd x (by rw [hlw] at hx;exact List.mem_of_mem_take hx)
  have hbu2:=IsBuilder.later hbu1 hb2;have hz2:w.heap.size+2<=w2.heap.size:=by have:=hb2.size;omega
  have hb12:Below w.heap.size w w2:=hb1.trans (hb2.mono (by omega));have hd0:w2.cell? ⟨w.heap.size,0,none⟩=some (.bool true):=by rw [hb2.cell (by simp;omega)];exact hc0
  have hd1:w2.cell? ⟨w.heap.size,1,none⟩=some (.slice (some ⟨gd,od,none⟩) n cap):=by rw [hb2.cell (by simp;omega)];exact hc1
  have hd2:w2.cell? ⟨w.heap.size,2,none⟩=some (.int .i64 sc):=by rw [hb2.cell (by simp;omega)];exact hc2
  clear hc0 hc1 hc2 hbu1 hb1 hB1 hX1 hb2 hz1';have HNW:=Lib.hid hnw;have HLW:=Lib.hid hlw;have hnw':nw<=10000:=by omega
  have HLN:=Lib.hid hlen;have HL:=Lib.hid hl;clear hnw hlw hlen hl;go_wp2
  go_loopw [22] (fun i wr=>∃ k:Nat,k<=nw/\i = .int .i64 k/\Lib.IsBuilder 155 5 (w.heap.size+1) (w.heap.size+1) (Lib.byteCells (acc0++intX gr fi ne ds lw k)) wr/\Below (w.heap.size+1) w2 wr) (fun i _=>nw - (intOf i).toNat)
  case atStart=>exact ⟨0,by omega,rfl,by simpa [intX] using hbu2,Below.refl _ _⟩
  case round =>
   obtain ⟨k,hk,rfl,hbu,hbr⟩:=hrel;have hbw:Below w.heap.size w wr:=hb12.trans (hbr.mono (by omega));have hXr:=hX.below hbw hg;have hIr:=hI.belowAt hbr (by intro q hq;have:=ha1 q hq;omega);have hzr:w.heap.size+2<=wr.heap.size:=by have:=hbr.size;omega
   have hal:(acc0++intX gr fi ne ds lw k).length<=200000:=by have:=intX_len gr fi ne ds lw k;simp;omega
   by_cases hlt:k<nw
   ·have hklt:k<lw.length:=by rw [HLN.out];exact hlt
    obtain ⟨q,rfl,hcell⟩:=hIr k hklt;obtain ⟨m,hm,hm10⟩:=nat_of_digit (hdw lw[k] (List.getElem_mem hklt));rw [hm] at hcell;have hmd:m<ds.length:=by rw [hXr.len];exact hm10
    have hdm:=hXr.c7 m hmd;have c4:=hXr.c4;have hsub:(nw:Int) - (k:Int)=((nw - k:Nat):Int):=by omega
    have hstep:=intX_succ gr fi ne ds lw k;have hdig:digX ds lw k=Lib.encodeRune ds[m]:=by
     unfold digX;simp only [List.getD_eq_getElem?_getD,List.getElem?_eq_getElem hklt,Option.getD_some,hm,Int.toNat_natCast,List.getElem?_eq_getElem hmd]
    rw [hdig,HLN.out] at hstep;have HSTEP:=Lib.hid hstep;have hI32:=hds ds[m] (List.getElem_mem hmd);have hxm:(0:Int)<=(m:Int):=by omega
    have hxm10:m<10:=hm10;clear hm hdig hstep;by_cases hk0:0<k
    ·go_wp2_with fail
     refine (parted_any g mi po gr fi ne ds (nw - k) _ hXr (by omega) hfi hne hne2).mono ?_;rintro e w3 ⟨rfl,nq,rfl⟩;obtain ⟨pb,hpb⟩:∃ p,partB gr fi ne (nw - k)=p:=⟨_,rfl⟩;rw [hpb];have hst:=HSTEP.out;rw [hpb] at hst;have hk0d:decide (0<k)=true:=by simpa using hk0
     rw [hk0d,Bool.true_and] at hst;have HST:=Lib.hid hst;have hbuq:=IsBuilder.later hbu (below_drewN (Below.refl _ _) nq);have hbq:=below_drewN (Below.refl (w.heap.size+1) wr) nq;have hdq:(wr.drewN nq).cell? ⟨g,7+m,none⟩=some (.int .i32 ds[m]):=hdm;clear HSTEP hst hk0d hpb
     cases pb
     ·go_wp2_with fail
      refine (runeOn _ _ _ _ hI32 _ hbuq (by omega) (by simp;omega)).mono ?_;rintro e w4 ⟨⟨v,rfl⟩,hbu4,hb4⟩;have hfin:Lib.IsBuilder 155 5 (w.heap.size+1) (w.heap.size+1) (Lib.byteCells (acc0++intX gr fi ne ds lw (k+1))) w4:=by
       rw [HST.out];simpa using hbu4
      have hbf:=hbr.trans (hbq.trans hb4);go_wp2
      go_roundw
      case rel=>exact ⟨k+1,by omega,by go_num,hfin,hbf⟩
      case measure=>simp [intOf];omega
     ·go_wp2_with fail
      refine (runeOn _ _ _ _ hgr _ hbuq (by omega) (by simp;omega)).mono ?_;rintro e w4 ⟨⟨v,rfl⟩,hbu4,hb4⟩;have hb4s:=hb4.size;have hdm4:w4.cell? ⟨g,7+m,none⟩=some (.int .i32 ds[m]):=by rw [hb4.cell (by simp;omega)];exact hdq
      have hal4:(acc0++intX gr fi ne ds lw k++Lib.encodeRune gr).length<=300000:=by have:=encR_len gr;rw [List.length_append];omega
      go_wp2_with fail
      refine (runeOn _ _ _ _ hI32 _ hbu4 (by omega) (by simp at hb4s;omega)).mono ?_;rintro e w5 ⟨⟨v5,rfl⟩,hbu5,hb5⟩;have hfin:Lib.IsBuilder 155 5 (w.heap.size+1) (w.heap.size+1) (Lib.byteCells (acc0++intX gr fi ne ds lw (k+1))) w5:=by
       rw [HST.out];simpa using hbu5
      have hbf:=hbr.trans (hbq.trans (hb4.trans hb5));go_wp2
      go_roundw
      case rel=>exact ⟨k+1,by omega,by go_num,hfin,hbf⟩
      case measure=>simp [intOf];omega
    ·have hk0':k=0:=by omega
     subst hk0';clear hk0;have hcell0:wr.cell? q=some (.int .u8 m):=by rw [show q.add 0=q from by unfold Addr.add;simp] at hcell;exact hcell
     have hst:intX gr fi ne ds lw 1=intX gr fi ne ds lw 0++Lib.encodeRune ds[m]:=by simpa using HSTEP.out
     have HST:=Lib.hid hst;clear hst hcell HSTEP;go_wp2_with fail
     refine (runeOn _ _ _ _ hI32 _ hbu (by omega) (by omega)).mono ?_;rintro e w4 ⟨⟨v,rfl⟩,hbu4,hb4⟩;have hfin:Lib.IsBuilder 155 5 (w.heap.size+1) (w.heap.size+1) (Lib.byteCells (acc0++intX gr fi ne ds lw 1)) w4:=by
      rw [HST.out];simpa using hbu4
     have hbf:=hbr.trans hb4;go_wp2
     go_roundw
     case rel=>exact ⟨1,by omega,by go_num,hfin,hbf⟩
     case measure=>simp [intOf];omega
   ·have hk':k=nw:=by omega
    subst hk';clear hIr hI hlt;have he0:wr.cell? ⟨w.heap.size,0,none⟩=some (.bool true):=by rw [hbr.cell (by simp)];exact hd0
    have he1:wr.cell? ⟨w.heap.size,1,none⟩=some (.slice (some ⟨gd,od,none⟩) n cap):=by rw [hbr.cell (by simp)];exact hd1
    have he2:wr.cell? ⟨w.heap.size,2,none⟩=some (.int .i64 sc):=by rw [hbr.cell (by simp)];exact hd2
    have hBr:=hB.belowAt hbw (by intro q hq;cases hq;exact hgd);go_wp2_with fail
    refine (frac_any gd od n cap sc _ l _ HL.out hs hcap (by omega) hBr).mono ?_;rintro e w3 ⟨⟨a2,cp2,rfl,ha2,hF⟩,hb3⟩;rw [←HNW.out] at hF;obtain ⟨lf,hlf⟩:∃ x:List Int,x=l.drop k:=⟨_,rfl⟩;rw [←hlf] at hF;have hlen:lf.length=sc:=by rw [hlf];simp;have:=HL.out;have:=HNW.out;omega
    have hdf:∀ x∈lf,0<=x/\x<=9:=fun x hx=>hd x (by rw [hlf] at hx;exact List.mem_of_mem_drop hx)
    have hbu3:=IsBuilder.later hbu hb3;have hz3:w.heap.size+2<=w3.heap.size:=by have:=hb3.size;omega
    have hb13:Below w.heap.size w w3:=hbw.trans (hb3.mono (by omega));obtain ⟨acc1,hac1⟩:∃ x:List UInt8,x=acc0++intX gr fi ne ds lw k:=⟨_,rfl⟩;rw [←hac1] at hbu3 hal;have HLF:=Lib.hid hlf;have HFN:=Lib.hid hlen;have HA1:=Lib.hid hac1;clear hlf hlen hac1 hbu hb3 he0 he1 he2 hd0 hd1 hd2 hbr hbw hXr hzr hBr hbu2 hb12 hz2;have hsc:sc<=10000:=by omega
    go_wp2
    go_loopw [53] (fun i wr=>∃ k:Nat,k<=sc/\i = .int .i64 k/\Lib.IsBuilder 155 5 (w.heap.size+1) (w.heap.size+1) (Lib.byteCells (acc1++fracX po ds lf k)) wr/\Below (w.heap.size+1) w3 wr) (fun i _=>sc - (intOf i).toNat)
    case atStart=>exact ⟨0,by omega,rfl,by simpa [fracX] using hbu3,Below.refl _ _⟩
    case round =>
     obtain ⟨j,hj,rfl,hbu,hbr⟩:=hrel;have hbw:Below w.heap.size w wr:=hb13.trans (hbr.mono (by omega));have hXr:=hX.below hbw hg;have hFr:=hF.belowAt hbr (by intro q hq;have:=ha2 q hq;omega);have hzr:w.heap.size+2<=wr.heap.size:=by have:=hbr.size;omega
     have hal2:(acc1++fracX po ds lf j).length<=400000:=by have:=fracX_len po ds lf j;simp;omega
     by_cases hlt:j<sc
     ·have hjlt:j<lf.length:=by rw [HFN.out];exact hlt
      obtain ⟨q,rfl,hcell⟩:=hFr j hjlt;obtain ⟨m,hm,hm10⟩:=nat_of_digit (hdf lf[j] (List.getElem_mem hjlt));rw [hm] at hcell;have hmd:m<ds.length:=by rw [hXr.len];exact hm10
      have hdm:=hXr.c7 m hmd;have c3:=hXr.c3;have hstep:=fracX_succ po ds lf j;have hdig:digX ds lf j=Lib.encodeRune ds[m]:=by
       unfold digX;simp only [List.getD_eq_getElem?_getD,List.getElem?_eq_getElem hjlt,Option.getD_some,hm,Int.toNat_natCast,List.getElem?_eq_getElem hmd]
      rw [hdig] at hstep;have HSTEP:=Lib.hid hstep;have hI32:=hds ds[m] (List.getElem_mem hmd);have hxm:(0:Int)<=(m:Int):=by omega
      have hxm10:m<10:=hm10;clear hm hdig hstep;by_cases hj0:j=0
      ·subst hj0;have hcell0:wr.cell? q=some (.int .u8 m):=by rw [show q.add 0=q from by unfold Addr.add;simp] at hcell;exact hcell
       have hst:fracX po ds lf 1=fracX po ds lf 0++(Lib.encodeRune po++Lib.encodeRune ds[m]):=by simpa using HSTEP.out
       have HST:=Lib.hid hst;clear hst hcell HSTEP;go_wp2_with fail
       refine (runeOn _ _ _ _ hpo _ hbu (by omega) (by omega)).mono ?_;rintro e w4 ⟨⟨v,rfl⟩,hbu4,hb4⟩;have hb4s:=hb4.size;have hdm4:w4.cell? ⟨g,7+m,none⟩=some (.int .i32 ds[m]):=by rw [hb4.cell (by simp;omega)];exact hdm
       have hal4:(acc1++fracX po ds lf 0++Lib.encodeRune po).length<=500000:=by have:=encR_len po;rw [List.length_append];omega
       go_wp2_with fail
       refine (runeOn _ _ _ _ hI32 _ hbu4 (by omega) (by omega)).mono ?_;rintro e w5 ⟨⟨v5,rfl⟩,hbu5,hb5⟩;have hfin:Lib.IsBuilder 155 5 (w.heap.size+1) (w.heap.size+1) (Lib.byteCells (acc1++fracX po ds lf 1)) w5:=by
        rw [HST.out];simpa using hbu5
       have hbf:=hbr.trans (hb4.trans hb5);go_wp2
       go_roundw
       case rel=>exact ⟨1,by omega,by go_num,hfin,hbf⟩
       case measure=>simp [intOf];omega
      ·have hj0':((j:Int)==0)=false:=by simpa using hj0
       have hst:fracX po ds lf (j+1)=fracX po ds lf j++Lib.encodeRune ds[m]:=by
        have:=HSTEP.out;rw [show (j==0)=false from by simpa using hj0] at this;simpa using this
       have HST:=Lib.hid hst;clear hst HSTEP;go_wp2_with fail
       refine (runeOn _ _ _ _ hI32 _ hbu (by omega) (by omega)).mono ?_;rintro e w4 ⟨⟨v,rfl⟩,hbu4,hb4⟩;have hfin:Lib.IsBuilder 155 5 (w.heap.size+1) (w.heap.size+1) (Lib.byteCells (acc1++fracX po ds lf (j+1))) w4:=by
        rw [HST.out];simpa using hbu4
       have hbf:=hbr.trans hb4;go_wp2
       go_roundw
       case rel=>exact ⟨j+1,by omega,by go_num,hfin,hbf⟩
       case measure=>simp [intOf];omega
     ·have hj':j=sc:=by omega
      subst hj';clear hFr hF hlt;have hfin:acc1++fracX po ds lf j=writeX true l j mi po gr fi ne ds:=by
       have e1:=HA1.out;have e2:=HA.out;have e3:=HNW.out;have e4:=HLW.out;have e5:=HLF.out;have e6:=HL.out;subst e1 e2 e4 e5 e6;unfold writeX;rw [←e3];try simp
      have HFIN:=Lib.hid hfin;clear hfin;go_wp2_with fail
      refine (Tryz.Builder_String_any _ _ _ _ hbu (by omega)).mono ?_;rintro e w5 ⟨rfl,hb5⟩;go_wp2
      go_ret
      exact ⟨by rw [←HFIN.out];rfl,hbw.trans (hb5.mono (by omega))⟩
end Go.Proofs.YthpldolmpinnhaaGreatDoor
