import Derived.Test.YthpldolmpinnhaaGreatDoorJ30
import Derived.Test.YthpldolmpinnhaaGreatDoorShelfR
import Derived.Shelf.SlicesE.Reverse
namespace Go.Proofs.YthpldolmpinnhaaGreatDoor
open Go Go.RowKit Go.Shelf Go.Sort
set_option maxRecDepth 10000
theorem holds_own {w:World} {base g cap:Nat} {e:TypeId} {zs:List Int} (h:w.ownsRow base e 1 (.slice (some ⟨g,0,none⟩) zs.length cap) zs.length (zs.map (Value.int .u8))):Holds (Value.int .u8) w g 0 zs.toArray:=by
 intro j hj;have hj':j<zs.length:=by simpa using hj
 refine ⟨?_,?_⟩
 ·rw [Nat.zero_add,h.cellAt j (by omega)];simp [hj',getElem!_pos]
 ·exact h.frozenAt _
theorem own_putRow {w:World} {base g n cap:Nat} {e:TypeId} {xs:List Value} {zs:List Int} (h:w.ownsRow base e 1 (.slice (some ⟨g,0,none⟩) n cap) n xs) (hz:zs.length=n) :
  (putRow (Value.int .u8) w g 0 zs.toArray).ownsRow base e 1 (.slice (some ⟨g,0,none⟩) n cap) n (zs.map (Value.int .u8)):=by
 refine ⟨by simp [hz],?_⟩;rcases h.2 with ⟨hv,_⟩ | ⟨g2,cap2,cur,hv,hg,hh,h1,h2,h3,ht⟩
 ·cases hv
 ·simp only [Value.slice.injEq,Option.some.injEq,Addr.mk.injEq] at hv;obtain ⟨⟨rfl,-⟩,-,rfl⟩:=hv;refine .inr ⟨g,cap,putCells (Value.int .u8) 0 zs.toArray cur,rfl,hg,?_,h1,h2,by simpa [putCells] using h3,?_⟩
  ·simp [putRow,mapBlock,Array.getElem?_modify,hh,onCells]
  ·apply List.ext_getElem?;intro j;by_cases hj:j<n
   ·have hjc:j<cur.size:=by omega
    simp [putCells,List.getElem?_take,hj,hjc,hz]
   ·rw [List.getElem?_eq_none (by simp;omega),List.getElem?_eq_none (by simp;omega)]
theorem below_putRow {B:Nat} {a w:World} (h:Below B a w) {g:Nat} (hg:B<=g) (d:Array Int):Below B a (putRow (Value.int .u8) w g 0 d):=by
 refine h.trans ⟨rfl,rfl,rfl,by simp [putRow,mapBlock],fun k hk=>?_⟩;simp only [putRow,mapBlock,Array.getElem?_modify];rw [if_neg (by omega)]
theorem reverse_own (g cap base:Nat) (zs:List Int) (w:World) (hz:zs.length<=2000000000) (h:w.ownsRow base 5 1 (.slice (some ⟨g,0,none⟩) zs.length cap) zs.length (zs.map (Value.int .u8))) :
  Calls Tryz.prog 208 #[.slice (some ⟨g,0,none⟩) zs.length cap] w fun e w'=>e = .returned (.tuple #[])/\w'.ownsRow base 5 1 (.slice (some ⟨g,0,none⟩) zs.length cap) zs.length (zs.reverse.map (Value.int .u8)) /\
   w'.heap.size=w.heap.size/\(∀ k,k≠g->w'.heap[k]? = w.heap[k]?)/\Below base w w':=by
 have hg:base<=g:=(h.lt g rfl).1;refine (AnyE.slices_Reverse Tryz.laysRev (Value.int .u8) (fun _=>rfl) g 0 cap zs w (holds_own h) (by omega)).mono ?_;rintro e w' ⟨rfl,n,rfl⟩;have ha:(Sort.ahead w n).ownsRow base 5 1 (.slice (some ⟨g,0,none⟩) zs.length cap) zs.length (zs.map (Value.int .u8)):=h;refine ⟨rfl,own_putRow ha (by simp),by simp [putRow,mapBlock,Sort.ahead],fun k hk=>?_,below_putRow (show Below base w (Sort.ahead w n) from ⟨rfl,rfl,rfl,Nat.le_refl _,fun _ _=>rfl⟩) hg _⟩;simp only [putRow,mapBlock,Array.getElem?_modify];rw [if_neg (by omega)];rfl
theorem digs_vals (l:List UInt8):digs l=(vals l).map (Value.int .u8):=by simp [digs,vals]
theorem dchar_val {d:Nat} (h:d<10):((dchar d).toNat:Int) - 48=d:=by
 unfold dchar;rw [UInt8.toNat_ofNat'];omega
def WholePost (v:Nat) (w:World) (e:Ending) (w':World):Prop :=
 (∃ g cap,e = .returned (.agg #[.bool false,.slice (some ⟨g,0,none⟩) (decL v).length cap,.int .i64 0])/\w'.ownsRow w.heap.size 5 1 (.slice (some ⟨g,0,none⟩) (decL v).length cap) (decL v).length (digs (decL v)))/\Below w.heap.size w w'
set_option maxHeartbeats 1000000 in
theorem whole_any (v:Nat) (w:World) (hv:v<=1000000000):Calls Tryz.prog 166 #[.int .i64 v] w (WholePost v w):=by
 have hL:=decL_length v;obtain ⟨i,hi,hz,h2,h3⟩:=elem_bytes.info;go_enter Tryz.func166,Tryz.ntmps166
 go_wp2
 refine wp_gen ?_;intro W hW;have F:W.heap.size=w.heap.size+1/\Below w.heap.size w W/\W.cell? ⟨w.heap.size,0,none⟩=some (.bool false)/\W.cell? ⟨w.heap.size,1,none⟩=some (.slice none 0 0)/\W.cell? ⟨w.heap.size,2,none⟩=some (.int .i64 0)/\W.frozen? ⟨w.heap.size,1,none⟩=false/\W.frozen? ⟨w.heap.size,0,none⟩=false/\W.frozen? ⟨w.heap.size,2,none⟩=false:=by
  subst hW;exact ⟨by simp,(Below.refl _ _).alloc (Nat.le_refl _) _,by go_simp,by go_simp,by go_simp,by go_simp,by go_simp,by go_simp⟩
 obtain ⟨f1,f2,f3,f4,f5,f6,f7,f8⟩:=F;clear hW;go_loopw [0,3] (fun n ok wr=>∃ (m:Nat) (acc:List UInt8) (sv:Value) (b:Bool),n = .int .i64 m/\ok = .bool b/\m<=v/\wr.ownsRow (w.heap.size+1) 5 1 sv acc.length (digs acc)/\Below w.heap.size w wr/\w.heap.size<wr.heap.size /\
   wr.cell? ⟨w.heap.size,0,none⟩=some (.bool false)/\wr.cell? ⟨w.heap.size,1,none⟩=some sv/\wr.cell? ⟨w.heap.size,2,none⟩=some (.int .i64 0)/\wr.frozen? ⟨w.heap.size,1,none⟩=false/\wr.frozen? ⟨w.heap.size,0,none⟩=false/\wr.frozen? ⟨w.heap.size,2,none⟩=false /\
   (b=true->decL v=decL m++acc.reverse)/\(b=false->decL v=acc.reverse)) (fun n ok _=>(intOf n).toNat+match ok with | .bool true=>1 | _=>0)
 case atStart=>exact ⟨v,[],.slice none 0 0,true,rfl,rfl,Nat.le_refl _,World.ownsRow_nil _ _ _ _,f2,by omega,f3,f4,f5,f6,f7,f8,fun _=>by simp,fun h=>by cases h⟩
 case round =>
  obtain ⟨m,acc,sv,b,rfl,rfl,hm,hown,hb,hs,g0,g1,g2,g3,g4,g5,ht,hf⟩:=hrel;clear f2 f3 f4 f5 f6 f7 f8
  cases b with
  | false =>
   have hd:=hf rfl;clear ht hf;have hrev:acc.length=(decL v).length:=by rw [hd];simp
   have hlen:0<acc.length:=by
    rw [hrev];by_cases h10:v<10
    ·rw [decL_small h10];simp
    ·rw [decL_big h10];simp
   obtain ⟨g,cap,rfl,hg0,hg1,hgc⟩:=own_some hown hlen;have hR:=reverse_own g cap (w.heap.size+1) (vals acc) wr (by simp [vals];omega) (by rw [←digs_vals];simpa [vals] using hown);have hvl:(vals acc).length=acc.length:=by simp [vals]
   have hrd:(vals acc).reverse.map (Value.int .u8)=digs (decL v):=by rw [hd,digs_vals];simp [vals,List.map_reverse]
   rw [hvl,hrd,hrev] at hR;rw [hrev] at g1;have HR:=Lib.hid hR;clear hR hrd hd hrev hvl hgc hown;go_wp2_with fail
   refine HR.out.mono ?_;rintro e w1 ⟨rfl,hown1,hsz,hblk,hb1⟩;have hne:w.heap.size≠g:=by omega
   have e0:w1.cell? ⟨w.heap.size,0,none⟩=some (.bool false):=(World.cell?_of_block (hblk _ hne)).trans g0;have e1:w1.cell? ⟨w.heap.size,1,none⟩=some (.slice (some ⟨g,0,none⟩) (decL v).length cap):=(World.cell?_of_block (hblk _ hne)).trans g1;have e2:w1.cell? ⟨w.heap.size,2,none⟩=some (.int .i64 0):=(World.cell?_of_block (hblk _ hne)).trans g2;have hbb:Below w.heap.size w w1:=hb.trans (hb1.mono (by omega));have z1:w1.frozen? ⟨w.heap.size,1,none⟩=false:=(World.frozen?_of_block (hblk _ hne)).trans g3;have z0:w1.frozen? ⟨w.heap.size,0,none⟩=false:=(World.frozen?_of_block (hblk _ hne)).trans g4;have z2:w1.frozen? ⟨w.heap.size,2,none⟩=false:=(World.frozen?_of_block (hblk _ hne)).trans g5;clear hblk g0 g1 g2 g3 g4 g5;go_wp2
   refine bodyPost_ret (v := .agg #[.bool false,.slice (some ⟨g,0,none⟩) (decL v).length cap,.int .i64 0]) ?_ rfl ?_
   ·simp [results,Tryz.results166,go_sem,e0,e1,e2]
   have hn:some w.heap.size≠(Value.slice (some ⟨g,0,none⟩) (decL v).length cap).ownBlock:=fun e=>hne (by simpa [Value.ownBlock] using e)
   exact ⟨⟨g,cap,rfl,own_set (own_set (own_set (own_mono hown1 (Nat.le_succ _)) hn _) hn _) hn _⟩,((hbb.setCell (Nat.le_refl _) _).setCell (Nat.le_refl _) _).setCell (Nat.le_refl _) _⟩
  | true =>
   have hd:=ht rfl;have HD:=Lib.hid hd;clear ht hf hd;go_wp2_with (at_builtin;refine app_own elem_bytes rfl _ _ rfl (w.heap.size+1) sv acc.length (digs acc) rfl (hown.alloc _) ⟨wr.heap.size,0,none⟩ 1 1 [.int .u8 ((m:Int) % 10)] rfl rfl ?c1 ?c2 ?c3 ?c4 ?_)
   case c1=>exact cells_one (cell_made _ _ _ _ _)
   case c2=>intro u hu;simp at hu;subst hu;rfl
   case c3 =>
    have:=congrArg List.length HD.out;simp at this;omega
   case c4=>simp;omega
   intro sv' w1 hown1 hgrow;have hb1:Below w.heap.size w w1:=(hb.alloc hb.size _).grown hgrow (by have:=hb.size;simp;omega) (fun q hq=>by have:=(hown.lt q hq).1;omega);have hne:some w.heap.size≠sv.ownBlock:=fun e=>by have:=(hown.lt _ e.symm).1;omega
   have k0:w1.cell? ⟨w.heap.size,0,none⟩=some (.bool false):=hgrow.cell ((World.cell?_alloc_lt _ _ _ hs).trans g0) hne;have k1:w1.cell? ⟨w.heap.size,1,none⟩=some sv:=hgrow.cell ((World.cell?_alloc_lt _ _ _ hs).trans g1) hne;have k2:w1.cell? ⟨w.heap.size,2,none⟩=some (.int .i64 0):=hgrow.cell ((World.cell?_alloc_lt _ _ _ hs).trans g2) hne;have k3:w1.frozen? ⟨w.heap.size,1,none⟩=false:=(World.frozen?_of_block (hgrow.block w.heap.size (by simp;omega) hne)).trans ((World.frozen?_of_block (Below.heap_alloc _ _ _ hs)).trans g3);have k4:w1.frozen? ⟨w.heap.size,0,none⟩=false:=(World.frozen?_of_block (hgrow.block w.heap.size (by simp;omega) hne)).trans ((World.frozen?_of_block (Below.heap_alloc _ _ _ hs)).trans g4);have k5:w1.frozen? ⟨w.heap.size,2,none⟩=false:=(World.frozen?_of_block (hgrow.block w.heap.size (by simp;omega) hne)).trans ((World.frozen?_of_block (Below.heap_alloc _ _ _ hs)).trans g5);have hs1:w.heap.size<w1.heap.size:=World.block_lt_of_cell? w1 _ k0;have hq:((m:Int).tdiv 10)=((m / 10:Nat):Int):=by rw [Int.tdiv_eq_ediv_of_nonneg (by omega)];rfl
   obtain ⟨a1,c1,rfl⟩:=own_slice hown1;clear hgrow hown g0 g1 g2 g3 g4 g5 hb hs;go_wp2
   have hown2:(w1.setCell ⟨w.heap.size,1,none⟩ (.slice a1 (acc.length+1) c1)).ownsRow (w.heap.size+1) 5 1 (.slice a1 (acc.length+1) c1) (acc.length+1) (digs acc++[.int .u8 ((m:Int) % 10)]) :=
    own_set hown1 (fun e=>by have:=(hown1.lt _ e.symm).1;simp at this;omega) _
   have hdg:digs (acc++[dchar (m % 10)])=digs acc++[.int .u8 ((m:Int) % 10)]:=by
    have h10:=dchar_val (d:=m % 10) (by omega);simp only [digs,List.map_append,List.map_cons,List.map_nil,h10];rfl
   refine ⟨⟨m / 10,acc++[dchar (m % 10)],.slice a1 (acc.length+1) c1,decide (0<m / 10),by go_num,?_,by omega,?_,hb1.setCell (Nat.le_refl _) _,by simpa [World.setCell] using hs1,?_,?_,?_,?_,?_,?_,?_,?_⟩,?_⟩
   ·congr 1;exact decide_eq_decide.2 (by omega)
   ·rw [hdg];simpa using hown2
   ·go_simp
   ·go_simp
   ·go_simp
   ·go_simp
   ·go_simp
   ·go_simp
   ·intro h;have h10:0<m / 10:=of_decide_eq_true h;rw [HD.out,decL_big (by omega)];simp
   ·intro h;have h10:¬0<m / 10:=of_decide_eq_false h;have:m % 10=m:=by omega
    rw [HD.out,decL_small (by omega),this];simp
   ·by_cases h10:0<m / 10
    ·have:decide (0<(m:Int) / 10)=true:=decide_eq_true (by omega);rw [this];simp [intOf];omega
    ·have:decide (0<(m:Int) / 10)=false:=decide_eq_false (by omega);rw [this];simp [intOf];omega
end Go.Proofs.YthpldolmpinnhaaGreatDoor
namespace Go.Proofs.YthpldolmpinnhaaGreatDoor
open Go Go.RowKit
set_option maxRecDepth 10000
structure DgOk (x:Dg):Prop where
 dig1:x.1.all isDig=true
 dig2:x.2.all isDig=true
 ne:x.1≠[]
 len1:x.1.length<=100
 len2:x.2.length<=100
def NumV (w:World) (v:Value) (x:Dg):Prop :=
 ∃ b g o cap,v = .agg #[.bool b,.slice (some ⟨g,o,none⟩) (x.1.length+x.2.length) cap,.int .i64 x.2.length]/\x.1.length+x.2.length<=cap/\cap<=maxLen/\(∃ c,w.cell? ⟨g,0,none⟩=some (.int .u8 c))/\BytesAt w (some ⟨g,o,none⟩) (vals (x.1++x.2))/\DgOk x
theorem NumV.below {w w':World} {v:Value} {x:Dg} (h:NumV w v x) (hb:Below w.heap.size w w'):NumV w' v x:=by
 obtain ⟨b,g,o,cap,h1,h2,h3,h4,h5,h6⟩:=h;exact ⟨b,g,o,cap,h1,h2,h3,h4.imp fun _ hc=>(hb.cell (World.block_lt_of_cell? w _ hc)).trans hc,h5.below hb,h6⟩
theorem NumV.ok {w:World} {v:Value} {x:Dg} (h:NumV w v x):DgOk x:=by
 obtain ⟨b,g,o,cap,h1,h2,h3,h4,h5,h6⟩:=h;exact h6
theorem vals_append (a b:List UInt8):vals (a++b)=vals a++vals b:=by simp [vals]
theorem vals_length (a:List UInt8):(vals a).length=a.length:=by simp [vals]
theorem decL_dig (n:Nat):(decL n).all isDig=true:=by
 induction n using Nat.strongRecOn with
 | _ n ih =>
  have hd:∀ d,d<10->isDig (dchar d)=true:=by
   intro d h;rw [isDig_iff];have:=dchar_val h;omega
  by_cases h:n<10
  ·rw [decL_small h];simp [hd n h]
  ·rw [decL_big h,List.all_append,ih (n / 10) (by omega)];simp [hd (n % 10) (by omega)]
theorem decL_ne (n:Nat):decL n≠[]:=by
 by_cases h:n<10
 ·rw [decL_small h];simp
 ·rw [decL_big h];simp
theorem decL_short:∀ (k n:Nat),n<10 ^ (k+1)->(decL n).length<=k+1
 | 0,n,h=>by rw [decL_small (by simpa using h)];simp
 | k+1,n,h=>by
  by_cases h10:n<10
  ·rw [decL_small h10];simp
  ·rw [decL_big h10];have:=decL_short k (n / 10) (by rw [Nat.pow_succ] at h;omega);simp;omega
def NumPost' (x:Dg) (w:World) (e:Ending) (w':World):Prop:=(∃ v,e = .returned v/\NumV w' v x)/\Below w.heap.size w w'
theorem vals_dig0 {l:List UInt8} (h:l.all isDig=true):∀ x∈vals l,0<=x/\x<=9:=by
 intro x hx;simp only [vals,List.mem_map] at hx;obtain ⟨c,hc,rfl⟩:=hx;have:=(isDig_iff c).1 (List.all_eq_true.1 h c hc);omega
theorem any_brk (l:List UInt8):(vals l).any (· != 0)=brk l:=by
 have:=zero_eq l;unfold brk;have h2:(l.all (· == 48)) = !(l.any (· != 48)):=by
  rw [List.all_eq_not_any_not];rfl
 rw [h2] at this;simpa using congrArg (fun b => !b) this
set_option maxHeartbeats 1000000 in
theorem int_any2 (g o:Nat) (n cap sc:Nat) (b:Bool) (l:List Int) (w:World) (hl:l.length=n) (hs:sc<=n) (hcap:n<=cap) (hn:n<=1000000) (hB:BytesAt w (some ⟨g,o,none⟩) l) :
  Calls Tryz.prog 70 #[.agg #[.bool b,.slice (some ⟨g,o,none⟩) n cap,.int .i64 sc]] w fun e w'=>(∃ ad' cap',e = .returned (.slice ad' (n - sc) cap')/\n - sc<=cap'/\cap'<=cap/\BytesAt w' ad' (l.take (n - sc)))/\Below w.heap.size w w':=by
 obtain ⟨k,hk⟩:∃ k,n=k+sc:=⟨n - sc,by omega⟩;subst hk;rw [show k+sc - sc=k from by omega];have h0:(0:Int)<=((k+sc:Nat):Int) - (sc:Int):=by omega
 have h1:((k+sc:Nat):Int) - (sc:Int)=(k:Int):=by omega
 have h2:k<=cap:=by omega
 go_enter Tryz.func70,Tryz.ntmps70
 go_wp2
 go_ret
 exact ⟨⟨_,_,rfl,by omega,by omega,(hB.alloc _).take k⟩,(Below.refl _ _).alloc (Nat.le_refl _) _⟩
set_option maxHeartbeats 1000000 in
theorem frac_any2 (g o:Nat) (n cap sc:Nat) (b:Bool) (l:List Int) (w:World) (hl:l.length=n) (hs:sc<=n) (hcap:n<=cap) (hn:n<=1000000) (hB:BytesAt w (some ⟨g,o,none⟩) l) :
  Calls Tryz.prog 72 #[.agg #[.bool b,.slice (some ⟨g,o,none⟩) n cap,.int .i64 sc]] w fun e w'=>(∃ ad' cap',e = .returned (.slice (some ad') sc cap')/\sc<=cap'/\cap'<=cap/\BytesAt w' (some ad') (l.drop (n - sc)))/\Below w.heap.size w w':=by
 obtain ⟨k,hk⟩:∃ k,n=k+sc:=⟨n - sc,by omega⟩;subst hk;rw [show k+sc - sc=k from by omega];have h1:((k+sc:Nat):Int) - (sc:Int)=(k:Int):=by omega
 have h2:k<=cap:=by omega
 go_enter Tryz.func72,Tryz.ntmps72
 by_cases hck:cap=k
 ·have hz:l.drop k=[]:=List.drop_of_length_le (by omega);have HZ:=Lib.hid hz;clear hz;go_wp2
  go_ret
  refine ⟨⟨_,_,rfl,by omega,by omega,?_⟩,(Below.refl _ _).alloc (Nat.le_refl _) _⟩;rw [HZ.out];intro j hj;simp at hj
 ·go_wp2
  go_ret
  exact ⟨⟨_,_,rfl,by omega,by omega,(hB.alloc _).drop k⟩,(Below.refl _ _).alloc (Nat.le_refl _) _⟩
theorem frac_num2 (v:Value) (x:Dg) (w:World) (h:NumV w v x) :
  Calls Tryz.prog 72 #[v] w fun e w'=>(∃ ad' cap',e = .returned (.slice (some ad') x.2.length cap')/\x.2.length<=cap'/\cap'<=maxLen/\BytesAt w' (some ad') (vals x.2))/\Below w.heap.size w w':=by
 obtain ⟨b,g,go,cap,rfl,h2,h3,h4,h5,h6⟩:=h;have h61:=h6.len1;have h62:=h6.len2;refine (frac_any2 g go (x.1.length+x.2.length) cap x.2.length b (vals (x.1++x.2)) w (by rw [vals_length];simp) (by omega) h2 (by omega) h5).mono ?_;rintro e w' ⟨⟨ad',cap',rfl,hc1,hc2,hB⟩,hb⟩;refine ⟨⟨ad',cap',rfl,hc1,by omega,?_⟩,hb⟩;have:(vals (x.1++x.2)).drop (x.1.length+x.2.length - x.2.length)=vals x.2:=by
  rw [Nat.add_sub_cancel,vals_append,List.drop_append_of_le_length (by rw [vals_length];exact Nat.le_refl _),List.drop_of_length_le (by rw [vals_length];exact Nat.le_refl _),List.nil_append]
 rw [this] at hB;exact hB
theorem frac_num (v:Value) (x:Dg) (w:World) (h:NumV w v x) :
  Calls Tryz.prog 72 #[v] w fun e w'=>(∃ ad' cap',e = .returned (.slice ad' x.2.length cap')/\x.2.length<=cap'/\cap'<=maxLen/\BytesAt w' ad' (vals x.2))/\Below w.heap.size w w' :=
 (frac_num2 v x w h).mono fun _ _ ⟨⟨a,c,h1,h2,h3,h4⟩,hb⟩=>⟨⟨some a,c,h1,h2,h3,h4⟩,hb⟩
theorem int_num (v:Value) (x:Dg) (w:World) (h:NumV w v x) :
  Calls Tryz.prog 70 #[v] w fun e w'=>(∃ ad' cap',e = .returned (.slice ad' x.1.length cap')/\x.1.length<=cap'/\cap'<=maxLen/\BytesAt w' ad' (vals x.1))/\Below w.heap.size w w':=by
 obtain ⟨b,g,go,cap,rfl,h2,h3,h4,h5,h6⟩:=h;have h61:=h6.len1;have h62:=h6.len2;refine (int_any2 g go (x.1.length+x.2.length) cap x.2.length b (vals (x.1++x.2)) w (by rw [vals_length];simp) (by omega) h2 (by omega) h5).mono ?_;rintro e w' ⟨⟨ad',cap',rfl,hc1,hc2,hB⟩,hb⟩;rw [Nat.add_sub_cancel] at hB hc1 ⊢;refine ⟨⟨ad',cap',rfl,hc1,by omega,?_⟩,hb⟩;have:(vals (x.1++x.2)).take x.1.length=vals x.1:=by
  rw [vals_append,List.take_append_of_le_length (by rw [vals_length];exact Nat.le_refl _),List.take_of_length_le (by rw [vals_length];exact Nat.le_refl _)]
 rw [this] at hB;exact hB
set_option maxHeartbeats 1000000 in
theorem broken_any (v:Value) (x:Dg) (w:World) (h:NumV w v x) :
  Calls Tryz.prog 210 #[v] w fun e w'=>e = .returned (.bool (brk x.2))/\Below w.heap.size w w':=by
 have hb:=any_brk x.2;have hl:=h.ok.len2;have hF:=fun W (hW:NumV W v x)=>frac_num v x W hW
 have HF:=Lib.hid hF;have HH:=Lib.hid h;have HB:=Lib.hid hb;obtain ⟨b,g,go,cap,rfl,_,_,_,_,_⟩:=h;clear hF hb;go_enter Tryz.func210,Tryz.ntmps210
 go_wp2_with fail
 refine (HF.out _ (HH.out.below ((Below.refl _ _).alloc (Nat.le_refl _) _))).mono ?_;rintro e w1 ⟨⟨ad',cap',rfl,_,_,hB⟩,hb1⟩;have hbb:Below w.heap.size w w1:=((Below.refl _ _).alloc (Nat.le_refl _) _).trans (hb1.mono (by simp));have hC:=containsNZ_any (vals x.2) ad' cap' w1 (by rw [vals_length];omega) hB;rw [vals_length,HB.out] at hC;have HC:=Lib.hid hC;clear hC hB hb1;go_wp2_with fail
 refine HC.out.mono ?_;rintro e w2 ⟨rfl,rfl⟩;go_wp2
 go_ret
 exact ⟨rfl,hbb⟩
theorem offV_snoc (l:Wd) (c:UInt8):offV (l++[c])=10*offV l+(c.toNat - 48):=by simp [offV]
theorem offV_acc (l:Wd):∀ v,l.foldl (fun v c=>10*v+(c.toNat - 48)) v=v*10 ^ l.length+offV l:=by
 induction l with
 | nil=>intro v;simp [offV]
 | cons c t ih =>
  intro v;unfold offV;rw [List.foldl_cons,List.foldl_cons,ih,ih,List.length_cons,Nat.pow_succ];simp only [Nat.mul_zero,Nat.zero_add,Nat.add_mul];rw [Nat.mul_comm 10 v,Nat.mul_assoc,Nat.mul_comm 10 (10 ^ t.length),Nat.add_assoc]
theorem offV_cons (c:UInt8) (l:Wd):offV (c::l)=(c.toNat - 48)*10 ^ l.length+offV l:=by
 rw [offV,List.foldl_cons,offV_acc];simp
theorem offV_app (a b:Wd):offV (a++b)=offV a*10 ^ b.length+offV b:=by rw [offV,List.foldl_append,offV_acc];rfl
theorem offV_rep (k:Nat) (l:Wd):offV (List.replicate k 48++l)=offV l:=by
 induction k with
 | zero=>simp
 | succ k ih =>
  rw [List.replicate_succ,List.cons_append,offV_cons,ih];simp
theorem offV_nought (k:Nat):offV (List.replicate k 48)=0:=by
 have:=offV_rep k [];rw [List.append_nil] at this;rw [this];rfl
theorem offV_behind (l:Wd) (k:Nat):offV (l++List.replicate k 48)=offV l*10 ^ k:=by rw [offV_app,offV_nought];simp
theorem dig_nat {c:UInt8} (h:isDig c=true):48<=c.toNat/\c.toNat<=57:=by have:=(isDig_iff c).1 h;omega
theorem offV_lt:∀ (l:Wd),l.all isDig=true->offV l<10 ^ l.length
 | [],_=>by simp [offV]
 | c::l,h=>by
  rw [List.all_cons,Bool.and_eq_true] at h;have h1:=offV_lt l h.2;have h2:=dig_nat h.1;rw [offV_cons,List.length_cons,Nat.pow_succ];have h3:(c.toNat - 48)*10 ^ l.length<=9*10 ^ l.length:=Nat.mul_le_mul_right _ (by omega);omega
theorem dchar_dig {c:UInt8} (h:isDig c=true):dchar (c.toNat - 48)=c:=by
 have h2:=dig_nat h;unfold dchar;apply UInt8.toNat.inj;rw [UInt8.toNat_ofNat'];omega
theorem offV_pos {c:UInt8} {l:Wd} (hc:isDig c=true) (h:c≠48):10 ^ l.length<=offV (c::l):=by
 have h2:=dig_nat hc;have h3:c.toNat≠48:=fun e=>h (UInt8.toNat.inj e)
 rw [offV_cons];have:1*10 ^ l.length<=(c.toNat - 48)*10 ^ l.length:=Nat.mul_le_mul_right _ (by omega);omega
theorem dec_off:∀ (n:Nat) (l:Wd),l.length=n->l.all isDig=true->(l.headD 48≠48\/l.length=1)->decL (offV l)=l
 | 0,l,h,_,h2=>by
  have:l=[]:=List.eq_nil_of_length_eq_zero h;subst this;simp at h2
 | n+1,l,h,hd,h2=>by
  rcases List.eq_nil_or_concat l with rfl | ⟨l',c,rfl⟩
  ·simp at h
  ·rw [List.concat_eq_append] at *;rw [List.all_append,Bool.and_eq_true] at hd;have hc:isDig c=true:=by simpa using hd.2
   have hcn:=dig_nat hc;rw [offV_snoc]
   cases l' with
   | nil =>
    rw [show offV []=0 from rfl,Nat.mul_zero,Nat.zero_add,decL_small (by omega),dchar_dig hc];rfl
   | cons a t =>
    have ha:a≠48:=by
     rcases h2 with h2 | h2
     ·simpa using h2
     ·simp at h2
    have had:isDig a=true:=by
     have:=hd.1;rw [List.all_cons,Bool.and_eq_true] at this;exact this.1
    have h3:=offV_pos (l:=t) had ha;have h4:1<=10 ^ t.length:=Nat.one_le_pow _ _ (by omega);rw [decL_big (by omega),show (10*offV (a::t)+(c.toNat - 48)) / 10=offV (a::t) by omega,show (10*offV (a::t)+(c.toNat - 48)) % 10=c.toNat - 48 by omega,dchar_dig hc,
     dec_off n (a::t) (by simp at h ⊢;omega) hd.1 (.inl (by simpa using ha))]
theorem off_dec (n:Nat):offV (decL n)=n:=by
 induction n using Nat.strongRecOn with
 | _ n ih =>
  have hd:∀ d,d<10->(dchar d).toNat - 48=d:=by
   intro d h;unfold dchar;rw [UInt8.toNat_ofNat'];omega
  by_cases h:n<10
  ·rw [decL_small h,offV_cons];simp [hd n h,offV]
  ·rw [decL_big h,offV_snoc,ih (n / 10) (by omega),hd _ (by omega)];omega
theorem pad_off:∀ (l:Wd),l.all isDig=true->l≠[]->padD l.length (decL (offV l))=l
 | [],_,h=>absurd rfl h
 | c::t,hd,_=>by
  by_cases hc:c=48
  ·subst hc;have hd2:t.all isDig=true:=by
    rw [List.all_cons,Bool.and_eq_true] at hd;exact hd.2
   have e:offV (48::t)=offV t:=by rw [offV_cons];simp
   rw [e];by_cases ht:t=[]
   ·subst ht;rw [show offV []=0 from rfl,decL_small (by omega)];rfl
   ·have ih:=pad_off t hd2 ht;have hl:(decL (offV t)).length<=t.length:=by
     have:=congrArg List.length ih;rw [padD,List.length_append,List.length_replicate] at this;omega
    unfold padD at ih ⊢;rw [List.length_cons,show t.length+1 - (decL (offV t)).length=(t.length - (decL (offV t)).length)+1 by omega,List.replicate_succ,List.cons_append,ih]
  ·rw [dec_off _ (c::t) rfl hd (.inl (by simpa using hc))];simp [padD]
theorem pad_fit {d:Wd} {k:Nat} (hd:d.all isDig=true) (hne:d≠[]) (hk:k<=d.length) (h:d.length=k\/d.headD 48≠48):padD k (decL (offV d))=d:=by
 rcases h with h | h
 ·rw [←h];exact pad_off d hd hne
 ·rw [dec_off _ d rfl hd (.inl h),padD,Nat.sub_eq_zero_of_le hk];rfl
theorem pad_len (k:Nat) (l:Wd):(padD k l).length=max k l.length:=by rw [padD,List.length_append,List.length_replicate];omega
theorem pad_dig {k:Nat} {l:Wd} (h:l.all isDig=true):(padD k l).all isDig=true:=by
 rw [padD,List.all_append,h,Bool.and_true,List.all_eq_true];intro c hc;rw [List.eq_of_mem_replicate hc];rfl
theorem nought_off:∀ {l:Wd},l.all isDig=true->((l.all (· == 48))=true ↔ offV l=0)
 | [],_=>by simp [offV]
 | c::t,h=>by
  rw [List.all_cons,Bool.and_eq_true] at h;have h1:=nought_off h.2;rw [List.all_cons,Bool.and_eq_true,beq_iff_eq,h1];by_cases hc:c=48
  ·subst hc;rw [offV_cons];simp
  ·have:=offV_pos (l:=t) h.1 hc;have h4:1<=10 ^ t.length:=Nat.one_le_pow _ _ (by omega);simp only [hc,false_and,false_iff];omega
theorem less_off:∀ (x y:Wd),x.length=y.length->x.all isDig=true->y.all isDig=true->(Op.bytesLess x y=true ↔ offV x<offV y)
 | [],[],_,_,_=>by simp [Op.bytesLess]
 | [],_::_,h,_,_=>by simp at h
 | _::_,[],h,_,_=>by simp at h
 | a::x,b::y,h,hx,hy=>by
  rw [List.all_cons,Bool.and_eq_true] at hx hy;have hl:x.length=y.length:=by simpa using h
  have ih:=less_off x y hl hx.2 hy.2;have h1:=offV_lt x hx.2;have h2:=offV_lt y hy.2;have ha:=dig_nat hx.1;have hb:=dig_nat hy.1;rw [hl] at h1;rw [Op.bytesLess,Bool.or_eq_true,decide_eq_true_eq,Bool.and_eq_true,beq_iff_eq,ih,UInt8.lt_iff_toNat_lt,offV_cons,offV_cons,hl];by_cases h3:a.toNat<b.toNat
  ·have h4:(a.toNat - 48+1)*10 ^ y.length<=(b.toNat - 48)*10 ^ y.length:=Nat.mul_le_mul_right _ (by omega);rw [Nat.add_mul,Nat.one_mul] at h4;simp only [h3,true_or,true_iff];omega
  ·by_cases h5:a=b
   ·subst h5;simp
   ·have h6:b.toNat<a.toNat:=by
     have:a.toNat≠b.toNat:=fun e=>h5 (UInt8.toNat.inj e)
     omega
    have h4:(b.toNat - 48+1)*10 ^ y.length<=(a.toNat - 48)*10 ^ y.length:=Nat.mul_le_mul_right _ (by omega);rw [Nat.add_mul,Nat.one_mul] at h4;simp only [h3,h5,false_or,false_and,false_iff];omega
theorem cmpB_off {x y:Wd} (h:x.length=y.length) (hx:x.all isDig=true) (hy:y.all isDig=true):(if Op.bytesLess x y=true then (-1:Int) else if x=y then 0 else 1)<0 ↔ offV x<offV y:=by
 rw [←less_off x y h hx hy];split
 ·next h1=>simp [h1]
 ·next h1 =>
  simp only [h1];split<;>simp
structure ResC (W:World) (q:Nat):Prop where
 c0:W.cell? ⟨q,0,none⟩=some (.bool false)
 c1:W.cell? ⟨q,1,none⟩=some (.slice none 0 0)
 c2:W.cell? ⟨q,2,none⟩=some (.int .i64 0)
 z0:W.frozen? ⟨q,0,none⟩=false
 z1:W.frozen? ⟨q,1,none⟩=false
 z2:W.frozen? ⟨q,2,none⟩=false
 lt:q<W.heap.size
theorem ResC.below {W W':World} {q:Nat} (h:ResC W q) (hb:Below W.heap.size W W'):ResC W' q :=
 ⟨(hb.cell h.lt).trans h.c0,(hb.cell h.lt).trans h.c1,(hb.cell h.lt).trans h.c2,(hb.frozen h.lt).trans h.z0,(hb.frozen h.lt).trans h.z1,(hb.frozen h.lt).trans h.z2,Nat.lt_of_lt_of_le h.lt hb.size⟩
theorem NumV.set {w:World} {v:Value} {x:Dg} {q:Nat} {b:Bool} (h:NumV w v x) (hq:w.cell? ⟨q,0,none⟩=some (.bool b)) (j:Nat) (u:Value):NumV (w.setCell ⟨q,j,none⟩ u) v x:=by
 obtain ⟨b',g,go,cap,h1,h2,h3,h4,h5,h6⟩:=h;have hne:g≠q:=by
  rintro rfl;obtain ⟨c,hc⟩:=h4;rw [hq] at hc
  cases hc
 exact ⟨b',g,go,cap,h1,h2,h3,h4.imp fun _ hc=>by rw [World.cell?_setCell_other (h:=by simp [hne,Ne.symm hne])];exact hc,h5.set (fun b hb=>by cases hb;exact hne) u,h6⟩
theorem NumV.form {w:World} {v:Value} {x:Dg} (h:NumV w v x):∃ b g go cap n k,v = .agg #[.bool b,.slice (some ⟨g,go,none⟩) n cap,.int .i64 k]:=by
 obtain ⟨b,g,go,cap,h1,_⟩:=h;exact ⟨b,g,go,cap,_,_,h1⟩
end Go.Proofs.YthpldolmpinnhaaGreatDoor
