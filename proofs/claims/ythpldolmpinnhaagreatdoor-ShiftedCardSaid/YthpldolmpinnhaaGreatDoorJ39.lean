import Derived.Test.YthpldolmpinnhaaGreatDoorJ38
namespace Go.Proofs.YthpldolmpinnhaaGreatDoor
open Go Go.RowKit
set_option maxRecDepth 10000
theorem shifted_parse (D:List Int) (hD:wholeOk D 32=true):∃ a c,msgP ([123,110,44,32,112,108,117,114,97,108,44,32,111,102,102,115,101,116,58]++(D++[32,111,116,104,101,114,32,123,35,125,125,123,110,125])) 5 false 0 =
  .ok (.br [110] 0 1 (D.flatMap enc) c (.leg [111,116,104,101,114] a (.hash .nil) .nil) (.put [110] (c+1) .nil),33+D.length):=by
 obtain ⟨rs,hrs⟩:∃ rs,[123,110,44,32,112,108,117,114,97,108,44,32,111,102,102,115,101,116,58]++(D++[32,111,116,104,101,114,32,123,35,125,125,123,110,125])=rs:=⟨_,rfl⟩;rw [hrs];have hlen:rs.length=33+D.length:=by rw [←hrs];simp;omega
 have h0:rs.drop 0=[123,110,44,32,112,108,117,114,97,108,44,32]++([111,102,102,115,101,116,58]++(D++[32,111,116,104,101,114,32,123,35,125,125,123,110,125])):=by rw [List.drop_zero,←hrs];rfl
 have h12:rs.drop 12=[111,102,102,115,101,116,58]++(D++[32,111,116,104,101,114,32,123,35,125,125,123,110,125]):=pdxn _ h0;have h19:rs.drop 19=D++[32,111,116,104,101,114,32,123,35,125,125,123,110,125]:=pdxn _ h12;have hA:=pdxn _ h19;obtain ⟨A,eA⟩:∃ A,19+D.length=A:=⟨_,rfl⟩;rw [eA] at hA;have b1:=pdx hA;have b6:rs.drop (A+1+5)=32::123::35::125::125::123::110::125::[]:=pdxn [111,116,104,101,114] b1;have b7:=pdx b6;have b8:=pdx b7;have b9:=pdx b8;have b10:=pdx b9;have b11:=pdx b10;have hoff:offP rs 1 12 = .ok (D.flatMap enc,A+1):=by
  obtain ⟨d,D',rfl⟩:∃ d D',D=d::D':=by
   cases D with
   | nil=>simp [wholeOk] at hD
   | cons d D'=>exact ⟨d,D',rfl⟩
  have hd:digitL d=true:=by
   unfold wholeOk at hD;simp only [Bool.and_eq_true,List.all_cons] at hD;exact hD.1.1.2.1
  have hb:blankL d=false:=by
   unfold digitL at hd;unfold blankL;simp at hd ⊢;omega
  unfold offP;rw [if_pos ⟨by decide,by unfold offB;rw [h12];rfl⟩,show skipL rs (12+7)=19 from skip0 h19 hb,whole_d _ _ h19 (by simpa using hD),then_ok,eA,show skipL rs A=A+1 from skip1 hA (by decide)]
 have hmsg:msgGo rs (some (msgP rs 3)) true (rs.length+1) .nil (A+1+5+1+1) = .ok (.hash .nil,A+1+5+1+1+1):=by
  rw [hlen,show 33+D.length+1=(32+D.length)+1+1 by omega,go_hash b8,go_end (.inr (pnx b9))];rfl
 have hleg:legP rs (some (msgP rs 4)) true (A+1) = .ok (.leg [111,116,104,101,114] (A+1) (.hash .nil) .nil,A+10):=by
  have:=leg_d (m:=msgP rs 4) (num:=true) (k:=[111,116,104,101,114]) (f := .hash .nil) (i:=A+1) (j:=A+1+5) (l:=A+1+5+1+1) (z:=A+1+5+1+1+1) (r:=35::125::125::123::110::125::[]) (by
   unfold keyP;rw [if_neg (by rw [pnx b1];decide),name_d [111,116,104,101,114] _ b1 (by decide),then_ok,if_neg (by decide)];rfl) (by rw [show skipL rs (A+1+5)=A+1+5+1 from skip1 b6 (by decide)];exact b7) (by rw [show skipL rs (A+1+5)=A+1+5+1 from skip1 b6 (by decide)]) hmsg (pnx b9)
  rw [this,show skipL rs (A+1+5+1+1+1+1)=A+1+5+1+1+1+1 from skip0 b10 (by decide)]
 have harg:argP rs (some (msgP rs 4)) 0 = .ok (.br [110] 0 1 (D.flatMap enc) (A+10) (.leg [111,116,104,101,114] (A+1) (.hash .nil) .nil) .nil,A+11):=by
  refine plural_d h0 (by rfl) hoff ?_ (pnx b10);rw [hlen,show 33+D.length+1=(32+D.length)+1+1 by omega,legs_one (by rw [pnx b1];decide) hleg];exact legs_end (pnx b10) (by simp [Fo.app,Fo.len])
 refine ⟨A+1,A+10,?_⟩;show msgGo rs (some (msgP rs 4)) false (rs.length+1) .nil 0=_;rw [hlen,show 33+D.length+1=(31+D.length)+1+1+1 by omega,go_arg h0 harg,go_arg b11 (put_d [] b11 (by decide) (by decide)),go_end (.inl (pnx0 (List.drop_of_length_le (by simp;omega))))];rw [show A+11+([]:List Int).length+3=33+D.length by simp;omega];rfl
def shP (o:Wd):Wd:=[123,110,44,32,112,108,117,114,97,108,44,32,111,102,102,115,101,116,58]++o++[32,111,116,104,101,114,32,123,35,125,125,123,110,125]
def shF (o:Wd) (a c:Nat):Fo := .br [110] 0 1 o c (.leg [111,116,104,101,114] a (.hash .nil) .nil) (.put [110] (c+1) .nil)
theorem dec_127 {l:Wd} (h:l.all isDig=true):∀ c∈l,c.toNat<=127:=fun c hc=>by
 have:=dig_nat (List.all_eq_true.1 h c hc);omega
theorem digit_z {c:UInt8} (h:isDig c=true):digitL (zI c)=true:=by
 have:=dig_nat h;unfold digitL zI;simp;omega
theorem dec_lead (n:Nat):(decL n).length=1\/(decL n).headD 48≠48:=by
 by_cases h:n<10
 ·left;rw [decL_small h];rfl
 ·right;induction n using Nat.strongRecOn with
  | _ n ih =>
   rw [decL_big h];obtain ⟨c,t,hc⟩:∃ c t,decL (n / 10)=c::t:=by
    cases hd:decL (n / 10) with
    | nil=>exact absurd hd (decL_ne _)
    | cons c t=>exact ⟨c,t,rfl⟩
   rw [hc,List.cons_append,List.headD_cons];by_cases h2:n / 10<10
   ·rw [decL_small h2] at hc
    cases hc;intro q;have:=congrArg UInt8.toNat q;unfold dchar at this;rw [UInt8.toNat_ofNat'] at this;simp at this;omega
   ·have:=ih (n / 10) (by omega) h2;rw [hc] at this;simpa using this
theorem whole_dec {n:Nat} (h:n<1000000000) {c:Int} (hc:digitL c=false):wholeOk ((decL n).map zI) c=true:=by
 have h1:=decL_ne n;have h2:=decL_short 8 n h;have h3:=decL_dig n;have h4:=dec_lead n;obtain ⟨d,t,hd⟩:∃ d t,decL n=d::t:=by
  cases hd:decL n with
  | nil=>exact absurd hd h1
  | cons d t=>exact ⟨d,t,rfl⟩
 rw [hd] at h2 h3 h4 ⊢;have h5:((d::t).map zI).all digitL=true:=by
  rw [List.all_eq_true];intro x hx;obtain ⟨y,hy,rfl⟩:=List.mem_map.1 hx;exact digit_z (List.all_eq_true.1 h3 y hy)
 unfold wholeOk;rw [h5,hc];simp only [List.map_cons,List.isEmpty_cons,List.length_cons,List.length_map,List.headD_cons,Bool.not_false,Bool.and_true,Bool.true_and,Bool.and_eq_true,Bool.or_eq_true,decide_eq_true_eq];simp only [List.length_cons] at h2 h4;refine ⟨by omega,?_⟩;rcases h4 with h4 | h4
 ·exact .inl h4
 ·right;rw [List.headD_cons] at h4;exact bne_iff_ne.2 (z_ne (d:=48) h4)
theorem chk_sh (o:Wd) (a c:Nat):chkL (shF o a c)=none:=by rfl
theorem shifted_law {off:Nat} (h:off<1000000000):∃ a c,readP (shP (decL off)) = .ok (shF (decL off) a c):=by
 have hd:=decL_dig off;have hl:=decL_short 8 off h;have hA:∀ c∈shP (decL off),c.toNat<=127:=by
  intro c hc;unfold shP at hc;rcases List.mem_append.1 hc with hc | hc
  ·rcases List.mem_append.1 hc with hc | hc
   ·exact (by decide:∀ c∈([123,110,44,32,112,108,117,114,97,108,44,32,111,102,102,115,101,116,58]:Wd),c.toNat<=127) c hc
   ·exact dec_127 hd c hc
  ·exact (by decide:∀ c∈([32,111,116,104,101,114,32,123,35,125,125,123,110,125]:Wd),c.toNat<=127) c hc
 obtain ⟨h1,h2⟩:=asc_runes _ hA;obtain ⟨a,c,hp⟩:=shifted_parse ((decL off).map zI) (whole_dec h (by decide));have hlen:(shP (decL off)).length=33+(decL off).length:=by unfold shP;simp;omega
 refine ⟨a,c,?_⟩;have hr:runesL (shP (decL off))=[123,110,44,32,112,108,117,114,97,108,44,32,111,102,102,115,101,116,58]++((decL off).map zI++[32,111,116,104,101,114,32,123,35,125,125,123,110,125]):=by
  rw [h1];unfold shP;rw [List.map_append,List.map_append,List.append_assoc];rfl
 have hp2:parseL (runesL (shP (decL off))) = .ok (shF (decL off) a c,33+(decL off).length):=by
  unfold parseL;rw [hr,hp,then_ok,enc_zs _ (dec_127 hd),List.length_map,if_pos (next_end (by simp;omega))];rfl
 unfold readP parseR;rw [if_neg (by omega),if_neg (by omega),hp2];dsimp only;rw [chk_sh]
theorem abs_dec (n:Nat):absL (decL n)=decL n/\negL (decL n)=false:=by
 obtain ⟨d,t,hd⟩:∃ d t,decL n=d::t:=by
  cases hd:decL n with
  | nil=>exact absurd hd (decL_ne n)
  | cons d t=>exact ⟨d,t,rfl⟩
 have hh:isDig d=true:=by
  have:=decL_dig n;rw [hd,List.all_cons,Bool.and_eq_true] at this;exact this.1
 have h45:d≠45:=fun e=>by subst e;revert hh;decide
 unfold absL negL;rw [hd];simp [h45]
theorem dig_idx {l:Wd} (h:l.all isDig=true):l.idxOf 46=l.length:=by
 refine List.idxOf_eq_length fun hm=>?_
 have:=List.all_eq_true.1 h 46 hm;revert this
 decide
theorem parts_dec (n:Nat):wholeL (decL n)=decL n/\fracL (decL n)=[]/\pointL (decL n)=false:=by
 unfold wholeL fracL pointL;rw [(abs_dec n).1,dig_idx (decL_dig n)];simp
theorem num_dec {n:Nat} (h:n<2000000000):isNumL (decL n)=true:=by
 obtain ⟨h1,h2,h3⟩:=parts_dec n;have h4:=decL_short 9 n (by omega);have h5:=dec_lead n;unfold isNumL figsL;rw [h1,h2,h3,(abs_dec n).2];have h6:numeralsL (decL n)=true:=by
  unfold numeralsL;rw [decL_dig];have:=decL_ne n
  cases hd:decL n with
  | nil=>exact absurd hd this
  | cons d t=>rfl
 rw [h6];simp only [Bool.true_and,Bool.not_false,Bool.true_or,Bool.and_true,List.length_nil,Nat.add_zero,Bool.false_and,Bool.and_eq_true,decide_eq_true_eq,Bool.not_eq_true',Bool.and_eq_false_iff,decide_eq_false_iff_not];refine ⟨by omega,?_⟩;rcases h5 with h5 | h5
 ·exact .inl (by omega)
 ·right;obtain ⟨d,t,hd⟩:∃ d t,decL n=d::t:=by
   cases hd:decL n with
   | nil=>exact absurd hd (decL_ne n)
   | cons d t=>exact ⟨d,t,rfl⟩
  rw [hd] at h5 ⊢;simpa using h5
theorem pad_dec (r:Nat):fixD r 0=(decL r,[]):=by
 have h1:0<(decL r).length:=List.length_pos_iff.2 (decL_ne r);unfold fixD padD;rw [show 0+1 - (decL r).length=0 by omega];simp
theorem less_dec (n v:Nat):lessN (false,(decL n,[])) v=(decide (n<v),(decL (if n<v then v - n else n - v),[])):=by
 unfold lessN;simp only [List.append_nil,List.length_nil,Nat.pow_zero,Nat.mul_one,Bool.false_eq_true,if_false];rw [off_dec n];split
 ·next h=>rw [pad_dec];simp [h]
 ·next h=>rw [pad_dec];simp [h]
theorem bare_wr (b:Bool) (n:Nat):bareE.wr (b,(decL n,[]))=(if b then [45] else [])++decL n:=by
 have h1:=decL_dig n;show writeX b (vals (decL n++[])) 0 45 46 0 0 0 (runesL (digL []))=_;rw [List.append_nil];generalize decL n=l at h1 ⊢;have hi:intX 0 0 0 (runesL (digL [])) (vals l) l.length=l:=by
  have hten:runesL (digL [])=[48,49,50,51,52,53,54,55,56,57]:=by rw [show digL []=tenL from rfl,(asc_runes tenL (by decide)).1];decide
  have hd:∀ i (hi:i<l.length),digX (runesL (digL [])) (vals l) i=[l[i]]:=by
   intro i hi;have hm:=dig_nat (List.all_eq_true.1 h1 l[i] (List.getElem_mem hi));unfold digX vals;rw [List.getD_eq_getElem?_getD (l:=List.map _ _),List.getElem?_map,List.getElem?_eq_getElem hi,hten];simp only [Option.map_some,Option.getD_some];obtain ⟨k,hk,he⟩:∃ k,k<10/\l[i].toNat=48+k:=⟨l[i].toNat - 48,by omega,by omega⟩;rw [he];have hc:l[i]=UInt8.ofNat (48+k):=by
    apply UInt8.toNat.inj;rw [UInt8.toNat_ofNat',he];omega
   rw [hc];clear he hc hm hi h1;match k,hk with
   | 0,_=>decide
   | 1,_=>decide
   | 2,_=>decide
   | 3,_=>decide
   | 4,_=>decide
   | 5,_=>decide
   | 6,_=>decide
   | 7,_=>decide
   | 8,_=>decide
   | 9,_=>decide
   | _+10,h=>omega
  have:∀ k,k<=l.length->intX 0 0 0 (runesL (digL [])) (vals l) k=l.take k:=by
   intro k;induction k with
   | zero=>intro _;rfl
   | succ k ih =>
    intro hk;rw [intX_succ,ih (by omega),hd k (by omega),List.take_succ_eq_append_getElem (by omega)];simp [partB]
  rw [this _ (Nat.le_refl _),List.take_length]
 unfold writeX;have hv:(vals l).length=l.length:=by simp [vals]
 rw [hv,Nat.sub_zero,show (vals l).take l.length=vals l by rw [←hv,List.take_length],hi]
 cases b
 ·simp [fracX]
 ·rw [if_pos rfl,if_pos rfl,show Lib.encodeRune 45=[45] by decide];simp [fracX]
theorem shifted_say {E:EnvF Unit} {n off a c:Nat} (hn:n<2000000000) :
  sayF (mapE E (valsF [[110],[110],decL n] (0,fun _=>none)).2) (shF (decL off) a c) [] (false,([],[])) [] () = .ok (E.wr (decide (n<off),(decL (if n<off then off - n else n - off),[]))++E.wr (false,(decL n,[])),()):=by
 obtain ⟨h1,h2,-⟩:=parts_dec n;have hN:numOf (decL n)=(false,(decL n,[])):=by unfold numOf;rw [h1,h2,(abs_dec n).2]
 have hA:argF (mapE E (valsF [[110],[110],decL n] (0,fun _=>none)).2) [110] () = .ok ((decL n,true),()):=by
  unfold argF;show (if validL (decL n) true=true then _ else _)=_;rw [if_pos (by unfold validL;simp [num_dec hn])];rfl
 have hB:numF (mapE E (valsF [[110],[110],decL n] (0,fun _=>none)).2) [110] () = .ok ((false,(decL n,[])),()):=by
  unfold numF;rw [hA];show Except.ok (numOf (decL n),())=_;rw [hN]
 have hP:∀ v z,pluKey (mapE E (valsF [[110],[110],decL n] (0,fun _=>none)).2) 1 [[111,116,104,101,114]] v z=[111,116,104,101,114]:=by
  intro v z;unfold pluKey;rw [show List.find? (fun k:Wd=>decide (k.head? = some 61) && sameN v (offV k.tail)) [[111,116,104,101,114]]=none by simp];dsimp only;split
  ·next h=>simpa using h
  ·rfl
 unfold shF sayF;rw [if_neg (by decide),hB];dsimp only;rw [show (Fo.leg [111,116,104,101,114] a Fo.nil.hash Fo.nil).keys=[[111,116,104,101,114]] from rfl,hP,off_dec,less_dec];unfold sayF;rw [if_pos rfl];unfold sayF;unfold sayF;dsimp only;rw [hA];dsimp only;unfold putW;rw [if_pos rfl,hN];rfl
theorem decZ_sub (n off:Nat):decZ ((n:Int) - (off:Int))=(if n<off then [45] else [])++decL (if n<off then off - n else n - off):=by
 unfold decZ;by_cases h:n<off
 ·rw [if_pos (by omega),if_pos h,if_pos h,show ((n:Int) - (off:Int)).natAbs=off - n by omega];rfl
 ·rw [if_neg (by omega),if_neg h,if_neg h,show ((n:Int) - (off:Int)).natAbs=n - off by omega];rfl
theorem args_n {t:Wd} (h:isNumL t=true):ArgsOk (valsF [[110],[110],t] (0,fun _=>none)).2 (valsF [[110],[110],t] (0,fun _=>none)).1:=by
 refine ⟨by show (if ((fun _=>none:Wd->Option (Wd×Bool)) [110]).isSome=true then 0 else 0+1)<=16;decide,fun m x hx=>?_⟩;have hx2:(if [110]=m then some (t,([110]:Wd)==[110]) else none)=some x:=hx;split at hx2
 ·next e =>
  cases hx2;subst e;exact ⟨by decide,by unfold validL;simpa using h⟩
 ·cases hx2
theorem said_n {E:EnvF Unit} {f:Fo} {t o s:Wd} {k:Nat} (h:isNumL t=true) (hs:sayF (mapE E (valsF [[110],[110],t] (0,fun _=>none)).2) f [] (false,([],[])) [] () = .ok (o,()))
  (hq:SaidQ E f (valsF [[110],[110],t] (0,fun _=>none)).1 (valsF [[110],[110],t] (0,fun _=>none)).2 s k):s=o/\k=0:=by
 rcases hq with ⟨-,h2⟩ | ⟨h2,-⟩
 ·rw [hs] at h2;exact h2
 ·exact absurd (args_n h) h2
set_option maxHeartbeats 4000000 in
theorem shifted_any (a b:Int) (w:World) (ha : -9223372036854775808<=a/\a<=9223372036854775807) (hb : -9223372036854775808<=b/\b<=9223372036854775807) (hE:CmpEnv w) :
  Calls Tryz.prog 4 #[.int .i64 a,.int .i64 b] w fun e w'=>e = .returned (.bool true)/\Below w.heap.size w w':=by
 obtain ⟨n,hn⟩:∃ n,kpickL a 2000000000=n:=⟨_,rfl⟩;obtain ⟨m,hm⟩:∃ m,kpickL b 1000000000=m:=⟨_,rfl⟩;have n1:n<2000000000:=by rw [←hn];exact Nat.mod_lt _ (by decide)
 have m1:m<1000000000:=by rw [←hm];exact Nat.mod_lt _ (by decide)
 have HP1:=Lib.hid (fun W=>kpick_any a 2000000000 W ha.1 ha.2 (by decide) (by decide));have HP2:=Lib.hid (fun W=>kpick_any b 1000000000 W hb.1 hb.2 (by decide) (by decide));rw [hn] at HP1;rw [hm] at HP2;have HD1:=Lib.hid (fun W=>kdec_any (n:Int) W (by omega) (by omega));have HD2:=Lib.hid (fun W=>kdec_any (m:Int) W (by omega) (by omega));have HD3:=Lib.hid (fun W=>kdec_any ((n:Int) - (m:Int)) W (by omega) (by omega));have e1:∀ k:Nat,decZ (k:Int)=decL k:=fun k=>by unfold decZ;rw [if_neg (by omega)];rfl
 rw [e1] at HD1 HD2;rw [decZ_sub] at HD3;have hwr:IntKind.i64.wrap ((n:Int) - (m:Int))=(n:Int) - (m:Int):=by rw [IntKind.wrap_i64];omega
 have l1:=decL_short 9 n (by omega);have l2:=decL_short 8 m m1;obtain ⟨x,hx⟩:∃ x,decL n=x:=⟨_,rfl⟩;obtain ⟨y,hy⟩:∃ y,decL m=y:=⟨_,rfl⟩;obtain ⟨z,hz⟩:∃ z,(if n<m then [45] else [])++decL (if n<m then m - n else n - m)=z:=⟨_,rfl⟩;have l3:z.length<=11:=by
  rw [←hz,List.length_append];by_cases q:n<m
  ·rw [if_pos q,if_pos q];have:=decL_short 9 (m - n) (by omega);simp only [List.length_cons,List.length_nil];omega
  ·rw [if_neg q,if_neg q];have:=decL_short 9 (n - m) (by omega);simp only [List.length_nil];omega
 rw [hx] at HD1 l1;rw [hy] at HD2 l2;rw [hz] at HD3;have HSAY:=Lib.hid (show ∀ W W':World,Below w.heap.size w W->∀ a c,TextsA W a [[110],[110],x]->Calls Tryz.prog 12 #[strv (shP y),bareV,.slice a 3 c] W fun e w'=>e = .returned (.tuple #[strv (z++x),.bool true])/\Below W.heap.size W w' from by
  intro W _ hbW a c ht;obtain ⟨p,q,hr⟩:=shifted_law m1;rw [hy] at hr;have hlen:(shP y).length<=1000000:=by unfold shP;simp;omega
  refine (says_any (c:=c) hlen hr (hE.below hbW) (hE.tabs.err.below hbW) ht (n:=3) rfl (by intro t ht;simp only [List.mem_cons,List.not_mem_nil,or_false] at ht;rcases ht with rfl | rfl | rfl;(· decide);(· decide);(· omega)) (by decide)).mono ?_;rintro e w' ⟨⟨s,k,rfl,hq⟩,hb'⟩;have hN:=num_dec n1;have hS:=shifted_say (E:=bareE) (n:=n) (off:=m) (a:=p) (c:=q) n1;rw [hx] at hN hS;rw [hy] at hS;obtain ⟨rfl,rfl⟩:=said_n hN hS hq;refine ⟨?_,hb'⟩;rw [←hz,bare_wr,←hx,bare_wr];simp only [decide_eq_true_eq];rfl)
 have HL:=Lib.hid (And.intro hn (And.intro hm (And.intro hx (And.intro hy hz))));have HE:=Lib.hid hE;clear hn hm hx hy hz hE e1;have hcp1:(⟨#[123,110,44,32,112,108,117,114,97,108,44,32,111,102,102,115,101,116,58]⟩:ByteArray)++⟨y.toArray⟩++⟨#[32,111,116,104,101,114,32,123,35,125,125,123,110,125]⟩=⟨(shP y).toArray⟩:=by
  apply ByteArray.ext;simp [ByteArray.data_append,shP]
 have hcp2:(⟨z.toArray⟩:ByteArray)++⟨x.toArray⟩=⟨(z++x).toArray⟩:=by
  apply ByteArray.ext;simp [ByteArray.data_append]
 have g1:¬9223372036854775807<19+y.length:=by omega
 have g2:¬9223372036854775807<19+y.length+14:=by omega
 have g3:¬9223372036854775807<z.length+x.length:=by omega
 go_enter Tryz.func4,Tryz.ntmps4
 go_wp2_with fail
 refine (HP1.out w).mono ?_;rintro e w1 ⟨rfl,rfl⟩;go_wp2_with fail
 refine (HP2.out w).mono ?_;rintro e w1 ⟨rfl,rfl⟩;go_wp2_with fail
 refine (kbare_any w).mono ?_;rintro e w1 ⟨rfl,hb1⟩;have HB:=Lib.hid hb1;clear hb1;go_wp2_with fail
 refine (HD1.out _).mono ?_;rintro e w2 ⟨rfl,rfl⟩;go_wp2_with fail
 refine (HD2.out _).mono ?_;rintro e w2 ⟨rfl,rfl⟩;go_wp2_with fail
 refine calls_gen ?_;intro W hW;have hb2:Below w1.heap.size w1 W:=by
  rw [hW];(repeat (first | (with_reducible exact Below.refl _ _) | (with_reducible refine Below.alloc ?_ ?_ _;rotate_left;focus (first | (simp;done) | (simp;omega))) | (with_reducible refine Below.setCell ?_ ?_ _;rotate_left;focus (first | (simp;done) | (simp;omega)))))
 have ht:TextsA W (some ⟨w1.heap.size+1,0,none⟩) [[110],[110],x]:=fun _=>⟨_,_,rfl,fun j t ht=>by
  rw [hW];match j with
  | 0=>(simp at ht;subst ht;go_simp)
  | 1=>(simp at ht;subst ht;go_simp)
  | 2=>(simp at ht;subst ht;go_simp)
  | j+3=>simp at ht⟩
 have hb02:=HB.out.trans (hb2.mono HB.out.size);have HS:=Lib.hid (HSAY.out W W hb02 _ 3 ht);have HB2:=Lib.hid hb02;clear hW hb2 ht hb02 HSAY HB;refine HS.out.mono ?_;rintro e w3 ⟨rfl,hb3⟩;have HB3:=Lib.hid (HB2.out.trans (hb3.mono HB2.out.size));clear hb3 HS HB2;go_wp2_with fail
 refine (HD3.out _).mono ?_;rintro e w4 ⟨rfl,rfl⟩;go_wp2
 go_ret
 exact ⟨by first | rfl | simp,HB3.out⟩
end Go.Proofs.YthpldolmpinnhaaGreatDoor
