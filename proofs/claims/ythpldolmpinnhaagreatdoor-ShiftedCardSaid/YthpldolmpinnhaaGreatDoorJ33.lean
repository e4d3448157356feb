import Derived.Test.YthpldolmpinnhaaGreatDoorJ32
import Derived.Lib.AppendZerosOnto
namespace Go.Proofs.YthpldolmpinnhaaGreatDoor
open Go Go.RowKit
set_option maxRecDepth 10000
theorem digs_rep (k:Nat):digs (List.replicate k 48)=List.replicate k (.int .u8 0):=by simp [digs]
theorem digs_app (a b:Wd):digs (a++b)=digs a++digs b:=by simp [digs]
theorem zero_row (k:Nat):(madeCells #[Value.int .u8 0] k).toList=List.replicate k (.int .u8 0):=by
 apply List.ext_getElem
 ·simp [madeCells]
 ·intro j h1 h2;simp [madeCells];rw [Nat.mod_one];rfl
set_option maxHeartbeats 1000000 in
theorem wide_any (l:Wd) (a:Addr) (c k:Nat) (w:World) (hl:l.length<=300) (hk:k<=300) (hB:BytesAt w (some a) (vals l)) :
  Calls Tryz.prog 167 #[.slice (some a) l.length c,.int .i64 ((l.length+k:Nat):Int)] w fun e w'=>(∃ v,e = .returned v/\w'.ownsRow w.heap.size 5 1 v (l.length+k) (digs (padD (l.length+k) l)))/\Below w.heap.size w w':=by
 obtain ⟨i,hi,hz,h2,h3⟩:=elem_bytes.info;obtain ⟨n,hn⟩:∃ n,l.length=n:=⟨_,rfl⟩;rw [hn] at hl ⊢;have HN:=Lib.hid hn;have hsub:((n+k:Nat):Int) - (n:Int)=(k:Int):=by omega
 have hmx:max (0:Int) (k:Int)=(k:Int):=by omega
 have HB:=Lib.hid hB;clear hn hB;go_enter Tryz.func167,Tryz.ntmps167
 go_wp2_with (refine wpList_make_full _ rfl _ _ _ rfl w.heap.size _ i _ 1 elem_bytes.under hi hz h2 .i64 .i64 _ _ k rfl rfl ?c1 ?c2 ?c3 ?c4 ?c5 ?_)
 case c1=>omega
 case c2=>omega
 case c3=>rw [h3];omega
 case c4=>unfold maxLen;omega
 case c5=>exact Nat.le_refl _
 intro w1 hown0 hg1;rw [zero_row] at hown0;have hb1:Below w.heap.size w w1:=(Below.refl _ _).grown hg1 (Nat.le_refl _) (by simp);have HB1:=Lib.hid (HB.out.below hb1);have HOWN:=Lib.hid hown0;have HW:=Lib.hid hb1;have h4:=hb1.size;clear hown0 hg1 hb1;go_wp2_with (at_builtin;refine app_own elem_bytes rfl _ _ rfl w.heap.size _ k _ rfl HOWN.out a n c (digs l) rfl ?d1 ?d2 ?d3 ?d4 ?d5 ?_)
 case d1=>simp [digs,HN.out]
 case d2 =>
  intro j u hu;have hj:j<(vals l).length:=by
   have:=(List.getElem?_eq_some_iff.1 hu).1;simpa [digs,vals] using this
  obtain ⟨b,hb,hc⟩:=HB1.out j hj
  cases hb;rw [hc];rw [digs_vals0,List.getElem?_map,List.getElem?_eq_getElem hj] at hu;simpa using hu
 case d3 =>
  intro u hu;simp only [digs,List.mem_map] at hu;obtain ⟨c,_,rfl⟩:=hu;rfl
 case d4=>omega
 case d5=>exact h4
 intro v' w2 hown hgrow;have hb2:Below w.heap.size w w2:=HW.out.grown hgrow (by omega) (fun q hq=>by cases hq;exact Nat.le_refl _);have HO:=Lib.hid (show w2.ownsRow w.heap.size 5 1 v' (n+k) (digs (padD (n+k) l)) by
  rw [padD,HN.out,Nat.add_sub_cancel_left,digs_app,digs_rep,Nat.add_comm n k];exact hown)
 obtain ⟨ao,cp,rfl⟩:=own_slice hown;clear hown hgrow;go_wp2
 go_ret
 exact ⟨⟨_,rfl,HO.out⟩,hb2⟩
def SumQ (n r:Nat) (w:World) (e:Ending) (w':World):Prop:=(∃ v d,e = .returned v/\w'.ownsRow w.heap.size 5 1 v n (digs d)/\d.length=n/\d.all isDig=true/\offV d=r)/\Below w.heap.size w w'
theorem cell_dig {w:World} {a:Addr} {l:Wd} (h:BytesAt w (some a) (vals l)) {m:Nat} (hm:m<l.length):w.cell? (a.add m)=some (.int .u8 ((l[m].toNat:Int) - 48)):=by
 obtain ⟨b,hb,hc⟩:=h m (by rw [vals_length];exact hm)
 cases hb;rw [hc];simp [vals]
theorem own_dig {w:World} {base g cap n:Nat} {d:Wd} (h:w.ownsRow base 5 1 (.slice (some ⟨g,0,none⟩) n cap) n (digs d)) {m:Nat} (hm:m<d.length) (hn:d.length=n):w.cell? ⟨g,m,none⟩=some (.int .u8 ((d[m].toNat:Int) - 48)):=by
 rw [h.cellAt m (by omega)];simp [digs,hm]
theorem digs_set (d:Wd) (m x:Nat) (hx:x<10):(digs d).set m (.int .u8 (x:Int))=digs (d.set m (dchar x)):=by
 rw [digs,digs,List.map_set,dchar_val hx]
theorem dchar_isDig {d:Nat} (h:d<10):isDig (dchar d)=true:=by rw [isDig_iff];have:=dchar_val h;omega
theorem all_set {d:Wd} (h:d.all isDig=true) (m:Nat) {c:UInt8} (hc:isDig c=true):(d.set m c).all isDig=true:=by
 rw [List.all_eq_true] at h ⊢;intro x hx;rcases List.mem_or_eq_of_mem_set hx with q | rfl
 ·exact h x q
 ·exact hc
theorem off_drop {l:Wd} {m:Nat} (hm:m<l.length):offV (l.drop m)=(l[m].toNat - 48)*10 ^ (l.length - m - 1)+offV (l.drop (m+1)):=by
 rw [List.drop_eq_getElem_cons hm,offV_cons,List.length_drop];congr 3
theorem dchar_off {x:Nat} (h:x<10):(dchar x).toNat - 48=x:=by have:=dchar_val h;omega
def PlusR (a b:Wd) (n k:Nat) (o:Wd):Prop:=k<=n/\o.length=n+1/\o.all isDig=true/\offV (o.drop k)=offV (a.drop k)+offV (b.drop k)
theorem plus_step {a b o:Wd} {n m:Nat} (ha:a.length=n) (hb:b.length=n) (da:a.all isDig=true) (db:b.all isDig=true) (h:PlusR a b n (m+1) o) (h1:m<a.length) (h2:m<b.length) (h3:m+1<o.length) :
  PlusR a b n m ((o.set (m+1) (dchar (((a[m].toNat - 48)+(b[m].toNat - 48)+(o[m+1].toNat - 48)) % 10))).set m (dchar (((a[m].toNat - 48)+(b[m].toNat - 48)+(o[m+1].toNat - 48)) / 10))):=by
 obtain ⟨k1,k2,k3,k4⟩:=h;have xa:=dig_nat (List.all_eq_true.1 da _ (List.getElem_mem h1));have xb:=dig_nat (List.all_eq_true.1 db _ (List.getElem_mem h2));have xo:=dig_nat (List.all_eq_true.1 k3 _ (List.getElem_mem h3));obtain ⟨v,hv⟩:∃ v,(a[m].toNat - 48)+(b[m].toNat - 48)+(o[m+1].toNat - 48)=v:=⟨_,rfl⟩;have v1:v % 10<10:=Nat.mod_lt _ (by omega);have v2:v / 10<10:=by omega
 refine ⟨by omega,by simp [k2],all_set (all_set k3 _ (dchar_isDig (by rw [hv];exact v1))) _ (dchar_isDig (by rw [hv];exact v2)),?_⟩;rw [hv];have e1:((o.set (m+1) (dchar (v % 10))).set m (dchar (v / 10))).drop m=dchar (v / 10)::dchar (v % 10)::o.drop (m+2):=by
  rw [List.drop_eq_getElem_cons (by simp;omega),List.drop_eq_getElem_cons (by simp;omega)];simp [List.drop_set];intro hh;omega
 rw [e1,offV_cons,offV_cons,dchar_off v1,dchar_off v2,off_drop h1,off_drop h2];rw [off_drop h3] at k4;have hl:(o.drop (m+2)).length=n - m - 1:=by rw [List.length_drop];omega
 rw [List.length_cons,hl,ha,hb];rw [k2,show n+1 - (m+1) - 1=n - m - 1 by omega] at k4;obtain ⟨p,hp⟩:∃ p,10 ^ (n - m - 1)=p:=⟨_,rfl⟩;rw [Nat.pow_succ,hp];rw [hp] at k4;obtain ⟨x,hx⟩:∃ x,a[m].toNat - 48=x:=⟨_,rfl⟩;obtain ⟨y,hy⟩:∃ y,b[m].toNat - 48=y:=⟨_,rfl⟩;obtain ⟨z,hz⟩:∃ z,o[m+1].toNat - 48=z:=⟨_,rfl⟩;rw [hx,hy,hz] at hv;rw [hz] at k4;rw [hx,hy];have e2:v=v / 10*10+v % 10:=by omega
 have e3:v / 10*(p*10)+v % 10*p=v*p:=by
  rw [Nat.mul_comm p 10,←Nat.mul_assoc,←Nat.add_mul,←e2]
 have e4:v*p=x*p+y*p+z*p:=by rw [←hv,Nat.add_mul,Nat.add_mul]
 show v / 10*(p*10)+(v % 10*p+offV (o.drop (m+2)))=_;have k5:z*p+offV (o.drop (m+2))=offV (a.drop (m+1))+offV (b.drop (m+1)):=k4;omega
set_option maxHeartbeats 4000000 in
theorem plus_any (a b:Wd) (n c1 c2:Nat) (p q:Addr) (w:World) (ha:a.length=n) (hb:b.length=n) (hn:n<=300) (h1n:1<=n) (da:a.all isDig=true) (db:b.all isDig=true) (hA:BytesAt w (some p) (vals a)) (hB:BytesAt w (some q) (vals b)) :
  Calls Tryz.prog 169 #[.slice (some p) n c1,.slice (some q) n c2] w (SumQ (n+1) (offV a+offV b) w):=by
 obtain ⟨i,hi,hz,h2,h3⟩:=elem_bytes.info;have HA:=Lib.hid hA;have HB:=Lib.hid hB;have HD:=Lib.hid (And.intro ha (And.intro hb (And.intro da db)));clear ha hb da db hA hB;go_enter Tryz.func169,Tryz.ntmps169
 go_wp2_with (refine wpList_make_full _ rfl _ _ _ rfl w.heap.size _ i _ 1 elem_bytes.under hi hz h2 .i64 .i64 _ _ (n+1) rfl rfl ?c1 ?c2 ?c3 ?c4 ?c5 ?_)
 case c1=>simp
 case c2=>simp
 case c3=>rw [h3];omega
 case c4=>unfold maxLen;omega
 case c5=>exact Nat.le_refl _
 intro w1 hown0 hg1;rw [zero_row,←digs_rep] at hown0;have hb1:Below w.heap.size w w1:=(Below.refl _ _).grown hg1 (Nat.le_refl _) (by simp);have HR:=Lib.hid (show PlusR a b n n (List.replicate (n+1) 48) from ⟨Nat.le_refl _,by simp,by rw [List.all_eq_true];intro c hc;rw [List.eq_of_mem_replicate hc];rfl,by
  obtain ⟨h1,h2,_⟩:=HD.out;rw [List.drop_of_length_le (by omega:a.length<=n),List.drop_of_length_le (by omega:b.length<=n),List.drop_replicate,offV_nought];rfl⟩)
 obtain ⟨G,hG⟩:∃ G,w.heap.size=G:=⟨_,rfl⟩;rw [hG] at hown0 hb1 ⊢;have HG:=Lib.hid hG;have HO:=Lib.hid hown0;have HW:=Lib.hid hb1;clear hG hown0 hb1 hg1;go_wp2_with fail
 have HN:=Lib.hid (show ∃ n',n=n'+1 from ⟨n - 1,by omega⟩);go_loopw [6] (fun iv wr=>∃ (k:Nat) (o:Wd),(match k with | 0=>iv = .int .i64 (-1) | m+1=>iv = .int .i64 (m:Nat))/\PlusR a b n k o/\wr.ownsRow G 5 1 (.slice (some ⟨G,0,none⟩) (n+1) (n+1)) (n+1) (digs o)/\Below G w wr) (fun iv _=>(intOf iv+1).toNat)
 case atStart=>exact ⟨n,_,by obtain ⟨n',hn'⟩:=HN.out;rw [hn'];simp,HR.out,HO.out,HW.out⟩
 case round =>
  obtain ⟨k,o,hiv,hR,hO,hb⟩:=hrel
  cases k with
  | zero =>
   obtain rfl:=hiv;have HQ:=Lib.hid (show SumQ (n+1) (offV a+offV b) w (.returned (.slice (some ⟨G,0,none⟩) (n+1) (n+1))) wr from ⟨⟨_,o,rfl,by rw [HG.out];exact hO,hR.2.1,hR.2.2.1,hR.2.2.2⟩,by rw [HG.out];exact hb⟩);clear hR hO hb;go_wp2
   go_ret
   exact HQ.out
  | succ m =>
   obtain rfl:=hiv;obtain ⟨ha,hbn,da,db⟩:=HD.out;have m1:m<a.length:=by have:=hR.1;omega
   have m2:m<b.length:=by have:=hR.1;omega
   have m3:m+1<o.length:=by have:=hR.1;have:=hR.2.1;omega
   have hst:=plus_step ha hbn da db hR m1 m2 m3;have hbw:Below w.heap.size w wr:=by rw [HG.out];exact hb
   have pa:=cell_dig (HA.out.below hbw) m1;have pb:=cell_dig (HB.out.below hbw) m2;have po:=own_dig hO m3 hR.2.1;have xa:=dig_nat (List.all_eq_true.1 da _ (List.getElem_mem m1));have xb:=dig_nat (List.all_eq_true.1 db _ (List.getElem_mem m2));have xo:=dig_nat (List.all_eq_true.1 hR.2.2.1 _ (List.getElem_mem m3));obtain ⟨x,hx⟩:∃ x,a[m].toNat - 48=x:=⟨_,rfl⟩;obtain ⟨y,hy⟩:∃ y,b[m].toNat - 48=y:=⟨_,rfl⟩;obtain ⟨z,hz⟩:∃ z,o[m+1].toNat - 48=z:=⟨_,rfl⟩;rw [hx,hy,hz] at hst;rw [show ((a[m].toNat:Int) - 48)=(x:Int) by omega] at pa;rw [show ((b[m].toNat:Int) - 48)=(y:Int) by omega] at pb;rw [show ((o[m+1].toNat:Int) - 48)=(z:Int) by omega] at po;have x9:x<=9:=by omega
   have y9:y<=9:=by omega
   have z9:z<=9:=by omega
   have mn:m+1<=n:=hR.1;have mi:(m:Int)<(n:Int):=by omega
   have mj:(m:Int)+1<(n:Int)+1:=by omega
   have wm:IntKind.i64.wrap ((m:Int)+1)=(m:Int)+1:=by rw [IntKind.wrap_i64];omega
   have tm:((m:Int)+1).toNat=m+1:=by omega
   have m0:(0:Int)<=(m:Int)+1:=by omega
   have w1:((x:Int)+(y:Int)) % 256=(x:Int)+(y:Int):=by omega
   have w2:((x:Int)+(y:Int)+(z:Int)) % 256=((x+y+z:Nat):Int):=by omega
   have HST:=Lib.hid hst;have HOW:=Lib.hid hO;have HBW:=Lib.hid hb;have po0:=own_dig hO (m:=m) (by omega) hR.2.1;have fz:∀ j,wr.frozen? ⟨G,j,none⟩=false:=by
    intro j;rcases hO.2 with ⟨hv,_⟩ | ⟨g2,cap2,cur,hv,_,hh,_⟩
    ·cases hv
    ·cases hv;exact Lib.frozen_of_heap hh j
   clear hst hO hb hbw hR xa xb xo hx hy hz da db ha hbn;go_wp2_with fail
   refine rt (fun W':World=>W'.cell? (p.add m)=some (.int .u8 x)/\W'.cell? (q.add m)=some (.int .u8 y)/\W'.cell? ⟨G,m+1,none⟩=some (.int .u8 z)) (List.range 16) 0 ⟨pa,pb,po⟩ ?_;(iterate 16 (refine ty ?_;try simp only [pl]))
   refine takes_nil ?_;refine wpAnyH_done (by kernel_rfl) ?_ _;go_wp2
   refine ⟨⟨m,_,?_,HST.out,?_,?_⟩,?_⟩
   ·cases m with
    | zero=>rfl
    | succ k=>exact congrArg (Value.int .i64) (by omega)
   ·have h1:=own_put (own_put HOW.out (m+1) (by omega) (.int .u8 (((x+y+z) % 10:Nat):Int))) m (by omega) (.int .u8 (((x+y+z) / 10:Nat):Int));rw [digs_set _ _ _ (Nat.mod_lt _ (by omega)),digs_set _ _ _ (by omega)] at h1;have e1:((x:Int)+(y:Int)+(z:Int)) % 10=(((x+y+z) % 10:Nat):Int):=by omega
    have e2:((x:Int)+(y:Int)+(z:Int)) / 10=(((x+y+z) / 10:Nat):Int):=by omega
    rw [e1,e2];exact h1
   ·exact Below.drew ((HBW.out.setCell (Nat.le_refl _) _).setCell (Nat.le_refl _) _)
   ·simp only [intOf];omega
def MinR (a b:Wd) (n k c:Nat) (o:Wd):Prop:=k<=n/\o.length=n/\o.all isDig=true/\c<=1/\offV (a.drop k)+c*10 ^ (n - k)=offV (b.drop k)+offV (o.drop k)
theorem min_step {a b o:Wd} {n m c c' d:Nat} (ha:a.length=n) (hb:b.length=n) (h:MinR a b n (m+1) c o) (h1:m<a.length) (h2:m<b.length) (hd:d<10) (hc':c'<=1) (he:(b[m].toNat - 48)+c+d=(a[m].toNat - 48)+10*c') :
  MinR a b n m c' (o.set m (dchar d)):=by
 obtain ⟨k1,k2,k3,k4,k5⟩:=h;refine ⟨by omega,by simp [k2],all_set k3 _ (dchar_isDig hd),hc',?_⟩;have h3:m<o.length:=by omega
 have e1:(o.set m (dchar d)).drop m=dchar d::o.drop (m+1):=by
  rw [List.drop_eq_getElem_cons (by simp;omega)];simp [List.drop_set]
 rw [e1,offV_cons,dchar_off hd,off_drop h1,off_drop h2,ha,hb];have hl:(o.drop (m+1)).length=n - m - 1:=by rw [List.length_drop];omega
 rw [hl];rw [show n - (m+1)=n - m - 1 by omega] at k5;rw [show n - m=n - m - 1+1 by omega,Nat.pow_succ,Nat.add_sub_cancel];obtain ⟨p,hp⟩:∃ p,10 ^ (n - m - 1)=p:=⟨_,rfl⟩;rw [hp] at k5 ⊢;obtain ⟨x,hx⟩:∃ x,a[m].toNat - 48=x:=⟨_,rfl⟩;obtain ⟨y,hy⟩:∃ y,b[m].toNat - 48=y:=⟨_,rfl⟩;rw [hx,hy] at he ⊢;have e2:y*p+c*p+d*p=x*p+10*c'*p:=by rw [←Nat.add_mul,←Nat.add_mul,he,Nat.add_mul]
 have e3:c'*(p*10)=10*c'*p:=by rw [Nat.mul_comm p 10,←Nat.mul_assoc,Nat.mul_comm c' 10]
 omega
set_option maxHeartbeats 4000000 in
theorem minus_any (a b:Wd) (n c1 c2:Nat) (p q:Addr) (w:World) (ha:a.length=n) (hb:b.length=n) (hn:n<=300) (h1n:1<=n) (da:a.all isDig=true) (db:b.all isDig=true) (hle:offV b<=offV a) (hA:BytesAt w (some p) (vals a)) (hB:BytesAt w (some q) (vals b)) :
  Calls Tryz.prog 170 #[.slice (some p) n c1,.slice (some q) n c2] w (SumQ n (offV a - offV b) w):=by
 obtain ⟨i,hi,hz,h2,h3⟩:=elem_bytes.info;have HA:=Lib.hid hA;have HB:=Lib.hid hB;have HD:=Lib.hid (And.intro ha (And.intro hb (And.intro da (And.intro db hle))));clear ha hb da db hA hB hle;go_enter Tryz.func170,Tryz.ntmps170
 go_wp2_with (refine wpList_make_full _ rfl _ _ _ rfl w.heap.size _ i _ 1 elem_bytes.under hi hz h2 .i64 .i64 _ _ n rfl rfl ?c1 ?c2 ?c3 ?c4 ?c5 ?_)
 case c1=>rfl
 case c2=>rfl
 case c3=>rw [h3];omega
 case c4=>unfold maxLen;omega
 case c5=>exact Nat.le_refl _
 intro w1 hown0 hg1;rw [zero_row,←digs_rep] at hown0;have hb1:Below w.heap.size w w1:=(Below.refl _ _).grown hg1 (Nat.le_refl _) (by simp);have HR:=Lib.hid (show MinR a b n n 0 (List.replicate n 48) from ⟨Nat.le_refl _,by simp,by rw [List.all_eq_true];intro c hc;rw [List.eq_of_mem_replicate hc];rfl,by omega,by
  obtain ⟨h1,h2,_⟩:=HD.out;rw [List.drop_of_length_le (by omega:a.length<=n),List.drop_of_length_le (by omega:b.length<=n),List.drop_replicate,offV_nought];simp⟩)
 obtain ⟨G,hG⟩:∃ G,w.heap.size=G:=⟨_,rfl⟩;rw [hG] at hown0 hb1 ⊢;have HG:=Lib.hid hG;have HO:=Lib.hid hown0;have HW:=Lib.hid hb1;clear hG hown0 hb1 hg1;go_wp2_with fail
 have HN:=Lib.hid (show ∃ n',n=n'+1 from ⟨n - 1,by omega⟩);go_loopw [6,7] (fun cv iv wr=>∃ (k c:Nat) (o:Wd),(match k with | 0=>iv = .int .i64 (-1) | m+1=>iv = .int .i64 (m:Nat))/\cv = .int .u8 (c:Nat)/\MinR a b n k c o/\wr.ownsRow G 5 1 (.slice (some ⟨G,0,none⟩) n n) n (digs o)/\Below G w wr) (fun _ iv _=>(intOf iv+1).toNat)
 case atStart=>exact ⟨n,0,_,by obtain ⟨n',hn'⟩:=HN.out;rw [hn'];simp,rfl,HR.out,HO.out,HW.out⟩
 case round =>
  obtain ⟨k,c,o,hiv,rfl,hR,hO,hb⟩:=hrel
  cases k with
  | zero =>
   obtain rfl:=hiv;have HQ:=Lib.hid (show SumQ n (offV a - offV b) w (.returned (.slice (some ⟨G,0,none⟩) n n)) wr from ⟨⟨_,o,rfl,by rw [HG.out];exact hO,hR.2.1,hR.2.2.1,by
    obtain ⟨_,r2,r3,r4,r5⟩:=hR;have:=offV_lt o r3;rw [r2] at this;have hle:=HD.out.2.2.2.2;simp only [List.drop_zero,Nat.sub_zero] at r5;rcases Nat.eq_zero_or_pos c with rfl | h
    ·omega
    ·obtain rfl:c=1:=by omega
     omega⟩,by rw [HG.out];exact hb⟩)
   clear hR hO hb;go_wp2
   go_ret
   exact HQ.out
  | succ m =>
   obtain rfl:=hiv;obtain ⟨ha,hbn,da,db,_⟩:=HD.out;have m1:m<a.length:=by have:=hR.1;omega
   have m2:m<b.length:=by have:=hR.1;omega
   have m3:m<o.length:=by have:=hR.1;have:=hR.2.1;omega
   have hst:=fun c' d=>min_step (c':=c') (d:=d) ha hbn hR m1 m2
   have hbw:Below w.heap.size w wr:=by rw [HG.out];exact hb
   have pa:=cell_dig (HA.out.below hbw) m1;have pb:=cell_dig (HB.out.below hbw) m2;have po:=own_dig hO m3 hR.2.1;have xa:=dig_nat (List.all_eq_true.1 da _ (List.getElem_mem m1));have xb:=dig_nat (List.all_eq_true.1 db _ (List.getElem_mem m2));obtain ⟨x,hx⟩:∃ x,a[m].toNat - 48=x:=⟨_,rfl⟩;obtain ⟨y,hy⟩:∃ y,b[m].toNat - 48=y:=⟨_,rfl⟩;rw [hx,hy] at hst;rw [show ((a[m].toNat:Int) - 48)=(x:Int) by omega] at pa;rw [show ((b[m].toNat:Int) - 48)=(y:Int) by omega] at pb;have x9:x<=9:=by omega
   have y9:y<=9:=by omega
   have c1:c<=1:=hR.2.2.2.1;have mn:m+1<=n:=hR.1;have mi:(m:Int)<(n:Int):=by omega
   have fz:∀ j,wr.frozen? ⟨G,j,none⟩=false:=by
    intro j;rcases hO.2 with ⟨hv,_⟩ | ⟨g2,cap2,cur,hv,_,hh,_⟩
    ·cases hv
    ·cases hv;exact Lib.frozen_of_heap hh j
   have HST:=Lib.hid hst;have HOW:=Lib.hid hO;have HBW:=Lib.hid hb;clear hst hO hb hbw hR xa xb hx hy da db ha hbn;by_cases hge:y+c<=x
   ·have w1:((x:Int) - (y:Int)) % 256=(x:Int) - (y:Int):=by omega
    have w2:((x:Int) - (y:Int) - (c:Int)) % 256=((x - y - c:Nat):Int):=by omega
    have hd:x - y - c<10:=by omega
    have HS:=Lib.hid (HST.out 0 (x - y - c) hd (by omega) (by omega));obtain ⟨d,hdd⟩:∃ d,x - y - c=d:=⟨_,rfl⟩;rw [hdd] at w2 hd HS;have s1:((x:Int) - (y:Int) - (c:Int)) / 128=0:=by omega
    have HDD:=Lib.hid (show (x:Int) - (y:Int) - (c:Int)=(d:Int) by omega);clear hdd hge;go_wp2_with fail
    refine rt (fun W':World=>W'.cell? (p.add m)=some (.int .u8 x)/\W'.cell? (q.add m)=some (.int .u8 y)) (List.range 12) 0 ⟨pa,pb⟩ ?_;(iterate 12 (refine ty ?_;try simp only [pl]))
    refine takes_nil ?_;refine wpAnyH_done (by kernel_rfl) ?_ _;go_wp2
    refine ⟨⟨m,0,_,?_,?_,HS.out,?_,?_⟩,?_⟩
    ·cases m with
     | zero=>rfl
     | succ k=>exact congrArg (Value.int .i64) (by omega)
    ·exact congrArg (Value.int .u8) (by omega)
    ·have h1:=own_put HOW.out m (by omega) (.int .u8 ((d:Nat):Int));rw [digs_set _ _ _ hd] at h1;try rw [HDD.out]
     exact h1
    ·exact Below.drew (HBW.out.setCell (Nat.le_refl _) _)
    ·simp only [intOf];omega
   ·have hd:x+10 - y - c<10:=by omega
    have HS:=Lib.hid (HST.out 1 (x+10 - y - c) hd (by omega) (by omega));obtain ⟨d,hdd⟩:∃ d,x+10 - y - c=d:=⟨_,rfl⟩;obtain ⟨u,hu⟩:∃ u:Nat,((x:Int) - (y:Int)) % 256=(u:Int):=⟨(((x:Int) - (y:Int)) % 256).toNat,by omega⟩;have w2:((u:Int) - (c:Int)) % 256=((d+246:Nat):Int):=by omega
    have s1:((d:Int)+246) / 128=1:=by omega
    have s2:((d:Int)+246+10) % 256=(d:Int):=by omega
    rw [hdd] at hd HS;have HDD:=Lib.hid hdd;clear hdd hge;go_wp2_with fail
    refine rt (fun W':World=>W'.cell? (p.add m)=some (.int .u8 x)/\W'.cell? (q.add m)=some (.int .u8 y)) (List.range 12) 0 ⟨pa,pb⟩ ?_;(iterate 12 (refine ty ?_;try simp only [pl]))
    refine takes_nil ?_;refine wpAnyH_done (by kernel_rfl) ?_ _;go_wp2
    refine ⟨⟨m,1,_,?_,?_,HS.out,?_,?_⟩,?_⟩
    ·cases m with
     | zero=>rfl
     | succ k=>exact congrArg (Value.int .i64) (by omega)
    ·exact congrArg (Value.int .u8) (by omega)
    ·have h1:=own_put HOW.out m (by omega) (.int .u8 ((d:Nat):Int));rw [digs_set _ _ _ hd] at h1;try rw [HDD.out]
     exact h1
    ·exact Below.drew (HBW.out.setCell (Nat.le_refl _) _)
    ·simp only [intOf];omega
end Go.Proofs.YthpldolmpinnhaaGreatDoor
