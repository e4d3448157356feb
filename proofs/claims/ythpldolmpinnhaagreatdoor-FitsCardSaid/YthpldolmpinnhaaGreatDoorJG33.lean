import Derived.Test.YthpldolmpinnhaaGreatDoorJG32
import Derived.Lib.AppendZerosOnto
set_option maxHeartbeats 64000000
open Go.Lib renaming hid→z7,frozen_of_heap→zG
open List renaming all_eq_true→z8,getElem_mem→zx,drop_eq_getElem_cons→zv,drop_of_length_le→zu,replicate→zk,length_drop→zZ,eq_of_mem_replicate→zY,drop_replicate→zV,range→zJ
open Nat renaming le_refl→zy,add_mul→zj,mul_comm→zX
open And renaming intro→zg
open Go.Value renaming int→zf
open Go.RowKit.Below renaming refl→zU,drew→zQ
open Go.Proofs.Tryz
namespace Go.Proofs.YthpldolmpinnhaaGreatDoor
open Go Go.RowKit
set_option maxRecDepth 10000
theorem Xr(k:Nat):vz (List.replicate k 48)=List.replicate k (.int .u8 0):=by simp[vz]
theorem Fi(a b:Wd):vz (a++b)=vz a++vz b:=by simp[vz]
theorem Fl(k:Nat):(madeCells #[zf .u8 0] k).toList=zk k (.int .u8 0):=by
 apply List.ext_getElem
 .simp[madeCells]
 .intro j h1 h2;simp[madeCells];rw[Nat.mod_one];rfl
theorem iU(l:Wd)(a:Addr)(c k:Nat)(w:World)(hl:l.length<=300)(hk:k<=300)(hB:xK w (some a) (xl l)) :
  Calls prog 167 #[.slice (some a) l.length c,.int .i64 ((l.length+k:Nat):Int)] w fun e w'=>(∃ v,e = .returned v/\w'.ownsRow w.heap.size 5 1 v (l.length+k) (vz (fU (l.length+k) l)))/\Below w.heap.size w w':=by
 obtain⟨i,hi,hz,h2,h3⟩:=vx.info;obtain⟨n,hn⟩:=xX l.length;rw[hn] at hl |-
 have HN:=z7 hn;have KS:((n+k:Nat):Int) - (n:Int)=(k:Int):=by omega
 have hmx:max (0:Int) (k:Int)=(k:Int):=by omega
 have HB:=z7 hB;clear hn hB;go_enter func167,ntmps167;go_wp2_with (refine wpList_make_full _ rfl _ _ _ rfl w.heap.size _ i _ 1 vx.under hi hz h2 .i64 .i64 _ _ k rfl rfl ?c1 ?c2 ?c3 ?c4 ?c5 ?_)
 case c1=>omega
 case c2=>omega
 case c3=>rw[h3];omega
 case c4=>unfold maxLen;omega
 case c5=>exact zy _
 intro w1 fE Zw;rw[Fl] at fE;have xG:Below w.heap.size w w1:=(zU _ _).grown Zw (zy _) (by simp);have NH:=z7 (HB.out.below xG);have VH:=z7 fE;have HW:=z7 xG;have h4:=xG.size;clear fE Zw xG;go_wp2_with (at_builtin;refine qX vx rfl _ _ rfl w.heap.size _ k _ rfl VH.out a n c (vz l) rfl ?d1 ?d2 ?d3 ?d4 ?d5 ?_)
 case d1=>simp[vz,HN.out]
 case d2 =>
  intro j u hu;have hj:j<(xl l).length:=by
   have:=(List.getElem?_eq_some_iff.1 hu).1;simpa[vz,xl] using this
  obtain⟨b,hb,hc⟩:=NH.out j hj
  cases hb;rw[hc];rw[UF,List.getElem?_map,List.getElem?_eq_getElem hj] at hu;simpa using hu
 case d3 =>
  intro u hu;simp only[vz,List.mem_map] at hu;obtain⟨c,_,rfl⟩:=hu;rfl
 case d4=>omega
 case d5=>exact h4
 intro v' w2 xV uA;have xJ:Below w.heap.size w w2:=HW.out.grown uA (by omega) (fun q hq=>by cases hq;exact zy _);have HO:=z7 (show w2.ownsRow w.heap.size 5 1 v' (n+k) (vz (fU (n+k) l)) by
  rw[fU,HN.out,Nat.add_sub_cancel_left,Fi,Xr,Nat.add_comm n k];exact xV)
 obtain⟨ao,cp,rfl⟩:=xf xV;clear xV uA;go_wp2;go_ret;exact⟨⟨_,rfl,HO.out⟩,xJ⟩
def rC(n r:Nat)(w:World)(e:Ending)(w':World):Prop:=(∃ v d,e = .returned v/\w'.ownsRow w.heap.size 5 1 v n (vz d)/\d.length=n/\d.all xF=true/\xE d=r)/\Below w.heap.size w w'
theorem QN{w:World}{a:Addr}{l:Wd}(h:xK w (some a) (xl l)){m:Nat}(hm:m<l.length):w.cell? (a.add m)=some (.int .u8 ((l[m].toNat:Int) - 48)):=by
 obtain⟨b,hb,hc⟩:=h m (by rw[vV];exact hm)
 cases hb;rw[hc];simp[xl]
theorem Yr{w:World}{base g cap n:Nat}{d:Wd}(h:w.ownsRow base 5 1 (.slice (some ⟨g,0,none⟩) n cap) n (vz d)){m:Nat}(hm:m<d.length)(hn:d.length=n):w.cell? ⟨g,m,none⟩=some (.int .u8 ((d[m].toNat:Int) - 48)):=by
 rw[h.cellAt m (by omega)];simp[vz,hm]
theorem QO(d:Wd)(m x:Nat)(hx:x<10):(vz d).set m (.int .u8 (x:Int))=vz (d.set m (kH x)):=by
 rw[vz,vz,List.map_set,Yk hx]
theorem Xs{d:Nat}(h:d<10):xF (kH d)=true:=by rw[vW];have:=Yk h;omega
theorem EE{d:Wd}(h:d.all xF=true)(m:Nat){c:UInt8}(hc:xF c=true):(d.set m c).all xF=true:=by
 rw[z8] at h |-
 intro x hx;rcases List.mem_or_eq_of_mem_set hx with q|rfl
 .exact h x q
 .exact hc
theorem Xt{l:Wd}{m:Nat}(hm:m<l.length):xE (l.drop m)=(l[m].toNat - 48)*10 ^ (l.length - m - 1)+xE (l.drop (m+1)):=by
 rw[zv hm,qu,zZ];congr 3
theorem Kn{x:Nat}(h:x<10):(kH x).toNat - 48=x:=by have:=Yk h;omega
def Rn(a b:Wd)(n k:Nat)(o:Wd):Prop:=k<=n/\o.length=n+1/\o.all xF=true/\xE (o.drop k)=xE (a.drop k)+xE (b.drop k)
theorem Wx{a b o:Wd}{n m:Nat}(ha:a.length=n)(hb:b.length=n)(da:a.all xF=true)(db:b.all xF=true)(h:Rn a b n (m+1) o)(h1:m<a.length)(h2:m<b.length)(h3:m+1<o.length) :
  Rn a b n m ((o.set (m+1) (kH (((a[m].toNat - 48)+(b[m].toNat - 48)+(o[m+1].toNat - 48)) % 10))).set m (kH (((a[m].toNat - 48)+(b[m].toNat - 48)+(o[m+1].toNat - 48)) / 10))):=by
 obtain⟨k1,k2,k3,k4⟩:=h;have xa:=kF (z8.1 da _ (zx h1));have xb:=kF (z8.1 db _ (zx h2));have xo:=kF (z8.1 k3 _ (zx h3));obtain⟨v,hv⟩:=xX ((a[m].toNat - 48)+(b[m].toNat - 48)+(o[m+1].toNat - 48));have v1:v % 10<10:=Nat.mod_lt _ (by omega);have v2:v / 10<10:=by omega
 refine⟨by omega,by simp[k2],EE (EE k3 _ (Xs (by rw[hv];exact v1))) _ (Xs (by rw[hv];exact v2)),?_⟩;rw[hv];have e1:((o.set (m+1) (kH (v % 10))).set m (kH (v / 10))).drop m=kH (v / 10)::kH (v % 10)::o.drop (m+2):=by
  rw[zv (by simp;omega),zv (by simp;omega)];simp[List.drop_set];intro hh;omega
 rw[e1,qu,qu,Kn v1,Kn v2,Xt h1,Xt h2];rw[Xt h3] at k4;have hl:(o.drop (m+2)).length=n - m - 1:=by rw[zZ];omega
 rw[List.length_cons,hl,ha,hb];rw[k2,show n+1 - (m+1) - 1=n - m - 1 by omega] at k4;obtain⟨p,hp⟩:=xX (10 ^ (n - m - 1));rw[Nat.pow_succ,hp];rw[hp] at k4;obtain⟨x,hx⟩:=xX (a[m].toNat - 48);obtain⟨y,hy⟩:=xX (b[m].toNat - 48);obtain⟨z,hz⟩:=xX (o[m+1].toNat - 48);rw[hx,hy,hz] at hv;rw[hz] at k4;rw[hx,hy];have e2:v=v / 10*10+v % 10:=by omega
 have e3:v / 10*(p*10)+v % 10*p=v*p:=by
  rw[zX p 10,<-Nat.mul_assoc,<-zj,<-e2]
 have e4:v*p=x*p+y*p+z*p:=by rw[<-hv,zj,zj]
 show v / 10*(p*10)+(v % 10*p+xE (o.drop (m+2)))=_;have k5:z*p+xE (o.drop (m+2))=xE (a.drop (m+1))+xE (b.drop (m+1)):=k4;omega
theorem iQ(a b:Wd)(n c1 c2:Nat)(p q:Addr)(w:World)(ha:a.length=n)(hb:b.length=n)(hn:n<=300)(h1n:1<=n)(da:a.all xF=true)(db:b.all xF=true)(hA:xK w (some p) (xl a))(hB:xK w (some q) (xl b)) :
  Calls prog 169 #[.slice (some p) n c1,.slice (some q) n c2] w (rC (n+1) (xE a+xE b) w):=by
 obtain⟨i,hi,hz,h2,h3⟩:=vx.info;have HA:=z7 hA;have HB:=z7 hB;have HD:=z7 (zg ha (zg hb (zg da db)));clear ha hb da db hA hB;go_enter func169,ntmps169;go_wp2_with (refine wpList_make_full _ rfl _ _ _ rfl w.heap.size _ i _ 1 vx.under hi hz h2 .i64 .i64 _ _ (n+1) rfl rfl ?c1 ?c2 ?c3 ?c4 ?c5 ?_)
 case c1=>simp
 case c2=>simp
 case c3=>rw[h3];omega
 case c4=>unfold maxLen;omega
 case c5=>exact zy _
 intro w1 fE Zw;rw[Fl,<-Xr] at fE;have xG:Below w.heap.size w w1:=(zU _ _).grown Zw (zy _) (by simp);have HR:=z7 (show Rn a b n n (zk (n+1) 48) from⟨zy _,by simp,by rw[z8];intro c hc;rw[zY hc];rfl,by
  obtain⟨h1,h2,_⟩:=HD.out;rw[zu (by omega:a.length<=n),zu (by omega:b.length<=n),zV,Xp];rfl⟩)
 obtain⟨G,hG⟩:=xX w.heap.size;rw[hG] at fE xG |-
 have HG:=z7 hG;have HO:=z7 fE;have HW:=z7 xG;clear hG fE xG Zw;go_wp2_with fail;have HN:=z7 (show ∃ n',n=n'+1 from⟨n - 1,by omega⟩);go_loopw [6] (fun iv wr=>∃ (k:Nat) (o:Wd),(match k with|0=>iv = .int .i64 (-1)|m+1=>iv = .int .i64 (m:Nat))/\Rn a b n k o/\wr.ownsRow G 5 1 (.slice (some ⟨G,0,none⟩) (n+1) (n+1)) (n+1) (vz o)/\Below G w wr) (fun iv _=>(intOf iv+1).toNat)
 case atStart=>exact⟨n,_,by obtain⟨n',CA⟩:=HN.out;rw[CA];simp,HR.out,HO.out,HW.out⟩
 case round =>
  obtain⟨k,o,hiv,hR,hO,hb⟩:=hrel
  cases k with
  | zero =>
   obtain rfl:=hiv;have HQ:=z7 (show rC (n+1) (xE a+xE b) w (.returned (.slice (some ⟨G,0,none⟩) (n+1) (n+1))) wr from⟨⟨_,o,rfl,by rw[HG.out];exact hO,hR.2.1,hR.2.2.1,hR.2.2.2⟩,by rw[HG.out];exact hb⟩);clear hR hO hb;go_wp2;go_ret;exact HQ.out
  | succ m =>
   obtain rfl:=hiv;obtain⟨ha,Dw,da,db⟩:=HD.out;have m1:m<a.length:=by have:=hR.1;omega
   have m2:m<b.length:=by have:=hR.1;omega
   have m3:m+1<o.length:=by have:=hR.1;have:=hR.2.1;omega
   have vM:=Wx ha Dw da db hR m1 m2 m3;have qB:Below w.heap.size w wr:=by rw[HG.out];exact hb
   have pa:=QN (HA.out.below qB) m1;have pb:=QN (HB.out.below qB) m2;have po:=Yr hO m3 hR.2.1;have xa:=kF (z8.1 da _ (zx m1));have xb:=kF (z8.1 db _ (zx m2));have xo:=kF (z8.1 hR.2.2.1 _ (zx m3));obtain⟨x,hx⟩:=xX (a[m].toNat - 48);obtain⟨y,hy⟩:=xX (b[m].toNat - 48);obtain⟨z,hz⟩:=xX (o[m+1].toNat - 48);rw[hx,hy,hz] at vM;rw[show((a[m].toNat:Int) - 48)=(x:Int) by omega] at pa;rw[show((b[m].toNat:Int) - 48)=(y:Int) by omega] at pb;rw[show((o[m+1].toNat:Int) - 48)=(z:Int) by omega] at po;have x9:x<=9:=by omega
   have y9:y<=9:=by omega
   have z9:z<=9:=by omega
   have mn:m+1<=n:=hR.1;have mi:(m:Int)<(n:Int):=by omega
   have mj:(m:Int)+1<(n:Int)+1:=by omega
   have wm:IntKind.i64.wrap ((m:Int)+1)=(m:Int)+1:=by rw[IntKind.wrap_i64];omega
   have tm:((m:Int)+1).toNat=m+1:=by omega
   have m0:(0:Int)<=(m:Int)+1:=by omega
   have w1:((x:Int)+(y:Int)) % 256=(x:Int)+(y:Int):=by omega
   have w2:((x:Int)+(y:Int)+(z:Int)) % 256=((x+y+z:Nat):Int):=by omega
   have jD:=z7 vM;have Lu:=z7 hO;have Im:=z7 hb;have po0:=Yr hO (m:=m) (by omega) hR.2.1;have fz:∀ j,wr.frozen? ⟨G,j,none⟩=false:=by
    intro j;rcases hO.2 with⟨hv,_⟩|⟨g2,uL,cur,hv,_,hh,_⟩
    .cases hv
    .cases hv;exact zG hh j
   clear vM hO hb qB hR xa xb xo hx hy hz da db ha Dw;go_wp2_with fail;refine rt (fun W':World=>W'.cell? (p.add m)=some (.int .u8 x)/\W'.cell? (q.add m)=some (.int .u8 y)/\W'.cell? ⟨G,m+1,none⟩=some (.int .u8 z)) (zJ 16) 0 ⟨pa,pb,po⟩ ?_;(iterate 16 (refine ty ?_;try simp only[pl]))
   refine xq ?_;refine b7 ?_ _;go_wp2;refine⟨⟨m,_,?_,jD.out,?_,?_⟩,?_⟩
   .cases m with
    | zero=>rfl
    | succ k=>exact congrArg (zf .i64) (by omega)
   .have h1:=Gq (Gq Lu.out (m+1) (by omega) (.int .u8 (((x+y+z) % 10:Nat):Int))) m (by omega) (.int .u8 (((x+y+z) / 10:Nat):Int));rw[QO _ _ _ (Nat.mod_lt _ (by omega)),QO _ _ _ (by omega)] at h1;have e1:((x:Int)+(y:Int)+(z:Int)) % 10=(((x+y+z) % 10:Nat):Int):=by omega
    have e2:((x:Int)+(y:Int)+(z:Int)) / 10=(((x+y+z) / 10:Nat):Int):=by omega
    rw[e1,e2];exact h1
   .exact zQ ((Im.out.setCell (zy _) _).setCell (zy _) _)
   .simp only[intOf];omega
def rE(a b:Wd)(n k c:Nat)(o:Wd):Prop:=k<=n/\o.length=n/\o.all xF=true/\c<=1/\xE (a.drop k)+c*10 ^ (n - k)=xE (b.drop k)+xE (o.drop k)
theorem iK{a b o:Wd}{n m c c' d:Nat}(ha:a.length=n)(hb:b.length=n)(h:rE a b n (m+1) c o)(h1:m<a.length)(h2:m<b.length)(hd:d<10)(rH:c'<=1)(he:(b[m].toNat - 48)+c+d=(a[m].toNat - 48)+10*c') :
  rE a b n m c' (o.set m (kH d)):=by
 obtain⟨k1,k2,k3,k4,k5⟩:=h;refine⟨by omega,by simp[k2],EE k3 _ (Xs hd),rH,?_⟩;have h3:m<o.length:=by omega
 have e1:(o.set m (kH d)).drop m=kH d::o.drop (m+1):=by
  rw[zv (by simp;omega)];simp[List.drop_set]
 rw[e1,qu,Kn hd,Xt h1,Xt h2,ha,hb];have hl:(o.drop (m+1)).length=n - m - 1:=by rw[zZ];omega
 rw[hl];rw[show n - (m+1)=n - m - 1 by omega] at k5;rw[show n - m=n - m - 1+1 by omega,Nat.pow_succ,Nat.add_sub_cancel];obtain⟨p,hp⟩:=xX (10 ^ (n - m - 1));rw[hp] at k5 |-
 obtain⟨x,hx⟩:=xX (a[m].toNat - 48);obtain⟨y,hy⟩:=xX (b[m].toNat - 48);rw[hx,hy] at he |-
 have e2:y*p+c*p+d*p=x*p+10*c'*p:=by rw[<-zj,<-zj,he,zj]
 have e3:c'*(p*10)=10*c'*p:=by rw[zX p 10,<-Nat.mul_assoc,zX c' 10]
 omega
theorem C4(a b:Wd)(n c1 c2:Nat)(p q:Addr)(w:World)(ha:a.length=n)(hb:b.length=n)(hn:n<=300)(h1n:1<=n)(da:a.all xF=true)(db:b.all xF=true)(hle:xE b<=xE a)(hA:xK w (some p) (xl a))(hB:xK w (some q) (xl b)) :
  Calls prog 170 #[.slice (some p) n c1,.slice (some q) n c2] w (rC n (xE a - xE b) w):=by
 obtain⟨i,hi,hz,h2,h3⟩:=vx.info;have HA:=z7 hA;have HB:=z7 hB;have HD:=z7 (zg ha (zg hb (zg da (zg db hle))));clear ha hb da db hA hB hle;go_enter func170,ntmps170;go_wp2_with (refine wpList_make_full _ rfl _ _ _ rfl w.heap.size _ i _ 1 vx.under hi hz h2 .i64 .i64 _ _ n rfl rfl ?c1 ?c2 ?c3 ?c4 ?c5 ?_)
 case c1=>rfl
 case c2=>rfl
 case c3=>rw[h3];omega
 case c4=>unfold maxLen;omega
 case c5=>exact zy _
 intro w1 fE Zw;rw[Fl,<-Xr] at fE;have xG:Below w.heap.size w w1:=(zU _ _).grown Zw (zy _) (by simp);have HR:=z7 (show rE a b n n 0 (zk n 48) from⟨zy _,by simp,by rw[z8];intro c hc;rw[zY hc];rfl,by omega,by
  obtain⟨h1,h2,_⟩:=HD.out;rw[zu (by omega:a.length<=n),zu (by omega:b.length<=n),zV,Xp];simp⟩)
 obtain⟨G,hG⟩:=xX w.heap.size;rw[hG] at fE xG |-
 have HG:=z7 hG;have HO:=z7 fE;have HW:=z7 xG;clear hG fE xG Zw;go_wp2_with fail;have HN:=z7 (show ∃ n',n=n'+1 from⟨n - 1,by omega⟩);go_loopw [6,7] (fun cv iv wr=>∃ (k c:Nat) (o:Wd),(match k with|0=>iv = .int .i64 (-1)|m+1=>iv = .int .i64 (m:Nat))/\cv = .int .u8 (c:Nat)/\rE a b n k c o/\wr.ownsRow G 5 1 (.slice (some ⟨G,0,none⟩) n n) n (vz o)/\Below G w wr) (fun _ iv _=>(intOf iv+1).toNat)
 case atStart=>exact⟨n,0,_,by obtain⟨n',CA⟩:=HN.out;rw[CA];simp,rfl,HR.out,HO.out,HW.out⟩
 case round =>
  obtain⟨k,c,o,hiv,rfl,hR,hO,hb⟩:=hrel
  cases k with
  | zero =>
   obtain rfl:=hiv;have HQ:=z7 (show rC n (xE a - xE b) w (.returned (.slice (some ⟨G,0,none⟩) n n)) wr from⟨⟨_,o,rfl,by rw[HG.out];exact hO,hR.2.1,hR.2.2.1,by
    obtain⟨_,r2,r3,r4,r5⟩:=hR;have:=QI o r3;rw[r2] at this;have hle:=HD.out.2.2.2.2;simp only[List.drop_zero,Nat.sub_zero] at r5;rcases Nat.eq_zero_or_pos c with rfl|h
    .omega
    .obtain rfl:c=1:=by omega
     omega⟩,by rw[HG.out];exact hb⟩)
   clear hR hO hb;go_wp2;go_ret;exact HQ.out
  | succ m =>
   obtain rfl:=hiv;obtain⟨ha,Dw,da,db,_⟩:=HD.out;have m1:m<a.length:=by have:=hR.1;omega
   have m2:m<b.length:=by have:=hR.1;omega
   have m3:m<o.length:=by have:=hR.1;have:=hR.2.1;omega
   have vM:=fun c' d=>iK (c':=c') (d:=d) ha Dw hR m1 m2
   have qB:Below w.heap.size w wr:=by rw[HG.out];exact hb
   have pa:=QN (HA.out.below qB) m1;have pb:=QN (HB.out.below qB) m2;have po:=Yr hO m3 hR.2.1;have xa:=kF (z8.1 da _ (zx m1));have xb:=kF (z8.1 db _ (zx m2));obtain⟨x,hx⟩:=xX (a[m].toNat - 48);obtain⟨y,hy⟩:=xX (b[m].toNat - 48);rw[hx,hy] at vM;rw[show((a[m].toNat:Int) - 48)=(x:Int) by omega] at pa;rw[show((b[m].toNat:Int) - 48)=(y:Int) by omega] at pb;have x9:x<=9:=by omega
   have y9:y<=9:=by omega
   have c1:c<=1:=hR.2.2.2.1;have mn:m+1<=n:=hR.1;have mi:(m:Int)<(n:Int):=by omega
   have fz:∀ j,wr.frozen? ⟨G,j,none⟩=false:=by
    intro j;rcases hO.2 with⟨hv,_⟩|⟨g2,uL,cur,hv,_,hh,_⟩
    .cases hv
    .cases hv;exact zG hh j
   have jD:=z7 vM;have Lu:=z7 hO;have Im:=z7 hb;clear vM hO hb qB hR xa xb hx hy da db ha Dw;by_cases hge:y+c<=x
   .have w1:((x:Int) - (y:Int)) % 256=(x:Int) - (y:Int):=by omega
    have w2:((x:Int) - (y:Int) - (c:Int)) % 256=((x - y - c:Nat):Int):=by omega
    have hd:x - y - c<10:=by omega
    have HS:=z7 (jD.out 0 (x - y - c) hd (by omega) (by omega));obtain⟨d,hdd⟩:=xX (x - y - c);rw[hdd] at w2 hd HS;have s1:((x:Int) - (y:Int) - (c:Int)) / 128=0:=by omega
    have HDD:=z7 (show(x:Int) - (y:Int) - (c:Int)=(d:Int) by omega);clear hdd hge;go_wp2_with fail;refine rt (fun W':World=>W'.cell? (p.add m)=some (.int .u8 x)/\W'.cell? (q.add m)=some (.int .u8 y)) (zJ 12) 0 ⟨pa,pb⟩ ?_;(iterate 12 (refine ty ?_;try simp only[pl]))
    refine xq ?_;refine b7 ?_ _;go_wp2;refine⟨⟨m,0,_,?_,?_,HS.out,?_,?_⟩,?_⟩
    .cases m with
     | zero=>rfl
     | succ k=>exact congrArg (zf .i64) (by omega)
    .exact congrArg (zf .u8) (by omega)
    .have h1:=Gq Lu.out m (by omega) (.int .u8 ((d:Nat):Int));rw[QO _ _ _ hd] at h1;try rw[HDD.out]
     exact h1
    .exact zQ (Im.out.setCell (zy _) _)
    .simp only[intOf];omega
   .have hd:x+10 - y - c<10:=by omega
    have HS:=z7 (jD.out 1 (x+10 - y - c) hd (by omega) (by omega));obtain⟨d,hdd⟩:=xX (x+10 - y - c);obtain⟨u,hu⟩:∃ u:Nat,((x:Int) - (y:Int)) % 256=(u:Int):=⟨(((x:Int) - (y:Int)) % 256).toNat,by omega⟩;have w2:((u:Int) - (c:Int)) % 256=((d+246:Nat):Int):=by omega
    have s1:((d:Int)+246) / 128=1:=by omega
    have s2:((d:Int)+246+10) % 256=(d:Int):=by omega
    rw[hdd] at hd HS;have HDD:=z7 hdd;clear hdd hge;go_wp2_with fail;refine rt (fun W':World=>W'.cell? (p.add m)=some (.int .u8 x)/\W'.cell? (q.add m)=some (.int .u8 y)) (zJ 12) 0 ⟨pa,pb⟩ ?_;(iterate 12 (refine ty ?_;try simp only[pl]))
    refine xq ?_;refine b7 ?_ _;go_wp2;refine⟨⟨m,1,_,?_,?_,HS.out,?_,?_⟩,?_⟩
    .cases m with
     | zero=>rfl
     | succ k=>exact congrArg (zf .i64) (by omega)
    .exact congrArg (zf .u8) (by omega)
    .have h1:=Gq Lu.out m (by omega) (.int .u8 ((d:Nat):Int));rw[QO _ _ _ hd] at h1;try rw[HDD.out]
     exact h1
    .exact zQ (Im.out.setCell (zy _) _)
    .simp only[intOf];omega
end Go.Proofs.YthpldolmpinnhaaGreatDoor
