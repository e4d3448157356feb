import Derived.Test.YtfcemhlpdcnckaaGreatDoorJG10
set_option linter.defProp false
set_option maxHeartbeats 64000000
open Go renaming Addr->yi,Calls->zE,Ending->gG,TypeId->uP,Value->zx,World->z7,bodyPost_ret->zU,results->yk
open Go.Addr renaming add->xM
open And renaming intro->qZ
open Array renaming getElem?_modify->Zt
open Go.RowKit renaming Below->yX
open Go.RowKit.Below renaming refl->z8
open Bool renaming and_eq_true->zQ,not_false->yp9,not_not->yf2
open Int renaming lt_trichotomy->Yi
open Go.IntKind renaming u8->gD
open Go.Lib renaming cell_of_heap->zP,frozen_of_heap->yj,hid->Z
open List renaming append_nil->vu,drop_eq_getElem_cons->yH,drop_length->bu,drop_of_length_le->yq,flatMap_append->xh,flatMap_cons->zn,getD_eq_getElem?_getD->zM,getElem?_eq_getElem->zw,getElem_mem->xd,length_drop->xz,length_eq_one_iff->PO,length_pos_iff->xI,mem_append->xY,mem_cons->yp,mem_cons_of_mem->yo,mem_cons_self->xB,mem_of_mem_drop->ZD,mem_singleton->uG,nil_append->kr,take_length->kp
open Nat renaming add_assoc->jo,le_of_lt->xx,le_refl->X,le_succ->bG,le_trans->zZ,lt_irrefl->yO,lt_succ_self->xf,not_lt_zero->uf,pow_le_pow_right->zux,zero_add->V9,zero_le->zG
open Go.Op renaming bytesLess->gV
open Option.some renaming inj->zR
open Go.Value renaming slice->yI
open Go.Value.slice renaming injEq->F4
open Go.World renaming block_lt_of_cell?->Y,ownsRow_nil->yr,setCell->xW
open Go.Proofs.Tryz
namespace Go.Proofs.YtfcemhlpdcnckaaGreatDoor
open Go Go.RowKit
set_option maxRecDepth 10000
variable{s:ByteArray}{rs:List Int}{y:Sc}
def Bo(s:ByteArray)(b:Nat):∀(a:Nat) (x:Sc),qd s (a+b) x=qd s b (qd s a x)
 | 0,x=>by rw[V9];rfl
 |a+1,x=>by
  by_cases h:x.err=0/\x.i<s.size
  .rw[show a+1+b=a+b+1 by omega,dn h,dn h,Bo s b a]
  .rw[qi h,qi h,qi h]
def Kc(s:ByteArray):∀(n:Nat) (x:Sc),PN x->s.size<x.i+n->¬((qd s n x).err=0/\(qd s n x).i<s.size)
 | 0,x,_,h=>λq=>by
  have:=q.2;simp only[qd]at this;omega
 |n+1,x,a,h=>by
  by_cases hc:x.err=0/\x.i<s.size
  .rw[dn hc];have h1:=ok_one s x a hc.1 hc.2;by_cases he:(fC s x).err=0
   .exact Kc s n _ h1.1 (by have:=h1.2.2 he;omega)
   .rw[qi (λq=>he q.1)];exactλq=>he q.1
  .rw[qi hc];exact hc
def Hb:PN jf:=⟨zG _,zG _,λm hm=>JV⟩
def Ke(h:Goes s jf y)(hy:¬(y.err=0/\y.i<s.size)):qd s (s.size+1) jf=y:=by
 obtain⟨n,hn⟩:=h;have h1:=hn (s.size+1);rw[qi hy,Nat.add_comm,Bo]at h1;rw[qi (Kc s (s.size+1) jf Hb (by show s.size<0+(s.size+1);omega))]at h1;exact h1
def Wf{e a:Nat}(h:Goes s jf y)(hb:dO e a y):xP s=y:=by
 have he:¬y.err=0:=by rw[hb.err];exact hb.ne
 have h1:=Ke h (λq=>he q.1);unfold xP;dsimp only;rw[h1,zL (λq=>he q.1)]
def Pb(h:Goes s jf y)(a:y.err=0)(hi:s.size<=y.i)(b:y.uo≠[]):(xP s).err=3/\(xP s).place=s.size:=by
 have h1:=Ke h (λq=>J);unfold xP;dsimp only;rw[h1,zl ⟨a,b⟩];unfold yt;rw[zl a];exact⟨rfl,rfl⟩
def PZ{O:List Mk}(h:Goes s jf ⟨s.size,O,[],0,0⟩):xP s=⟨s.size,O,[],0,0⟩:=by
 have h1:=Ke h (λq=>yO _ q.2);unfold xP;dsimp only;rw[h1,zL (λq=>q.2 rfl)]
structure xix(s:ByteArray)(e a:Nat):Prop where
 p:gp s.data.toList = .error (e,a)
 d:bB s=([],e,a)
 ne:e≠0
structure xiv(s:ByteArray)(rs:List Int)(f:Fo):Prop where
 p:gp s.data.toList = .ok f
 d:bB s=(zu rs f,0,0)
 names:D4 s (zu rs f)=fT f
 pl:∀m∈zu rs f,m.pl<=s.size
 len:(zu rs f).length<=1000000
def kN(s:ByteArray)(h:∀i,i<=(yS s.data.toList).length->fW s (yf (yS s.data.toList) i)=i):∀f:Fo,f.bK (yS s.data.toList).length->D4 s (zu (yS s.data.toList) f)=fT f
 |.nil,_=>rfl
 |.text t r,hf=>kN s h r hf
 |.hash r,hf=>kN s h r hf
 |.put n a r,hf=>mO
 |.num n a r,hf=>mO
 |.br n a fo o c d r,hf=>by
  obtain⟨f1,f2,f3,f4,f5,f6⟩:=hf;have ih:=kN s h r f6;have b:=kN s h d f5;unfold D4 at ih b|-;rw[zu,zn,xh,zn,ih,b,fT];unfold Wp;rw[zL f1,zl rfl];show(n,fW s (yf _ a))::_=_;rw[h a (xx f2)];rfl
 |.uB k a m r,hf=>by
  obtain⟨f1,f2,f3⟩:=hf;have ih:=kN s h r f3;have b:=kN s h m f2;unfold D4 at ih b|-;rw[zu,zn,xh,zn,ih,b,fT];unfold Wp;rw[zl rfl,zl rfl];rfl
def YQ(E:jc s rs):∀f:Fo,∀m∈zu rs f,m.pl<=s.size
 |.nil,m,h=>xp
 |.text t r,m,h=>Pt
 |.hash r,m,h=>Pt
 |.put n a r,m,h=>oD
 |.num n a r,m,h=>oD
 |.br n a fo o c b r,m,h=>by
  rcases yp.1 h with rfl|h
  .exact E.le a
  rcases xY.1 h with h|h
  .exact YQ E b m h
  rcases yp.1 h with rfl|h
  .exact E.le c
  .exact YQ E r m h
 |.uB k a d r,m,h=>by
  rcases yp.1 h with rfl|h
  .exact E.le a
  rcases xY.1 h with h|h
  .exact YQ E d m h
  exact Pt
def PY(s:ByteArray):(1000<s.size\/(xn s.data.toList).2<s.size\/zv6 s)/\((∃e a,xix s e a)\/∃f,xiv s (yS s.data.toList) f):=by
 by_cases hl:1000<s.size
 .refine⟨.inl hl,.inl ⟨1,0,?_,zl hl,zj⟩⟩;unfold gp ui;rw[zl JB]
 by_cases hp:(xn s.data.toList).2<s.size
 .refine⟨.inr (.inl hp),.inl ⟨2,(xn s.data.toList).1.length,?_,?_,zj⟩⟩
  .unfold gp ui;rw[zL JB,zl nG]
  .unfold bB;rw[zL hl,zl hp]
 have t:=Tx _ s.data.toList (X _);rw[yz]at t;have v:(xn s.data.toList).2=s.size:=J;have E:=yof s v;have c:∀i,i<=(yS s.data.toList).length->fW s (yf (yS s.data.toList) i)=i:=λi hi=>iH s hi
 have p:bB s=if (jd s).1≠0 then ([],(jd s).1,fW s (jd s).2)else ((xP s).out,0,0):=by
  unfold bB;rw[zL hl,zL hp]
 have hPR:ui s.data.toList=(match bV (yS s.data.toList)with |.error e => .error e |.ok x => .ok x.1):=by
  unfold ui;rw[zL JB,zL nG];rfl
 have b:=E.parse;have m:∀e a,e≠0->a<=(yS s.data.toList).length->(xP s).err=e->(xP s).place=yf (yS s.data.toList) a->zv6 s/\bB s=([],e,a):=by
  intro e a l ha h1 h2;have hf:jd s=(e,yf (yS s.data.toList) a):=by
   unfold jd;rw[zL (by rw[h1];exact l),h1,h2]
  refine⟨⟨λq=>absurd (h1.symm.trans q) l,λ_=>by rw[hf];exact E.le a,λq=>absurd (h1.symm.trans q) l⟩,?_⟩;rw[p,hf,zl l];show([],e,fW s (yf _ a))=_;rw[c a ha]
 cases px:bV (yS s.data.toList) with
 |error x =>
  obtain⟨e,a⟩:=x;rw[px]at b;obtain⟨ha,y,z,hy⟩:=b;have o:gp s.data.toList = .error (e,a):=by
   unfold gp;rw[hPR,px]
  rcases hy with hb|⟨l,hi,B,rfl,rfl⟩
  .have hm:=Wf z hb;have:=m e a hb.ne ha (by rw[hm];exact hb.err) (by rw[hm];exact hb.pl);exact⟨.inr (.inr this.1),.inl ⟨e,a,o,this.2,hb.ne⟩⟩
  .have hm:=Pb z l hi B;have:=m 3 _ zj ha hm.1 (by rw[hm.2];exact E.size);exact⟨.inr (.inr this.1),.inl ⟨3,_,o,this.2,zj⟩⟩
 |ok x =>
  obtain⟨f,j⟩:=x;rw[px]at b;have hm:=PZ b;have g:=E.iE px;have u:PN (xP s):=by
   have h1:=(G9 s (s.size+1) jf Hb).1;rw[Ke b (λq=>yO _ q.2)]at h1;rw[hm];exact h1
  have k:(zu (yS s.data.toList) f).length<=1000000:=by
   have:=u.n;rw[hm]at this;have h2:(zu (yS s.data.toList) f).length<=2*s.size:=this;omega
  have d:jd s=gX (zu (yS s.data.toList) f):=by
   unfold jd;rw[hm];rfl
  have w:∀(L:List Mk),(xP s).out=L->L=zu (yS s.data.toList) f->∀i (h:i<L.length),L[i].kind=40->Yj L i<L.length:=by
   rintro L - rfl i hi r;have:=Il (yS s.data.toList) f [] [] i (zG _) (by simpa using hi) (by
    rw[kr,vu];unfold YA;rw[zM,zw hi];exact r)
   simpa using this
  have A:(jd s).2<=s.size->zv6 s:=λh=>⟨λ_ i hi r=>w _ rfl (by rw[hm]) i hi r,λ_=>h,λ_=>by rw[hm];exact k⟩
  rcases Wk E g with⟨c1,c2⟩|⟨e,a,c1,c2,c3,c4⟩
  .refine⟨.inr (.inr (A (by rw[d,c2];exact zG _))),.inr ⟨f,py,?_,kN s c f g,YQ E f,k⟩⟩;rw[p,d,c2,zL (λq=>q rfl),hm]
  .refine⟨.inr (.inr (A (by rw[d,c4];exact E.le a))),.inl ⟨e,a,py,?_,c2⟩⟩;rw[p,d,c4,zl c2];show([],e,fW s (yf _ a))=_;rw[c a (xx c3)]
variable{wi:Bool}{ps:List (List Wd)}{k:Nat}{v:zx}{w w0:z7}
def dF(m:Wd):∀(l cur:List Wd),xR m cur l≠[]
 |[],cur=>by simp[xR]
 |x::t,cur=>by
  unfold xR;split
  .simp
  .exact dF m t _
def gM(m:Wd):∀(l cur:List Wd) {p:List Wd} {x:Wd},p∈xR m cur l->x∈p->x∈cur\/x∈l
 |[],cur,p,x,h,hx=>by
  simp only[xR,uG]at h;subst h;exact .inl hx
 |y::t,cur,p,x,h,hx=>by
  unfold xR at h;split at h
  .rcases yp.1 h with rfl|h
   .exact .inl hx
   .rcases gM m t [] h hx with q|q
    .cases q
    .exact .inr (yo _ q)
  .rcases gM m t _ h hx with q|q
   .rcases xY.1 q with q|q
    .exact .inl q
    .simp only[uG]at q;subst q;exact .inr (xB ..)
   .exact .inr (yo _ q)
def Y1(m:Wd):∀(l cur:List Wd) {p:List Wd},p∈xR m cur l->p.length<=cur.length+l.length
 |[],cur,p,h=>by
  simp only[xR,uG]at h;subst h;simp
 |y::t,cur,p,h=>by
  unfold xR at h;split at h
  .rcases yp.1 h with rfl|h
   .simp
   .have:=Y1 m t [] h;simp at this|-;omega
  .have:=Y1 m t _ h;simp at this|-;omega
def jw(m:Wd):∀(l cur:List Wd),(xR m cur l).length<=l.length+1
 |[],cur=>by simp[xR]
 |y::t,cur=>by
  unfold xR;split
  .have:=jw m t [];simp;omega
  .have:=jw m t (cur++[y]);simp;omega
def fx.rows{base:Nat}(h:fx w0 w base v ps)(a:ps≠[]) :
  ∃g cap,v = .slice (some ⟨g,0,none⟩) ps.length cap/\ps.length<=cap/\cap<=maxLen/\base<=g/\∀j (h:j<ps.length),∃u,zy w g j u/\yM w0 u ps[j]:=by
 obtain⟨vs,b,hp⟩:=h;have k:0<ps.length:=xI.2 a;rcases b.2 with⟨hv,f⟩|⟨g,cap,cur,hv,c,i,h1,h2,_,l⟩
 .omega
 .refine⟨g,cap,hv,J,h2,c,λj d=>?_⟩;obtain⟨u,e,hs⟩:=hp j d;refine⟨u,?_,hs⟩;subst hv;rw[b.cellAt j J];exact e
def au(ps:List (List Wd))(h:0<ps.length):ps.headD []=ps[0]:=by
 cases ps with
 |nil=>exact absurd h zj
 |cons a t=>rfl
def aq(l:Wd):CB l = !(l.all (· == 48)):=by
 unfold CB;rw[List.not_all_eq_any_not];rfl
def zl9(wi:Bool)(A:Wd)(br:Bool)(ps:List (List Wd))(W1:z7)(v i:zx)(wr:z7):Prop :=
 ∃(k:Nat) (b:Bool),k<=ps.length/\i = .int .i64 k/\v = .bool b/\yN wi A br ps false=yN wi A br (ps.drop k) b/\zJ W1 wr
def Ql{br:Bool}{A:Wd}{b:Bool}(a:k<ps.length)(h:yN wi A br ps false=yN wi A br (ps.drop k) b)(c:vz ps[k]=none):yN wi A br ps false=none:=by
 rw[h,yH a,yN,c]
def zj3{br:Bool}{A:Wd}{b:Bool}{lo hi:Wd}(a:k<ps.length)(h:yN wi A br ps false=yN wi A br (ps.drop k) b)(c:vz ps[k]=some (lo,hi)) :
  yN wi A br ps false=yN wi A br (ps.drop (k+1)) (b ||lf wi A br lo hi):=by
 rw[h,yH a,yN,c]
def Ha:∀l:List UInt8,gV l l=false
 |[]=>by simp[gV]
 |c::t=>by rw[gV,Ha t];simp
def Zc{lo hi:Wd}(q:Bool)(h:(vW lo=true/\vW hi=true/\¬0<cmpL lo hi) ↔ q=true){p:List Wd}(hp:(p=[lo,[46,46],hi])\/(p=[lo]/\lo=hi)):vz p=if q=true then some (lo,hi)else none:=by
 have a:cmpL lo lo=0:=by unfold cmpL;simp[Ha lo]
 rcases hp with rfl|⟨rfl,rfl⟩
 .cases q<;>simp_all [vz]
 .cases q<;>simp_all [vz]
def PX(v:zx)(ws:List Wd)(a f:ByteArray)(wi:Bool)(w:z7)(h:yM w v ws)(hw:ws.length<=1000000)(hx:∀x∈ws,x.length<=1000000)(ha:a.size<=1000000)(hf:f.size<=1000000) :
  zE prog 113 #[v,.string a,.string f,.bool wi,.bool false] w λe w' =>
   e = .returned (.tuple #[.bool ((yN wi a.data.toList (CB f.data.toList) (yY [44] ws) false).getD false),.bool (yN wi a.data.toList (CB f.data.toList) (yY [44] ws) false).isSome])/\zJ w w':=by
 have l:∀p∈yY [44] ws,(∀x∈p,x.length<=1000000)/\p.length<=1000000:=λp hp=>⟨λx C=>by
  rcases gM _ _ _ hp C with q|q
  .cases q
  .exact hx x q,Ny⟩
 have D:(yY [44] ws).length<=1000001:=R3;have s:yY [44] ws≠[]:=dF _ _ _;have A:=Z (YC ⟨#[44]⟩ v ws w h hw);generalize t:yY [44] ws=ps at *;have c:yY (⟨#[44]⟩:ByteArray).data.toList ws=ps:=t;clear t hx;obtain⟨br,m⟩:=zo (CB f.data.toList);obtain⟨R,hR⟩:=zo (yN wi a.data.toList br ps false);rw[m,hR];obtain⟨z,ZC,B,pY⟩:=hdd m hR c l;clear hR m c l;go_enter func113,ntmps113;go_wp2_with fail;refine A.o.mono ?_;rintro e W1 ⟨⟨G,rfl,r⟩,hB⟩;try rw[B.o]at r
 obtain⟨g,cap,rfl,E,F,H,j⟩:=r.rows s;have gi:=Z j;clear r j;go_wp2_with fail;refine(DO f _ J).mono ?_;rw[show f.data.toList.all (· == 48) = !br by rw[<-z.o,aq,yf2]];rintro e w1 ⟨rfl,rfl⟩;cases br
 .exact pZ
 .exact pV
def Wb(v:zx)(ws:List Wd)(a f:ByteArray)(wi:Bool)(w:z7)(h:yM w v ws)(hw:ws.length<=1000000)(hx:∀x∈ws,x.length<=1000000)(ha:a.size<=1000000)(hf:f.size<=1000000)
  (j:(yY [44] ws).length=1/\((yY [44] ws).headD []).length=1) :
  zE prog 113 #[v,.string a,.string f,.bool wi,.bool true] w λe w' =>
   e = .returned (.tuple #[.bool ((yN wi a.data.toList (CB f.data.toList) (yY [44] ws) false).getD false),.bool (yN wi a.data.toList (CB f.data.toList) (yY [44] ws) false).isSome])/\zJ w w':=by
 have s:∀p∈yY [44] ws,(∀x∈p,x.length<=1000000)/\p.length<=1000000:=λp hp=>⟨λx H=>by
  rcases gM _ _ _ hp H with q|q
  .cases q
  .exact hx x q,Ny⟩
 have L:(yY [44] ws).length<=1000001:=R3;have A:yY [44] ws≠[]:=dF _ _ _;have E:=Z (YC ⟨#[44]⟩ v ws w h hw);generalize B:yY [44] ws=ps at *;have l:yY (⟨#[44]⟩:ByteArray).data.toList ws=ps:=B;clear B hx;obtain⟨br,t⟩:=zo (CB f.data.toList);obtain⟨R,hR⟩:=zo (yN wi a.data.toList br ps false);rw[t,hR];obtain⟨D,ZC,F,pY⟩:=hdd t hR l s;clear hR t l s;go_enter func113,ntmps113;go_wp2_with fail;refine E.o.mono ?_;rintro e W1 ⟨⟨T,rfl,z⟩,hB⟩;try rw[F.o]at z
 obtain⟨g,cap,rfl,P,Q,U,r⟩:=z.rows A;have gi:=Z r;clear z r;have c:ps.length=1/\(ps.headD []).length=1:=j;obtain⟨u0,G,C⟩:=gi.o 0 J;have hp0:(ps[0]' J).length=1:=by
  rw[<-au ps J];exact c.2
 obtain⟨M,N,rfl,-,-,-,-⟩:=C;rw[hp0]at G;have m:ps.length=1:=c.1;have I:=Z j;clear j c hp0;have aH:((ps.length:Int)==1)=true:=zV;have S:((ps.length:Int) !=1)=false:=zV;have O:0<ps.length:=J;have K:=Z m;clear m;go_wp2_with fail;refine(DO f _ J).mono ?_;rw[show f.data.toList.all (· == 48) = !br by rw[<-D.o,aq,yf2]];rintro e w1 ⟨rfl,rfl⟩;cases br
 .exact pZ
 .exact pV
def WZ(v:zx)(ws:List Wd)(a f:ByteArray)(wi:Bool)(w:z7)(h:yM w v ws)(hw:ws.length<=1000000)(b:¬((yY [44] ws).length=1/\((yY [44] ws).headD []).length=1)) :
  zE prog 113 #[v,.string a,.string f,.bool wi,.bool true] w λe w'=>e = .returned (.tuple #[.bool false,.bool false])/\zJ w w':=by
 have y:(yY [44] ws).length<=1000001:=R3;have d:∀p∈yY [44] ws,p.length<=1000000:=λp hp=>Ny
 have m:yY [44] ws≠[]:=dF _ _ _;have s:=Z (YC ⟨#[44]⟩ v ws w h hw);generalize n:yY [44] ws=ps at *;have t:=Z (show yY (⟨#[44]⟩:ByteArray).data.toList ws=ps from n);have l:=Z d;have j:=Z b;clear n d b;go_enter func113,ntmps113;go_wp2_with fail;refine s.o.mono ?_;rintro e L ⟨⟨N,rfl,i⟩,hB⟩;try rw[t.o]at i
 obtain⟨g,cap,rfl,D,E,O,c⟩:=i.rows m;have k:=Z c;clear i c;by_cases h1:ps.length=1
 .obtain⟨u0,K,r⟩:=k.o 0 J;have F:¬ps[0].length=1:=by
   rw[<-au ps J];exactλq=>j.o ⟨h1,q⟩
  have G:=l.o ps[0] (xd J);generalize C:ps[0]=P at *;clear C;obtain⟨z,A,rfl,-,-,-,-⟩:=r;generalize P.length=M at *;have u:((ps.length:Int)==1)=true:=zV;have H:((M:Int)==1)=false:=zV;have x:((ps.length:Int) !=1)=false:=zV;have I:((M:Int) !=1)=true:=zV;have B:0<ps.length:=J;clear h1;go_wp2;go_ret2
  exact⟨rfl,hB⟩
 .have u:((ps.length:Int)==1)=false:=by simp;omega
  have x:((ps.length:Int) !=1)=true:=zV;go_wp2;go_ret2
  exact⟨rfl,hB⟩
def Bp(v:zx)(ws:List Wd)(a f:ByteArray)(wi one:Bool)(w:z7)(h:yM w v ws)(hw:ws.length<=1000000)(hx:∀x∈ws,x.length<=1000000)(ha:a.size<=1000000)(hf:f.size<=1000000) :
  zE prog 113 #[v,.string a,.string f,.bool wi,.bool one] w λe w' =>
   e = .returned (.tuple #[.bool ((uj ws a.data.toList f.data.toList wi one).getD false),.bool (uj ws a.data.toList f.data.toList wi one).isSome])/\zJ w w':=by
 unfold uj;cases one
 .rw[zL zY];exact PX v ws a f wi w h hw hx ha hf
 .by_cases b:(yY [44] ws).length=1/\((yY [44] ws).headD []).length=1
  .rw[zL (λq=>q.2 b)];exact Wb v ws a f wi w h hw hx ha hf b
  .rw[zl ⟨rfl,b⟩];exact WZ v ws a f wi w h hw b
variable{ws:List Wd}{cap n:Nat}
def Fc(r:Option Bool)(w:z7)(e:gG)(w':z7):Prop :=
 (match r with|some h=>e = .returned (.tuple #[.bool h,.bool true])|none=>∃h,e = .returned (.tuple #[.bool h,.bool false]))/\zJ w w'
def PV{wh fr c a f:Wd}(hw:wh.all yn=true)(hf:fr.all yn=true)(j:wh.length<=1000)(b:fr.length<=1000)(h:uX wh fr c=some (a,f)):a.all yn=true/\a.length<=1000000/\f.length<=1000000:=by
 unfold uX at h;have h1:=Ji fr;have h2:=Uj wh;have d:=Uj fr;have e:=Uj (yE fr);have g:=ZS fr.length;have i:=ZS (yE fr).length;repeat' (split at h)
 all_goals (cases h)
 all_goals (first|exact⟨hw,J,J⟩|exact⟨hw,J,by simp⟩|exact⟨Uk hw,J,by simp⟩|exact⟨Uk hf,J,by simp⟩|exact⟨Uk (EL hf),J,by simp⟩|exact⟨K0 _,by omega,by simp⟩)
def Hc(a b:Wd):(zH a b).2.2.2<=2:=by
 unfold zH;repeat' split
 all_goals simp
def Br(v:zx)(ws:List Wd)(b:Bool)(wh fr:ByteArray)(w:z7)(h:yM w v ws)(hs:ws.length<3) :
  zE prog 77 #[v,.agg #[.bool b,.string wh,.string fr]] w λe w'=>e = .returned (.tuple #[.bool false,.bool false])/\zJ w w':=by
 obtain⟨a,cap,rfl,d,hm,g,hc⟩:=h;clear hc;obtain⟨N,c⟩:=zo ws.length;rw[c]at d hs|-;clear c;have f:decide ((N:Int)<3)=true:=zV;go_enter func77,ntmps77;go_wp2;go_ret2
 exact⟨rfl,(z8 _ _).alloc (X _) _⟩
def Cs(y:yi)(N cap:Nat)(b:Bool)(wh fr:ByteArray)(x0 x1 x2:Wd)(w:z7)(z:3<=N)(r:N<=1000000)(q:N<=cap)(hm:cap<=maxLen)
  (c0:w.cell? y=some (zv x0)) (s:fr.size<=1000) (k:uX wh.data.toList fr.data.toList x0=none) :
  zE prog 77 #[.slice (some y) N cap,.agg #[.bool b,.string wh,.string fr]] w λe w'=>e = .returned (.tuple #[.bool false,.bool false])/\zJ w w':=by
 have t:decide ((N:Int)<3)=false:=zV;have l:=Z k;have m:=Y w y c0;clear k;go_enter func77,ntmps77;go_wp2_with fail;refine fP ?_;intro W hW;have d:zJ w W:=UM;have c:zy W (w:Nat) 0 (.bool b):=gT;have He:zy W (w:Nat) 1 (.string wh):=gT;have Hl:zy W (w:Nat) 2 (.string fr):=gT;have f:=(d.cell m).trans c0;clear hW c0;obtain⟨B,hB⟩:∃B,B=(w:Nat):=⟨_,rfl⟩;rw[<-hB]at c He Hl|-;have x:=Z hB;clear hB;have p0:(0:Int)<(N:Int):=J;have v:0<N:=J;have n:zy W.drew B 0 (.bool b)/\zy W.drew B 1 (.string wh)/\zy W.drew B 2 (.string fr)/\W.drew.cell? y=some (zv x0):=⟨c,He,Hl,f⟩;refine bW (λW':z7=>zy W' B 0 (.bool b)/\zy W' B 1 (.string wh)/\zy W' B 2 (.string fr)/\W'.cell? y=some (zv x0)) [0,1,2,3] 8 n ?_;refine bF 4 (λK hK=>?_);go_simp;refine(Zi b wh fr ⟨x0.toArray⟩ _ J).mono ?_;rintro e w1 ⟨he,i⟩;have a:∀{p:yi} {u:zx},W.cell? p=some u->w1.cell? p=some u:=λ{p u} h=>(i.cell (Y W p h)).trans h
 have g:zy w1 B 0 (.bool b)/\zy w1 B 1 (.string wh)/\zy w1 B 2 (.string fr)/\w1.cell? y=some (zv x0):=⟨a c,a He,a Hl,a f⟩;have j:zJ w w1:=d.drew.trans (i.mono d.size);rw[show uX wh.data.toList fr.data.toList (⟨x0.toArray⟩:ByteArray).data.toList=none from l.o]at he;obtain rfl:=he;go_simp;refine hK.out _ _ g λ_=>?_;clear hK K;refine Xo [5,6,7,8,9,10,11] 0 g ?_;refine fR ?_ _;go_wp2;go_ret2
 exact⟨rfl,j⟩
def yM.rest{y:yi}(h:yM w (.slice (some y) n cap) ws)(g:k<=n):yM w (.slice (some (y.add k)) (n - k) (cap - k)) (ws.drop k):=by
 obtain⟨a,c,hv,i,hm,l,hc⟩:=h;simp only[F4]at hv;obtain⟨rfl,rfl,rfl⟩:=hv;have h2:=yM.piece (w:=w) (a:=y) (cap:=cap) (ws:=ws) rfl i hm (λj f=>by
  obtain⟨b,d,e⟩:=hc j f;cases d;exact e) k ws.length g (X _)
 rwa [kp]at h2
def yM.aC{a:Option yi}:yM w (.slice a 0 0) []:=⟨a,0,rfl,X _,zG _,λ_=>rfl,λj h=>absurd h (uf j)⟩
def Bs(y:yi)(N cap:Nat)(b:Bool)(wh fr:ByteArray)(x0 x1 A F:Wd)(ws:List Wd)(w:z7)(hN:3<=N)(hN2:N<=1000000)(xiu:N<=cap)(hm:cap<=maxLen)
  (c0:w.cell? y=some (zv x0)) (hfl:fr.size<=1000) (c1:zy w y.block (y.off+1) (zv x1)) (P:yM w (.slice (some y) N cap) ws) (hx:∀x∈ws,x.length<=1000000) (hA:A.length<=1000000) (hF:F.length<=1000000) (O:uX wh.data.toList fr.data.toList x0=some (A,F)) (L:¬x1=[109,111,100]) (M:¬x1=[37]) :
  zE prog 77 #[.slice (some y) N cap,.agg #[.bool b,.string wh,.string fr]] w λe w'=>Fc (xm (ws.drop 1) A F) w e w':=by
 have ud:decide ((N:Int)<3)=false:=zV;have Q:=Lib.hid O;have bd:=Lib.hid P;have HX:=Lib.hid hx;clear hx;have q1:(x1==[109,111,100])=false:=by simpa using L
 have q2:(x1==[37])=false:=by simpa using M
 clear P L M;have S:=Y w y c0;clear O;go_enter func77,ntmps77;go_wp2_with fail;refine fP ?_;intro W hW;have m:zJ w W:=UM;have t:zy W (w:Nat) 0 (.bool b):=gT;have He:zy W (w:Nat) 1 (.string wh):=gT;have Hl:zy W (w:Nat) 2 (.string fr):=gT;have E:=(m.cell S).trans c0;have R:=(m.cell (Y w _ c1)).trans c1;clear hW c0 c1;obtain⟨B,hB⟩:∃B,B=(w:Nat):=⟨_,rfl⟩;rw[<-hB]at t He Hl|-;have HB:=Z hB;clear hB;have p0:(0:Int)<(N:Int):=J;have p0n:0<N:=J;have T:zy W.drew B 0 (.bool b)/\zy W.drew B 1 (.string wh)/\zy W.drew B 2 (.string fr)/\W.drew.cell? y=some (zv x0):=⟨t,He,Hl,E⟩;refine bW (λW':z7=>zy W' B 0 (.bool b)/\zy W' B 1 (.string wh)/\zy W' B 2 (.string fr)/\W'.cell? y=some (zv x0)) [0,1,2,3] 8 T ?_;refine bF 4 (λK hK=>?_);go_simp;refine(Zi b wh fr ⟨x0.toArray⟩ _ J).mono ?_;rintro e w1 ⟨he,H⟩;have d:∀{p:yi} {u:zx},W.cell? p=some u->w1.cell? p=some u:=λ{p u} h=>(H.cell (Y W p h)).trans h
 have G:zy w1 B 0 (.bool b)/\zy w1 B 1 (.string wh)/\zy w1 B 2 (.string fr)/\w1.cell? y=some (zv x0):=⟨d t,d He,d Hl,d E⟩;have zg0:zJ w w1:=m.drew.trans (H.mono m.size);rw[show uX wh.data.toList fr.data.toList (⟨x0.toArray⟩:ByteArray).data.toList=some (A,F)from Q.o]at he;obtain rfl:=he;have xiq:=d R;go_simp;refine hK.out _ _ G λ_=>?_;clear hK K;refine Xo [5,6,7,8,9,10,11] 0 G ?_;refine fR ?_ _;have n1:1<=N:=J
 have n1i:(1:Int)<=(N:Int):=J;have k1:¬cap=1:=J;have k1i:¬(cap:Int)=1:=J;have k2:1<N:=J;go_wp2_with fail;have g:ws.length=N:=rV;have k:yM w1 (.slice (y.block,y.off+1) (N - 1) (cap - 1)) (ws.drop 1):=by
  have h2:=(bd.o.rest n1).below zg0;simpa[xM]using h2
 have D:=Z k;have uw:(ws.drop 1).length=N - 1:=by rw[xz,g]
 obtain⟨V,wi,one,n,i⟩:∃V wi one n,zH ((ws.drop 1).getD 0 []) ((ws.drop 1).getD 1 [])=(V,wi,one,n):=⟨_,_,_,_,rfl⟩;have s:=Z i;have hn2:n<=2:=by have:=Hc ((ws.drop 1).getD 0 []) ((ws.drop 1).getD 1 []);rw[i]at this;exact this
 have f:=Da _ _ _ k J (λq=>by rw[q]at uw;simp at uw;omega);rw[i]at f;refine f.mono ?_;clear f k i;rintro e w2 ⟨rfl,rfl⟩;by_cases j:n=0
 .have hz:((n:Int)==0)=true:=by simp;omega
  have HR:=Z (show xm (ws.drop 1) A F=none by unfold xm;rw[s.o];simp[j]);clear j g uw;go_wp2;go_ret2
  exact⟨by rw[HR.o];exact⟨false,rfl⟩,zg0⟩
 .have hz:((n:Int)==0)=false:=by simp;omega
  have U:n<=N - 1:=J;have Sj:=Z g;have mf:=Z uw;clear g uw;obtain⟨r,hr⟩:=zo (uj ((ws.drop 1).drop n) A F wi one);have C:=Z hr;have HR:=Z (show xm (ws.drop 1) A F=r.map (λb=>b !=V)by unfold xm;rw[s.o];dsimp only;rw[zL j,hr]);have z:=Z (λv w h=>Bp v ((ws.drop 1).drop n) ⟨A.toArray⟩ ⟨F.toArray⟩ wi one w h (by rw[xz,mf.o];omega) (λx hx=>HX.o x (ZD (ZD hx))) hA hF);clear hr;by_cases I:cap - 1=n
  .have hN3:n=N - 1:=(by omega);have l:yM w1 (.slice (y.block,y.off+1) 0 0) ((ws.drop 1).drop n):=oN;obtain rfl:n=2:=J;obtain rfl:N=3:=J;obtain rfl:cap=3:=J;clear j I;go_wp2_with fail;refine(z.o _ _ l).mono ?_;rw[show uj ((ws.drop 1).drop 2) (⟨A.toArray⟩:ByteArray).data.toList (⟨F.toArray⟩:ByteArray).data.toList wi one=r from C.o];exact rU
  .have l:yM w1 (.slice (y.block,y.off+1+n) (N - 1 - n) (cap - 1 - n)) ((ws.drop 1).drop n):=by
    have h2:=D.o.rest U;have e:(⟨y.block,y.off+1,none⟩:yi).add n=⟨y.block,y.off+1+n,none⟩:=(by simp[xM,j]);rwa [e]at h2
   have xik:¬n=cap - 1:=λq=>I q.symm
   have xij:(n:Int)<=((N - 1:Nat):Int):=J;have h0i:(0:Int)<=(n:Int):=J;have htn:((n:Int)).toNat=n:=J;go_wp2_with fail;refine(z.o _ _ l).mono ?_;rw[show uj ((ws.drop 1).drop n) (⟨A.toArray⟩:ByteArray).data.toList (⟨F.toArray⟩:ByteArray).data.toList wi one=r from C.o];exact rU
def FQ(y:yi)(N cap:Nat)(b:Bool)(wh fr:ByteArray)(x0 x1 A F:Wd)(ws:List Wd)(w:z7)(hN:3<=N)(T:N<=1000000)(Q:N<=cap)(hm:cap<=maxLen)
  (c0:w.cell? y=some (zv x0)) (U:fr.size<=1000) (c1:zy w y.block (y.off+1) (zv x1)) (s:yM w (.slice (some y) N cap) ws)  (r:uX wh.data.toList fr.data.toList x0=some (A,F)) (n:Y5 x1=true) (x2:Wd) (c2:zy w y.block (y.off+2) (zv x2)) (t:x2.length<=1000000) (f:¬(vW x2=true/\x2≠[48]/\5<=N)) :
  zE prog 77 #[.slice (some y) N cap,.agg #[.bool b,.string wh,.string fr]] w λe w'=>e = .returned (.tuple #[.bool false,.bool false])/\zJ w w':=by
 have V:decide ((N:Int)<3)=false:=zV;obtain⟨z,R,x,j⟩:=hdd r s n f;have M:(⟨x2.toArray⟩:ByteArray).size<=1000000:=t;clear s n f t;have E:=Y w y c0;clear r;go_enter func77,ntmps77;go_wp2_with fail;refine fP ?_;intro W hW;have d:zJ w W:=UM;have g:zy W (w:Nat) 0 (.bool b):=gT;have He:zy W (w:Nat) 1 (.string wh):=gT;have Hl:zy W (w:Nat) 2 (.string fr):=gT;have k:=(d.cell E).trans c0;have C:=(d.cell (Y w _ c1)).trans c1;have D:=(d.cell (Y w _ c2)).trans c2;clear hW c0 c1 c2;obtain⟨B,hB⟩:∃B,B=(w:Nat):=⟨_,rfl⟩;rw[<-hB]at g He Hl|-;have HB:=Z hB;clear hB;have p0:(0:Int)<(N:Int):=J;have p0n:0<N:=J;have G:zy W.drew B 0 (.bool b)/\zy W.drew B 1 (.string wh)/\zy W.drew B 2 (.string fr)/\W.drew.cell? y=some (zv x0):=⟨g,He,Hl,k⟩;refine bW (λW':z7=>zy W' B 0 (.bool b)/\zy W' B 1 (.string wh)/\zy W' B 2 (.string fr)/\W'.cell? y=some (zv x0)) [0,1,2,3] 8 G ?_;refine bF 4 (λK hK=>?_);go_simp;refine(Zi b wh fr ⟨x0.toArray⟩ _ J).mono ?_;rintro e w1 ⟨he,m⟩;have a:∀{p:yi} {u:zx},W.cell? p=some u->w1.cell? p=some u:=λ{p u} h=>(m.cell (Y W p h)).trans h
 have l:zy w1 B 0 (.bool b)/\zy w1 B 1 (.string wh)/\zy w1 B 2 (.string fr)/\w1.cell? y=some (zv x0):=⟨a g,a He,a Hl,a k⟩;have c:zJ w w1:=d.drew.trans (m.mono d.size);rw[show uX wh.data.toList fr.data.toList (⟨x0.toArray⟩:ByteArray).data.toList=some (A,F)from z.o]at he;obtain rfl:=he;have O:=a C;have P:=a D;go_simp;refine hK.out _ _ l λ_=>?_;clear hK K;refine Xo [5,6,7,8,9,10,11] 0 l ?_;refine fR ?_ _;have n1:1<=N:=J
 have n1i:(1:Int)<=(N:Int):=J;have k1:¬cap=1:=J;have k1i:¬(cap:Int)=1:=J;have k2:1<N:=J;have k3:1<N - 1:=J;have k3i:(1:Int)<((N - 1:Nat):Int):=J;have H:x1=[109,111,100]\/x1=[37]:=by
  have:=x.o;unfold Y5 at this;simpa using this
 rcases H with rfl|rfl <;>
 .go_wp2_with fail;refine(vH ⟨x2.toArray⟩ _ M).mono ?_;cases hF:vW x2
  .rintro e w2 ⟨rfl,hd⟩;have i:zJ w1 w2:=(by obtain⟨L,rfl⟩:=hd;exact below_drewN (z8 _ _) L);have bj:=c.trans (i.mono c.size);clear hd hF;exact RQ
  .rintro e w2 ⟨rfl,hd⟩;have i:zJ w1 w2:=(by obtain⟨L,rfl⟩:=hd;exact below_drewN (z8 _ _) L);have bj:=c.trans (i.mono c.size);by_cases v:x2=[48]
   .have I:(x2==[48])=true:=(by simpa using v);clear hd hF v;exact RQ
   .have I:(x2==[48])=false:=(by simpa using v);have h4:N - 1<4:=by
     rcases Nat.lt_or_ge (N - 1) 4 with q|q
     .exact q
     .exact absurd ⟨hF,v,J⟩ j.o
    have S:decide (((N - 1:Nat):Int)<4)=true:=zV;clear hd hF v;exact RQ
def zvq{x:Wd}(h:vW x=true)(hv:xG x=0):x=[48]:=by
 have h2:=(CC.of h).1.val;rw[hv]at h2;rw[<-h2,qx zj];rfl
def MG(y:yi)(N cap:Nat)(b:Bool)(wh fr:ByteArray)(x0 x1 A F:Wd)(ws:List Wd)(w:z7)(hN:3<=N)(hN2:N<=1000000)(xiu:N<=cap)(hm:cap<=maxLen)
  (c0:w.cell? y=some (zv x0)) (hfl:fr.size<=1000) (c1:zy w y.block (y.off+1) (zv x1)) (Zz:yM w (.slice (some y) N cap) ws)  (hop:uX wh.data.toList fr.data.toList x0=some (A,F)) (hmw:Y5 x1=true) (x2:Wd) (c2:zy w y.block (y.off+2) (zv x2)) (gN:x2.length<=1000000) (G:vW x2=true) (L:x2≠[48]) (h5:5<=N) (hdA:A.all yn=true) (hx:∀x∈ws,x.length<=1000000) (hA:A.length<=1000000) (hF:F.length<=1000000) :
  zE prog 77 #[.slice (some y) N cap,.agg #[.bool b,.string wh,.string fr]] w λe w'=>Fc (xm (ws.drop 3) (xv (j9 A (xG x2))) F) w e w':=by
 have ud:decide ((N:Int)<3)=false:=zV;obtain⟨HOP,bd,HMW,l,HX,HDA⟩:=l6 hop Zz hmw G hx hdA;have hz':(x2==[48])=false:=by simpa using L
 have HNZ:=Z L;have sx2:(⟨x2.toArray⟩:ByteArray).size<=1000000:=gN;clear Zz hmw gN G L hx hdA;have hBy:=Y w y c0;clear hop;go_enter func77,ntmps77;go_wp2_with fail;refine fP ?_;intro W hW;have m:zJ w W:=UM;have H:zy W (w:Nat) 0 (.bool b):=gT;have He:zy W (w:Nat) 1 (.string wh):=gT;have Hl:zy W (w:Nat) 2 (.string fr):=gT;have S:=(m.cell hBy).trans c0;have c1':=(m.cell (Y w _ c1)).trans c1;have c2':=(m.cell (Y w _ c2)).trans c2;clear hW c0 c1 c2;obtain⟨B,hB⟩:∃B,B=(w:Nat):=⟨_,rfl⟩;rw[<-hB]at H He Hl|-;have HB:=Z hB;clear hB;have p0:(0:Int)<(N:Int):=J;have p0n:0<N:=J;have jq:zy W.drew B 0 (.bool b)/\zy W.drew B 1 (.string wh)/\zy W.drew B 2 (.string fr)/\W.drew.cell? y=some (zv x0):=⟨H,He,Hl,S⟩;refine bW (λW':z7=>zy W' B 0 (.bool b)/\zy W' B 1 (.string wh)/\zy W' B 2 (.string fr)/\W'.cell? y=some (zv x0)) [0,1,2,3] 8 jq ?_;refine bF 4 (λK hK=>?_);go_simp;refine(Zi b wh fr ⟨x0.toArray⟩ _ J).mono ?_;rintro e w1 ⟨he,U⟩;have d:∀{p:yi} {u:zx},W.cell? p=some u->w1.cell? p=some u:=λ{p u} h=>(U.cell (Y W p h)).trans h
 have T:zy w1 B 0 (.bool b)/\zy w1 B 1 (.string wh)/\zy w1 B 2 (.string fr)/\w1.cell? y=some (zv x0):=⟨d H,d He,d Hl,d S⟩;have E:zJ w w1:=m.drew.trans (U.mono m.size);rw[show uX wh.data.toList fr.data.toList (⟨x0.toArray⟩:ByteArray).data.toList=some (A,F)from HOP.o]at he;obtain rfl:=he;have xiq:=d c1';have vcq:=d c2';go_simp;refine hK.out _ _ T λ_=>?_;clear hK K;refine Xo [5,6,7,8,9,10,11] 0 T ?_;refine fR ?_ _;have n1:1<=N:=J
 have n1i:(1:Int)<=(N:Int):=J;have k1:¬cap=1:=J;have k1i:¬(cap:Int)=1:=J;have k2:1<N:=J;have k3:1<N - 1:=J;have k3i:(1:Int)<((N - 1:Nat):Int):=J;have lY:x1=[109,111,100]\/x1=[37]:=by
  have:=HMW.o;unfold Y5 at this;simpa using this
 rcases lY with rfl|rfl <;>
 .go_wp2_with fail;refine(vH ⟨x2.toArray⟩ _ sx2).mono ?_;rw[show vW (⟨x2.toArray⟩:ByteArray).data.toList=true from l.o];rintro e w2 ⟨rfl,hd⟩;have qX:zJ w1 w2:=by obtain⟨nn,rfl⟩:=hd;exact below_drewN (z8 _ _) nn
  have bj:=E.trans (qX.mono E.size);have s:=l.o;unfold vW qU at s;simp only[zQ,qP]at s;have Yt:x2.all yn=true:=s.1.1;have hl9:x2.length<=9:=s.2.1;have vck:=Uz x2 Yt;have xig:10 ^ x2.length<=10 ^ 9:=zux zj hl9;have hv0:0<xG x2:=by
   rcases Nat.eq_zero_or_pos (xG x2)with q|q
   .exact absurd (zvq l.o q) HNZ.o
   .exact q
  have hvb:xG x2<=1000000000:=J;have hlL:=DT A (xG x2) hv0;obtain⟨M,I⟩:=zo (xv (j9 A (xG x2)));have j:=Z I;have O:=Z (show M.length<=1000000 by rw[<-I];exact zZ (jF 9 _ J) zj);have h4':decide (((N - 1:Nat):Int)<4)=false:=zV;have m2:2<=N - 1:=J;have m2i:(2:Int)<=((N - 1:Nat):Int):=J;have m3:¬cap - 1=2:=J;clear hd s I xig;go_wp2_with fail;refine(ar ⟨x2.toArray⟩ _ hl9 Yt).mono ?_;rintro e w3 ⟨rfl,rfl⟩;go_wp2_with fail;refine(tx ⟨A.toArray⟩ (xG x2) _ hA HDA.o hv0 hvb).mono ?_;rintro e w3 ⟨rfl,rfl⟩;go_wp2_with fail;refine(VK (j9 A (xG x2)) _ J).mono ?_;rw[j.o];rintro e w3 ⟨rfl,rfl⟩;go_wp2_with fail;have g:ws.length=N:=rV;have z:yM w2 (.slice (y.block,y.off+1+2) (N - 1 - 2) (cap - 1 - 2)) (ws.drop 3):=by
   have h2:=(bd.o.rest (k:=3) J).below bj;simpa[xM,Nat.sub_sub,jo]using h2
  have R:=Z z;have uw:(ws.drop 3).length=N - 1 - 2:=by rw[xz,g];omega
  obtain⟨nt,wi,one,n,i⟩:∃nt wi one n,zH ((ws.drop 3).getD 0 []) ((ws.drop 3).getD 1 [])=(nt,wi,one,n):=⟨_,_,_,_,rfl⟩;have D:=Z i;have hn2:n<=2:=by have:=Hc ((ws.drop 3).getD 0 []) ((ws.drop 3).getD 1 []);rw[i]at this;exact this
  have f:=Da _ _ _ z J (λq=>by rw[q]at uw;simp at uw;omega);rw[i]at f;refine f.mono ?_;clear f z i;rintro e w4 ⟨rfl,rfl⟩;by_cases t:n=0
  .have hz:((n:Int)==0)=true:=(by simp;omega);have HR:=Z (show xm (ws.drop 3) (xv (j9 A (xG x2))) F=none by rw[j.o];unfold xm;rw[D.o];simp[t]);clear t g uw;go_wp2;go_ret2
   exact⟨by rw[HR.o];exact⟨false,rfl⟩,bj⟩
  .have hz:((n:Int)==0)=false:=(by simp;omega);have hle:n<=N - 1 - 2:=J;have Sj:=Z g;have mf:=Z uw;clear g uw;obtain⟨r,hr⟩:=zo (uj ((ws.drop 3).drop n) M F wi one);have Q:=Z hr;have HR:=Z (show xm (ws.drop 3) (xv (j9 A (xG x2))) F=r.map (λb=>b !=nt)by rw[j.o];unfold xm;rw[D.o];dsimp only;rw[zL t,hr]);have P:=Z (λv w h=>Bp v ((ws.drop 3).drop n) ⟨M.toArray⟩ ⟨F.toArray⟩ wi one w h (by rw[xz,mf.o];omega) (λx hx=>HX.o x (ZD (ZD hx))) O.o hF);clear hr;by_cases V:cap - 1 - 2=n
   .have hN3:n=N - 1 - 2:=(by omega);have C:yM w2 (.slice (y.block,y.off+1+2) 0 0) ((ws.drop 3).drop n):=oN;obtain rfl:n=2:=J;obtain rfl:N=5:=J;obtain rfl:cap=5:=J;clear t V;go_wp2_with fail;refine(P.o _ _ C).mono ?_;rw[show uj ((ws.drop 3).drop 2) (⟨M.toArray⟩:ByteArray).data.toList (⟨F.toArray⟩:ByteArray).data.toList wi one=r from Q.o];exact rQ
   .have C:yM w2 (.slice (y.block,y.off+1+2+n) (N - 1 - 2 - n) (cap - 1 - 2 - n)) ((ws.drop 3).drop n):=by
     have h2:=R.o.rest hle;have e:(⟨y.block,y.off+1+2,none⟩:yi).add n=⟨y.block,y.off+1+2+n,none⟩:=(by simp[xM,t]);rwa [e]at h2
    have xik:¬n=cap - 1 - 2:=λq=>V q.symm
    have xij:(n:Int)<=((N - 1 - 2:Nat):Int):=J;have h0i:(0:Int)<=(n:Int):=J;have htn:((n:Int)).toNat=n:=J;go_wp2_with fail;refine(P.o _ _ C).mono ?_;rw[show uj ((ws.drop 3).drop n) (⟨M.toArray⟩:ByteArray).data.toList (⟨F.toArray⟩:ByteArray).data.toList wi one=r from Q.o];exact rQ
variable{w':z7}
def MF{r:Option Bool}{e:gG}(hr:r=none)(h:e = .returned (.tuple #[.bool false,.bool false])/\zJ w w'):Fc r w e w':=by
 subst hr;exact⟨⟨false,h.1⟩,h.2⟩
def Ct(v:zx)(ws:List Wd)(b:Bool)(wh fr:ByteArray)(w:z7)(h:yM w v ws)(hw:ws.length<=1000000)(hx:∀x∈ws,x.length<=1000000)
  (r:wh.data.toList.all yn=true) (l:fr.data.toList.all yn=true) (s:wh.size<=1000) (d:fr.size<=1000) :
  zE prog 77 #[v,.agg #[.bool b,.string wh,.string fr]] w (Fc (bN ws (wh.data.toList,fr.data.toList)) w):=by
 by_cases j:ws.length<3
 .exact(Br v ws b wh fr w h j).mono λe w' q=>MF (by unfold bN;rw[zl j]) q
 obtain⟨x0,x1,x2,t,c⟩:∃x0 x1 x2 t,ws=x0::x1::x2::t:=by
  rcases ws with _|⟨x0,_|⟨x1,_|⟨x2,t⟩⟩⟩
  .simp at j
  .simp at j
  .simp at j
  .exact⟨x0,x1,x2,t,rfl⟩
 have i:=h;obtain⟨a,cap,rfl,p,hm,G,hc⟩:=h;have o:3<=ws.length:=J;obtain⟨y,rfl,c0⟩:=hc 0 J;obtain⟨y1,e1,c1⟩:=hc 1 J;obtain⟨y2,e2,c2⟩:=hc 2 J;obtain rfl:=zR e1;obtain rfl:=zR e2;have d0:w.cell? y=some (zv x0):=by simpa[xM,c]using c0
 have d1:zy w y.block (y.off+1) (zv x1):=by simpa[xM,c]using c1
 have d2:zy w y.block (y.off+2) (zv x2):=by simpa[xM,c]using c2
 have n:x2.length<=1000000:=hx x2 (by rw[c];simp);have E:ws.headD []=x0:=by rw[c];rfl
 have r1:ws.getD 1 []=x1:=by rw[c];rfl
 have r2:ws.getD 2 []=x2:=by rw[c];rfl
 have u:=l;have hrel:bN ws (wh.data.toList,fr.data.toList)=(match uX wh.data.toList fr.data.toList x0 with
  |none=>none
  |some (A,F)=>if Y5 x1 then if vW x2=true/\x2≠[48]/\5<=ws.length then xm (ws.drop 3) (xv (j9 A (xG x2))) F else none else xm (ws.drop 1) A F):=by
  unfold bN;rw[zL j,E,r1,r2];rfl
 rw[hrel];cases f:uX wh.data.toList fr.data.toList x0 with
 |none=>exact(Cs y ws.length cap b wh fr x0 x1 x2 w o hw p hm d0 d f).mono λe w' q=>MF rfl q
 |some C =>
  obtain⟨A,F⟩:=C;obtain⟨D,z,B⟩:=PV r l (by rw[yz];exact s) (by rw[yz];exact d) f;dsimp only;cases g:Y5 x1
  .rw[zL zY];have m:¬x1=[109,111,100]/\¬x1=[37]:=by
    unfold Y5 at g;simpa using g
   exact Bs y ws.length cap b wh fr x0 x1 A F ws w o hw p hm d0 d d1 i hx z B f m.1 m.2
  .rw[zl rfl];by_cases k:vW x2=true/\x2≠[48]/\5<=ws.length
   .rw[zl k];exact MG y ws.length cap b wh fr x0 x1 A F ws w o hw p hm d0 d d1 i f g x2 d2 n k.1 k.2.1 k.2.2 D hx z B
   .rw[zL k];exact(FQ y ws.length cap b wh fr x0 x1 A F ws w o hw p hm d0 d d1 i f g x2 d2 n k).mono λe w' q=>MF rfl q
def Hm(r:Option Bool)(w:z7)(e:gG)(w':z7):Prop :=
 e = .returned (.tuple #[.bool (r.getD false),.bool r.isSome])/\zJ w w'
def yqv(x:Dg)(ors:List (List Wd))(W2:z7)(v i:zx)(wr:z7):Prop :=
 ∃(k:Nat) (b:Bool),k<=ors.length/\i = .int .i64 k/\v = .bool b/\gI x ors false=gI x (ors.drop k) b/\zJ W2 wr
def zcu(x:Dg)(yqu:List (List Wd))(W3:z7)(v i:zx)(wr:z7):Prop :=
 ∃(k:Nat) (b:Bool),k<=yqu.length/\i = .int .i64 k/\v = .bool b/\kU x yqu true=kU x (yqu.drop k) b/\zJ W3 wr
def iI{x:Dg}{b:Bool}(a:k<ps.length)(h:kU x ps true=kU x (ps.drop k) b)(c:bN ps[k] x=none):kU x ps true=none:=by
 rw[h,yH a,kU,c]
def iL{x:Dg}{b r:Bool}(a:k<ps.length)(h:kU x ps true=kU x (ps.drop k) b)(c:bN ps[k] x=some r):kU x ps true=kU x (ps.drop (k+1)) (b && r):=by
 rw[h,yH a,kU,c]
def zvk{x:Dg}{b:Bool}(a:k<ps.length)(h:gI x ps false=gI x (ps.drop k) b)(c:kU x (yY [97,110,100] ps[k]) true=none):gI x ps false=none:=by
 rw[h,yH a,gI,c]
def zvj{x:Dg}{b r:Bool}(a:k<ps.length)(h:gI x ps false=gI x (ps.drop k) b)(c:kU x (yY [97,110,100] ps[k]) true=some r):gI x ps false=gI x (ps.drop (k+1)) (b ||r):=by
 rw[h,yH a,gI,c]
def Hn(s:ByteArray)(b:Bool)(wh fr:ByteArray)(w:z7)(hs:s.size<=1000000)(a:Y6 s.data.toList=none\/200<s.size) :
  zE prog 46 #[.string s,.agg #[.bool b,.string wh,.string fr]] w λe w'=>e = .returned (.tuple #[.bool false,.bool false])/\zJ w w':=by
 have h:=Z (λw=>EF s w hs);go_enter func46,ntmps46;go_wp2_with fail;refine yh ?_;intro W hW;have d:zJ w W:=UM;clear hW;refine(h.o W).mono ?_;rintro e w1 ⟨hr,g⟩;have f:=d.trans (g.mono d.size);cases c:Y6 s.data.toList with
 |none =>
  rw[c]at hr;subst hr;clear c a;go_wp2;go_ret2
  exact⟨rfl,f⟩
 |some ws =>
  rw[c]at hr;obtain⟨v,rfl,-⟩:=hr;have h2:200<s.size:=by
   rcases a with q|q
   .rw[c]at q;cases q
   .exact q
  have i:decide (200<(s.size:Int))=true:=zV;clear c a;go_wp2;go_ret2
  exact⟨rfl,f⟩
def WY(s:ByteArray)(b:Bool)(wh fr:ByteArray)(ws:List Wd)(w:z7)(hs:s.size<=200)(Ma:Y6 s.data.toList=some ws)
  (hwd:wh.data.toList.all yn=true) (hfd:fr.data.toList.all yn=true) (hwl:wh.size<=1000) (hfl:fr.size<=1000) :
  zE prog 46 #[.string s,.agg #[.bool b,.string wh,.string fr]] w (Hm (gI (wh.data.toList,fr.data.toList) (yY [111,114] ws) false) w):=by
 have M:=Af (l:=s.data.toList) (ws:=ws) (by rw[Aq];exact Ma) (by rw[yz];exact hs);have hxl:∀x∈ws,x.length<=1000:=λx hx=>(M.1 x hx).len
 have hwn:ws.length<=200:=M.2;have L:∀p∈yY [111,114] ws,(∀x∈p,x.length<=1000)/\p.length<=200:=λp hp=>⟨λx hx'=>by
  rcases gM _ _ _ hp hx' with q|q
  .cases q
  .exact hxl x q,Ny⟩
 have N5:(yY [111,114] ws).length<=201:=by have:=jw [111,114] ws [];unfold yY;omega
 have T:yY [111,114] ws≠[]:=dF _ _ _;have HW:=Z (λw=>EF s w J);have HWS:=Z Ma;clear M Ma;have HPA:=Z (λv w h=>YC ⟨#[111,114]⟩ v ws w h J);obtain⟨a,E⟩:=zo (yY [111,114] ws);have HPE:=Z (show yY (⟨#[111,114]⟩:ByteArray).data.toList ws=a from E);rw[E]at L N5 T|-;have pY:=Z L;obtain⟨x,hxx⟩:∃x:Dg,x=(wh.data.toList,fr.data.toList):=⟨_,rfl⟩;rw[<-hxx];obtain⟨R,hR⟩:=zo (gI x a false);rw[hR];have HR:=Z hR;have HXX:=Z hxx;clear E L hR hxx hxl;go_enter func46,ntmps46;go_wp2_with fail;refine yh ?_;intro W hW;have UP:zJ w W:=UM;have N:zy W (w:Nat) 0 (.bool b):=gT;have He:zy W (w:Nat) 1 (.string wh):=gT;have Hl:zy W (w:Nat) 2 (.string fr):=gT;clear hW;obtain⟨B,hB⟩:∃B,B=(w:Nat):=⟨_,rfl⟩;rw[<-hB]at N He Hl|-;have HB:=Z hB;clear hB;refine(HW.o W).mono ?_;rintro e w1 ⟨hr,qV⟩;rw[HWS.o]at hr;obtain⟨v,rfl,F⟩:=hr;have bd:=Z (yM.bY F);obtain⟨va,vc,rfl⟩:=zD F;have hgt:decide (200<(s.size:Int))=false:=zV;have S:=UP.trans (qV.mono UP.size);clear F;go_wp2_with fail;refine(HPA.o _ _ bd.o).mono ?_;rintro e W2 ⟨⟨av,rfl,lJ⟩,P⟩;rw[HPE.o]at lJ;obtain⟨g,cap,rfl,CD,hcm,hg,U⟩:=lJ.rows T;have gi:=Z U;have r:=S.trans (P.mono S.size);have hbx:=qV.trans (P.mono qV.size);have f0:=(hbx.cell (Y _ _ N)).trans N;have f1:=(hbx.cell (Y _ _ He)).trans He;have f2:=(hbx.cell (Y _ _ Hl)).trans Hl;clear lJ U N He Hl;go_wp2;go_loopw [8,10] (λv i wr=>yqv x a W2 v i wr) (λ_ i _=>a.length - (intOf i).toNat)
 case atStart=>exact⟨0,false,zG _,rfl,zY,rfl,z8 _ _⟩
 case round =>
  obtain⟨k,b1,hk,rfl,rfl,z,hb⟩:=hrel;have HG:=Z z;clear z;by_cases Q:k<a.length
  .obtain⟨u,hu,Zz⟩:=gi.o k Q;have hu2:zy wr g k u:=(hb.cell (Y _ _ hu)).trans hu;have I:yM wr u a[k]:=Zz.below (P.trans (hb.mono P.size));obtain⟨dw,Vf⟩:=pY.o _ (xd Q);have vcf:=Z I;have FC:=YC ⟨#[97,110,100]⟩ u a[k] wr I J;have n:∀p∈yY [97,110,100] a[k],(∀x∈p,x.length<=1000)/\p.length<=200:=λp hp=>⟨λx hx'=>by
    rcases gM _ _ _ hp hx' with q|q
    .cases q
    .exact dw x q,Ny⟩
   have yod:(yY [97,110,100] a[k]).length<=201:=(by have:=jw [97,110,100] a[k] [];unfold yY;omega);have D:yY [97,110,100] a[k]≠[]:=dF _ _ _;obtain⟨c,hands⟩:=zo (yY [97,110,100] a[k]);have xl0:=Z (show yY (⟨#[97,110,100]⟩:ByteArray).data.toList a[k]=c from hands);rw[hands]at n yod D;have C:=Z hands;have yob:=Z n;have HPC:=Z FC;clear FC hands n I Zz dw;go_wp2_with fail;refine HPC.o.mono ?_;rintro e W3 ⟨⟨av2,rfl,G⟩,kL⟩;rw[xl0.o]at G;obtain⟨g2,IN,rfl,vcd,vcb,oO,H⟩:=G.rows D;have yp0:=Z H;have d:zJ W2 W3:=hb.trans (kL.mono hb.size);have f0':=(d.cell (Y _ _ f0)).trans f0;have f1':=(d.cell (Y _ _ f1)).trans f1;have f2':=(d.cell (Y _ _ f2)).trans f2;clear G H;go_wp2;go_loopw [12,13] (λv i wr=>zcu x c W3 v i wr) (λ_ i _=>c.length - (intOf i).toNat)
   case atStart=>exact⟨0,true,zG _,rfl,zY,rfl,z8 _ _⟩
   case round =>
    obtain⟨j,b2,hj,rfl,rfl,f,m⟩:=hrel;have HG2:=Z f;clear f;by_cases t:j<c.length
    .obtain⟨u2,hu3,V⟩:=yp0.o j t;have hu4:zy wr g2 j u2:=(m.cell (Y _ _ hu3)).trans hu3;have yp1:yM wr.drew u2 c[j]:=(V.below (kL.trans (m.mono kL.size))).below (z8 _ wr).drew;obtain⟨JJ,zb6⟩:=yob.o _ (xd t);have t0:=(m.cell (Y _ _ f0')).trans f0';have t1:=(m.cell (Y _ _ f1')).trans f1';have t2:=(m.cell (Y _ _ f2')).trans f2';have RR:=Z (Ct u2 c[j] b wh fr wr.drew yp1 J (λx hx=>zZ (JJ x hx) zj) hwd hfd hwl hfl);have UF:=d.trans (m.mono d.size);clear V yp1 JJ hu3;have jq:zy wr.drew B 0 (.bool b)/\zy wr.drew B 1 (.string wh)/\zy wr.drew B 2 (.string fr)/\zy wr.drew g2 j u2:=⟨t0,t1,t2,hu4⟩;go_wp2_with fail;refine bW (λW':z7=>zy W' B 0 (.bool b)/\zy W' B 1 (.string wh)/\zy W' B 2 (.string fr)/\zy W' g2 j u2) [0,1,2,3,4] 6 jq ?_;refine bF 5 (λK hK=>?_);go_simp;refine RR.o.mono ?_;rintro e w4 ⟨he,YZ⟩;have y:∀{p:yi} {u:zx},wr.cell? p=some u->w4.cell? p=some u:=λ{p u} h=>(YZ.cell (Y wr p h)).trans h
     have O:zy w4 B 0 (.bool b)/\zy w4 B 1 (.string wh)/\zy w4 B 2 (.string fr)/\zy w4 g2 j u2:=⟨y t0,y t1,y t2,y hu4⟩;have xl3:=UF.drew.trans (YZ.mono UF.size);have xl4:zJ W3 w4:=m.drew.trans (YZ.mono m.size);rw[<-HXX.o]at he;cases A:bN c[j] x with
     |none =>
      rw[A]at he;obtain⟨hv,rfl⟩:=he;have HN:=Z (show R=none from HR.o▸zvk Q HG.o (by rw[C.o];exact iI t HG2.o A));clear A;go_simp;refine hK.out _ _ O λ_=>?_;clear hK K;refine Xo [6,7,8,9,10] 0 O ?_;refine fR ?_ _;go_wp2;go_ret2
      exact⟨by rw[HN.o];rfl,r.trans (xl3.mono r.size)⟩
     |some hh =>
      rw[A]at he;obtain rfl:=he;have HN:=Z (iL t HG2.o A);clear A;go_simp;refine hK.out _ _ O λ_=>?_;clear hK K;refine Xo [6,7,8,9,10] 0 O ?_;refine fR ?_ _
      cases b2 <;>
      .go_wp2;go_roundw
       case rel=>exact⟨j+1,_,J,xi,rfl,HN.o,xl4⟩
       case measure=>simp[intOf];omega
    .obtain rfl:j=c.length:=(by omega);have f:=HG2.o;rw[bu,kU]at f;have HF:=Z (zvj Q HG.o (by rw[C.o];exact f));clear f;cases b1 <;>
     .go_wp2;go_roundw
      case rel=>exact⟨k+1,_,J,xi,rfl,HF.o,d.trans (m.mono d.size)⟩
      case measure=>simp[intOf];omega
  .obtain rfl:k=a.length:=(by omega);have z:=HG.o;rw[bu,gI,HR.o]at z;have HF:=Z z;clear z;go_wp2;go_ret2
   exact⟨uZ,r.trans (hb.mono r.size)⟩
def iM(s:ByteArray)(b:Bool)(wh fr:ByteArray)(w:z7)(hs:s.size<=1000000)
  (d:wh.data.toList.all yn=true) (a:fr.data.toList.all yn=true) (f:wh.size<=1000) (c:fr.size<=1000) :
  zE prog 46 #[.string s,.agg #[.bool b,.string wh,.string fr]] w (Hm (JT s.data.toList (wh.data.toList,fr.data.toList)) w):=by
 unfold JT;rw[yz];by_cases h2:200<s.size
 .rw[zl h2];exact(Hn s b wh fr w hs (.inr h2)).mono λe w' q=>q
 .rw[zL h2];cases hw:Y6 s.data.toList with
  |none=>exact(Hn s b wh fr w hs (.inl hw)).mono λe w' q=>q
  |some ws=>exact WY s b wh fr ws w J hw d a f c
def zvg(s:ByteArray)(w:z7)(hs:s.size<=1000000) :
  zE prog 26 #[.string s] w λe w'=>e = .returned (.bool (B9 s.data.toList))/\zJ w w':=by
 have b:=Z (iM s false ⟨#[48]⟩ ⟨#[]⟩ w hs zj zj zj zj);have a:=Z (show(JT s.data.toList ((⟨#[48]⟩:ByteArray).data.toList,(⟨#[]⟩:ByteArray).data.toList)).isSome=B9 s.data.toList from rfl);go_enter func26,ntmps26;go_wp2_with fail;refine b.o.mono ?_;rintro e w1 ⟨rfl,hb⟩;rw[a.o];go_wp2;go_ret;exact⟨rfl,hb⟩

variable{xs:List zx}{e:uP}
def zvf{base size:Nat}(h:w.ownsRow base e size v n xs)(hn:0<n) :
  ∃g cap,v = .slice (some ⟨g,0,none⟩) n cap/\base<=g/\g<(w:Nat)/\n<=cap/\cap<=maxLen/\∀j,j<n*size->w.cell? ⟨g,j,none⟩=xs[j]? := by
 have a:=h.lt;rcases h.2 with⟨_,d⟩|⟨g,cap,cur,hv,b,f,h1,h2,_,i⟩
 .omega
 .subst hv;exact⟨g,cap,rfl,b,(a g rfl).2,h1,h2,λj c=>h.cellAt j c⟩
def WX{rs:List KZ}{nm wh:Wd}{seen:List Wd}{r:Bool}(a:k<rs.length)(hp:rs[k]=(nm,wh))(h:dI (rs.drop k) seen=r) :
  r=(decide (nm∈XA) && (!(decide (nm∈seen)) && (B9 wh && dI (rs.drop (k+1)) (seen++[nm])))):=by
 rw[<-h,yH a,hp,dI]
def zvd(rs:List KZ)(r:Bool)(w:z7)(sv i:zx)(wr:z7):Prop :=
 ∃(k:Nat) (seen:List Wd),k<=rs.length/\i = .int .i64 k/\wr.ownsRow (w:Nat) 9 1 sv seen.length (seen.map zv)/\zJ w wr/\seen.length<=k/\dI (rs.drop k) seen=r
def WV(v:zx)(rs:List KZ)(w:z7)(h:fu w v rs)(hn:rs.length<=1000000)(hl:∀r∈rs,r.2.length<=1000000) :
  zE prog 15 #[v] w λe w'=>e = .returned (.bool (Zb rs))/\zJ w w':=by
 obtain⟨a,cap,rfl,hc⟩:=h;have HC:=Z hc;have HL:=Z hl;clear hc hl;obtain⟨r,hr⟩:=zo (Zb rs);rw[hr];have HR:=Z hr;clear hr;go_enter func15,ntmps15;go_wp2_with fail;refine(VI _).mono ?_;rintro e w1 ⟨cv,rfl,c,F⟩;obtain⟨cg,V,rfl,G,H,hcc,I,n⟩:=zvf c zj;have f:yM w1 (.slice (zX cg 0) 5 V) XA:=⟨_,_,rfl,by show 5<=V;omega,I,(λq=>by cases q),λj W=>⟨_,rfl,by
  rw[vA,n j (by have:j<5:=W;omega)];have R:j<5:=W;match j,R with
  | 0,_=>rfl
  | 1,_=>rfl
  | 2,_=>rfl
  | 3,_=>rfl
  | 4,_=>rfl⟩⟩
 have P:=Z f;unfold maxLen at I;clear c n f G H;go_wp2;go_loopw [3,5] (λsv i wr=>zvd rs r w1 sv i wr) (λ_ i _=>rs.length - (intOf i).toNat)
 case atStart=>exact⟨0,[],zG _,rfl,yr _ _ _ _,z8 _ _,X _,HR.o⟩
 case round =>
  obtain⟨k,seen,hk,rfl,c,hb,hsl,d⟩:=hrel;have T:=Z d;have K:=Z c;obtain⟨sa,sc,rfl⟩:=zD c;clear d c;have m:=F.trans (hb.mono F.size);by_cases y:k<rs.length
  .obtain⟨g,o,rfl,c1,c2⟩:=HC.o k y;have d1:=(m.cell (Y _ _ c1)).trans c1;have d2:=(m.cell (Y _ _ c2)).trans c2;have D:=HL.o _ (xd y);obtain⟨nm,wh,z⟩:∃nm wh,rs[k]=(nm,wh):=⟨_,_,rfl⟩;have l:=Z (WX y z T.o);rw[z]at d1 d2 D;have U:=Z D;clear c1 c2 D z;have s:=B8 _ XA ⟨nm.toArray⟩ wr (P.o.below hb) zj;have t:=B8 _ seen ⟨nm.toArray⟩ wr (yM.bY K.o) J;have x:=zvg ⟨wh.toArray⟩ wr (by rw[size_mk];exact U.o);rw[toList_mk]at s t x;obtain⟨E,A⟩:=zo (dH XA nm);obtain⟨pb,B⟩:=zo (dH seen nm);obtain⟨pc,C⟩:=zo (B9 wh);have f:=l.o;rw[show decide (nm∈XA)=decide (0<=E)by rw[<-A];exact decide_eq_decide.2 B7.symm,show decide (nm∈seen)=decide (0<=pb)by rw[<-B];exact decide_eq_decide.2 B7.symm,C]at f;rw[A]at s;rw[B]at t;rw[C]at x;obtain⟨p,M,N,O⟩:=hdd f s t x;clear f s t x A B C l U;go_wp2_with fail;refine M.o.mono ?_;rintro e w' ⟨rfl,rfl⟩;go_wp2_with fail;refine N.o.mono ?_;rintro e w' ⟨rfl,rfl⟩;go_wp2_with fail;refine O.o.mono ?_;rintro e w2 ⟨rfl,b⟩;have bj:=m.trans (b.mono m.size);by_cases h1:E<0
   .have g1:decide (E<0)=true:=decide_eq_true h1;have HF:=Z (show r=false by rw[p.o,show decide (0<=E)=false by simp;omega];rfl);clear h1;exact Rp
   .have g1:decide (E<0)=false:=decide_eq_false h1;by_cases h2:0<=pb
    .have g2:decide (0<=pb)=true:=decide_eq_true h2;have HF:=Z (show r=false by rw[p.o,g2];simp);clear h1 h2;exact Rp
    .have g2:decide (0<=pb)=false:=decide_eq_false h2;cases pc
     .have HF:=Z (show r=false by rw[p.o];simp);clear h1 h2;exact Rp
     .have HF:=Z (show dI (rs.drop (k+1)) (seen++[nm])=r by rw[p.o,g2,show decide (0<=E)=true by simp;omega];simp);have L:=Z (K.o.kept (row:=none) ⟨b.os,b.tape,b.output,b.size,λi hi _=>b.block i hi⟩ (by cases (yI sa seen.length sc).ownBlock<;>simp));clear h1 h2;go_wp2_with (at_builtin;refine vY uN rfl _ _ rfl (w1:Nat) _ seen.length (seen.map zv) rfl (L.o.alloc _) ⟨(w2:Nat),0,none⟩ 1 1 [zv nm] rfl rfl Xq ?k2 J (by have:=b.size;have:=hb.size;simp;omega) ?_)
      case k2 =>
       exact jr
      intro RN w3 S Q;go_wp2;go_roundw
      case rel=>exact⟨k+1,seen++[nm],J,xi,by simpa using S,((hb.trans (b.mono hb.size)).alloc (zZ hb.size b.size) _).grown Q (by have:=hb.size;have:=b.size;simp;omega) (λq hq=>(K.o.lt q hq).1),zV,HF.o⟩
      case measure=>simp[intOf];omega
  .obtain rfl:k=rs.length:=(by omega);have d:=T.o;rw[bu,dI]at d;have HF:=Z d;clear d;go_wp2;go_ret;exact⟨uZ,m⟩
section
abbrev mU(x c o:zx)(mi po gr fi ne:Int)(dg s:ByteArray)(m:zx):zx := .agg #[x,c,o,.int .i32 mi,.int .i32 po,.int .i32 gr,.int .u8 fi,.int .u8 ne,.string dg,.string s,m]
structure PB(b:Nat)(x c o:zx)(mi po gr fi ne:Int)(dg s:ByteArray)(m:zx)(W:z7):Prop where
 h:W.heap[b]? = some (.cells #[x,c,o,.int .i32 mi,.int .i32 po,.int .i32 gr,.int .u8 fi,.int .u8 ne,.string dg,.string s,m] 32 (0,0))
variable {b B:Nat} {x c o m:zx} {mi po gr fi ne:Int} {dg s:ByteArray} {W W':z7}
def PB.below(h:PB b x c o mi po gr fi ne dg s m W)(hb:yX B W W')(a:b<B):PB b x c o mi po gr fi ne dg s m W':=⟨by rw[hb.block b a];exact h.h⟩
def PB.made(x c o:zx)(mi po gr fi ne:Int)(dg s:ByteArray)(m:zx)(w:z7):PB (w:Nat) x c o mi po gr fi ne dg s m (w.alloc (.cells #[x,c,o,.int .i32 mi,.int .i32 po,.int .i32 gr,.int .u8 fi,.int .u8 ne,.string dg,.string s,m] 32)):=⟨R6⟩
def PB.cell(h:PB b x c o mi po gr fi ne dg s m W):zy W b 0 x/\zy W b 1 c/\zy W b 2 o/\zy W b 3 (.int .i32 mi)/\zy W b 4 (.int .i32 po)/\zy W b 5 (.int .i32 gr)/\zy W b 6 (.int .u8 fi)/\zy W b 7 (.int .u8 ne)/\zy W b 8 (.string dg)/\zy W b 9 (.string s)/\W.cell? (b,10)=some m :=
 ⟨zP h.h 0,zP h.h 1,zP h.h 2,zP h.h 3,zP h.h 4,zP h.h 5,zP h.h 6,zP h.h 7,zP h.h 8,zP h.h 9,zP h.h 10⟩
def PB.fz(h:PB b x c o mi po gr fi ne dg s m W):W.frozen? (b,0)=false/\W.frozen? (b,1)=false/\W.frozen? (b,2)=false/\W.frozen? (b,3)=false/\W.frozen? (b,4)=false/\W.frozen? (b,5)=false/\W.frozen? (b,6)=false/\W.frozen? (b,7)=false/\W.frozen? (b,8)=false/\W.frozen? (b,9)=false/\W.frozen? (b,10)=false :=
 ⟨yj h.h 0,yj h.h 1,yj h.h 2,yj h.h 3,yj h.h 4,yj h.h 5,yj h.h 6,yj h.h 7,yj h.h 8,yj h.h 9,yj h.h 10⟩
def PB.put(W:z7)(b:Nat)(x c o:zx)(mi po gr fi ne:Int)(dg s:ByteArray)(m:zx):z7:=((((((((((W.setCell (b,0) x).setCell (b,1) c).setCell (b,2) o).setCell (b,3) (.int .i32 mi)).setCell (b,4) (.int .i32 po)).setCell (b,5) (.int .i32 gr)).setCell (b,6) (.int .u8 fi)).setCell (b,7) (.int .u8 ne)).setCell (b,8) (.string dg)).setCell (b,9) (.string s)).setCell (b,10) m
def PB.fill{x0 c0 k j:zx}{f i e d g:Int}{a s0:ByteArray}(h:PB b x0 c0 k f i e d g a s0 j W)(x c o:zx)(mi po gr fi ne:Int)(dg s:ByteArray)(m:zx):PB b x c o mi po gr fi ne dg s m (PB.put W b x c o mi po gr fi ne dg s m) :=
 ⟨by unfold PB.put;simp[xW,Zt,h.h]⟩
def PB.Gq(W:z7)(b:Nat)(x c o:zx)(mi po gr fi ne:Int)(dg s:ByteArray)(m:zx)(h:B<=b):yX B W (PB.put W b x c o mi po gr fi ne dg s m) :=
 ((((((((((((z8 B W).setCell (p:=⟨b,0,none⟩) h _).setCell (p:=⟨b,1,none⟩) h _).setCell (p:=⟨b,2,none⟩) h _).setCell (p:=⟨b,3,none⟩) h _).setCell (p:=⟨b,4,none⟩) h _).setCell (p:=⟨b,5,none⟩) h _).setCell (p:=⟨b,6,none⟩) h _).setCell (p:=⟨b,7,none⟩) h _).setCell (p:=⟨b,8,none⟩) h _).setCell (p:=⟨b,9,none⟩) h _).setCell (p:=⟨b,10,none⟩) h _)
def yqq(s:ByteArray)(mi po gr:Int)(fi ne:Nat)(dg:ByteArray)(w:z7)(e:gG)(w':z7):Prop :=
 zJ w w'/\∃x a n k a' n' k',e = .returned (.tuple #[mU (.pointer x) (.slice a n k) (.slice a' n' k') mi po gr fi ne dg s (.pointer none),.bool true])
def PU(v:zx)(rs:List KZ)(w:z7)(h:uW w v rs)(hn:rs.length<=1000000)(a:∀r∈rs,r.1.length<=1000000/\r.2.length<=1000000):Ug w v (Zb rs) :=
 λw' hb=>WV v rs w' (h.1.below hb) hn λr hr=>(a r hr).2
def MD(s:ByteArray)(c o:zx)(cs os:List KZ)(mi po gr:Int)(fi ne:Nat)(dg:ByteArray)(w:z7)(hs:s.size<=1000000)(hd:dg.size<=1000000)(hfi:fi<=255)(fH:ne<=255)
  (h1:uW w c cs) (h2:uW w o os) (cM:cs.length<=1000000) (hl2:os.length<=1000000) (N7:∀q∈cs,q.1.length<=1000000/\q.2.length<=1000000) (Vk:∀q∈os,q.1.length<=1000000/\q.2.length<=1000000) (hE:Vl w) (hR:tN w) :
  zE prog 6 #[.string s,CN c o mi po gr fi ne dg] w (yqq s mi po gr fi ne dg w):=by
 obtain⟨HV1,HV2,HZ,HE,HSL⟩:=FD h1 h2 (qZ N7 Vk) (qZ hE hR) (qZ h1.slice h2.slice);have znx:=λW=>iB s W J (PY s).1
 have yp2:=(PY s).2;obtain⟨K,hK⟩:=zo (uH (Zb cs) (Zb os) mi po gr fi ne dg.data.toList);obtain⟨HK,znv,xl5,HS,HD⟩:=FD hK znx yp2 hs hd;clear h1 h2 N7 Vk hE hR hK znx yp2;go_enter func6,ntmps6;go_wp2_with fail;refine yh ?_;intro W1 fe;have F1:LB (w:Nat) c o mi po gr fi ne dg W1/\PB ((w:Nat)+1) (.pointer none) (.slice none 0 0) (.slice none 0 0) 0 0 0 0 0 ⟨#[]⟩ ⟨#[]⟩ (.pointer none) W1/\zJ w W1/\(W1:Nat)=(w:Nat)+2:=by
  have a1:=LB.made c o mi po gr fi ne dg w;have a2:=PB.made (.pointer none) (.slice none 0 0) (.slice none 0 0) 0 0 0 0 0 ⟨#[]⟩ ⟨#[]⟩ (.pointer none) (w.alloc (.cells #[c,o,.int .i32 mi,.int .i32 po,.int .i32 gr,.int .u8 fi,.int .u8 ne,.string dg] 27));have hz:(w.alloc (.cells #[c,o,.int .i32 mi,.int .i32 po,.int .i32 gr,.int .u8 fi,.int .u8 ne,.string dg] 27)).heap.size=(w:Nat)+1:=zY
  rw[hz]at a2;rw[fe];exact⟨a1.below ((z8 ((w:Nat)+1) _).alloc (by rw[hz];exact X _) _) (xf _),a2,((z8 (w:Nat) w).alloc (X _) _).alloc (by rw[hz];omega) _,zY⟩
 clear fe;obtain⟨LA,LP,UP,hzW⟩:=F1;have mz:=Z hzW;clear hzW;refine(Sl c o cs os mi po gr fi ne dg W1 (HV1.o.below UP) (HV2.o.below UP) cM hl2).mono ?_;rintro e w1 ⟨⟨c',o',rfl,hc,ho⟩,zvb⟩;have qV:zJ w w1:=UP.trans (zvb.mono UP.size);have LA:=LA.below zvb (by have:=mz.o;omega);have LP:=LP.below zvb (by have:=mz.o;omega);have aA:=Z (show (w:Nat)+2<=(w1:Nat)by have:=mz.o;have:=zvb.size;omega);clear zvb UP mz;obtain⟨c0,c1,c2,c3,c4,c5,c6,c7⟩:=LA.at_;have HC1:=Z (qZ hc ho);obtain⟨ca',cc',rfl⟩:=hc.slice;obtain⟨mQ,mJ,rfl⟩:=ho.slice;clear hc ho;have hA1:(w:Nat)<(w1:Nat):=by have:=aA.o;omega
 go_wp2_with fail;refine yh ?_;intro W2 hW2;have F2:LB (w1:Nat) (.slice ca' cs.length cc') (.slice mQ os.length mJ) mi po gr fi ne dg W2/\zJ w1 W2/\(W2:Nat)=(w1:Nat)+1:=by
  rw[hW2];exact⟨LB.made ..,(z8 (w1:Nat) w1).alloc (X _) _,zY⟩
 clear hW2 c0 c1 c2 c3 c4 c5 c6 c7;obtain⟨LM,TI,hzW⟩:=F2;have qV:=qV.trans (TI.mono qV.size);have LA:=LA.below TI (by have:=aA.o;omega);have LP:=LP.below TI (by have:=aA.o;omega);have HC:=Z (qZ (HC1.o.1.below TI) (HC1.o.2.below TI));obtain⟨M,hM⟩:=zo (w1:Nat);rw[hM]at LM hzW aA|-
 have mz:=Z hzW;clear HC1 TI hzW hM;refine(Mq s c o (Zb cs) (Zb os) mi po gr fi ne dg (λ_ _=>True) (λ_ _=>True) W2 HS.o HD.o hfi fH
  (Ec cs c W2 (HV1.o.1.below qV) cM HZ.o.1 (HE.o.2.below qV) (HE.o.1.names.below qV)) (Ec os o W2 (HV2.o.1.below qV) hl2 HZ.o.2 (HE.o.2.below qV) (HE.o.1.names.below qV))
  (by obtain⟨⟨a,k,ha⟩,b,l,hb⟩:=HSL.o;exact⟨⟨_,_,_,ha⟩,_,_,_,hb⟩) (HE.o.1.below qV)).mono ?_
 rintro e w2 ⟨qX,hq⟩;have MB:=qV.trans (qX.mono qV.size);have HC2:=Z (qZ (HC.o.1.below qX) (HC.o.2.below qX));rw[HK.o]at hq;have Qn:=λW (h:zJ w2 W)=>ed (.slice ca' cs.length cc') (.slice mQ os.length mJ) (Zb cs) (Zb os) mi po gr fi ne dg W HD.o (PU _ cs W (HC2.o.1.below h) cM HZ.o.1) (PU _ os W (HC2.o.2.below h) hl2 HZ.o.2)
 rw[HK.o]at Qn;have IH:=Z Qn;have LM:=LM.below qX (by have:=mz.o;omega);have LP:=LP.below qX (by have:=mz.o;have:=aA.o;omega);have HZ2:=Z (show M<(w2:Nat)by have:=mz.o;have:=qX.size;omega);obtain⟨c0,c1,c2,c3,c4,c5,c6,c7⟩:=LM.at_;clear Qn qV HC LA mz
 cases K
 .rw[zl rfl]at hq;obtain rfl:=hq;clear qX;go_wp2_with fail;refine(IH.o _ (z8 _ _)).mono ?_;rintro e w3 ⟨rfl,kL⟩;have MC:=MB.trans (kL.mono MB.size);have LM:=LM.below kL HZ2.o;have LP:=LP.below kL Ro;clear kL MB c0 c1 c2 c3 c4 c5 c6 c7;obtain⟨c0,c1,c2,c3,c4,c5,c6,c7⟩:=LM.at_;obtain⟨d0,d1,d2,d3,d4,d5,d6,d7,d8,d9,d10⟩:=LP.cell;obtain⟨y0,y1,y2,y3,y4,y5,y6,y7,y8,y9,y10⟩:=LP.fz;have hMB:(w:Nat)+1<M:=aA.o;go_wp2;have Nv:=Z (show _/\_ from⟨LP.fill (.pointer none) (.slice ca' cs.length cc') (.slice mQ os.length mJ) mi po gr fi ne dg s (.pointer none),PB.Gq w3 ((w:Nat)+1) (.pointer none) (.slice ca' cs.length cc') (.slice mQ os.length mJ) mi po gr fi ne dg s (.pointer none) (X _)⟩);clear c0 c1 c2 c3 c4 c5 c6 c7 d0 d1 d2 d3 d4 d5 d6 d7 d8 d9 d10 y0 y1 y2 y3 y4 y5 y6 y7 y8 y9 y10 LM LP;unfold PB.put at Nv;generalize wg:xW _ ⟨(w:Nat)+1,10,none⟩ _=WF;rw[wg]at Nv;clear wg;obtain⟨LP,hbF⟩:=Nv.o;have zj6:=MC.trans (hbF.mono (bG _));exact zib
 .rw[zL zY]at hq;rcases xl5.o with⟨n,a,hl⟩|⟨f,hl⟩
  .have hr:=hl.p;rw[hr]at hq;obtain rfl:=hq;have Yt:=hl.d;have HNE:=Z hl.ne;clear qX hl hr;go_wp2_with fail;refine(IH.o _ (z8 _ _)).mono ?_;rintro e w3 ⟨rfl,kL⟩;have MC:=MB.trans (kL.mono MB.size);have LM:=LM.below kL HZ2.o;have LP:=LP.below kL Ro;have HZ3:=Z (show M<(w3:Nat)by have:=HZ2.o;have:=kL.size;omega);clear kL MB;go_wp2_with fail;refine(znv.o w3).mono ?_;rintro e w4 ⟨v,rfl,-,YZ⟩;rw[Yt];have Fm:=MC.trans (YZ.mono MC.size);have LM:=LM.below YZ HZ3.o;have LP:=LP.below YZ (by have:=aA.o;have:=HZ3.o;omega);have gC:decide ((n:Int)=0)=false:=by have:=HNE.o;simp;omega
   have ve0:¬(n:Int)=0:=by have:=HNE.o;omega
   have Nx:((n:Int) !=0)=true:=zV
   have hn2:(!((n:Int) !=0))=false:=by rw[Nx];rfl
   clear YZ MC Yt c0 c1 c2 c3 c4 c5 c6 c7;obtain⟨c0,c1,c2,c3,c4,c5,c6,c7⟩:=LM.at_;obtain⟨d0,d1,d2,d3,d4,d5,d6,d7,d8,d9,d10⟩:=LP.cell;obtain⟨y0,y1,y2,y3,y4,y5,y6,y7,y8,y9,y10⟩:=LP.fz;have hMB:(w:Nat)+1<M:=aA.o;go_wp2;have Nv:=Z (show _/\_ from⟨LP.fill (.pointer none) (.slice ca' cs.length cc') (.slice mQ os.length mJ) mi po gr fi ne dg s (.pointer none),PB.Gq w4 ((w:Nat)+1) (.pointer none) (.slice ca' cs.length cc') (.slice mQ os.length mJ) mi po gr fi ne dg s (.pointer none) (X _)⟩);clear c0 c1 c2 c3 c4 c5 c6 c7 d0 d1 d2 d3 d4 d5 d6 d7 d8 d9 d10 y0 y1 y2 y3 y4 y5 y6 y7 y8 y9 y10 LM LP;unfold PB.put at Nv;generalize wg:xW _ ⟨(w:Nat)+1,10,none⟩ _=WF;rw[wg]at Nv;clear wg;obtain⟨LP,hbF⟩:=Nv.o;have zj6:=Fm.trans (hbF.mono (bG _));exact zib
  .have hr:=hl.p;rw[hr]at hq;obtain⟨P,q,g,mb,vC,vI,rs,cv,ov,rfl,hP,-,-⟩:=hq;have Yt:=hl.d;clear qX hl hr hP;go_wp2_with fail;refine(IH.o _ (z8 _ _)).mono ?_;rintro e w3 ⟨rfl,kL⟩;have MC:=MB.trans (kL.mono MB.size);have LM:=LM.below kL HZ2.o;have LP:=LP.below kL Ro;have HZ3:=Z (show M<(w3:Nat)by have:=HZ2.o;have:=kL.size;omega);clear kL MB;go_wp2_with fail;refine(znv.o w3).mono ?_;rintro e w4 ⟨v,rfl,-,YZ⟩;rw[Yt];have Fm:=MC.trans (YZ.mono MC.size);have LM:=LM.below YZ HZ3.o;have LP:=LP.below YZ (by have:=aA.o;have:=HZ3.o;omega);clear YZ MC Yt c0 c1 c2 c3 c4 c5 c6 c7;obtain⟨c0,c1,c2,c3,c4,c5,c6,c7⟩:=LM.at_;obtain⟨d0,d1,d2,d3,d4,d5,d6,d7,d8,d9,d10⟩:=LP.cell;obtain⟨y0,y1,y2,y3,y4,y5,y6,y7,y8,y9,y10⟩:=LP.fz;have hMB:(w:Nat)+1<M:=aA.o;go_wp2;have Nv:=Z (show _/\_ from⟨LP.fill (zX P 0) (.slice ca' cs.length cc') (.slice mQ os.length mJ) mi po gr fi ne dg s (.pointer none),PB.Gq w4 ((w:Nat)+1) (zX P 0) (.slice ca' cs.length cc') (.slice mQ os.length mJ) mi po gr fi ne dg s (.pointer none) (X _)⟩);clear c0 c1 c2 c3 c4 c5 c6 c7 d0 d1 d2 d3 d4 d5 d6 d7 d8 d9 d10 y0 y1 y2 y3 y4 y5 y6 y7 y8 y9 y10 LM LP;unfold PB.put at Nv;generalize wg:xW _ ⟨(w:Nat)+1,10,none⟩ _=WF;rw[wg]at Nv;clear wg;obtain⟨LP,hbF⟩:=Nv.o;have zj6:=Fm.trans (hbF.mono (bG _));obtain⟨d0,d1,d2,d3,d4,d5,d6,d7,d8,d9,d10⟩:=LP.cell;refine zU (v := .tuple #[mU (zX P 0) (.slice ca' cs.length cc') (.slice mQ os.length mJ) mi po gr fi ne dg s (.pointer none),.bool true]) ?_ rfl ⟨zj6,_,_,_,_,_,_,_,rfl⟩;simp[yk,results6,go_sem,d0,d1,d2,d3,d4,d5,d6,d7,d8,d9,d10]
end
structure zu0(w:z7):Prop where
 env:Vl w
 rt:tN w
def zu0.below(h:zu0 w)(hb:zJ w w'):zu0 w':=⟨h.env.below hb,h.rt.below hb⟩
def ME(s:ByteArray)(cv:zx)(cs:List Wd)(ov:zx)(os:List Wd)(v:zx)(xs:List Int)(f n:Int)(dg:ByteArray)(w:z7)
  (hc:yM w cv cs) (r:cs.length<=140737488355328) (t:∀m∈cs,m.length<=140737488355328)
  (h:yM w ov os) (B:os.length<=140737488355328) (C:∀m∈os,m.length<=140737488355328) (hv:XZ w v xs) (T:zu0 w) :
  zE prog 3 #[.string s,cv,ov,v,f,n,.string dg] w λe w'=>e = .returned (.bool true)/\zJ w w':=by
 obtain⟨F,G,P,K⟩:=hdd hc h T hv;obtain⟨ca,cn,cc,rfl⟩:∃a n c,cv = .slice a n c:=by obtain⟨a,c,rfl,_⟩:=hc;exact⟨_,_,_,rfl⟩
 obtain⟨oa,on,oc,rfl⟩:∃a n c,ov = .slice a n c:=by obtain⟨a,c,rfl,_⟩:=h;exact⟨_,_,_,rfl⟩
 have H:=Z (EW _ cs w hc r t);have I:=Z (EW _ os w h B C);obtain⟨fi,u,y⟩:∃k:Nat,gD.wrap f=(k:Int)/\k<=255:=⟨(gD.wrap f).toNat,qK,qK⟩;obtain⟨ne,z,A⟩:∃k:Nat,gD.wrap n=(k:Int)/\k<=255:=⟨(gD.wrap n).toNat,qK,qK⟩;have O:=Z (qZ u z);clear hc h r t B C T hv u z;go_enter func3,ntmps3;go_wp2_with fail;refine H.o.mono ?_;rintro e w' ⟨rfl,M,rfl,Nx,ZE⟩;go_wp2_with fail;refine I.o.mono ?_;rintro e w' ⟨rfl,N,rfl,hn2,ZW⟩;by_cases h1:65536<M
 .have g1:decide (65536<M)=true:=decide_eq_true h1;exact Iu
 .have g1:decide (65536<M)=false:=decide_eq_false h1;by_cases h2:65536<N
  .have g2:decide (65536<N)=true:=decide_eq_true h2;exact Iu
  .have g2:decide (65536<N)=false:=decide_eq_false h2;by_cases R:65536<s.size
   .have W:decide (65536<s.size)=true:=decide_eq_true R;exact Iu
   .have W:decide (65536<s.size)=false:=decide_eq_false R;by_cases S:65536<dg.size
    .have g4:decide (65536<dg.size)=true:=decide_eq_true S;exact Iu
    .have g4:decide (65536<dg.size)=false:=decide_eq_false S;have D:=Z (ZE J);have E:=Z (ZW J);clear ZE ZW;go_wp2_with fail;refine(Si _ _ cs os v xs f n dg w F.o G.o (by have:=D.o.1;omega) (by have:=E.o.1;omega) K.o).mono ?_;rintro e w1 ⟨⟨c,o,rfl,hc,h⟩,i⟩;rw[O.o.1,O.o.2];have j:=Z (qZ hc h);obtain⟨U,V,rfl⟩:=hc.slice;obtain⟨mQ,mJ,rfl⟩:=h.slice;clear hc h;go_wp2_with fail;refine yh ?_;intro Q l;have b:zJ w1 Q:=(by rw[l];exact(z8 _ _).alloc (X _) _);have d:=i.trans (b.mono i.size);clear l;refine(MD s _ _ (yg cs) (yg os) _ _ _ fi ne dg Q J J y A (j.o.1.below b) (j.o.2.below b) (by have:=D.o.1;rw[dL];omega) (by have:=E.o.1;rw[dL];omega)
      (λq L=>by have:=QV cs 65536 D.o.2 q L;omega) (λq L=>by have:=QV os 65536 E.o.2 q L;omega) (P.o.below d).env (P.o.below d).rt).mono ?_
     rintro e w2 ⟨p,x,a1,n3,k1,a2,n4,k2,rfl⟩;have g:=d.trans (p.mono d.size);clear p i d b;go_wp2;go_ret;exact⟨rfl,g.alloc g.size _⟩
end Go.Proofs.YtfcemhlpdcnckaaGreatDoor
