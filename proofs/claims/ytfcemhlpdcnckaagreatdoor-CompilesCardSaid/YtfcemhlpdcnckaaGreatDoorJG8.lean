import Derived.Test.YtfcemhlpdcnckaaGreatDoorJG7
import Derived.LaidEql
import Derived.RowKitTokens
import Derived.IntWalk
import Derived.Deep.CutBlock
import Derived.Deep.DeepCutAuto
set_option linter.defProp false
set_option maxHeartbeats 64000000
open Go renaming Addr->yi,Calls->zE,Ending->gG,method->WC,Oper->fG,TypeId->uP,Value->zx,World->z7,bodyPost_ret->zU,grownCap->WJ,isAgg->yf0,loadVar->E7,results->yk,rounds_succ->xk,run_typeAssert_lacksB->Km,storeVar->WB,underlying->QO,unsupported->zeg,wp_loop_rounds->kh
open Go.Addr renaming add->xM
open And renaming intro->qZ
open Array renaming getElem?_eq_none->il,replicate->uJ
open Go.RowKit renaming Below->yX,ownsRow_setCell_below->zk
open Go.RowKit.Below renaming heap_alloc->xA,heap_setCell->zh,refl->z8
open Bool renaming and_eq_true->zQ,eq_iff_iff->vF,or_eq_true->gj
open Classical renaming byContradiction->zi
open Go.Conv renaming runesFrom->C0
open Go.Ending renaming returned->UK
open Except renaming ok->ypj
open Go.Instr renaming index->ZF,makeFunc->gP,typeAssert->zA
open Go.IntKind renaming i64->yU,u8->gD
open Go.Lib renaming Utf8Tabs->XL,compareInt->XI,hid->Z,validD->zuz
open List renaming all_cons->kP,append_eq_nil_iff->ir,cons_append->yw,drop_eq_getElem_cons->yH,drop_of_length_le->yq,drop_zero->qH,eq_nil_of_length_eq_zero->zF,flatMap_cons->zn,foldl_append->kS,foldl_cons->QA,getElem?_eq_getElem->zw,getElem?_eq_none->Xe,getElem?_eq_some_iff->vq,getElem_cons_zero->PT,length->qj,length_append->zI,length_cons->zm,length_drop->xz,length_nil->ur,length_take->xr,map_cons->ve,map_nil->YW,map_toArray->Ml,mem_append->xY,mem_cons->yp,mem_cons_of_mem->yo,mem_cons_self->xB,mem_singleton->uG,nil_append->kr,nodup_nil->fO,takeWhile_cons_of_neg->kR,takeWhile_cons_of_pos->Un,take_of_length_le->xJ,take_succ_eq_append_getElem->zr
open Nat renaming add_assoc->jo,add_sub_cancel->Vs,add_sub_cancel_left->dD,add_zero->fD,le_of_lt->xx,le_refl->X,le_trans->zZ,lt_of_lt_of_le->ze,lt_succ_self->xf,mul_le_mul_right->MI,ne_of_lt->Ch,pow_le_pow_right->zux,zero_add->V9,zero_le->zG
open Go.Oper renaming wp->XM
open Option.some renaming inj->zR
open Go.Result renaming andThen->xO,andThen_ok->F8
open Go.Sem renaming run_bind->gF,run_pure->yk7
open SizeOf renaming sizeOf->zW
open UInt8 renaming ofNat->yW,toNat_ofNat'->vO
open Go.Value renaming bool->UH,cells->Xl,int->yF,slice->yI,string->bJ
open Go.World renaming block_lt_of_cell?->Y,cell?->ze7,cell?_alloc_lt->za,cell?_of_block->yZ,frozen?_alloc_old->gR,frozen?_of_block->zb,frozen?_setCell->zO,ownsRow_nil->yr,setCell->xW
open Go.Proofs.Tryz
namespace Go.Proofs.YtfcemhlpdcnckaaGreatDoor
open Go Go.RowKit
set_option maxRecDepth 10000
variable{Q:Exit->Act->z7->Prop}{B hi lo room:Nat}{W W' w w0:z7}
def UX{a:Nat}(seen:List Wd)(acc:List (Nat×Nat))(n:Nat):(if ZM∈seen then acc else acc++[(6,a)]).length<=acc.length+n+1:=by
 split
 .omega
 .rw[zI];show acc.length+1<=_;omega
def Ij(b:Nat):∀(f:Fo) (seen:List Wd) (acc:List (Nat×Nat)),(FM b seen acc f).length<=acc.length+f.len+1
 |.uB k a m r,seen,acc=>by
  rw[FM];refine zZ (Ij b r _ _) ?_;split<;>simp[Fo.len]<;>omega
 |.nil,seen,acc=>UX seen acc _
 |.text _ _,seen,acc=>UX seen acc _
 |.hash _,seen,acc=>UX seen acc _
 |.put _ _ _,seen,acc=>UX seen acc _
 |.num _ _ _,seen,acc=>UX seen acc _
 |.br _ _ _ _ _ _ _,seen,acc=>UX seen acc _
def Zu:Fo->Nat
 |.num _ _ _=>1
 |.br _ _ f _ _ _ _=>if f=0 then 2 else 1
 |_=>0
def TQ(x:Fo)(u:zx)(n:Wd)(a:Nat)(w:z7)(B:xS lo hi w0 w)(f:zt lo hi w0 [u] x)(k:zz2 x=some (n,a)) :
  zE Tryz.prog 62 #[u] w λe w'=>e = .returned ((Zu x:Nat):Int)/\w'=w:=by
 cases x with
 |nil=>cases k
 |text t r=>cases k
 |hash r=>cases k
 |uB k0 g G H=>cases k
 |put n0 g r =>
  obtain⟨s,b0,he,b,c,h,i,j⟩:=f;cases he;have e1:=Tg b0;have e2:=Er b0;go_enter func62,ntmps62;exact Jf
 |num n0 g r =>
  obtain⟨s,b0,he,b,c,h,i,j⟩:=f;cases he;have e1:=QG b0;go_enter func62,ntmps62;exact Jf
 |br n0 g fo of q p r =>
  obtain⟨s,b0,E,F,ws,he,b,c,h,i,m,y,z,A,C,v,j⟩:=f;cases he;have e1:=Jh b0;have e2:=KH b0;have c2:=ym B m b c;by_cases hf:fo=0
  .have l:=Z hf;have D:((fo:Int)==0)=true:=(by simp[hf]);clear hf;go_enter func62,ntmps62;go_wp2;go_ret;have d:Zu (.br n0 g fo of q p r)=2:=zl l.o;rw[d];exact⟨rfl,rfl⟩
  .have l:=Z hf;have D:((fo:Int)==0)=false:=(by simp;omega);clear hf;go_enter func62,ntmps62;go_wp2;go_ret;have d:Zu (.br n0 g fo of q p r)=1:=zL l.o;rw[d];exact⟨rfl,rfl⟩
abbrev DH:=(Wd->Option Nat)×List (Nat×Nat)
def uL(s:DH)(n:Wd)(a k:Nat):DH :=
 if k≠0/\(s.1 n).isSome=true/\(s.1 n).getD 0≠k then (s.1,s.2++[(5,a)])else if k≠0 then (λy=>if n=y then some k else s.1 y,s.2)else s
def YD(s:DH):Fo->Out DH
 |.br n a f o cl bs r => .go true ((uL s n a (Zu (.br n a f o cl bs r))).1,(uL s n a (Zu (.br n a f o cl bs r))).2++FM cl [] [] bs)
 |.num n a _ => .go true (uL s n a 1)
 |.put n a _ => .go true (uL s n a 0)
 |_ => .go true s
def dQ:eU 150 156:=⟨underlying150,underlying156,λw=>dz⟩
structure Vc(lo hi:Nat)(w0:z7)(B:Nat)(w:z7)(s:DH)(room:Nat)(W:z7):Prop where
 keep:xS lo hi w0 W
 hiB:hi<=B
 map:∃nm,jk 156 W (B+1) nm s.1/\nm+room<=1000000000
 row:∃v,zy W B 0 v/\vr (B+3) W v s.2
 kc:zy W (B+2) 0 (.map (some (B+1)))
 fz:W.frozen? (B,0)=false
 few:s.2.length+room<=1000000000
 bel:yX B w W
def Vc.below{s:DH}(h:Vc lo hi w0 B w s room W)(hb:zJ W W'):Vc lo hi w0 B w s room W':=by
 obtain⟨h1,h2,⟨nm,e,a⟩,⟨v,b,f⟩,c,g,i,j⟩:=h;have d:B<(W:Nat):=Y W _ b;have k:B+2<(W:Nat):=Y W _ c;exact⟨h1.below hb,h2,⟨nm,e.below hb,a⟩,⟨v,(hb.cell (p:=(B,0)) d).trans b,f.Uc hb⟩,(hb.cell (p:=(B+2,0)) k).trans c,(hb.frozen (p:=(B,0)) d).trans g,i,j.trans (hb.mono J)⟩
def Vc.less{s:DH}{room':Nat}(h:Vc lo hi w0 B w s room W)(hr:room'<=room):Vc lo hi w0 B w s room' W:=by
 obtain⟨h1,h2,⟨nm,a,b⟩,c,d,e,g,f⟩:=h;exact⟨h1,h2,⟨nm,a,J⟩,c,d,e,J,f⟩
def G7{o:fG}{a:Act}{K:Act->z7->Prop}
  (s x:Operand) (q:o.op = .call { callee := .builtin .append,args:=#[s,x],argTypes:=#[149,149] })
  (base b:Nat) (v u:zx) (acc l:List (Nat×Nat)) (hs:a.eval s=v) (hF:vr base w v acc) (hx:a.eval x=u) (n:vr b w u l) (t:acc.length+l.length<=2147483648) (c:base<=(w:Nat))
  (h:∀v' w',vr base w' v' (acc++l)->w.grownBy w' v.ownBlock->K (a.put o.dst v') w'):XM Tryz.prog o a w K Q:=by
 obtain⟨i,hi,D,h2,r⟩:=ki.info;have k:=n;rcases n.2 with⟨f,hn⟩|⟨g,cap,cur,f,E,F,C,z,A,G⟩
 .have B:l=[]:=zF hn;subst B;have hr:=run_append_owned_none (P:=Tryz.prog) (w:=w) base 149 o.type 72 i 2 ki.under hi v acc.length (kC acc) hF;unfold XM execOp;simp only[q,resolve,invoke,builtin,gF,yk7,F8,Ml,ve,YW,hs,hx,f,hr];exact h v w (by simpa using hF) (PA w _)
 .obtain⟨v',w',hr,k1,k2,_⟩:=run_append_own (P:=Tryz.prog) w base 149 o.type 72 i _ 2 16 ki.under hi D h2 r ki.UL ki.pos v acc.length (kC acc) hF ⟨g,0,none⟩ l.length cap (kC l) (BC l)
   (λj x hx=>by
    have p:j<(kC l).length:=(vq.1 hx).1;rw[vA,<-hx];rw[BC]at p;obtain⟨g',m,e,_,_,d⟩:=vK k J;rw[f]at e;cases e;exact d j p)
   (λx hx=>by
    simp only[kC,List.mem_flatMap]at hx;obtain⟨y,_,hy⟩:=hx;simp at hy;rcases hy with rfl|rfl<;>rfl) Z7 J c
  unfold XM execOp;simp only[q,resolve,invoke,builtin,gF,yk7,F8,Ml,ve,YW,hs,hx,f,hr];exact h v' w' (by unfold vr;rw[X9,zI];exact k1) k2
variable{v':zx}
def Oi(x:Fo):Zu x<=2:=by
 cases x<;>simp[Zu];split<;>decide
def xS.zy5(h:xS lo hi w W):xS lo hi w W.drew:=h
def Ih{s:DH}{room':Nat}{row:Option Nat}{l:List (Nat×Nat)}(h:Vc lo hi w0 B w s room W)(d:W.grownBy W' row)(b:∀k,row=some k->B+3<=k)
  (hf:vr (B+3) W' v' (s.2++l)) (hr:room'+l.length<=room):Vc lo hi w0 B w (s.1,s.2++l) room' (W'.setCell (B,0) v'):=by
 obtain⟨h1,h2,⟨nm,f,j⟩,⟨v,g,t⟩,i,m,u,n⟩:=h;have c:∀k,k<B+3->(some k:Option Nat)≠row:=λk q1 q2=>by have:=b k q2.symm;omega
 have o:B<(W:Nat):=Y W _ g;have hb:∀k,k<(W:Nat)->k<B+3->k≠B->(W'.setCell (B,0) v').heap[k]? = W.heap[k]? := λk q1 q2 r=>(zh _ _ _ _ r).trans (d.block k q1 (c k q2))
 have p:B+2<(W:Nat):=Y W _ i;have e:(W:Nat)<=(W'.setCell (zX B 0) v').heap.size:=zZ d.size (by simp[xW]);have c0:zy W' B 0 v:=d.cell g (c B J);refine⟨⟨zZ h1.1 e,λk k1 k2=>(hb k (by have:=h1.1;omega) J J).trans (h1.2 k k1 k2)⟩,h2,⟨nm,f.keep (hb (B+1) f.lt J J),J⟩,⟨v',by rw[zN,zl rfl,c0];rfl,?_⟩,
  (yZ (a:=(B+2,0)) (hb (B+2) p J J)).trans i,?_,?_,?_⟩
 .exact zk hf (a:=(B,0)) (by show B<B+3;omega) v'
 .rw[zO];exact(zb (a:=(zX B 0)) (d.block B o (c B J))).trans m
 .show(s.2++l).length+room'<=_;rw[zI];omega
 .exact vM (n.grown d J (λk q=>by have:=b k q;omega)) (X _)
def LZ{s:DH}{room' nm:Nat}{f:Wd->Option Nat}(h:Vc lo hi w0 B w s room W)(hm:jk 156 W' (B+1) (nm+1) f)(c:W.grownBy W' (some (B+1)))
  (hn:nm+room<=1000000000) (hr:room'+1<=room):Vc lo hi w0 B w (f,s.2) room' W':=by
 obtain⟨h1,h2,_,⟨v,d,e⟩,g,i,m,j⟩:=h;have b:∀k,k≠B+1->(some k:Option Nat)≠some (B+1):=λk q1 q2=>q1 (by cases q2;rfl)
 have l:B<(W:Nat):=Y W _ d;refine⟨⟨zZ h1.1 c.size,λk k1 k2=>(c.block k (by have:=h1.1;omega) (b k J)).trans (h1.2 k k1 k2)⟩,h2,⟨nm+1,hm,J⟩,⟨v,c.cell d (b B J),e.zy4 c J⟩,
  c.cell g (b (B+2) J),?_,by show s.2.length+room'<=_;omega,j.grown c J (λk q=>by cases q;omega)⟩
 exact(zb (a:=(B,0)) (c.block B l (b B J))).trans i
def zbf(x:Fo)(u:zx)(n:Wd)(a:Nat)(s:DH)(room:Nat)(W:z7)(hI:Vc lo hi w0 B w s (room+x.wt) W)(Cy:zt lo hi w0 [u] x)(SS:x.wf 2000000=true)(hh:zz2 x=some (n,a)) :
  zE Tryz.prog 61 #[u,.agg #[zv n,a],(B+2,0),(B,0)] W (yyv (Vc lo hi w0 B w) room (YD s x)):=by
 have HI:=Z hI;have HND:=Z Cy;have Nv:=Z SS;clear hI SS;cases x with
 |nil=>cases hh
 |text t r=>cases hh
 |hash r=>cases hh
 |uB k0 a0 m0 r0=>cases hh
 |put n0 a0 r =>
  obtain⟨vt,b0,he,qV,qX,FN,La,bA⟩:=Cy;obtain⟨rfl,rfl⟩:n=n0/\a=a0:=Rf;cases he;have e1:=Er b0;have HI:=Z (show Vc lo hi w0 B w s (room+1) W from HI.o);have hnl:n.length<=4000001:=p9;obtain⟨kv,v⟩:=zo (Zu (.put n a r));have g:=Z (λW' hk=>TQ (.put n a r) (.iface 170 (zX b0 0)) n a W' hk HND.o rfl);have lU:=Z v;rw[v]at g;clear v;go_enter func61,ntmps61;go_wp2_with fail;have E:yX W W (W.alloc (.cells #[zv n,a] 155)):=(z8 _ _).alloc (X _) _;have f:=λi=>zg W #[zv n,a] 155 (0,0) i
  have c:=HI.o.below E;obtain⟨W1,D⟩:=zo (W.alloc (.cells #[zv n,a] 155));rw[D]at f c|-;have S2:=f 0;have hh1:=f 1;clear D f E;refine(g.o W1 c.keep).mono ?_;rintro e M ⟨rfl,rfl⟩;obtain⟨nm,A,Cq⟩:=c.map;obtain⟨fv,S,p⟩:=c.row;obtain⟨fa,fc,rfl⟩:=zD p;have hlk:=A.look dQ n J;have hkc:=c.kc;have hfz:=c.fz;have yn3:=c.few;have JE:=Z c;have Q:=Z A;have O:=Z p;have OY:B+2<(M:Nat):=Y M _ hkc;clear c A p;obtain⟨T,q⟩:=zo ((s.1 n).getD 0);obtain⟨bb,m⟩:=zo ((s.1 n).isSome);rw[q,m]at hlk;have P:=Z q;have HBB:=Z m;clear q m g;have AN:kv=0:=lU.o.symm;subst AN;have HF:=Z (JE.o.less (room':=room) J);go_wp2;go_ret;have hch:YD s (.put n a r) = .go true s:=by show Out.go true (uL s n a 0)=_;unfold uL;simp
  exact RV
 |num n0 a0 r =>
  obtain⟨vt,b0,he,qV,qX,FN,La,bA⟩:=Cy;obtain⟨rfl,rfl⟩:n=n0/\a=a0:=Rf;cases he;have e1:=eL b0;have HI:=Z (show Vc lo hi w0 B w s (room+1) W from HI.o);have hnl:n.length<=4000001:=p9;obtain⟨kv,v⟩:=zo (Zu (.num n a r));have g:=Z (λW' hk=>TQ (.num n a r) (.iface 173 (zX b0 0)) n a W' hk HND.o rfl);have lU:=Z v;rw[v]at g;clear v;go_enter func61,ntmps61;go_wp2_with fail;have E:yX W W (W.alloc (.cells #[zv n,a] 155)):=(z8 _ _).alloc (X _) _;have f:=λi=>zg W #[zv n,a] 155 (0,0) i
  have c:=HI.o.below E;obtain⟨W1,D⟩:=zo (W.alloc (.cells #[zv n,a] 155));rw[D]at f c|-;have S2:=f 0;have hh1:=f 1;clear D f E;refine(g.o W1 c.keep).mono ?_;rintro e M ⟨rfl,rfl⟩;obtain⟨nm,A,Cq⟩:=c.map;obtain⟨fv,S,p⟩:=c.row;obtain⟨fa,fc,rfl⟩:=zD p;have hlk:=A.look dQ n J;have hkc:=c.kc;have hfz:=c.fz;have yn3:=c.few;have JE:=Z c;have Q:=Z A;have O:=Z p;have OY:B+2<(M:Nat):=Y M _ hkc;clear c A p;obtain⟨T,q⟩:=zo ((s.1 n).getD 0);obtain⟨bb,m⟩:=zo ((s.1 n).isSome);rw[q,m]at hlk;have P:=Z q;have HBB:=Z m;clear q m g;have yxy:kv≠0:=by rw[<-lU.o];exact Nat.one_ne_zero
  have xbk:kv<=2:=by rw[<-lU.o];exact Oi _
  have j1:((kv:Int) !=0)=true:=zV;have j1':((kv:Int)==0)=false:=zV;have I:=Z yxy;cases bb with
  |false =>
   obtain⟨N,we,LY,Vy⟩:=Q.o.put dQ n J (kv:Int) kv rfl J J;have bd:=Z (show uL s n a kv=(λy=>if n=y then some kv else s.1 y,s.2)by unfold uL;rw[zL (λe=>sW),zl I.o]);exact sR
  |true =>
   by_cases b:T=kv
   .have j2:((T:Int) !=(kv:Int))=false:=(by simp[b]);have j3:(T !=kv)=false:=(by simp[b]);have d:=Z b;clear b;obtain⟨N,we,LY,Vy⟩:=Q.o.put dQ n J (kv:Int) kv rfl J J;have bd:=Z (show uL s n a kv=(λy=>if n=y then some kv else s.1 y,s.2)by unfold uL;rw[zL (λe=>e.2.2 (by rw[P.o];exact d.o)),zl I.o]);exact sR
   .have j2:((T:Int) !=(kv:Int))=true:=(by simp;omega);have j3:(T !=kv)=true:=(by simp[b]);have d:=Z b;clear b;go_wp2_with (at_builtin;refine uI ?_);intro W3 fE;have C:zJ M W3:=D2;have ND:=λi=>zg M #[.int .i64 5,a] 72 (0,0) i
    rw[<-fE]at ND;have HI3:=Z (JE.o.below C);have H:=(C.cell (Y _ _ S)).trans S;have HO3:=Z (O.o.Uc C);have zjk:=C.size;clear fE;refine vY ki rfl _ _ rfl (B+3) _ s.2.length (kC s.2) rfl HO3.o ⟨(M:Nat),0,none⟩ 1 1 [.int .i64 5,.int .i64 a] rfl rfl Lu ?w5V2 J J ?w5V3
    case w5V2 =>
     exact Ef
    intro v4 w4 CZ Vy;have L:vr (B+3) w4 v4 (s.2++[(5,a)]):=oZ;have uT:∀k,(yI fa s.2.length fc).ownBlock=some k->B+3<=k:=λk hk=>(O.o.lt k hk).1
    have fH:∀k,k<B+3->(some k:Option Nat)≠(yI fa s.2.length fc).ownBlock:=λk h1 h2=>R2
    have q4:=Vy.cell H (fH B J);have z4:w4.frozen? (zX B 0)=false:=(zb (a:=(zX B 0)) (Vy.block B (Y _ _ H) (fH B J))).trans HI3.o.fz;have bd:=Z (show uL s n a kv=(s.1,s.2++[(5,a)])by unfold uL;rw[zl ⟨I.o,HBB.o,λe=>d.o (P.o.symm.trans e)⟩]);have HF:=Z (Ih (l:=[(5,a)]) (room':=room) HI3.o Vy uT L DE);obtain⟨fa4,fc4,rfl⟩:=zD L;obtain⟨N,R⟩:=zo (w4.setCell (zX B 0) (.slice fa4 (s.2.length+1) fc4));have z:(s.2++[(5,a)]).length=s.2.length+1:=zY;rw[z,R]at HF;have N8:=Z R;clear CZ Vy uT L fH H HO3 z;go_wp2;go_ret;have hch:YD s (.num n a r) = .go true ((s.1,s.2++[(5,a)]):DH):=(by show Out.go true (uL s n a 1)=_;rw[show(1:Nat)=kv from lU.o,bd.o]);exact RV
 |br n0 a0 fo of cl bs r =>
  obtain⟨vt,b0,ba,bc,ws,he,qV,qX,FN,La,I9,SD,Lc,Tf,EX,EV,bA⟩:=Cy;obtain⟨rfl,rfl⟩:n=n0/\a=a0:=Rf;cases he;have e1:=KH b0;have HI:=Z (show Vc lo hi w0 B w s (room+(2+bs.len)) W from HI.o);have hnl:n.length<=4000001:=by have:=Nv.o;simp[Fo.wf]at this;exact this.1.1.1.1.1
  have Tb:=Z (show zt lo hi w0 [.iface 159 (zX b0 0)] (.br n a fo of cl bs .nil) from⟨[],b0,ba,bc,ws,rfl,qV,qX,FN,La,I9,SD,Lc,Tf,EX,EV,rfl⟩);have yxx:=Z (show(Fo.br n a fo of cl bs .nil).wf 2000000=true by have:=Nv.o;simp[Fo.wf]at this|-;exact this.1);obtain⟨kv,v⟩:=zo (Zu (.br n a fo of cl bs r));have g:=Z (λW' hk=>TQ (.br n a fo of cl bs r) (.iface 159 (zX b0 0)) n a W' hk HND.o rfl);have lU:=Z v;rw[v]at g;clear v;go_enter func61,ntmps61;go_wp2_with fail;have E:yX W W (W.alloc (.cells #[zv n,a] 155)):=(z8 _ _).alloc (X _) _;have f:=λi=>zg W #[zv n,a] 155 (0,0) i
  have c:=HI.o.below E;obtain⟨W1,D⟩:=zo (W.alloc (.cells #[zv n,a] 155));rw[D]at f c|-;have S2:=f 0;have hh1:=f 1;clear D f E;refine(g.o W1 c.keep).mono ?_;rintro e M ⟨rfl,rfl⟩;obtain⟨nm,A,Cq⟩:=c.map;obtain⟨fv,S,p⟩:=c.row;obtain⟨fa,fc,rfl⟩:=zD p;have hlk:=A.look dQ n J;have hkc:=c.kc;have hfz:=c.fz;have yn3:=c.few;have JE:=Z c;have Q:=Z A;have O:=Z p;have OY:B+2<(M:Nat):=Y M _ hkc;clear c A p;obtain⟨T,q⟩:=zo ((s.1 n).getD 0);obtain⟨bb,m⟩:=zo ((s.1 n).isSome);rw[q,m]at hlk;have P:=Z q;have HBB:=Z m;clear q m g;have yxy:kv≠0:=by rw[<-lU.o];by_cases h:fo=0<;>simp[Zu,h]
  have xbk:kv<=2:=by rw[<-lU.o];exact Oi _
  have j1:((kv:Int) !=0)=true:=zV;have j1':((kv:Int)==0)=false:=zV;have I:=Z yxy;cases bb with
  |false =>
   obtain⟨N,we,LY,Vy⟩:=Q.o.put dQ n J (kv:Int) kv rfl J J;have bd:=Z (show uL s n a kv=(λy=>if n=y then some kv else s.1 y,s.2)by unfold uL;rw[zL (λe=>sW),zl I.o]);have HF:=Z (LZ JE.o LY Vy (room':=(room+1+bs.len)) Cq J);clear LY Vy;obtain⟨s1,G⟩:∃s1:DH,((λy=>if n=y then some kv else s.1 y,s.2):DH)=s1:=⟨_,rfl⟩;rw[G]at bd HF;clear G;go_wp2_with fail;have q1:=HF.o.row;obtain⟨v1,q2,H⟩:=q1;obtain⟨fa1,fc1,rfl⟩:=zD H;have U:=Z (λW' hk=>XJ b0 n a fo of cl bs W' hk Tb.o yxx.o);have HQ3:=Z H;refine PG (λW':z7=>zy W' B 0 (.slice fa1 (s1).2.length fc1)) 4 [0,1] 3 q2 ?_;refine UG 2 (λK hK=>?_);go_simp;refine(U.o N.drew HF.o.keep.zy5).mono ?_;rintro e W5 ⟨⟨vb,rfl,F⟩,Xv⟩;have Fj:zJ N W5:=(z8 _ N).drew.trans Xv;have j:=HF.o.below Fj;have q5:zy W5 B 0 (.slice fa1 (s1).2.length fc1):=(Fj.cell (Y _ _ q2)).trans q2;have q6:=HQ3.o.Uc Fj;have z5:=j.fz;have HI5:=Z j;have V:=Z F;clear j F;refine hK.out _ _ q5 λ_=>?_;clear hK K;refine UG 3 (λK hK=>?_);rw[zl (by rfl)];refine G7 _ _ rfl (B+3) _ _ vb (s1).2 (FM cl [] [] bs) rfl q6 rfl V.o ?w8X1 Sy ?w8X3
   case w8X1 =>
    exact Pw
   case w8X3 =>
    exact Rs
  |true =>
   by_cases b:T=kv
   .have j2:((T:Int) !=(kv:Int))=false:=(by simp[b]);have j3:(T !=kv)=false:=(by simp[b]);have d:=Z b;clear b;obtain⟨N,we,LY,Vy⟩:=Q.o.put dQ n J (kv:Int) kv rfl J J;have bd:=Z (show uL s n a kv=(λy=>if n=y then some kv else s.1 y,s.2)by unfold uL;rw[zL (λe=>e.2.2 (by rw[P.o];exact d.o)),zl I.o]);have HF:=Z (LZ JE.o LY Vy (room':=(room+1+bs.len)) Cq J);clear LY Vy;obtain⟨s1,G⟩:∃s1:DH,((λy=>if n=y then some kv else s.1 y,s.2):DH)=s1:=⟨_,rfl⟩;rw[G]at bd HF;clear G;go_wp2_with fail;have q1:=HF.o.row;obtain⟨v1,q2,H⟩:=q1;obtain⟨fa1,fc1,rfl⟩:=zD H;have U:=Z (λW' hk=>XJ b0 n a fo of cl bs W' hk Tb.o yxx.o);have HQ3:=Z H;refine PG (λW':z7=>zy W' B 0 (.slice fa1 (s1).2.length fc1)) 4 [0,1] 3 q2 ?_;refine UG 2 (λK hK=>?_);go_simp;refine(U.o N.drew HF.o.keep.zy5).mono ?_;rintro e W5 ⟨⟨vb,rfl,F⟩,Xv⟩;have Fj:zJ N W5:=(z8 _ N).drew.trans Xv;have j:=HF.o.below Fj;have q5:zy W5 B 0 (.slice fa1 (s1).2.length fc1):=(Fj.cell (Y _ _ q2)).trans q2;have q6:=HQ3.o.Uc Fj;have z5:=j.fz;have HI5:=Z j;have V:=Z F;clear j F;refine hK.out _ _ q5 λ_=>?_;clear hK K;refine UG 3 (λK hK=>?_);rw[zl (by rfl)];refine G7 _ _ rfl (B+3) _ _ vb (s1).2 (FM cl [] [] bs) rfl q6 rfl V.o ?w9X1 Sy ?w9X3
    case w9X1 =>
     exact Pw
    case w9X3 =>
     exact Rs
   .have j2:((T:Int) !=(kv:Int))=true:=(by simp;omega);have j3:(T !=kv)=true:=(by simp[b]);have d:=Z b;clear b;go_wp2_with (at_builtin;refine uI ?_);intro W3 fE;have C:zJ M W3:=D2;have ND:=λi=>zg M #[.int .i64 5,a] 72 (0,0) i
    rw[<-fE]at ND;have HI3:=Z (JE.o.below C);have H:=(C.cell (Y _ _ S)).trans S;have HO3:=Z (O.o.Uc C);have zjk:=C.size;clear fE;refine vY ki rfl _ _ rfl (B+3) _ s.2.length (kC s.2) rfl HO3.o ⟨(M:Nat),0,none⟩ 1 1 [.int .i64 5,.int .i64 a] rfl rfl Lu ?w10V2 J J ?w10V3
    case w10V2 =>
     exact Ef
    intro v4 w4 CZ Vy;have L:vr (B+3) w4 v4 (s.2++[(5,a)]):=oZ;have uT:∀k,(yI fa s.2.length fc).ownBlock=some k->B+3<=k:=λk hk=>(O.o.lt k hk).1
    have fH:∀k,k<B+3->(some k:Option Nat)≠(yI fa s.2.length fc).ownBlock:=λk h1 h2=>R2
    have q4:=Vy.cell H (fH B J);have z4:w4.frozen? (zX B 0)=false:=(zb (a:=(zX B 0)) (Vy.block B (Y _ _ H) (fH B J))).trans HI3.o.fz;have bd:=Z (show uL s n a kv=(s.1,s.2++[(5,a)])by unfold uL;rw[zl ⟨I.o,HBB.o,λe=>d.o (P.o.symm.trans e)⟩]);have HF:=Z (Ih (l:=[(5,a)]) (room':=(room+1+bs.len)) HI3.o Vy uT L DE);obtain⟨fa4,fc4,rfl⟩:=zD L;obtain⟨N,R⟩:=zo (w4.setCell (zX B 0) (.slice fa4 (s.2.length+1) fc4));have z:(s.2++[(5,a)]).length=s.2.length+1:=zY;rw[z,R]at HF;have N8:=Z R;clear CZ Vy uT L fH H HO3 z;obtain⟨s1,G⟩:∃s1:DH,((s.1,s.2++[(5,a)]):DH)=s1:=⟨_,rfl⟩;rw[G]at bd HF;clear G;go_wp2_with fail;clear R;have q1:=HF.o.row;obtain⟨v1,q2,H⟩:=q1;obtain⟨fa1,fc1,rfl⟩:=zD H;have U:=Z (λW' hk=>XJ b0 n a fo of cl bs W' hk Tb.o yxx.o);have HQ3:=Z H;refine PG (λW':z7=>zy W' B 0 (.slice fa1 (s1).2.length fc1)) 4 [0,1] 3 q2 ?_;refine UG 2 (λK hK=>?_);go_simp;refine(U.o N.drew HF.o.keep.zy5).mono ?_;rintro e W5 ⟨⟨vb,rfl,F⟩,Xv⟩;have Fj:zJ N W5:=(z8 _ N).drew.trans Xv;have j:=HF.o.below Fj;have q5:zy W5 B 0 (.slice fa1 (s1).2.length fc1):=(Fj.cell (Y _ _ q2)).trans q2;have q6:=HQ3.o.Uc Fj;have z5:=j.fz;have HI5:=Z j;have V:=Z F;clear j F;refine hK.out _ _ q5 λ_=>?_;clear hK K;refine UG 3 (λK hK=>?_);rw[zl xK];refine G7 _ _ rfl (B+3) _ _ vb (s1).2 (FM cl [] [] bs) rfl q6 rfl V.o ?w10X1 Sy ?w10X3
    case w10X1 =>
     exact Pw
    case w10X3 =>
     exact Rs
def XG(m:Nat×Nat)(l:List (Nat×Nat)):Nat×Nat:=l.foldl (λm x=>if x.2<m.2 then x else m) m
abbrev TK(x:Nat×Nat):zx := .agg #[(x.1:Nat),(x.2:Nat)]
def TJ(x y:Nat×Nat)(w:z7):zE Tryz.prog 65 #[TK x,TK y] w λe w'=>e = .returned (.int .i64 (XI (x.2:Nat) (y.2:Nat)))/\zJ w w':=by
 have a:=Z (λW=>Tryz.cmp_Compare_int (x.2:Nat) (y.2:Nat) W);go_enter func65,ntmps65;go_wp2_with fail;refine(a.o _).mono ?_;rintro e w' ⟨rfl,rfl⟩;go_wp2;go_ret;exact rB
def BE(l:List (Nat×Nat))(i:Nat)(h:i<l.length):(kC l)[i*2]? = some (.int .i64 (l[i].1:Nat))/\(kC l)[i*2+1]? = some (.int .i64 (l[i].2:Nat)):=by
 induction l generalizing i with
 |nil=>simp at h
 |cons a t b =>
  cases i with
  |zero=>exact⟨rfl,rfl⟩
  |succ i =>
   have:=b i (by simpa using h);have e1:(i+1)*2=i*2+2:=J;have e2:kC (a::t) = .int .i64 (a.1:Nat) :: .int .i64 (a.2:Nat)::kC t:=rfl;rw[e1,e2];simpa using this
def iz(m:Nat×Nat)(l:List (Nat×Nat))(i:Nat)(h:i<l.length):XG m (l.take (i+1))=if l[i].2<(XG m (l.take i)).2 then l[i]else XG m (l.take i):=by
 unfold XG;rw[zr h,kS];rfl
def Ol(x:Nat×Nat)(l:List (Nat×Nat))(base:Nat)(v:zx)(w:z7)(hl:l.length<=2000000000)(hF:vr base w v (x::l)) :
  zE Tryz.prog 64 #[v,.func (.func 65) #[] #[]] w λe w'=>e = .returned (TK (XG x l))/\zJ w w':=by
 obtain⟨g,cap,rfl,hg1,oO,f⟩:=vK hF zY;obtain⟨n,hn⟩:=zo ((x::l).length);have tX:=λ(args:Array zx) (w:z7)=>enters_of func65 yy rfl args w
 have c:=Z (λi (h:i<(x::l).length)=>qZ ((f (i*2) J).trans (BE (x::l) i h).1) ((f (i*2+1) J).trans (BE (x::l) i h).2));have b:=(c.o 0 zY).1;have d:=(c.o 0 zY).2;simp only[Nat.zero_mul,V9,PT]at b d;obtain⟨x1,x2⟩:=x;have Q:n=l.length+1:=by rw[<-hn];simp
 have j1:decide ((n:Int)<1)=false:=zV;have HN:=Z hn;rw[hn];have HN1:=Z Q;have hz:1<=n:=J;have Vk:n<=2000000001:=J;have O:g<(w:Nat):=oO;clear hF f hn Q;have E:yX w w ((w.alloc (.cells #[.int .i64 0,.int .i64 0] 72)).alloc (.cells #[x1,x2] 72)):=((z8 _ _).alloc (X _) _).alloc zY _;have z:=λi=>zg (w.alloc (.cells #[.int .i64 0,.int .i64 0] 72)) #[x1,x2] 72 (0,0) i
 have q:∀i,((w.alloc (.cells #[.int .i64 0,.int .i64 0] 72)).alloc (.cells #[x1,x2] 72)).cell? ⟨(w:Nat),i,none⟩=(#[.int .i64 0,.int .i64 0]:Array zx)[i]? := λi=>by
  rw[za _ _ _ (by show (w:Nat)<_;simp)];exact zg w _ _ _ _
 rw[show(w.alloc (.cells #[.int .i64 0,.int .i64 0] 72)).heap.size=(w:Nat)+1 by simp]at z;have s:∀i,((w.alloc (.cells #[.int .i64 0,.int .i64 0] 72)).alloc (.cells #[x1,x2] 72)).frozen? ⟨(w:Nat)+1,i,none⟩=false:=λi=>by
  rw[show (w:Nat)+1=(w.alloc (.cells #[.int .i64 0,.int .i64 0] 72)).heap.size by simp];simp
 have r:∀i,((w.alloc (.cells #[.int .i64 0,.int .i64 0] 72)).alloc (.cells #[x1,x2] 72)).frozen? ⟨(w:Nat),i,none⟩=false:=λi=>by
  rw[zb (xA _ _ _ (by show (w:Nat)<_;simp))];simp
 obtain⟨W0,D⟩:=zo ((w.alloc (.cells #[.int .i64 0,.int .i64 0] 72)).alloc (.cells #[x1,x2] 72));rw[D]at E z q r s;obtain⟨S,V,I,L,T,U⟩:=l6 E D z q r s;clear E z q r s D;go_enter func64,ntmps64;go_wp2_with fail;clear b d;go_loopw [6] (λiv wr=>∃(i:Nat) (m:Nat×Nat),iv = .int .i64 (i:Nat)/\1<=i/\i<=n/\XG (x1,x2) (l.take (i - 1))=m/\zy wr ((w:Nat)+1) 0 (m.1:Nat)/\zy wr ((w:Nat)+1) 1 (m.2:Nat)/\(∀i,wr.frozen? ⟨(w:Nat)+1,i,none⟩=false) /\
  (∃u v,zy wr (w:Nat) 0 u/\zy wr (w:Nat) 1 v)/\(∀i,wr.frozen? ⟨(w:Nat),i,none⟩=false)/\zJ w wr) (λiv _=>n - (intOf iv).toNat)
 case atStart =>
  rw[V.o];exact⟨1,(x1,x2),rfl,X _,hz,rfl,I.o 0,I.o 1,U.o,⟨_,_,L.o 0,L.o 1⟩,T.o,S.o⟩
 case round =>
  obtain⟨i,m,rfl,lS,EJ,hm,b,d,R,⟨u0,v0,q,F⟩,A,N⟩:=hrel;obtain⟨m1,m2⟩:=m;dsimp only at b d;obtain⟨HM,aA,HZ0,t⟩:=hdd hm R A N;clear hm N;by_cases ud:i<n
  .have k2:decide ((i:Int)<(n:Int))=true:=(by simp;omega);have C:i<((x1,x2)::l).length:=gA;obtain⟨d0,d1⟩:=c.o i C;have P:((x1,x2)::l)[i]=l[i - 1]' ID:=by
    obtain⟨k,rfl⟩:∃k,i=k+1:=⟨i - 1,J⟩;simp
   rw[P]at d0 d1;obtain⟨y,hy⟩:∃y,l[i - 1]' ID=y:=⟨_,rfl⟩;rw[hy]at d0 d1;have sC:=Z (show XG (x1,x2) (l.take i)=if y.2<m2 then y else (m1,m2) by
    have h:=iz (x1,x2) l (i - 1) ID;rw[show i - 1+1=i by omega,HM.o,hy]at h;exact h)
   obtain⟨y1,y2⟩:=y;dsimp only at d0 d1 sC;have e0:=(t.o.cell (p:=(zX g (i*2))) O).trans d0;have e1:=(t.o.cell (p:=(zX g (i*2+1))) O).trans d1;have hCM:=Z (λW=>TJ (y1,y2) (m1,m2) W);have M:zy wr.drew g (i*2) y1/\zy wr.drew g (i*2+1) y2/\zy wr.drew ((w:Nat)+1) 0 m1/\zy wr.drew ((w:Nat)+1) 1 m2:=⟨e0,e1,b,d⟩;clear d0 d1 hy P C;go_wp2_with fail;refine bW (λW':z7=>zy W' g (i*2) y1/\zy W' g (i*2+1) y2/\zy W' ((w:Nat)+1) 0 m1/\zy W' ((w:Nat)+1) 1 m2) [0,1,2,3,4,5] 2 M ?_;refine bF 6 (λK hK=>?_);go_simp;refine(hCM.o wr.drew).mono ?_;rintro e w2 ⟨rfl,qX⟩;have a:zJ wr w2:=(z8 _ wr).drew.trans qX;have G:(w:Nat)+1<(wr:Nat):=Y _ _ b;have CD:(y2<m2/\XI (y2:Int) (m2:Int) = -1)\/(¬y2<m2/\XI (y2:Int) (m2:Int)=0)\/(¬y2<m2/\XI (y2:Int) (m2:Int)=1):=by
    unfold XI;by_cases h:(y2:Int)<(m2:Int)
    .exact .inl ⟨J,zl h⟩
    .by_cases h2:(y2:Int) > (m2:Int)
     .exact .inr (.inr ⟨J,by rw[zL h,zl h2]⟩)
     .exact .inr (.inl ⟨J,by rw[zL h,zL h2]⟩)
   dsimp only;have f0:=(a.cell (p:=((w:Nat)+1,0)) G).trans b;have f1:=(a.cell (p:=((w:Nat)+1,1)) G).trans d;have f2:=(a.cell (p:=⟨g,i*2,none⟩) (by show g<_;omega)).trans e0;have f3:=(a.cell (p:=⟨g,i*2+1,none⟩) (by show g<_;omega)).trans e1;have g0:=(a.cell (p:=(w,0)) S9).trans q;have g1:=(a.cell (p:=(w,1)) (by show (w:Nat)<_;omega)).trans F;have z1:∀i,w2.frozen? ⟨(w:Nat)+1,i,none⟩=false:=λi=>(a.frozen (p:=⟨(w:Nat)+1,i,none⟩) G).trans (aA.o i)
   have z0:∀i,w2.frozen? ⟨(w:Nat),i,none⟩=false:=λi=>(a.frozen (p:=⟨(w:Nat),i,none⟩) S9).trans (HZ0.o i)
   have ybg:=t.o.trans (a.mono J);have ybk:=Z z1;have ybj:=Z z0;have y0:=z1 0;have y1':=z1 1;clear z1 z0 M e0 e1 b d q F a;rcases CD with⟨hy,CD⟩|⟨hy,CD⟩|⟨hy,CD⟩
   .rw[CD];have HS:=Z (sC.o.trans (zl hy));clear CD hy;refine hK.out _ _ ⟨f2,f3,f0,f1⟩ λ_=>?_;clear hK K;refine Xo [7] 0 ⟨f2,f3,f0,f1⟩ ?_;refine fR ?_ _;go_wp2;go_roundw
    case rel =>
     exact⟨i+1,(y1,y2),zY,J,J,by rw[Vs];exact HS.o,by rw[zN,zL zY,zN,zl rfl,f0];rfl,by rw[zN,zl rfl,zN,zL zY,f1];rfl,
      λj=>by rw[zO,zO];exact ybk.o j,⟨_,_,(by rw[zN,zL zY,zN,zL zY];exact g0),(by rw[zN,zL zY,zN,zL zY];exact g1)⟩,
      λj=>by rw[zO,zO];exact ybj.o j,vM (vM ybg J) J⟩
    case measure=>simp only[intOf];omega
   .exact sB
   .exact sB
  .have k2:decide ((i:Int)<(n:Int))=false:=(by simp;omega);have B:XG (x1,x2) l=(m1,m2):=by
    rw[<-HM.o,xJ ID]
   have H:=Z B;have z00:=A 0;have z01:=A 1;clear B A R;have k0:zy ((wr.setCell (zX (w:Nat) 0) m1).setCell (zX (w:Nat) 1) m2) (w:Nat) 0 m1:=(by rw[zN,zL zY,zN,zl rfl,q];rfl);have k1:zy ((wr.setCell (zX (w:Nat) 0) m1).setCell (zX (w:Nat) 1) m2) (w:Nat) 1 m2:=(by rw[zN,zl rfl,zN,zL zY,F];rfl);go_wp2;refine zU (v := .agg #[m1,m2]) ?_ rfl ?_
   .simp[yk,results64,go_sem,k0,k1]
   rw[H.o];exact⟨rfl,vM (vM t.o (X _)) (X _)⟩
def TG(s:DH)(x:Fo):∃s',YD s x = .go true s':=by
 cases x<;>exact⟨_,rfl⟩
def gY:∀(f:Fo) (s:DH),∃s',vG YD f s = .go true s'
 |.nil,s=>⟨s,rfl⟩
 |.text _ r,s=>gY r s
 |.hash r,s=>gY r s
 |.put n a r,s=>by
  obtain⟨b,h1⟩:=TG s (.put n a .nil);rw[vG,h1];exact gY r b
 |.num n a r,s=>by
  obtain⟨b,h1⟩:=TG s (.num n a .nil);rw[vG,h1];exact gY r b
 |.br n a f o c d r,s=>by
  obtain⟨b,h1⟩:=TG s (.br n a f o c d .nil);obtain⟨e,h2⟩:=gY d b;rw[vG,h1];show ∃s',(vG YD d b).then _=_;rw[h2];exact gY r e
 |.uB k a m r,s=>by
  obtain⟨b,h1⟩:=gY m s;rw[vG,h1];exact gY r b
def Zn(f:Fo):List (Nat×Nat):=match vG YD f (λ_=>none,[])with |.go _ s=>s.2 |.pan _ s=>s.2
def V7(f:Fo):Option (Nat×Nat):=match Zn f with |[]=>none|x::l=>some (XG x l)
def xbj(r:Option (Nat×Nat))(w:z7)(e:gG)(w':z7):Prop :=
 (match r with
  |none=>e = .returned .nilIface
  |some (n,a)=>∃b,e = .returned (.iface 68 (.pointer (some ⟨b,0,none⟩)))/\zy w' b 0 n/\zy w' b 1 a)/\zJ w w'
def iy(f:Fo)(a:Option yi)(c:Nat)(vs:List zx)(w:z7)(hm:f.vS=true)(hw:f.wf 2000000=true)(hl:f.len<=2000000)(hc:f.cnt<=1000000000)(t:QJ lo hi w a vs)(r:zt lo hi w vs f)(pX:hi<=(w:Nat)) :
  zE Tryz.prog 38 #[.slice a f.len c] w (xbj (V7 f) w):=by
 have lY:=@run_makeMap Tryz.prog;have hmf:∀(fn:Fn) (first cap:Array zx) (w:z7),(gP fn first cap).run Tryz.prog w = .ok (.func fn first cap) w:=λ_ _ _ _=>rfl
 obtain⟨B,hB⟩:=zo (w:Nat);have HB:=Z hB;have R:Tq lo hi w (.func (.func 61) #[] #[(B+2,0),(B,0)]) (Vc lo hi w B w) YD :=
  ⟨⟨_,_,rfl,λargs w=>enters_of func61 yy rfl args w,λs room W x u n a I M O hh=>zbf x u n a s room W I M O hh⟩,λs b W h=>h.keep,λs b W W' h hb=>h.below hb,λs b b' W h hb=>h.less hb⟩
 have G:=Z (λW I=>OT R (zW f+1) f (xf _) hm hw hl ((λ_=>none),[]) 0 W a c vs I t r);obtain⟨s,hs⟩:=gY f ((λ_=>none),[]);rw[hs]at G;have D:Zn f=s.2:=by unfold Zn;rw[hs]
 have y:=Z (show V7 f=match s.2 with |[]=>none|x::l=>some (XG x l)by unfold V7;rw[D]);have N:∀U V o3,((w.alloc U).alloc V).alloc o3=((w.alloc U).alloc V).alloc o3:=λ_ _ _=>rfl
 have A:Vc lo hi w B w ((λ_=>none),[]) (0+f.cnt) (((w.alloc (.cells #[.slice none 0 0] 149)).alloc (.map #[] 0)).alloc (.cells #[.map (some (B+1))] 150)):=by
  have h1:(w.alloc (.cells #[.slice none 0 0] 149)).heap.size=B+1:=by simp[hB]
  have h2:((w.alloc (.cells #[.slice none 0 0] 149)).alloc (.map #[] 0)).heap.size=B+2:=by simp[hB]
  have b1:yX w w (w.alloc (.cells #[.slice none 0 0] 149)):=(z8 _ _).alloc (X _) _;have b2:=λo=>(z8 (w.alloc (.cells #[.slice none 0 0] 149)).heap.size (w.alloc (.cells #[.slice none 0 0] 149))).alloc (X _) o
  have b3:=λo=>(z8 ((w.alloc (.cells #[.slice none 0 0] 149)).alloc (.map #[] 0)).heap.size ((w.alloc (.cells #[.slice none 0 0] 149)).alloc (.map #[] 0))).alloc (X _) o
  have Q:=(b1.trans ((b2 (.map #[] 0)).mono J)).trans ((b3 (.cells #[.map (some (B+1))] 150)).mono J);have c1:=zg w #[.slice none 0 0] 149 (0,0) 0;rw[hB]at c1;have P:(w.alloc (.cells #[.slice none 0 0] 149)).frozen? (zX B 0)=false:=by rw[<-hB];simp
  have c2:=jk.made 156 (w.alloc (.cells #[.slice none 0 0] 149));rw[h1]at c2;have c3:=zg ((w.alloc (.cells #[.slice none 0 0] 149)).alloc (.map #[] 0)) #[.map (some (B+1))] 150 (0,0) 0;rw[h2]at c3;refine⟨(vX J).below Q,J,⟨0,c2.below (b3 _),J⟩,⟨.slice none 0 0,?_,yr _ _ _ _⟩,c3,?_,zV,by have h:=Q;rw[hB]at h;exact h⟩
  .rw[(b3 _).cell (p:=(zX B 0)) (by show B<_;omega),(b2 _).cell (p:=(zX B 0)) (by show B<_;omega)];exact c1
  .rw[(b3 _).frozen (p:=(zX B 0)) (by show B<_;omega),(b2 _).frozen (p:=(zX B 0)) (by show B<_;omega)];exact P
 have z:=Z A;clear A hs D R N t r;go_enter func38,ntmps38;go_wp2_with fail;refine(G.o _ z.o).mono ?_;rintro e w2 ⟨rfl,j⟩;obtain⟨v,hc,hF⟩:=j.row;obtain⟨fa,fc,rfl⟩:=zD hF;have HF:=Z hF;have d:zJ w w2:=by rw[HB.o];exact j.bel
 have k:=j.few;clear j hF G z;obtain⟨s1,l⟩:=s;dsimp only at *;cases l with
 |nil =>
  have F:=Z (show V7 f=none from y.o);go_wp2;go_ret;rw[F.o];exact⟨rfl,d⟩
 |cons x l =>
  have F:=Z (show V7 f=some (XG x l)from y.o);have q:(x::l).length=l.length+1:=rfl;rw[q]at hc;have j1:(((l.length+1:Nat):Int)==0)=false:=zV;have H:=Z (Ol x l (B+3) (.slice fa (l.length+1) fc) w2 (by simp at k;omega) HF.o);clear q k;go_wp2_with fail;refine H.o.mono ?_;rintro e w3 ⟨rfl,L⟩;obtain⟨m,E⟩:=zo (XG x l);obtain⟨S,T⟩:=m;rw[E]at F|-;clear E;have g:=d.trans (L.mono d.size);have K:=(z8 (w3:Nat) w3).alloc (X _) (.cells #[S,T] 72);have C:=λi=>zg w3 #[S,T] 72 (0,0) i
  go_wp2;go_ret;rw[F.o];exact⟨⟨_,rfl,C 0,C 1⟩,g.trans (K.mono g.size)⟩
variable{f:Fo}{r:Int}{l:List UInt8}{N j n:Nat}
def Fo.Jv:∀f g:Fo,f.wf N=true->g.wf N=true->(f.app g).wf N=true
 |.nil,g,_,h=>h
 |.text t r,g,h,h2=>Fo.Jv r g h h2
 |.hash r,g,h,h2=>Fo.Jv r g h h2
 |.put n a r,g,h,h2=>Wi
 |.num n a r,g,h,h2=>Wi
 |.br n a f o c b r,g,h,h2=>Wi
 |.uB k a m r,g,h,h2=>Wi
def Fo.U4:∀f g:Fo,(f.app g).cnt=f.cnt+g.cnt
 |.nil,g=>by simp[Fo.app,Fo.cnt]
 |.text t r,g=>Fo.U4 r g
 |.hash r,g=>Fo.U4 r g
 |.put n a r,g=>Iv
 |.num n a r,g=>Iv
 |.br n a f o c b r,g=>Iv
 |.uB k a m r,g=>Iv
structure jE(f:Fo)(n:Nat):Prop where
 msg:f.vS=true
 wf:f.wf 2000000=true
 len:f.len<=n
 cnt:f.cnt<=n
def jE.nil:jE .nil 0:=⟨rfl,rfl,X _,X _⟩
def jE.app{g:Fo}{m:Nat}(h:jE f n)(k:jE g m):jE (f.app g) (n+m) :=
 ⟨Fo.kX _ _ h.msg k.msg,Fo.Jv _ _ h.wf k.wf,by rw[Fo.jZ];have:=h.len;have:=k.len;omega,by rw[Fo.U4];have:=h.cnt;have:=k.cnt;omega⟩
def jE.text(t:Wd):jE (.text t .nil) 1:=⟨rfl,rfl,X _,zG _⟩
def jE.more{m:Nat}(h:jE f n)(k:n<=m):jE f m:=⟨h.msg,h.wf,zZ h.len k,zZ h.cnt k⟩
def I8:∀(f g:Fo),(f.app g).wf N=true->f.wf N=true
 |.nil,g,_=>rfl
 |.text t r,g,h=>I8 r g h
 |.hash r,g,h=>I8 r g h
 |.put n a r,g,h=>Wn
 |.num n a r,g,h=>Wn
 |.br n a f o c b r,g,h=>Wn
 |.uB k a m r,g,h=>Wn
def jE.xV(h:jE f n)(t:Wd):jE (f.xV t) (n+1):=by
 cases c:f.xX with
 |none=>rw[kV f t c];exact h.app (jE.text t)
 |some s =>
  obtain⟨pre,h1,h2,d⟩:=uF f s c;have hw:=h.wf;have b:=h.len;have a:=h.cnt;rw[h1]at hw b a;rw[d];refine⟨Fo.kX _ _ (h2 h.msg) rfl,Fo.Jv _ _ (I8 _ _ hw) rfl,?_,?_⟩
  .rw[Fo.jZ]at b|-;simp only[Fo.len]at b|-;omega
  .rw[Fo.U4]at a|-;simp only[Fo.cnt]at a|-;omega
structure AS(f:Fo)(n:Nat):Prop where
 TF:f.ug=true
 wf:f.wf 2000000=true
 cnt:f.cnt+f.len<=n
def KP(rs:List Int)(m:jK):Prop:=∀num i f j,m num i = .ok (f,j)->i<=j/\jE f (j - i)
def FW{rs:List Int}{i:Nat}(h:zC rs i=r)(hr:r≠-1):i<rs.length:=by
 apply zi;intro hc;rw[jD J]at h;exact hr h.symm
section
variable {rs:List Int} (FB:rs.length<=1000000)
include FB
def Et{i:Nat}{x:Wd}(h:jC rs i = .ok (x,j)):x.length<=4000000/\i<j:=by
 refine⟨?_,dU h⟩;unfold jC at h;split at h
 .cases h
 .cases h;have:=ZV rs i (vg rs i);omega
def TD{i:Nat}{x:Wd}(h:kF rs i = .ok (x,j)):x.length<=4000000/\i<j:=by
 refine⟨?_,XV h⟩;unfold kF at h;split at h
 .cases h
 .cases h;have:=ZV rs i (vL rs i);omega
def zy6{num:Bool}{i:Nat}{x:Wd}(h:UC rs num i = .ok (x,j)):x.length<=4000001/\i<j:=by
 unfold UC at h;split at h
 .obtain⟨a,q,h1,h2⟩:=zS h;cases h2;have:=TD FB h1;simp;omega
 .obtain⟨a,q,h1,h2⟩:=zS h;split at h2
  .cases h2
  .cases h2;have:=Et FB h1;omega
def iu{msg:Option jK}{num:Bool}{i:Nat}(hm:∀m,msg=some m->KP rs m)(h:Xu rs msg num i = .ok (f,j)):i<j/\AS f (j - i)/\f.len=1:=by
 unfold Xu at h;obtain⟨k,a,h1,h2⟩:=zS h;obtain⟨u,b,o,l⟩:=zS h2;have e1:=zy6 FB h1;have e2:=(xg o).2;have e3:=yl rs a;cases msg with
 |none=>cases l
 |some m =>
  obtain⟨g,c,p,q⟩:=zS (show(m num b).then _=_ from l);obtain⟨u2,z,r,s⟩:=zS q;obtain⟨e4,d⟩:=hm m rfl _ _ _ _ p;have n:=xg r;have t:=yl rs z;have v:=FW n.1 zj;cases s;have w:=d.len;have hc:=d.cnt;refine⟨J,⟨rfl,?_,?_⟩,rfl⟩
  .have e:g.len<=2000000:=(by omega);simp only[Fo.wf,zQ,qP];exact⟨⟨⟨⟨J,d.msg⟩,e⟩,d.wf⟩,trivial⟩
  .simp only[Fo.cnt,Fo.len];omega
def BH{msg:Option jK}{num:Bool}(hm:∀m,msg=some m->KP rs m):∀(n:Nat) (acc:Fo) (i j b:Nat) (f:Fo),jX rs msg num n acc i = .ok (f,j)->AS acc b->i<=j/\AS f (b+(j - i))
 | 0,acc,i,j,b,f,h,_=>xp
 |n+1,acc,i,j,b,f,h,ha=>by
  rw[jX]at h;split at h
  .cases h;exact⟨X _,by simpa using ha⟩
  .obtain⟨g,q,h1,h2⟩:=zS h;obtain⟨e1,c,_⟩:=iu FB hm h1;have a:AS (acc.app g) (b+(q - i)):=⟨Fo.Zx _ _ ha.TF c.TF,Fo.Jv _ _ ha.wf c.wf,by rw[Fo.U4,Fo.jZ];have:=ha.cnt;have:=c.cnt;omega⟩;obtain⟨e2,hf⟩:=BH hm n _ _ _ _ _ h2 a;exact⟨J,⟨hf.TF,hf.wf,by have:=hf.cnt;omega⟩⟩
def iq{msg:Option jK}{i:Nat}(hm:∀m,msg=some m->KP rs m)(h:Yv rs msg i = .ok (f,j)):i<j/\jE f (j - i):=by
 unfold Yv at h;obtain⟨u,a,h1,h2⟩:=zS h;obtain⟨nm,b,A,k⟩:=zS h2;have e1:=(xg h1).2;have e2:=yl rs a;have e3:=Et FB A;have e4:=yl rs b;clear h h1 h2 A;split at k
 .obtain⟨u,z,n,e⟩:=zS k;have:=(xg n).2;cases e;exact rr
 .obtain⟨L,c,n,e⟩:=zS k;have G:=dU n;have H:=yl rs (yK rs b+1);have I:=yl rs c;clear k n;split at e
  .obtain⟨u,z,w,x⟩:=zS e;have:=(xg w).2;cases x;exact rr
  .split at e
   .cases e
   .next form g =>
    obtain⟨u,d,w,x⟩:=zS e;obtain⟨o,l,D,p⟩:=zS x;obtain⟨F,q,r,s⟩:=zS p;obtain⟨u,z,t,v⟩:=zS s;have:=(xg w).2;have:=yl rs d;have:=M0 D;obtain⟨K,hb⟩:=BH FB hm _ _ _ _ 0 _ r ⟨rfl,rfl,X _⟩;have C:=xg t;have B:=FW C.1 zj;have E:=hb.cnt;have y:=BU g;cases v;refine⟨J,rfl,?_,by simp[Fo.len];omega,by simp[Fo.cnt];omega⟩;simp only[Fo.wf,zQ,qP];exact⟨⟨⟨⟨⟨J,y⟩,hb.TF⟩,J⟩,hb.wf⟩,trivial⟩
def ZQ{msg:Option jK}{num:Bool}(hm:∀m,msg=some m->KP rs m):∀(n:Nat) (acc:Fo) (i j b:Nat) (f:Fo),qC rs msg num n acc i = .ok (f,j)->jE acc b->i<=j/\jE f (b+(j - i))
 | 0,acc,i,j,b,f,h,_=>xp
 |n+1,acc,i,j,b,f,h,ha=>by
  rw[qC]at h;split at h
  .cases h;exact⟨X _,by simpa using ha⟩
  split at h
  .obtain⟨g,q,h1,h2⟩:=zS h;obtain⟨e1,a⟩:=iq FB hm h1;obtain⟨e2,hf⟩:=ZQ hm n _ _ _ _ _ h2 (ha.app a);exact⟨J,hf.more J⟩
  split at h
  .obtain⟨e2,hf⟩:=ZQ hm n _ _ _ _ _ h (ha.app (g := .hash .nil) (m:=1) ⟨rfl,rfl,X _,zG _⟩);exact⟨J,hf.more J⟩
  .have:=VO rs num i;obtain⟨e2,hf⟩:=ZQ hm n _ _ _ _ _ h (ha.xV _);exact⟨J,hf.more J⟩
def Eh:∀n,KP rs (Yu rs n)
 | 0,num,i,f,j,h=>by
  rw[Yu]at h;have:=ZQ FB (λm e=>gU) _ _ _ _ 0 _ h jE.nil;simpa using this
 |n+1,num,i,f,j,h=>by
  rw[Yu]at h;have:=ZQ FB (λm e=>by cases e;exact Eh n) _ _ _ _ 0 _ h jE.nil;simpa using this
end
def YN{rs:List Int}{msg:Option jK}{num:Bool}:∀(n:Nat) (acc:Fo) (i j:Nat) (f:Fo),qC rs msg num n acc i = .ok (f,j)->i<=rs.length->j<=rs.length
 | 0,acc,i,j,f,h,_=>xp
 |n+1,acc,i,j,f,h,hi=>by
  rw[qC]at h;split at h
  .cases h;exact hi
  next b =>
  have a:i<rs.length:=by
   apply zi;intro hc;exact b (.inl (jD J))
  split at h
  .obtain⟨g,q,h1,h2⟩:=zS h;exact YN n _ _ _ _ h2 (Eo h1).2
  split at h
  .exact YN n _ _ _ _ h a
  .exact YN n _ _ _ _ h (OQ a).2
def Ga(h:ui l = .ok f):jE f 1000:=by
 unfold ui at h;split at h
 .cases h
 split at h
 .cases h
 next h1 _ =>
 have FB:=Jt l;have hr:(yS l).length<=1000:=J;cases hp:bV (yS l) with
 |error e=>rw[hp]at h;cases h
 |ok x =>
  rw[hp]at h;cases h;unfold bV at hp;obtain⟨g,q,h2,a⟩:=zS (show _=ypj (x.1,x.2)from hp);have b:=(Eh J 5 _ _ _ _ h2).2;have he:q<=(yS l).length:=YN _ _ _ _ _ h2 (zG _);split at a
  .cases a;exact b.more J
  .cases a
def gp(l:List UInt8):Except (Nat×Nat) Fo :=
 match ui l with
 |.error e => .error e
 |.ok f=>match V7 f with|none => .ok f|some e => .error e
def yn4(r:Except (Nat×Nat) Fo)(w:z7)(e:gG)(w':z7):Prop :=
 (match r with
  |.error (n,a)=>∃v b,e = .returned (.tuple #[v,.iface 68 (.pointer (some ⟨b,0,none⟩))])/\(∃a n c,v = .slice a n c)/\zy w' b 0 (.int .i64 n)/\zy w' b 1 (.int .i64 a)
  |.ok f=>(∃a c vs,e = .returned (.tuple #[.slice a f.len c,.nilIface])/\QJ (w:Nat) (w':Nat) w' a vs/\zt (w:Nat) (w':Nat) w' vs f)/\jE f 1000)/\zJ w w'
def zy7(s:ByteArray)(w:z7)(hs:s.size<=9223372036854775807)(H:XL 2 3 w)(G:kb w) :
  zE Tryz.prog 21 #[.string s] w (yn4 (gp s.data.toList) w):=by
 have E:=Z (eI s w hs H G);have z:=Z (show gp s.data.toList=match ui s.data.toList with |.error e => .error e |.ok f=>match V7 f with|none => .ok f|some e => .error e from rfl);have C:=Z (λf=>Ga (l:=s.data.toList) (f:=f));obtain⟨r,hr⟩:=zo (ui s.data.toList);rw[hr]at E z C;clear H G hr;go_enter func21,ntmps21;go_wp2_with fail;refine E.o.mono ?_;rintro e w1 ⟨j,m⟩;clear E;cases r with
 |error I =>
  obtain⟨n,a⟩:=I;obtain⟨b,rfl,c0,c1⟩:=j;have x:=Z (show gp s.data.toList = .error (n,a)from z.o);go_wp2;go_ret2
  rw[x.o];exact⟨⟨_,b,rfl,⟨_,_,_,rfl⟩,c0,c1⟩,m⟩
 |ok f =>
  obtain⟨⟨a,c,vs,rfl,h,g⟩,y⟩:=j;have t:=C.o f rfl;obtain⟨v,u,D,B,x⟩:=FD h g t (iy f a c vs w1 t.msg t.wf (by have:=t.len;omega) (by have:=t.cnt;omega) h g (X _)) (show gp s.data.toList=match V7 f with|none => .ok f|some e => .error e from z.o);obtain⟨q,j⟩:=zo (V7 f);rw[j]at B x;clear h g y t j z C;go_wp2_with fail;refine B.o.mono ?_;rintro e w2 ⟨j,d⟩;clear B;have i:=m.trans (d.mono m.size);cases q with
  |none =>
   obtain rfl:=j;have F:=Z (show gp s.data.toList = .ok f from x.o);have A:xS (w:Nat) (w1:Nat) w1 w2:=⟨d.size,λk _ A=>d.block k A⟩;go_wp2;go_ret2
   rw[F.o];exact⟨⟨⟨a,c,vs,rfl,v.o.keep A (X _) d.size,zt.keep A (X _) d.size _ _ u.o⟩,D.o⟩,i⟩
  |some e =>
   obtain⟨n,p⟩:=e;obtain⟨b,rfl,c0,c1⟩:=j;have F:=Z (show gp s.data.toList = .error (n,p)from x.o);go_wp2;go_ret2
   rw[F.o];exact⟨⟨_,b,rfl,⟨_,_,_,rfl⟩,c0,c1⟩,i⟩
variable{k:Nat}
def zy8:Nat->Wd->Bool
 |_,[]=>true
 |i,c::t=>(jV (c.toNat:Int) ||(!decide (i=0) && qg (c.toNat:Int))) && zy8 (i+1) t
def zy9(s:Wd):Bool:=zy8 0 s && (decide (0<s.length) && decide (s.length<=16))
def NmW(n:Wd):Prop:=n.length<=16/\zy9 n=true
def zyz(num:Bool)(k:Wd):Prop:=k.length<=17/\(num=true->k.head? = some 61->EqW k)
def Fo.fit:Fo->Prop
 |.nil=>True
 |.text _ r=>r.fit
 |.hash r=>r.fit
 |.put n _ r=>NmW n/\r.fit
 |.num n _ r=>NmW n/\r.fit
 |.br n _ f o _ bs r=>NmW n/\f<3/\ZH o<=999999999/\(∀k∈bs.keys,zyz (decide (f≠0)) k)/\bs.fit/\r.fit
 |.uB _ _ m r=>m.fit/\r.fit
def Fo.qa:Fo->Nat
 |.nil=>0
 |.text t r=>t.length+5+r.qa
 |.hash r=>5+r.qa
 |.put _ _ r=>24+r.qa
 |.num _ _ r=>24+r.qa
 |.br _ _ _ _ _ bs r=>40+bs.qa+r.qa
 |.uB _ _ m r=>28+m.qa+r.qa
def Fo.once:Fo->Prop
 |.nil=>True
 |.text _ r=>r.once
 |.hash r=>r.once
 |.put _ _ r=>r.once
 |.num _ _ r=>r.once
 |.br _ _ _ _ _ bs r=>bs.keys.Nodup/\bs.once/\r.once
 |.uB _ _ m r=>m.once/\r.once
def Fo.U3:∀f:Fo,f.cw<=f.qa
 |.nil=>X _
 |.text t r=>Iy
 |.hash r=>Iy
 |.put n a r=>Iy
 |.num n a r=>Iy
 |.br n a f o c b r=>by have:=Fo.U3 b;have:=Fo.U3 r;simp only[Fo.cw,Fo.qa];omega
 |.uB k a m r=>by have:=Fo.U3 m;have:=Fo.U3 r;simp only[Fo.cw,Fo.qa];omega
def Fo.Ze:∀f:Fo,f.fit->f.wf 2000000=true->f.qa<=5000000->f.once->f.Cl
 |.nil,_,_,_,_=>trivial
 |.text t r,h,w,m,o=>by simp only[Fo.qa]at m;exact⟨J,Fo.Ze r h w J o⟩
 |.hash r,h,w,m,o=>by simp only[Fo.qa]at m;exact Fo.Ze r h w J o
 |.put n a r,h,w,m,o=>rj
 |.num n a r,h,w,m,o=>rj
 |.br n a f of c b r,h,w,m,o=>by
  simp only[Fo.qa]at m;simp only[Fo.wf,zQ]at w;obtain⟨h1,h2,i,d,j,l⟩:=h;refine⟨h1.1,h2,i,w.1.1.1.2,o.1,λk e=>⟨(d k e).1,λhf=>(d k e).2 (by simpa using hf)⟩,Fo.Ze b j w.1.2 J o.2.1,Fo.Ze r l w.2 J o.2.2⟩
 |.uB k a g r,h,w,m,o=>by
  simp only[Fo.qa]at m;simp only[Fo.wf,zQ]at w;exact⟨w.1.1.1.2,Fo.Ze g h.1 w.1.2 J o.1,Fo.Ze r h.2 w.2 J o.2⟩
def Fo.fX:∀f g:Fo,f.fit->g.fit->(f.app g).fit
 |.nil,g,_,h=>h
 |.text t r,g,h,h2=>Fo.fX r g h h2
 |.hash r,g,h,h2=>Fo.fX r g h h2
 |.put n a r,g,h,h2=>⟨h.1,Fo.fX r g h.2 h2⟩
 |.num n a r,g,h,h2=>⟨h.1,Fo.fX r g h.2 h2⟩
 |.br n a f o c b r,g,h,h2=>⟨h.1,h.2.1,h.2.2.1,h.2.2.2.1,h.2.2.2.2.1,Fo.fX r g h.2.2.2.2.2 h2⟩
 |.uB k a m r,g,h,h2=>⟨h.1,Fo.fX r g h.2 h2⟩
def Fo.Z8:∀f g:Fo,(f.app g).qa=f.qa+g.qa
 |.nil,g=>by simp[Fo.app,Fo.qa]
 |.text t r,g=>Eg
 |.hash r,g=>Eg
 |.put n a r,g=>Eg
 |.num n a r,g=>Eg
 |.br n a f o c b r,g=>Eg
 |.uB k a m r,g=>Eg
def Fo.Om:∀f g:Fo,f.ug=true->(f.app g).keys=f.keys++g.keys
 |.nil,g,_=>rfl
 |.uB k a m r,g,h=>by
  show k::(r.app g).keys=_;rw[Fo.Om r g h];rfl
def XF:∀(f g:Fo),(f.app g).fit->f.fit
 |.nil,g,_=>trivial
 |.text t r,g,h=>XF r g h
 |.hash r,g,h=>XF r g h
 |.put n a r,g,h=>⟨h.1,XF r g h.2⟩
 |.num n a r,g,h=>⟨h.1,XF r g h.2⟩
 |.br n a f o c b r,g,h=>⟨h.1,h.2.1,h.2.2.1,h.2.2.2.1,h.2.2.2.2.1,XF r g h.2.2.2.2.2⟩
 |.uB k a m r,g,h=>⟨h.1,XF r g h.2⟩
def Fo.On(h:f.fit)(t:Wd):(f.xV t).fit/\(f.xV t).qa<=f.qa+t.length+5:=by
 cases a:f.xX with
 |none =>
  rw[kV f t a];exact⟨Fo.fX _ _ h trivial,by rw[Fo.Z8];simp only[Fo.qa];omega⟩
 |some s =>
  obtain⟨pre,h1,h2,b⟩:=uF f s a;rw[h1]at h;rw[b];refine⟨Fo.fX _ _ (XF _ _ h) trivial,?_⟩;rw[Fo.Z8,show f.qa=(pre.app (.text s .nil)).qa from congrArg _ h1,Fo.Z8];simp only[Fo.qa,zI];omega
def zbd(b:Nat):∀(f:Fo) (seen:List Wd) (acc:List (Nat×Nat)),FM b seen acc f=[]->acc=[]/\(∀k∈f.keys,k ∉ seen)/\f.keys.Nodup:=by
 have hn:∀(f:Fo) (seen:List Wd) (acc:List (Nat×Nat)),(if ZM∈seen then acc else acc++[(6,b)])=[]->acc=[]:=λf seen acc h=>by
  split at h
  .exact h
  .simp at h
 intro f;induction f with
 |uB k a m r _ d =>
  intro seen acc h;rw[FM]at h;obtain⟨h1,h2,c⟩:=d _ _ h;split at h1
  .simp at h1
  next hk =>
  refine⟨h1,λx hx=>?_,?_⟩
  .rcases yp.1 hx with rfl|hx
   .exact hk
   .exact λq=>h2 x hx (yo _ q)
  .exact List.nodup_cons.2 ⟨λq=>h2 k q xB,c⟩
 |nil=>intro seen acc h;exact⟨hn .nil seen acc h,(λk hk=>Q6),fO⟩
 |text _ _ _=>intro seen acc h;exact⟨hn .nil seen acc h,(λk hk=>Q6),fO⟩
 |hash _ _=>intro seen acc h;exact⟨hn .nil seen acc h,(λk hk=>Q6),fO⟩
 |put _ _ _ _=>intro seen acc h;exact⟨hn .nil seen acc h,(λk hk=>Q6),fO⟩
 |num _ _ _ _=>intro seen acc h;exact⟨hn .nil seen acc h,(λk hk=>Q6),fO⟩
 |br _ _ _ _ _ _ _ _ _=>intro seen acc h;exact⟨hn .nil seen acc h,(λk hk=>Q6),fO⟩
def BI{s:DH}{n:Wd}{a:Nat}(h:(uL s n a k).2=[]):s.2=[]:=by
 unfold uL at h;split at h
 .simp at h
 .split at h<;>exact h
def jS:∀(f:Fo) (s s':DH),vG YD f s = .go true s'->s'.2=[]->s.2=[]/\f.once
 |.nil,s,s',h,e=>by
  cases h;exact⟨e,trivial⟩
 |.text _ r,s,s',h,e=>jS r s s' h e
 |.hash r,s,s',h,e=>jS r s s' h e
 |.put n a r,s,s',h,e=>by
  obtain⟨h1,h2⟩:=jS r (uL s n a 0) s' h e;exact⟨BI h1,h2⟩
 |.num n a r,s,s',h,e=>by
  obtain⟨h1,h2⟩:=jS r (uL s n a 1) s' h e;exact⟨BI h1,h2⟩
 |.br n a f o c d r,s,s',h,e=>by
  obtain⟨b,h1⟩:∃b:DH,((uL s n a (Zu (.br n a f o c d .nil))).1,(uL s n a (Zu (.br n a f o c d .nil))).2++FM c [] [] d)=b:=⟨_,rfl⟩;have h2:(vG YD d b).then (λs=>vG YD r s) = .go true s':=by rw[<-h1];exact h
  obtain⟨q,p⟩:=gY d b;rw[p]at h2;obtain⟨i,j⟩:=jS r q s' h2 e;obtain⟨g,l⟩:=jS d b q p i;rw[<-h1]at g;obtain⟨t,u⟩:=ir.1 g;exact⟨BI t,(zbd c d _ _ u).2.2,l,j⟩
 |.uB k a m r,s,s',h,e=>by
  obtain⟨b,h1⟩:=gY m s;have h2:(vG YD m s).then (λs=>vG YD r s) = .go true s':=h;rw[h1]at h2;obtain⟨i,j⟩:=jS r b s' h2 e;obtain⟨g,l⟩:=jS m s b h1 i;exact⟨g,l,j⟩
def zyy(h:V7 f=none):f.once:=by
 obtain⟨s,hs⟩:=gY f ((λ_=>none),[]);have e:Zn f=s.2:=by unfold Zn;rw[hs]
 unfold V7 at h;refine(jS f _ s hs ?_).2;rw[<-e];cases b:Zn f with
 |nil=>rfl
 |cons a t=>rw[b]at h;cases h
def zyx{l:Wd}(h:l.length<=9)(hd:l.all yn=true):ZH l<=999999999:=rA
def zbb:∀k:Fin 128,(enc (k.val:Int)).length=1:=zj
def Ew:∀(l:List Int),(∀r∈l,0<=r/\r<128)->(l.flatMap enc).length=l.length
 |[],_=>rfl
 |r::t,h=>by
  have h1:=h r zY;have h2:=zbb ⟨r.toNat,J⟩;rw[show(((⟨r.toNat,J⟩:Fin 128).val:Nat):Int)=r by show((r.toNat:Nat):Int)=r;omega]at h2;rw[zn,zI,h2,Ew t (λq a=>h q (by simp[a]))];simp;omega
def TB(l:List Int):(l.flatMap enc).length<=4*l.length:=mG
def BL:∀(n:Nat) (l:List Int),l.length<=n->(yV l).1.length<=(yV l).2
 | 0,l,h=>by
  obtain rfl:l=[]:=List.length_eq_zero_iff.1 J;rw[yV];exact X _
 |n+1,[],h=>by rw[yV];exact X _
 |n+1,c::t,h=>by
  rw[yV.eq_def];simp only;split
  .split
   .simp
   .next d u =>
    split
    .have:=BL n u Jq;simp;omega
    .simp
  .have:=BL n t Jq;simp;omega
def ik(rs:List Int)(num:Bool)(i:Nat):(uU rs num i).1.length+4*i<=4*(uU rs num i).2:=by
 unfold uU;split
 .exact oq
 split
 .exact p7
 split
 .exact p8
 .have h1:=TB (yV (rs.drop (i+1))).1;have h2:=BL _ (rs.drop (i+1)) (X _);exact ni
def BM(m:jK):Prop:=∀num i f j,m num i = .ok (f,j)->f.fit/\f.qa+44*i<=44*j
section
variable {rs:List Int}
def zyv:∀k:Fin 128,enc (k.val:Int)=[yW k.val]:=zj
def Gc:∀(l:List Int) (k:Nat),(∀j (h:j<l.length),(0<=l[j]/\l[j]<128)/\(jV l[j] ||(decide (0<k+j) && qg l[j]))=true)->zy8 k (l.flatMap enc)=true
 |[],_,_=>rfl
 |r::l,k,h=>by
  obtain⟨⟨h1,h2⟩,a⟩:=h 0 zY;simp only[PT,fD]at h1 h2 a;have he:=zyv ⟨r.toNat,J⟩;have hr:((r.toNat:Nat):Int)=r:=J;dsimp only at he;rw[hr]at he;have hb:(yW r.toNat).toNat=r.toNat:=by rw[vO];omega
  rw[zn,he];simp only[yw,kr,zy8,hb,hr];rw[Gc l (k+1) (λj c=>by
   have:=h (j+1) zV;simpa[jo,Nat.add_comm 1 j]using this)]
  have b:(!decide (k=0))=decide (0<k):=by rw[vF];simp;omega
  rw[b,a];rfl
def Oo{i:Nat}{x:Wd}(h:jC rs i = .ok (x,j)):NmW x/\i<j:=by
 refine⟨?_,dU h⟩;unfold jC at h;split at h
 .cases h
 next hn =>
 cases h;obtain⟨n,hN⟩:=zo (vg rs i);have d:∀k,k<n->jY (zC rs (i+k)) k=true:=λk hk=>Js (F:=jY) (rs:=rs) (i:=i) (k:=k) oK
 have hf:∀k,k<n->k<16/\0<=zC rs (i+k)/\zC rs (i+k)<128:=λk hk=>by
  have:=Js (F:=jY) (rs:=rs) (i:=i) (k:=k) oK;simp only[jY,jV,qg,zQ,gj,qP,beq_iff_eq]at this;omega
 rw[hN]at hn|-;have g:n<=16:=by
  have:=(hf (n - 1) J).1;omega
 have EJ:∀k,k<n->i+k<rs.length:=λk hk=>by
  refine Nat.lt_of_not_le (λf=>?_);have:=(hf k hk).2.1;rw[jD f]at this;omega
 have a:∀r∈(rs.drop i).take n,0<=r/\r<128:=λr hr=>ri
 have h1:=Ew _ a;have h2:((rs.drop i).take n).length<=n:=by rw[xr];exact Nat.min_le_left _ _
 have l:((rs.drop i).take n).length=n:=by
  rw[xr,xz];have:=EJ (n - 1) J;omega
 have m:zy8 0 (((rs.drop i).take n).flatMap enc)=true:=Gc _ 0 λj b=>by
  rw[l]at b;have e:((rs.drop i).take n)[j]' J=zC rs (i+j):=by
   rw[A8 (EJ j b)];simp
  rw[e];have c:=d j b;unfold jY at c;simp only[zQ]at c;exact⟨(hf j b).2,by simpa using c.2⟩
 unfold uy;refine⟨J,?_⟩;unfold zy9;rw[m,decide_eq_true (by omega:0<_),decide_eq_true (by omega:_<=16)];rfl
def H4{i:Nat}{x:Wd}(h:kF rs i = .ok (x,j)):x.length<=9/\x.all yn=true/\x≠[]/\i<j:=by
 have a:=XV h;unfold kF at h;split at h
 .cases h
 next hn =>
 cases h;obtain⟨h1,h2,b⟩:=GO rs i hn;exact⟨h1,h2,b,a⟩
def za0:∀x∈fg,x.head?≠some 61:=zj
def za1{num:Bool}{i:Nat}{x:Wd}(h:UC rs num i = .ok (x,j)):zyz num x/\i<j:=by
 unfold UC at h;split at h
 .obtain⟨a,q,h1,h2⟩:=zS h;cases h2;obtain⟨c,b,e,f⟩:=H4 h1;exact⟨⟨zV,λ_ _=>⟨e,c,b⟩⟩,J⟩
 .obtain⟨a,q,h1,h2⟩:=zS h;obtain⟨⟨c,-⟩,b⟩:=Oo h1;split at h2
  .cases h2
  .next d =>
   cases h2;refine⟨⟨J,λhn he=>?_⟩,b⟩;exact absurd he (za0 _ (zi λq=>d ⟨hn,q⟩))
def Mx{msg:Option jK}{num:Bool}{i:Nat}(hm:∀m,msg=some m->BM m)(h:Xu rs msg num i = .ok (f,j)):f.fit/\f.ug=true/\(∀k∈f.keys,zyz num k)/\f.qa+44*i<=44*j:=by
 unfold Xu at h;obtain⟨k,a,h1,h2⟩:=zS h;obtain⟨u,b,l,d⟩:=zS h2;obtain⟨t,e1⟩:=za1 h1;have e2:=(xg l).2;have e3:=yl rs a;cases msg with
 |none=>cases d
 |some m =>
  obtain⟨g,c,n,o⟩:=zS (show(m num b).then _=_ from d);obtain⟨u2,z,p,r⟩:=zS o;obtain⟨s,x⟩:=hm m rfl _ _ _ _ n;have v:=(xg p).2;have w:=yl rs z;cases r;refine⟨⟨s,trivial⟩,rfl,λq e=>?_,?_⟩
  .simp only[Fo.keys,uG]at e;subst e;exact t
  .simp only[Fo.qa];omega
def Ve{msg:Option jK}{num:Bool}(hm:∀m,msg=some m->BM m):∀(n:Nat) (acc:Fo) (i j:Nat) (f:Fo),jX rs msg num n acc i = .ok (f,j)->acc.fit->acc.ug=true->(∀k∈acc.keys,zyz num k)->f.fit/\(∀k∈f.keys,zyz num k)/\f.qa+44*i<=acc.qa+44*j
 | 0,acc,i,j,f,h,_,_,_=>xp
 |n+1,acc,i,j,f,h,ha,hb,hc=>by
  rw[jX]at h;split at h
  .cases h;exact⟨ha,hc,X _⟩
  .obtain⟨g,q,h1,h2⟩:=zS h;obtain⟨g1,g2,b,c⟩:=Mx hm h1;obtain⟨k1,k2,k3⟩:=Ve hm n _ _ _ _ h2 (Fo.fX _ _ ha g1) (Fo.Zx _ _ hb g2) (λk a=>by
    rw[Fo.Om _ _ hb]at a;rcases xY.1 a with a|a
    .exact hc k a
    .exact b k a)
   rw[Fo.Z8]at k3;exact⟨k1,k2,J⟩
def za2{form i:Nat}{o:Wd}(h:FY rs form i = .ok (o,j)):ZH o<=999999999/\i<=j:=by
 have b:=M0 h;refine⟨?_,b⟩;unfold FY at h;split at h
 .obtain⟨a,q,h1,h2⟩:=zS h;cases h2;obtain⟨c,d,e,f⟩:=H4 h1;exact zyx c d
 .cases h;decide
def Mv{msg:Option jK}{i:Nat}(hm:∀m,msg=some m->BM m)(h:Yv rs msg i = .ok (f,j)):f.fit/\f.qa+44*i<=44*j:=by
 unfold Yv at h;obtain⟨u,a,h1,h2⟩:=zS h;obtain⟨nm,b,B,n⟩:=zS h2;have e1:=(xg h1).2;have e2:=yl rs a;obtain⟨hn,e3⟩:=Oo B;have e4:=yl rs b;clear h h1 h2 B;split at n
 .obtain⟨u,z,p,e⟩:=zS n;have:=(xg p).2;cases e;exact⟨⟨hn,trivial⟩,by simp only[Fo.qa];omega⟩
 .obtain⟨K,c,p,e⟩:=zS n;have F:=dU p;have G:=yl rs (yK rs b+1);have H:=yl rs c;clear n p;split at e
  .obtain⟨u,z,x,y⟩:=zS e;have:=(xg x).2;cases y;exact⟨⟨hn,trivial⟩,by simp only[Fo.qa];omega⟩
  .split at e
   .cases e
   .next form g =>
    obtain⟨u,d,x,y⟩:=zS e;obtain⟨o,l,C,r⟩:=zS y;obtain⟨E,q,s,t⟩:=zS r;obtain⟨u,z,v,w⟩:=zS t;have:=(xg x).2;have:=yl rs d;obtain⟨D,_⟩:=za2 C;obtain⟨b1,b2,b3⟩:=Ve hm _ _ _ _ _ s trivial rfl (λk hk=>Q6);have I:=(xg v).2;have A:=BU g;cases w;refine⟨⟨hn,A,D,b2,b1,trivial⟩,?_⟩;simp only[Fo.qa]at b3|-;omega
def fV{msg:Option jK}{num:Bool}(hm:∀m,msg=some m->BM m):∀(n:Nat) (acc:Fo) (i j:Nat) (f:Fo),qC rs msg num n acc i = .ok (f,j)->acc.fit->f.fit/\f.qa+44*i<=acc.qa+44*j
 | 0,acc,i,j,f,h,_=>xp
 |n+1,acc,i,j,f,h,ha=>by
  rw[qC]at h;split at h
  .cases h;exact⟨ha,X _⟩
  split at h
  .obtain⟨g,q,h1,h2⟩:=zS h;obtain⟨g1,g2⟩:=Mv hm h1;obtain⟨k1,k2⟩:=fV hm n _ _ _ _ h2 (Fo.fX _ _ ha g1);rw[Fo.Z8]at k2;exact⟨k1,J⟩
  split at h
  .obtain⟨k1,k2⟩:=fV hm n _ _ _ _ h (Fo.fX _ _ ha trivial);rw[Fo.Z8]at k2;simp only[Fo.qa]at k2;exact⟨k1,J⟩
  .obtain⟨t1,t2⟩:=Fo.On ha (uU rs num i).1;obtain⟨k1,k2⟩:=fV hm n _ _ _ _ h t1;have a:=ik rs num i;have b:=VO rs num i;exact⟨k1,J⟩
def Vi:∀n,BM (Yu rs n)
 | 0,num,i,f,j,h=>by
  rw[Yu]at h;simpa[Fo.qa]using fV (λm e=>gU) _ _ _ _ _ h trivial
 |n+1,num,i,f,j,h=>by
  rw[Yu]at h;simpa[Fo.qa]using fV (λm e=>by cases e;exact Vi n) _ _ _ _ _ h trivial
end
def ig(h:ui l = .ok f)(hc:V7 f=none):f.Cl/\f.qa<=44000/\f.fit:=by
 have b:=Ga h;unfold ui at h;split at h
 .cases h
 split at h
 .cases h
 next h1 _ =>
 have FB:=Jt l;have hr:(yS l).length<=1000:=J;cases hp:bV (yS l) with
 |error e=>rw[hp]at h;cases h
 |ok x =>
  rw[hp]at h;cases h;unfold bV at hp;obtain⟨g,q,h2,a⟩:=zS (show _=ypj (x.1,x.2)from hp);obtain⟨hf,hm⟩:=Vi 5 _ _ _ _ h2;have he:q<=(yS l).length:=YN _ _ _ _ _ h2 (zG _);split at a
  .cases a;exact⟨Fo.Ze _ hf b.wf J (zyy hc),J,hf⟩
  .cases a
def zyu(h:ui l = .ok f)(hc:V7 f=none):f.Cl/\f.cw<=44000:=by
 obtain⟨h1,h2,-⟩:=ig h hc;exact⟨h1,zZ (Fo.U3 f) h2⟩
end Go.Proofs.YtfcemhlpdcnckaaGreatDoor
namespace Go.Proofs.YtfcemhlpdcnckaaGreatDoor
open Go Go.RowKit Go.Extern.Stop Go.Stop Go.Extern
set_option maxRecDepth 10000
abbrev uw(t:Nat):zx := .pointer (11,t)
def rlm(z:Sem zx)(f:uP->yi->Nat->Nat->Sem zx)(v:zx) :
  ReflectliteValue.method z f #[v]=(do match <-ReflectliteValue.parts v with|none=>z|some (t,a,fl)=>f t a fl (fl % 32)):=rfl
def rls(v x:zx):ReflectliteValue.set #[v,x]=(do
  let (some (dst,a,fl),some (src,b,_)):=(<-ReflectliteValue.parts v,<-ReflectliteValue.parts x)
   |zeg (.noEntry "extern/(internal/reflectlite.Value).Set.zeroValue")
  if fl / ReflectliteValue.flagAddr % 2==0 then zeg (.noEntry "extern/(internal/reflectlite.Value).Set.unaddressable")
  let val <-E7 src b
  if <-Rtype.directlyAssignable dst src then WB dst a val
  else if <-Rtype.implements dst src then
   if (<-Rtype.kind src)==20 then
    match val with
    |.nilIface=>zeg (.noEntry "extern/reflectlite: a nil value of one interface type handed on as a value of another")
    |_=>WB dst a val
   else WB dst a (.iface src val)
  else panicString ("reflectlite.Set: value of type " ++ (<-Rtype.spelt src) ++ " is not assignable to type " ++ (<-Rtype.spelt dst))
  pure (.tuple #[])):=rfl
def QB(h:zx)(w:z7):(WC 461 183 (.agg #[h]) "Kind").run Tryz.prog w = .ok (234,h) w:=yy
def QC(h:zx)(w:z7):(WC 461 183 (.agg #[h]) "Elem").run Tryz.prog w = .ok (257,.agg #[h]) w:=yy
def dK(h:zx)(w:z7):(WC 461 183 (.agg #[h]) "Implements").run Tryz.prog w = .ok (258,.agg #[h]) w:=yy
def gK(h:zx)(w:z7):(WC 461 183 (.agg #[h]) "AssignableTo").run Tryz.prog w = .ok (255,.agg #[h]) w:=yy
def H5(t:yi)(w:z7):(ReflectliteValue.unpack (.iface 70 (.pointer (some t)))).run Tryz.prog w
  = .ok (.agg #[uw 70,(w,0),.int .u64 150]) (w.alloc (.cells #[.pointer (some t)] 70)):=yy
def zyq(a:yi)(w:z7):(ReflectliteValue.methodAny (ReflectliteValue.valueError "reflectlite.Value.Type" 0) (λt _ _ _=>ReflectliteType.toType t) #[.agg #[uw 70,.pointer (some a),.int .u64 150]]).run Tryz.prog w
  = .ok (.iface 183 (.agg #[uw 70])) w:=yy
def AT(w:z7):((ReflectliteType.abiMethod λt=>(λa:Nat=>yF gD (a:Int)) <$> Rtype.kind t) #[uw 70]).run Tryz.prog w = .ok (.int .u8 22) w:=yy
def AW(w:z7):((ReflectliteType.abiMethod λt=>(λa:Nat=>yF gD (a:Int)) <$> Rtype.kind t) #[uw 68]).run Tryz.prog w = .ok (.int .u8 22) w:=yy
def AA(a:yi)(w:z7):(ReflectliteValue.parts (.agg #[uw 70,.pointer (some a),.int .u64 150])).run Tryz.prog w = .ok (some (70,a,150)) w:=yy
def Aa(a p:yi)(W:z7)(ha:W.cell? a=some (.pointer (some p))) :
  (ReflectliteValue.method (ReflectliteValue.valueError "reflectlite.Value.IsNil" 0) ReflectliteValue.isNil #[.agg #[uw 70,.pointer (some a),.int .u64 150]]).run Tryz.prog W = .ok (.bool false) W:=by
 rw[rlm];simp only[gF,AA,xO];simp[ReflectliteValue.isNil,E7,yf0,QO,underlying70,ha,xO]
def zyk(w:z7):(ReflectliteType.method ReflectliteType.elem #[.agg #[uw 70]]).run Tryz.prog w = .ok (.iface 183 (.agg #[uw 68])) w:=yy
def zyj(w:z7):(ReflectliteType.relation "Implements" ReflectliteType.implements_ #[.agg #[uw 68],.iface 183 (.agg #[uw 49])]).run Tryz.prog w = .ok (.bool true) w:=yy
def zyg(w:z7):(Rtype.elem? 70).run Tryz.prog w = .ok (some 68) w:=yy
def xbg(p:yi)(w:z7):(ReflectliteValue.mk 68 p ReflectliteValue.flagAddr).run Tryz.prog w = .ok (.agg #[uw 68,.pointer (some p),.int .u64 406]) w:=yy
def za3(a p:yi)(W:z7)(ha:W.cell? a=some (.pointer (some p))) :
  (ReflectliteValue.method (ReflectliteValue.valueError "reflectlite.Value.Elem" 0) ReflectliteValue.elem #[.agg #[uw 70,.pointer (some a),.int .u64 150]]).run Tryz.prog W
   = .ok (.agg #[uw 68,.pointer (some p),.int .u64 406]) W:=by
 rw[rlm];simp only[gF,AA,xO];simp[ReflectliteValue.elem,E7,yf0,QO,underlying70,ha,xO,zyg,xbg]
def zyf(a:yi)(w:z7):(ReflectliteValue.parts (.agg #[uw 68,.pointer (some a),.int .u64 406])).run Tryz.prog w = .ok (some (68,a,406)) w:=yy
def ib(t:yi)(w:z7):(ReflectliteValue.unpack (.iface 73 (.pointer (some t)))).run Tryz.prog w
  = .ok (.agg #[uw 73,(w,0),.int .u64 150]) (w.alloc (.cells #[.pointer (some t)] 73)):=yy
def yxv(a:yi)(w:z7):(ReflectliteValue.methodAny (ReflectliteValue.valueError "reflectlite.Value.Type" 0) (λt _ _ _=>ReflectliteType.toType t) #[.agg #[uw 73,.pointer (some a),.int .u64 150]]).run Tryz.prog w
  = .ok (.iface 183 (.agg #[uw 73])) w:=yy
def za4(w:z7):((ReflectliteType.abiMethod λt=>(λa:Nat=>yF gD (a:Int)) <$> Rtype.kind t) #[uw 73]).run Tryz.prog w = .ok (.int .u8 22) w:=yy
def za5(w:z7):((ReflectliteType.abiMethod λt=>(λa:Nat=>yF gD (a:Int)) <$> Rtype.kind t) #[uw 39]).run Tryz.prog w = .ok (.int .u8 2) w:=yy
def Ac(a:yi)(w:z7):(ReflectliteValue.parts (.agg #[uw 73,.pointer (some a),.int .u64 150])).run Tryz.prog w = .ok (some (73,a,150)) w:=yy
def za6(a p:yi)(W:z7)(ha:W.cell? a=some (.pointer (some p))) :
  (ReflectliteValue.method (ReflectliteValue.valueError "reflectlite.Value.IsNil" 0) ReflectliteValue.isNil #[.agg #[uw 73,.pointer (some a),.int .u64 150]]).run Tryz.prog W = .ok (.bool false) W:=by
 rw[rlm];simp only[gF,Ac,xO];simp[ReflectliteValue.isNil,E7,yf0,QO,underlying73,ha,xO]
def yxu(w:z7):(ReflectliteType.method ReflectliteType.elem #[.agg #[uw 73]]).run Tryz.prog w = .ok (.iface 183 (.agg #[uw 39])) w:=yy
def yxq(w:z7):(ReflectliteType.relation "Implements" ReflectliteType.implements_ #[.agg #[uw 39],.iface 183 (.agg #[uw 49])]).run Tryz.prog w = .ok (.bool true) w:=yy
def zyd(w:z7):(Rtype.elem? 73).run Tryz.prog w = .ok (some 39) w:=yy
def xbf(p:yi)(w:z7):(ReflectliteValue.mk 39 p ReflectliteValue.flagAddr).run Tryz.prog w = .ok (.agg #[uw 39,.pointer (some p),.int .u64 386]) w:=yy
def za7(a p:yi)(W:z7)(ha:W.cell? a=some (.pointer (some p))) :
  (ReflectliteValue.method (ReflectliteValue.valueError "reflectlite.Value.Elem" 0) ReflectliteValue.elem #[.agg #[uw 73,.pointer (some a),.int .u64 150]]).run Tryz.prog W
   = .ok (.agg #[uw 39,.pointer (some p),.int .u64 386]) W:=by
 rw[rlm];simp only[gF,Ac,xO];simp[ReflectliteValue.elem,E7,yf0,QO,underlying73,ha,xO,zyd,xbf]
def zyb(a:yi)(w:z7):(ReflectliteValue.parts (.agg #[uw 39,.pointer (some a),.int .u64 386])).run Tryz.prog w = .ok (some (39,a,386)) w:=yy
def zx0(v:zx)(w:z7):(ReflectliteType.typeOf #[.iface 68 v]).run Tryz.prog w = .ok (.iface 183 (.agg #[uw 68])) w:=yy
def zx1(w:z7):(ReflectliteType.relation "AssignableTo" ReflectliteType.assignableTo #[.agg #[uw 68],.iface 183 (.agg #[uw 68])]).run Tryz.prog w = .ok (.bool true) w:=yy
def TC(e:yi)(w:z7):(ReflectliteValue.unpack (.iface 68 (.pointer (some e)))).run Tryz.prog w
  = .ok (.agg #[uw 68,(w,0),.int .u64 150]) (w.alloc (.cells #[.pointer (some e)] 68)):=yy
def zx2(a:yi)(w:z7):(ReflectliteValue.parts (.agg #[uw 68,.pointer (some a),.int .u64 150])).run Tryz.prog w = .ok (some (68,a,150)) w:=yy
def zx3(w:z7):(Rtype.directlyAssignable 68 68).run Tryz.prog w = .ok true w:=yy
def yn5(ta b:yi)(e:yi)(old:zx)(W:z7)(hb:W.cell? b=some (.pointer (some e)))(ht:W.cell? ta=some old)(hf:W.frozen? ta=false) :
  (ReflectliteValue.set #[.agg #[uw 68,.pointer (some ta),.int .u64 406],.agg #[uw 68,.pointer (some b),.int .u64 150]]).run Tryz.prog W
   = .ok (.tuple #[]) (W.setCell ta (.pointer (some e))):=by
 rw[rls];simp only[gF,zyf,zx2,xO];simp[ReflectliteValue.flagAddr,E7,yf0,QO,underlying68,hb,xO,zx3,WB,Xl,storeCells,xM];rw[run_store Tryz.prog W ta _ _ xK];simp[ht,hf]
def Ot(v:zx)(w:z7):(ReflectliteType.typeOf #[.iface 39 v]).run Tryz.prog w = .ok (.iface 183 (.agg #[uw 39])) w:=yy
def zx5(w:z7):(ReflectliteType.relation "AssignableTo" ReflectliteType.assignableTo #[.agg #[uw 39],.iface 183 (.agg #[uw 39])]).run Tryz.prog w = .ok (.bool true) w:=yy
def TE(e:Int)(w:z7):(ReflectliteValue.unpack (.iface 39 e)).run Tryz.prog w
  = .ok (.agg #[uw 39,(w,0),.int .u64 130]) (w.alloc (.cells #[e] 39)):=yy
def zx6(a:yi)(w:z7):(ReflectliteValue.parts (.agg #[uw 39,.pointer (some a),.int .u64 130])).run Tryz.prog w = .ok (some (39,a,130)) w:=yy
def zx7(w:z7):(Rtype.directlyAssignable 39 39).run Tryz.prog w = .ok true w:=yy
def yn6(ta b:yi)(e:Int)(old:zx)(W:z7)(hb:W.cell? b=some (.int .i64 e))(ht:W.cell? ta=some old)(hf:W.frozen? ta=false) :
  (ReflectliteValue.set #[.agg #[uw 39,.pointer (some ta),.int .u64 386],.agg #[uw 39,.pointer (some b),.int .u64 130]]).run Tryz.prog W
   = .ok (.tuple #[]) (W.setCell ta e):=by
 rw[rls];simp only[gF,zyb,zx6,xO];simp[ReflectliteValue.flagAddr,E7,yf0,QO,underlying39,hb,xO,zx7,WB,Xl,storeCells,xM];rw[run_store Tryz.prog W ta _ _ xK];simp[ht,hf]
def Oh(w:z7):(ReflectliteType.relation "AssignableTo" ReflectliteType.assignableTo #[.agg #[uw 39],.iface 183 (.agg #[uw 68])]).run Tryz.prog w = .ok (.bool false) w:=yy
def yxk(v:zx)(xT:uP)(w:z7):(zA (.iface 39 v) xT 188 true).run Tryz.prog w = .ok (.tuple #[.nilIface,.bool false]) w:=Km underlying188 yy yy v xT w
def TH(v:zx)(xT:uP)(w:z7):(zA (.iface 39 v) xT 191 true).run Tryz.prog w = .ok (.tuple #[.nilIface,.bool false]) w:=Km underlying191 yy yy v xT w
def Ow(v:zx)(xT:uP)(w:z7):(zA (.iface 39 v) xT 193 true).run Tryz.prog w = .ok (.tuple #[.nilIface,.bool false]) w:=Km underlying193 yy yy v xT w
def zx8(e t:yi)(old:zx)(w:z7)(hg:zy w 0 0 (.iface 183 (.agg #[uw 49])))(ht0:w.cell? t=some old)(hf0:w.frozen? t=false) :
  zE Tryz.prog 23 #[.iface 68 (.pointer (some e)),.iface 70 (.pointer (some t))] w λev w'=>ev = .returned (.bool true)/\∃o1 o2 o3 o4:Obj,w'=((((w.alloc o1).alloc o2).alloc o3).alloc o4).setCell t (.pointer (some e)):=by
 have h0:=@run_callFunc_extern Tryz.prog 42 _ (λargs=>ReflectliteValue.unpack (args.getD 0 (.tuple #[]))) func42 yy yy yy (by kernel_rfl);have h1:=@run_callFunc_extern Tryz.prog 43 _ (ReflectliteValue.methodAny (ReflectliteValue.valueError "reflectlite.Value.Type" 0) (λt _ _ _=>ReflectliteType.toType t)) func43 (by kernel_rfl) (by kernel_rfl) (by kernel_rfl) (by kernel_rfl);have h2:=@run_callFunc_extern Tryz.prog 44 _ (ReflectliteValue.method (ReflectliteValue.valueError "reflectlite.Value.IsNil" 0) ReflectliteValue.isNil) func44 (by kernel_rfl) (by kernel_rfl) (by kernel_rfl) (by kernel_rfl);have h3:=@run_callFunc_extern Tryz.prog 234 _ (ReflectliteType.abiMethod λt=>do pure (.int .u8 (<-Rtype.kind t))) func234 (by kernel_rfl) (by kernel_rfl) (by kernel_rfl) (by kernel_rfl);have h4:=@run_callFunc_extern Tryz.prog 257 _ (ReflectliteType.method ReflectliteType.elem) func257 (by kernel_rfl) (by kernel_rfl) (by kernel_rfl) (by kernel_rfl);have h5:=@run_callFunc_extern Tryz.prog 258 _ (ReflectliteType.relation "Implements" ReflectliteType.implements_) func258 (by kernel_rfl) (by kernel_rfl) (by kernel_rfl) (by kernel_rfl);have h6:=@run_callFunc_extern Tryz.prog 72 _ (ReflectliteType.typeOf) func72 (by kernel_rfl) (by kernel_rfl) (by kernel_rfl) (by kernel_rfl);have h7:=@run_callFunc_extern Tryz.prog 255 _ (ReflectliteType.relation "AssignableTo" ReflectliteType.assignableTo) func255 (by kernel_rfl) (by kernel_rfl) (by kernel_rfl) (by kernel_rfl);have h8:=@run_callFunc_extern Tryz.prog 73 _ (ReflectliteValue.method (ReflectliteValue.valueError "reflectlite.Value.Elem" 0) ReflectliteValue.elem) func73 (by kernel_rfl) (by kernel_rfl) (by kernel_rfl) (by kernel_rfl);have h9:=@run_callFunc_extern Tryz.prog 74 _ (ReflectliteValue.set) func74 (by kernel_rfl) (by kernel_rfl) (by kernel_rfl) (by kernel_rfl);have mK:=QB;have mE:=QC;have mI:=dK;have mA:=gK;have f1:=H5;have f2:=zyq;have f3:=AT;have f4:=AW;have f5:=zyk;have f6:=zyj;have n8:=Aa ⟨(w:Nat),0,none⟩ t ((w.alloc (.cells #[.pointer (some t)] 70)).alloc (.cells #[uw 70,(w,0),.int .u64 150] 114)) zY;have ud:0<(w:Nat):=Sv;have oO:zy ((w.alloc (.cells #[.pointer (some t)] 70)).alloc (.cells #[uw 70,(w,0),.int .u64 150] 114)) 0 0 (.iface 183 (.agg #[uw 49])):=mC;have htl:t.block<(w:Nat):=Pm;have el:=za3 ⟨(w:Nat),0,none⟩ t (((w.alloc (.cells #[.pointer (some t)] 70)).alloc (.cells #[uw 70,(zX (w:Nat) 0),.int .u64 150] 114)).alloc (.cells #[uw 70,(zX (w:Nat) 0),.int .u64 150] 114)) rJ;have tO:=zx0;have aT:=zx1;have vT:=TC;have st:=yn5 t ⟨(w:Nat)+1+1+1,0,none⟩ e old ((((w.alloc (.cells #[.pointer (some t)] 70)).alloc (.cells #[uw 70,(zX (w:Nat) 0),.int .u64 150] 114)).alloc (.cells #[uw 70,(zX (w:Nat) 0),.int .u64 150] 114)).alloc (.cells #[.pointer (some e)] 68))
  rE
  sL
  sI
 go_enter func23,ntmps23;go_wp2;refine kh 1 ?_;rw[xk];go_wp2;go_ret;exact⟨rfl,_,_,_,_,rfl⟩
def zx9(e:Int)(t:yi)(old:zx)(w:z7)(hg:zy w 0 0 (.iface 183 (.agg #[uw 49])))(ht0:w.cell? t=some old)(hf0:w.frozen? t=false) :
  zE Tryz.prog 23 #[.iface 39 e,.iface 73 (.pointer (some t))] w λev w'=>ev = .returned (.bool true)/\∃o1 o2 o3 o4:Obj,w'=((((w.alloc o1).alloc o2).alloc o3).alloc o4).setCell t e:=by
 have h0:=@run_callFunc_extern Tryz.prog 42 _ (λargs=>ReflectliteValue.unpack (args.getD 0 (.tuple #[]))) func42 yy yy yy (by kernel_rfl);have h1:=@run_callFunc_extern Tryz.prog 43 _ (ReflectliteValue.methodAny (ReflectliteValue.valueError "reflectlite.Value.Type" 0) (λt _ _ _=>ReflectliteType.toType t)) func43 (by kernel_rfl) (by kernel_rfl) (by kernel_rfl) (by kernel_rfl);have h2:=@run_callFunc_extern Tryz.prog 44 _ (ReflectliteValue.method (ReflectliteValue.valueError "reflectlite.Value.IsNil" 0) ReflectliteValue.isNil) func44 (by kernel_rfl) (by kernel_rfl) (by kernel_rfl) (by kernel_rfl);have h3:=@run_callFunc_extern Tryz.prog 234 _ (ReflectliteType.abiMethod λt=>do pure (.int .u8 (<-Rtype.kind t))) func234 (by kernel_rfl) (by kernel_rfl) (by kernel_rfl) (by kernel_rfl);have h4:=@run_callFunc_extern Tryz.prog 257 _ (ReflectliteType.method ReflectliteType.elem) func257 (by kernel_rfl) (by kernel_rfl) (by kernel_rfl) (by kernel_rfl);have h5:=@run_callFunc_extern Tryz.prog 258 _ (ReflectliteType.relation "Implements" ReflectliteType.implements_) func258 (by kernel_rfl) (by kernel_rfl) (by kernel_rfl) (by kernel_rfl);have h6:=@run_callFunc_extern Tryz.prog 72 _ (ReflectliteType.typeOf) func72 (by kernel_rfl) (by kernel_rfl) (by kernel_rfl) (by kernel_rfl);have h7:=@run_callFunc_extern Tryz.prog 255 _ (ReflectliteType.relation "AssignableTo" ReflectliteType.assignableTo) func255 (by kernel_rfl) (by kernel_rfl) (by kernel_rfl) (by kernel_rfl);have h8:=@run_callFunc_extern Tryz.prog 73 _ (ReflectliteValue.method (ReflectliteValue.valueError "reflectlite.Value.Elem" 0) ReflectliteValue.elem) func73 (by kernel_rfl) (by kernel_rfl) (by kernel_rfl) (by kernel_rfl);have h9:=@run_callFunc_extern Tryz.prog 74 _ (ReflectliteValue.set) func74 (by kernel_rfl) (by kernel_rfl) (by kernel_rfl) (by kernel_rfl);have mK:=QB;have mE:=QC;have mI:=dK;have mA:=gK;have f1:=ib;have f2:=yxv;have f3:=za4;have f4:=za5;have f5:=yxu;have f6:=yxq;have n8:=za6 ⟨(w:Nat),0,none⟩ t ((w.alloc (.cells #[.pointer (some t)] 73)).alloc (.cells #[uw 73,(w,0),.int .u64 150] 114)) zY;have ud:0<(w:Nat):=Sv;have oO:zy ((w.alloc (.cells #[.pointer (some t)] 73)).alloc (.cells #[uw 73,(w,0),.int .u64 150] 114)) 0 0 (.iface 183 (.agg #[uw 49])):=mC;have htl:t.block<(w:Nat):=Pm;have el:=za7 ⟨(w:Nat),0,none⟩ t (((w.alloc (.cells #[.pointer (some t)] 73)).alloc (.cells #[uw 73,(zX (w:Nat) 0),.int .u64 150] 114)).alloc (.cells #[uw 73,(zX (w:Nat) 0),.int .u64 150] 114)) rJ;have tO:=Ot;have aT:=zx5;have vT:=TE;have st:=yn6 t ⟨(w:Nat)+1+1+1,0,none⟩ e old ((((w.alloc (.cells #[.pointer (some t)] 73)).alloc (.cells #[uw 73,(zX (w:Nat) 0),.int .u64 150] 114)).alloc (.cells #[uw 73,(zX (w:Nat) 0),.int .u64 150] 114)).alloc (.cells #[e] 39))
  rE
  sL
  sI
 go_enter func23,ntmps23;go_wp2;refine kh 1 ?_;rw[xk];go_wp2;go_ret;exact⟨rfl,_,_,_,_,rfl⟩
def za8(e:Int)(t:yi)(old:zx)(w:z7)(hg:zy w 0 0 (.iface 183 (.agg #[uw 49])))(ht0:w.cell? t=some old)(hf0:w.frozen? t=false) :
  zE Tryz.prog 23 #[.iface 39 e,.iface 70 (.pointer (some t))] w λev w'=>ev = .returned (.bool false)/\∃o1 o2 o3:Obj,w'=((w.alloc o1).alloc o2).alloc o3:=by
 have h0:=@run_callFunc_extern Tryz.prog 42 _ (λargs=>ReflectliteValue.unpack (args.getD 0 (.tuple #[]))) func42 yy yy yy (by kernel_rfl);have h1:=@run_callFunc_extern Tryz.prog 43 _ (ReflectliteValue.methodAny (ReflectliteValue.valueError "reflectlite.Value.Type" 0) (λt _ _ _=>ReflectliteType.toType t)) func43 (by kernel_rfl) (by kernel_rfl) (by kernel_rfl) (by kernel_rfl);have h2:=@run_callFunc_extern Tryz.prog 44 _ (ReflectliteValue.method (ReflectliteValue.valueError "reflectlite.Value.IsNil" 0) ReflectliteValue.isNil) func44 (by kernel_rfl) (by kernel_rfl) (by kernel_rfl) (by kernel_rfl);have h3:=@run_callFunc_extern Tryz.prog 234 _ (ReflectliteType.abiMethod λt=>do pure (.int .u8 (<-Rtype.kind t))) func234 (by kernel_rfl) (by kernel_rfl) (by kernel_rfl) (by kernel_rfl);have h4:=@run_callFunc_extern Tryz.prog 257 _ (ReflectliteType.method ReflectliteType.elem) func257 (by kernel_rfl) (by kernel_rfl) (by kernel_rfl) (by kernel_rfl);have h5:=@run_callFunc_extern Tryz.prog 258 _ (ReflectliteType.relation "Implements" ReflectliteType.implements_) func258 (by kernel_rfl) (by kernel_rfl) (by kernel_rfl) (by kernel_rfl);have h6:=@run_callFunc_extern Tryz.prog 72 _ (ReflectliteType.typeOf) func72 (by kernel_rfl) (by kernel_rfl) (by kernel_rfl) (by kernel_rfl);have h7:=@run_callFunc_extern Tryz.prog 255 _ (ReflectliteType.relation "AssignableTo" ReflectliteType.assignableTo) func255 (by kernel_rfl) (by kernel_rfl) (by kernel_rfl) (by kernel_rfl);have h8:=@run_callFunc_extern Tryz.prog 73 _ (ReflectliteValue.method (ReflectliteValue.valueError "reflectlite.Value.Elem" 0) ReflectliteValue.elem) func73 (by kernel_rfl) (by kernel_rfl) (by kernel_rfl) (by kernel_rfl);have h9:=@run_callFunc_extern Tryz.prog 74 _ (ReflectliteValue.set) func74 (by kernel_rfl) (by kernel_rfl) (by kernel_rfl) (by kernel_rfl);have mK:=QB;have mE:=QC;have mI:=dK;have mA:=gK;have f1:=H5;have f2:=zyq;have f3:=AT;have f4:=AW;have f5:=zyk;have f6:=zyj;have n8:=Aa ⟨(w:Nat),0,none⟩ t ((w.alloc (.cells #[.pointer (some t)] 70)).alloc (.cells #[uw 70,(w,0),.int .u64 150] 114)) zY;have ud:0<(w:Nat):=Sv;have oO:zy ((w.alloc (.cells #[.pointer (some t)] 70)).alloc (.cells #[uw 70,(w,0),.int .u64 150] 114)) 0 0 (.iface 183 (.agg #[uw 49])):=mC;have htl:t.block<(w:Nat):=Pm;have tO:=Ot;have aT:=Oh;have n1:=yxk;have n2:=TH;have n3:=Ow;go_enter func23,ntmps23;go_wp2;refine kh 1 ?_;rw[xk];go_wp2;go_ret;exact⟨rfl,_,_,_,rfl⟩
end Go.Proofs.YtfcemhlpdcnckaaGreatDoor
namespace Go.Proofs.YtfcemhlpdcnckaaGreatDoor
open Go Go.RowKit
set_option maxRecDepth 10000
variable{w w':z7}
def Cn(w:z7):Prop:=w.cell? (0,0)=some (.iface 183 (.agg #[uw 49]))
def Cn.below(h:Cn w)(hb:zJ w w'):Cn w':=by
 have a:=Y w _ h;unfold Cn;rw[hb.cell (p:=(zX 0 0)) a];exact h
def yxj(n:Int):zx:=if n=0 then .nilIface else .iface 39 n
def KR(n at_:Int)(w:z7)(e:gG)(w':z7):Prop:=e = .returned (.tuple #[n,at_])/\zJ w w'
def P0(w:z7):zE Tryz.prog 14 #[.nilIface] w (KR 0 0 w):=by
 go_enter func14,ntmps14;go_wp2;go_ret2
 exact rB
def yxg(n:Int)(w:z7)(h:Cn w):zE Tryz.prog 14 #[.iface 39 n] w (KR n 0 w):=by
 have g:=Z h;clear h;go_enter func14,ntmps14;go_wp2_with fail;refine yh ?_;intro W hW;have hb:zJ w W:=Ie;have i:(w:Nat)+2<=(W:Nat):=by rw[hW];simp
 have hA:zy W (w:Nat) 0 (.pointer none)/\W.frozen? (zX (w:Nat) 0)=false:=Rj;have hB:zy W ((w:Nat)+1) 0 (.int .i64 0)/\W.frozen? (zX ((w:Nat)+1) 0)=false:=Rj;clear hW;refine(za8 n ⟨(w:Nat),0,none⟩ _ W (g.o.below hb) hA.1 hA.2).mono ?_;rintro e w1 ⟨rfl,l,m,p,f⟩;have qV:zJ W w1:=by rw[f];exact(((z8 _ _).alloc (X _) _).alloc zY _).alloc zV _
 have a:zy w1 ((w:Nat)+1) 0 (.int .i64 0)/\w1.frozen? ((w:Nat)+1,0)=false :=
  ⟨by rw[qV.cell zV];exact hB.1,by rw[qV.frozen zV];exact hB.2⟩
 have b:=hb.trans (qV.mono J);have j:(w:Nat)+2<=(w1:Nat):=S6;clear f hA hB qV i;go_wp2_with fail;refine(zx9 n ⟨(w:Nat)+1,0,none⟩ _ w1 (g.o.below b) a.1 a.2).mono ?_;rintro e w2 ⟨rfl,p1,p2,q,r,PH⟩;have d:yX ((w:Nat)+1) w1 w2:=sM;have c:=b.trans (d.mono J);have k:zy w2 ((w:Nat)+1) 0 n:=by
  rw[PH,zN,zl rfl];rw[za _ _ _ zV,za _ _ _ zV,za _ _ _ zV,za _ _ _ (by show (w:Nat)+1<_;omega),a.1];rfl
 clear PH d a;go_wp2;go_ret2
 exact⟨rfl,c⟩
def yxf(n:Int)(w:z7)(a:Cn w):zE Tryz.prog 14 #[yxj n] w (KR n 0 w):=by
 unfold yxj;by_cases h:n=0
 .subst h;rw[zl rfl];exact P0 w
 .rw[zL h];exact yxg n w a
def zxz(c o:zx)(ra rb:Bool)(mi po gr:Int)(fi ne:Nat)(dg:ByteArray)(Qc Qo:z7->zx->Prop)(w:z7)(hd:dg.size<=1000000)(hfi:fi<=255)(fH:ne<=255)
  (hc:dM w c ra Qc) (ho:dM w o rb Qo) (S:(∃a n k,c = .slice a n k)/\∃a n k,o = .slice a n k) (hT:XL 2 3 w) :
  zE Tryz.prog 20 #[CN c o mi po gr fi ne dg] w (Oj ra rb mi po gr fi ne dg.data.toList Qc Qo w):=by
 obtain⟨⟨ca,s,q,rfl⟩,y,on,ok,rfl⟩:=S;have yax:∀W:z7,(ZF 95 (.agg #[.int .i32 mi,.int .i32 po,.int .i32 gr]) (.int .i64 0)).run Tryz.prog W = .ok (.int .i32 mi) W:=λW=>yy
 have yav:∀W:z7,(ZF 95 (.agg #[.int .i32 mi,.int .i32 po,.int .i32 gr]) (.int .i64 1)).run Tryz.prog W = .ok (.int .i32 po) W:=λW=>yy
 have yau:∀W:z7,(ZF 95 (.agg #[.int .i32 mi,.int .i32 po,.int .i32 gr]) (.int .i64 2)).run Tryz.prog W = .ok (.int .i32 gr) W:=λW=>yy
 obtain⟨L,Q⟩:=zo dg.data.toList;rw[Q];have HL:=Z Q;clear Q;have HC:=Z hc;have HO:=Z ho;clear hc ho;go_enter func20,ntmps20;go_wp2_with fail;refine yh ?_;intro W hW;have hR:RW (w:Nat) (.slice ca s q) (.slice y on ok) (.slice none 0 0) (.slice none 0 0) mi po gr fi ne ne dg W:=by
  rw[hW];refine⟨?_,?_⟩
  .rw[xA _ _ _ zY];show(w.heap.push _)[(w:Nat)]? = _;simp
  .show((w.heap.push _).push _)[(w:Nat)+1]? = _;exact eZ _ _ _
 have x:zJ w W:=Ie;have I:(w:Nat)+2<=(W:Nat):=by rw[hW];simp
 clear hW;have mz:=Z I;refine(HC.o W x).mono ?_;rintro e O ⟨⟨a1,B,k1,rfl,F⟩,qV⟩;have t:=hR.below qV J;have H:zJ w O:=x.trans (qV.mono J);have N7:(w:Nat)+2<=(O:Nat):=S6;clear hR x I qV;obtain⟨g0,g1,g2,g3,g4,g5,g6⟩:=t.b;obtain⟨a0,a1',a2,a3,a4,a5,a6,a7,a8⟩:=t.a;have HQ1:=Z F;clear F;go_wp2_with fail;refine yh ?_;intro z j;have R:RW (w:Nat) (.slice ca s q) (.slice y on ok) (.slice a1 B k1) (.slice none 0 0) mi po gr fi ne ne dg z:=by rw[j];exact t.V4 _
 have l:zJ w z:=by rw[j];exact H.setCell (p:=(zX ((w:Nat)+1) 0)) zY _
 have TI:yX w O z:=by rw[j];exact(z8 _ _).setCell (p:=(zX ((w:Nat)+1) 0)) zY _
 have Vk:(w:Nat)+2<=(z:Nat):=by rw[j];simpa using N7
 have s12:XP (w:Nat) O z:=by rw[j];exact(XP.refl _ _).set _ _ (.inr rfl)
 clear j;refine(HO.o z l).mono ?_;rintro e W3 ⟨⟨E,N,M,rfl,G⟩,kL⟩;have u:=R.below kL J;have m:zJ w W3:=l.trans (kL.mono J);have PD:(w:Nat)+2<=(W3:Nat):=by have:=kL.size;omega
 have s13:=s12.trans (XP.below (b:=(w:Nat)) kL);clear a0 a1' a2 a3 a4 a5 a6 a7 a8 g0 g1 g2 g3 g4 g5 g6;obtain⟨g0,g1,g2,g3,g4,g5,g6⟩:=u.b;obtain⟨a0,a1',a2,a3,a4,a5,a6,a7,a8⟩:=u.a;have HQ3:=Z G;clear G;by_cases g:ra=true/\rb=true/\max (fi:Int) (ne:Int)<=9/\¬mi=0/\¬po=0
 .obtain⟨r1,r2,r3,r4,r5⟩:=g;have hmi:(mi==0)=false:=by simpa using r4
  have lB:(po==0)=false:=by simpa using r5
  go_wp2_with fail;refine fP ?_;intro A f;have d:RW (w:Nat) (.slice ca s q) (.slice y on ok) (.slice a1 B k1) (.slice E N M) mi po gr fi ne ne dg A:=by rw[f];exact u.Bk _
  have Fm:zJ w A:=by rw[f];exact m.setCell (p:=(zX ((w:Nat)+1) 1)) zY _
  have Pc:yX ((w:Nat)+1) W3 A:=by rw[f];exact(z8 _ _).setCell (p:=(zX ((w:Nat)+1) 1)) zY _
  have hz4:(w:Nat)+2<=(A:Nat):=by rw[f];simpa using PD
  have s34:XP (w:Nat) W3 A:=by rw[f];exact(XP.refl _ _).set _ _ (.inr rfl)
  have N8:=Z f;clear f;clear a0 a1' a2 a3 a4 a5 a6 a7 a8 g0 g1 g2 g3 g4 g5 g6;go_loopw [71] (λi wr=>∃k:Nat,k<=3/\i = .int .i64 k/\wr=A/\(0<k->qD mi=true)/\(1<k->qD po=true)/\(2<k->qD gr=true)) (λi _=>3 - (intOf i).toNat)
  case atStart=>exact⟨0,J,rfl,rfl,λh=>J,λh=>J,λh=>J⟩
  case round =>
   obtain⟨k,hk,rfl,AL,p1,p2,p3⟩:=hrel;subst AL;have QS:k=0\/k=1\/k=2\/k=3:=J;rcases QS with T|U|V|hk3
   .subst T;go_wp2_with fail;refine(Tryz.utf8_ValidRune mi _).mono ?_;rintro e w' ⟨rfl,rfl⟩;rw[QK];cases hp:qD mi
    .have HF:=Z (Jm (ra:=ra) (rb:=rb) (fi:=fi) (ne:=ne) (dg:=L) (mi:=mi) (po:=po) (gr:=gr) (.inl hp));exact R5
    .have C:=Z hp;clear hp;go_wp2;go_roundw
     case rel=>exact⟨1,J,xi,LV,λ_=>C.o,λh=>J,λh=>J⟩
     case measure=>simp[intOf]
   .subst U;go_wp2_with fail;refine(Tryz.utf8_ValidRune po _).mono ?_;rintro e w' ⟨rfl,rfl⟩;rw[QK];cases hp:qD po
    .have HF:=Z (Jm (ra:=ra) (rb:=rb) (fi:=fi) (ne:=ne) (dg:=L) (mi:=mi) (po:=po) (gr:=gr) (.inr (.inl hp)));exact R5
    .have C:=Z hp;clear hp;go_wp2;go_roundw
     case rel=>exact⟨2,J,xi,LV,λ_=>p1 J,λ_=>C.o,λh=>J⟩
     case measure=>simp[intOf]
   .subst V;go_wp2_with fail;refine(Tryz.utf8_ValidRune gr _).mono ?_;rintro e w' ⟨rfl,rfl⟩;rw[QK];cases hp:qD gr
    .have HF:=Z (Jm (ra:=ra) (rb:=rb) (fi:=fi) (ne:=ne) (dg:=L) (mi:=mi) (po:=po) (gr:=gr) (.inr (.inr hp)));exact R5
    .have C:=Z hp;clear hp;go_wp2;go_roundw
     case rel=>exact⟨3,J,xi,LV,λ_=>p1 J,λ_=>p2 J,λ_=>C.o⟩
     case measure=>simp[intOf]
   .subst hk3;by_cases n0:ne=0
    .have n0':((ne:Int)==0)=true:=(by simp[n0]);by_cases d0:L=[]
     .have d0':dg.toList.isEmpty=true:=(by rw[toList_eq,HL.o,d0];rfl);obtain⟨g0,g1,g2,g3,g4,g5,g6⟩:=d.b;obtain⟨a0,a1',a2,a3,a4,a5,a6,a7,a8⟩:=d.a;go_wp2_with fail;refine yh ?_;intro W6 Gd;obtain⟨D,hD⟩:∃D:ByteArray,D=⟨#[48,49,50,51,52,53,54,55,56,57]⟩:=⟨_,rfl⟩;obtain⟨nx,HNX,hnx⟩:∃nx:Nat,Hid (nx=if ne=0 then fi else ne)/\nx=fi:=⟨_,Z (by rw[zl n0]),rfl⟩;have hR6:RW (w:Nat) (.slice ca s q) (.slice y on ok) (.slice a1 B k1) (.slice E N M) mi po gr fi ne (nx:Int) D W6:=(by rw[Gd,hD,hnx];exact((d.wk _).yc7 _));have lW:yX w wr W6:=WS;have s46:XP (w:Nat) wr W6:=(by rw[Gd];exact(((XP.refl _ _).set _ _ (.inr rfl)).set _ _ (.inl rfl)));exact pR
     .have d0':dg.toList.isEmpty=false:=(by rw[toList_eq,HL.o];simpa using d0);obtain⟨g0,g1,g2,g3,g4,g5,g6⟩:=d.b;obtain⟨a0,a1',a2,a3,a4,a5,a6,a7,a8⟩:=d.a;go_wp2_with fail;refine yh ?_;intro W6 Gd;obtain⟨D,hD⟩:∃D:ByteArray,D=dg:=⟨_,rfl⟩;obtain⟨nx,HNX,hnx⟩:∃nx:Nat,Hid (nx=if ne=0 then fi else ne)/\nx=fi:=⟨_,Z (by rw[zl n0]),rfl⟩;have hR6:RW (w:Nat) (.slice ca s q) (.slice y on ok) (.slice a1 B k1) (.slice E N M) mi po gr fi ne (nx:Int) D W6:=(by rw[Gd,hD,hnx];exact(d.wk _));have lW:yX w wr W6:=WS;have s46:XP (w:Nat) wr W6:=(by rw[Gd];exact((XP.refl _ _).set _ _ (.inr rfl)));exact pS
    .have n0':((ne:Int)==0)=false:=(by simpa using n0);by_cases d0:L=[]
     .have d0':dg.toList.isEmpty=true:=(by rw[toList_eq,HL.o,d0];rfl);obtain⟨g0,g1,g2,g3,g4,g5,g6⟩:=d.b;obtain⟨a0,a1',a2,a3,a4,a5,a6,a7,a8⟩:=d.a;go_wp2_with fail;refine yh ?_;intro W6 Gd;obtain⟨D,hD⟩:∃D:ByteArray,D=⟨#[48,49,50,51,52,53,54,55,56,57]⟩:=⟨_,rfl⟩;obtain⟨nx,HNX,hnx⟩:∃nx:Nat,Hid (nx=if ne=0 then fi else ne)/\nx=ne:=⟨_,Z (by rw[zL n0]),rfl⟩;have hR6:RW (w:Nat) (.slice ca s q) (.slice y on ok) (.slice a1 B k1) (.slice E N M) mi po gr fi ne (nx:Int) D W6:=(by rw[Gd,hD,hnx];exact(d.yc7 _));have lW:yX w wr W6:=WS;have s46:XP (w:Nat) wr W6:=(by rw[Gd];exact((XP.refl _ _).set _ _ (.inl rfl)));exact pR
     .have d0':dg.toList.isEmpty=false:=(by rw[toList_eq,HL.o];simpa using d0);obtain⟨g0,g1,g2,g3,g4,g5,g6⟩:=d.b;obtain⟨a0,a1',a2,a3,a4,a5,a6,a7,a8⟩:=d.a;go_wp2_with fail;refine yh ?_;intro W6 Gd;obtain⟨D,hD⟩:∃D:ByteArray,D=dg:=⟨_,rfl⟩;obtain⟨nx,HNX,hnx⟩:∃nx:Nat,Hid (nx=if ne=0 then fi else ne)/\nx=ne:=⟨_,Z (by rw[zL n0]),rfl⟩;have hR6:RW (w:Nat) (.slice ca s q) (.slice y on ok) (.slice a1 B k1) (.slice E N M) mi po gr fi ne (nx:Int) D W6:=(by rw[Gd,hD,hnx];exact d);have lW:yX w wr W6:=WS;have s46:XP (w:Nat) wr W6:=(by rw[Gd];exact(XP.refl _ _));exact pS
 .have HF:=Z (wu (gr:=gr) (dg:=L) g);go_wp2;all_goals first
   |(exfalso;refine g ⟨by assumption,by assumption,by assumption,by assumption,?_⟩;rename_i hh;simp_all;done)
   |(refine zU (v := .pointer none) ?_ rfl ?_
     focus(simp[yk,results20,go_sem, *])
     refine⟨m.trans ((z8 _ _).setCell (p:=((w:Nat)+1,1)) zY _),?_⟩;first
      |rw[HF.o]
      |(have hf:=HF.o;rw[‹ra=true›,‹rb=true›]at hf;rw[hf])
     exact rfl)

variable{c:zx}{w1:z7}
def dM.later{r:Bool}{Q:z7->zx->Prop}(h:dM w c r Q)(hb:zJ w w1):dM w1 c r Q:=by
 intro W i;refine(h W (hb.trans (i.mono hb.size))).mono ?_;rintro e m ⟨⟨a,n,k,he,g⟩,b⟩;exact⟨⟨a,n,k,he,λf d=>g f ⟨d.1,λj l=>d.2 j (l.imp (λq=>ze q hb.size) id)⟩⟩,b⟩
structure zxy(w:z7):Prop where
 yxd:XL 2 3 w
 err:Cn w
def zxy.below(h:zxy w)(hb:zJ w w'):zxy w':=⟨Fp h.yxd hb,h.err.below hb⟩
variable{f:Fo}{gr mi po:Int}{l:List UInt8}{q:Nat}{cv ov:zx}
def P1(h:gp l = .ok f):ui l = .ok f/\V7 f=none:=by
 unfold gp at h;cases hp:ui l with
 |error e=>rw[hp]at h;cases h
 |ok g =>
  rw[hp]at h;dsimp only at h;cases hc:V7 g with
  |some e=>rw[hc]at h;cases h
  |none=>rw[hc]at h;cases h;exact⟨rfl,hc⟩
def gQ.below(h:gQ w)(hb:zJ w w'):gQ w' :=
 h.fr (F:=j6) (F':=j6) (B:=4+1) (Fr.of hb) (λ_ q=>q.elim) (xf _)
structure Vl(w:z7):Prop where
 tabs:zxy w
 names:kb w
 zn6:gQ w
def Vl.below(h:Vl w)(hb:zJ w w'):Vl w':=⟨h.tabs.below hb,h.names.below hb,h.zn6.below hb⟩
structure P2(P q g mb:Nat)(f:Fo)(vC vI:zx)(rs:List (zx×zx))(mi po gr:Int)(fi ne:Nat)(dg:List UInt8)(cv ov:zx)(w:z7):Prop where
 p0:zy w P 0 (q,0)
 p1:zy w P 1 (g,0)
 prog:VA q (MkS.all f) vC vI rs mb w
 gl:g<(w:Nat)
 loc:wy w g mi po gr fi ((if ne=0 then fi else ne:Nat):Int) (yS (NQ dg))
 g0:zy w g 0 cv
 g1:zy w g 1 ov
def P2.below{P g mb:Nat}{vC vI:zx}{rs:List (zx×zx)}{fi ne:Nat}{dg:List UInt8}(h:P2 P q g mb f vC vI rs mi po gr fi ne dg cv ov w)(hb:zJ w w'):P2 P q g mb f vC vI rs mi po gr fi ne dg cv ov w':=by
 have hf:Fr j6 j6 w w':=Fr.of hb;exact⟨hf.cell h.p0 id,hf.cell h.p1 id,h.prog.below hb,ze h.gl hb.size,h.loc.below hb h.gl,hf.cell h.g0 id,hf.cell h.g1 id⟩
def yn7(kn:Bool)(r:Except (Nat×Nat) Fo)(mi po gr:Int)(fi ne:Nat)(dg:List UInt8)(Qc Qo:z7->zx->Prop)(w:z7)(e:gG)(w':z7):Prop :=
 zJ w w' /\
 if kn=false then e = .returned (.tuple #[.pointer none,yxj 8])
 else match r with
  |.error (n,a)=>∃b,e = .returned (.tuple #[.pointer none,.iface 68 (.pointer (some ⟨b,0,none⟩))])/\zy w' b 0 n/\zy w' b 1 a
  |.ok f=>∃P q g mb vC vI rs cv ov,e = .returned (.tuple #[.pointer (some ⟨P,0,none⟩),.nilIface])/\P2 P q g mb f vC vI rs mi po gr fi ne dg cv ov w'/\(∀W,zJ w' W->Qc W cv)/\∀W,zJ w' W->Qo W ov
def Mu(s:ByteArray)(c o:zx)(ra rb:Bool)(mi po gr:Int)(fi ne:Nat)(dg:ByteArray)(Qc Qo:z7->zx->Prop)(w:z7)(hs:s.size<=1000000)(hd:dg.size<=1000000)(hfi:fi<=255)(fH:ne<=255)
  (hc:dM w c ra Qc) (ho:dM w o rb Qo) (H:(∃a n k,c = .slice a n k)/\∃a n k,o = .slice a n k) (hE:Vl w) :
  zE Tryz.prog 13 #[.string s,CN c o mi po gr fi ne dg] w (yn7 (uH ra rb mi po gr fi ne dg.data.toList) (gp s.data.toList) mi po gr fi ne dg.data.toList Qc Qo w):=by
 obtain⟨HC,HO,U,R⟩:=hdd hc ho H hE;clear hc ho H hE;go_enter func13,ntmps13;go_wp2_with fail;refine yh ?_;intro W hW;have hb:zJ w W:=UM;clear hW;refine(zxz c o ra rb mi po gr fi ne dg Qc Qo W hd hfi fH (HC.o.later hb) (HO.o.later hb) U.o (R.o.below hb).tabs.yxd).mono ?_;rintro e w1 ⟨D,j⟩;have h:zJ w w1:=hb.trans (D.mono hb.size);obtain⟨kn,E⟩:=zo (uH ra rb mi po gr fi ne dg.data.toList);rw[E]at j;have IH:=Z E;clear E;cases kn
 .rw[zL zY]at j;subst j;clear hb D;go_wp2;go_ret2
  refine⟨h,?_⟩;rw[zl IH.o];rfl
 .rw[zl rfl]at j;obtain⟨g,cv,ov,rfl,hg0,I,hX,c0,c1,P,Q⟩:=j;obtain⟨HX,HQC,HQO,S,T⟩:=FD hX P Q c0 c1;clear hX P Q hb D c0 c1;obtain⟨r,hr⟩:=zo (gp s.data.toList);have B:=Z (zy7 s w1 J (R.o.below h).tabs.yxd (R.o.below h).names);rw[hr]at B|-;have HR:=Z hr;clear hr;go_wp2_with fail;refine B.o.mono ?_;rintro e w2 ⟨hq,p⟩;have l:=h.trans (p.mono h.size);clear B;cases r with
  |error en =>
   obtain⟨n,a⟩:=en;obtain⟨v,b,rfl,⟨va,vn,vk,rfl⟩,f0,f1⟩:=hq;clear p;go_wp2;go_ret2
   refine⟨l,?_⟩;rw[zL IE,HR.o];exact⟨b,rfl,f0,f1⟩
  |ok f =>
   obtain⟨⟨a,k,vs,rfl,A,K⟩,t⟩:=hq;obtain⟨M,N⟩:=P1 HR.o;obtain⟨k1,k2⟩:=zyu M N;have m:=R.o.below l;have V:=Z (zy3 f w2 a k vs A K (X _) t.msg t.wf k1 (by have:=t.len;omega) J m.zn6 m.names);obtain⟨L,hL⟩:=zo f.len;rw[hL]at V|-;clear A K t M N k1 k2 m hL;go_wp2_with fail;refine V.o.mono ?_;rintro e w3 ⟨q,vC,vI,rs,mb,rfl,O,hq0,F⟩;have x:=p.trans (F.mono p.size);have u:=l.trans (F.mono l.size);have HPA:=Z O;clear O V;go_wp2;go_ret2
   obtain⟨z,hz⟩:=zo (w3:Nat);have G:=λi=>zg w3 #[(q,0),(g,0)] 67 (0,0) i
   have C:yX w3 w3 (w3.alloc (.cells #[(zX q 0),(zX g 0)] 67)):=(z8 _ _).alloc (X _) _;have d:=x.trans (C.mono x.size);have y:Fr j6 j6 w1 _:=Fr.of d;refine⟨u.trans (C.mono u.size),?_⟩;rw[zL IE,HR.o];refine⟨_,q,g,mb,vC,vI,rs,cv,ov,rfl,⟨G 0,G 1,HPA.o.below C,ze I d.size,HX.o.below d I,y.cell S.o id,y.cell T.o id⟩,λW hW=>HQC.o W (d.trans (hW.mono d.size)),λW hW=>HQO.o W (d.trans (hW.mono d.size))⟩
def yxb(b:Nat)(n a:Int)(w:z7)(i:Cn w)(g:zy w b 0 n)(h1:zy w b 1 a) :
  zE Tryz.prog 14 #[.iface 68 (b,0)] w (KR n a w):=by
 have l:=Z i;have j:=Z g;have k:=Z h1;have f:b<(w:Nat):=Y w _ g;clear i g h1;go_enter func14,ntmps14;go_wp2_with fail;refine yh ?_;intro W hW;have hb:zJ w W:=Ie;have q:(w:Nat)+2<=(W:Nat):=by rw[hW];simp
 have hA:zy W (w:Nat) 0 (.pointer none)/\W.frozen? (zX (w:Nat) 0)=false:=Rj;clear hW;refine(zx8 ⟨b,0,none⟩ ⟨(w:Nat),0,none⟩ _ W (l.o.below hb) hA.1 hA.2).mono ?_;rintro e w2 ⟨rfl,p1,p2,r,s,PH⟩;have d:yX w W w2:=sM;have c:=hb.trans d;have m:zy w2 (w:Nat) 0 (b,0):=by
  rw[PH,zN,zl rfl];rw[za _ _ _ zV,za _ _ _ zV,za _ _ _ zV,za _ _ _ S9,hA.1];rfl
 have d0:=(c.cell (p:=(zX b 0)) f).trans j.o;have d1:=(c.cell (p:=(zX b 1)) f).trans k.o;clear PH d hA;have h:zy w2.drew (w:Nat) 0 (zX b 0)/\zy w2.drew b 0 n/\zy w2.drew b 1 a:=⟨m,d0,d1⟩;go_wp2_with fail;refine bW (λW':z7=>zy W' (w:Nat) 0 (zX b 0)/\zy W' b 0 n/\zy W' b 1 a) [0,1,2,3,4,5,6,7,8,9] 0 h ?_;refine fR ?_ _;go_wp2;go_ret2
 exact⟨rfl,c.drew⟩
def yv0(kn:Bool)(r:Except (Nat×Nat) Fo)(mi po gr:Int)(fi ne:Nat)(dg:List UInt8)(Qc Qo:z7->zx->Prop)(w:z7)(e:gG)(w':z7):Prop :=
 zJ w w' /\
 if kn=false then e = .returned (.tuple #[.pointer none,.int .i64 8,.int .i64 0])
 else match r with
  |.error (n,a)=>e = .returned (.tuple #[.pointer none,n,a])
  |.ok f=>∃P q g mb vC vI rs cv ov,e = .returned (.tuple #[.pointer (some ⟨P,0,none⟩),.int .i64 0,.int .i64 0])/\P2 P q g mb f vC vI rs mi po gr fi ne dg cv ov w'/\(∀W,zJ w' W->Qc W cv)/\∀W,zJ w' W->Qo W ov
def Mq(s:ByteArray)(c o:zx)(ra rb:Bool)(mi po gr:Int)(fi ne:Nat)(dg:ByteArray)(B C:z7->zx->Prop)(w:z7)(hs:s.size<=1000000)(hd:dg.size<=1000000)(D:fi<=255)(E:ne<=255)
  (hc:dM w c ra B) (K:dM w o rb C) (u:(∃a n k,c = .slice a n k)/\∃a n k,o = .slice a n k) (I:Vl w) :
  zE Tryz.prog 10 #[.string s,CN c o mi po gr fi ne dg] w (yv0 (uH ra rb mi po gr fi ne dg.data.toList) (gp s.data.toList) mi po gr fi ne dg.data.toList B C w):=by
 obtain⟨L,M,z,F⟩:=hdd hc K u I;clear hc K u I;go_enter func10,ntmps10;go_wp2_with fail;refine yh ?_;intro W hW;have hb:zJ w W:=UM;clear hW;refine(Mu s c o ra rb mi po gr fi ne dg B C W hs hd D E (L.o.later hb) (M.o.later hb) z.o (F.o.below hb)).mono ?_;rintro e w1 ⟨m,i⟩;have h:zJ w w1:=hb.trans (m.mono hb.size);have l:=F.o.below h;obtain⟨kn,t⟩:=zo (uH ra rb mi po gr fi ne dg.data.toList);rw[t]at i;have IH:=Z t;clear t;cases kn
 .rw[zl rfl]at i;subst i;have p:=Z (yxf 8 w1 l.tabs.err);clear hb m l;go_wp2_with fail;refine p.o.mono ?_;rintro e w2 ⟨rfl,d⟩;have j:=h.trans (d.mono h.size);clear p d;go_wp2;go_ret3
  refine⟨j,?_⟩;rw[zl IH.o];rfl
 .rw[zL zY]at i;obtain⟨r,hr⟩:=zo (gp s.data.toList);rw[hr]at i;have H:=Z hr;clear hr;cases r with
  |error O =>
   obtain⟨n,a⟩:=O;obtain⟨b,rfl,f0,f1⟩:=i;have p:=Z (yxb b n a w1 l.tabs.err f0 f1);clear hb m l f0 f1;go_wp2_with fail;refine p.o.mono ?_;rintro e w2 ⟨rfl,d⟩;have j:=h.trans (d.mono h.size);clear p d;go_wp2;go_ret3
   refine⟨j,?_⟩;rw[zL IE,H.o];rfl
  |ok f =>
   obtain⟨P,q,g,mb,vC,vI,rs,cv,ov,rfl,v,x,y⟩:=i;have p:=Z (P0 w1);have N:=Z v;have G:=Z (qZ x y);clear hb m l v x y;go_wp2_with fail;refine p.o.mono ?_;rintro e w2 ⟨rfl,d⟩;have j:=h.trans (d.mono h.size);have A:=Z (N.o.below d);clear p;go_wp2;go_ret3
   refine⟨j,?_⟩;rw[zL IE,H.o];exact⟨P,q,g,mb,vC,vI,rs,cv,ov,rfl,A.o,λW hW=>G.o.1 W (d.trans (hW.mono d.size)),λW hW=>G.o.2 W (d.trans (hW.mono d.size))⟩
variable{s:ByteArray}{xs:List zx}{B j n p:Nat}{e:uP}{u v:zx}{W W':z7}
structure Mk where
 kind:Nat
 text:Wd
 name:Wd
 how:Wd
 off:Wd
 pl:Nat
deriving DecidableEq
def xl(m:Mk):List zx:=[.int .u8 (m.kind:Nat),zv m.text,zv m.name,zv m.how,zv m.off,.int .i64 m.pl]
def vU(l:List Mk):List zx:=l.flatMap xl
def fU(l:List Bool):List zx:=l.map UH
structure Sc where
 i:Nat
 out:List Mk
 uo:List Bool
 err:Nat
 place:Nat
structure yT(p:Nat)(s:ByteArray)(x:Sc)(w:z7):Prop where
 c0:zy w p 0 (.string s)
 c1:zy w p 1 x.i
 rows:∃v2 v3,zy w p 2 v2/\w.ownsRow (p+1) 85 6 v2 x.out.length (vU x.out)/\zy w p 3 v3/\w.ownsRow (p+1) 4 1 v3 x.uo.length (fU x.uo)/\∀g,v2.ownBlock=some g->v3.ownBlock≠some g
 c4:zy w p 4 x.err
 c5:zy w p 5 x.place
 z:∀j,w.frozen? ⟨p,j,none⟩=false
 size:s.size<=100000
 here:x.i<=s.size
 yn8:x.out.length<=1000000
 zxx:x.uo.length<=1000000
def yT.lt{x:Sc}(h:yT p s x w):p<(w:Nat):=Y w _ h.c0
def vx{base:Nat}{size:Nat}(h:W.ownsRow base e size v n xs)(hb:zJ W W'):W'.ownsRow base e size v n xs:=by
 have a:=h.lt;obtain⟨h1,h2⟩:=h;refine⟨h1,?_⟩;rcases h2 with h2|⟨g,cap,cur,hv,b,c,rest⟩
 .exact .inl h2
 .exact .inr ⟨g,cap,cur,hv,b,(hb.block g (a g (by rw[hv];rfl)).2).trans c,rest⟩
def yT.below{x:Sc}(h:yT p s x w)(hb:zJ w w'):yT p s x w':=by
 have a:=h.lt;obtain⟨e,h1,⟨v2,v3,h2,c,f,d,hd⟩,g,i,k,l,m,n,b⟩:=h;exact⟨(hb.cell (p:=(p,0)) a).trans e,(hb.cell (p:=(p,1)) a).trans h1,⟨v2,v3,(hb.cell (p:=(p,2)) a).trans h2,vx c hb,(hb.cell (p:=(p,3)) a).trans f,vx d hb,hd⟩,
  (hb.cell (p:=(p,4)) a).trans g,(hb.cell (p:=(p,5)) a).trans i,λj=>(hb.frozen (p:=⟨p,j,none⟩) a).trans (k j),l,m,n,b⟩
def yT.Y0{x:Sc}(h:yT p s x w)(i:Nat)(hi:i<=s.size):yT p s { x with i:=i } (w.setCell (p,1) (i:Nat)):=by
 obtain⟨h0,h1,⟨v2,v3,h2,b,h3,c,hd⟩,d,h5,h6,e,g,f,a⟩:=h;exact⟨JM,by rw[zN,zl rfl,h1];rfl,⟨v2,v3,LU,zk b Qy _,Sd,zk c (by show p<p+1;omega) _,hd⟩,
  by rw[zN,zL zY];exact d,Ld,λj=>S1,e,hi,f,a⟩
def yT.xbb{x:Sc}(h:yT p s x w)(e:Nat):yT p s { x with err:=e } (w.setCell (p,4) (e:Nat)):=by
 obtain⟨h0,h1,⟨v2,v3,h2,b,h3,c,hd⟩,d,h5,h6,f,g,i,a⟩:=h;exact⟨JM,Sb,⟨v2,v3,LU,zk b (by show p<p+1;omega) _,Sd,zk c (by show p<p+1;omega) _,hd⟩,
  by rw[zN,zl rfl,d];rfl,Ld,λj=>S1,f,g,i,a⟩
def yT.xa0{x:Sc}(h:yT p s x w)(e:Nat):yT p s { x with place:=e } (w.setCell (p,5) (e:Nat)):=by
 obtain⟨h0,h1,⟨v2,v3,h2,b,h3,c,hd⟩,d,f,h6,g,i,k,a⟩:=h;exact⟨JM,Sb,⟨v2,v3,LU,zk b (by show p<p+1;omega) _,Sd,zk c (by show p<p+1;omega) _,hd⟩,
  by rw[zN,zL zY];exact d,by rw[zN,zl rfl,f];rfl,λj=>S1,g,i,k,a⟩
def xZ{a:z7}{b:Nat}(h:yX B a w)(hb:B<=b):yX B a (w.setCell (b,j) u) :=
 ⟨h.os,h.tape,h.output,zZ h.size ZA,λk c=>(zh _ _ _ _ (by show k≠b;omega)).trans (h.block k c)⟩
def BN(p:Nat)(s:ByteArray)(v:zx)(x:Sc)(w:z7)(e:gG)(w':z7):Prop:=e = .returned v/\yT p s x w'/\yX p w w'
structure bD(p:Nat)(w w':z7):Prop where
 but:xj p w w'
 c2:w'.cell? (p,2)=w.cell? (p,2)
def bD.refl(p:Nat)(w:z7):bD p w w:=⟨xj.refl p w,rfl⟩
def bD.trans{a b c:z7}(h:bD p a b)(k:bD p b c):bD p a c:=⟨h.but.trans k.but,k.c2.trans h.c2⟩
def bD.drew(h:bD p w w'):bD p w w'.drew:=⟨h.but.drew,h.c2⟩
def Xj{a:World}(h:bD p a w)(b:j≠2:=by decide):bD p a (w.setCell (p,j) u) :=
 ⟨h.but.trans (xj.set p w j u),by rw[zN,zL (λe=>b (by cases e;rfl))];exact h.c2⟩
def bD.below{x:Sc}(h:bD p w w')(hs:yT p s x w):yX p w w':=h.but.low (X _) (xx hs.lt)
def H6(p:Nat)(s:ByteArray)(v:zx)(x:Sc)(w:z7)(e:gG)(w':z7):Prop:=e = .returned v/\yT p s x w'/\bD p w w'
def yt(x:Sc)(e a:Nat):Sc:=if x.err=0 then { x with err:=e,place:=a }else x
def jG(p:Nat)(s:ByteArray)(x:Sc)(e a:Nat)(w:z7)(h:yT p s x w) :
  zE Tryz.prog 29 #[(p,0),e,a] w (H6 p s (.tuple #[]) (yt x e a) w):=by
 have d:=Z h;have c4:=h.c4;have c5:=h.c5;have j:=h.z 4;have k:=h.z 5;have g:=h.lt;by_cases b:x.err=0
 .have c:=Z (show yt x e a={ x with err:=e,place:=a }from zl b);rw[b]at c4;have f:zy (w.setCell (zX p 4) e) p 5 x.place:=by rw[zN,zL zY];exact c5
  clear h b;go_enter func29,ntmps29;go_wp2;refine zU (v := .tuple #[]) ?_ rfl ?_
  .simp[yk,results29,go_sem]
  rw[c.o];exact⟨rfl,(d.o.xbb e).xa0 a,Xj (Xj (bD.refl _ _))⟩
 .have c:=Z (show yt x e a=x from zL b);have i:((x.err:Int)==0)=false:=by simp;omega
  clear h b;go_enter func29,ntmps29;go_wp2;refine zU (v := .tuple #[]) ?_ rfl ?_
  .simp[yk,results29,go_sem]
  rw[c.o];exact⟨rfl,d.o,bD.refl _ _⟩
variable{x:Sc}
def TL(c:UInt8):Bool:=c==32 ||c==9 ||c==10 ||c==13
def bU(l:List UInt8):Nat:=(l.takeWhile TL).length
def yv(s:ByteArray)(x:Sc):Sc:={ x with i:=x.i+bU (s.data.toList.drop x.i) }
def UU(s:ByteArray)(k:Nat)(h:k<s.size):s.data.toList.drop k=s[k]::s.data.toList.drop (k+1):=by
 rw[yH Y3,getElem_toList s k h]
def BO(s:ByteArray)(k:Nat)(h:s.size<=k):s.data.toList.drop k=[]:=yq Y3
def qz{c d:UInt8}(h:¬c=d):((c.toNat:Int)==(d.toNat:Int))=false:=by
 rw[vZ];simpa using h
def za9(p:Nat)(w:z7):Nat:=match w.cell? (p,1) with|some (.int _ n)=>n.toNat|_=>0
def atS(h:yT p s x w):za9 p w=x.i:=by
 unfold za9;rw[h.c1];rfl
def qe(p:Nat)(s:ByteArray)(x:Sc)(w:z7)(h:yT p s x w) :
  zE Tryz.prog 79 #[(p,0)] w (H6 p s (.tuple #[]) (yv s x) w):=by
 have t:=Z h;have D:=h.size;obtain⟨E,n⟩:=zo (x.i+bU (s.data.toList.drop x.i));unfold yv;rw[n];have m:=Z n;clear h n;go_enter func79,ntmps79;go_wp2_with fail;go_loopw [] (λwr=>∃k,x.i<=k/\k<=s.size/\yT p s { x with i:=k } wr/\bD p w wr/\k+bU (s.data.toList.drop k)=E) (λwr=>s.size - za9 p wr)
 case atStart=>exact⟨x.i,X _,t.o.here,t.o,bD.refl _ _,m.o⟩
 case round =>
  obtain⟨k,B,C,hs,j,he⟩:=hrel;have HH:=Z hs;have HBW:=Z j;have c0:=hs.c0;have c1:=hs.c1;have z1:=hs.z 1;dsimp only at c1;have jq:zy wr.drew p 0 (.string s)/\zy wr.drew p 1 k:=⟨c0,c1⟩;have a:=Z he;clear hs j he;by_cases r:k<s.size
  .have k1:(k:Int)<(s.size:Int):=(by omega);have k2:decide ((k:Int)<(s.size:Int))=true:=zV;have hdr:=UU s k r;have f:=Z hdr;obtain⟨c,hc⟩:=zo (s[k]);have d:=Z hc;clear hdr;by_cases hb:TL c=true
   .have A:=Z (show(k+1)+bU (s.data.toList.drop (k+1))=E by
     rw[<-a.o,f.o,d.o];unfold bU;rw[Un hb];simp;omega)
    have b:c=32\/c=9\/c=10\/c=13:=(by simp[TL]at hb;rcases hb with((q|q)|q)|q<;>simp[q]);clear hb;rcases b with rfl|rfl|rfl|rfl;all_goals
     have l:s[k].toNat=(s[k]).toNat:=rfl;rw[hc]at l;clear l;go_wp2_with fail;refine bW (λW':z7=>zy W' p 0 (.string s)/\zy W' p 1 k) [0,1,2,3,4,5,6,7,8,9,10,11,12,13,14,15,16,17,18,19,20,21,22,23,24,25,26,27,28,29,30,31,32,33,34,35,36,37,38,39,40,41,42,43,44,45,46,47,48,49,50,51,52,53,54,55,56,57] 0 jq ?_;refine fR ?_ _;have g:=Z (show yT p s { x with i:=k+1 } (wr.setCell (zX p 1) (.int .i64 ((k:Int)+1))).drew by
      have h:=(HH.o.Y0 (k+1) J).below (z8 _ _).drew;rw[show((k:Int)+1)=((k+1:Nat):Int)from J];exact h)
     go_wp2;go_roundw
     case rel=>exact⟨k+1,J,J,g.o,(Xj HBW.o).drew,A.o⟩
     case measure =>
      rw[atS g.o,atS HH.o];dsimp only;omega
   .have HE:=Z (show k=E by
     rw[<-a.o,f.o,d.o];unfold bU;rw[kR hb];simp)
    have b:¬c=32/\¬c=9/\¬c=10/\¬c=13:=⟨λe=>hb (by rw[e];rfl),λe=>hb (by rw[e];rfl),λe=>hb (by rw[e];rfl),λe=>hb (by rw[e];rfl)⟩;obtain⟨q1,q2,u,y⟩:=b;have F:((c.toNat:Int)==32)=false:=qz q1;have G:((c.toNat:Int)==9)=false:=qz q2;have H:((c.toNat:Int)==10)=false:=qz u;have I:((c.toNat:Int)==13)=false:=qz y;clear hb q1 q2 u y;exact pP
  .have k2:decide ((k:Int)<(s.size:Int))=false:=(by simp;omega);have HE:=Z (show k=E by rw[<-a.o,BO s k J];rfl);exact pP
def YB(c:UInt8):Bool:=(decide (97<=c.toNat) && decide (c.toNat<=122)) ||(decide (65<=c.toNat) && decide (c.toNat<=90)) ||decide (c.toNat=95)
def Xp(c:UInt8):Bool:=decide (48<=c.toNat) && decide (c.toNat<=57)
def Zj:Nat->List UInt8->Nat
 |n,[]=>n
 |n,c::t=>if n<16/\(YB c=true\/(n≠0/\Xp c=true))then Zj (n+1) t else n
def iZ(l:List UInt8):Nat:=Zj 0 l
def Ae:∀(l:List UInt8) (n:Nat),n<=Zj n l/\Zj n l<=n+l.length/\(n<=16->Zj n l<=16)
 |[],n=>⟨X _,X _,λh=>h⟩
 |c::t,n=>by
  rw[Zj];split
  .next h =>
   have:=Ae t (n+1);exact⟨J,zV,λ_=>this.2.2 J⟩
  .exact⟨X _,zY,λh=>h⟩
def iY(s:ByteArray)(w:z7)(hs:s.size<=100000):zE Tryz.prog 114 #[.string s] w λe w'=>e = .returned (iZ s.data.toList:Nat)/\w'=w:=by
 obtain⟨R,hR⟩:=zo (iZ s.data.toList);rw[hR];have j:=Z hR;clear hR;go_enter func114,ntmps114;go_wp2_with fail;go_loopw [3] (λg wr=>∃n,g = .int .i64 (n:Nat)/\n<=s.size/\wr=w/\Zj n (s.data.toList.drop n)=R) (λg _=>s.size - (intOf g).toNat)
 case atStart=>exact⟨0,rfl,zG _,rfl,by rw[qH];exact j.o⟩
 case round =>
  obtain⟨n,rfl,hn,rfl,i⟩:=hrel;have h:=Z i;clear i;by_cases f:n<s.size
  .have k1:(n:Int)<(s.size:Int):=(by omega);have k2:decide ((n:Int)<(s.size:Int))=true:=zV;have hdr:=UU s n f;have a:Zj n (s.data.toList.drop n)=if n<16/\(YB s[n]=true\/(n≠0/\Xp s[n]=true))then Zj (n+1) (s.data.toList.drop (n+1))else n:=by rw[hdr,Zj]
   have bd:=Z (a.symm.trans h.o);clear hdr a;obtain⟨c,hc⟩:=zo (s[n]);rw[hc]at bd;by_cases h16:n<16
   .have k3:decide ((n:Int)<16)=true:=(by simp;omega);have b:=c.toNat_lt;have d:(97<=c.toNat/\c.toNat<=122)\/(65<=c.toNat/\c.toNat<=90)\/(95<=c.toNat/\c.toNat<=95)\/(123<=c.toNat/\c.toNat<=255)\/(96<=c.toNat/\c.toNat<=96)\/(91<=c.toNat/\c.toNat<=94)\/(58<=c.toNat/\c.toNat<=64)\/(48<=c.toNat/\c.toNat<=57)\/(0<=c.toNat/\c.toNat<=47):=J;rcases d with⟨p1,p2⟩|⟨p1,p2⟩|⟨p1,p2⟩|⟨p1,p2⟩|⟨p1,p2⟩|⟨p1,p2⟩|⟨p1,p2⟩|⟨p1,p2⟩|⟨p1,p2⟩
    .have PC:YB c=true:=(by unfold YB;simp;omega);have Ey:Xp c=false:=UO;have i0:decide ((97:Int)<=(c.toNat:Int))=true:=zV;have n0:decide (97<=c.toNat)=true:=zV;have i1:decide ((c.toNat:Int)<=122)=true:=zV;have n1:decide (c.toNat<=122)=true:=zV;have i2:decide ((65:Int)<=(c.toNat:Int))=true:=zV;have n2:decide (65<=c.toNat)=true:=zV;have i3:decide ((c.toNat:Int)<=90)=false:=zV;have n3:decide (c.toNat<=90)=false:=zV;have i4:((c.toNat:Int)==95)=false:=zV;exact Rt
    .have PC:YB c=true:=(by unfold YB;simp;omega);have Ey:Xp c=false:=UO;have i0:decide ((97:Int)<=(c.toNat:Int))=false:=zV;have n0:decide (97<=c.toNat)=false:=zV;have i1:decide ((c.toNat:Int)<=122)=true:=zV;have n1:decide (c.toNat<=122)=true:=zV;have i2:decide ((65:Int)<=(c.toNat:Int))=true:=zV;have n2:decide (65<=c.toNat)=true:=zV;have i3:decide ((c.toNat:Int)<=90)=true:=zV;have n3:decide (c.toNat<=90)=true:=zV;have i4:((c.toNat:Int)==95)=false:=zV;exact Rt
    .have PC:YB c=true:=(by unfold YB;simp;omega);have Ey:Xp c=false:=UO;have i0:decide ((97:Int)<=(c.toNat:Int))=false:=zV;have n0:decide (97<=c.toNat)=false:=zV;have i1:decide ((c.toNat:Int)<=122)=true:=zV;have n1:decide (c.toNat<=122)=true:=zV;have i2:decide ((65:Int)<=(c.toNat:Int))=true:=zV;have n2:decide (65<=c.toNat)=true:=zV;have i3:decide ((c.toNat:Int)<=90)=false:=zV;have n3:decide (c.toNat<=90)=false:=zV;have i4:((c.toNat:Int)==95)=true:=zV;exact Rt
    .have PC:YB c=false:=(by unfold YB;simp;omega);have Ey:Xp c=false:=UO;have i0:decide ((97:Int)<=(c.toNat:Int))=true:=zV;have n0:decide (97<=c.toNat)=true:=zV;have i1:decide ((c.toNat:Int)<=122)=false:=zV;have n1:decide (c.toNat<=122)=false:=zV;exact pM
    .exact rS
    .exact rS
    .have PC:YB c=false:=(by unfold YB;simp;omega);have Ey:Xp c=false:=UO;have i0:decide ((97:Int)<=(c.toNat:Int))=false:=zV;have n0:decide (97<=c.toNat)=false:=zV;have i1:decide ((c.toNat:Int)<=122)=true:=zV;have n1:decide (c.toNat<=122)=true:=zV;have i2:decide ((65:Int)<=(c.toNat:Int))=false:=zV;have n2:decide (65<=c.toNat)=false:=zV;have i3:decide ((c.toNat:Int)<=90)=true:=zV;have n3:decide (c.toNat<=90)=true:=zV;have i4:((c.toNat:Int)==95)=false:=zV;have i5:decide ((c.toNat:Int)<48)=false:=zV;have n5:decide (c.toNat<48)=false:=zV;have i6:decide ((57:Int)<(c.toNat:Int))=true:=zV;have n6:decide (57<c.toNat)=true:=zV;exact mq
    .have PC:YB c=false:=(by unfold YB;simp;omega);have Ey:Xp c=true:=UO;have i0:decide ((97:Int)<=(c.toNat:Int))=false:=zV;have n0:decide (97<=c.toNat)=false:=zV;have i1:decide ((c.toNat:Int)<=122)=true:=zV;have n1:decide (c.toNat<=122)=true:=zV;have i2:decide ((65:Int)<=(c.toNat:Int))=false:=zV;have n2:decide (65<=c.toNat)=false:=zV;have i3:decide ((c.toNat:Int)<=90)=true:=zV;have n3:decide (c.toNat<=90)=true:=zV;have i4:((c.toNat:Int)==95)=false:=zV;have i5:decide ((c.toNat:Int)<48)=false:=zV;have n5:decide (c.toNat<48)=false:=zV;have i6:decide ((57:Int)<(c.toNat:Int))=false:=zV;have n6:decide (57<c.toNat)=false:=zV;by_cases gC:n=0
     .have k5:((n:Int)==0)=true:=(by simp[gC]);have HN0:=Z gC;clear gC;have HE:=Z (show n=R by rw[<-bd.o,zL (λe=>by rw[PC]at e;simp[HN0.o]at e)]);clear bd PC Ey;exact Rm
     .have k5:((n:Int)==0)=false:=(by simp;omega);have HNZ:=Z gC;clear gC;have HM:=Z (show Zj (n+1) (s.data.toList.drop (n+1))=R by rw[<-bd.o,zl (⟨h16,.inr ⟨HNZ.o,Ey⟩⟩)]);clear bd PC Ey;go_wp2;go_roundw
      case rel=>exact⟨n+1,zY,J,LV,HM.o⟩
      case measure=>simp only[intOf];omega
    .have PC:YB c=false:=(by unfold YB;simp;omega);have Ey:Xp c=false:=UO;have i0:decide ((97:Int)<=(c.toNat:Int))=false:=zV;have n0:decide (97<=c.toNat)=false:=zV;have i1:decide ((c.toNat:Int)<=122)=true:=zV;have n1:decide (c.toNat<=122)=true:=zV;have i2:decide ((65:Int)<=(c.toNat:Int))=false:=zV;have n2:decide (65<=c.toNat)=false:=zV;have i3:decide ((c.toNat:Int)<=90)=true:=zV;have n3:decide (c.toNat<=90)=true:=zV;have i4:((c.toNat:Int)==95)=false:=zV;have i5:decide ((c.toNat:Int)<48)=true:=zV;have n5:decide (c.toNat<48)=true:=zV;have i6:decide ((57:Int)<(c.toNat:Int))=false:=zV;have n6:decide (57<c.toNat)=false:=zV;exact mq
   .have k3:decide ((n:Int)<16)=false:=(by simp;omega);have HE:=Z (show n=R by rw[<-bd.o,zL (λe=>h16 e.1)]);clear bd;exact Rm
  .have k2:decide ((n:Int)<(s.size:Int))=false:=(by simp;omega);have HE:=Z (show n=R by rw[<-h.o,BO s n J];rfl);exact Rm
variable{k:Nat}
def xN(s:ByteArray)(k:Nat):Option UInt8:=s.data.toList[k]?
def jT(h:k<s.size):xN s k=some s[k]:=by
 unfold xN;rw[zw Y3,getElem_toList s k h]
def dJ(h:¬k<s.size):xN s k=none:=Xe zV
def xE(s:ByteArray)(x:Sc)(c:UInt8):Sc:=if xN s x.i=some c then { x with i:=x.i+1 }else yt x 3 x.i
def uM(s:ByteArray)(x:Sc):Sc :=
 { (if iZ (s.data.toList.drop x.i)=0 then yt x 3 x.i else x)with i:=x.i+iZ (s.data.toList.drop x.i) }
def jy(s:ByteArray)(k:Nat):Wd:=(s.data.toList.drop k).take (iZ (s.data.toList.drop k))
def ZK(x:Sc)(e a:Nat):(yt x e a).i=x.i:=by unfold yt;split<;>rfl
def XD(x:Sc)(e a:Nat):(yt x e a).out=x.out/\(yt x e a).uo=x.uo:=by unfold yt;split<;>exact⟨rfl,rfl⟩
def XB(p:Nat)(s:ByteArray)(x:Sc)(c:UInt8)(w:z7)(h:yT p s x w) :
  zE Tryz.prog 81 #[(p,0),.int .u8 (c.toNat:Nat)] w (H6 p s (.tuple #[]) (xE s x c) w):=by
 have m:=Z h;have aY:=Z (h.below (z8 _ _).drew);have HBD:=Z (show bD p w w.drew from(bD.refl _ _).drew);obtain⟨k,f⟩:=zo x.i;have c0:=h.c0;have c1:=h.c1;have z1:=h.z 1;have q:=h.size;have n:=h.here;have hn:xE s x c=if xN s k=some c then { x with i:=k+1 }else yt x 3 k:=by unfold xE;rw[f]
 rw[f]at c1 n;have jq:zy w.drew p 0 (.string s)/\zy w.drew p 1 k:=⟨c0,c1⟩;have g:=Z hn;have t:=Z f;clear h hn f;by_cases b:k<s.size
 .have k1:(k:Int)<(s.size:Int):=by omega
  have k2:decide ((s.size:Int)<=(k:Int))=false:=zV;have l:decide (s.size<=k)=false:=zV;obtain⟨d,hd⟩:=zo (s[k]);have a:=Z (show xN s k=some d by rw[jT b,hd]);by_cases Jz:d=c
  .subst Jz;have r:((d.toNat:Int) !=(d.toNat:Int))=false:=(by simp);have HF:=Z (show xE s x d={ x with i:=k+1 }by rw[g.o,zl a.o]);go_enter func81,ntmps81;go_wp2_with fail;refine bW (λW':z7=>zy W' p 0 (.string s)/\zy W' p 1 k) [0,1,2,3,4,5,6,7,8,9,10,11,12,13,14,15,16,17,18,19,20,21,22] 0 jq ?_;refine fR ?_ _;go_wp2;refine zU (v := .tuple #[]) ?_ rfl ?_
   .simp[yk,results81,go_sem]
   rw[HF.o];have j:=aY.o.Y0 (k+1) J;exact⟨rfl,by rw[show((k:Int)+1)=((k+1:Nat):Int)from J];first|exact j|exact(m.o.Y0 (k+1) J).below (z8 _ _).drew,by first|exact Xj HBD.o|exact(Xj (bD.refl _ _)).drew⟩
  .have r:((d.toNat:Int) !=(c.toNat:Int))=true:=by
    have:=qz Jz;simpa using this
   have HF:=Z (show xE s x c=yt x 3 k by rw[g.o,zL (λe=>by rw[a.o]at e;exact Jz (zR e))]);clear Jz;exact zix
 .have k2:decide ((s.size:Int)<=(k:Int))=true:=by simp;omega
  have l:decide (s.size<=k)=true:=zV;have HF:=Z (show xE s x c=yt x 3 k by rw[g.o,zL (λe=>by rw[dJ b]at e;cases e)]);exact zix
def zxv(l:List UInt8):iZ l<=l.length/\iZ l<=16:=by
 have h:=Ae l 0;exact⟨by have:=h.2.1;unfold iZ;omega,h.2.2 J⟩
def dN(s:ByteArray)(k n:Nat):s.extract k (k+n)=⟨((s.data.toList.drop k).take n).toArray⟩:=by
 rw[extract_eq,dD]
def G8(p:Nat)(s:ByteArray)(x:Sc)(w:z7)(h:yT p s x w) :
  zE Tryz.prog 80 #[(p,0)] w (H6 p s (zv (jy s x.i)) (uM s x) w):=by
 have v:=Z h;have E:=h.size;obtain⟨k,q⟩:=zo x.i;have C:=h.here;have c0:=h.c0;have c1:=h.c1;rw[q]at C c1|-;obtain⟨n,hn⟩:=zo (iZ (s.data.toList.drop k));have u:=zxv (s.data.toList.drop k);rw[hn,xz,yz]at u;obtain⟨j,y⟩:=zo (k+n);have c:=λW=>iY (s.extract k s.size) W Ig
 rw[ub,toList_mk,hn]at c;have r:=Z c;have HT:=Z (show jy s k=(s.data.toList.drop k).take n by unfold jy;rw[hn]);have f:=Z (show uM s x={ (if n=0 then yt x 3 k else x)with i:=j }by unfold uM;rw[q,hn,y]);have b:zy w.drew p 0 (.string s)/\zy w.drew p 1 k:=⟨c0,c1⟩;have k1:(k:Int)<=(s.size:Int):=J;have D:s.extract k s.size=⟨(s.data.toList.drop k).toArray⟩:=ub s k;have q1:(j:Int) - (n:Int)=(k:Int):=J;have q2:(k:Int)+(n:Int)=(j:Int):=J;have G:(j:Int)<=(s.size:Int):=J;have H:(k:Int)<=(j:Int):=J;have I:yU.wrap (k:Int)=(k:Int):=qK;have g:=Z q;have HPC:=Z (show s.extract k j=⟨((s.data.toList.drop k).take n).toArray⟩by rw[<-y];exact dN s k n);clear h q hn c;go_enter func80,ntmps80;go_wp2_with fail;refine bW (λW':z7=>zy W' p 0 (.string s)/\zy W' p 1 k) [0,1,2,3,4,5,6,7,8] 2 b ?_;refine bF 9 (λK hK=>?_);go_simp;refine(r.o w.drew).mono ?_;rintro e w1 ⟨rfl,rfl⟩;refine hK.out _ _ b λ_=>?_;clear hK K;refine Xo [10] 0 b ?_;refine fR ?_ _;by_cases a:n=0
 .have F:((n:Int)==0)=true:=by simp[a]
  have HY:=Z (show uM s x={ yt x 3 k with i:=j }by rw[f.o,zl a]);have B:=Z a;clear a;have t:=Z (v.o.below (z8 _ _).drew);have e1:zy w.drew p 1 k:=c1;go_wp2_with fail;refine(jG p s x 3 k w.drew t.o).mono ?_;rintro e w2 ⟨rfl,m,l⟩;have L8:=Z m;have ly:=Z (bD.trans (show bD p w w.drew from(bD.refl _ _).drew) l);have HYI:=Z (show(yt x 3 k).i=k by rw[ZK];exact g.o);clear m l b c0 c1 e1;exact rT
 .have F:((n:Int)==0)=false:=by simp;omega
  have HY:=Z (show uM s x={ x with i:=j }by rw[f.o,zL a]);clear a;have L8:=Z (v.o.below (z8 _ _).drew);have ly:=Z (show bD p w w.drew from(bD.refl _ _).drew);have HYI:=g;clear b c0 c1;obtain⟨A,d⟩:=zo w.drew;rw[d]at L8 ly;try rw[d]
  clear d;have a1:=L8.o.c1;have az:=L8.o.z 1;rw[HYI.o]at a1;have Zz:=L8.o.Y0 j J;have bd:=Z Zz;have b0:=Zz.c0;have b1:=Zz.c1;dsimp only at b1;have zkg:bD p w (A.setCell (zX p 1) j):=Xj ly.o;obtain⟨wb,hwb⟩:=zo (A.setCell (zX p 1) j);exact RS
def Vm(f:UInt8):Nat->List UInt8->Nat
 |n,[]=>n
 |n,c::t=>if n<9/\Xp c=true/\¬(n=1/\f=48)then Vm f (n+1) t else n
def Ly(l:List UInt8):Nat:=Vm (l.headD 0) 0 l
def kl(s:ByteArray)(k:Nat):Wd:=(s.data.toList.drop k).take (Ly (s.data.toList.drop k))
def um(s:ByteArray)(x:Sc):Sc :=
 { (if Ly (s.data.toList.drop x.i)=0 then yt x 3 x.i else x)with i:=x.i+Ly (s.data.toList.drop x.i) }
def JH{f:UInt8}{c:UInt8}{t:List UInt8}(h:¬(n<9/\Xp c=true/\¬(n=1/\f=48))):Vm f n (c::t)=n:=by rw[Vm,zL h]
def H7{f:UInt8}{c:UInt8}{t:List UInt8}(h:n<9/\Xp c=true/\¬(n=1/\f=48)):Vm f n (c::t)=Vm f (n+1) t:=by rw[Vm,zl h]
def BP(p:Nat)(s:ByteArray)(x:Sc)(w:z7)(h:yT p s x w) :
  zE Tryz.prog 82 #[(p,0)] w (H6 p s (zv (kl s x.i)) (um s x) w):=by
 have HH:=Z h;have dw:=h.size;obtain⟨k,P⟩:=zo x.i;have V:=h.here;rw[P]at V|-;have a:=Z P;obtain⟨f,hf⟩:=zo ((s.data.toList.drop k).headD 0);have E:=Z hf;clear h P hf;go_enter func82,ntmps82;go_upto_block 0 with fail
 go_cut [3] (λM wc=>∃n,M = .int .i64 (n:Nat)/\k+n<=s.size/\n<=9/\yT p s x wc/\bD p w wc/\n=Ly (s.data.toList.drop k))
 case rest =>
  obtain⟨n,rfl,Qn,hn9,hs,A,he⟩:=hcut;have l:=Z hs;have HE:=Z he;clear hs he;have u:Ly (s.data.toList.drop k)=n:=HE.o.symm;have HT:=Z (show kl s k=(s.data.toList.drop k).take n by unfold kl;rw[u]);obtain⟨j,W⟩:=zo (k+n);have F:=Z (show um s x={ (if n=0 then yt x 3 k else x)with i:=j }by unfold um;rw[a.o,u,W]);have HPC:=Z (show s.extract k j=⟨((s.data.toList.drop k).take n).toArray⟩by rw[<-W];exact dN s k n);have q1:(j:Int) - (n:Int)=(k:Int):=J;have q2:(k:Int)+(n:Int)=(j:Int):=J;have q3:(j:Int)<=(s.size:Int):=J;have q4:(k:Int)<=(j:Int):=J;have q5:yU.wrap (k:Int)=(k:Int):=qK;have u1:=l.o.c1;rw[a.o]at u1;have q6:yU.wrap (j:Int)=(j:Int):=qK;clear u;by_cases g:n=0
  .have j1:((n:Int)==0)=true:=(by simp[g]);have HY:=Z (show um s x={ yt x 3 k with i:=j }by rw[F.o,zl g]);have HN0:=Z g;clear g;go_wp2_with fail;refine(jG p s x 3 k wc l.o).mono ?_;rintro e w2 ⟨rfl,L,I⟩;have L8:=Z L;have ly:=Z (bD.trans A I);have HYI:=Z (show(yt x 3 k).i=k by rw[ZK];exact a.o);clear L I u1;exact rT
  .have j1:((n:Int)==0)=false:=(by simp;omega);have HY:=Z (show um s x={ x with i:=j }by rw[F.o,zL g]);clear g;have L8:=l;have ly:=Z A;have HYI:=a;clear u1;have a1:=L8.o.c1;have az:=L8.o.z 1;rw[HYI.o]at a1;have Zz:=L8.o.Y0 j J;have bd:=Z Zz;have b0:=Zz.c0;have b1:=Zz.c1;dsimp only at b1;have zkg:bD p w (wc.setCell (zX p 1) j):=Xj ly.o;obtain⟨wb,hwb⟩:=zo (wc.setCell (zX p 1) j);exact RS
 go_wp2_with fail;go_loopw [3] (λM wr=>∃n,M = .int .i64 (n:Nat)/\k+n<=s.size/\n<=9/\yT p s x wr/\bD p w wr/\Vm f n (s.data.toList.drop (k+n))=Ly (s.data.toList.drop k)) (λM _=>9 - (intOf M).toNat)
 case atStart=>exact⟨0,rfl,V,J,HH.o,bD.refl _ _,by rw[fD];unfold Ly;rw[E.o]⟩
 case round =>
  obtain⟨n,rfl,Qn,hn9,hs,H,U⟩:=hrel;have G:=Z hs;have HG:=Z U;clear hs U;obtain⟨m,hm⟩:=zo (k+n);have qm:(k:Int)+(n:Int)=(m:Int):=J;have qw:yU.wrap (m:Int)=(m:Int):=qK;have aV:=Z (G.o.below (z8 _ _).drew);have zj4:bD p w wr.drew:=bD.drew H;have mX:zy wr.drew p 0 (.string s):=aV.o.c0;have mV:zy wr.drew p 1 k:=by have h:=aV.o.c1;rw[a.o]at h;exact h
  have aX:=qZ mX mV;by_cases K:m<s.size
  .have k1:decide ((m:Int)<(s.size:Int))=true:=(by simp;omega);have k1':(m:Int)<(s.size:Int):=J;have R:decide (m<s.size)=true:=zV;by_cases N:n<9
   .have k2:decide ((n:Int)<9)=true:=(by simp;omega);have S:decide (n<9)=true:=zV;have hdr:=UU s m K;obtain⟨c,hc⟩:=zo (s[m]);rw[hc]at hdr;have HDR:=Z hdr;have Q:k<s.size:=J;have hfk:s[k]=f:=by
     have h:=E.o;rw[UU s k Q]at h;exact h
    have T:=c.toNat_lt;have NV:(k:Int)<(s.size:Int):=J;clear hdr;go_wp2_with fail;refine bW (λW':z7=>zy W' p 0 (.string s)/\zy W' p 1 k) [0,1,2,3,4,5,6,7,8,9,10,11,12,13,14,15] 0 aX ?_;refine fR ?_ _;obtain⟨w3,Ko⟩:∃Xk,wr.drew=Xk:=⟨_,rfl⟩;rw[Ko]at aV zj4 mX mV aX;try rw[Ko]
    clear Ko;have b:=Z (aV.o.below (z8 _ _).drew);have y:bD p w w3.drew:=bD.drew zj4;have q:zy w3.drew p 0 (.string s):=b.o.c0;have r:zy w3.drew p 1 k:=(by have h:=b.o.c1;rw[a.o]at h;exact h);have t:=qZ q r;clear mX mV aX;go_wp2_with fail;refine bW (λW':z7=>zy W' p 0 (.string s)/\zy W' p 1 k) [0,1,2,3,4,5,6,7,8,9,10,11] 0 t ?_;refine fR ?_ _;obtain⟨w4,D⟩:∃Xk,w3.drew=Xk:=⟨_,rfl⟩;rw[D]at b y q r t;try rw[D]
    clear D;have aG:=Z (b.o.below (z8 _ _).drew);have zj8:bD p w w4.drew:=bD.drew y;have mP:zy w4.drew p 0 (.string s):=aG.o.c0;have mR:zy w4.drew p 1 k:=(by have h:=aG.o.c1;rw[a.o]at h;exact h);have aJ:=qZ mP mR;clear q r t;have O:c.toNat<48\/57<c.toNat\/(48<=c.toNat/\c.toNat<=57):=J;rcases O with p1|p1|⟨p1,p2⟩
    .have i0:decide ((c.toNat:Int)<48)=true:=(by simp;omega);have n0:decide (c.toNat<48)=true:=zV;have i1:decide ((57:Int)<(c.toNat:Int))=false:=zV;have n1:decide (57<c.toNat)=false:=zV;exact re
    .have i0:decide ((c.toNat:Int)<48)=false:=(by simp;omega);have n0:decide (c.toNat<48)=false:=zV;have i1:decide ((57:Int)<(c.toNat:Int))=true:=zV;have n1:decide (57<c.toNat)=true:=zV;exact re
    .have i0:decide ((c.toNat:Int)<48)=false:=(by simp;omega);have n0:decide (c.toNat<48)=false:=zV;have i1:decide ((57:Int)<(c.toNat:Int))=false:=zV;have n1:decide (57<c.toNat)=false:=zV;have Ey:Xp c=true:=UO;by_cases v:n=1
     .have k6:((n:Int)==1)=true:=(by simp[v]);have C:=Z v;clear v;by_cases d:f=48
      .have B:=Z d;have k7:((f.toNat:Int)==48)=true:=(by rw[d];rfl);clear d;have HE:=Z (show n=Ly (s.data.toList.drop k)by rw[<-HG.o,hm,HDR.o];exact(JH (λe=>e.2.2 ⟨C.o,B.o⟩)).symm);exact pN
      .have k7:((f.toNat:Int)==48)=false:=qz d;have B:=Z d;clear d;have HM:=Z (show Vm f (n+1) (s.data.toList.drop (k+(n+1)))=Ly (s.data.toList.drop k) by
        rw[<-HG.o,hm,HDR.o,H7 (⟨N,Ey,λe=>B.o e.2⟩),show k+(n+1)=m+1 by omega])
       exact sD
     .have k6:((n:Int)==1)=false:=(by simp;omega);have C:=Z v;clear v;have HM:=Z (show Vm f (n+1) (s.data.toList.drop (k+(n+1)))=Ly (s.data.toList.drop k) by
       rw[<-HG.o,hm,HDR.o,H7 (⟨N,Ey,λe=>C.o e.1⟩),show k+(n+1)=m+1 by omega])
      exact sD
   .have k2:decide ((n:Int)<9)=false:=(by simp;omega);have S:decide (n<9)=false:=zV;have HE:=Z (show n=Ly (s.data.toList.drop k) by
     rw[<-HG.o,hm,UU s m K];exact(JH (λe=>N e.1)).symm)
    exact zik
  .have k1:decide ((m:Int)<(s.size:Int))=false:=(by simp;omega);have R:decide (m<s.size)=false:=zV;have HE:=Z (show n=Ly (s.data.toList.drop k) by
    rw[<-HG.o,hm,BO s m J];rfl)
   exact zik
def QE(x:Sc):Bool:=x.uo.getLast?.getD false
def TM(l:List Bool)(m:Nat)(h:l.length=m+1):(fU l)[m]? = some (.bool (l.getLast?.getD false)):=by
 unfold fU;rw[List.getElem?_map,List.getLast?_eq_getElem?,h,Vs,zw J];rfl
def Ue(p:Nat)(s:ByteArray)(x:Sc)(w:z7)(h:yT p s x w) :
  zE Tryz.prog 47 #[(p,0)] w (H6 p s (.bool (QE x)) x w):=by
 have r:=Z h;have HD:=Z (h.below (z8 _ _).drew);have HB:=Z (show bD p w w.drew from(bD.refl _ _).drew);obtain⟨v2,v3,-,-,f,a,-⟩:=h.rows;obtain⟨n,hn⟩:=zo x.uo.length;rw[hn]at a;have l:=h.zxx;have t:=Z hn;by_cases i:n=0
 .have HF:=Z (show QE x=false by unfold QE;rw[show x.uo=[]from zF J];rfl);obtain⟨j,e,rfl⟩:=zD a;have k0:decide (0<n)=false:=by simp;omega
  have k1:decide ((0:Int)<(n:Int))=false:=zV;have d:zy w p 3 (.slice j (n:Nat) e):=f;clear h i hn f a;go_enter func47,ntmps47;go_wp2_with fail;refine bW (λW':z7=>zy W' p 3 (.slice j (n:Nat) e)) [0,1,2,3,4,5,6,7,8,9,10,11,12,13,14,15,16,17,18,19,20] 0 d ?_;exact oh
 .obtain⟨m,hm⟩:∃m,n=m+1:=⟨n - 1,J⟩;obtain⟨b,hb⟩:=zo (QE x);obtain⟨g,e,rfl,q,k,c⟩:=vK a J;have hc:=c m J;rw[TM x.uo m J,show x.uo.getLast?.getD false=b from hb]at hc;have HF:=Z hb;have k0:decide (0<n)=true:=by simp;omega
  have k1:decide ((0:Int)<(n:Int))=true:=zV;have q1:(n:Int) - 1=(m:Int):=J;have q2:yU.wrap (m:Int)=(m:Int):=qK;have u:m<n:=J;have v:(m:Int)<(n:Int):=J;have d:zy w p 3 (.slice (zX g 0) (n:Nat) e)/\zy w g m (.bool b):=⟨f,hc⟩;clear h i hn f a hb c hc hm;go_enter func47,ntmps47;go_wp2_with fail;refine bW (λW':z7=>zy W' p 3 (.slice (zX g 0) (n:Nat) e)/\zy W' g m (.bool b)) [0,1,2,3,4,5,6,7,8,9,10,11,12,13,14,15,16,17,18,19,20] 0 d ?_;exact oh
end Go.Proofs.YtfcemhlpdcnckaaGreatDoor
