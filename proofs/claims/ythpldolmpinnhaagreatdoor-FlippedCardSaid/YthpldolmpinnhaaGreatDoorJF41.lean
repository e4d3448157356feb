import Derived.Test.YthpldolmpinnhaaGreatDoorJF40
import Derived.Laws.BitsAll
import Derived.Laws.IdiomStrings
import Derived.Recover
import Derived.WalkSmall
set_option maxHeartbeats 64000000
open Go.Lib renaming hid→z7
open List renaming length_append→z8,take_of_length_le→zu,isPrefixOf_iff_prefix→zk,take_succ_eq_append_getElem→zj,length_take→zg,getElem?_eq_some_iff→zY,flatMap_cons→zV,append_assoc→zU,getElem?_eq_getElem→zJ,length_drop→zG,length_cons→zF,mem_append→zD,flatMap_append→zE,mem_singleton→zH,foldl_cons→zN,foldl_nil→zP,foldl_append→zW,length_set→ze,take_zero→zl
open Go.World renaming block_lt_of_cell?→zy
open And renaming intro→zx
open Nat renaming le_refl→zv,le_trans→zf,lt_of_lt_of_le→zZ,zero_le→zQ,add_mul→zM
open Go.Instr renaming slice→zX,sliceBounds→zS,sliceBound→za
open Go.IntKind renaming wrap_i64→zI,i64→zL
open Go.RowKit.Below renaming refl→zO
open Go.Value renaming int→zR
open Bool renaming eq_false_iff→zc,eq_iff_iff→zi
open BitVec renaming ofInt→zm
open Go.Proofs.Tryz
namespace Go.Proofs.YthpldolmpinnhaaGreatDoor
open Go Go.RowKit
set_option maxRecDepth 10000
def jc(w:World)(a:Option Addr)(l:Wd):Prop:=∀ j (h:j<l.length),∃ b,a=some b/\w.cell? (b.add j)=some (.int .u8 l[j].toNat)
theorem jc.fr{w w':World}{a:Option Addr}{l:Wd}(h:jc w a l){F F':Nat->Prop}(hf:Fr F F' w w')(ha:∀ b,a=some b->¬F b.block):jc w' a l:=fun j hj=>by
 obtain⟨b,e,hc⟩:=h j hj;exact⟨b,e,hf.cell hc (by rw[addr_add];exact ha b e)⟩
theorem mP{l:Wd}{k:Nat}(h:k<l.length):Zz (l.take (k+1))=(Zz (l.take k) ^^^ l[k].toNat)*16777619 % 4294967296:=by
 unfold Zz;rw[zj h,zW,zN,zP,B5]
theorem mR:∃ S:Wd->Nat,S=Zz/\S []=2166136261/\(∀ l,S l<4294967296)/\∀ (l:Wd) k (h:k<l.length),S (l.take (k+1))=(S (l.take k) ^^^ l[k].toNat)*16777619 % 4294967296 :=
 ⟨Zz,rfl,by unfold Zz;rw[zP],QR,fun _ _ h=>mP h⟩
theorem S3{a:Option Addr}{l:Wd}{n cap:Nat}{w:World}(h:jc w a l)(hn:l.length=n)(hl:n<=2000000000) :
  Calls Tryz.prog 57 #[.slice a n cap] w fun e w'=>e = .returned (.int .u32 (Zz l:Nat))/\w=w':=by
 obtain⟨S,hS,s0,s1,s2⟩:=mR;rw[←hS];have HH:=z7 h;have HN:=z7 hn;have HS:=z7 (zx s0 (zx s1 s2));clear h hn hS s0 s1 s2;go_enter func57,ntmps57;go_wp2;go_loop [3,8] (fun h i=>∃ k:Nat,k<=n/\i = .int .i64 k/\h = .int .u32 (S (l.take k):Nat)) (fun _ i=>n - (intOf i).toNat)
 case atStart=>exact⟨0,zQ _,rfl,by rw[zl,HS.out.1];rfl⟩
 case round =>
  obtain⟨k,hk,rfl,rfl⟩:=hrel;by_cases xD:k<n
  ·have Dj:k<l.length:=by rw[HN.out];exact xD
   obtain⟨⟨g,o,f⟩,rfl,hc⟩:=HH.out k Dj;have dv:=z7 (HS.out.2.2 l k Dj);obtain⟨c,GX⟩:=xX (l[k]);rw[GX] at hc dv;obtain⟨s,hs⟩:=xX (S (l.take k));have ue:s<4294967296:=hs▸HS.out.2.1 _;rw[hs] at dv ⊢;have yyu:=c.toNat_lt;have HX:=z7 (show zR .u32 (bits .xor .u32 (s:Int) ((c.toNat:Int) % 4294967296)*16777619 % 4294967296) = .int .u32 (S (l.take (k+1)):Nat) by
    rw[dv.out,show(c.toNat:Int) % 4294967296=(c.toNat:Int) by omega,u32_xor_nat s c.toNat ue (by omega)];generalize s ^^^ c.toNat=x;exact congrArg (zR .u32) (by omega))
   clear yyu;have UO:=z7 hs;clear hs GX;go_wp2;go_round
   case rel=>exact⟨k+1,by omega,by go_num,HX.out⟩
   case measure=>simp[intOf];omega
  ·have CX:k=n:=by omega
   have UA:¬(k:Int)<(n:Int):=by omega
   have HR:=z7 (show l.take k=l by rw[CX];exact zu (by rw[HN.out];exact zv _));clear CX;go_wp2;go_ret;rw[HR.out];exact⟨rfl,rfl⟩
def Zy(cs:List Wd):Wd:=cs.flatMap fun c=>uY c.length++c
def kz(code:List j8):Wd:=code.flatMap uq
def Zx(s:MkS):Wd:=j7++uY s.cs.length++Zy s.cs++uY (kz s.code).length++kz s.code
def JZ(s:MkS):Wd:=Zx s++kJ (Zz (Zx s))
theorem Cv{α:Type}(f:α->Wd){l:List α}{k:Nat}{x:α}(h:l[k]? = some x):(l.take (k+1)).flatMap f=(l.take k).flatMap f++f x:=by
 obtain⟨h1,h2⟩:=zY.1 h;rw[zj h1,zE,h2];simp
theorem S4{α:Type}(f:α->Wd)(l:List α)(k:Nat):((l.take k).flatMap f).length<=(l.flatMap f).length:=by
 have h:(l.flatMap f)=(l.take k).flatMap f++(l.drop k).flatMap f:=by rw[←zE,List.take_append_drop]
 rw[h,z8];omega
theorem KT{α:Type}(f:α->Wd)(hf:∀ x,0<(f x).length):∀ l:List α,l.length<=(l.flatMap f).length
 | []=>by simp
 | a::l=>by
  have h1:=KT f hf l;have h2:=hf a;rw[zV,z8,zF];omega
theorem gF.bys{w:World}{v:Value}{l:Wd}(h:gF w v l):∃ a cap,v = .slice a l.length cap/\jc w a l:=by
 by_cases hl:0<l.length
 ·obtain⟨g,cap,hv,-,-,hc⟩:=xl h hl;exact⟨_,cap,hv,fun j hj=>⟨_,rfl,by rw[vS,hc j (by omega)];simp[jH,hj]⟩⟩
 ·obtain⟨a,cap,hv⟩:=xd h;exact⟨a,cap,hv,fun j hj=>absurd hj (by omega)⟩
section
variable {q mb k:Nat} {s:MkS} {vC vI:Value} {rs:List (Value×Value)} {w:World}
theorem qT.yyq{x:j8}(h:qT q s vC vI rs mb w)(hk:s.code[k]? = some x):∃ I ic kv tv,vI = .slice (some ⟨I,0,none⟩) s.code.length ic/\PL w I (k*5) x kv tv/\Zc w I=some 128/\(∀ g,xZ kv g->Zc w g=some 3/\g<w.heap.size)/\∀ g,xZ tv g->Zc w g=some 3/\g<w.heap.size:=by
 have hil:=(zY.1 hk).1;obtain⟨⟨kv,tv⟩,hr⟩:∃ r,rs[k]? = some r:=⟨_,zJ (by have:=h.rows.len;omega)⟩;obtain⟨h1,h2⟩:=h.rows.k k x _ hk hr;obtain⟨I,ic,Ka,-,hI,I4⟩:=xl h.cI (by omega);have c:∀ j,j<5->w.cell? ⟨I,k*5+j,none⟩=(Gu x (kv,tv))[j]? := fun j hj=>by rw[I4 _ (by omega),Vq _ _ h.rows.len k j x _ hk hr hj]
 exact⟨I,ic,kv,tv,Ka,⟨c 0 (by omega),c 1 (by omega),c 2 (by omega),c 3 (by omega),c 4 (by omega),uo.og h1,uo.og h2⟩,qf h.cI (by rw[Ka];rfl),fun g hg=>⟨qf h1 hg,ud h1 hg⟩,fun g hg=>⟨qf h2 hg,ud h2 hg⟩⟩
theorem PE{v:Value}{l:Wd}(h:gF w v l){g:Nat}{t:TypeId}(ht:Zc w g=some t)(xc:t≠5):¬xZ v g:=fun q=>xc (Option.some.inj (ht.symm.trans (qf h q)))
theorem mS{P:Program}{t e:TypeId}{z:Value}{size bytes:Nat}(E:Zq P t e z size bytes){w:World}{ops:Array Oper}{rest:List Oper}{o:Oper}{a:Act}{Q:Exit->Act->World->Prop}
  (mT news:List Value) (n m:Nat) {s x:Operand} {b:Addr} (QT:mT.length=n*size) (holds:∀ j u,mT[j]? = some u->w.cell? (b.add j)=some u) (hm:0<m) (H6:n+m<=2147483648)
  (h:∀ v' w',w'.ownsRow 0 e size v' (n+m) (mT++news)->Fr xH (xZ v') w w'->wpList P ops Q rest (a.put o.dst v') w')
  (JY:o.guard=none:=by rfl) (ho:o.op = .call { callee := .builtin .append,args:=#[s,x],argTypes:=#[t,t] }:=by rfl) (hs:a.eval s = .slice (some b) n n:=by rfl) (hx:a.eval x = .slice (some ⟨w.heap.size,0,none⟩) m m:=by rfl)
  (hl:news.length=m*size:=by rfl):wpList P ops Q (o::rest) a (w.alloc (.cells news.toArray e)):=by
 refine wpList_plain JY fun K hK=>?_
 obtain⟨i,hi,hz,h2,h3⟩:=E.info;have QS:=E.small;have CJ:=Nat.mul_le_mul H6 QS;subst h2 h3;have hg:=run_append_grow (P:=P) (w.alloc (.cells news.toArray e)) t o.type e i z E.under hi hz b n n mT QT (fun j u hu=>xQ (holds j u hu) _) ⟨w.heap.size,0,none⟩ m m news hl (fun j u hu=>by rw[vS,xu];simpa using hu) (by omega) (by omega) (growslice_fits (by omega) (zf CJ (by decide)));obtain⟨g,hgc⟩:=xX (grownCap (w.alloc (.cells news.toArray e)) (n+m) n e);have rE:=grownCap_ge (w.alloc (.cells news.toArray e)) (n+m) n e;have jy:=grownCap_le_maxLen (w.alloc (.cells news.toArray e)) (n+m) n e (by unfold maxLen;omega);rw[hgc] at hg rE jy;unfold Oper.wp execOp;simp only[ho,resolve,invoke,builtin,Sem.run_bind,Sem.run_pure,Result.andThen_ok,List.map_toArray,List.map_cons,List.map_nil,hs,hx,hg];refine hK _ _ (h _ _ ⟨by rw[z8,QT,hl,zM],.inr ⟨_,g,_,rfl,zQ _,heap_alloc_new (w.alloc (.cells news.toArray e)).drew _,rE,jy,?_,?_⟩⟩ ?_)
 ·simp only[Array.size_append,List.size_toArray,size_zeroCells,E.VT,QT,hl,←zM];congr 1;omega
 ·have hlen:(mT++news).length=(n+m)*i.size:=by rw[z8,QT,hl,zM]
  simp only[Array.toList_append,zU];rw[←zU,←hlen];exact List.take_left
 ·refine(((Fr.refl xH w).alloc _).drew.alloc _).tg (fun k hk=>?_)
  cases hk;exact .inr (by simp)
theorem MH(w:World):∃ W,(convert 48 48 (.slice (some ⟨w.heap.size,0,none⟩) 3 3)).run Tryz.prog (w.alloc (.cells #[.int .u8 80,.int .u8 72,.int .u8 49] 5)) = .ok (.slice (some ⟨w.heap.size,0,none⟩) 3 3) W/\Fr xH xH w W /\
  ∀ j u,(jH j7)[j]? = some u->W.cell? ((⟨w.heap.size,0,none⟩:Addr).add j)=some u:=by
 have PA:(w.alloc (.cells #[.int .u8 80,.int .u8 72,.int .u8 49] 5)).shape? w.heap.size=some (5,3):=by
  have:(w.alloc (.cells #[.int .u8 80,.int .u8 72,.int .u8 49] 5)).heap[w.heap.size]? = some (.cells #[.int .u8 80,.int .u8 72,.int .u8 49] 5):=by
   show(w.heap.push _)[w.heap.size]? = _;simp
  unfold World.shape?;rw[this];rfl
 have Zu:(w.alloc (.cells #[.int .u8 80,.int .u8 72,.int .u8 49] 5)).freeze ⟨w.heap.size,3,none⟩ 1=w.alloc (.cells #[.int .u8 80,.int .u8 72,.int .u8 49] 5 (3,4)):=by
  have hm:∀ (a:Array Obj) (x:Obj) (f:Obj->Obj),(a.push x).modify a.size f=a.push (f x):=by
   intro a x f;apply Array.ext
   ·simp
   ·intro i h1 h2;simp only[Array.getElem_modify,Array.getElem_push];by_cases h:a.size=i
    ·subst h;simp
    ·have hi:i<a.size:=by simp at h1;omega
     simp[h,hi]
  unfold World.freeze;rw[if_neg (by decide)];show({ w.alloc (.cells _ _) with heap:=(w.heap.push _).modify w.heap.size _ }:World)=_;rw[hm];rfl
 refine⟨w.alloc (.cells #[.int .u8 80,.int .u8 72,.int .u8 49] 5 (3,4)),?_,(Fr.refl _ _).alloc _,fun j u hu=>?_⟩
 ·simp[convert,run_underlying underlying48,run_underlying underlying5,markStringish,PA];exact Zu
 ·rw[vS,World.cell?_alloc_mark];simpa[jH,j7] using hu
theorem mW(b:Addr)(x:Nat)(w:World)(h:∀ j u,(jH j7)[j]? = some u->w.cell? (b.add j)=some u)(hx:x<=4000000000) :
  Calls Tryz.prog 54 #[.slice (some b) 3 3,.int .i64 x] w fun e w'=>∃ v',e = .returned v'/\gF w' v' (j7++uY x)/\Fr xH (xZ v') w w':=by
 have HX:=z7 (show[zR .u8 ((x:Int) / 256 % 256),.int .u8 ((x:Int) % 256)]=jH (uY x) by simp[jH,uY,N1]);have HH:=z7 h;clear h;go_enter func54,ntmps54;go_wp2_with (at_builtin;refine mS Xd (jH j7) [_,_] 3 2 rfl HH.out (by decide) (by decide) ?_);intro v' w' ho hf;obtain⟨na,nc,rfl⟩:=xd ho;have HO:=z7 ho;have HF:=z7 hf;clear ho hf;go_wp2;go_ret;refine⟨_,rfl,?_,HF.out⟩;have:=HO.out;rw[HX.out,←Xb] at this;exact this
theorem WN(h:qT q s vC vI rs mb w)(hI:∀ x∈s.code,B7 x)(hF:jk w)(hl:(Zx s).length<=1000000000)(hcb:(kz s.code).length<=1000000)(xc:s.code≠[]) :
  Calls Tryz.prog 36 #[.pointer (some ⟨q,0,none⟩)] w fun e w'=>∃ v,e = .returned v/\gF w' v (JZ s)/\Fr xH (xZ v) w w':=by
 obtain⟨i0,hi,Qn,Uu,Uf⟩:=Qk;have hlen:(Zy s.cs).length<=1000000000/\(kz s.code).length<=1000000:=⟨by simp only[Zx,z8] at hl;omega,hcb⟩;have dB:s.cs.length<=1000000000:=zf (KT _ (fun c=>by simp[uY]) s.cs) hlen.1;have bV:s.code.length<=1000000:=zf (KT _ (fun c=>by simp[uq]) s.code) hlen.2;obtain⟨n,hn⟩:=xX s.cs.length;obtain⟨m,hm⟩:=xX s.code.length;have HH:=z7 h;have HI:=z7 hI;have HL:=z7 (zx hl hlen);have q0:=h.q0;have q1:=h.q1;obtain⟨ca,cc,rfl⟩:=xd h.cC;obtain⟨ia,ic,rfl⟩:=xd h.cI;rw[hn] at q0 dB;rw[hm] at q1 bV;have HN:=z7 (zx hn hm);have HF:=z7 hF;have HNE:=z7 xc;clear h hI hl hlen hn hm hF xc hcb;go_enter func36,ntmps36;obtain⟨W,hcv,VQ,hcW⟩:=MH w;have q0W:=VQ.cell q0 id;have HT:=z7 (mW ⟨w.heap.size,0,none⟩ n W hcW (by omega));have Vo:=z7 VQ;clear VQ hcW;go_wp2_with fail;refine HT.out.mono ?_;rintro e w1 ⟨v1,rfl,Xv,uy⟩;have uy:Fr xH (xZ v1) w w1:=Vo.out.trans uy;have q0:=uy.cell q0 id;have fX:=z7 Xv;have VD:=z7 uy;have HC:=z7 (show ∀ k (c:Wd),s.cs[k]? = some c->∃ C,ca=some ⟨C,0,none⟩/\w.cell? ⟨C,k,none⟩=some (xk c) from fun k c hk=>by
  obtain⟨C,cc',e1,e2,-⟩:=HH.out.nQ hk;have:=HH.out.q0;rw[e1] at this
  cases this;exact⟨C,rfl,e2⟩)
 clear HT Xv uy q0W hcv Vo;go_wp2;go_loopw [3,21] (fun b i wr=>∃ (k:Nat) (v:Value),v=b/\k<=n/\i = .int .i64 k/\gF wr b (j7++uY n++Zy (s.cs.take k))/\Fr xH (xZ b) w wr) (fun _ i _=>n - (intOf i).toNat)
 case atStart=>exact⟨0,_,rfl,zQ _,rfl,by simpa[Zy] using fX.out,VD.out⟩
 case round =>
  obtain⟨k,v,rfl,hk,rfl,hr,hf⟩:=hrel;by_cases xD:k<n
  ·obtain⟨c,hc⟩:∃ c,s.cs[k]? = some c:=⟨_,zJ (by rw[HN.out.1];exact xD)⟩;obtain⟨C,rfl,GX⟩:=HC.out k c hc;have Hj:=hf.cell GX id;have Km:Zy (s.cs.take (k+1))=Zy (s.cs.take k)++(uY c.length++c):=Cv _ hc;have hle:(Zy (s.cs.take (k+1))).length<=1000000000:=zf (S4 _ s.cs (k+1)) HL.out.2.1;rw[Km,z8,z8] at hle;obtain⟨D,hD⟩:=xX (j7++uY n++Zy (s.cs.take k));have hDl:D.length=5+(Zy (s.cs.take k)).length:=by rw[←hD];simp[j7,uY];omega
   rw[hD] at hr;have pD:(⟨c.toArray⟩:ByteArray).size=c.length:=size_mk _;have HT:=z7 (JS v D c.length wr hr (by omega) (by omega));have H3:=z7 (zx Km (zx hD (zx hDl hle)));have fy:=z7 hf;have nK:(uY c.length).length=2:=rfl;clear hc GX Km hD hDl hr hf;have k1:(k:Int)<(n:Int):=by omega
   go_wp2_with fail;refine HT.out.mono ?_;rintro e w2 ⟨v2,rfl,b6,vu⟩;have JT:=z7 b6;have XY:=z7 (fy.out.trans vu);clear HT b6 vu Hj;go_wp2_with (at_builtin;refine Vp rfl _ _ 48 9 rfl 5 i0 underlying48 underlying9 hi Qn Uu Uf v2 (D++uY c.length).length (jH (D++uY c.length)) rfl JT.out ⟨c.toArray⟩ rfl (by rw[pD];unfold maxLen;have:=H3.out;simp only[z8] at *;omega) (by rw[pD];have:=H3.out;simp only[z8] at *;omega) ?_);intro v3 w3 xV jx _;have Dk:=z7 (show gF w3 v3 (j7++uY n++Zy (s.cs.take (k+1))) by
    have h1:Lib.strCells ⟨c.toArray⟩=jH c:=rfl;obtain⟨a1,a2,-⟩:=H3.out;rw[a1,←zU,a2,←zU];show w3.ownsRow _ _ _ _ _ _;rw[z8,Xb,←h1];rw[z8,nK];exact xV)
   have N5:=z7 (XY.out.trans jx);clear xV jx;go_wp2;go_roundw
   case rel=>exact⟨k+1,v3,rfl,by omega,by go_num,Dk.out,N5.out⟩
   case measure=>simp only[intOf];omega
  ·have CX:k=n:=by omega
   have UA:¬(k:Int)<(n:Int):=by omega
   have Km:s.cs.take k=s.cs:=by rw[CX];exact zu (by rw[HN.out.1];exact zv _)
   rw[Km] at hr;have HRB:=z7 hr;have nl:=z7 hf;have q1:=hf.cell q1 id;have HI2:=z7 (show ∀ k (x:j8),s.code[k]? = some x->∃ I kv tv,ia=some ⟨I,0,none⟩/\PL w I (k*5) x kv tv/\Zc w I=some 128/\(∀ g,xZ kv g->Zc w g=some 3/\g<w.heap.size)/\∀ g,xZ tv g->Zc w g=some 3/\g<w.heap.size from fun k x hk=>by
    obtain⟨I,ic',kv,tv,e1,e2⟩:=HH.out.yyq hk
    cases e1;exact⟨I,kv,tv,rfl,e2⟩)
   obtain⟨w4,e4⟩:∃ w4,w4=wr:=⟨_,rfl⟩;subst e4;clear hr hf Km CX fX VD;go_wp2;go_loopw [6,37] (fun b i wr=>∃ (j:Nat) (u:Value),u=b/\j<=m/\i = .int .i64 j/\gF wr u (kz (s.code.take j))/\Fr xH (xZ u) w4 wr) (fun _ i _=>m - (intOf i).toNat)
   case atStart=>exact⟨0,_,rfl,zQ _,rfl,World.ownsRow_nil _ _ _ _,(Fr.refl _ _).tg (fun k hk=>by cases hk)⟩
   case round =>
    obtain⟨j,u,rfl,hj,rfl,hr,hf⟩:=hrel;by_cases xD:j<m
    ·obtain⟨x,hx⟩:∃ x,s.code[j]? = some x:=⟨_,zJ (by rw[HN.out.2];exact xD)⟩;obtain⟨I,kv,tv,rfl,Aq,hI,VA,htv⟩:=HI2.out j x hx;have Km:kz (s.code.take (j+1))=kz (s.code.take j)++uq x:=Cv _ hx;have hle:(kz (s.code.take (j+1))).length<=1000000:=zf (S4 _ s.code (j+1)) HL.out.2.2;have Xq:Fr xH (xZ u) w wr:=nl.out.tr hf (fun _ q=>q.elim);have q1w:=hf.cell q1 id;have tk:∀ g t,Zc w g=some t->g<w.heap.size->Zc wr g=some t:=fun g t h1 h2=>(uX (Xq.keep g h2 id)).trans h1
     have Uw:=zy w _ (HF.out 0 (by decide));have HA:=z7 (Gv I (j*5) x kv tv u (kz (s.code.take j)) wr ⟨Xq.cell Aq.c0 id,Xq.cell Aq.c1 id,Xq.cell Aq.c2 id,Xq.cell Aq.c3 id,Xq.cell Aq.c4 id,Aq.k.fr Xq (fun _ _=>id),Aq.t.fr Xq (fun _ _=>id)⟩ (HI.out x (List.mem_of_getElem? hx)) hr
      (PE hr (tk I _ hI (dI hI)) (by decide)) (fun q hq=>⟨zZ (VA q hq).2 Xq.size,PE hr (tk q _ (VA q hq).1 (VA q hq).2) (by decide)⟩) (fun q hq=>⟨zZ (htv q hq).2 Xq.size,PE hr (tk q _ (htv q hq).1 (htv q hq).2) (by decide)⟩)
      (HF.out.fr Xq (fun _ q=>q.elim) (Nat.lt_succ_self _)) (fun q=>(hf.fp _ q).elim (fun e=>e) (fun r=>by have:=nl.out.size;dsimp only at Uw;omega)) (by rw[←Km];omega))
     have H4:=z7 (zx Km hf);have k1:(j:Int)<(m:Int):=by omega
     clear hx Aq hI VA htv Km hle Xq hr hf tk Uw;go_wp2_with fail;refine HA.out.mono ?_;rintro e w5 ⟨u2,rfl,b6,vu⟩;have JT:=z7 (show gF w5 u2 (kz (s.code.take (j+1))) by rw[H4.out.1];exact b6);have fy:=z7 (H4.out.2.trans vu);clear b6 vu HA;go_wp2;go_roundw
     case rel=>exact⟨j+1,u2,rfl,by omega,by go_num,JT.out,fy.out⟩
     case measure=>simp only[intOf];omega
    ·have H8:j=m:=by omega
     have hjn:¬(j:Int)<(m:Int):=by omega
     have Km:s.code.take j=s.code:=by rw[H8];exact zu (by rw[HN.out.2];exact zv _)
     rw[Km] at hr;have hrb:=hf.own HRB.out (fun _ _=>id);obtain⟨D,hD⟩:=xX (j7++uY n++Zy s.cs);rw[hD] at hrb;have hb:Zx s=D++uY (kz s.code).length++kz s.code:=by unfold Zx;rw[HN.out.1,hD]
     have N7:D.length+(2+(kz s.code).length)<=1000000000:=by
      have:=HL.out.1;rw[hb] at this;simp only[z8] at this;rw[show(uY (kz s.code).length).length=2 from rfl] at this;omega
     obtain⟨E,hE⟩:=xX (kz s.code);have hE0:0<E.length:=by
      rw[←hE]
      cases hc:s.code with
      | nil=>exact absurd hc HNE.out
      | cons x l=>simp[kz,uq]
     rw[hE] at hr hb N7;obtain⟨g,cap,rfl,-,hgl,hgc⟩:=xl hr hE0;have HT:=z7 (JS v D E.length wr hrb (by omega) (by omega));have rE:Zc wr g=some 5:=qf hr rfl;have HG:=z7 (zx hr hgc);have HB:=z7 (zx hb N7);have DX:=z7 (nl.out.tr hf (fun _ q=>q.elim));have HVG:=z7 (show ¬xZ v g from fun q=>by
      have h1:=ud HRB.out q;have h2:=hf.fp g rfl;exact h2.elim (fun x=>x.elim) (fun x=>absurd h1 (by omega)))
     have HV:=z7 (show Fr xH (xZ v) w wr from⟨DX.out.os,DX.out.tape,DX.out.output,DX.out.size,DX.out.keep,nl.out.fp⟩);obtain⟨L,hL⟩:=xX E.length;rw[hL] at HT;have HEL:=z7 hL;rw[hL] at hE0 N7 ⊢;clear hr hf Km H8 hrb hD hb hE hgc hL rE;go_wp2_with fail;refine HT.out.mono ?_;rintro e w6 ⟨v2,rfl,b6,vu⟩;have Yt:=vu.own HG.out.1 (fun x hx=>by cases hx;exact HVG.out);have M6:∀ j u,(jH E)[j]? = some u->w6.cell? ((⟨g,0,none⟩:Addr).add j)=some u:=by
      intro j u hu;rw[vS];have Qi:j<E.length:=by simpa[jH] using(zY.1 hu).1
      exact vu.cell ((HG.out.2 j (by omega)).trans hu) HVG.out
     have LU:=z7 M6;have JT:=z7 b6;have fy:=z7 (HV.out.trans vu);clear b6 vu HT Yt M6;go_wp2_with (at_builtin;refine A4 Xd rfl _ _ rfl 0 v2 (D.length+2) (jH (D++uY L)) rfl (by have:=JT.out;dsimp only[gF] at this;rw[z8] at this;exact this) ⟨g,0,none⟩ L cap (jH E) rfl (by simp[jH,HEL.out]) LU.out (by simp[jH,Value.oneCell']) (by omega) (zQ _) ?_);intro v3 w7 xV hgb xc;have Dk:=z7 (show gF w7 v3 (Zx s) by
      rw[HB.out.1,HEL.out];dsimp only[gF];rw[z8,z8,Xb,HEL.out];exact xV)
     have XY:=z7 (fy.out.trans (Fr.app hgb xc));obtain⟨a3,c3,e3,uP⟩:=Dk.out.bys;subst e3;have HS:=z7 (S3 (cap:=c3) uP rfl (by have:=HL.out.1;omega));obtain⟨S,hS⟩:=xX (Zz (Zx s));have Gg:S<4294967296:=hS▸QR _;rw[hS] at HS;have nG:=z7 (Hp _ (Zx s) S w7 Dk.out Gg (by have:=HL.out.1;omega));have HPB:=z7 (show JZ s=Zx s++kJ S by unfold JZ;rw[hS]);clear xV hgb xc uP hS LU;go_wp2_with fail;refine HS.out.mono ?_;rintro e w8 ⟨rfl,rfl⟩;go_wp2_with fail;refine nG.out.mono ?_;rintro e w9 ⟨v4,rfl,Gk,YY⟩;have Wi:=z7 (show gF w9 v4 (JZ s) by rw[HPB.out];exact Gk);have N5:=z7 (XY.out.trans YY);clear Gk YY nG HS;go_wp2;go_ret;exact⟨v4,rfl,Wi.out,N5.out⟩
end
structure RdM(w:World)(r:Nat)(l:Wd):Prop where
 ex:∃ b cap,w.cell? ⟨r,0,none⟩=some (.slice (some b) l.length cap)/\l.length<=cap/\cap<=maxLen/\jc w (some b) l/\b.block≠r
 fz:w.frozen? ⟨r,0,none⟩=false
def C1(b:Addr)(n cap:Nat):Addr:=if n=cap then b else b.add n
theorem Dx(b:Addr)(m n cap:Nat)(h:n<=m)(hc:m<=cap)(hm:cap<=maxLen)(w:World):(zX 48 (.slice (some b) m cap) none (some (.int .i64 (n:Int))) none).run Tryz.prog w = .ok (.slice (some b) n cap) w:=by
 unfold maxLen at hm;have h1:(n:Int)<=(cap:Int):=by omega
 simp[zX,zS,za,run_underlying underlying48,asIntOf,go_sem];intro q;omega
theorem MI(b:Addr)(m n cap:Nat)(h:n<=m)(hc:m<=cap)(hm:cap<=maxLen)(w:World):(zX 48 (.slice (some b) m cap) (some (.int .i64 (n:Int))) none none).run Tryz.prog w = .ok (.slice (some (C1 b n cap)) (m - n) (cap - n)) w:=by
 unfold maxLen at hm;have h1:(n:Int)<=(m:Int):=by omega
 simp[zX,zS,za,run_underlying underlying48,asIntOf,go_sem,C1];rw[if_pos h];by_cases e:n=cap
 ·rw[if_pos e,if_pos e.symm]
 ·rw[if_neg e,if_neg (fun q=>e q.symm)]
theorem jc.take{w:World}{a:Option Addr}{l:Wd}(h:jc w a l)(n:Nat):jc w a (l.take n):=fun j hj=>by
 rw[zg] at hj;obtain⟨b,e,hc⟩:=h j (by omega);exact⟨b,e,by rw[hc];simp⟩
theorem jc.drop{w:World}{b:Addr}{l:Wd}(h:jc w (some b) l){n cap:Nat}(hc:l.length<=cap):jc w (some (C1 b n cap)) (l.drop n):=fun j hj=>by
 rw[zG] at hj;obtain⟨b',e,ep⟩:=h (n+j) (by omega)
 cases e;refine⟨_,rfl,?_⟩;rw[C1,if_neg (by omega),show(b.add n).add j=b.add (n+j) by simp[Addr.add_add],ep];simp
theorem Cu(b:Addr)(n cap:Nat):(C1 b n cap).block=b.block:=by
 unfold C1;split
 ·rfl
 ·rw[addr_add]
theorem mr{w:World}{r:Nat}{l:Wd}(h:RdM w r l){n:Nat}(hn:n<=l.length) :
  Calls Tryz.prog 93 #[.pointer (some ⟨r,0,none⟩),.int .i64 (n:Nat)] w fun e w'=>(∃ b cap,e = .returned (.slice (some b) n cap)/\jc w' (some b) (l.take n))/\RdM w' r (l.drop n)/\Fr (· = r) (· = r) w w':=by
 obtain⟨⟨b,cap,c0,h1,h2,hb,xc⟩,fz⟩:=h;have QT:=Dx b l.length n cap hn h1 h2;have Zi:=MI b l.length n cap hn h1 h2;have hL:l.length<=9223372036854775807:=by unfold maxLen at h2;omega
 obtain⟨m,hm⟩:=xX l.length;rw[hm] at c0 h1 QT Zi hn hL;have k1:¬(m:Int)<(n:Int):=by omega
 have HM:=z7 hm;have HB:=z7 (zx hb xc);have HC:=z7 (zx h1 (zx h2 hn));clear hm hb xc h1 h2 hn;go_enter func93,ntmps93;go_wp2;go_ret;have f:Fr (· = r) (· = r) w (w.setCell ⟨r,0,none⟩ (.slice (some (C1 b n cap)) (m - n) (cap - n))):=(Fr.refl _ _).set _ (.inl rfl);have hb:=HB.out.1.fr f (fun b' e q=>HB.out.2 (by cases e;exact q));have hl:(l.drop n).length=m - n:=by rw[zG,HM.out]
 have hc:=HC.out;refine⟨⟨b,⟨cap,rfl⟩,hb.take n⟩,⟨⟨C1 b n cap,cap - n,?_,by omega,by omega,hb.drop (by rw[HM.out];exact hc.1),?_⟩,?_⟩,f⟩
 ·rw[hl];exact vB c0 _
 ·rw[Cu];exact HB.out.2
 ·rw[World.frozen?_setCell];exact fz
theorem wrap_small(n:Nat)(h:n<9223372036854775808):zL.wrap (n:Int)=(n:Int):=by rw[zI];omega
theorem tU(v:Nat)(c:UInt8)(h:v<1099511627776):bits .or .i64 ((v:Int)*256) (c.toNat:Int)=((v*256+c.toNat:Nat):Int):=by
 have hc:=c.toNat_lt;rw[show(v:Int)*256=((v*256:Nat):Int) by omega];show zL.wrap ((zm 64 ((v*256:Nat):Int) ||| zm 64 ((c.toNat:Nat):Int)).toNat:Int)=_;rw[BitVec.toNat_or,ofInt_u64 _ (by omega),ofInt_u64 _ (by omega),nat_join8 _ _ (by omega) (by omega)];exact wrap_small _ (by omega)
theorem WO{l:Wd}{k:Nat}(h:k<l.length):Yp (l.take (k+1))=Yp (l.take k)*256+l[k].toNat:=by
 unfold Yp;rw[zj h,zW,zN,zP]
theorem S5:∀ (l:Wd) (v:Nat),l.foldl (fun v c=>v*256+c.toNat) v+1<=(v+1)*256 ^ l.length
 | [],v=>by simp
 | c::l,v=>by
  have h:=S5 l (v*256+c.toNat);have hc:=c.toNat_lt;rw[zN,zF,Nat.pow_succ];refine zf h ?_;rw[Nat.mul_comm (256 ^ l.length),←Nat.mul_assoc];exact Nat.mul_le_mul_right _ (by omega)
theorem Dv{l:Wd}(h:l.length<=4):Yp l<4294967296:=by
 have h1:=S5 l 0;have h2:256 ^ l.length<=256 ^ 4:=Nat.pow_le_pow_right (by decide) h;unfold Yp;omega
theorem tQ{w:World}{r:Nat}{l:Wd}(h:RdM w r l){n:Nat}(hn:n<=l.length)(h4:n<=4) :
  Calls Tryz.prog 92 #[.pointer (some ⟨r,0,none⟩),.int .i64 (n:Nat)] w fun e w'=>e = .returned (.int .i64 (Yp (l.take n):Nat))/\RdM w' r (l.drop n)/\Fr (· = r) (· = r) w w':=by
 have HT:=z7 (mr h hn);have HL:=z7 (show(l.take n).length=n by rw[zg];omega);clear h hn;obtain⟨L,hL⟩:=xX (l.take n);rw[hL] at HT HL ⊢;obtain⟨N,hN,n0,n1,n2⟩:∃ N:Wd->Nat,N=Yp/\N []=0/\(∀ k,N (L.take k)<4294967296)/\∀ k (h:k<L.length),N (L.take (k+1))=N (L.take k)*256+L[k].toNat :=
  ⟨Yp,rfl,rfl,fun k=>Dv (by rw[zg,HL.out];omega),fun _ h=>WO h⟩
 rw[←hN];have HN:=z7 (zx n0 (zx n1 n2));clear hN hL n0 n1 n2;go_enter func92,ntmps92;go_wp2_with fail;refine HT.out.mono ?_;rintro e w1 ⟨⟨b,cap,rfl,hb⟩,hr,hf⟩;have HB:=z7 hb;have HR:=z7 (zx hr hf);clear hb hr hf HT;go_wp2;go_loop [4,11] (fun v i=>∃ k:Nat,k<=n/\i = .int .i64 k/\v = .int .i64 (N (L.take k):Nat)) (fun _ i=>n - (intOf i).toNat)
 case atStart=>exact⟨0,zQ _,rfl,by rw[zl,HN.out.1];rfl⟩
 case round =>
  obtain⟨k,hk,rfl,rfl⟩:=hrel;by_cases xD:k<n
  ·have Dj:k<L.length:=by rw[HL.out];exact xD
   obtain⟨⟨g,o,f⟩,e1,hc⟩:=HB.out k Dj
   cases e1;have HS:=z7 (HN.out.2.2 k Dj);obtain⟨c,GX⟩:=xX (L[k]);rw[GX] at hc HS;have ue:=HN.out.2.1 k;obtain⟨s,hs⟩:=xX (N (L.take k));rw[hs] at HS ue ⊢;have HX:=z7 (show zR .i64 (bits .or .i64 ((s:Int)*256) (wrap64 (c.toNat:Int))) = .int .i64 (N (L.take (k+1)):Nat) by rw[HS.out,show wrap64 (c.toNat:Int)=(c.toNat:Int) from(by have:=c.toNat_lt;unfold wrap64;omega),tU s c (by omega)]);have hw:zL.wrap ((s:Int)*256)=(s:Int)*256:=by rw[zI];omega
   clear hs GX ue;go_wp2;go_round
   case rel=>exact⟨k+1,by omega,by go_num,HX.out⟩
   case measure=>simp[intOf];omega
  ·have CX:k=n:=by omega
   have UA:¬(k:Int)<(n:Int):=by omega
   have JT:=z7 (show L.take k=L by rw[CX];exact zu (by rw[HL.out];exact zv _));clear CX;go_wp2;go_ret;rw[JT.out];exact⟨rfl,HR.out⟩
theorem zd3(a b:Wd):((⟨a.toArray⟩:ByteArray)=⟨b.toArray⟩) ↔ a=b:=by
 constructor
 ·intro h;have:=congrArg (fun x:ByteArray=>x.data.toList) h;simpa using this
 ·rintro rfl;rfl
theorem PH{a b:Addr}{l k:Wd}{n m c d:Nat}{w:World}(ha:jc w (some a) l)(hb:jc w (some b) k)(hn:l.length=n)(hm:k.length=m) :
  Calls Tryz.prog 173 #[.slice (some a) n c,.slice (some b) m d] w fun e w'=>e = .returned (.bool (decide (l=k)))/\w=w':=by
 subst hn hm;have h1:=run_convert_bytes_back (P:=Tryz.prog) w 48 9 5 a c l underlying48 underlying5 underlying9 (fun j hj=>by obtain⟨x,e,h⟩:=ha j hj;cases e;exact h);have h2:=run_convert_bytes_back (P:=Tryz.prog) w 48 9 5 b d k underlying48 underlying5 underlying9 (fun j hj=>by obtain⟨x,e,h⟩:=hb j hj;cases e;exact h);obtain⟨n,hn⟩:=xX l.length;obtain⟨m,hm⟩:=xX k.length;rw[hn] at h1 ⊢;rw[hm] at h2 ⊢;clear hn hm ha hb;go_enter func173,ntmps173;go_wp2;go_ret;simp[zd3];rw[zi];simp
theorem ML{a b:Addr}{l:Wd}{n c:Nat}{w:World}(ha:jc w (some a) l)(hb:jc w (some b) j7)(hn:l.length=n)(hc:n<=c)(hm:c<=maxLen) :
  Calls Tryz.prog 137 #[.slice (some a) n c,.slice (some b) 3 3] w fun e w'=>e = .returned (.bool (j7.isPrefixOf l))/\w=w':=by
 have Ws:n<=9223372036854775807:=by unfold maxLen at hm;omega
 by_cases h3:3<=n
 ·have QT:∀ w:World,(zX 48 (.slice (some a) n c) none (some (.int .i64 3)) none).run Tryz.prog w = .ok (.slice (some a) 3 c) w:=Dx a n 3 c h3 hc hm;have Cn:(3:Int)<=(c:Int):=by omega
  have DZ:3<=c:=by omega
  have HE:=z7 (PH (c:=c) (d:=3) (w:=w) (ha.take 3) hb (n:=3) (m:=3) (by rw[zg];omega) rfl);have HR:=z7 (show decide (l.take 3=j7)=j7.isPrefixOf l by
   rw[zi,decide_eq_true_eq,zk,List.prefix_iff_eq_take];exact eq_comm)
  have h3i:(3:Int)<=(n:Int):=by omega
  clear ha hb hn hc hm;go_enter func137,ntmps137;go_wp2_with fail;refine HE.out.mono ?_;rintro e w' ⟨rfl,rfl⟩;go_wp2;go_ret;rw[HR.out];exact⟨rfl,rfl⟩
 ·have HR:=z7 (show j7.isPrefixOf l=false by
   rw[zc];intro q;have:=(zk.1 q).length_le;simp[j7] at this;omega)
  have h3i:¬(3:Int)<=(n:Int):=by omega
  clear ha hb hn hc hm;go_enter func137,ntmps137;go_wp2;go_ret;rw[HR.out];exact⟨rfl,rfl⟩
theorem n7{a b:Addr}{l:Wd}{n c:Nat}{w:World}(ha:jc w (some a) l)(hb:jc w (some b) j7)(hn:l.length=n)(hc:n<=c)(hm:c<=maxLen) :
  Calls Tryz.prog 91 #[.slice (some a) n c,.slice (some b) 3 3] w fun e w'=>e = .returned (if j7.isPrefixOf l=true then .tuple #[.slice (some (C1 a 3 c)) (n - 3) (c - 3),.bool true] else .tuple #[.slice (some a) n c,.bool false])/\w=w':=by
 have HP:=z7 (ML ha hb hn hc hm);have Ws:n<=9223372036854775807:=by unfold maxLen at hm;omega
 by_cases hp:j7.isPrefixOf l=true
 ·have h3:3<=n:=by
   have:=(zk.1 hp).length_le;simp[j7] at this;omega
  have Zi:∀ w:World,(zX 48 (.slice (some a) n c) (some (.int .i64 3)) none none).run Tryz.prog w = .ok (.slice (some (C1 a 3 c)) (n - 3) (c - 3)) w:=MI a n 3 c h3 hc hm;rw[if_pos hp];have Cn:(3:Int)<=(c:Int):=by omega
  have DZ:3<=c:=by omega
  rw[hp] at HP;have HH:=z7 hp;have h3i:(3:Int)<=(n:Int):=by omega
  clear ha hb hn hc hm hp;go_enter func91,ntmps91;go_wp2_with fail;refine HP.out.mono ?_;rintro e w' ⟨rfl,rfl⟩;go_wp2;go_ret2
  exact⟨rfl,rfl⟩
 ·rw[if_neg hp];have hp':j7.isPrefixOf l=false:=zc.2 hp;rw[hp'] at HP;have HH:=z7 hp;clear ha hb hn hc hm hp hp';go_enter func91,ntmps91;go_wp2_with fail;refine HP.out.mono ?_;rintro e w' ⟨rfl,rfl⟩;go_wp2;go_ret2
  exact⟨rfl,rfl⟩
theorem Et(w:World):(Instr.typeAssert .nilIface 20 204 true).run Tryz.prog w = .ok (.tuple #[.agg #[],.bool false]) w:=by rfl
theorem Yr(A:Nat)(w:World):CallsD Tryz.prog 90 #[.pointer (some ⟨A,0,none⟩)] .returning w fun e u' w'=>e = .returned (.tuple #[])/\u' = .returning/\Below w.heap.size w w':=by
 refine callsD_of_wpS func90 rfl fun c₀ cs hu=>?_
 have ha:=Et;apply wpS_seq;apply wpS_region;simp[wpOpsS,go_sem,recoverD,hu,ha,ntmps90,Exit.thenS];refine wpS_of_wp ?_;go_wp2
 cases c₀;simp_all [bodyPostS,results,results90]
 exact(zO _ _).alloc (zv _) _
structure MM(w:World)(b:Addr)(l:Wd)(n c:Nat):Prop where
 at_:jc w (some b) l
 len:l.length=n
 le:n<=c
 cap:c<=maxLen
 lt:b.block<w.heap.size
theorem WR{b:Addr}{l:Wd}{n c:Nat}{w:World}(h:MM w b l n c)(ZZ:MB l=true) :
  Calls Tryz.prog 58 #[.slice (some b) n c] w fun e w'=>e = .returned (.pointer none)/\Below w.heap.size w w':=by
 have xD:∀ x,w.heap.size=x->b.block<x:=fun x e=>e▸h.lt
 have NV:Fr xH xH w (w.alloc (.cells #[.pointer none] 87)):=(Fr.refl _ _).alloc _;have hA:=fun j=>xu w #[.pointer none] 87 (0,0) j
 have Qn:(w.alloc (.cells #[.pointer none] 87)).frozen? ⟨w.heap.size,0,none⟩=false:=by simp
 have qP:(w.alloc (.cells #[.pointer none] 87)).heap.size=w.heap.size+1:=by simp
 obtain⟨W,hcv,VQ,hcW⟩:=MH (w.alloc (.cells #[.pointer none] 87));have c0:W.cell? ⟨w.heap.size,0,none⟩=some (.pointer none):=VQ.cell (hA 0) id;have z0:W.frozen? ⟨w.heap.size,0,none⟩=false:=(VQ.frozen (show w.heap.size<_ by omega) id).trans Qn;have Zu:=NV.trans VQ;have HC:=z7 (n7 (b:=⟨(w.alloc (.cells #[.pointer none] 87)).heap.size,0,none⟩) (h.at_.fr Zu (fun _ _=>id)) (fun j hj=>⟨_,rfl,hcW j _ (by simp[jH,hj])⟩) h.len h.le h.cap);rw[qP] at HC hcv;have HH:=z7 (zx h ZZ);have HF:=z7 Zu;clear h ZZ NV hA Qn VQ hcW Zu xD;go_enter_defers func58,ntmps58
 go_wp2_with fail;refine HC.out.mono ?_;rintro e w1 ⟨rfl,rfl⟩;have Vo:=z7 (zx c0 z0);by_cases hp:j7.isPrefixOf l=true
 ·rw[if_pos hp];have HP:=z7 hp;have h3:3<=n:=by
   have:=(zk.1 hp).length_le;rw[HH.out.1.len] at this;exact this
  obtain⟨k,hk⟩:=xX (n - 3);rw[hk];clear hp;by_cases h1:65535<n
  ·have h1i:(65535:Int)<(n:Int):=by omega
   have HE:=z7 (show(W.setCell ⟨w.heap.size,0,none⟩ (.pointer none)).cell? ⟨w.heap.size,0,none⟩=some (.pointer none)/\Fr xH xH w (W.setCell ⟨w.heap.size,0,none⟩ (.pointer none)) from⟨vB Vo.out.1 _,HF.out.set _ (.inr (zv _))⟩);clear HC hk h3;go_wp2;refine leaves_cons (f:=90) (args:=#[.pointer (some ⟨w.heap.size,0,none⟩)]) (by simp) (by simp[go_sem]) ?_;refine(Yr w.heap.size _).mono ?_;rintro e u' Vx ⟨rfl,rfl,hb⟩;have hc:Vx.cell? ⟨w.heap.size,0,none⟩=some (.pointer none):=(hb.cell (zy _ _ HE.out.1)).trans HE.out.1;simp[Leaves,settle,results,results58,go_sem,hc];exact(HE.out.2.below hb).low (fun _ q=>q.elim) (zv _)
  ·have h1i:¬(65535:Int)<(n:Int):=by omega
   by_cases h2:k<4
   ·have h2i:(k:Int)<4:=by omega
    have HE:=z7 (show(W.setCell ⟨w.heap.size,0,none⟩ (.pointer none)).cell? ⟨w.heap.size,0,none⟩=some (.pointer none)/\Fr xH xH w (W.setCell ⟨w.heap.size,0,none⟩ (.pointer none)) from⟨vB Vo.out.1 _,HF.out.set _ (.inr (zv _))⟩);clear HC hk h3;go_wp2;refine leaves_cons (f:=90) (args:=#[.pointer (some ⟨w.heap.size,0,none⟩)]) (by simp) (by simp[go_sem]) ?_;refine(Yr w.heap.size _).mono ?_;rintro e u' Vx ⟨rfl,rfl,hb⟩;have hc:Vx.cell? ⟨w.heap.size,0,none⟩=some (.pointer none):=(hb.cell (zy _ _ HE.out.1)).trans HE.out.1;simp[Leaves,settle,results,results58,go_sem,hc];exact(HE.out.2.below hb).low (fun _ q=>q.elim) (zv _)
   ·have h2i:¬(k:Int)<4:=by omega
    obtain⟨VG,kS,hle,jy,tS⟩:=HH.out.1;have Cn:k<=c - 3:=by omega
    have xc:¬c - 3=k - 4:=by omega
    have oE:k - (k - 4)=4:=by omega
    have jC:=VG.fr HF.out (fun _ _=>id);have e4:(l.drop 3).drop (k - 4)=l.drop (n - 4):=by rw[List.drop_drop];congr 1;omega
    have hbT:jc W (some ((C1 b 3 c).add (k - 4))) (l.drop (n - 4)):=by
     have:=(jC.drop (n:=3) (by omega:l.length<=c)).drop (n:=k - 4) (cap:=c - 3) (by rw[zG];omega);rw[e4,C1,if_neg (fun q=>xc q.symm)] at this;exact this
    have uO:(l.drop (n - 4)).length=4:=by rw[zG];omega
    have hfa:Fr xH xH W (W.alloc (.cells #[.slice (some ((C1 b 3 c).add (k - 4))) 4 (c - 3 - (k - 4)),.int .i64 0] 209)):=(Fr.refl _ _).alloc _;have HRD:RdM (W.alloc (.cells #[.slice (some ((C1 b 3 c).add (k - 4))) 4 (c - 3 - (k - 4)),.int .i64 0] 209)) W.heap.size (l.drop (n - 4)):=by
     refine⟨⟨(C1 b 3 c).add (k - 4),c - 3 - (k - 4),?_,by omega,by omega,hbT.fr hfa (fun _ _=>id),?_⟩,by simp⟩
     ·rw[uO];exact xu _ _ _ _ _
     ·rw[addr_add,Cu];have:=HF.out.size;intro q;rw[q] at tS;omega
    have JK:=jC.take (n - 4);have tK:Yp (l.drop (n - 4))≠Zz (l.take (n - 4)):=by
     have h:=HH.out.2;unfold MB at h;rw[HP.out,kS,decide_eq_false (by omega:¬65535<n),decide_eq_false (by omega:¬n<7)] at h;simpa using h
    have oA:=Dv (l:=l.drop (n - 4)) (by omega);have fU:=QR (l.take (n - 4));obtain⟨W1,Vu⟩:=xX (W.alloc (.cells #[.slice (some ((C1 b 3 c).add (k - 4))) 4 (c - 3 - (k - 4)),.int .i64 0] 209));rw[Vu] at hfa HRD;have HN:=z7 (tQ (w:=W1.drew) (n:=4) (show RdM W1.drew W.heap.size (l.drop (n - 4)) from⟨HRD.ex,HRD.fz⟩) (by omega) (by decide));rw[zu (Nat.le_of_eq uO)] at HN;have DX:=z7 hfa;have Wn:=z7 (zx JK (show(l.take (n - 4)).length=n - 4 by rw[zg];omega));have hn4:n - 4<=2000000000:=by omega
    have QT:=Dx b n (n - 4) c (by omega) hle jy;have hw4:((n - 4:Nat):Int)=(n:Int) - 4:=by omega
    rw[hw4] at QT;clear VG kS hle jy tS jC e4 hbT uO hfa HRD JK HC;go_wp2_with fail;have hu:IntKind.u32.wrap ((Yp (l.drop (n - 4)):Nat):Int)=(Yp (l.drop (n - 4)):Nat):=by rw[IntKind.wrap_u32'];omega
    obtain⟨N,hNe⟩:=xX (Yp (l.drop (n - 4)));obtain⟨S,hSe⟩:=xX (Zz (l.take (n - 4)));rw[hNe] at HN hu tK;rw[hSe] at tK;have HSE:=z7 hSe;have hNS:((N:Nat):Int)≠((S:Nat):Int):=fun q=>tK (by omega)
    have xbx:((N:Int)=(S:Int))=False:=eq_false hNS;clear tK oA fU Vu hNe hSe hcv c0 z0 qP;have Cl:zL.wrap ((n:Int) - 4)=(n:Int) - 4:=by rw[zI];omega
    have hwt:((n:Int) - 4).toNat=n - 4:=by omega
    have hw0:(0:Int)<=(n:Int) - 4:=by omega
    have hwc:(n:Int) - 4<=(c:Int):=by have:=HH.out.1.le;omega
    refine wp_region_noPanic ?_;refine rt (fun _=>True) [0,3,4,5,6,7] 4 trivial ?_;(iterate 6 (refine ty ?_;try simp only[pl]))
    refine xq ?_;refine kR 1 (fun J hJ=>?_);go_simp;refine HN.out.mono ?_;rintro e W2 ⟨rfl,-,vu⟩;have hfn:Fr xH (fun x=>x=W.heap.size) W W2:=DX.out.tr vu.und (fun q hq=>by subst hq;exact .inr (zv _));have HS:=z7 (fun (c:Nat)=>S3 (cap:=c) (Wn.out.1.fr hfn (fun _ _=>id)) Wn.out.2 hn4);rw[HSE.out] at HS;have HFN:=z7 (HF.out.trans hfn);have jJ:=hfn.cell Vo.out.1 id;have Uf:=(hfn.frozen (zy _ _ Vo.out.1) id).trans Vo.out.2;refine hJ.out _ _ trivial fun _=>?_
    clear hJ J HN vu hfn;refine Vv [2] 2 trivial ?_;(iterate 1 (refine ty ?_;try simp only[pl]))
    refine xq ?_;refine kR 8 (fun J hJ=>?_);go_simp;refine(HS.out _).mono ?_;rintro e W3 ⟨rfl,rfl⟩;refine hJ.out _ _ trivial fun _=>?_
    clear hJ J HS;refine Vv [9] 0 trivial ?_;(iterate 1 (refine ty ?_;try simp only[pl]))
    refine xq ?_;refine bX ?_ _;refine NoPanic.normal ?_;have HE:=z7 (show(W2.setCell ⟨w.heap.size,0,none⟩ (.pointer none)).cell? ⟨w.heap.size,0,none⟩=some (.pointer none)/\Fr xH (fun x=>x=W.heap.size) w (W2.setCell ⟨w.heap.size,0,none⟩ (.pointer none)) from⟨vB jJ _,HFN.out.set _ (.inr (zv _))⟩);go_wp2;refine leaves_cons (f:=90) (args:=#[.pointer (some ⟨w.heap.size,0,none⟩)]) (by simp) (by simp[go_sem]) ?_;refine(Yr w.heap.size _).mono ?_;rintro e u' Vx ⟨rfl,rfl,hb⟩;have hc:Vx.cell? ⟨w.heap.size,0,none⟩=some (.pointer none):=(hb.cell (zy _ _ HE.out.1)).trans HE.out.1;simp[Leaves,settle,results,results58,go_sem,hc];exact(HE.out.2.below hb).low (fun _ q=>q.elim) (zv _)
 ·rw[if_neg hp];have HE:=z7 (show(W.setCell ⟨w.heap.size,0,none⟩ (.pointer none)).cell? ⟨w.heap.size,0,none⟩=some (.pointer none)/\Fr xH xH w (W.setCell ⟨w.heap.size,0,none⟩ (.pointer none)) from⟨vB Vo.out.1 _,HF.out.set _ (.inr (zv _))⟩);clear hp HC;go_wp2;refine leaves_cons (f:=90) (args:=#[.pointer (some ⟨w.heap.size,0,none⟩)]) (by simp) (by simp[go_sem]) ?_;refine(Yr w.heap.size _).mono ?_;rintro e u' Vx ⟨rfl,rfl,hb⟩;have hc:Vx.cell? ⟨w.heap.size,0,none⟩=some (.pointer none):=(hb.cell (zy _ _ HE.out.1)).trans HE.out.1;simp[Leaves,settle,results,results58,go_sem,hc];exact(HE.out.2.below hb).low (fun _ q=>q.elim) (zv _)
theorem MM.below{w w':World}{b:Addr}{l:Wd}{n c:Nat}(h:MM w b l n c)(hb:Below w.heap.size w w'):MM w' b l n c :=
 ⟨h.at_.fr (Fr.of hb (F:=xH)) (fun _ _=>id),h.len,h.le,h.cap,zZ h.lt hb.size⟩
theorem WS{b:Addr}{l:Wd}{n k:Nat}(c o:Value)(ra rb:Bool)(mi po gr:Int)(fi ne:Nat)(dg:ByteArray)(Qc Qo:World->Value->Prop)(w:World)(hd:dg.size<=1000000)(LV:fi<=255)(xc:ne<=255)
  (hc:qZ w c ra Qc) (ho:qZ w o rb Qo) (BR:(∃ a n k,c = .slice a n k)/\∃ a n k,o = .slice a n k) (hT:Ef w) (hl:MM w b l n k) (ZZ:MB l=true) (UA:vM ra rb mi po gr fi ne dg.data.toList=true) :
  Calls Tryz.prog 37 #[.slice (some b) n k,Dh c o mi po gr fi ne dg] w fun e w'=>e = .returned (.tuple #[.pointer none,OJ 14])/\Below w.heap.size w w':=by
 have HC:=z7 hc;have HO:=z7 ho;have eD:=z7 BR;have HT:=z7 hT;have HL:=z7 (zx hl ZZ);clear hc ho BR hT hl ZZ;go_enter func37,ntmps37;go_wp2_with fail;refine vZ ?_;intro W hW;have hb:Below w.heap.size w W:=by rw[hW];exact(zO _ _).alloc (zv _) _
 clear hW;refine(Fq c o ra rb mi po gr fi ne dg Qc Qo W hd LV xc (HC.out.later hb) (HO.out.later hb) eD.out (HT.out.below hb).eF).mono ?_;rintro e w1 ⟨xB,vV⟩;have vO:Below w.heap.size w w1:=hb.trans (xB.mono hb.size);rw[if_pos UA] at vV;obtain⟨g,cv,ov,rfl,-⟩:=vV;have HR:=z7 (WR (HL.out.1.below vO) HL.out.2);have HB:=z7 vO;clear hb xB vO UA;go_wp2_with fail;refine HR.out.mono ?_;rintro e w2 ⟨rfl,xF⟩;have Ky:=z7 (HB.out.trans (xF.mono HB.out.size));clear xF HR;go_wp2;go_ret2
 exact⟨rfl,Ky.out⟩
theorem WT{b:Addr}{l:Wd}{n k:Nat}(c o:Value)(ra rb:Bool)(mi po gr:Int)(fi ne:Nat)(dg:ByteArray)(Qc Qo:World->Value->Prop)(w:World)(hd:dg.size<=1000000)(LV:fi<=255)(xc:ne<=255)
  (hc:qZ w c ra Qc) (ho:qZ w o rb Qo) (BR:(∃ a n k,c = .slice a n k)/\∃ a n k,o = .slice a n k) (hT:Ef w) (hl:MM w b l n k) (ZZ:MB l=true) (UA:vM ra rb mi po gr fi ne dg.data.toList=true) :
  Calls Tryz.prog 23 #[.slice (some b) n k,Dh c o mi po gr fi ne dg] w fun e w'=>e = .returned (.tuple #[.pointer none,.int .i64 14])/\Below w.heap.size w w':=by
 have HC:=z7 hc;have HO:=z7 ho;have eD:=z7 BR;have HT:=z7 hT;have HL:=z7 (zx hl ZZ);clear hc ho BR hT hl ZZ;go_enter func23,ntmps23;go_wp2_with fail;refine vZ ?_;intro W hW;have hb:Below w.heap.size w W:=by rw[hW];exact(zO _ _).alloc (zv _) _
 clear hW;refine(WS c o ra rb mi po gr fi ne dg Qc Qo W hd LV xc (HC.out.later hb) (HO.out.later hb) eD.out (HT.out.below hb) (HL.out.1.below hb) HL.out.2 UA).mono ?_;rintro e w1 ⟨rfl,xB⟩;have vO:Below w.heap.size w w1:=hb.trans (xB.mono hb.size);have wV:=z7 (Ev 14 w1 (HT.out.below vO).err);have HB:=z7 vO;clear hb xB vO UA;go_wp2_with fail;refine wV.out.mono ?_;rintro e w2 ⟨rfl,xF⟩;have Ky:=z7 (HB.out.trans (xF.mono HB.out.size));clear xF wV;go_wp2;go_ret2
 exact⟨rfl,Ky.out⟩
theorem nz{P q:Nat}{Q:Value->World->Prop}{w:World}(h0:w.cell? ⟨P,0,none⟩=some (.pointer (some ⟨q,0,none⟩)))
  (hB:Calls Tryz.prog 36 #[.pointer (some ⟨q,0,none⟩)] w fun e w'=>∃ v,e = .returned v/\Q v w') :
  Calls Tryz.prog 22 #[.pointer (some ⟨P,0,none⟩)] w fun e w'=>∃ v,e = .returned v/\Q v w':=by
 have HB:=z7 hB;clear hB;go_enter func22,ntmps22;go_wp2_with fail;refine HB.out.mono ?_;rintro e w' ⟨v,rfl,hq⟩;have HQ:=z7 hq;clear hq;go_wp2;go_ret;exact⟨v,rfl,HQ.out⟩
theorem MN:∀ (k t t':List Nat),(K3 k t).length=(K3 k t').length
 | [],_,_=>rfl
 | a::k,t,t'=>by simp only[K3,z8,MN k t.tail t'.tail];rfl
theorem V8:∀ (f:Wd) (v:Nat) (k t t':List Nat),(kG f v k t).length=(kG f v k t').length
 | [],_,_,_,_=>rfl
 | c::f,v,k,t,t'=>by
  unfold kG;split
  ·rw[z8,z8,V8 f v k.tail t t']
  ·split
   ·rw[z8,z8,V8 f v k t t']
   ·split
    ·rw[z8,z8,V8 f v k t.tail t'.tail];rfl
    ·simp only[z8,MN k t t',V8 f v [] (t.drop (k.length+1)) (t'.drop (k.length+1))]
theorem Cq(p j:Nat):∀ (l:List j8) (i:Nat),(kz (l.modify i fun x=>{ x with tg:=x.tg.set j p })).length=(kz l).length
 | [],_=>by simp[kz]
 | x::l,0=>by simp only[List.modify_zero_cons,kz,zV,z8,uq,zF,V8 (gB x.op) x.v x.k (x.tg.set j p) x.tg]
 | x::l,i+1=>by
  have:=Cq p j l i;simp only[kz] at this;simp only[List.modify_succ_cons,kz,zV,z8,this]
theorem ny:qI fun s=>(kz s.code).length=s.pos:=by
 refine⟨fun s op v k tg h=>?_,fun s t h=>?_,fun s i j h=>?_⟩
 ·simp only[MkS.put,kz,zE,z8] at h ⊢;rw[h];simp
 ·obtain⟨-,z2,z3⟩:=vz s t;rw[z2,z3];exact h
 ·show(kz (s.code.modify i _)).length=s.pos;rw[Cq];exact h
theorem MO:∀ (cs:List Wd) (N:Nat),(∀ t∈cs,t.length<=N)->(Zy cs).length<=cs.length*(N+2)
 | [],_,_=>by simp[Zy]
 | c::cs,N,h=>by
  have h1:=MO cs N (fun t ht=>h t (by simp[ht]));have h2:=h c (by simp);simp only[Zy,zV,z8,zF] at h1 ⊢;rw[show(uY c.length).length=2 from rfl,zM];omega
theorem S6{f:Fo}(hc:f.YF)(hs:f.sh)(hw:f.cw<=90000):(Zx (MkS.all f)).length<=1000000000/\(kz (MkS.all f).code).length<=1000000/\(MkS.all f).code≠[]/\7<=(Zx (MkS.all f)).length:=by
 have h1:=ny.all f rfl;have hz:=Pz f;have h2:=MO (MkS.all f).cs 5000 (P9 hc hs).2;simp only[MkS.sz] at hz;have h3:(Zx (MkS.all f)).length=5+(Zy (MkS.all f).cs).length+2+(kz (MkS.all f).code).length:=by simp only[Zx,z8];rfl
 refine⟨by omega,by omega,?_,by omega⟩;unfold MkS.all;rw[xM];simp
def NZ{α:Type}(x:qK α):Prop:=∀ e,x = .error e->e.1≠0
section
variable {α β:Type}
theorem NZ.ok(x:α×Nat):NZ (.ok x:qK α):=fun _ h=>by cases h
theorem NZ.err{n a:Nat}(h:n≠0):NZ (.error (n,a):qK α):=fun _ e=>by cases e;exact h
theorem NZ.then{x:qK α}{k:α->Nat->qK β}(h:NZ x)(hk:∀ a i,NZ (k a i)):NZ (x.then k):=by
 cases x with
 | error e=>intro e' he;cases he;exact h e rfl
 | ok p=>exact hk p.1 p.2
end
section
variable (rs:List Int)
theorem Ys(r:Int)(i:Nat):NZ (vN rs r i):=by unfold vN;split;exact .ok _;exact .err (by decide)
theorem Eh(i:Nat):NZ (gu rs i):=by unfold gu;split;exact .err (by decide);exact .ok _
theorem MP(i:Nat):NZ (kZ rs i):=by unfold kZ;split;exact .err (by decide);exact .ok _
theorem zd5(num:Bool)(i:Nat):NZ (K9 rs num i):=by
 unfold K9;split
 ·exact(MP rs _).then fun _ _ => .ok _
 ·exact(Eh rs _).then fun _ _=>by split;exact .err (by decide);exact .ok _
theorem tJ(m:Option kC)(hm:∀ x,m=some x->∀ b i,NZ (x b i))(num:Bool)(k:Wd)(i o l:Nat):NZ (XG rs m num k i o l):=by
 cases m with
 | none=>exact .err (by decide)
 | some x=>exact(hm x rfl num l).then fun _ _=>(Ys rs _ _).then fun _ _ => .ok _
theorem zd6(m:Option kC)(hm:∀ x,m=some x->∀ b i,NZ (x b i))(num:Bool)(i:Nat):NZ (X2 rs m num i) :=
 (zd5 rs num i).then fun _ _=>(Ys rs _ _).then fun _ _=>tJ rs m hm _ _ _ _ _
theorem S7(m:Option kC)(hm:∀ x,m=some x->∀ b i,NZ (x b i))(num:Bool):∀ (n:Nat) (acc:Fo) (i:Nat),NZ (jN rs m num n acc i)
 | 0,_,_ => .err (by decide)
 | n+1,acc,i=>by
  unfold jN;split
  ·exact .ok _
  ·exact(zd6 rs m hm num i).then fun _ _=>S7 m hm num n _ _
theorem zd7(form i:Nat):NZ (JU rs form i):=by
 unfold JU;split
 ·exact(MP rs _).then fun _ _ => .ok _
 ·exact .ok _
theorem zd8(m:Option kC)(hm:∀ x,m=some x->∀ b i,NZ (x b i))(i:Nat):NZ (YX rs m i):=by
 refine(Ys rs _ _).then fun _ a=>(Eh rs _).then fun name b=>?_
 split
 ·exact(Ys rs _ _).then fun _ _ => .ok _
 ·refine(Eh rs _).then fun w c=>?_
  split
  ·exact(Ys rs _ _).then fun _ _ => .ok _
  ·split
   ·exact .err (by decide)
   ·exact(Ys rs _ _).then fun _ d=>(zd7 rs _ _).then fun o l=>(S7 rs m hm _ _ _ _).then fun _ _=>(Ys rs _ _).then fun _ _ => .ok _
theorem MR(m:Option kC)(hm:∀ x,m=some x->∀ b i,NZ (x b i))(num:Bool):∀ (n:Nat) (acc:Fo) (i:Nat),NZ (qC rs m num n acc i)
 | 0,_,_ => .err (by decide)
 | n+1,acc,i=>by
  unfold qC;split
  ·exact .ok _
  ·split
   ·exact(zd8 rs m hm i).then fun _ _=>MR m hm num n _ _
   ·split
    ·exact MR m hm num n _ _
    ·exact MR m hm num n _ _
theorem nu:∀ (n:Nat) (b:Bool) (i:Nat),NZ (YV rs n b i)
 | 0,b,i=>MR rs none (fun _ h=>by cases h) b _ _ _
 | n+1,b,i=>MR rs _ (fun x h=>by cases h;exact nu n) b _ _ _
theorem nj:NZ (YU rs):=(nu rs 5 false 0).then fun _ _=>by split;exact .ok _;exact .err (by decide)
end
theorem ng{σ:Type}(P:σ->Prop)(F:σ->Fo->Out σ)(hF:∀ s f,P s->match F s f with | .go _ s=>P s | .CS _ s=>P s):∀ (f:Fo) (s:σ),P s->match vP F f s with | .go _ s=>P s | .CS _ s=>P s:=by
 have key:∀ (x:Out σ) (k:σ->Out σ),(match x with | .go _ s=>P s | .CS _ s=>P s)->(∀ s,P s->match k s with | .go _ s=>P s | .CS _ s=>P s)->match x.then k with | .go _ s=>P s | .CS _ s=>P s:=by
  intro x k hx hk;match x,hx with
  | .go true s,hx=>exact hk s hx
  | .go false s,hx=>exact hx
  | .CS _ s,hx=>exact hx
 intro f;induction f with
 | nil=>exact fun s h=>h
 | text t r ih=>exact fun s h=>ih s h
 | hash r ih=>exact fun s h=>ih s h
 | put n a r ih=>exact fun s h=>key _ _ (hF _ _ h) ih
 | num n a r ih=>exact fun s h=>key _ _ (hF _ _ h) ih
 | br n a f o c bs r ih1 ih2=>exact fun s h=>key _ _ (hF _ _ h) fun s h=>key _ _ (ih1 s h) ih2
 | uf k a m r ih1 ih2=>exact fun s h=>key _ _ (ih1 s h) ih2
def NzS(s:Qr):Prop:=∀ x∈s.2,x.1≠0
theorem Ew{s:Qr}(h:NzS s)(n:Wd)(a k:Nat):NzS (uj s n a k):=by
 unfold uj;split
 ·intro x hx;rw[zD,zH] at hx;rcases hx with hx|rfl
  ·exact h x hx
  ·show 5≠0;decide
 ·split<;>exact h
theorem zd9(cl:Nat):∀ (f:Fo) (seen:List Wd) (acc:List (Nat×Nat)),(∀ x∈acc,x.1≠0)->∀ x∈Qp cl seen acc f,x.1≠0:=by
 have Hf:∀ (seen:List Wd) (acc:List (Nat×Nat)),(∀ x∈acc,x.1≠0)->∀ x∈(if Gh∈seen then acc else acc++[(6,cl)]),x.1≠0:=by
  intro seen acc h x hx;split at hx
  ·exact h x hx
  ·rw[zD,zH] at hx;rcases hx with hx|rfl
   ·exact h x hx
   ·show 6≠0;decide
 intro f;induction f with
 | uf k a m r _ ih =>
  intro seen acc h;refine ih _ _ fun x hx=>?_
  split at hx
  ·rw[zD,zH] at hx;rcases hx with hx|rfl
   ·exact h x hx
   ·show 7≠0;decide
  ·exact h x hx
 | nil=>exact Hf
 | text _ _ _=>exact Hf
 | hash _ _=>exact Hf
 | put _ _ _ _=>exact Hf
 | num _ _ _ _=>exact Hf
 | br _ _ _ _ _ _ _ _ _=>exact Hf
theorem zdz{f:Fo}{x:Nat×Nat}(h:ZP f=some x):x.1≠0:=by
 have h0:∀ y∈je f,y.1≠0:=by
  have:=ng NzS dL (fun s g hs=>by
   cases g with
   | br n a fo o c bs r =>
    intro y hy;simp only[zD] at hy;rcases hy with hy|hy
    ·exact Ew hs _ _ _ y hy
    ·exact zd9 _ _ _ _ (fun _ h=>by cases h) y hy
   | num n a r=>exact Ew hs _ _ _
   | put n a r=>exact Ew hs _ _ _
   | _=>exact hs) f (fun _=>none,[]) (fun _ h=>by cases h)
  unfold je
  cases hE:vP dL f (fun _=>none,[]) with
  | go b s=>rw[hE] at this;exact this
  | CS c s=>rw[hE] at this;exact this
 unfold ZP at h
 cases hf:je f with
 | nil=>rw[hf] at h;cases h
 | cons y l =>
  rw[hf] at h h0
  cases h;have:∀ (l:List (Nat×Nat)) (m:Nat×Nat),m.1≠0->(∀ y∈l,y.1≠0)->(KU m l).1≠0:=by
   intro l;induction l with
   | nil=>exact fun m h _=>h
   | cons z l ih =>
    intro m h hl;refine ih _ ?_ (fun y hy=>hl y (by simp[hy]));show(if z.2<m.2 then z else m).1≠0;split
    ·exact hl z (by simp)
    ·exact h
  exact this l y (h0 y (by simp)) (fun z hz=>h0 z (by simp[hz]))
theorem tG{l:List UInt8}{e:Nat×Nat}(h:jF l = .error e):e.1≠0:=by
 unfold jF at h
 cases hp:uJ l with
 | error e' =>
  rw[hp] at h
  cases h;unfold uJ at hp;split at hp
  ·cases hp;show(1:Nat)≠0;decide
  ·split at hp
   ·cases hp;show(2:Nat)≠0;decide
   ·split at hp
    ·next e2 he=>cases hp;exact nj _ _ he
    ·cases hp
 | ok g =>
  rw[hp] at h;dsimp only at h
  cases hc:ZP g with
  | some x=>rw[hc] at h;cases h;exact zdz hc
  | none=>rw[hc] at h;cases h
def okE{α β:Type}:Except α β->Bool | .ok _=>true | .error _=>false
theorem nZ:okE (jF [])=true:=by kernel_rfl
theorem nY{b:Addr}{l:Wd}{n k:Nat}{w:World}{c o:Value}(hE:gm w)(hA:X1 w c o)(hl:MM w b l n k)(ZZ:MB l=true) :
  Calls Tryz.prog 23 #[.slice (some b) n k,mQ c o] w fun e w'=>e = .returned (.tuple #[.pointer none,.int .i64 14])/\Below w.heap.size w w' :=
 WT c o true true 45 46 44 3 0 ⟨#[]⟩ _ _ w (by decide) (by decide) (by decide) (bE UL D8 c w hA.c (by decide) gK.1 hE.rt hE.cmp.names dD.1) (bE Es D9 o w hA.o (by decide) gK.2 hE.rt hE.cmp.names dD.2) ⟨hA.c.slice,hA.o.slice⟩ hE.cmp.tabs hl ZZ KS
structure nX(P q mb:Nat)(f:Fo)(vC vI:Value)(rs:List (Value×Value))(w:World):Prop where
 p0:w.cell? ⟨P,0,none⟩=some (.pointer (some ⟨q,0,none⟩))
 prog:qT q (MkS.all f) vC vI rs mb w
 YF:f.YF
 sh:f.sh
 cw:f.cw<=90000
theorem nX.below{P q mb:Nat}{f:Fo}{vC vI:Value}{rs:List (Value×Value)}{w w':World}(h:nX P q mb f vC vI rs w)(hb:Below w.heap.size w w'):nX P q mb f vC vI rs w' :=
 ⟨(hb.cell (zy _ _ h.p0)).trans h.p0,h.prog.below hb,h.YF,h.sh,h.cw⟩
theorem Ck{P q mb:Nat}{f:Fo}{vC vI:Value}{rs:List (Value×Value)}{w:World}(h:nX P q mb f vC vI rs w)(hF:jk w) :
  Calls Tryz.prog 22 #[.pointer (some ⟨P,0,none⟩)] w fun e w'=>∃ v,e = .returned v/\gF w' v (JZ (MkS.all f))/\Fr xH (xZ v) w w':=by
 obtain⟨a1,a2,a3,-⟩:=S6 h.YF h.sh h.cw;exact nz (Q:=fun v w'=>gF w' v (JZ (MkS.all f))/\Fr xH (xZ v) w w') h.p0 (WN h.prog (rh h.YF h.sh h.cw) hF a1 a2 a3)
theorem tF(j:Nat)(h:j<8):IntKind.u64.wrap (j:Int)=(j:Int)/\∃ p:Nat,0<p/\p<256/\IntKind.u8.wrap ((2:Int) ^ j)=(p:Int):=by
 refine⟨by simp[IntKind.wrap,IntKind.bits,IntKind.signed];omega,2 ^ j,Nat.two_pow_pos j,?_,?_⟩
 ·exact zZ (Nat.pow_lt_pow_right (by decide) h) (by decide)
 ·match j,h with
  | 0,_=>rfl
  | 1,_=>rfl
  | 2,_=>rfl
  | 3,_=>rfl
  | 4,_=>rfl
  | 5,_=>rfl
  | 6,_=>rfl
  | 7,_=>rfl
theorem nU(c:UInt8)(p:Nat)(h0:0<p)(h:p<256):∃ x:UInt8,x≠c/\bits .xor .u8 (c.toNat:Int) (p:Int)=(x.toNat:Int):=by
 have hc:=c.toNat_lt;have hx:c.toNat ^^^ p<256:=Nat.xor_lt_two_pow (n:=8) hc h;have hn:(UInt8.ofNat (c.toNat ^^^ p)).toNat=c.toNat ^^^ p:=by rw[UInt8.toNat_ofNat'];omega
 refine⟨UInt8.ofNat (c.toNat ^^^ p),fun e=>?_,by rw[hn];exact u8_xor_nat _ _ hc h⟩;have h1:=congrArg UInt8.toNat e;rw[hn] at h1;have h2:=congrArg (c.toNat ^^^ ·) h1;simp only[←Nat.xor_assoc,Nat.xor_self,Nat.zero_xor] at h2;omega
theorem MS(s:ByteArray)(i b:Int)(w:World)(hs:s.size<=9223372036854775807)(hi : -9223372036854775808<=i/\i<=9223372036854775807)(hb : -9223372036854775808<=b/\b<=9223372036854775807)(hE:gm w) :
  Calls Tryz.prog 7 #[.string s,.int .i64 i,.int .i64 b] w fun e w'=>e = .returned (.bool true)/\Below w.heap.size w w':=by
 by_cases h60:8192<s.size
 ·have g1:decide (8192<(s.size:Int))=true:=decide_eq_true (by omega);go_enter func7,ntmps7;go_wp2;go_ret;exact⟨rfl,zO _ _⟩
 have xbu:s.size<=8192:=by omega
 have g1:decide (8192<(s.size:Int))=false:=decide_eq_false (by omega);have jX:=z7 (PC w hE);obtain⟨j,hj⟩:=xX (UM b 8);have j1:j<8:=by rw[←hj];exact Nat.mod_lt _ (by decide)
 have HPB:=z7 (fun W=>Cy b 8 W hb.1 hb.2 (by decide) (by decide));rw[hj] at HPB;have HE:=z7 hE;clear h60 hs hE hb hj;go_enter func7,ntmps7;go_wp2_with fail;refine jX.out.mono ?_;rintro e w0 ⟨rfl,jz⟩;have HB0:=z7 jz;clear jX jz;go_wp2_with fail;refine(Jd w0).mono ?_;rintro e w1 ⟨⟨c,o,rfl,hc,ho⟩,xB⟩;obtain⟨ca,cn,ck,rfl⟩:=hc.slice;obtain⟨oa,on,ok,rfl⟩:=ho.slice;have hG:=PD.made (X1.mk hc ho) (HB0.out.trans (xB.mono HB0.out.size));go_wp2_with fail;generalize w1.alloc (.cells #[.slice ca cn ck,.slice oa on ok,.int .i32 45,.int .i32 46,.int .i32 44,.int .u8 3,.int .u8 0,.string ⟨#[]⟩] 25)=W at hG ⊢;generalize w1.heap.size=B at hG ⊢;clear hc ho xB;have hCM:=MJ (p:=s.data.toList) (w:=W) (by rw[xA];omega) (HE.out.below hG.L8).cmp (HE.out.below hG.L8).rt hG.eng;rw[show xk s.data.toList = .string s by simp[xk]] at hCM;obtain⟨r,hr⟩:=xX (jF s.data.toList);rw[hr] at hCM;have HR:=z7 hr;have HC:=z7 hCM;have HG:=z7 hG;clear hCM hr hG;refine HC.out.mono ?_;rintro e w2 ⟨xF,vV⟩;have Rz:=HG.out.next xF
 cases r with
 | error x =>
  obtain⟨n,a⟩:=x;obtain rfl:=vV;have hn:n≠0:=tG HR.out;have Zk:((n:Int)=0)=False:=by simp;omega
  have DH:s≠⟨#[]⟩:=by
   rintro rfl;have h1:=nZ;have h2:=HR.out;rw[show(⟨#[]⟩:ByteArray).data.toList=[] from rfl] at h2;rw[h2] at h1
   cases h1
  have ue:¬s.toList=[]:=fun q=>DH (ByteArray.ext (by rw[ByteArray.toList_eq] at q;exact Array.toList_inj.1 q))
  have HB:=z7 Rz.L8;clear Rz xF HC HG DH;go_wp2;go_ret;exact⟨by first|rfl|simp[ue],HB.out⟩
 | ok f =>
  obtain⟨P,q,g,mb,vC,vI,rs,rfl,hL⟩:=vV;have hS:nX P q mb f vC vI rs w2:=⟨hL.p0,hL.prog,hL.YF,hL.sh,hL.cw⟩;have hSV:=Ck hS (HE.out.below Rz.L8).cmp.RD;have HS:=z7 hS;have HG2:=z7 Rz;have JH:=z7 hSV;clear hS hSV hL Rz xF HC HG;go_wp2_with fail;refine JH.out.mono ?_;rintro e w3 ⟨v,rfl,Xk,jx⟩;obtain⟨a1,a2,a3,a4⟩:=S6 HS.out.YF HS.out.sh HS.out.cw;obtain⟨X,hX⟩:=xX (JZ (MkS.all f));have ZZ:∀ k (hk:k<X.length) x,x≠X[k]->MB (X.set k x)=true:=by
   subst hX;exact fun k hk x hx=>mO _ k x hk hx
  have hXl:X.length<=1000000004/\11<=X.length:=by
   rw[←hX,JZ,z8];rw[show(kJ (Zz (Zx (MkS.all f)))).length=4 from rfl];omega
  rw[hX] at Xk JH;have HX:=z7 hX;clear hX a1 a2 a3 a4;obtain⟨G,cap,rfl,-,hG0,xi⟩:=xl Xk (by omega);have dQ:X.length<=cap/\cap<=maxLen:=by
   rcases Xk.2 with⟨e,-⟩|⟨g',ve,cur,e,-,-,h1,h2,-⟩
   ·cases e
   ·cases e;exact⟨h1,h2⟩
  obtain⟨k,hk⟩:=xX (UM i X.length);have rf:k<X.length:=by rw[←hk];exact Nat.mod_lt _ (by omega)
  have HPI:=z7 (fun W=>Cy i X.length W hi.1 hi.2 (by omega) (by omega));rw[hk] at HPI;have DV:w3.cell? ⟨G,k,none⟩=some (.int .u8 (X[k].toNat:Nat)):=by rw[xi k (by omega)];simp[jH,rf]
  have VH:w3.frozen? ⟨G,k,none⟩=false:=Xk.frozenAt k;obtain⟨tD,zdy⟩:∃ x,X[k]=x:=⟨_,rfl⟩;rw[zdy] at DV;have HBD:=Lib.hid ZZ;have HK:=Lib.hid (And.intro rf (And.intro dQ hXl));have HCK:=Lib.hid (And.intro Xk (And.intro jx xi));obtain⟨L,hL⟩:=xX X.length;rw[hL] at HPI rf hXl dQ ⊢;have HL:=Lib.hid hL;have HC0:=Lib.hid zdy;have Ai:((L:Int)=0)=False:=by simp;omega
  have CX:(k:Int)<(L:Int):=by omega
  obtain⟨ylb,p,hp0,Va,hu8⟩:=tF j j1;obtain⟨nb,DK,hxr⟩:=nU tD p hp0 Va;have CL:=z7 DK;clear Xk jx xi hL zdy ZZ JH hk hi hG0 DK hp0 Va;go_wp2_with fail;refine(HPI.out w3).mono ?_;rintro e w4 ⟨rfl,rfl⟩;go_wp2_with fail;refine rk (fun W':World=>W'.cell? ⟨G,k,none⟩=some (.int .u8 (tD.toNat:Nat))) 12 [0,1,2,3,4,5,6] 6 DV ?_;(iterate 7 (refine ty ?_;try simp only[pl]))
  refine xq ?_;refine Xf 7 (fun J hJ=>?_);go_simp;refine(HPB.out _).mono ?_;rintro e w5 ⟨rfl,rfl⟩;refine hJ.out _ _ DV fun _=>?_
  clear hJ J;refine Xf 8 (fun J hJ=>?_);go_simp;refine hJ.out _ _ DV fun _=>?_
  clear hJ J;refine Xf 9 (fun J hJ=>?_);go_simp;refine hJ.out _ _ DV fun _=>?_
  clear hJ J;refine Xf 10 (fun J hJ=>?_);go_simp;refine hJ.out _ _ DV fun _=>?_
  clear hJ J;refine Xf 11 (fun J hJ=>?_);go_simp;refine hJ.out _ _ DV fun _=>?_
  clear hJ J;refine DJ 12 (fun J hJ=>?_);go_simp;refine hJ.out _ _ ?_;clear hJ J;refine DG ?_ _;obtain⟨Xk,jx,xi⟩:=HCK.out;have yyj:G<w3.heap.size:=zy _ _ DV;have yyg:w2.heap.size<=G:=(jx.fp G rfl).elim (fun q=>q.elim) id;have YY:=(jx.set (a:=⟨G,k,none⟩) (.int .u8 (nb.toNat:Nat)) (.inr yyg)).drew;have uN:Below w2.heap.size w2 _:=YY.low (fun _ q=>q.elim) (zv _);have oz:=HG2.out.next uN;have hS4:=HS.out.below uN;have fU:MM (w3.setCell ⟨G,k,none⟩ (.int .u8 (nb.toNat:Nat))).drew ⟨G,0,none⟩ (X.set k nb) L cap:=by
   refine⟨fun j hj=>⟨_,rfl,?_⟩,by rw[ze];exact HL.out,dQ.1,dQ.2,by show G<(w3.setCell _ _).heap.size;simpa[World.setCell] using yyj⟩;rw[ze] at hj;rw[vS];show(w3.setCell _ _).cell? _=_;rw[xg];by_cases e:j=k
   ·subst e;rw[if_pos rfl,DV];simp
   ·rw[if_neg (fun q=>e (congrArg Addr.off q).symm),xi j (by omega),List.getElem_set_ne (fun q=>e q.symm)];simp[jH,hj]
  have Qy:(w3.setCell ⟨G,k,none⟩ (.int .u8 (nb.toNat:Nat))).drew.cell? ⟨G,k,none⟩=some (.int .u8 (nb.toNat:Nat)):=vB DV _;have hbd:=HBD.out k HK.out.1 nb (by rw[HC0.out];exact CL.out);have oZ:((tD.toNat:Int)=(nb.toNat:Int))=False:=by
   refine eq_false fun q=>CL.out ?_
   exact UInt8.toNat_inj.1 (by omega)
  have yyf:(jH X)[k]? = some (.int .u8 (tD.toNat:Nat)):=by rw[←HC0.out];simp[jH,HK.out.1]
  generalize (w3.setCell ⟨G,k,none⟩ (.int .u8 (nb.toNat:Nat))).drew=w4 at YY uN oz hS4 fU Qy ⊢;have HLD:=z7 (nY (HE.out.below oz.L8) oz.eng fU hbd);obtain⟨l0,l1,l2,l3,l4,l5,l6,l7⟩:=oz.loc;have HG4:=z7 oz;have Yq:=z7 hS4;have HCN:=z7 Qy;have wP:=z7 yyf;clear Xk jx xi yyj yyg YY uN oz hS4 fU Qy hbd DV hxr hu8 ylb VH yyf HPI HPB HG2 HS HCK;go_wp2_with fail;refine HLD.out.mono ?_;rintro e w5 ⟨rfl,ju⟩;have JH:=z7 (Ck (Yq.out.below ju) (HE.out.below (HG4.out.next ju).L8).cmp.RD);rw[HX.out] at JH;have HG5:=z7 (HG4.out.next ju);have yyd:=z7 ((ju.cell (zy _ _ HCN.out)).trans HCN.out);clear ju HLD HG4 HCN l0 l1 l2 l3 l4 l5 l6 l7;go_wp2_with fail;refine JH.out.mono ?_;rintro e w6 ⟨v2,rfl,Xu,bL⟩;obtain⟨G2,uG,rfl,-,-,xi⟩:=xl Xu (by have:=HK.out;omega);have d1:w6.cell? ⟨G2,k,none⟩=some (.int .u8 (tD.toNat:Nat)):=(xi k (by have:=HK.out;omega)).trans wP.out;have d2:=bL.cell yyd.out id;have HB:=z7 (HG5.out.L8.trans ((bL.low (fun _ q=>q.elim) (zv _)).mono HG5.out.L8.size));rw[HL.out];clear Xu bL xi JH yyd;go_wp2_with fail;refine rt (fun W':World=>W'.cell? ⟨G2,k,none⟩=some (.int .u8 (tD.toNat:Nat))/\W'.cell? ⟨G,k,none⟩=some (.int .u8 (nb.toNat:Nat))) [0,1,2,3,4,5,6,7,8,9,10,11,12,13,14,15,16,17] 0 ⟨d1,d2⟩ ?_;(iterate 18 ((first|refine ty ?_|refine tn ?_);try simp only[pl]))
  refine xq ?_;refine bX ?_ _;clear d1 d2;go_wp2;go_ret;have q0:¬((tD.toNat:Int)=(nb.toNat:Int)):=fun q=>by rw[oZ] at q;exact q
  have q1:¬tD.toNat=nb.toNat:=fun q=>q0 (by rw[q])
  have q2:¬tD=nb:=fun q=>q1 (by rw[q])
  exact⟨by first|rfl|simp[q0,q1,q2],HB.out.drew⟩
end Go.Proofs.YthpldolmpinnhaaGreatDoor
