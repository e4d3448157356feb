import Derived.Test.YthpldolmpinnhaaGreatDoorJF19
import Derived.Laws.IdiomStrings
import Derived.OwnWalk
import Derived.Deep.RegionHeld
import Derived.Deep.DeepAppendRoom
import Derived.Deep.LoopGhost
set_option maxHeartbeats 64000000
open Go.Lib renaming hid→z7,compareInt→zV
open Go.World renaming block_lt_of_cell?→z8,frozen?_of_block→zu,frozen?_setCell→zf,cell?_alloc_lt→zZ,ownsRow_nil→zE
open Nat renaming le_refl→zy,le_trans→zX,add_sub_cancel→zQ,zero_le→zG
open Bool renaming and_eq_true→zx
open Go.RowKit.Below renaming refl→zv,heap_alloc→zL
open List renaming length_append→zk,length_nil→zg,take_succ_eq_append_getElem→zJ,append_assoc→zH,map_toArray→zM,length_cons→zN,replicate→zP
open Go.Value renaming slice→zj
open Classical renaming byContradiction→zY
open Option.some renaming inj→zU
open ByteArray renaming mk→zF
open Go.Result renaming andThen_ok→zD
open Go.Instr renaming typeAssert→zI,makeFunc→zO
open Go.Proofs.Tryz
namespace Go.Proofs.YthpldolmpinnhaaGreatDoor
open Go Go.RowKit
set_option maxRecDepth 10000
theorem vy:Zq prog 48 5 (.int .u8 0) 1 1 :=
 ⟨underlying48,info_parts (by kernel_rfl),rfl,by decide,by decide⟩
def xw(l:List UInt8):List Value:=l.map fun c => .int .u8 ((c.toNat:Int) - 48)
def Oy(l:List UInt8)(w:World)(e:Ending)(w':World):Prop :=
 (if l.all xJ then ∃ v,e = .returned (.tuple #[v,.bool true])/\w'.ownsRow w.heap.size 5 1 v l.length (xw l) else e = .returned (.tuple #[.slice none 0 0,.bool false]))/\Below w.heap.size w w'
theorem T8(c:UInt8)(h:xJ c=true):IntKind.u8.wrap ((c.toNat:Int) - 48)=(c.toNat:Int) - 48/\(c.toNat:Int) - 48<=9:=by
 have:=(vR _).1 h;refine⟨?_,by omega⟩;simp only[IntKind.wrap,IntKind.signed,IntKind.bits];simp;omega
theorem aN(c:UInt8)(h:xJ c=false):9<((c.toNat:Int) - 48) % 256:=by
 have:=(Hb _).1 h;have:=c.toNat_lt;omega
theorem Ox(s:ByteArray)(w:World)(hs:s.size<=1000000) :
  Calls prog 67 #[.string s] w (Oy s.data.toList w):=by
 have hcv:=fun w s=>run_bytes_of_string (P:=prog) w 9 48 5 s underlying9 underlying48 underlying5
 obtain⟨i,hi,hz,h2,h3⟩:=vy.info;go_enter func67,ntmps67;go_wp2_with (refine wpList_make_own _ rfl _ _ _ rfl w.heap.size _ i _ 1 vy.under hi hz h2 .i64 .i64 _ s.size rfl rfl ?c1 ?c2 ?c3 ?c4 ?_)
 case c1=>first|rfl|simp
 case c2=>rw[h3];omega
 case c3=>unfold maxLen;omega
 case c4=>simp
 intro w1 fQ Ze;go_wp2;refine Gz ?_;intro wc hwc;have qP:wc.heap.size=w1.heap.size+1:=by rw[hwc];simp
 have xB:Below w.heap.size w w1:=(zv _ _).grown Ze (zy _) (by simp);have jz:Below w.heap.size w wc:=by rw[hwc];exact(Below.drew xB).alloc xB.size _
 have xi:∀ j (hj:j<s.size),wc.cell? ⟨w1.heap.size,j,none⟩=some (.int .u8 (s[j].toNat:Int)):=by
  intro j hj;rw[hwc];have:=bytesRow_at s (grownCap w1 s.size 0 5) j hj;show(w1.alloc _).cell? _=_;rw[xu];exact this
 have zn4:wc.ownsRow w.heap.size 5 1 (zj (some ⟨w.heap.size,0,none⟩) 0 s.size) 0 []:=by rw[hwc];exact(World.ownsRow.drew fQ).alloc _
 have Sg:=xB.size;have pH:=(fQ.lt w.heap.size rfl).2;clear hwc fQ Ze;go_loopw [4,14] (fun v i wr=>∃ k:Nat,k<=s.size/\i = .int .i64 k/\v = .slice (some ⟨w.heap.size,0,none⟩) k s.size/\wr.ownsRow w.heap.size 5 1 v k (xw (s.data.toList.take k))/\Below w.heap.size w wr/\(s.data.toList.take k).all xJ=true/\(w1.heap.size<wr.heap.size)/\∀ j (hj:j<s.size),wr.cell? ⟨w1.heap.size,j,none⟩=some (.int .u8 (s[j].toNat:Int))) (fun _ i _=>s.size - (intOf i).toNat)
 case atStart=>exact⟨0,by omega,rfl,rfl,by simpa[xw] using zn4,jz,by simp,by omega,xi⟩
 case round =>
  obtain⟨k,hk,rfl,hv,xV,hb,hH,Vn,xi⟩:=hrel;have HH:=z7 hH;have HV:=z7 hv;clear hH hv;by_cases xD:k<s.size
  ·have hc:=xi k xD;by_cases hd:xJ s[k]=true
   ·obtain⟨hy,hy9⟩:=T8 _ hd;have HD:=z7 hd;clear hd;have Kn:wr.ownsRow w.heap.size 5 1 (.slice (some ⟨w.heap.size,0,none⟩) k s.size) k (xw (s.data.toList.take k)):=by rw[←HV.out];exact xV
    go_wp2_with (at_builtin;refine wpList_append_own_spare _ rfl _ _ _ rfl w.heap.size _ i 1 vy.under hi h2 w.heap.size k s.size (xw (s.data.toList.take k)) HV.out (Kn.alloc _) ⟨wr.heap.size,0,none⟩ 1 1 [.int .u8 ((s[k].toNat:Int) - 48)] rfl rfl ?c1 ?c2 ?c3 ?_)
    case c1=>exact cells_one (by simp)
    case c2=>intro u hu;simp at hu;subst hu;rfl
    case c3=>omega
    intro w2 AK uW;have DU:=uW.size;have pD:=A2 HH.out HD.out;rw[←B6 s k xD] at pD;have HT:=z7 pD;clear pD;go_wp2;go_roundw
    case rel =>
     refine⟨k+1,by omega,by go_num,rfl,?_,((hb.alloc hb.size _).grown uW (by have:=hb.size;simp;omega) (fun q hq=>by cases hq;exact zy _)),HT.out,?_,?_⟩
     ·rw[B6 s k xD];simpa[xw] using AK
     ·simp at DU;omega
     ·intro j hj;refine uW.cell ?_ (by simp;omega);rw[zZ _ _ _ Vn];exact xi j hj
    case measure=>simp[intOf];omega
   ·have ni:xJ s[k]=false:=by simpa using hd
    have hn:=aN _ ni;have vA:s.data.toList.all xJ=false:=Cg s k xD ni;have HF:=z7 vA;clear vA hd ni;go_wp2;go_ret2
    refine⟨by rw[HF.out];rfl,hb⟩
  ·have QA:k=s.size:=by omega
   subst QA;have HA:=HH.out;rw[G9] at HA;rw[G9] at xV;have HF:=z7 HA;clear HA HH;go_wp2;go_ret2
   refine⟨?_,hb⟩;rw[if_pos HF.out,xA];exact⟨_,rfl,xV⟩
theorem It(d:Int)(w:World):Calls prog 103 #[.int .u8 d] w fun e w'=>e = .returned (.bool (d !=0))/\w=w':=by
 go_enter func103,ntmps103;go_wp2;go_ret;exact⟨rfl,rfl⟩
theorem zqq{l:List Int}{k:Nat}(h:k<l.length)(hn:(l[k] !=0)=true):l.any (· != 0)=true:=List.any_eq_true.2 ⟨l[k],List.getElem_mem h,hn⟩
theorem aO{l:List Int}{k:Nat}(h:k<l.length)(hz:(l.take k).any (· != 0)=false)(hn:(l[k] !=0)=false):(l.take (k+1)).any (· != 0)=false:=by
 rw[zJ h,List.any_append,hz];simpa using hn
def xK(w:World)(a:Option Addr)(l:List Int):Prop:=∀ j (h:j<l.length),∃ b,a=some b/\w.cell? (b.add j)=some (.int .u8 l[j])
theorem xK.alloc{w:World}{a:Option Addr}{l:List Int}(h:xK w a l)(o:Obj):xK (w.alloc o) a l:=fun j hj=>by
 obtain⟨b,hb,hc⟩:=h j hj;refine⟨b,hb,?_⟩;rw[World.cell?_alloc_some _ _ _ (by rw[hc];rfl)];exact hc
theorem Ih(l:List Int)(a:Option Addr)(c:Nat)(w:World)(hl:l.length<=1000000)(hc:xK w a l) :
  Calls prog 152 #[.slice a l.length c,.func (.func 103) #[] #[]] w fun e w'=>(∃ n:Int,e = .returned (.int .i64 n)/\decide (0<=n)=l.any (· != 0))/\w=w':=by
 go_enter func152,ntmps152;go_wp2;go_loop [8] (fun i=>∃ k:Nat,k<=l.length/\i = .int .i64 k/\(l.take k).any (· != 0)=false) (fun i=>l.length - (intOf i).toNat)
 case atStart=>exact⟨0,by omega,rfl,by simp⟩
 case round =>
  obtain⟨k,hk,rfl,hz⟩:=hrel;have HZ:=z7 hz;clear hz;by_cases xD:k<l.length
  ·obtain⟨b,rfl,xi⟩:=hc k xD;go_wp2_with fail;refine(It _ _).mono ?_;rintro e w' ⟨rfl,rfl⟩;by_cases hn:(l[k] !=0)=true
   ·have HF:=z7 (zqq xD hn);go_wp2;go_ret;exact⟨⟨_,rfl,by rw[HF.out];simp⟩,rfl⟩
   ·have CN:(l[k] !=0)=false:=by simpa using hn
    have HF:=z7 (aO xD HZ.out CN);clear hn;go_wp2;go_round
    case rel=>exact⟨k+1,by omega,by go_num,HF.out⟩
    case measure=>simp[intOf];omega
  ·have QA:k=l.length:=by omega
   subst QA;have hz:=HZ.out;rw[List.take_length] at hz;have HF:=z7 hz;clear hz HZ;go_wp2;go_ret;exact⟨⟨_,rfl,by rw[HF.out];rfl⟩,rfl⟩
theorem XN(l:List Int)(a:Option Addr)(c:Nat)(w:World)(hl:l.length<=1000000)(hc:xK w a l) :
  Calls prog 102 #[.slice a l.length c,.func (.func 103) #[] #[]] w fun e w'=>e = .returned (.bool (l.any (· != 0)))/\w=w':=by
 go_enter func102,ntmps102;go_wp2_with fail;refine(Ih l a c w hl hc).mono ?_;rintro e w' ⟨⟨n,rfl,hn⟩,rfl⟩;go_wp2;go_ret;exact⟨rfl,rfl⟩
theorem aP(l:List Int)(a:Option Addr)(c:Nat)(b:Bool)(sc:Int)(w:World)(hl:l.length<=1000000)(hc:xK w a l) :
  Calls prog 68 #[.agg #[.bool b,.slice a l.length c,.int .i64 sc]] w fun e w'=>e = .returned (.bool (!l.any (· != 0)))/\Below w.heap.size w w':=by
 go_enter func68,ntmps68;go_wp2_with fail;refine(XN l a c _ hl (hc.alloc _)).mono ?_;rintro e w' ⟨rfl,rfl⟩;go_wp2;go_ret;exact⟨rfl,(zv _ _).alloc (zy _) _⟩
theorem T9(s:ByteArray):s.toList=s.data.toList:=by
 exact Go.ByteArray.toList_eq s
theorem add_add(a:Addr)(i j:Nat):(a.add i).add j=a.add (i+j):=by
 unfold Addr.add;by_cases hi:i=0
 ·subst hi;simp
 ·by_cases hj:j=0
  ·subst hj;simp
  ·simp[hi,hj,Nat.add_assoc]
def cmpL(a b:List UInt8):Int:=if a.length<b.length\/(a.length=b.length/\Op.bytesLess a b=true) then -1 else if a=b then 0 else 1
def XO(l:List UInt8)(m:Nat):Nat:=l.foldl (fun r c=>(10*r+(c.toNat - 48)) % m) 0
theorem Gp(l:List UInt8)(c:UInt8)(m:Nat):XO (l++[c]) m=(10*XO l m+(c.toNat - 48)) % m:=by simp[XO]
theorem aR(l:List UInt8)(m:Nat)(hm:0<m):XO l m<m:=by
 by_cases h:l=[]
 ·subst h;exact hm
 ·obtain⟨t,c,rfl⟩:∃ t c,l=t++[c]:=⟨l.dropLast,l.getLast h,by rw[List.dropLast_concat_getLast]⟩;rw[Gp];exact Nat.mod_lt _ hm
def stripL:List UInt8->List UInt8
 | c::d::t=>if c=48 then stripL (d::t) else c::d::t
 | l=>l
def jB(l:List UInt8):List UInt8:=if l=[] then [48] else stripL l
theorem Ov{c:UInt8}{l:List UInt8}(h:l≠[])(hc:c=48):stripL (c::l)=stripL l:=by
 cases l with
 | nil=>exact absurd rfl h
 | cons d t=>rw[stripL,if_pos hc]
theorem Ou{c:UInt8}{l:List UInt8}(hc:¬c=48):stripL (c::l)=c::l:=by
 cases l with
 | nil=>rfl
 | cons d t=>rw[stripL,if_neg hc]
def uF(l:List UInt8):List UInt8:=(l.reverse.dropWhile (· == 48)).reverse
theorem short_zero(l:List UInt8):uF (l++[48])=uF l:=by simp[uF]
theorem Oq(l:List UInt8)(c:UInt8)(h:¬c=48):uF (l++[c])=l++[c]:=by
 have:(c==48)=false:=by simpa using h
 simp[uF,this]
end Go.Proofs.YthpldolmpinnhaaGreatDoor
namespace Go.Proofs.YthpldolmpinnhaaGreatDoor
open Go
abbrev Dg:=List UInt8×List UInt8
def brk(f:Wd):Bool:=f.any (· != 48)
def Iw(w:Wd):Bool:=w==[109,111,100] || w==[37]
abbrev qR:=Dg->Bool
def Y0(w:Wd)(ws:List Wd):Bool:=ws.head? == some w
def kL:List Wd->Option (Nat×List Wd)
 | []=>none
 | w::t=>if Gn w=true then some (Dm w,t) else none
def KX(x:Dg)(v:Nat):Int :=
 if cmpL x.1 (xI v)<0 then -1 else if 0<cmpL x.1 (xI v)\/brk x.2=true then 1 else 0
def gZ(a b:Nat)(broken:Bool):qR:=fun x=>decide (0<=KX x a) && (decide (KX x b<=0) && (broken || !(brk x.2)))
def Vt(ws:List Wd):Option ((Nat×Nat)×List Wd) :=
 match kL ws with
 | none=>none
 | some (a,t) =>
  if Y0 [46,46] t then
   match kL t.tail with
   | none=>none
   | some (b,u)=>if b<a then none else some ((a,b),u)
  else some ((a,a),t)
def qb(within:Bool):Nat->List qR->List Wd->Option (List qR×List Wd)
 | 0,_,_=>none
 | n+1,acc,ws=>match Vt ws with
  | none=>none
  | some (q,t)=>if Y0 [44] t then qb within n (acc++[gZ q.1 q.2 within]) t.tail else some (acc++[gZ q.1 q.2 within],t)
def bn(l:List qR):qR:=fun x=>l.any (fun t=>t x)
def allT(l:List qR):qR:=fun x=>l.all (fun t=>t x)
abbrev Parser:=List Wd->Option (qR×List Wd)
def jG(within:Bool):Parser:=fun ws=>(qb within (ws.length+1) [] ws).map fun q=>(bn q.1,q.2)
def vr(ws:List Wd):Option ((qR×Bool)×List Wd) :=
 if Y0 [61] ws then (jG false ws.tail).map fun q=>((q.1,false),q.2)
 else if Y0 [33,61] ws then (jG false ws.tail).map fun q=>((q.1,true),q.2)
 else if Y0 [105,115] ws then
  (kL (if Y0 [110,111,116] ws.tail then ws.tail.tail else ws.tail)).map fun q=>((gZ q.1 q.1 false,Y0 [110,111,116] ws.tail),q.2)
 else
  let nt:=Y0 [110,111,116] ws
  let u:=if nt then ws.tail else ws
  if Y0 [119,105,116,104,105,110] u then (jG true u.tail).map fun q=>((q.1,nt),q.2)
  else if Y0 [105,110] u then (jG false u.tail).map fun q=>((q.1,nt),q.2)
  else none
def uV(c:Wd):Option (Dg->Dg) :=
 if c=[110] then some (fun x=>x) else if c=[105] then some (fun x=>(jB x.1,[])) else if c=[118] then some (fun x=>(xI x.2.length,[]))
 else if c=[119] then some (fun x=>(xI (uF x.2).length,[])) else if c=[102] then some (fun x=>(jB x.2,[]))
 else if c=[116] then some (fun x=>(jB (uF x.2),[])) else none
def Dn(of:Dg->Dg)(m:Nat):Dg->Dg:=fun x=>(xI (XO (of x).1 m),(of x).2)
def Y1(of:Dg->Dg)(t:List Wd):Option ((Dg->Dg)×List Wd) :=
 if Iw (t.headD []) then
  match kL t.tail with
  | none=>none
  | some (m,u)=>if m=0 then none else some (Dn of m,u)
 else some (of,t)
def js:Parser
 | []=>none
 | w::t=>match uV w with
  | none=>none
  | some of=>match Y1 of t with
   | none=>none
   | some (of',u)=>match vr u with
    | none=>none
    | some ((i,nt),v)=>some ((fun x=>i (of' x) !=nt),v)
def fJ(word:Wd)(one:Parser):Nat->List qR->List Wd->Option (List qR×List Wd)
 | 0,_,_=>none
 | n+1,acc,ws=>match one ws with
  | none=>none
  | some (T,t)=>if Y0 word t then fJ word one n (acc++[T]) t.tail else some (acc++[T],t)
def E8(word:Wd)(tog:List qR->qR)(one:Parser):Parser:=fun ws=>(fJ word one (ws.length+1) [] ws).map fun q=>(tog q.1,q.2)
def L0:Parser:=E8 [97,110,100] allT js
def pOr:Parser:=E8 [111,114] bn L0
def xC(c:UInt8):Nat:=if 97<=c.toNat/\c.toNat<=122 then 3 else if 48<=c.toNat/\c.toNat<=57 then 2 else if c.toNat=32 then 1 else 0
def Gr:List UInt8->Option Wd
 | 33::61::_=>some [33,61]
 | 46::46::_=>some [46,46]
 | 61::_=>some [61]
 | 44::_=>some [44]
 | 37::_=>some [37]
 | _=>none
def jP:Nat->List (Wd)->List UInt8->Option (List Wd)
 | _,acc,[]=>some acc
 | 0,_,_::_=>none
 | n+1,acc,c::t=>match Gr (c::t) with
  | some g=>jP n (acc++[g]) ((c::t).drop g.length)
  | none =>
   if xC c=0 then none
   else jP n (if xC c=1 then acc else acc++[c::t.takeWhile (fun d=>xC d==xC c)]) (t.dropWhile (fun d=>xC d==xC c))
def Ok(s:List UInt8):Option (List Wd):=jP (s.length+1) [] (s.take (s.idxOf 64))
def BG(s:List UInt8):Option qR :=
 if 200<s.length then none else match Ok s with
 | none=>none
 | some ws=>match pOr ws with
  | some (T,[])=>some T
  | _=>none
end Go.Proofs.YthpldolmpinnhaaGreatDoor
namespace Go.Proofs.YthpldolmpinnhaaGreatDoor
open Go Go.RowKit
set_option maxRecDepth 10000
def VL(l:List UInt8):List UInt8:=if l.head? = some 45 then l.tail else l
def YH(l:List UInt8):Bool:=l.head? == some 45
def vL(l:List UInt8):List UInt8:=(VL l).take ((VL l).idxOf 46)
def u9(l:List UInt8):List UInt8:=(VL l).drop ((VL l).idxOf 46+1)
def YI(l:List UInt8):Bool:=decide ((VL l).idxOf 46<(VL l).length)
def Qj(l:List UInt8):Bool:=vW (vL l) && (!(YI l) || vW (u9 l)) && decide ((vL l).length+(u9 l).length<=30)
def uD(l:List UInt8):Bool :=
 Qj l && !(decide (1<(vL l).length) && ((vL l).headD 0==48)) && !(YH l && (vL l++u9 l).all (· == 48))
theorem zqk{l wh fr:List UInt8}{pt:Bool}(hW:vL l=wh)(hF:u9 l=fr)(hP:YI l=pt)(h:¬(vW wh=true/\(pt=true->vW fr=true)/\wh.length+fr.length<=30)):uD l=false:=by
 have hf:Qj l=false:=by
  rw[←Bool.not_eq_true];intro hf;unfold Qj at hf;rw[hW,hF,hP] at hf;simp only[zx,Bool.or_eq_true,Bool.not_eq_true',decide_eq_true_eq] at hf;refine h ⟨hf.1.1,fun hp=>?_,hf.2⟩;rcases hf.1.2 with h1|h1
  ·rw[h1] at hp;cases hp
  ·exact h1
 simp[uD,hf]
theorem Gs{l wh fr:List UInt8}{b:Bool}(hW:vL l=wh)(hF:u9 l=fr)(hB:YH l=b)(Uw:Qj l=true) :
  uD l=(!(decide (1<wh.length) && (wh.headD 0==48)) && !(b && (wh++fr).all (· == 48))):=by
 simp[uD,Uw,hW,hF,hB]
theorem zqj(wh:List UInt8)(h:0<(zF wh.toArray).size):(wh.headD 0==48)=(((zF wh.toArray)[0].toNat:Int)==48):=by
 have h1:=Am ⟨wh.toArray⟩ h;rw[toList_mk] at h1;have h2:=bY (zF wh.toArray)[0] 48;have h3:((48:UInt8).toNat:Int)=48:=rfl;rw[h3] at h2;rw[h1,h2];exact Bool.beq_eq_decide_eq _ _
theorem pI{l wh fr:List UInt8}{pt:Bool}(hW:vL l=wh)(hF:u9 l=fr)(hP:YI l=pt)(h1:vW wh=true)(h2:pt=true->vW fr=true)(h3:¬((30:Int)<(wh.length:Int)+(fr.length:Int))):Qj l=true:=by
 unfold Qj;rw[hW,hF,hP,h1];have h4:wh.length+fr.length<=30:=by omega
 cases pt
 ·simp[h4]
 ·simp[h4,h2 rfl]
abbrev vq:=Bool×Dg
def fG(t:Wd)(num:Bool):Bool:=if num then uD t else decide (t.length<=60)
def numOf(t:Wd):vq:=(YH t,(vL t,u9 t))
def fk(k:Nat)(l:Wd):Wd:=zP (k - l.length) 48++l
def Dp(r k:Nat):Dg:=((fk (k+1) (xI r)).take ((fk (k+1) (xI r)).length - k),(fk (k+1) (xI r)).drop ((fk (k+1) (xI r)).length - k))
def Vh(n:vq)(v:Nat):vq :=
 if n.1 then (decide (xE (n.2.1++n.2.2)+v*10 ^ n.2.2.length≠0),Dp (xE (n.2.1++n.2.2)+v*10 ^ n.2.2.length) n.2.2.length)
 else if xE (n.2.1++n.2.2)<v*10 ^ n.2.2.length then (true,Dp (v*10 ^ n.2.2.length - xE (n.2.1++n.2.2)) n.2.2.length)
 else (false,Dp (xE (n.2.1++n.2.2) - v*10 ^ n.2.2.length) n.2.2.length)
def dU(n:vq)(v:Nat):Bool := !n.1 && decide (KX n.2 v=0)
inductive zqg where
 | no
 | zqf
 | val (t:Wd) (num:Bool)
structure qL(τ:Type) where
 wr:vq->Wd
 sort:Bool->Dg->Nat
 get:Wd->τ->zqg×τ
inductive Tz (σ:Type) where
 | go (k:Nat) (s:σ)
 | fin (s:σ)
 | err (n:Nat) (s:σ)
 | bad
def Qg{σ:Type}(F:Nat->σ->Tz σ):Nat->Nat->σ->Option (Except (Nat×σ) σ)
 | 0,_,_=>none
 | f+1,k,s=>match F k s with | .go k' s'=>Qg F f k' s' | .fin s'=>some (.ok s') | .err n s'=>some (.error (n,s')) | .bad=>none
structure bo(τ:Type) where
 out:Wd
 stk:List (vq×vq)
 gs:τ
section
variable {τ:Type} (E:qL τ)
def YL(n:Wd)(g:τ):Except (Nat×τ) ((Wd×Bool)×τ) :=
 match E.get n g with
 |(.no,g') => .error (12,g')
 |(.zqf,g') => .error (15,g')
 |(.val t num,g')=>if fG t num then .ok ((t,num),g') else .error (11,g')
def YM(n:Wd)(g:τ):Except (Nat×τ) (vq×τ) :=
 match YL E n g with
 | .error e => .error e
 | .ok ((t,num),g')=>if num then .ok (numOf t,g') else .error (13,g')
def L5(n:Wd)(g:τ):Except (Nat×τ) (Wd×τ) :=
 match YL E n g with
 | .error e => .error e
 | .ok ((t,num),g')=>if num then .error (13,g') else .ok (t,g')
def Ty(t:Wd)(num:Bool):Wd:=if num then E.wr (numOf t) else t
def Y2(s:MkS)(x:j8):Option Wd:=x.k[0]?.bind fun j=>s.cs[j]?
def Mt(s:MkS)(t:Option Nat)(r:bo τ):Tz (bo τ) :=
 match t with
 | none => .bad
 | some p=>match dV s.code s.code.length p with|some k => .go k r|none => .fin r
def VM(s:MkS)(x:j8)(t:Wd):Nat:=(x.k.tail.map fun j=>s.cs[j]?).idxOf (some t)
def ui(s:MkS)(x:j8)(k:Nat)(r:bo τ):Tz (bo τ) :=
 match x.op with
 | 0 => .fin r
 | 1=>match Y2 s x with|none => .bad|some t => .go (k+1) { r with out:=r.out++t }
 | 2=>match Y2 s x with
  | none => .bad
  | some n=>match YL E n r.gs with | .error (e,g) => .err e { r with gs:=g } | .ok ((t,num),g) => .go (k+1) { r with out:=r.out++Ty E t num,gs:=g }
 | 3=>match Y2 s x with
  | none => .bad
  | some n=>match YM E n r.gs with | .error (e,g) => .err e { r with gs:=g } | .ok (v,g) => .go (k+1) { r with out:=r.out++E.wr v,gs:=g }
 | 4=>match Y2 s x with
  | none => .bad
  | some n=>match YM E n r.gs with | .error (e,g) => .err e { r with gs:=g } | .ok (v,g) => .go (k+1) { r with stk:=r.stk++[(v,Vh v x.v)],gs:=g }
 | 5=>match r.stk.getLast? with|none => .bad|some _ => .go (k+1) { r with stk:=r.stk.dropLast }
 | 6=>match r.stk.getLast? with|none => .bad|some t => .go (k+1) { r with out:=r.out++E.wr t.2 }
 | 7=>match r.stk.getLast? with|none => .bad|some t=>if dU t.1 x.v then Mt s x.tg[0]? r else .go (k+1) r
 | 8=>match r.stk.getLast? with|none => .bad|some t=>Mt s x.tg[E.sort false t.2.2]? r
 | 9=>match r.stk.getLast? with|none => .bad|some t=>Mt s x.tg[E.sort true t.2.2]? r
 | 10=>match Y2 s x with
  | none => .bad
  | some n=>match L5 E n r.gs with
   | .error (e,g) => .err e { r with gs:=g }
   | .ok (t,g)=>if x.k.tail.all (fun j=>decide (j<s.cs.length)) then Mt s x.tg[VM s x t]? { r with gs:=g } else .bad
 | 11=>Mt s x.tg[0]? r
 | _ => .bad
def jR(s:MkS)(k:Nat)(r:bo τ):Tz (bo τ):=match s.code[k]? with|none => .bad|some x=>ui E s x k r
def YN(ks:List Wd)(t:Wd):Wd:=if t∈ks then t else qz
def E9(f:Nat)(ks:List Wd)(v z:vq):Wd :=
 match ks.find? fun k=>decide (k.head? = some 61) && dU v (xE k.tail) with
 | some k=>k
 | none=>if Kq.getD (E.sort (decide (f=2)) z.2) []∈ks then Kq.getD (E.sort (decide (f=2)) z.2) [] else qz
def jS:Fo->Wd->vq->Wd->τ->Except (Nat×τ) (Wd×τ)
 | .nil,_,_,o,g => .ok (o,g)
 | .text t r,k,x,o,g=>jS r k x (o++t) g
 | .hash r,k,x,o,g=>jS r k x (o++E.wr x) g
 | .put n _ r,k,x,o,g=>match YL E n g with | .error e => .error e | .ok ((t,num),g')=>jS r k x (o++Ty E t num) g'
 | .num n _ r,k,x,o,g=>match YM E n g with | .error e => .error e | .ok (v,g')=>jS r k x (o++E.wr v) g'
 | .br n _ f off _ bs r,k,x,o,g =>
  if f=0 then
   match L5 E n g with
   | .error e => .error e
   | .ok (t,g')=>match jS bs (YN bs.keys t) x o g' with | .error e => .error e | .ok (o',g'')=>jS r k x o' g''
  else
   match YM E n g with
   | .error e => .error e
   | .ok (v,g')=>match jS bs (E9 E f bs.keys v (Vh v (xE off))) (Vh v (xE off)) o g' with | .error e => .error e | .ok (o',g'')=>jS r k x o' g''
 | .uf k' _ m r,k,x,o,g=>if k'=k then jS m [] x o g else jS r k x o g
end
abbrev qW(n:Nat):Value := .iface 33 (.int .i64 (n:Nat))
theorem Ez(n:Nat)(w:World):(zI (qW n) 20 33 true).run prog w = .ok (.tuple #[.int .i64 n,.bool true]) w:=by rfl
theorem L6(w:World):(zI .nilIface 20 33 true).run prog w = .ok (.tuple #[.int .i64 0,.bool false]) w:=by rfl
theorem aS(A B:Nat)(w:World):CallsD prog 86 #[.pointer (some ⟨A,0,none⟩),.pointer (some ⟨B,0,none⟩)] .returning w fun e u' w'=>e = .returned (.tuple #[])/\u' = .returning/\w'=w:=by
 refine callsD_of_wpS func86 rfl fun c₀ cs hu=>?_
 have ha:=L6;apply wpS_seq;apply wpS_region;simp[wpOpsS,go_sem,recoverD,hu,ha,ntmps86,Exit.thenS];refine wpS_of_wp ?_;go_wp2
 cases c₀;simp_all [bodyPostS,results,results86]
theorem Tx(A B n:Nat)(u v:Value)(uE:List PanicEntry)(w:World)(hA:w.cell? ⟨A,0,none⟩=some u)(hAz:w.frozen? ⟨A,0,none⟩=false)(hB:w.cell? ⟨B,0,none⟩=some v)(hBz:w.frozen? ⟨B,0,none⟩=false)(hAB:B≠A) :
  CallsD prog 86 #[.pointer (some ⟨A,0,none⟩),.pointer (some ⟨B,0,none⟩)] (.panicking ({ v:=qW n,recovered:=false }::uE)) w fun e u' w' =>
   e = .returned (.tuple #[])/\u' = .panicking ({ v:=qW n,recovered:=true }::uE)/\w'=(w.setCell ⟨A,0,none⟩ (xk [])).setCell ⟨B,0,none⟩ (qW n):=by
 have ha:=Ez n;refine callsD_of_wpS func86 rfl fun c₀ cs hu=>?_
 apply wpS_seq;apply wpS_region;simp[wpOpsS,go_sem,recoverD,hu,ha,ntmps86,Exit.thenS];refine wpS_of_wp ?_;simp only[Array.replicate,zP,List.setIfInBounds_toArray,List.set_cons_zero,List.set_cons_succ,List.append_toArray,List.cons_append,List.nil_append,Act.put];have hB':(w.setCell ⟨A,0,none⟩ (xk [])).cell? ⟨B,0,none⟩=some v:=by rw[xg,if_neg (fun e=>hAB (congrArg Addr.block e).symm)];exact hB
 go_wp2;simp[bodyPostS,results,results86]
def Oj{σ:Type}(G:Nat->Prop)(I:Nat->σ->World->Prop)(J K:σ->World->Prop)(r:Tz σ)(w:World)(e:Ending)(w':World):Prop :=
 (match r with
  | .go k s=>e = .returned (.int .i64 (k:Nat))/\I k s w'
  | .fin s=>e = .returned (.int .i64 (-1))/\J s w'
  | .err n s=>(∃ uE:List PanicEntry,e = .panicked ({ v:=qW n,recovered:=false }::uE)/\uE.dropWhile (!·.goexit)=[])/\K s w'
  | .bad=>False)/\Fr G G w w'
def zn5{σ:Type}(G:Nat->Prop)(out:σ->Wd)(Z:σ->World->Prop)(r:Except (Nat×σ) σ)(w:World)(e:Ending)(w':World):Prop :=
 (match r with
  | .ok s=>e = .returned (.tuple #[xk (out s),.nilIface])/\Z s w'
  | .error (n,s)=>e = .returned (.tuple #[xk [],qW n])/\Z s w')/\Fr G G w w'
def Tv(w:World)(p l g:Value):World:=((w.alloc (.cells #[xk []] 9)).alloc (.cells #[.nilIface] 73)).alloc (.cells #[p,l,g,.pointer none,.slice none 0 0,.slice none 0 0] 199)
theorem Tu(w:World){A:Nat}(hA:w.heap.size=A):qp A (xk []) .nilIface ((w.alloc (.cells #[xk []] 9)).alloc (.cells #[.nilIface] 73)):=by
 have h1:(w.alloc (.cells #[xk []] 9)).heap.size=A+1:=by simp[hA]
 have xD:A<(w.alloc (.cells #[xk []] 9)).heap.size:=by omega
 refine⟨?_,?_,?_,?_⟩
 ·rw[zZ _ _ _ xD,←hA];exact xu _ _ _ _ _
 ·rw[←h1];exact xu _ _ _ _ _
 ·rw[zu (zL _ _ _ xD)];subst hA;simp
 ·rw[←h1];simp
theorem qp.fr{A:Nat}{u v:Value}{w w':World}{F F':Nat->Prop}(h:qp A u v w)(hf:Fr F F' w w')(ha:¬F A)(hb:¬F (A+1)):qp A u v w' :=
 h.keep fun k hk=>hf.keep k (by have:=h.lt;omega) (by rcases hk with rfl|rfl<;>assumption)
def zqd{σ:Type}(G:Nat->Prop)(I:Nat->Nat->σ->World->Prop)(J:σ->World->Prop)(F:Nat->σ->Tz σ)(r:Except (Nat×σ) σ)(A:Nat)(w:World)(m:Nat)(kv:Value)(wr:World):Prop :=
 ((∃ k s,kv = .int .i64 (k:Nat)/\I m k s wr/\Qg F m k s=some r)\/∃ s,kv = .int .i64 (-1)/\J s wr/\r = .ok s)/\qp A (xk []) .nilIface wr/\Fr G G w wr
theorem pL{σ:Type}(G:Nat->Prop)(I:Nat->Nat->σ->World->Prop)(J K Z:σ->World->Prop)(out:σ->Wd)(F:Nat->σ->Tz σ)(fuel:Nat)(s0:σ)(r:Except (Nat×σ) σ)(w:World)(pa la:Option Addr)(gf:Fn)(g1 g2:Array Value)
  (hGA:¬G w.heap.size) (hGB:¬G (w.heap.size+1)) (Rz:∀ k,w.heap.size+2<=k->G k) (h0:I fuel 0 s0 (Tv w (.pointer pa) (.pointer la) (.func gf g1 g2)))
  (zqb:∀ s W,J s W->∃ v x0 x1 x2 st,uh (w.heap.size+2) x0 x1 x2 st v (out s) W/\(∀ b,xZ v b->w.heap.size+2<=b)/\(out s).length<=1000000000/\∀ W',Fr (fun k=>k=w.heap.size\/k=w.heap.size+1\/xZ v k) (fun k=>k=w.heap.size\/k=w.heap.size+1\/xZ v k) W W'->Z s W')
  (hK:∀ s W W',K s W->Fr (fun k=>k=w.heap.size\/k=w.heap.size+1) (fun k=>k=w.heap.size\/k=w.heap.size+1) W W'->Z s W')
  (vH:∀ m k s W,I (m+1) k s W->F k s ≠ .bad->Calls prog 87 #[.pointer (some ⟨w.heap.size+2,0,none⟩),.int .i64 (k:Nat)] W (Oj G (I m) J K (F k s) W))
  (hr:Qg F fuel 0 s0=some r):Calls prog 53 #[.pointer pa,.pointer la,.func gf g1 g2] w (zn5 G out Z r w):=by
 have Sk:∀ (fn:Fn) (first cap:Array Value) (w:World),(zO fn first cap).run prog w = .ok (.func fn first cap) w:=fun _ _ _ _=>rfl
 obtain⟨A,hA⟩:=xX w.heap.size;rw[hA] at hGA hGB Rz zqb vH hK;have Zs:=Tu w hA;have yb8:=z7 zqb;have jX:=z7 vH;have HR:=z7 hr;have HKZ:=z7 hK;have HA:=z7 hA;have Nx:((w.alloc (.cells #[xk []] 9)).alloc (.cells #[.nilIface] 73)).heap.size=A+2:=by simp[hA]
 have NV:Fr G G w (Tv w (.pointer pa) (.pointer la) (.func gf g1 g2)):=(((Fr.refl _ _).alloc _).alloc _).alloc _;have aW:qp A (xk []) .nilIface (Tv w (.pointer pa) (.pointer la) (.func gf g1 g2)):=Zs.below ((zv _ _).alloc (zy _) _);obtain⟨W0,Hz⟩:=xX (Tv w (.pointer pa) (.pointer la) (.func gf g1 g2));rw[Hz] at NV aW h0;have HW0:=z7 Hz;have H0:=z7 h0;have HF0:=z7 NV;clear zqb vH hr hK hA Zs Hz h0 NV;go_enter_defers func53,ntmps53
 go_wp2_with fail;rw[HA.out];go_loopg [9] fuel (fun m kv wr=>zqd G I J F r A w m kv wr)
 case atStart =>
  have e:=HW0.out;subst e;exact⟨.inl ⟨0,s0,rfl,H0.out,HR.out⟩,aW,HF0.out⟩
 case round =>
  obtain⟨Ah,vV,Zu⟩:=hrel;have SC:=z7 vV;have JE:=z7 Zu;clear Nx aW Zu;rcases Ah with⟨k,s,rfl,hI,vF⟩|⟨s,rfl,hI,ZM⟩
  ·obtain⟨m,hm⟩:∃ m,gk=m+1:=by
    refine⟨gk - 1,?_⟩;have:gk≠0:=fun e=>by rw[e] at vF;cases vF
    omega
   rw[hm,Qg] at vF;have HM:=Lib.hid hm;have fg:=Lib.hid vF;have Cs:decide ((0:Int)<=(k:Int))=true:=by simp
   have HS:=z7 (jX.out m k s wr (by rw[←hm];exact hI) (fun e=>by rw[e] at vF;cases vF));clear hm vF vV hI;go_wp2_with fail;refine HS.out.mono ?_;rintro e w1 ⟨hq,hf⟩;have bp:=SC.out.fr hf hGA hGB;have VD:=z7 (JE.out.trans hf);have vF:=fg.out;obtain⟨o,ho⟩:=xX (F k s);rw[ho] at hq vF;clear ho hf HS fg JE SC
   cases o with
   | go k' s' =>
    obtain⟨rfl,nT⟩:=hq;have HI:=z7 nT;have aA:=z7 bp;have fg:=z7 (show Qg F m k' s'=some r from vF);clear nT bp vF;go_wp2;go_roundg m
    case measure=>have:=HM.out;omega
    case rel=>exact⟨.inl ⟨k',s',rfl,HI.out,fg.out⟩,aA.out,VD.out⟩
   | fin s' =>
    obtain⟨rfl,nT⟩:=hq;have HI:=z7 nT;have aA:=z7 bp;have fg:=z7 (show(some (.ok s'):Option (Except (Nat×σ) σ))=some r from vF);clear nT bp vF;go_wp2;go_roundg m
    case measure=>have:=HM.out;omega
    case rel=>exact⟨.inr ⟨s',rfl,HI.out,(zU fg.out).symm⟩,aA.out,VD.out⟩
   | bad=>exact hq.elim
   | err n s' =>
    obtain⟨⟨uE,rfl,hold⟩,QA⟩:=hq;have HK':=z7 QA;clear QA;have yb9:=z7 hold;have fg:=z7 (show(some (.error (n,s')):Option (Except (Nat×σ) σ))=some r from vF);clear hold vF;go_wp2;refine leaves_cons (f:=86) (args:=#[.pointer (some ⟨A,0,none⟩),.pointer (some ⟨A+1,0,none⟩)]) (by simp) (by simp[go_sem]) ?_;refine(Tx A (A+1) _ _ _ _ _ bp.c0 bp.z0 bp.c1 bp.z1 (by omega)).mono ?_;rintro e u' Vx ⟨rfl,rfl,rfl⟩;have ZG:=(bp.X3 (x:=xk [])).CR (x:=qW n);have Ux:=ZG.c0;have SB:=ZG.c1;simp[Leaves,settle,results,results53,go_sem,Ux,SB,yb9.out];have hr:=zU fg.out;rw[←hr];exact⟨⟨rfl,HKZ.out s' _ _ HK'.out (((Fr.refl _ _).set (a:=⟨A,0,none⟩) _ (.inl (.inl rfl))).set (a:=⟨A+1,0,none⟩) _ (.inl (.inr rfl)))⟩,(VD.out.set _ (.inr (by rw[HA.out];exact zy _))).set _ (.inr (by rw[HA.out];exact Nat.le_succ _))⟩
  ·obtain⟨v,x0,x1,x2,st,ho,hv,hl,hz⟩:=yb8.out s wr hI;have HZ:=z7 hz;have HG:=z7 (pC hv ho hl);have aa:=z7 ZM;clear hI ZM ho hv hl vV hz;go_wp2_with fail;refine HG.out.mono ?_;rintro e w1 ⟨rfl,hb,tN⟩;have HFV:=z7 tN;clear tN;have bp:=SC.out.keep (fun k hk=>hb.block k (by omega));have xD:=SC.out.lt;have uy:Fr G G w w1:=JE.out.trans ⟨hb.os,hb.tape,hb.output,hb.size,fun k hk hn=>hb.block k (Nat.lt_of_not_le fun q=>hn (Rz k q)),fun _ q => .inl q⟩;have VD:=z7 uy;obtain⟨t,ht⟩:=xX (out s);rw[ht];have HT:=z7 ht;have q0:=bp.c0;have q1:=bp.c1;have q2:=bp.z0;have q3:=bp.z1;have Xu:=bp.X3 (x:=xk t);have GO:=Xu.CR (x := .nilIface);have q4:=Xu.c1;have q5:=Xu.z1;clear uy hb ht HG;go_wp2;refine leaves_cons (f:=86) (args:=#[.pointer (some ⟨A,0,none⟩),.pointer (some ⟨A+1,0,none⟩)]) (by simp) (by simp[go_sem]) ?_;refine(aS A (A+1) _).mono ?_;rintro e u' Vx ⟨rfl,rfl,rfl⟩;have Ux:=GO.c0;have SB:=GO.c1;simp[Leaves,settle,results,results53,go_sem,Ux,SB];rw[aa.out];exact⟨⟨by rw[←HT.out],HZ.out _ (((HFV.out.wide (fun k hk => .inr (.inr hk))).set (a:=⟨A,0,none⟩) _ (.inl (.inl rfl))).set (a:=⟨A+1,0,none⟩) _ (.inl (.inr (.inl rfl))))⟩,(VD.out.set _ (.inr (by rw[HA.out];exact zy _))).set _ (.inr (by rw[HA.out];exact Nat.le_succ _))⟩
theorem qT.below{q mb:Nat}{s:MkS}{vC vI:Value}{rs:List (Value×Value)}{w w':World}(h:qT q s vC vI rs mb w)(hb:Below w.heap.size w w'):qT q s vC vI rs mb w':=by
 have hf:Fr xH xH w w':=Fr.of hb;exact⟨hf.cell h.q0 id,hf.cell h.q1 id,hf.cell h.q2 id,hf.own h.cC (fun _ _ q=>q),hf.own h.cI (fun _ _ q=>q),h.rows.fr hf (fun _ q=>q.elim),h.mp.keep (hb.block mb h.mp.lt)⟩
def qt(l:List (Nat×Nat)):List Value:=l.flatMap fun x=>[.int .i64 (x.1:Nat),.int .i64 (x.2:Nat)]
theorem Gt(l:List (Nat×Nat)):(qt l).length=l.length*2:=by
 induction l with
 | nil=>rfl
 | cons a t ih=>simp only[qt,List.flatMap_cons,zk,zN,zg] at ih ⊢;omega
theorem bh(a b:List (Nat×Nat)):qt (a++b)=qt a++qt b:=by simp[qt]
theorem kY:Zq prog 253 105 (.agg #[.int .i64 0,.int .i64 0]) 2 16 :=
 ⟨underlying253,info_parts (by kernel_rfl),rfl,by decide,by decide⟩
theorem XP:Sy 185 3:=⟨underlying185,underlying3,fun w=>by simp[go_sem]⟩
def Gh:Wd:=[111,116,104,101,114]
def Qp(cl:Nat):List Wd->List (Nat×Nat)->Fo->List (Nat×Nat)
 | seen,acc,.uf k a _ r=>Qp cl (k::seen) (if k∈seen then acc++[(7,a)] else acc) r
 | seen,acc,_=>if Gh∈seen then acc else acc++[(6,cl)]
def vh(base:Nat)(w:World)(v:Value)(l:List (Nat×Nat)):Prop:=w.ownsRow base 105 2 v l.length (qt l)
theorem VY{w:World}{b:Nat}{u v:Value}(h:w.cell? ⟨b,0,none⟩=some u)(h2:w.cell? ⟨b,1,none⟩=some v):∀ j x,[u,v][j]? = some x->w.cell? ((⟨b,0,none⟩:Addr).add j)=some x:=by
 intro j x hx;match j,hx with
 | 0,hx=>simp at hx;subst hx;exact h
 | 1,hx=>simp at hx;subst hx;rw[vS];exact h2
 | j+2,hx=>simp at hx
def Ry(f:Wd->Option Nat)(seen:List Wd):Prop:=∀ k,(0<(f k).getD 0 ↔ k∈seen)/\(f k).getD 0<=seen.length
theorem Ry.more{f:Wd->Option Nat}{seen:List Wd}(h:Ry f seen)(k:Wd):Ry (fun x=>if k=x then some ((f k).getD 0+1) else f x) (k::seen):=by
 intro x;have:=h x;have h2:=h k;by_cases hx:k=x
 ·subst hx;simp;omega
 ·simp only[hx,↓reduceIte,List.mem_cons,zN];have xc:¬x=k:=fun e=>hx e.symm
  refine⟨by rw[this.1];simp[xc],by omega⟩
theorem vh.Vw{base:Nat}{w w':World}{v:Value}{l:List (Nat×Nat)}(h:vh base w v l)(hb:Below w.heap.size w w'):vh base w' v l :=
 h.kept (row:=some w.heap.size) ⟨hb.os,hb.tape,hb.output,hb.size,fun i hi _=>hb.block i hi⟩ (by
  cases hv:v.ownBlock with
  | none=>exact .inl rfl
  | some g=>exact .inr (fun e=>by have:=(h.lt g hv).2;cases e;omega))
theorem vh.ae{base b:Nat}{w w':World}{v:Value}{l:List (Nat×Nat)}(h:vh base w v l)(hg:w.grownBy w' (some b))(hb:b<base):vh base w' v l :=
 h.kept hg (by
  cases hv:v.ownBlock with
  | none=>exact .inl rfl
  | some g=>exact .inr (fun e=>by have:=(h.lt g hv).1;cases e;omega))
theorem Qf{w0 w:World}{mb:Nat}{v:Value}{l:List (Nat×Nat)}(h:vh (mb+1) w v l)(hm:w0.heap.size=mb):vh w0.heap.size w v l:=by
 obtain⟨h1,h2⟩:=h;refine⟨h1,?_⟩;rcases h2 with h2|⟨g,cap,cur,hv,hg,rest⟩
 ·exact .inl h2
 ·exact .inr ⟨g,cap,cur,hv,by omega,rest⟩
theorem YO{lo hi:Nat}{w0:World}(b0:Nat)(n:Wd)(a fo:Nat)(of:Wd)(cl:Nat)(bs:Fo)(w:World)(hk:vQ lo hi w0 w)
  (XI:xY lo hi w0 [.iface 177 (.pointer (some ⟨b0,0,none⟩))] (.br n a fo of cl bs .nil)) (Jp:(Fo.br n a fo of cl bs .nil).wf 2000000=true) :
  Calls prog 116 #[.pointer (some ⟨b0,0,none⟩)] w fun e w'=>(∃ v,e = .returned v/\vh w.heap.size w' v (Qp cl [] [] bs))/\Below w.heap.size w w':=by
 have MA:=@run_makeMap prog;obtain⟨vt,b',ba,bc,ws,he,xB,xF,gh,qX,jJ,Cn,DZ,Mo,Kd,UP,_⟩:=XI
 cases he;have ZK:(decide (n.length<=4000001) && decide (fo<3) && bs.uv && decide (bs.len<=2000000) && bs.wf 2000000 && Fo.nil.wf 2000000)=true:=Jp;simp only[zx,decide_eq_true_eq] at ZK;obtain⟨⟨⟨⟨⟨oA,Uw⟩,N7⟩,IN⟩,qG⟩,_⟩:=ZK;have HK:=z7 hk;have Wn:=z7 UP;have Mp:=z7 Kd;have HBL:=z7 N7;have IP:=z7 qG;have HC5:=z7 Mo;have c4:=xS hk DZ xB xF;obtain⟨R,hR⟩:=xX (Qp cl [] [] bs);rw[hR];have HR:=z7 hR;have Zi:hi<=w.heap.size:=hk.1;obtain⟨mb,Hy⟩:=xX w.heap.size;have O7:=z7 Hy;clear hk UP Kd N7 qG gh qX jJ Cn DZ Mo Jp hR;have Ey:=kW.made 3 w;rw[Hy] at Ey;have hbd:Below w.heap.size w (w.alloc (.map #[] 0)):=(zv _ _).alloc (zy _) _;have c4':(w.alloc (.map #[] 0)).cell? ⟨b0,4,none⟩=some (.slice ba bs.len bc):=(zZ _ _ _ (show b0<w.heap.size by omega)).trans c4;have zk0:(w.alloc (.map #[] 0)).heap.size=mb+1:=by simp[Hy]
 obtain⟨W0,Hz⟩:=xX (w.alloc (.map #[] 0));rw[Hz] at Ey hbd zk0;have HW0:=z7 Hz;clear Hz;go_enter func116,ntmps116;go_wp2_with fail;clear c4 c4' Hy;go_loopw [2,12] (fun fv iv wr=>∃ i us xs r acc seen nm fm,iv = .int .i64 (i:Nat)/\i<=bs.len/\xY lo hi w0 xs r/\r.uv=true/\r.wf 2000000=true/\us.length=i*3/\ws=us++xs/\i+r.len=bs.len/\Below w.heap.size w wr/\mb<wr.heap.size/\vh (mb+1) wr fv acc/\kW 3 wr mb nm fm/\nm<=i/\Ry fm seen/\seen.length=i/\acc.length<=i/\Qp cl seen acc r=R) (fun _ iv _=>bs.len - (intOf iv).toNat)
 case atStart =>
  rw[HW0.out];exact⟨0,[],ws,bs,[],[],0,fun _=>none,rfl,zG _,Wn.out,HBL.out,IP.out,rfl,rfl,by omega,hbd,by omega,zE _ _ _ _,Ey,zy _,(fun k=>by simp),rfl,zy _,HR.out⟩
 case round =>
  obtain⟨i,us,xs,r,acc,seen,nm,fm,rfl,hiL,gp,wC,Cl,Vl,wE,kS,Og,hmw,how,Vg,BF,hsn,fU,um,Xv⟩:=hrel;have hkw:vQ lo hi w0 wr:=HK.out.below Og;have L7:=z7 how;have Ii:=z7 Vg;have pj:=z7 hsn;have HSL:=z7 fU;have nR:=z7 um;have fX:=z7 Xv;have nJ:=z7 gp;have Ug:=z7 wC;have zuy:=z7 Cl;have IW:=z7 wE;have DA:=z7 Vl;have au:=z7 kS;obtain⟨fa,fc,rfl⟩:=xd how;clear gp wC Cl wE Vl how Vg hsn fU um Xv;by_cases Zj:i<bs.len
  ·cases r with
   | nil=>exfalso;simp[Fo.len] at kS;omega
   | text t r=>have:=Ug.out;cases this
   | hash r=>have:=Ug.out;cases this
   | put n a r=>have:=Ug.out;cases this
   | num n a r=>have:=Ug.out;cases this
   | br n a fo of cl bs r=>have:=Ug.out;cases this
   | uf k0 a0 m0 r0 =>
    obtain⟨R5,ma,mc,ms,Co,XH,aq,Qx⟩:=nJ.out;subst Co;have wH:ws.length=us.length+(R5.length+3):=by rw[IW.out];simp
    have VG:∀ j v,[xk k0,.int .i64 (a0:Nat),.slice ma m0.len mc][j]? = some v->∃ (h:i*3+j<ws.length),ws[i*3+j]=v:=by
     intro j v hj;have hj3:j<3:=by
      apply zY;intro hc;rw[List.getElem?_eq_none (by simp;omega)] at hj
      cases hj
     refine⟨by have:=DA.out;omega,?_⟩;have h1:ws[i*3+j]? = some v:=by
      rw[IW.out,←DA.out,List.getElem?_append_right (by omega),Nat.add_sub_cancel_left,←hj];match j,hj3 with
      | 0,_=>rfl
      | 1,_=>rfl
      | 2,_=>rfl
     rw[List.getElem?_eq_getElem (by have:=DA.out;omega)] at h1;exact zU h1
    obtain⟨q0,p0⟩:=VG 0 _ rfl;obtain⟨q1,p1⟩:=VG 1 _ rfl;obtain⟨q2,p2⟩:=VG 2 _ rfl;obtain⟨g2,o2,rfl,Nc,Ni,d0⟩:=Mp.out (i*3+0) q0;obtain⟨om,o2',hgg,_,_,d1⟩:=Mp.out (i*3+1) q1
    cases hgg;obtain⟨om,o2',hgg,_,_,d2⟩:=Mp.out (i*3+2) q2
    cases hgg;rw[p0] at d0;rw[p1] at d1;rw[p2] at d2;have c0:=xS hkw d0 Nc Ni;have c1:=xS hkw d1 Nc Ni;have c2:=xS hkw d2 Nc Ni;simp only[Nat.add_zero,←Nat.add_assoc] at c0 c1 c2;have ot:=z7 Qx;have k3:(i:Int)<(bs.len:Int):=by omega
    have k4:decide ((i:Int)<(bs.len:Int))=true:=by simp;omega
    have aj:(decide (k0.length<=4000001) && m0.vG && decide (m0.len<=2000000) && m0.wf 2000000 && r0.wf 2000000)=true:=zuy.out;simp only[zx,decide_eq_true_eq] at aj;obtain⟨⟨⟨⟨Cs,_⟩,_⟩,_⟩,Kc⟩:=aj;have oh:=z7 Kc;have ow:=z7 (show r0.uv=true from Ug.out);have p6:=z7 (show i+(r0.len+1)=bs.len from au.out);have ZB:Below wr.heap.size wr (wr.alloc (.cells #[xk k0,.int .i64 (a0:Nat),.slice ma m0.len mc] 183)):=(zv _ _).alloc (zy _) _;have hMA:=Ii.out.below ZB;have VF:=hMA.KW XP k0 (by omega);obtain⟨cn,Qy⟩:=xX ((fm k0).getD 0);rw[Qy] at VF;have gC:=z7 (pj.out.more k0);rw[Qy] at gC;have DV:=pj.out k0;rw[Qy] at DV;have bV:cn<=i:=by have:=HSL.out;omega
    have HCN:=z7 Qy;have HCK:=z7 DV.1;clear XH aq Qx d0 d1 d2 p0 p1 p2 VG Qy DV Kc hkw kS wH;have hwA:=Og.trans (ZB.mono (by have:=Og.size;omega));by_cases dp:k0∈seen
    ·have jm:=HCK.out.2 dp;have j1:decide ((0:Int)<(cn:Int))=true:=by simp;omega
     have j2:decide (0<cn)=true:=by simp;omega
     have ai:=z7 (show Qp cl (k0::seen) (acc++[(7,a0)]) r0=R by rw[←fX.out,Qp,if_pos dp]);clear dp;have HMA:=z7 hMA;have HOA:=z7 (L7.out.Vw ZB);clear hMA;go_wp2_with (at_builtin;refine jE ?_);intro W3 kT;have Ex:Below (wr.alloc (.cells #[xk k0,.int .i64 (a0:Nat),.slice ma m0.len mc] 183)).heap.size (wr.alloc (.cells #[xk k0,.int .i64 (a0:Nat),.slice ma m0.len mc] 183)) W3:=by rw[kT];exact(zv _ _).alloc (zy _) _
     have Nr:(wr.alloc (.cells #[xk k0,.int .i64 (a0:Nat),.slice ma m0.len mc] 183)).heap.size=wr.heap.size+1:=by simp
     have Qe:=fun i=>xu (wr.alloc (.cells #[xk k0,.int .i64 (a0:Nat),.slice ma m0.len mc] 183)) #[.int .i64 7,.int .i64 (a0:Nat)] 105 (0,0) i
     rw[←kT,Nr] at Qe;have znx:=(Ex.cell (p:=⟨wr.heap.size,0,none⟩) (by show wr.heap.size<_;omega)).trans (xu wr #[xk k0,.int .i64 (a0:Nat),.slice ma m0.len mc] 183 (0,0) 0);have DY:=z7 (HMA.out.below Ex);have pM:=z7 (HOA.out.Vw Ex);have GC:=Ex.size;have X8:=hwA.trans (Ex.mono (by have:=Og.size;omega));clear kT;refine qj kY rfl _ _ rfl (mb+1) _ acc.length (qt acc) rfl pM.out ⟨wr.heap.size+1,0,none⟩ 1 1 [.int .i64 7,.int .i64 (a0:Nat)] rfl rfl ?u1 ?u2 (by have:=nR.out;omega) (by omega) ?u3
     case u1=>exact VY (Qe 0) (Qe 1)
     case u2 =>
      intro u hu;simp at hu;rcases hu with rfl|rfl<;>rfl
     intro v4 w4 UT jq;have DE:=z7 (show vh (mb+1) w4 v4 (acc++[(7,a0)]) by unfold vh;rw[bh,zk];exact UT);have xV:∀ k,(zj fa acc.length fc).ownBlock=some k->mb+1<=k/\k<wr.heap.size:=fun k hk=>L7.out.lt k hk
     have hM4:=DY.out.keep (jq.block mb DY.out.lt (fun e=>by have:=xV mb e.symm;omega));have XK:Below w.heap.size w w4:=X8.grown jq X8.size (fun k hk=>by have:=xV k hk;have:=O7.out;omega);have xj6:w4.cell? ⟨wr.heap.size,0,none⟩=some (xk k0):=jq.cell znx (fun e=>absurd (xV _ e.symm).2 (Nat.lt_irrefl _));obtain⟨fa4,fc4,rfl⟩:=xd UT;obtain⟨w5,AM,JW,qc⟩:=hM4.put XP k0 (by omega) ((cn:Int)+1) (cn+1) (by omega) (by omega) (by omega);have yby:=hM4.KW XP k0 (by omega);rw[HCN.out] at yby;have Su:=Lib.hid JW;have GZ:=Lib.hid (DE.out.ae qc (by omega));have Un:Below w.heap.size w w5:=XK.grown qc XK.size (fun k hk=>by cases hk;have:=O7.out;omega);have zk1:=JW.lt;have znq:(acc.length+1)=(acc++[(7,a0)]).length:=by simp
     have wx:=z7 (show vh (mb+1) w5 (.slice fa4 (acc.length+1) fc4) (acc++[(7,a0)]) from GZ.out);clear UT jq xV JW qc hM4 VF Qe znx znq;go_wp2;go_roundw
     case rel=>exact⟨i+1,us++[xk k0,.int .i64 (a0:Nat),.slice ma m0.len mc],R5,r0,acc++[(7,a0)],k0::seen,nm+1,_,by simp,by omega,ot.out,ow.out,oh.out,by have:=DA.out;simp;omega,by rw[IW.out,zH];rfl,by have:=p6.out;omega,Un,zk1,wx.out,Su.out,by omega,gC.out,by simp[HSL.out],by have:=nR.out;simp;omega,ai.out⟩
     case measure=>simp only[intOf];omega
    ·have jm:¬0<cn:=fun h=>dp (HCK.out.1 h)
     have j1:decide ((0:Int)<(cn:Int))=false:=by simp;omega
     have j2:decide (0<cn)=false:=by simp;omega
     have ai:=z7 (show Qp cl (k0::seen) acc r0=R by rw[←fX.out,Qp,if_neg dp]);clear dp jm;obtain⟨w5,AM,JW,qc⟩:=hMA.put XP k0 (by omega) ((cn:Int)+1) (cn+1) (by omega) (by omega) (by omega);have Su:=z7 JW;have GZ:=z7 ((L7.out.Vw ZB).ae qc (by omega));have Un:Below w.heap.size w w5:=hwA.grown qc hwA.size (fun k hk=>by cases hk;have:=O7.out;omega);have zk1:=JW.lt;clear JW qc hMA;go_wp2;go_roundw
     case rel=>exact⟨i+1,us++[xk k0,.int .i64 (a0:Nat),.slice ma m0.len mc],R5,r0,acc,k0::seen,nm+1,_,by simp,by omega,ot.out,ow.out,oh.out,by have:=DA.out;simp;omega,by rw[IW.out,zH];rfl,by have:=p6.out;omega,Un,zk1,GZ.out,Su.out,by omega,gC.out,by simp[HSL.out],by have:=nR.out;omega,ai.out⟩
     case measure=>simp only[intOf];omega
  ·have k4:decide ((i:Int)<(bs.len:Int))=false:=by simp;omega
   have vv:r = .nil:=by
    have:=Ug.out
    cases r<;>simp[Fo.len] at kS<;>first|rfl|omega
   have VF:(Instr.lookup 185 (.map (some mb)) (.string ⟨#[111,116,104,101,114]⟩) false).run prog wr = .ok (.int .i64 (((fm Gh).getD 0:Nat):Int)) wr:=Ii.out.KW XP Gh (by decide);have aC:=pj.out Gh;obtain⟨cn,Qy⟩:=xX ((fm Gh).getD 0);rw[Qy] at VF aC;have c5:=xS hkw HC5.out xB xF;have vA:Qp cl seen acc r=if Gh∈seen then acc else acc++[(6,cl)]:=by rw[vv];rfl
   have HFN:=z7 (vA.symm.trans fX.out);have HOB:=z7 (Qf L7.out O7.out);by_cases dp:Gh∈seen
   ·have jm:=aC.1.2 dp;have j1:((cn:Int)==0)=false:=by simp;omega
    have VI:=z7 (show R=acc by rw[←HFN.out,if_pos dp]);clear aC Qy vA dp;go_wp2;go_ret;rw[VI.out];exact⟨⟨_,rfl,HOB.out⟩,Og⟩
   ·have jm:¬0<cn:=fun h=>dp (aC.1.1 h)
    have j1:((cn:Int)==0)=true:=by simp;omega
    have VI:=z7 (show R=acc++[(6,cl)] by rw[←HFN.out,if_neg dp]);clear aC Qy vA dp;go_wp2_with (at_builtin;refine jE ?_);intro W3 kT;have Ex:Below wr.heap.size wr W3:=by rw[kT];exact(zv _ _).alloc (zy _) _
    have Qe:=fun i=>xu wr #[.int .i64 6,.int .i64 (cl:Nat)] 105 (0,0) i
    rw[←kT] at Qe;have pM:=z7 (L7.out.Vw Ex);have GC:=Ex.size;have X8:=Og.trans (Ex.mono (by have:=Og.size;omega));clear kT;refine qj kY rfl _ _ rfl (mb+1) _ acc.length (qt acc) rfl pM.out ⟨wr.heap.size,0,none⟩ 1 1 [.int .i64 6,.int .i64 (cl:Nat)] rfl rfl ?u4 ?u5 (by have:=nR.out;omega) (by omega) ?u6
    case u4=>exact VY (Qe 0) (Qe 1)
    case u5 =>
     intro u hu;simp at hu;rcases hu with rfl|rfl<;>rfl
    intro v4 w4 UT jq;have DE:=z7 (Qf (show vh (mb+1) w4 v4 (acc++[(6,cl)]) by unfold vh;rw[bh,zk];exact UT) O7.out);have xV:∀ k,(zj fa acc.length fc).ownBlock=some k->mb+1<=k:=fun k hk=>(L7.out.lt k hk).1
    have XK:Below w.heap.size w w4:=X8.grown jq X8.size (fun k hk=>by have:=xV k hk;have:=O7.out;omega);clear UT jq xV;go_wp2;go_ret;rw[VI.out];exact⟨⟨_,rfl,DE.out⟩,XK⟩
theorem VX{cl:Nat}(seen:List Wd)(acc:List (Nat×Nat))(n:Nat):(if Gh∈seen then acc else acc++[(6,cl)]).length<=acc.length+n+1:=by
 split
 ·omega
 ·rw[zk];show acc.length+1<=_;omega
theorem YP(cl:Nat):∀ (f:Fo) (seen:List Wd) (acc:List (Nat×Nat)),(Qp cl seen acc f).length<=acc.length+f.len+1
 | .uf k a m r,seen,acc=>by
  rw[Qp];refine zX (YP cl r _ _) ?_;split<;>simp[Fo.len]<;>omega
 | .nil,seen,acc=>VX seen acc _
 | .text _ _,seen,acc=>VX seen acc _
 | .hash _,seen,acc=>VX seen acc _
 | .put _ _ _,seen,acc=>VX seen acc _
 | .num _ _ _,seen,acc=>VX seen acc _
 | .br _ _ _ _ _ _ _,seen,acc=>VX seen acc _
def jT:Fo->Nat
 | .num _ _ _=>1
 | .br _ _ f _ _ _ _=>if f=0 then 2 else 1
 | _=>0
theorem Of{lo hi:Nat}{w0:World}(x:Fo)(u:Value)(n:Wd)(a:Nat)(w:World)(hk:vQ lo hi w0 w)(XI:xY lo hi w0 [u] x)(hh:Aw x=some (n,a)) :
  Calls prog 115 #[u] w fun e w'=>e = .returned (.int .i64 ((jT x:Nat):Int))/\w'=w:=by
 cases x with
 | nil=>cases hh
 | text t r=>cases hh
 | hash r=>cases hh
 | uf k0 a0 m0 r0=>cases hh
 | put n0 a0 r =>
  obtain⟨vt,b0,he,xB,xF,gh,qX,gp⟩:=XI
  cases he;have e1:=NS b0;have e2:=BZ b0;go_enter func115,ntmps115;go_wp2;go_ret;exact⟨rfl,rfl⟩
 | num n0 a0 r =>
  obtain⟨vt,b0,he,xB,xF,gh,qX,gp⟩:=XI
  cases he;have e1:=Uk b0;go_enter func115,ntmps115;go_wp2;go_ret;exact⟨rfl,rfl⟩
 | br n0 a0 fo of cl bs r =>
  obtain⟨vt,b0,ba,bc,ws,he,xB,xF,gh,qX,jJ,Cn,DZ,Mo,Kd,UP,gp⟩:=XI
  cases he;have e1:=Ku b0;have e2:=Q7 b0;have c2:=xS hk jJ xB xF;by_cases hf:fo=0
  ·have HF:=Lib.hid hf;have j1:((fo:Int)==0)=true:=by simp[hf]
   clear hf;go_enter func115,ntmps115;go_wp2;go_ret;have hkf:jT (.br n0 a0 fo of cl bs r)=2:=if_pos HF.out;rw[hkf];exact⟨rfl,rfl⟩
  ·have HF:=Lib.hid hf;have j1:((fo:Int)==0)=false:=by simp;omega
   clear hf;go_enter func115,ntmps115;go_wp2;go_ret;have hkf:jT (.br n0 a0 fo of cl bs r)=1:=if_neg HF.out;rw[hkf];exact⟨rfl,rfl⟩
abbrev Qr:=(Wd->Option Nat)×List (Nat×Nat)
def uj(s:Qr)(n:Wd)(a k:Nat):Qr :=
 if k≠0/\(s.1 n).isSome=true/\(s.1 n).getD 0≠k then (s.1,s.2++[(5,a)]) else if k≠0 then (fun y=>if n=y then some k else s.1 y,s.2) else s
def dL(s:Qr):Fo->Out Qr
 | .br n a f o cl bs r => .go true ((uj s n a (jT (.br n a f o cl bs r))).1,(uj s n a (jT (.br n a f o cl bs r))).2++Qp cl [] [] bs)
 | .num n a _ => .go true (uj s n a 1)
 | .put n a _ => .go true (uj s n a 0)
 | _ => .go true s
theorem fF:Sy 254 255:=⟨underlying254,underlying255,fun w=>by simp[go_sem]⟩
structure XR(lo hi:Nat)(w0:World)(B:Nat)(w:World)(s:Qr)(room:Nat)(W:World):Prop where
 keep:vQ lo hi w0 W
 hiB:hi<=B
 map:∃ nm,kW 255 W (B+1) nm s.1/\nm+room<=1000000000
 row:∃ v,W.cell? ⟨B,0,none⟩=some v/\vh (B+3) W v s.2
 kc:W.cell? ⟨B+2,0,none⟩=some (.map (some (B+1)))
 fz:W.frozen? ⟨B,0,none⟩=false
 few:s.2.length+room<=1000000000
 L8:Below B w W
theorem XR.below{lo hi:Nat}{w0:World}{B:Nat}{w:World}{s:Qr}{room:Nat}{W W':World}(h:XR lo hi w0 B w s room W)(hb:Below W.heap.size W W'):XR lo hi w0 B w s room W':=by
 obtain⟨h1,h2,⟨nm,h3,h3'⟩,⟨v,h4,h5⟩,h6,h7,h8,h9⟩:=h;have l1:B<W.heap.size:=z8 W _ h4;have l2:B+2<W.heap.size:=z8 W _ h6;exact⟨h1.below hb,h2,⟨nm,h3.below hb,h3'⟩,⟨v,(hb.cell (p:=⟨B,0,none⟩) l1).trans h4,h5.Vw hb⟩,(hb.cell (p:=⟨B+2,0,none⟩) l2).trans h6,(hb.frozen (p:=⟨B,0,none⟩) l1).trans h7,h8,h9.trans (hb.mono (by omega))⟩
theorem XR.less{lo hi:Nat}{w0:World}{B:Nat}{w:World}{s:Qr}{room room':Nat}{W:World}(h:XR lo hi w0 B w s room W)(hr:room'<=room):XR lo hi w0 B w s room' W:=by
 obtain⟨h1,h2,⟨nm,h3,h3'⟩,h4,h6,h7,h8,h9⟩:=h;exact⟨h1,h2,⟨nm,h3,by omega⟩,h4,h6,h7,by omega,h9⟩
theorem KV{w:World}{o:Oper}{a:Act}{K:Act->World->Prop}{Q:Exit->Act->World->Prop}
  (s x:Operand) (ho:o.op = .call { callee := .builtin .append,args:=#[s,x],argTypes:=#[253,253] })
  (base znk:Nat) (v u:Value) (acc l:List (Nat×Nat)) (hs:a.eval s=v) (hF:vh base w v acc) (hx:a.eval x=u) (hU:vh znk w u l) (H6:acc.length+l.length<=2147483648) (bH:base<=w.heap.size)
  (h:∀ v' w',vh base w' v' (acc++l)->w.grownBy w' v.ownBlock->K (a.put o.dst v') w'):Oper.wp prog o a w K Q:=by
 obtain⟨i,hi,hz,h2,h3⟩:=kY.info;have hU0:=hU;rcases hU.2 with⟨hu,hn⟩|⟨g,cap,cur,hu,hg,hh,oZ,jy,dB,ht⟩
 ·have hl:l=[]:=List.eq_nil_of_length_eq_zero hn;subst hl;have hr:=run_append_owned_none (P:=prog) (w:=w) base 253 o.type 105 i 2 kY.under hi v acc.length (qt acc) hF;unfold Oper.wp execOp;simp only[ho,resolve,invoke,builtin,Sem.run_bind,Sem.run_pure,zD,zM,List.map_cons,List.map_nil,hs,hx,hu,hr];exact h v w (by simpa using hF) (N0 w _)
 ·obtain⟨v',w',hr,k1,k2,_⟩:=run_append_own (P:=prog) w base 253 o.type 105 i _ 2 16 kY.under hi hz h2 h3 kY.VT kY.pos v acc.length (qt acc) hF ⟨g,0,none⟩ l.length cap (qt l) (Gt l)
   (fun j x hx=>by
    have hj:j<(qt l).length:=(List.getElem?_eq_some_iff.1 hx).1;rw[vS,←hx];rw[Gt] at hj;obtain⟨g',ve,AA,_,_,xi⟩:=xl hU0 (by omega);rw[hu] at AA
    cases AA;exact xi j hj)
   (fun x hx=>by
    simp only[qt,List.mem_flatMap] at hx;obtain⟨y,_,hy⟩:=hx;simp at hy;rcases hy with rfl|rfl<;>rfl) (by unfold maxLen;omega) (by omega) bH
  unfold Oper.wp execOp;simp only[ho,resolve,invoke,builtin,Sem.run_bind,Sem.run_pure,zD,zM,List.map_cons,List.map_nil,hs,hx,hu,hr];exact h v' w' (by unfold vh;rw[bh,zk];exact k1) k2
theorem Lz(x:Fo):jT x<=2:=by
 cases x<;>simp[jT];split<;>decide
theorem vQ.ar{lo hi:Nat}{w W:World}(h:vQ lo hi w W):vQ lo hi w W.drew:=h
theorem Qd{lo hi:Nat}{w0:World}{B:Nat}{w:World}{s:Qr}{room room':Nat}{W W':World}{row:Option Nat}{v':Value}{l:List (Nat×Nat)}(h:XR lo hi w0 B w s room W)(hg:W.grownBy W' row)(xV:∀ k,row=some k->B+3<=k)
  (hf:vh (B+3) W' v' (s.2++l)) (hr:room'+l.length<=room):XR lo hi w0 B w (s.1,s.2++l) room' (W'.setCell ⟨B,0,none⟩ v'):=by
 obtain⟨h1,h2,⟨nm,h3,h3'⟩,⟨v,h4,h5⟩,h6,h7,h8,h9⟩:=h;have xc:∀ k,k<B+3->(some k:Option Nat)≠row:=fun k q1 q2=>by have:=xV k q2.symm;omega
 have l0:B<W.heap.size:=z8 W _ h4;have hb:∀ k,k<W.heap.size->k<B+3->k≠B->(W'.setCell ⟨B,0,none⟩ v').heap[k]? = W.heap[k]? := fun k q1 q2 q3=>(Below.heap_setCell _ _ _ _ q3).trans (hg.block k q1 (xc k q2))
 have l2:B+2<W.heap.size:=z8 W _ h6;have qP:W.heap.size<=(W'.setCell ⟨B,0,none⟩ v').heap.size:=zX hg.size (by simp[World.setCell]);have c0:W'.cell? ⟨B,0,none⟩=some v:=hg.cell h4 (xc B (by omega));refine⟨⟨zX h1.1 qP,fun k k1 k2=>(hb k (by have:=h1.1;omega) (by omega) (by omega)).trans (h1.2 k k1 k2)⟩,h2,⟨nm,h3.keep (hb (B+1) h3.lt (by omega) (by omega)),by omega⟩,⟨v',by rw[xg,if_pos rfl,c0];rfl,?_⟩,
  (World.cell?_of_block (a:=⟨B+2,0,none⟩) (hb (B+2) l2 (by omega) (by omega))).trans h6,?_,?_,?_⟩
 ·exact ownsRow_setCell_below hf (a:=⟨B,0,none⟩) (by show B<B+3;omega) v'
 ·rw[zf];exact(zu (a:=⟨B,0,none⟩) (hg.block B l0 (xc B (by omega)))).trans h7
 ·show(s.2++l).length+room'<=_;rw[zk];omega
 ·exact vo (h9.grown hg (by omega) (fun k q=>by have:=xV k q;omega)) (zy _)
theorem Js{lo hi:Nat}{w0:World}{B:Nat}{w:World}{s:Qr}{room room' nm:Nat}{W W':World}{f:Wd->Option Nat}(h:XR lo hi w0 B w s room W)(hm:kW 255 W' (B+1) (nm+1) f)(hg:W.grownBy W' (some (B+1)))
  (hn:nm+room<=1000000000) (hr:room'+1<=room):XR lo hi w0 B w (f,s.2) room' W':=by
 obtain⟨h1,h2,_,⟨v,h4,h5⟩,h6,h7,h8,h9⟩:=h;have xc:∀ k,k≠B+1->(some k:Option Nat)≠some (B+1):=fun k q1 q2=>q1 (by cases q2;rfl)
 have l0:B<W.heap.size:=z8 W _ h4;refine⟨⟨zX h1.1 hg.size,fun k k1 k2=>(hg.block k (by have:=h1.1;omega) (xc k (by omega))).trans (h1.2 k k1 k2)⟩,h2,⟨nm+1,hm,by omega⟩,⟨v,hg.cell h4 (xc B (by omega)),h5.ae hg (by omega)⟩,
  hg.cell h6 (xc (B+2) (by omega)),?_,by show s.2.length+room'<=_;omega,h9.grown hg (by omega) (fun k q=>by cases q;omega)⟩
 exact(zu (a:=⟨B,0,none⟩) (hg.block B l0 (xc B (by omega)))).trans h7
theorem pN{lo hi:Nat}{w0:World}{B:Nat}{w:World}(x:Fo)(u:Value)(n:Wd)(a:Nat)(s:Qr)(room:Nat)(W:World)(hI:XR lo hi w0 B w s (room+x.wt) W)(XI:xY lo hi w0 [u] x)(Jp:x.wf 2000000=true)(hh:Aw x=some (n,a)) :
  Calls prog 114 #[u,.agg #[xk n,.int .i64 (a:Nat)],.pointer (some ⟨B+2,0,none⟩),.pointer (some ⟨B,0,none⟩)] W (zuz (XR lo hi w0 B w) room (dL s x)):=by
 have HI:=z7 hI;have HND:=z7 XI;have HWF:=z7 Jp;clear hI Jp
 cases x with
 | nil=>cases hh
 | text t r=>cases hh
 | hash r=>cases hh
 | uf k0 a0 m0 r0=>cases hh
 | put n0 a0 r =>
  obtain⟨vt,b0,he,xB,xF,gh,qX,gp⟩:=XI;obtain⟨rfl,rfl⟩:n=n0/\a=a0:=by cases hh;exact⟨rfl,rfl⟩
  cases he;have e1:=BZ b0;have HI:=z7 (show XR lo hi w0 B w s (room+1) W from HI.out);have oA:n.length<=4000001:=by have:=HWF.out;simp[Fo.wf] at this;exact this.1
  obtain⟨kv,VA⟩:=xX (jT (.put n a r));have DQ:=z7 (fun W' hk=>Of (.put n a r) (.iface 172 (.pointer (some ⟨b0,0,none⟩))) n a W' hk HND.out rfl);have O4:=z7 VA;rw[VA] at DQ;clear VA;go_enter func114,ntmps114;go_wp2_with fail;have ZB:Below W.heap.size W (W.alloc (.cells #[xk n,.int .i64 (a:Nat)] 114)):=(zv _ _).alloc (zy _) _;have Ux:=fun i=>xu W #[xk n,.int .i64 (a:Nat)] 114 (0,0) i
  have YR:=HI.out.below ZB;obtain⟨W1,Vu⟩:=xX (W.alloc (.cells #[xk n,.int .i64 (a:Nat)] 114));rw[Vu] at Ux YR ⊢;have Mn:=Ux 0;have Au:=Ux 1;clear Vu Ux ZB;refine(DQ.out W1 YR.keep).mono ?_;rintro e W2 ⟨rfl,rfl⟩;obtain⟨nm,Vg,BF⟩:=YR.map;obtain⟨fv,hfc,Zu⟩:=YR.row;obtain⟨fa,fc,rfl⟩:=xd Zu;have VF:=Vg.look fF n (by omega);have Wt:=YR.kc;have VH:=YR.fz;have ah:=YR.few;have Kf:=z7 YR;have Ii:=z7 Vg;have JE:=z7 Zu;have JV:B+2<W2.heap.size:=z8 W2 _ Wt;clear YR Vg Zu;obtain⟨kk,Q5⟩:=xX ((s.1 n).getD 0);obtain⟨bb,Zv⟩:=xX ((s.1 n).isSome);rw[Q5,Zv] at VF;have p8:=z7 Q5;have HBB:=z7 Zv;clear Q5 Zv DQ;have Cs:kv=0:=O4.out.symm;subst Cs;have HF:=z7 (Kf.out.less (room':=room) (by omega));go_wp2;go_ret;have Od:dL s (.put n a r) = .go true s:=by show Out.go true (uj s n a 0)=_;unfold uj;simp
  rw[Od];exact⟨rfl,HF.out⟩
 | num n0 a0 r =>
  obtain⟨vt,b0,he,xB,xF,gh,qX,gp⟩:=XI;obtain⟨rfl,rfl⟩:n=n0/\a=a0:=by cases hh;exact⟨rfl,rfl⟩
  cases he;have e1:=SH b0;have HI:=z7 (show XR lo hi w0 B w s (room+1) W from HI.out);have oA:n.length<=4000001:=by have:=HWF.out;simp[Fo.wf] at this;exact this.1
  obtain⟨kv,VA⟩:=xX (jT (.num n a r));have DQ:=z7 (fun W' hk=>Of (.num n a r) (.iface 175 (.pointer (some ⟨b0,0,none⟩))) n a W' hk HND.out rfl);have O4:=z7 VA;rw[VA] at DQ;clear VA;go_enter func114,ntmps114;go_wp2_with fail;have ZB:Below W.heap.size W (W.alloc (.cells #[xk n,.int .i64 (a:Nat)] 114)):=(zv _ _).alloc (zy _) _;have Ux:=fun i=>xu W #[xk n,.int .i64 (a:Nat)] 114 (0,0) i
  have YR:=HI.out.below ZB;obtain⟨W1,Vu⟩:=xX (W.alloc (.cells #[xk n,.int .i64 (a:Nat)] 114));rw[Vu] at Ux YR ⊢;have Mn:=Ux 0;have Au:=Ux 1;clear Vu Ux ZB;refine(DQ.out W1 YR.keep).mono ?_;rintro e W2 ⟨rfl,rfl⟩;obtain⟨nm,Vg,BF⟩:=YR.map;obtain⟨fv,hfc,Zu⟩:=YR.row;obtain⟨fa,fc,rfl⟩:=xd Zu;have VF:=Vg.look fF n (by omega);have Wt:=YR.kc;have VH:=YR.fz;have ah:=YR.few;have Kf:=z7 YR;have Ii:=z7 Vg;have JE:=z7 Zu;have JV:B+2<W2.heap.size:=z8 W2 _ Wt;clear YR Vg Zu;obtain⟨kk,Q5⟩:=xX ((s.1 n).getD 0);obtain⟨bb,Zv⟩:=xX ((s.1 n).isSome);rw[Q5,Zv] at VF;have p8:=z7 Q5;have HBB:=z7 Zv;clear Q5 Zv DQ;have zk3:kv≠0:=by rw[←O4.out];exact Nat.one_ne_zero
  have ybv:kv<=2:=by rw[←O4.out];exact Lz _
  have j1:((kv:Int) !=0)=true:=by simp;omega
  have j1':((kv:Int)==0)=false:=by simp;omega
  have R7:=z7 zk3
  cases bb with
  | false =>
   obtain⟨W4,AM,Kc,jq⟩:=Ii.out.put fF n (by omega) (kv:Int) kv rfl (by omega) (by omega);have jX:=z7 (show uj s n a kv=(fun y=>if n=y then some kv else s.1 y,s.2) by unfold uj;rw[if_neg (fun e=>by have:=e.2.1;rw[HBB.out] at this;cases this),if_pos R7.out]);have HF:=z7 (Js Kf.out Kc jq (room':=room) BF (by omega));clear Kc jq;go_wp2;go_ret;have Od:dL s (.num n a r) = .go true ((fun y=>if n=y then some kv else s.1 y,s.2):Qr):=by show Out.go true (uj s n a 1)=_;rw[show(1:Nat)=kv from O4.out,jX.out]
   rw[Od];exact⟨rfl,HF.out⟩
  | true =>
   by_cases gY:kk=kv
   ·have j2:((kk:Int) !=(kv:Int))=false:=by simp[gY]
    have j3:(kk !=kv)=false:=by simp[gY]
    have Gw:=z7 gY;clear gY;obtain⟨W4,AM,Kc,jq⟩:=Ii.out.put fF n (by omega) (kv:Int) kv rfl (by omega) (by omega);have jX:=z7 (show uj s n a kv=(fun y=>if n=y then some kv else s.1 y,s.2) by unfold uj;rw[if_neg (fun e=>e.2.2 (by rw[p8.out];exact Gw.out)),if_pos R7.out]);have HF:=z7 (Js Kf.out Kc jq (room':=room) BF (by omega));clear Kc jq;go_wp2;go_ret;have Od:dL s (.num n a r) = .go true ((fun y=>if n=y then some kv else s.1 y,s.2):Qr):=by show Out.go true (uj s n a 1)=_;rw[show(1:Nat)=kv from O4.out,jX.out]
    rw[Od];exact⟨rfl,HF.out⟩
   ·have j2:((kk:Int) !=(kv:Int))=true:=by simp;omega
    have j3:(kk !=kv)=true:=by simp[gY]
    have Gw:=z7 gY;clear gY;go_wp2_with (at_builtin;refine jE ?_);intro W3 kT;have um:Below W2.heap.size W2 W3:=by rw[kT];exact(zv _ _).alloc (zy _) _
    have Qe:=fun i=>xu W2 #[.int .i64 5,.int .i64 (a:Nat)] 105 (0,0) i
    rw[←kT] at Qe;have av:=z7 (Kf.out.below um);have q3:=(um.cell (z8 _ _ hfc)).trans hfc;have pM:=z7 (JE.out.Vw um);have GC:=um.size;clear kT;refine qj kY rfl _ _ rfl (B+3) _ s.2.length (qt s.2) rfl pM.out ⟨W2.heap.size,0,none⟩ 1 1 [.int .i64 5,.int .i64 (a:Nat)] rfl rfl ?w5V1 ?w5V2 (by omega) (by omega) ?w5V3
    case w5V1=>exact VY (Qe 0) (Qe 1)
    case w5V2 =>
     intro u hu;simp at hu;rcases hu with rfl|rfl<;>rfl
    intro v4 w4 UT jq;have YY:vh (B+3) w4 v4 (s.2++[(5,a)]):=by unfold vh;rw[bh,zk];exact UT
    have xV:∀ k,(zj fa s.2.length fc).ownBlock=some k->B+3<=k:=fun k hk=>(JE.out.lt k hk).1
    have xc:∀ k,k<B+3->(some k:Option Nat)≠(zj fa s.2.length fc).ownBlock:=fun k h1 h2=>by have:=xV k h2.symm;omega
    have q4:=jq.cell q3 (xc B (by omega));have z4:w4.frozen? ⟨B,0,none⟩=false:=(World.frozen?_of_block (a:=⟨B,0,none⟩) (jq.block B (World.block_lt_of_cell? _ _ q3) (xc B (by omega)))).trans av.out.fz;have jX:=Lib.hid (show uj s n a kv=(s.1,s.2++[(5,a)]) by unfold uj;rw[if_pos ⟨R7.out,HBB.out,fun e=>Gw.out (p8.out.symm.trans e)⟩]);have HF:=Lib.hid (Qd (l:=[(5,a)]) (room':=room) av.out jq xV YY (by simp<;>omega));obtain⟨fa4,fc4,rfl⟩:=xd YY;obtain⟨W4,Dq⟩:=xX (w4.setCell ⟨B,0,none⟩ (.slice fa4 (s.2.length+1) fc4));have Ly:(s.2++[(5,a)]).length=s.2.length+1:=by simp
    rw[Ly,Dq] at HF;have HW4:=z7 Dq;clear UT jq xV YY xc q3 pM Ly;go_wp2;go_ret;have Od:dL s (.num n a r) = .go true ((s.1,s.2++[(5,a)]):Qr):=by show Out.go true (uj s n a 1)=_;rw[show(1:Nat)=kv from O4.out,jX.out]
    rw[Od];exact⟨rfl,HF.out⟩
 | br n0 a0 fo of cl bs r =>
  obtain⟨vt,b0,ba,bc,ws,he,xB,xF,gh,qX,jJ,Cn,DZ,Mo,Kd,UP,gp⟩:=XI;obtain⟨rfl,rfl⟩:n=n0/\a=a0:=by cases hh;exact⟨rfl,rfl⟩
  cases he;have e1:=Q7 b0;have HI:=z7 (show XR lo hi w0 B w s (room+(2+bs.len)) W from HI.out);have oA:n.length<=4000001:=by have:=HWF.out;simp[Fo.wf] at this;exact this.1.1.1.1.1
  have Nn:=z7 (show xY lo hi w0 [.iface 177 (.pointer (some ⟨b0,0,none⟩))] (.br n a fo of cl bs .nil) from⟨[],b0,ba,bc,ws,rfl,xB,xF,gh,qX,jJ,Cn,DZ,Mo,Kd,UP,rfl⟩);have zk4:=z7 (show(Fo.br n a fo of cl bs .nil).wf 2000000=true by have:=HWF.out;simp[Fo.wf] at this ⊢;exact this.1);obtain⟨kv,VA⟩:=xX (jT (.br n a fo of cl bs r));have DQ:=z7 (fun W' hk=>Of (.br n a fo of cl bs r) (.iface 177 (.pointer (some ⟨b0,0,none⟩))) n a W' hk HND.out rfl);have O4:=z7 VA;rw[VA] at DQ;clear VA;go_enter func114,ntmps114;go_wp2_with fail;have ZB:Below W.heap.size W (W.alloc (.cells #[xk n,.int .i64 (a:Nat)] 114)):=(zv _ _).alloc (zy _) _;have Ux:=fun i=>xu W #[xk n,.int .i64 (a:Nat)] 114 (0,0) i
  have YR:=HI.out.below ZB;obtain⟨W1,Vu⟩:=xX (W.alloc (.cells #[xk n,.int .i64 (a:Nat)] 114));rw[Vu] at Ux YR ⊢;have Mn:=Ux 0;have Au:=Ux 1;clear Vu Ux ZB;refine(DQ.out W1 YR.keep).mono ?_;rintro e W2 ⟨rfl,rfl⟩;obtain⟨nm,Vg,BF⟩:=YR.map;obtain⟨fv,hfc,Zu⟩:=YR.row;obtain⟨fa,fc,rfl⟩:=xd Zu;have VF:=Vg.look fF n (by omega);have Wt:=YR.kc;have VH:=YR.fz;have ah:=YR.few;have Kf:=z7 YR;have Ii:=z7 Vg;have JE:=z7 Zu;have JV:B+2<W2.heap.size:=z8 W2 _ Wt;clear YR Vg Zu;obtain⟨kk,Q5⟩:=xX ((s.1 n).getD 0);obtain⟨bb,Zv⟩:=xX ((s.1 n).isSome);rw[Q5,Zv] at VF;have p8:=z7 Q5;have HBB:=z7 Zv;clear Q5 Zv DQ;have zk3:kv≠0:=by rw[←O4.out];by_cases h:fo=0<;>simp[jT,h]
  have ybv:kv<=2:=by rw[←O4.out];exact Lz _
  have j1:((kv:Int) !=0)=true:=by simp;omega
  have j1':((kv:Int)==0)=false:=by simp;omega
  have R7:=z7 zk3
  cases bb with
  | false =>
   obtain⟨W4,AM,Kc,jq⟩:=Ii.out.put fF n (by omega) (kv:Int) kv rfl (by omega) (by omega);have jX:=z7 (show uj s n a kv=(fun y=>if n=y then some kv else s.1 y,s.2) by unfold uj;rw[if_neg (fun e=>by have:=e.2.1;rw[HBB.out] at this;cases this),if_pos R7.out]);have HF:=z7 (Js Kf.out Kc jq (room':=(room+1+bs.len)) BF (by omega));clear Kc jq;obtain⟨s1,uL⟩:∃ s1:Qr,((fun y=>if n=y then some kv else s.1 y,s.2):Qr)=s1:=⟨_,rfl⟩;rw[uL] at jX HF;clear uL;go_wp2_with fail;have q1:=HF.out.row;obtain⟨v1,q2,q3⟩:=q1;obtain⟨Rx,Rv,rfl⟩:=xd q3;have Mi:=z7 (fun W' hk=>YO b0 n a fo of cl bs W' hk Nn.out zk4.out);have Tq:=z7 q3;refine rk (fun W':World=>W'.cell? ⟨B,0,none⟩=some (.slice Rx (s1).2.length Rv)) 4 [0,1] 3 q2 ?_;(iterate 2 ((first|refine ty ?_|refine tn ?_);try simp only[pl]))
   refine xq ?_;refine Xf 2 (fun K hK=>?_);go_simp;refine(Mi.out W4.drew HF.out.keep.ar).mono ?_;rintro e W5 ⟨⟨vb,rfl,E7⟩,ju⟩;have Qb:Below W4.heap.size W4 W5:=(zv _ W4).drew.trans ju;have aw:=HF.out.below Qb;have q5:W5.cell? ⟨B,0,none⟩=some (.slice Rx (s1).2.length Rv):=(Qb.cell (z8 _ _ q2)).trans q2;have q6:=Tq.out.Vw Qb;have z5:=aw.fz;have HI5:=z7 aw;have nl:=z7 E7;clear aw E7;refine hK.out _ _ q5 (fun _=>?_);clear hK K;refine Xf 3 (fun K hK=>?_);rw[if_pos (by rfl)];refine KV _ _ rfl (B+3) _ _ vb (s1).2 (Qp cl [] [] bs) rfl q6 rfl nl.out ?w8X1 ?w8X2 ?w8X3
   case w8X1 =>
    have:=YP cl bs [] [];have:=HF.out.few;simp only[zg] at *;omega
   case w8X2=>have h:=z8 _ _ HF.out.kc;have:=Qb.size;dsimp only at h;omega
   case w8X3 =>
    intro v6 W6 bL Ru;have HF6:=z7 bL;have xV:∀ k,(zj Rx (s1).2.length Rv).ownBlock=some k->B+3<=k:=fun k hk=>(Tq.out.lt k hk).1
    have xc:∀ k,k<B+3->(some k:Option Nat)≠(zj Rx (s1).2.length Rv).ownBlock:=fun k h1 h2=>by have:=xV k h2.symm;omega
    have q7:=Ru.cell q5 (xc B (by omega));have q8:W6.frozen? ⟨B,0,none⟩=false:=(zu (a:=⟨B,0,none⟩) (Ru.block B (z8 _ _ q5) (xc B (by omega)))).trans z5;have cy:=Qd (room':=room) HI5.out Ru xV bL (by have:=YP cl bs [] [];simp only[zg] at this;omega);obtain⟨fa6,fc6,rfl⟩:=xd bL;refine hK.out _ _ q7 (fun _=>?_);clear hK K;refine DJ 4 (fun K hK=>?_);go_simp;refine hK.out _ _ ?_;clear hK K;refine DG ?_ _;rw[zk] at cy;have HI6:=z7 cy;clear cy;go_wp2;go_ret;have Od:dL s (.br n a fo of cl bs r) = .go true (s1.1,s1.2++Qp cl [] [] bs):=by
     show Out.go true ((uj s n a (jT (.br n a fo of cl bs r))).1,(uj s n a (jT (.br n a fo of cl bs r))).2++Qp cl [] [] bs)=_;rw[O4.out,jX.out]
    rw[Od];exact⟨rfl,HI6.out⟩
  | true =>
   by_cases gY:kk=kv
   ·have j2:((kk:Int) !=(kv:Int))=false:=by simp[gY]
    have j3:(kk !=kv)=false:=by simp[gY]
    have Gw:=z7 gY;clear gY;obtain⟨W4,AM,Kc,jq⟩:=Ii.out.put fF n (by omega) (kv:Int) kv rfl (by omega) (by omega);have jX:=z7 (show uj s n a kv=(fun y=>if n=y then some kv else s.1 y,s.2) by unfold uj;rw[if_neg (fun e=>e.2.2 (by rw[p8.out];exact Gw.out)),if_pos R7.out]);have HF:=z7 (Js Kf.out Kc jq (room':=(room+1+bs.len)) BF (by omega));clear Kc jq;obtain⟨s1,uL⟩:∃ s1:Qr,((fun y=>if n=y then some kv else s.1 y,s.2):Qr)=s1:=⟨_,rfl⟩;rw[uL] at jX HF;clear uL;go_wp2_with fail;have q1:=HF.out.row;obtain⟨v1,q2,q3⟩:=q1;obtain⟨Rx,Rv,rfl⟩:=xd q3;have Mi:=z7 (fun W' hk=>YO b0 n a fo of cl bs W' hk Nn.out zk4.out);have Tq:=z7 q3;refine rk (fun W':World=>W'.cell? ⟨B,0,none⟩=some (.slice Rx (s1).2.length Rv)) 4 [0,1] 3 q2 ?_;(iterate 2 ((first|refine ty ?_|refine tn ?_);try simp only[pl]))
    refine xq ?_;refine Xf 2 (fun K hK=>?_);go_simp;refine(Mi.out W4.drew HF.out.keep.ar).mono ?_;rintro e W5 ⟨⟨vb,rfl,E7⟩,ju⟩;have Qb:Below W4.heap.size W4 W5:=(zv _ W4).drew.trans ju;have aw:=HF.out.below Qb;have q5:W5.cell? ⟨B,0,none⟩=some (.slice Rx (s1).2.length Rv):=(Qb.cell (z8 _ _ q2)).trans q2;have q6:=Tq.out.Vw Qb;have z5:=aw.fz;have HI5:=z7 aw;have nl:=z7 E7;clear aw E7;refine hK.out _ _ q5 (fun _=>?_);clear hK K;refine Xf 3 (fun K hK=>?_);rw[if_pos (by rfl)];refine KV _ _ rfl (B+3) _ _ vb (s1).2 (Qp cl [] [] bs) rfl q6 rfl nl.out ?w9X1 ?w9X2 ?w9X3
    case w9X1 =>
     have:=YP cl bs [] [];have:=HF.out.few;simp only[zg] at *;omega
    case w9X2=>have h:=z8 _ _ HF.out.kc;have:=Qb.size;dsimp only at h;omega
    case w9X3 =>
     intro v6 W6 bL Ru;have HF6:=z7 bL;have xV:∀ k,(zj Rx (s1).2.length Rv).ownBlock=some k->B+3<=k:=fun k hk=>(Tq.out.lt k hk).1
     have xc:∀ k,k<B+3->(some k:Option Nat)≠(zj Rx (s1).2.length Rv).ownBlock:=fun k h1 h2=>by have:=xV k h2.symm;omega
     have q7:=Ru.cell q5 (xc B (by omega));have q8:W6.frozen? ⟨B,0,none⟩=false:=(zu (a:=⟨B,0,none⟩) (Ru.block B (z8 _ _ q5) (xc B (by omega)))).trans z5;have cy:=Qd (room':=room) HI5.out Ru xV bL (by have:=YP cl bs [] [];simp only[zg] at this;omega);obtain⟨fa6,fc6,rfl⟩:=xd bL;refine hK.out _ _ q7 (fun _=>?_);clear hK K;refine DJ 4 (fun K hK=>?_);go_simp;refine hK.out _ _ ?_;clear hK K;refine DG ?_ _;rw[zk] at cy;have HI6:=z7 cy;clear cy;go_wp2;go_ret;have Od:dL s (.br n a fo of cl bs r) = .go true (s1.1,s1.2++Qp cl [] [] bs):=by
      show Out.go true ((uj s n a (jT (.br n a fo of cl bs r))).1,(uj s n a (jT (.br n a fo of cl bs r))).2++Qp cl [] [] bs)=_;rw[O4.out,jX.out]
     rw[Od];exact⟨rfl,HI6.out⟩
   ·have j2:((kk:Int) !=(kv:Int))=true:=by simp;omega
    have j3:(kk !=kv)=true:=by simp[gY]
    have Gw:=z7 gY;clear gY;go_wp2_with (at_builtin;refine jE ?_);intro W3 kT;have um:Below W2.heap.size W2 W3:=by rw[kT];exact(zv _ _).alloc (zy _) _
    have Qe:=fun i=>xu W2 #[.int .i64 5,.int .i64 (a:Nat)] 105 (0,0) i
    rw[←kT] at Qe;have av:=z7 (Kf.out.below um);have q3:=(um.cell (z8 _ _ hfc)).trans hfc;have pM:=z7 (JE.out.Vw um);have GC:=um.size;clear kT;refine qj kY rfl _ _ rfl (B+3) _ s.2.length (qt s.2) rfl pM.out ⟨W2.heap.size,0,none⟩ 1 1 [.int .i64 5,.int .i64 (a:Nat)] rfl rfl ?w10V1 ?w10V2 (by omega) (by omega) ?w10V3
    case w10V1=>exact VY (Qe 0) (Qe 1)
    case w10V2 =>
     intro u hu;simp at hu;rcases hu with rfl|rfl<;>rfl
    intro v4 w4 UT jq;have YY:vh (B+3) w4 v4 (s.2++[(5,a)]):=by unfold vh;rw[bh,zk];exact UT
    have xV:∀ k,(zj fa s.2.length fc).ownBlock=some k->B+3<=k:=fun k hk=>(JE.out.lt k hk).1
    have xc:∀ k,k<B+3->(some k:Option Nat)≠(zj fa s.2.length fc).ownBlock:=fun k h1 h2=>by have:=xV k h2.symm;omega
    have q4:=jq.cell q3 (xc B (by omega));have z4:w4.frozen? ⟨B,0,none⟩=false:=(World.frozen?_of_block (a:=⟨B,0,none⟩) (jq.block B (World.block_lt_of_cell? _ _ q3) (xc B (by omega)))).trans av.out.fz;have jX:=Lib.hid (show uj s n a kv=(s.1,s.2++[(5,a)]) by unfold uj;rw[if_pos ⟨R7.out,HBB.out,fun e=>Gw.out (p8.out.symm.trans e)⟩]);have HF:=Lib.hid (Qd (l:=[(5,a)]) (room':=(room+1+bs.len)) av.out jq xV YY (by simp<;>omega));obtain⟨fa4,fc4,rfl⟩:=xd YY;obtain⟨W4,Dq⟩:=xX (w4.setCell ⟨B,0,none⟩ (.slice fa4 (s.2.length+1) fc4));have Ly:(s.2++[(5,a)]).length=s.2.length+1:=by simp
    rw[Ly,Dq] at HF;have HW4:=z7 Dq;clear UT jq xV YY xc q3 pM Ly;obtain⟨s1,uL⟩:∃ s1:Qr,((s.1,s.2++[(5,a)]):Qr)=s1:=⟨_,rfl⟩;rw[uL] at jX HF;clear uL;go_wp2_with fail;clear Dq;have q1:=HF.out.row;obtain⟨v1,q2,q3⟩:=q1;obtain⟨Rx,Rv,rfl⟩:=xd q3;have Mi:=z7 (fun W' hk=>YO b0 n a fo of cl bs W' hk Nn.out zk4.out);have Tq:=z7 q3;refine rk (fun W':World=>W'.cell? ⟨B,0,none⟩=some (.slice Rx (s1).2.length Rv)) 4 [0,1] 3 q2 ?_;(iterate 2 ((first|refine ty ?_|refine tn ?_);try simp only[pl]))
    refine xq ?_;refine Xf 2 (fun K hK=>?_);go_simp;refine(Mi.out W4.drew HF.out.keep.ar).mono ?_;rintro e W5 ⟨⟨vb,rfl,E7⟩,ju⟩;have Qb:Below W4.heap.size W4 W5:=(zv _ W4).drew.trans ju;have aw:=HF.out.below Qb;have q5:W5.cell? ⟨B,0,none⟩=some (.slice Rx (s1).2.length Rv):=(Qb.cell (z8 _ _ q2)).trans q2;have q6:=Tq.out.Vw Qb;have z5:=aw.fz;have HI5:=z7 aw;have nl:=z7 E7;clear aw E7;refine hK.out _ _ q5 (fun _=>?_);clear hK K;refine Xf 3 (fun K hK=>?_);rw[if_pos (by rfl)];refine KV _ _ rfl (B+3) _ _ vb (s1).2 (Qp cl [] [] bs) rfl q6 rfl nl.out ?w10X1 ?w10X2 ?w10X3
    case w10X1 =>
     have:=YP cl bs [] [];have:=HF.out.few;simp only[zg] at *;omega
    case w10X2=>have h:=z8 _ _ HF.out.kc;have:=Qb.size;dsimp only at h;omega
    case w10X3 =>
     intro v6 W6 bL Ru;have HF6:=z7 bL;have xV:∀ k,(zj Rx (s1).2.length Rv).ownBlock=some k->B+3<=k:=fun k hk=>(Tq.out.lt k hk).1
     have xc:∀ k,k<B+3->(some k:Option Nat)≠(zj Rx (s1).2.length Rv).ownBlock:=fun k h1 h2=>by have:=xV k h2.symm;omega
     have q7:=Ru.cell q5 (xc B (by omega));have q8:W6.frozen? ⟨B,0,none⟩=false:=(zu (a:=⟨B,0,none⟩) (Ru.block B (z8 _ _ q5) (xc B (by omega)))).trans z5;have cy:=Qd (room':=room) HI5.out Ru xV bL (by have:=YP cl bs [] [];simp only[zg] at this;omega);obtain⟨fa6,fc6,rfl⟩:=xd bL;refine hK.out _ _ q7 (fun _=>?_);clear hK K;refine DJ 4 (fun K hK=>?_);go_simp;refine hK.out _ _ ?_;clear hK K;refine DG ?_ _;rw[zk] at cy;have HI6:=z7 cy;clear cy;go_wp2;go_ret;have Od:dL s (.br n a fo of cl bs r) = .go true (s1.1,s1.2++Qp cl [] [] bs):=by
      show Out.go true ((uj s n a (jT (.br n a fo of cl bs r))).1,(uj s n a (jT (.br n a fo of cl bs r))).2++Qp cl [] [] bs)=_;rw[O4.out,jX.out]
     rw[Od];exact⟨rfl,HI6.out⟩
def KU(m:Nat×Nat)(l:List (Nat×Nat)):Nat×Nat:=l.foldl (fun m x=>if x.2<m.2 then x else m) m
abbrev Ob(x:Nat×Nat):Value := .agg #[.int .i64 (x.1:Nat),.int .i64 (x.2:Nat)]
theorem OZ(x y:Nat×Nat)(w:World):Calls prog 118 #[Ob x,Ob y] w fun e w'=>e = .returned (.int .i64 (zV (x.2:Nat) (y.2:Nat)))/\Below w.heap.size w w':=by
 have HC:=z7 (fun W=>Tryz.cmp_Compare_int (x.2:Nat) (y.2:Nat) W);go_enter func118,ntmps118;go_wp2_with fail;refine(HC.out _).mono ?_;rintro e w' ⟨rfl,rfl⟩;go_wp2;go_ret;exact⟨rfl,((zv _ _).alloc (zy _) _).alloc (by simp) _⟩
theorem F4(l:List (Nat×Nat))(i:Nat)(h:i<l.length):(qt l)[i*2]? = some (.int .i64 (l[i].1:Nat))/\(qt l)[i*2+1]? = some (.int .i64 (l[i].2:Nat)):=by
 induction l generalizing i with
 | nil=>simp at h
 | cons a t ih =>
  cases i with
  | zero=>exact⟨rfl,rfl⟩
  | succ i =>
   have:=ih i (by simpa using h);have e1:(i+1)*2=i*2+2:=by omega
   have e2:qt (a::t) = .int .i64 (a.1:Nat) :: .int .i64 (a.2:Nat)::qt t:=rfl;rw[e1,e2];simpa using this
theorem Tk(m:Nat×Nat)(l:List (Nat×Nat))(i:Nat)(h:i<l.length):KU m (l.take (i+1))=if l[i].2<(KU m (l.take i)).2 then l[i] else KU m (l.take i):=by
 unfold KU;rw[zJ h,List.foldl_append];rfl
theorem Lx(x:Nat×Nat)(l:List (Nat×Nat))(base:Nat)(v:Value)(w:World)(hl:l.length<=2000000000)(hF:vh base w v (x::l)) :
  Calls prog 117 #[v,.func (.func 118) #[] #[]] w fun e w'=>e = .returned (Ob (KU x l))/\Below w.heap.size w w':=by
 obtain⟨g,cap,rfl,Ze,ft,xi⟩:=xl hF (by simp);obtain⟨n,hn⟩:=xX ((x::l).length);have CQ:=fun (args:Array Value) (w:World)=>enters_of func118 (by kernel_rfl) rfl args w
 have cu:=z7 (fun i (h:i<(x::l).length)=>And.intro ((xi (i*2) (by omega)).trans (F4 (x::l) i h).1) ((xi (i*2+1) (by omega)).trans (F4 (x::l) i h).2));have gh:=(cu.out 0 (by simp)).1;have qX:=(cu.out 0 (by simp)).2;simp only[Nat.zero_mul,Nat.zero_add,List.getElem_cons_zero] at gh qX;obtain⟨x1,x2⟩:=x;have Zk:n=l.length+1:=by rw[←hn];simp
 have j1:decide ((n:Int)<1)=false:=by simp;omega
 have HN:=z7 hn;rw[hn];have HN1:=z7 Zk;have hz:1<=n:=by omega
 have Uf:n<=2000000001:=by omega
 have hgw:g<w.heap.size:=ft;clear hF xi hn Zk;have jz:Below w.heap.size w ((w.alloc (.cells #[.int .i64 0,.int .i64 0] 105)).alloc (.cells #[.int .i64 x1,.int .i64 x2] 105)):=((zv _ _).alloc (zy _) _).alloc (by simp) _;have Dr:=fun i=>xu (w.alloc (.cells #[.int .i64 0,.int .i64 0] 105)) #[.int .i64 x1,.int .i64 x2] 105 (0,0) i
 have vv:∀ i,((w.alloc (.cells #[.int .i64 0,.int .i64 0] 105)).alloc (.cells #[.int .i64 x1,.int .i64 x2] 105)).cell? ⟨w.heap.size,i,none⟩=(#[.int .i64 0,.int .i64 0]:Array Value)[i]? := fun i=>by
  rw[zZ _ _ _ (by show w.heap.size<_;simp)];exact xu w _ _ _ _
 rw[show(w.alloc (.cells #[.int .i64 0,.int .i64 0] 105)).heap.size=w.heap.size+1 by simp] at Dr;have zk6:∀ i,((w.alloc (.cells #[.int .i64 0,.int .i64 0] 105)).alloc (.cells #[.int .i64 x1,.int .i64 x2] 105)).frozen? ⟨w.heap.size+1,i,none⟩=false:=fun i=>by
  rw[show w.heap.size+1=(w.alloc (.cells #[.int .i64 0,.int .i64 0] 105)).heap.size by simp];simp
 have zk7:∀ i,((w.alloc (.cells #[.int .i64 0,.int .i64 0] 105)).alloc (.cells #[.int .i64 x1,.int .i64 x2] 105)).frozen? ⟨w.heap.size,i,none⟩=false:=fun i=>by
  rw[zu (zL _ _ _ (by show w.heap.size<_;simp))];simp
 obtain⟨W0,Hz⟩:=xX ((w.alloc (.cells #[.int .i64 0,.int .i64 0] 105)).alloc (.cells #[.int .i64 x1,.int .i64 x2] 105));rw[Hz] at jz Dr vv zk7 zk6;have HB0:=z7 jz;have HW0:=z7 Hz;have HM0:=z7 Dr;have gX:=z7 vv;have HF0:=z7 zk7;have VD:=z7 zk6;clear jz Dr vv zk7 zk6 Hz;go_enter func117,ntmps117;go_wp2_with fail;clear gh qX;go_loopw [6] (fun iv wr=>∃ (i:Nat) (m:Nat×Nat),iv = .int .i64 (i:Nat)/\1<=i/\i<=n/\KU (x1,x2) (l.take (i - 1))=m/\wr.cell? ⟨w.heap.size+1,0,none⟩=some (.int .i64 (m.1:Nat))/\wr.cell? ⟨w.heap.size+1,1,none⟩=some (.int .i64 (m.2:Nat))/\(∀ i,wr.frozen? ⟨w.heap.size+1,i,none⟩=false) /\
  (∃ u v,wr.cell? ⟨w.heap.size,0,none⟩=some u/\wr.cell? ⟨w.heap.size,1,none⟩=some v)/\(∀ i,wr.frozen? ⟨w.heap.size,i,none⟩=false)/\Below w.heap.size w wr) (fun iv _=>n - (intOf iv).toNat)
 case atStart =>
  rw[HW0.out];exact⟨1,(x1,x2),rfl,zy _,hz,rfl,HM0.out 0,HM0.out 1,VD.out,⟨_,_,gX.out 0,gX.out 1⟩,HF0.out,HB0.out⟩
 case round =>
  obtain⟨i,m,rfl,UN,dp,hm,gh,qX,Uu,⟨u0,v0,vv,Xv⟩,Qn,qG⟩:=hrel;obtain⟨m1,m2⟩:=m;dsimp only at gh qX;have HM:=z7 hm;have HZ1:=z7 Uu;have HZ0:=z7 Qn;have IP:=z7 qG;clear hm qG;by_cases xD:i<n
  ·have k2:decide ((i:Int)<(n:Int))=true:=by simp;omega
   have hlen:i<((x1,x2)::l).length:=by rw[HN.out];exact xD
   obtain⟨d0,d1⟩:=cu.out i hlen;have hli:((x1,x2)::l)[i]=l[i - 1]'(by have:=HN1.out;omega):=by
    obtain⟨k,rfl⟩:∃ k,i=k+1:=⟨i - 1,by omega⟩;simp
   rw[hli] at d0 d1;obtain⟨y,hy⟩:∃ y,l[i - 1]'(by have:=HN1.out;omega)=y:=⟨_,rfl⟩;rw[hy] at d0 d1;have qs:=z7 (show KU (x1,x2) (l.take i)=if y.2<m2 then y else (m1,m2) by
    have h:=Tk (x1,x2) l (i - 1) (by have:=HN1.out;omega);rw[show i - 1+1=i by omega,HM.out,hy] at h;exact h)
   obtain⟨y1,y2⟩:=y;dsimp only at d0 d1 qs;have e0:=(IP.out.cell (p:=⟨g,i*2,none⟩) hgw).trans d0;have e1:=(IP.out.cell (p:=⟨g,i*2+1,none⟩) hgw).trans d1;have hCM:=z7 (fun W=>OZ (y1,y2) (m1,m2) W);have jo:wr.drew.cell? ⟨g,i*2,none⟩=some (.int .i64 (y1:Nat))/\wr.drew.cell? ⟨g,i*2+1,none⟩=some (.int .i64 (y2:Nat))/\wr.drew.cell? ⟨w.heap.size+1,0,none⟩=some (.int .i64 (m1:Nat))/\wr.drew.cell? ⟨w.heap.size+1,1,none⟩=some (.int .i64 (m2:Nat)):=⟨e0,e1,gh,qX⟩;clear d0 d1 hy hli hlen;go_wp2_with fail;refine rt (fun W':World=>W'.cell? ⟨g,i*2,none⟩=some (.int .i64 (y1:Nat))/\W'.cell? ⟨g,i*2+1,none⟩=some (.int .i64 (y2:Nat))/\W'.cell? ⟨w.heap.size+1,0,none⟩=some (.int .i64 (m1:Nat))/\W'.cell? ⟨w.heap.size+1,1,none⟩=some (.int .i64 (m2:Nat))) [0,1,2,3,4,5] 2 jo ?_;(iterate 6 ((first|refine ty ?_|refine tn ?_);try simp only[pl]))
   refine xq ?_;refine kR 6 (fun K hK=>?_);go_simp;refine(hCM.out wr.drew).mono ?_;rintro e w2 ⟨rfl,xF⟩;have VN:Below wr.heap.size wr w2:=(zv _ wr).drew.trans xF;have Cl:w.heap.size+1<wr.heap.size:=z8 _ _ gh;have bV:(y2<m2/\zV (y2:Int) (m2:Int) = -1)\/(¬y2<m2/\zV (y2:Int) (m2:Int)=0)\/(¬y2<m2/\zV (y2:Int) (m2:Int)=1):=by
    unfold zV;by_cases h:(y2:Int)<(m2:Int)
    ·exact .inl ⟨by omega,if_pos h⟩
    ·by_cases h2:(y2:Int) > (m2:Int)
     ·exact .inr (.inr ⟨by omega,by rw[if_neg h,if_pos h2]⟩)
     ·exact .inr (.inl ⟨by omega,by rw[if_neg h,if_neg h2]⟩)
   dsimp only;have f0:=(VN.cell (p:=⟨w.heap.size+1,0,none⟩) Cl).trans gh;have f1:=(VN.cell (p:=⟨w.heap.size+1,1,none⟩) Cl).trans qX;have f2:=(VN.cell (p:=⟨g,i*2,none⟩) (by show g<_;omega)).trans e0;have f3:=(VN.cell (p:=⟨g,i*2+1,none⟩) (by show g<_;omega)).trans e1;have g0:=(VN.cell (p:=⟨w.heap.size,0,none⟩) (by show w.heap.size<_;omega)).trans vv;have g1:=(VN.cell (p:=⟨w.heap.size,1,none⟩) (by show w.heap.size<_;omega)).trans Xv;have z1:∀ i,w2.frozen? ⟨w.heap.size+1,i,none⟩=false:=fun i=>(VN.frozen (p:=⟨w.heap.size+1,i,none⟩) Cl).trans (HZ1.out i)
   have z0:∀ i,w2.frozen? ⟨w.heap.size,i,none⟩=false:=fun i=>(VN.frozen (p:=⟨w.heap.size,i,none⟩) (by show w.heap.size<_;omega)).trans (HZ0.out i)
   have VE:=IP.out.trans (VN.mono (by omega));have zk8:=z7 z1;have zk9:=z7 z0;have y0:=z1 0;have y1':=z1 1;clear z1 z0 jo e0 e1 gh qX vv Xv VN;rcases bV with⟨hy,bV⟩|⟨hy,bV⟩|⟨hy,bV⟩
   ·rw[bV];have HS:=z7 (qs.out.trans (if_pos hy));clear bV hy;refine hK.out _ _ ⟨f2,f3,f0,f1⟩ (fun _=>?_);clear hK K;refine Vv [7] 0 ⟨f2,f3,f0,f1⟩ ?_;(iterate 1 ((first|refine ty ?_|refine tn ?_);try simp only[pl]))
    refine xq ?_;refine bX ?_ _;go_wp2;go_roundw
    case rel =>
     exact⟨i+1,(y1,y2),by simp,by omega,by omega,by rw[zQ];exact HS.out,by rw[xg,if_neg (by simp),xg,if_pos rfl,f0];rfl,by rw[xg,if_pos rfl,xg,if_neg (by simp),f1];rfl,
      fun j=>by rw[zf,zf];exact zk8.out j,⟨_,_,(by rw[xg,if_neg (by simp),xg,if_neg (by simp)];exact g0),(by rw[xg,if_neg (by simp),xg,if_neg (by simp)];exact g1)⟩,
      fun j=>by rw[zf,zf];exact zk9.out j,vo (vo VE (by omega)) (by omega)⟩
    case measure=>simp only[intOf];omega
   ·rw[bV];have HS:=z7 (qs.out.trans (if_neg hy));clear bV hy;refine hK.out _ _ ⟨f2,f3,f0,f1⟩ (fun _=>?_);clear hK K;refine Vv [7] 0 ⟨f2,f3,f0,f1⟩ ?_;(iterate 1 ((first|refine ty ?_|refine tn ?_);try simp only[pl]))
    refine xq ?_;refine bX ?_ _;go_wp2;go_roundw
    case rel =>
     exact⟨i+1,(m1,m2),by simp,by omega,by omega,by rw[zQ];exact HS.out,f0,f1,zk8.out,⟨_,_,g0,g1⟩,zk9.out,VE⟩
    case measure=>simp only[intOf];omega
   ·rw[bV];have HS:=z7 (qs.out.trans (if_neg hy));clear bV hy;refine hK.out _ _ ⟨f2,f3,f0,f1⟩ (fun _=>?_);clear hK K;refine Vv [7] 0 ⟨f2,f3,f0,f1⟩ ?_;(iterate 1 ((first|refine ty ?_|refine tn ?_);try simp only[pl]))
    refine xq ?_;refine bX ?_ _;go_wp2;go_roundw
    case rel =>
     exact⟨i+1,(m1,m2),by simp,by omega,by omega,by rw[zQ];exact HS.out,f0,f1,zk8.out,⟨_,_,g0,g1⟩,zk9.out,VE⟩
    case measure=>simp only[intOf];omega
  ·have k2:decide ((i:Int)<(n:Int))=false:=by simp;omega
   have vA:KU (x1,x2) l=(m1,m2):=by
    rw[←HM.out,List.take_of_length_le (by have:=HN1.out;omega)]
   have kM:=z7 vA;have z00:=Qn 0;have z01:=Qn 1;clear vA Qn Uu;have k0:((wr.setCell ⟨w.heap.size,0,none⟩ (.int .i64 (m1:Nat))).setCell ⟨w.heap.size,1,none⟩ (.int .i64 (m2:Nat))).cell? ⟨w.heap.size,0,none⟩=some (.int .i64 (m1:Nat)):=by rw[xg,if_neg (by simp),xg,if_pos rfl,vv];rfl
   have k1:((wr.setCell ⟨w.heap.size,0,none⟩ (.int .i64 (m1:Nat))).setCell ⟨w.heap.size,1,none⟩ (.int .i64 (m2:Nat))).cell? ⟨w.heap.size,1,none⟩=some (.int .i64 (m2:Nat)):=by rw[xg,if_pos rfl,xg,if_neg (by simp),Xv];rfl
   go_wp2;refine bodyPost_ret (v := .agg #[.int .i64 (m1:Nat),.int .i64 (m2:Nat)]) ?_ rfl ?_
   ·simp[results,results117,go_sem,k0,k1]
   rw[kM.out];exact⟨rfl,vo (vo IP.out (zy _)) (zy _)⟩
theorem OY(s:Qr)(x:Fo):∃ s',dL s x = .go true s':=by
 cases x<;>exact⟨_,rfl⟩
theorem kX:∀ (f:Fo) (s:Qr),∃ s',vP dL f s = .go true s'
 | .nil,s=>⟨s,rfl⟩
 | .text _ r,s=>kX r s
 | .hash r,s=>kX r s
 | .put n a r,s=>by
  obtain⟨s1,h1⟩:=OY s (.put n a .nil);rw[vP,h1];exact kX r s1
 | .num n a r,s=>by
  obtain⟨s1,h1⟩:=OY s (.num n a .nil);rw[vP,h1];exact kX r s1
 | .br n a f o c bs r,s=>by
  obtain⟨s1,h1⟩:=OY s (.br n a f o c bs .nil);obtain⟨s2,h2⟩:=kX bs s1;rw[vP,h1];show ∃ s',(vP dL bs s1).then _=_;rw[h2];exact kX r s2
 | .uf k a m r,s=>by
  obtain⟨s1,h1⟩:=kX m s;rw[vP,h1];exact kX r s1
def je(f:Fo):List (Nat×Nat):=match vP dL f (fun _=>none,[]) with | .go _ s=>s.2 | .CS _ s=>s.2
def ZP(f:Fo):Option (Nat×Nat):=match je f with | []=>none|x::l=>some (KU x l)
def ybu(r:Option (Nat×Nat))(w:World)(e:Ending)(w':World):Prop :=
 (match r with
  | none=>e = .returned .nilIface
  | some (n,a)=>∃ b,e = .returned (.iface 101 (.pointer (some ⟨b,0,none⟩)))/\w'.cell? ⟨b,0,none⟩=some (.int .i64 n)/\w'.cell? ⟨b,1,none⟩=some (.int .i64 a))/\Below w.heap.size w w'
theorem Tj{lo hi:Nat}(f:Fo)(a:Option Addr)(c:Nat)(vs:List Value)(w:World)(hm:f.vG=true)(hw:f.wf 2000000=true)(hl:f.len<=2000000)(hc:f.cnt<=1000000000)(vD:U5 lo hi w a vs)(kE:xY lo hi w vs f)(Zi:hi<=w.heap.size) :
  Calls prog 79 #[.slice a f.len c] w (ybu (ZP f) w):=by
 have MA:=@run_makeMap prog;have Sk:∀ (fn:Fn) (first cap:Array Value) (w:World),(zO fn first cap).run prog w = .ok (.func fn first cap) w:=fun _ _ _ _=>rfl
 obtain⟨B,hB⟩:=xX w.heap.size;have HB:=z7 hB;have hY:NO lo hi w (.func (.func 114) #[] #[.pointer (some ⟨B+2,0,none⟩),.pointer (some ⟨B,0,none⟩)]) (XR lo hi w B w) dL :=
  ⟨⟨_,_,rfl,fun args w=>enters_of func114 (by kernel_rfl) rfl args w,fun s room W x u n a hI XI Jp hh=>pN x u n a s room W hI XI Jp hh⟩,fun s b W h=>h.keep,fun s b W W' h hb=>h.below hb,fun s b b' W h hb=>h.less hb⟩
 have HE:=z7 (fun W hI=>IA hY (SizeOf.sizeOf f+1) f (Nat.lt_succ_self _) hm hw hl ((fun _=>none),[]) 0 W a c vs hI vD kE);obtain⟨s,hs⟩:=kX f ((fun _=>none),[]);rw[hs] at HE;have Wl:je f=s.2:=by unfold je;rw[hs]
 have AZ:=z7 (show ZP f=match s.2 with | []=>none|x::l=>some (KU x l) by unfold ZP;rw[Wl]);have VV:∀ o1 o2 o3,((w.alloc o1).alloc o2).alloc o3=((w.alloc o1).alloc o2).alloc o3:=fun _ _ _=>rfl
 have hI0:XR lo hi w B w ((fun _=>none),[]) (0+f.cnt) (((w.alloc (.cells #[.slice none 0 0] 253)).alloc (.map #[] 0)).alloc (.cells #[.map (some (B+1))] 254)):=by
  have h1:(w.alloc (.cells #[.slice none 0 0] 253)).heap.size=B+1:=by simp[hB]
  have h2:((w.alloc (.cells #[.slice none 0 0] 253)).alloc (.map #[] 0)).heap.size=B+2:=by simp[hB]
  have b1:Below w.heap.size w (w.alloc (.cells #[.slice none 0 0] 253)):=(zv _ _).alloc (zy _) _;have b2:=fun o=>(zv (w.alloc (.cells #[.slice none 0 0] 253)).heap.size (w.alloc (.cells #[.slice none 0 0] 253))).alloc (zy _) o
  have b3:=fun o=>(zv ((w.alloc (.cells #[.slice none 0 0] 253)).alloc (.map #[] 0)).heap.size ((w.alloc (.cells #[.slice none 0 0] 253)).alloc (.map #[] 0))).alloc (zy _) o
  have bb:=(b1.trans ((b2 (.map #[] 0)).mono (by omega))).trans ((b3 (.cells #[.map (some (B+1))] 254)).mono (by omega));have c1:=xu w #[.slice none 0 0] 253 (0,0) 0;rw[hB] at c1;have Uu:(w.alloc (.cells #[.slice none 0 0] 253)).frozen? ⟨B,0,none⟩=false:=by rw[←hB];simp
  have c2:=kW.made 255 (w.alloc (.cells #[.slice none 0 0] 253));rw[h1] at c2;have c3:=xu ((w.alloc (.cells #[.slice none 0 0] 253)).alloc (.map #[] 0)) #[.map (some (B+1))] 254 (0,0) 0;rw[h2] at c3;refine⟨(vx (by omega)).below bb,by omega,⟨0,c2.below (b3 _),by omega⟩,⟨.slice none 0 0,?_,zE _ _ _ _⟩,c3,?_,by simp;omega,by have h:=bb;rw[hB] at h;exact h⟩
  ·rw[(b3 _).cell (p:=⟨B,0,none⟩) (by show B<_;omega),(b2 _).cell (p:=⟨B,0,none⟩) (by show B<_;omega)];exact c1
  ·rw[(b3 _).frozen (p:=⟨B,0,none⟩) (by show B<_;omega),(b2 _).frozen (p:=⟨B,0,none⟩) (by show B<_;omega)];exact Uu
 have HI0:=z7 hI0;clear hI0 hs Wl hY VV vD kE;go_enter func79,ntmps79;go_wp2_with fail;refine(HE.out _ HI0.out).mono ?_;rintro e w2 ⟨rfl,hI2⟩;obtain⟨v,hc,hF⟩:=hI2.row;obtain⟨fa,fc,rfl⟩:=xd hF;have HF:=z7 hF;have Ce:Below w.heap.size w w2:=by rw[HB.out];exact hI2.L8
 have ah:=hI2.few;clear hI2 hF HE HI0;obtain⟨s1,l⟩:=s;dsimp only at *
 cases l with
 | nil =>
  have HX:=z7 (show ZP f=none from AZ.out);go_wp2;go_ret;rw[HX.out];exact⟨rfl,Ce⟩
 | cons x l =>
  have HX:=Lib.hid (show ZP f=some (KU x l) from AZ.out);have hlen:(x::l).length=l.length+1:=rfl;rw[hlen] at hc;have j1:(((l.length+1:Nat):Int)==0)=false:=by simp;omega
  have HMI:=z7 (Lx x l (B+3) (.slice fa (l.length+1) fc) w2 (by simp at ah;omega) HF.out);clear hlen ah;go_wp2_with fail;refine HMI.out.mono ?_;rintro e w3 ⟨rfl,uP⟩;obtain⟨m,Dr⟩:=xX (KU x l);obtain⟨m1,m2⟩:=m;rw[Dr] at HX ⊢;clear Dr;have zz5:=Ce.trans (uP.mono Ce.size);have um:=(zv w3.heap.size w3).alloc (zy _) (.cells #[.int .i64 m1,.int .i64 m2] 105);have jy:=fun i=>xu w3 #[.int .i64 m1,.int .i64 m2] 105 (0,0) i
  go_wp2;go_ret;rw[HX.out];exact⟨⟨_,rfl,jy 0,jy 1⟩,zz5.trans (um.mono zz5.size)⟩
theorem Fo.YS{N:Nat}:∀ f g:Fo,f.wf N=true->g.wf N=true->(f.app g).wf N=true
 | .nil,g,_,h=>h
 | .text t r,g,h,h2=>Fo.YS r g h h2
 | .hash r,g,h,h2=>Fo.YS r g h h2
 | .put n a r,g,h,h2=>by
  simp only[Fo.wf,Fo.app,zx] at h ⊢;exact⟨h.1,Fo.YS r g h.2 h2⟩
 | .num n a r,g,h,h2=>by
  simp only[Fo.wf,Fo.app,zx] at h ⊢;exact⟨h.1,Fo.YS r g h.2 h2⟩
 | .br n a f o c b r,g,h,h2=>by
  simp only[Fo.wf,Fo.app,zx] at h ⊢;exact⟨h.1,Fo.YS r g h.2 h2⟩
 | .uf k a m r,g,h,h2=>by
  simp only[Fo.wf,Fo.app,zx] at h ⊢;exact⟨h.1,Fo.YS r g h.2 h2⟩
theorem Fo.bz:∀ f g:Fo,(f.app g).cnt=f.cnt+g.cnt
 | .nil,g=>by simp[Fo.app,Fo.cnt]
 | .text t r,g=>Fo.bz r g
 | .hash r,g=>Fo.bz r g
 | .put n a r,g=>by simp only[Fo.app,Fo.cnt,Fo.bz r g];omega
 | .num n a r,g=>by simp only[Fo.app,Fo.cnt,Fo.bz r g];omega
 | .br n a f o c b r,g=>by simp only[Fo.app,Fo.cnt,Fo.bz r g];omega
 | .uf k a m r,g=>by simp only[Fo.app,Fo.cnt,Fo.bz r g];omega
structure jf(f:Fo)(n:Nat):Prop where
 msg:f.vG=true
 wf:f.wf 2000000=true
 len:f.len<=n
 cnt:f.cnt<=n
theorem jf.nil:jf .nil 0:=⟨rfl,rfl,zy _,zy _⟩
theorem jf.app{f g:Fo}{n m:Nat}(h:jf f n)(k:jf g m):jf (f.app g) (n+m) :=
 ⟨Fo.uT _ _ h.msg k.msg,Fo.YS _ _ h.wf k.wf,by rw[Fo.ub];have:=h.len;have:=k.len;omega,by rw[Fo.bz];have:=h.cnt;have:=k.cnt;omega⟩
theorem jf.text(t:Wd):jf (.text t .nil) 1:=⟨rfl,rfl,zy _,zG _⟩
theorem jf.more{f:Fo}{n m:Nat}(h:jf f n)(k:n<=m):jf f m:=⟨h.msg,h.wf,zX h.len k,zX h.cnt k⟩
theorem UZ{N:Nat}:∀ (f g:Fo),(f.app g).wf N=true->f.wf N=true
 | .nil,g,_=>rfl
 | .text t r,g,h=>UZ r g h
 | .hash r,g,h=>UZ r g h
 | .put n a r,g,h=>by
  simp only[Fo.wf,Fo.app,zx] at h ⊢;exact⟨h.1,UZ r g h.2⟩
 | .num n a r,g,h=>by
  simp only[Fo.wf,Fo.app,zx] at h ⊢;exact⟨h.1,UZ r g h.2⟩
 | .br n a f o c b r,g,h=>by
  simp only[Fo.wf,Fo.app,zx] at h ⊢;exact⟨h.1,UZ r g h.2⟩
 | .uf k a m r,g,h=>by
  simp only[Fo.wf,Fo.app,zx] at h ⊢;exact⟨h.1,UZ r g h.2⟩
theorem jf.xL{f:Fo}{n:Nat}(h:jf f n)(t:Wd):jf (f.xL t) (n+1):=by
 cases hl:f.xG with
 | none=>rw[ug f t hl];exact h.app (jf.text t)
 | some s =>
  obtain⟨pre,h1,h2,h3⟩:=ux f s hl;have hw:=h.wf;have hlen:=h.len;have ZY:=h.cnt;rw[h1] at hw hlen ZY;rw[h3];refine⟨Fo.uT _ _ (h2 h.msg) rfl,Fo.YS _ _ (UZ _ _ hw) rfl,?_,?_⟩
  ·rw[Fo.ub] at hlen ⊢;simp only[Fo.len] at hlen ⊢;omega
  ·rw[Fo.bz] at ZY ⊢;simp only[Fo.cnt] at ZY ⊢;omega
structure Rq(f:Fo)(n:Nat):Prop where
 pO:f.uv=true
 wf:f.wf 2000000=true
 cnt:f.cnt+f.len<=n
def QZ(rs:List Int)(m:kC):Prop:=∀ num i f j,m num i = .ok (f,j)->i<=j/\jf f (j - i)
theorem Rk{rs:List Int}{i:Nat}{r:Int}(h:xU rs i=r)(hr:r≠-1):i<rs.length:=by
 apply zY;intro hc;rw[kD (by omega)] at h;exact hr h.symm
section
variable {rs:List Int} (ZM:rs.length<=1000000)
include ZM
theorem BD{i j:Nat}{x:Wd}(h:gu rs i = .ok (x,j)):x.length<=4000000/\i<j:=by
 refine⟨?_,gq h⟩;unfold gu at h;split at h
 ·cases h
 ·cases h;have:=bR rs i (ql rs i);omega
theorem OX{i j:Nat}{x:Wd}(h:kZ rs i = .ok (x,j)):x.length<=4000000/\i<j:=by
 refine⟨?_,YK h⟩;unfold kZ at h;split at h
 ·cases h
 ·cases h;have:=bR rs i (qu rs i);omega
theorem cg{num:Bool}{i j:Nat}{x:Wd}(h:K9 rs num i = .ok (x,j)):x.length<=4000001/\i<j:=by
 unfold K9 at h;split at h
 ·obtain⟨a,q,h1,h2⟩:=xf h
  cases h2;have:=OX ZM h1;simp;omega
 ·obtain⟨a,q,h1,h2⟩:=xf h;split at h2
  ·cases h2
  ·cases h2;have:=BD ZM h1;omega
theorem Tg{msg:Option kC}{num:Bool}{i j:Nat}{f:Fo}(hm:∀ m,msg=some m->QZ rs m)(h:X2 rs msg num i = .ok (f,j)):i<j/\Rq f (j - i)/\f.len=1:=by
 unfold X2 at h;obtain⟨k,a,h1,h2⟩:=xf h;obtain⟨u,b,h3,h4⟩:=xf h2;have e1:=cg ZM h1;have e2:=(xO h3).2;have e3:=xN rs a
 cases msg with
 | none=>cases h4
 | some m =>
  obtain⟨g,c,h5,h6⟩:=xf (show(m num b).then _=_ from h4);obtain⟨u2,z,h7,h8⟩:=xf h6;obtain⟨e4,hg⟩:=hm m rfl _ _ _ _ h5;have e5:=xO h7;have e6:=xN rs z;have e7:=Rk e5.1 (by decide)
  cases h8;have hl:=hg.len;have hc:=hg.cnt;refine⟨by omega,⟨rfl,?_,?_⟩,rfl⟩
  ·have hml:g.len<=2000000:=by omega
   simp only[Fo.wf,zx,decide_eq_true_eq];exact⟨⟨⟨⟨by omega,hg.msg⟩,hml⟩,hg.wf⟩,trivial⟩
  ·simp only[Fo.cnt,Fo.len];omega
theorem F5{msg:Option kC}{num:Bool}(hm:∀ m,msg=some m->QZ rs m):∀ (n:Nat) (acc:Fo) (i j b:Nat) (f:Fo),jN rs msg num n acc i = .ok (f,j)->Rq acc b->i<=j/\Rq f (b+(j - i))
 | 0,acc,i,j,b,f,h,_=>by cases h
 | n+1,acc,i,j,b,f,h,ha=>by
  rw[jN] at h;split at h
  ·cases h;exact⟨zy _,by simpa using ha⟩
  ·obtain⟨g,q,h1,h2⟩:=xf h;obtain⟨e1,hg,_⟩:=Tg ZM hm h1;have hag:Rq (acc.app g) (b+(q - i)):=⟨Fo.bS _ _ ha.pO hg.pO,Fo.YS _ _ ha.wf hg.wf,by rw[Fo.bz,Fo.ub];have:=ha.cnt;have:=hg.cnt;omega⟩;obtain⟨e2,hf⟩:=F5 hm n _ _ _ _ _ h2 hag;exact⟨by omega,⟨hf.pO,hf.wf,by have:=hf.cnt;omega⟩⟩
theorem Tf{msg:Option kC}{i j:Nat}{f:Fo}(hm:∀ m,msg=some m->QZ rs m)(h:YX rs msg i = .ok (f,j)):i<j/\jf f (j - i):=by
 unfold YX at h;obtain⟨u,a,h1,h2⟩:=xf h;obtain⟨nm,b,h3,h4⟩:=xf h2;have e1:=(xO h1).2;have e2:=xN rs a;have e3:=BD ZM h3;have e4:=xN rs b;clear h h1 h2 h3;split at h4
 ·obtain⟨u,z,h5,h6⟩:=xf h4;have:=(xO h5).2
  cases h6;refine⟨by omega,rfl,?_,by simp[Fo.len];omega,by simp[Fo.cnt];omega⟩;simp only[Fo.wf,zx,decide_eq_true_eq];exact⟨by omega,trivial⟩
 ·obtain⟨wd,c,h5,h6⟩:=xf h4;have e5:=gq h5;have e6:=xN rs (xr rs b+1);have e7:=xN rs c;clear h4 h5;split at h6
  ·obtain⟨u,z,h7,h8⟩:=xf h6;have:=(xO h7).2
   cases h8;refine⟨by omega,rfl,?_,by simp[Fo.len];omega,by simp[Fo.cnt];omega⟩;simp only[Fo.wf,zx,decide_eq_true_eq];exact⟨by omega,trivial⟩
  ·split at h6
   ·cases h6
   ·next form Rj =>
    obtain⟨u,d,h7,h8⟩:=xf h6;obtain⟨o,l,h9,dw⟩:=xf h8;obtain⟨bs,q,Jc,Gj⟩:=xf dw;obtain⟨u,z,oJ,oG⟩:=xf Gj;have:=(xO h7).2;have:=xN rs d;have:=CC h9;obtain⟨e8,hb⟩:=F5 ZM hm _ _ _ _ 0 _ Jc ⟨rfl,rfl,zy _⟩;have e9:=xO oJ;have e10:=Rk e9.1 (by decide);have DN:=hb.cnt;have Uw:=GF Rj
    cases oG;refine⟨by omega,rfl,?_,by simp[Fo.len];omega,by simp[Fo.cnt];omega⟩;simp only[Fo.wf,zx,decide_eq_true_eq];exact⟨⟨⟨⟨⟨by omega,Uw⟩,hb.pO⟩,by omega⟩,hb.wf⟩,trivial⟩
theorem bw{msg:Option kC}{num:Bool}(hm:∀ m,msg=some m->QZ rs m):∀ (n:Nat) (acc:Fo) (i j b:Nat) (f:Fo),qC rs msg num n acc i = .ok (f,j)->jf acc b->i<=j/\jf f (b+(j - i))
 | 0,acc,i,j,b,f,h,_=>by cases h
 | n+1,acc,i,j,b,f,h,ha=>by
  rw[qC] at h;split at h
  ·cases h;exact⟨zy _,by simpa using ha⟩
  split at h
  ·obtain⟨g,q,h1,h2⟩:=xf h;obtain⟨e1,hg⟩:=Tf ZM hm h1;obtain⟨e2,hf⟩:=bw hm n _ _ _ _ _ h2 (ha.app hg);exact⟨by omega,hf.more (by omega)⟩
  split at h
  ·obtain⟨e2,hf⟩:=bw hm n _ _ _ _ _ h (ha.app (g := .hash .nil) (m:=1) ⟨rfl,rfl,zy _,zG _⟩);exact⟨by omega,hf.more (by omega)⟩
  ·have:=Us rs num i;obtain⟨e2,hf⟩:=bw hm n _ _ _ _ _ h (ha.xL _);exact⟨by omega,hf.more (by omega)⟩
theorem BB:∀ n,QZ rs (YV rs n)
 | 0,num,i,f,j,h=>by
  rw[YV] at h;have:=bw ZM (fun m e=>by cases e) _ _ _ _ 0 _ h jf.nil;simpa using this
 | n+1,num,i,f,j,h=>by
  rw[YV] at h;have:=bw ZM (fun m e=>by cases e;exact BB n) _ _ _ _ 0 _ h jf.nil;simpa using this
end
theorem bJ{rs:List Int}{msg:Option kC}{num:Bool}:∀ (n:Nat) (acc:Fo) (i j:Nat) (f:Fo),qC rs msg num n acc i = .ok (f,j)->i<=rs.length->j<=rs.length
 | 0,acc,i,j,f,h,_=>by cases h
 | n+1,acc,i,j,f,h,hi=>by
  rw[qC] at h;split at h
  ·cases h;exact hi
  next h0 =>
  have xD:i<rs.length:=by
   apply zY;intro hc;exact h0 (.inl (kD (by omega)))
  split at h
  ·obtain⟨g,q,h1,h2⟩:=xf h;exact bJ n _ _ _ _ h2 (Bg h1).2
  split at h
  ·exact bJ n _ _ _ _ h xD
  ·exact bJ n _ _ _ _ h (Iy xD).2
theorem XS{l:List UInt8}{f:Fo}(h:uJ l = .ok f):jf f 1000:=by
 unfold uJ at h;split at h
 ·cases h
 split at h
 ·cases h
 next h1 _ =>
 have ZM:=Vd l;have hr:(xm l).length<=1000:=by omega
 cases hp:YU (xm l) with
 | error e=>rw[hp] at h;cases h
 | ok x =>
  rw[hp] at h
  cases h;unfold YU at hp;obtain⟨g,q,h2,h3⟩:=xf (show _=Except.ok (x.1,x.2) from hp);have hg:=(BB (by omega) 5 _ _ _ _ h2).2;have he:q<=(xm l).length:=bJ _ _ _ _ _ h2 (zG _);split at h3
  ·cases h3;exact hg.more (by omega)
  ·cases h3
def jF(l:List UInt8):Except (Nat×Nat) Fo :=
 match uJ l with
 | .error e => .error e
 | .ok f=>match ZP f with|none => .ok f|some e => .error e
def zng(r:Except (Nat×Nat) Fo)(w:World)(e:Ending)(w':World):Prop :=
 (match r with
  | .error (n,a)=>∃ v b,e = .returned (.tuple #[v,.iface 101 (.pointer (some ⟨b,0,none⟩))])/\(∃ a n c,v = .slice a n c)/\w'.cell? ⟨b,0,none⟩=some (.int .i64 n)/\w'.cell? ⟨b,1,none⟩=some (.int .i64 a)
  | .ok f=>(∃ a c vs,e = .returned (.tuple #[.slice a f.len c,.nilIface])/\U5 w.heap.size w'.heap.size w' a vs/\xY w.heap.size w'.heap.size w' vs f)/\jf f 1000)/\Below w.heap.size w w'
theorem cZ(s:ByteArray)(w:World)(hs:s.size<=9223372036854775807)(hT:Lib.Utf8Tabs 3 4 w)(hN:qd w) :
  Calls prog 47 #[.string s] w (zng (jF s.data.toList) w):=by
 have HP:=z7 (SD s w hs hT hN);have HR:=z7 (show jF s.data.toList=match uJ s.data.toList with | .error e => .error e | .ok f=>match ZP f with|none => .ok f|some e => .error e from rfl);have HG:=z7 (fun f=>XS (l:=s.data.toList) (f:=f));obtain⟨r,hr⟩:=xX (uJ s.data.toList);rw[hr] at HP HR HG;clear hT hN hr;go_enter func47,ntmps47;go_wp2_with fail;refine HP.out.mono ?_;rintro e w1 ⟨hq,xB⟩;clear HP
 cases r with
 | error en =>
  obtain⟨n,a⟩:=en;obtain⟨b,rfl,c0,c1⟩:=hq;have HX:=z7 (show jF s.data.toList = .error (n,a) from HR.out);go_wp2;go_ret2
  rw[HX.out];exact⟨⟨_,b,rfl,⟨_,_,_,rfl⟩,c0,c1⟩,xB⟩
 | ok f =>
  obtain⟨⟨a,c,vs,rfl,vD,kE⟩,JG⟩:=hq;have hg:=HG.out f rfl;have qV:=z7 vD;have YQ:=z7 kE;have HGG:=z7 hg;have HC:=z7 (Tj f a c vs w1 hg.msg hg.wf (by have:=hg.len;omega) (by have:=hg.cnt;omega) vD kE (zy _));have HX:=z7 (show jF s.data.toList=match ZP f with|none => .ok f|some e => .error e from HR.out);obtain⟨q,hq⟩:=xX (ZP f);rw[hq] at HC HX;clear vD kE JG hg hq HR HG;go_wp2_with fail;refine HC.out.mono ?_;rintro e w2 ⟨hq,xF⟩;clear HC;have uK:=xB.trans (xF.mono xB.size)
  cases q with
  | none =>
   obtain rfl:=hq;have HY:=z7 (show jF s.data.toList = .ok f from HX.out);have hk:vQ w.heap.size w1.heap.size w1 w2:=⟨xF.size,fun k _ hk=>xF.block k hk⟩;go_wp2;go_ret2
   rw[HY.out];exact⟨⟨⟨a,c,vs,rfl,qV.out.keep hk (zy _) xF.size,xY.keep hk (zy _) xF.size _ _ YQ.out⟩,HGG.out⟩,uK⟩
  | some e =>
   obtain⟨n,p⟩:=e;obtain⟨b,rfl,c0,c1⟩:=hq;have HY:=z7 (show jF s.data.toList = .error (n,p) from HX.out);go_wp2;go_ret2
   rw[HY.out];exact⟨⟨_,b,rfl,⟨_,_,_,rfl⟩,c0,c1⟩,uK⟩
end Go.Proofs.YthpldolmpinnhaaGreatDoor
