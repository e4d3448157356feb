import Derived.Test.YthpldolmpinnhaaGreatDoorJP18
import Derived.Laws.IdiomStrings
import Derived.OwnWalk
import Derived.Deep.RegionHeld
import Derived.Deep.DeepAppendRoom
import Derived.Deep.LoopGhost
set_option maxHeartbeats 64000000
open Go.Lib renaming hid→z7,compareInt→zU
open Go.World renaming block_lt_of_cell?→z8,frozen?_of_block→zk,frozen?_setCell→zf,cell?_alloc_lt→zX,ownsRow_nil→zN
open Nat renaming le_refl→zy,le_trans→zV,zero_le→zJ,add_sub_cancel→zF,lt_of_not_le→za
open Bool renaming and_eq_true→zx,or_eq_true→ze
open List renaming length_append→zv,length_nil→zg,nodup_nil→zY,length_cons→zQ,take_succ_eq_append_getElem→zD,flatMap_cons→zE,getElem?_append_right→zL,append_assoc→zO,map_toArray→zS,length_take→zW,replicate→zi
open Go.RowKit.Below renaming refl→zu,heap_alloc→zR
open Go.Value renaming slice→zj
open Classical renaming byContradiction→zZ
open Option.some renaming inj→zG
open ByteArray renaming mk→zH
open Go.Result renaming andThen_ok→zM
open Go.Instr renaming typeAssert→zP,makeFunc→zc
open Go.Proofs.Tryz
namespace Go.Proofs.YthpldolmpinnhaaGreatDoor
open Go Go.RowKit
set_option maxRecDepth 10000
theorem vx:ZN prog 48 5 (.int .u8 0) 1 1 :=
 ⟨underlying48,info_parts (by kernel_rfl),rfl,by decide,by decide⟩
def vy(l:List UInt8):List Value:=l.map fun c => .int .u8 ((c.toNat:Int) - 48)
def NQ(l:List UInt8)(w:World)(e:Ending)(w':World):Prop :=
 (if l.all xQ then ∃ v,e = .returned (.tuple #[v,.bool true])/\w'.ownsRow w.heap.size 5 1 v l.length (vy l) else e = .returned (.tuple #[.slice none 0 0,.bool false]))/\Below w.heap.size w w'
theorem SG(c:UInt8)(h:xQ c=true):IntKind.u8.wrap ((c.toNat:Int) - 48)=(c.toNat:Int) - 48/\(c.toNat:Int) - 48<=9:=by
 have:=(vM _).1 h;refine⟨?_,by omega⟩;simp only[IntKind.wrap,IntKind.signed,IntKind.bits];simp;omega
theorem ax(c:UInt8)(h:xQ c=false):9<((c.toNat:Int) - 48) % 256:=by
 have:=(EW _).1 h;have:=c.toNat_lt;omega
theorem NK(s:ByteArray)(w:World)(hs:s.size<=1000000) :
  Calls prog 67 #[.string s] w (NQ s.data.toList w):=by
 have hcv:=fun w s=>run_bytes_of_string (P:=prog) w 9 48 5 s underlying9 underlying48 underlying5
 obtain⟨i,hi,hz,h2,h3⟩:=vx.info;go_enter func67,ntmps67;go_wp2_with (refine wpList_make_own _ rfl _ _ _ rfl w.heap.size _ i _ 1 vx.under hi hz h2 .i64 .i64 _ s.size rfl rfl ?c1 ?c2 ?c3 ?c4 ?_)
 case c1=>first|rfl|simp
 case c2=>rw[h3];omega
 case c3=>unfold maxLen;omega
 case c4=>simp
 intro w1 fQ Zp;go_wp2;refine Jm ?_;intro wc hwc;have qs:wc.heap.size=w1.heap.size+1:=by rw[hwc];simp
 have xH:Below w.heap.size w w1:=(zu _ _).grown Zp (zy _) (by simp);have jQ:Below w.heap.size w wc:=by rw[hwc];exact(Below.drew xH).alloc xH.size _
 have vU:∀ j (hj:j<s.size),wc.cell? ⟨w1.heap.size,j,none⟩=some (.int .u8 (s[j].toNat:Int)):=by
  intro j hj;rw[hwc];have:=bytesRow_at s (grownCap w1 s.size 0 5) j hj;show(w1.alloc _).cell? _=_;rw[xq];exact this
 have zlx:wc.ownsRow w.heap.size 5 1 (zj (some ⟨w.heap.size,0,none⟩) 0 s.size) 0 []:=by rw[hwc];exact(World.ownsRow.drew fQ).alloc _
 have Rc:=xH.size;have oL:=(fQ.lt w.heap.size rfl).2;clear hwc fQ Zp;go_loopw [4,14] (fun v i wr=>∃ k:Nat,k<=s.size/\i = .int .i64 k/\v = .slice (some ⟨w.heap.size,0,none⟩) k s.size/\wr.ownsRow w.heap.size 5 1 v k (vy (s.data.toList.take k))/\Below w.heap.size w wr/\(s.data.toList.take k).all xQ=true/\(w1.heap.size<wr.heap.size)/\∀ j (hj:j<s.size),wr.cell? ⟨w1.heap.size,j,none⟩=some (.int .u8 (s[j].toNat:Int))) (fun _ i _=>s.size - (intOf i).toNat)
 case atStart=>exact⟨0,by omega,rfl,rfl,by simpa[vy] using zlx,jQ,by simp,by omega,vU⟩
 case round =>
  obtain⟨k,hk,rfl,hv,xJ,hb,hH,VN,vU⟩:=hrel;have HH:=z7 hH;have HV:=z7 hv;clear hH hv;by_cases xC:k<s.size
  ·have hc:=vU k xC;by_cases hd:xQ s[k]=true
   ·obtain⟨hy,hy9⟩:=SG _ hd;have HD:=z7 hd;clear hd;have KR:wr.ownsRow w.heap.size 5 1 (.slice (some ⟨w.heap.size,0,none⟩) k s.size) k (vy (s.data.toList.take k)):=by rw[←HV.out];exact xJ
    go_wp2_with (at_builtin;refine wpList_append_own_spare _ rfl _ _ _ rfl w.heap.size _ i 1 vx.under hi h2 w.heap.size k s.size (vy (s.data.toList.take k)) HV.out (KR.alloc _) ⟨wr.heap.size,0,none⟩ 1 1 [.int .u8 ((s[k].toNat:Int) - 48)] rfl rfl ?c1 ?c2 ?c3 ?_)
    case c1=>exact cells_one (by simp)
    case c2=>intro u hu;simp at hu;subst hu;rfl
    case c3=>omega
    intro w2 A6 um;have D7:=um.size;have hts:=WI HH.out HD.out;rw[←QR s k xC] at hts;have HT:=z7 hts;clear hts;go_wp2;go_roundw
    case rel =>
     refine⟨k+1,by omega,by go_num,rfl,?_,((hb.alloc hb.size _).grown um (by have:=hb.size;simp;omega) (fun q hq=>by cases hq;exact zy _)),HT.out,?_,?_⟩
     ·rw[QR s k xC];simpa[vy] using A6
     ·simp at D7;omega
     ·intro j hj;refine um.cell ?_ (by simp;omega);rw[zX _ _ _ VN];exact vU j hj
    case measure=>simp[intOf];omega
   ·have mD:xQ s[k]=false:=by simpa using hd
    have hn:=ax _ mD;have ve:s.data.toList.all xQ=false:=Br s k xC mD;have HF:=z7 ve;clear ve hd mD;go_wp2;go_ret2
    refine⟨by rw[HF.out];rfl,hb⟩
  ·have QI:k=s.size:=by omega
   subst QI;have HA:=HH.out;rw[Ji] at HA;rw[Ji] at xJ;have HF:=z7 HA;clear HA HH;go_wp2;go_ret2
   refine⟨?_,hb⟩;rw[if_pos HF.out,xN];exact⟨_,rfl,xJ⟩
theorem Ik(d:Int)(w:World):Calls prog 103 #[.int .u8 d] w fun e w'=>e = .returned (.bool (d !=0))/\w=w':=by
 go_enter func103,ntmps103;go_wp2;go_ret;exact⟨rfl,rfl⟩
theorem zu1{l:List Int}{k:Nat}(h:k<l.length)(hn:(l[k] !=0)=true):l.any (· != 0)=true:=List.any_eq_true.2 ⟨l[k],List.getElem_mem h,hn⟩
theorem av{l:List Int}{k:Nat}(h:k<l.length)(hz:(l.take k).any (· != 0)=false)(hn:(l[k] !=0)=false):(l.take (k+1)).any (· != 0)=false:=by
 rw[zD h,List.any_append,hz];simpa using hn
def xF(w:World)(a:Option Addr)(l:List Int):Prop:=∀ j (h:j<l.length),∃ b,a=some b/\w.cell? (b.add j)=some (.int .u8 l[j])
theorem xF.alloc{w:World}{a:Option Addr}{l:List Int}(h:xF w a l)(o:Obj):xF (w.alloc o) a l:=fun j hj=>by
 obtain⟨b,hb,hc⟩:=h j hj;refine⟨b,hb,?_⟩;rw[World.cell?_alloc_some _ _ _ (by rw[hc];rfl)];exact hc
theorem Ij(l:List Int)(a:Option Addr)(c:Nat)(w:World)(hl:l.length<=1000000)(hc:xF w a l) :
  Calls prog 152 #[.slice a l.length c,.func (.func 103) #[] #[]] w fun e w'=>(∃ n:Int,e = .returned (.int .i64 n)/\decide (0<=n)=l.any (· != 0))/\w=w':=by
 go_enter func152,ntmps152;go_wp2;go_loop [8] (fun i=>∃ k:Nat,k<=l.length/\i = .int .i64 k/\(l.take k).any (· != 0)=false) (fun i=>l.length - (intOf i).toNat)
 case atStart=>exact⟨0,by omega,rfl,by simp⟩
 case round =>
  obtain⟨k,hk,rfl,hz⟩:=hrel;have HZ:=z7 hz;clear hz;by_cases xC:k<l.length
  ·obtain⟨b,rfl,vU⟩:=hc k xC;go_wp2_with fail;refine(Ik _ _).mono ?_;rintro e w' ⟨rfl,rfl⟩;by_cases hn:(l[k] !=0)=true
   ·have HF:=z7 (zu1 xC hn);go_wp2;go_ret;exact⟨⟨_,rfl,by rw[HF.out];simp⟩,rfl⟩
   ·have D3:(l[k] !=0)=false:=by simpa using hn
    have HF:=z7 (av xC HZ.out D3);clear hn;go_wp2;go_round
    case rel=>exact⟨k+1,by omega,by go_num,HF.out⟩
    case measure=>simp[intOf];omega
  ·have QI:k=l.length:=by omega
   subst QI;have hz:=HZ.out;rw[List.take_length] at hz;have HF:=z7 hz;clear hz HZ;go_wp2;go_ret;exact⟨⟨_,rfl,by rw[HF.out];rfl⟩,rfl⟩
theorem XB(l:List Int)(a:Option Addr)(c:Nat)(w:World)(hl:l.length<=1000000)(hc:xF w a l) :
  Calls prog 102 #[.slice a l.length c,.func (.func 103) #[] #[]] w fun e w'=>e = .returned (.bool (l.any (· != 0)))/\w=w':=by
 go_enter func102,ntmps102;go_wp2_with fail;refine(Ij l a c w hl hc).mono ?_;rintro e w' ⟨⟨n,rfl,hn⟩,rfl⟩;go_wp2;go_ret;exact⟨rfl,rfl⟩
theorem au(l:List Int)(a:Option Addr)(c:Nat)(b:Bool)(sc:Int)(w:World)(hl:l.length<=1000000)(hc:xF w a l) :
  Calls prog 68 #[.agg #[.bool b,.slice a l.length c,.int .i64 sc]] w fun e w'=>e = .returned (.bool (!l.any (· != 0)))/\Below w.heap.size w w':=by
 go_enter func68,ntmps68;go_wp2_with fail;refine(XB l a c _ hl (hc.alloc _)).mono ?_;rintro e w' ⟨rfl,rfl⟩;go_wp2;go_ret;exact⟨rfl,(zu _ _).alloc (zy _) _⟩
theorem SF(s:ByteArray):s.toList=s.data.toList:=by
 exact Go.ByteArray.toList_eq s
def PN(w0 w:World)(base:Nat)(v:Value)(ps:List (List (List UInt8))):Prop :=
 ∃ vs:List Value,w.ownsRow base 31 1 v ps.length vs/\∀ j (h:j<ps.length),∃ u,vs[j]? = some u/\YL w0 u ps[j]
theorem add_add(a:Addr)(i j:Nat):(a.add i).add j=a.add (i+j):=by
 unfold Addr.add;by_cases hi:i=0
 ·subst hi;simp
 ·by_cases hj:j=0
  ·subst hj;simp
  ·simp[hi,hj,Nat.add_assoc]
theorem PN.more{w wr w1:World}{base:Nat}{v v':Value}{acc:List (List (List UInt8))}{vs:List Value}{u:Value}{p:List (List UInt8)}(hl:vs.length=acc.length)
  (hp:∀ j (h:j<acc.length),∃ u,vs[j]? = some u/\YL w u acc[j]) (ho:w1.ownsRow base 31 1 v' (acc.length+1) (vs++[u])) (hu:YL w u p):PN w w1 base v' (acc++[p]):=by
 refine⟨vs++[u],by simpa using ho,fun j h=>?_⟩;by_cases hj:j<acc.length
 ·obtain⟨x,hx,hs⟩:=hp j hj;exact⟨x,by rw[List.getElem?_append_left (by omega)];exact hx,by rw[List.getElem_append_left hj];exact hs⟩
 ·have e:j=acc.length:=by simp at h;omega
  subst e;refine⟨u,by rw[zL (by omega),hl];simp,?_⟩;rw[List.getElem_append_right (by omega)];simpa using hu
def cmpL(a b:List UInt8):Int:=if a.length<b.length\/(a.length=b.length/\Op.bytesLess a b=true) then -1 else if a=b then 0 else 1
def XC(l:List UInt8)(m:Nat):Nat:=l.foldl (fun r c=>(10*r+(c.toNat - 48)) % m) 0
theorem GH(l:List UInt8)(c:UInt8)(m:Nat):XC (l++[c]) m=(10*XC l m+(c.toNat - 48)) % m:=by simp[XC]
theorem aq(l:List UInt8)(m:Nat)(hm:0<m):XC l m<m:=by
 by_cases h:l=[]
 ·subst h;exact hm
 ·obtain⟨t,c,rfl⟩:∃ t c,l=t++[c]:=⟨l.dropLast,l.getLast h,by rw[List.dropLast_concat_getLast]⟩;rw[GH];exact Nat.mod_lt _ hm
def stripL:List UInt8->List UInt8
 | c::d::t=>if c=48 then stripL (d::t) else c::d::t
 | l=>l
def jL(l:List UInt8):List UInt8:=if l=[] then [48] else stripL l
theorem NJ{c:UInt8}{l:List UInt8}(h:l≠[])(hc:c=48):stripL (c::l)=stripL l:=by
 cases l with
 | nil=>exact absurd rfl h
 | cons d t=>rw[stripL,if_pos hc]
theorem NG{c:UInt8}{l:List UInt8}(hc:¬c=48):stripL (c::l)=c::l:=by
 cases l with
 | nil=>rfl
 | cons d t=>rw[stripL,if_neg hc]
def uH(l:List UInt8):List UInt8:=(l.reverse.dropWhile (· == 48)).reverse
theorem short_zero(l:List UInt8):uH (l++[48])=uH l:=by simp[uH]
theorem NF(l:List UInt8)(c:UInt8)(h:¬c=48):uH (l++[c])=l++[c]:=by
 have:(c==48)=false:=by simpa using h
 simp[uH,this]
end Go.Proofs.YthpldolmpinnhaaGreatDoor
namespace Go.Proofs.YthpldolmpinnhaaGreatDoor
open Go
abbrev Dg:=List UInt8×List UInt8
def SD(f:Wd):Bool:=f.any (· != 48)
def Ig(w:Wd):Bool:=w==[109,111,100] || w==[37]
abbrev qe:=Dg->Bool
def Y5(w:Wd)(ws:List Wd):Bool:=ws.head? == some w
def kR:List Wd->Option (Nat×List Wd)
 | []=>none
 | w::t=>if GC w=true then some (bo w,t) else none
def Q7(x:Dg)(v:Nat):Int :=
 if cmpL x.1 (xK v)<0 then -1 else if 0<cmpL x.1 (xK v)\/SD x.2=true then 1 else 0
def gQ(a b:Nat)(broken:Bool):qe:=fun x=>decide (0<=Q7 x a) && (decide (Q7 x b<=0) && (broken || !(SD x.2)))
def VS(ws:List Wd):Option ((Nat×Nat)×List Wd) :=
 match kR ws with
 | none=>none
 | some (a,t) =>
  if Y5 [46,46] t then
   match kR t.tail with
   | none=>none
   | some (b,u)=>if b<a then none else some ((a,b),u)
  else some ((a,a),t)
def qF(within:Bool):Nat->List qe->List Wd->Option (List qe×List Wd)
 | 0,_,_=>none
 | n+1,acc,ws=>match VS ws with
  | none=>none
  | some (q,t)=>if Y5 [44] t then qF within n (acc++[gQ q.1 q.2 within]) t.tail else some (acc++[gQ q.1 q.2 within],t)
def bp(l:List qe):qe:=fun x=>l.any (fun t=>t x)
def allT(l:List qe):qe:=fun x=>l.all (fun t=>t x)
abbrev Parser:=List Wd->Option (qe×List Wd)
def jE(within:Bool):Parser:=fun ws=>(qF within (ws.length+1) [] ws).map fun q=>(bp q.1,q.2)
def u7(ws:List Wd):Option ((qe×Bool)×List Wd) :=
 if Y5 [61] ws then (jE false ws.tail).map fun q=>((q.1,false),q.2)
 else if Y5 [33,61] ws then (jE false ws.tail).map fun q=>((q.1,true),q.2)
 else if Y5 [105,115] ws then
  (kR (if Y5 [110,111,116] ws.tail then ws.tail.tail else ws.tail)).map fun q=>((gQ q.1 q.1 false,Y5 [110,111,116] ws.tail),q.2)
 else
  let nt:=Y5 [110,111,116] ws
  let u:=if nt then ws.tail else ws
  if Y5 [119,105,116,104,105,110] u then (jE true u.tail).map fun q=>((q.1,nt),q.2)
  else if Y5 [105,110] u then (jE false u.tail).map fun q=>((q.1,nt),q.2)
  else none
def uD(c:Wd):Option (Dg->Dg) :=
 if c=[110] then some (fun x=>x) else if c=[105] then some (fun x=>(jL x.1,[])) else if c=[118] then some (fun x=>(xK x.2.length,[]))
 else if c=[119] then some (fun x=>(xK (uH x.2).length,[])) else if c=[102] then some (fun x=>(jL x.2,[]))
 else if c=[116] then some (fun x=>(jL (uH x.2),[])) else none
def DB(of:Dg->Dg)(m:Nat):Dg->Dg:=fun x=>(xK (XC (of x).1 m),(of x).2)
def Y6(of:Dg->Dg)(t:List Wd):Option ((Dg->Dg)×List Wd) :=
 if Ig (t.headD []) then
  match kR t.tail with
  | none=>none
  | some (m,u)=>if m=0 then none else some (DB of m,u)
 else some (of,t)
def gz:Parser
 | []=>none
 | w::t=>match uD w with
  | none=>none
  | some of=>match Y6 of t with
   | none=>none
   | some (of',u)=>match u7 u with
    | none=>none
    | some ((i,nt),v)=>some ((fun x=>i (of' x) !=nt),v)
def fH(word:Wd)(one:Parser):Nat->List qe->List Wd->Option (List qe×List Wd)
 | 0,_,_=>none
 | n+1,acc,ws=>match one ws with
  | none=>none
  | some (T,t)=>if Y5 word t then fH word one n (acc++[T]) t.tail else some (acc++[T],t)
def CL(word:Wd)(tI:List qe->qe)(one:Parser):Parser:=fun ws=>(fH word one (ws.length+1) [] ws).map fun q=>(tI q.1,q.2)
def If:Parser:=CL [97,110,100] allT gz
def pOr:Parser:=CL [111,114] bp If
def xI(c:UInt8):Nat:=if 97<=c.toNat/\c.toNat<=122 then 3 else if 48<=c.toNat/\c.toNat<=57 then 2 else if c.toNat=32 then 1 else 0
def GI:List UInt8->Option Wd
 | 33::61::_=>some [33,61]
 | 46::46::_=>some [46,46]
 | 61::_=>some [61]
 | 44::_=>some [44]
 | 37::_=>some [37]
 | _=>none
def jW:Nat->List (Wd)->List UInt8->Option (List Wd)
 | _,acc,[]=>some acc
 | 0,_,_::_=>none
 | n+1,acc,c::t=>match GI (c::t) with
  | some g=>jW n (acc++[g]) ((c::t).drop g.length)
  | none =>
   if xI c=0 then none
   else jW n (if xI c=1 then acc else acc++[c::t.takeWhile (fun d=>xI d==xI c)]) (t.dropWhile (fun d=>xI d==xI c))
def ND(s:List UInt8):Option (List Wd):=jW (s.length+1) [] (s.take (s.idxOf 64))
def Bz(s:List UInt8):Option qe :=
 if 200<s.length then none else match ND s with
 | none=>none
 | some ws=>match pOr ws with
  | some (T,[])=>some T
  | _=>none
end Go.Proofs.YthpldolmpinnhaaGreatDoor
namespace Go.Proofs.YthpldolmpinnhaaGreatDoor
open Go Go.RowKit
set_option maxRecDepth 10000
def VV(l:List UInt8):List UInt8:=if l.head? = some 45 then l.tail else l
def fI(l:List UInt8):Bool:=l.head? == some 45
def vN(l:List UInt8):List UInt8:=(VV l).take ((VV l).idxOf 46)
def vW(l:List UInt8):List UInt8:=(VV l).drop ((VV l).idxOf 46+1)
def dN(l:List UInt8):Bool:=decide ((VV l).idxOf 46<(VV l).length)
def Q8(l:List UInt8):Bool:=ux (vN l) && (!(dN l) || ux (vW l)) && decide ((vN l).length+(vW l).length<=30)
def vr(l:List UInt8):Bool :=
 Q8 l && !(decide (1<(vN l).length) && ((vN l).headD 0==48)) && !(fI l && (vN l++vW l).all (· == 48))
theorem zu2{l wh fr:List UInt8}{pt:Bool}(hW:vN l=wh)(hF:vW l=fr)(hP:dN l=pt)(h:¬(ux wh=true/\(pt=true->ux fr=true)/\wh.length+fr.length<=30)):vr l=false:=by
 have hf:Q8 l=false:=by
  rw[←Bool.not_eq_true];intro hf;unfold Q8 at hf;rw[hW,hF,hP] at hf;simp only[zx,ze,Bool.not_eq_true',decide_eq_true_eq] at hf;refine h ⟨hf.1.1,fun hp=>?_,hf.2⟩;rcases hf.1.2 with h1|h1
  ·rw[h1] at hp;cases hp
  ·exact h1
 simp[vr,hf]
theorem GL{l wh fr:List UInt8}{b:Bool}(hW:vN l=wh)(hF:vW l=fr)(hB:fI l=b)(KA:Q8 l=true) :
  vr l=(!(decide (1<wh.length) && (wh.headD 0==48)) && !(b && (wh++fr).all (· == 48))):=by
 simp[vr,KA,hW,hF,hB]
theorem zu3(wh:List UInt8)(h:0<(zH wh.toArray).size):(wh.headD 0==48)=(((zH wh.toArray)[0].toNat:Int)==48):=by
 have h1:=AJ ⟨wh.toArray⟩ h;rw[toList_mk] at h1;have h2:=bU (zH wh.toArray)[0] 48;have h3:((48:UInt8).toNat:Int)=48:=rfl;rw[h3] at h2;rw[h1,h2];exact Bool.beq_eq_decide_eq _ _
theorem oM{l wh fr:List UInt8}{pt:Bool}(hW:vN l=wh)(hF:vW l=fr)(hP:dN l=pt)(h1:ux wh=true)(h2:pt=true->ux fr=true)(h3:¬((30:Int)<(wh.length:Int)+(fr.length:Int))):Q8 l=true:=by
 unfold Q8;rw[hW,hF,hP,h1];have h4:wh.length+fr.length<=30:=by omega
 cases pt
 ·simp[h4]
 ·simp[h4,h2 rfl]
abbrev vv:=Bool×Dg
def jY(t:Wd)(num:Bool):Bool:=if num then vr t else decide (t.length<=60)
def numOf(t:Wd):vv:=(fI t,(vN t,vW t))
def fZ(k:Nat)(l:Wd):Wd:=zi (k - l.length) 48++l
def DC(r k:Nat):Dg:=((fZ (k+1) (xK r)).take ((fZ (k+1) (xK r)).length - k),(fZ (k+1) (xK r)).drop ((fZ (k+1) (xK r)).length - k))
def VT(n:vv)(v:Nat):vv :=
 if n.1 then (decide (xL (n.2.1++n.2.2)+v*10 ^ n.2.2.length≠0),DC (xL (n.2.1++n.2.2)+v*10 ^ n.2.2.length) n.2.2.length)
 else if xL (n.2.1++n.2.2)<v*10 ^ n.2.2.length then (true,DC (v*10 ^ n.2.2.length - xL (n.2.1++n.2.2)) n.2.2.length)
 else (false,DC (xL (n.2.1++n.2.2) - v*10 ^ n.2.2.length) n.2.2.length)
def qE(n:vv)(v:Nat):Bool := !n.1 && decide (Q7 n.2 v=0)
inductive zu4 where
 | no
 | zu5
 | val (t:Wd) (num:Bool)
structure qq(τ:Type) where
 wr:vv->Wd
 sort:Bool->Dg->Nat
 get:Wd->τ->zu4×τ
inductive SB (σ:Type) where
 | go (k:Nat) (s:σ)
 | fin (s:σ)
 | err (n:Nat) (s:σ)
 | bad
def Q9{σ:Type}(F:Nat->σ->SB σ):Nat->Nat->σ->Option (Except (Nat×σ) σ)
 | 0,_,_=>none
 | f+1,k,s=>match F k s with | .go k' s'=>Q9 F f k' s' | .fin s'=>some (.ok s') | .err n s'=>some (.error (n,s')) | .bad=>none
structure bh(τ:Type) where
 out:Wd
 stk:List (vv×vv)
 gs:τ
section
variable {τ:Type} (E:qq τ)
def bw(n:Wd)(g:τ):Except (Nat×τ) ((Wd×Bool)×τ) :=
 match E.get n g with
 |(.no,g') => .error (12,g')
 |(.zu5,g') => .error (15,g')
 |(.val t num,g')=>if jY t num then .ok ((t,num),g') else .error (11,g')
def ZW(n:Wd)(g:τ):Except (Nat×τ) (vv×τ) :=
 match bw E n g with
 | .error e => .error e
 | .ok ((t,num),g')=>if num then .ok (numOf t,g') else .error (13,g')
def CM(n:Wd)(g:τ):Except (Nat×τ) (Wd×τ) :=
 match bw E n g with
 | .error e => .error e
 | .ok ((t,num),g')=>if num then .error (13,g') else .ok (t,g')
def SC(t:Wd)(num:Bool):Wd:=if num then E.wr (numOf t) else t
def Y7(s:MkS)(x:jC):Option Wd:=x.k[0]?.bind fun j=>s.cs[j]?
def Mj(s:MkS)(t:Option Nat)(r:bh τ):SB (bh τ) :=
 match t with
 | none => .bad
 | some p=>match dK s.code s.code.length p with|some k => .go k r|none => .fin r
def VU(s:MkS)(x:jC)(t:Wd):Nat:=(x.k.tail.map fun j=>s.cs[j]?).idxOf (some t)
def qy(s:MkS)(x:jC)(k:Nat)(r:bh τ):SB (bh τ) :=
 match x.op with
 | 0 => .fin r
 | 1=>match Y7 s x with|none => .bad|some t => .go (k+1) { r with out:=r.out++t }
 | 2=>match Y7 s x with
  | none => .bad
  | some n=>match bw E n r.gs with | .error (e,g) => .err e { r with gs:=g } | .ok ((t,num),g) => .go (k+1) { r with out:=r.out++SC E t num,gs:=g }
 | 3=>match Y7 s x with
  | none => .bad
  | some n=>match ZW E n r.gs with | .error (e,g) => .err e { r with gs:=g } | .ok (v,g) => .go (k+1) { r with out:=r.out++E.wr v,gs:=g }
 | 4=>match Y7 s x with
  | none => .bad
  | some n=>match ZW E n r.gs with | .error (e,g) => .err e { r with gs:=g } | .ok (v,g) => .go (k+1) { r with stk:=r.stk++[(v,VT v x.v)],gs:=g }
 | 5=>match r.stk.getLast? with|none => .bad|some _ => .go (k+1) { r with stk:=r.stk.dropLast }
 | 6=>match r.stk.getLast? with|none => .bad|some t => .go (k+1) { r with out:=r.out++E.wr t.2 }
 | 7=>match r.stk.getLast? with|none => .bad|some t=>if qE t.1 x.v then Mj s x.tg[0]? r else .go (k+1) r
 | 8=>match r.stk.getLast? with|none => .bad|some t=>Mj s x.tg[E.sort false t.2.2]? r
 | 9=>match r.stk.getLast? with|none => .bad|some t=>Mj s x.tg[E.sort true t.2.2]? r
 | 10=>match Y7 s x with
  | none => .bad
  | some n=>match CM E n r.gs with
   | .error (e,g) => .err e { r with gs:=g }
   | .ok (t,g)=>if x.k.tail.all (fun j=>decide (j<s.cs.length)) then Mj s x.tg[VU s x t]? { r with gs:=g } else .bad
 | 11=>Mj s x.tg[0]? r
 | _ => .bad
def jA(s:MkS)(k:Nat)(r:bh τ):SB (bh τ):=match s.code[k]? with|none => .bad|some x=>qy E s x k r
def Z0(ks:List Wd)(t:Wd):Wd:=if t∈ks then t else qb
def Ku(f:Nat)(ks:List Wd)(v z:vv):Wd :=
 match ks.find? fun k=>decide (k.head? = some 61) && qE v (xL k.tail) with
 | some k=>k
 | none=>if Un.getD (E.sort (decide (f=2)) z.2) []∈ks then Un.getD (E.sort (decide (f=2)) z.2) [] else qb
def qx:Fo->Wd->vv->Wd->τ->Except (Nat×τ) (Wd×τ)
 | .nil,_,_,o,g => .ok (o,g)
 | .text t r,k,x,o,g=>qx r k x (o++t) g
 | .hash r,k,x,o,g=>qx r k x (o++E.wr x) g
 | .put n _ r,k,x,o,g=>match bw E n g with | .error e => .error e | .ok ((t,num),g')=>qx r k x (o++SC E t num) g'
 | .num n _ r,k,x,o,g=>match ZW E n g with | .error e => .error e | .ok (v,g')=>qx r k x (o++E.wr v) g'
 | .br n _ f off _ bs r,k,x,o,g =>
  if f=0 then
   match CM E n g with
   | .error e => .error e
   | .ok (t,g')=>match qx bs (Z0 bs.keys t) x o g' with | .error e => .error e | .ok (o',g'')=>qx r k x o' g''
  else
   match ZW E n g with
   | .error e => .error e
   | .ok (v,g')=>match qx bs (Ku E f bs.keys v (VT v (xL off))) (VT v (xL off)) o g' with | .error e => .error e | .ok (o',g'')=>qx r k x o' g''
 | .uq k' _ m r,k,x,o,g=>if k'=k then qx m [] x o g else qx r k x o g
end
abbrev ql(n:Nat):Value := .iface 33 (.int .i64 (n:Nat))
theorem CN(n:Nat)(w:World):(zP (ql n) 20 33 true).run prog w = .ok (.tuple #[.int .i64 n,.bool true]) w:=by rfl
theorem Ib(w:World):(zP .nilIface 20 33 true).run prog w = .ok (.tuple #[.int .i64 0,.bool false]) w:=by rfl
theorem aj(A B:Nat)(w:World):CallsD prog 86 #[.pointer (some ⟨A,0,none⟩),.pointer (some ⟨B,0,none⟩)] .returning w fun e u' w'=>e = .returned (.tuple #[])/\u' = .returning/\w'=w:=by
 refine callsD_of_wpS func86 rfl fun c₀ cs hu=>?_
 have ha:=Ib;apply wpS_seq;apply wpS_region;simp[wpOpsS,go_sem,recoverD,hu,ha,ntmps86,Exit.thenS];refine wpS_of_wp ?_;go_wp2
 cases c₀;simp_all [bodyPostS,results,results86]
theorem SE(A B n:Nat)(u v:Value)(uM:List PanicEntry)(w:World)(hA:w.cell? ⟨A,0,none⟩=some u)(hAz:w.frozen? ⟨A,0,none⟩=false)(hB:w.cell? ⟨B,0,none⟩=some v)(hBz:w.frozen? ⟨B,0,none⟩=false)(hAB:B≠A) :
  CallsD prog 86 #[.pointer (some ⟨A,0,none⟩),.pointer (some ⟨B,0,none⟩)] (.panicking ({ v:=ql n,recovered:=false }::uM)) w fun e u' w' =>
   e = .returned (.tuple #[])/\u' = .panicking ({ v:=ql n,recovered:=true }::uM)/\w'=(w.setCell ⟨A,0,none⟩ (xf [])).setCell ⟨B,0,none⟩ (ql n):=by
 have ha:=CN n;refine callsD_of_wpS func86 rfl fun c₀ cs hu=>?_
 apply wpS_seq;apply wpS_region;simp[wpOpsS,go_sem,recoverD,hu,ha,ntmps86,Exit.thenS];refine wpS_of_wp ?_;simp only[Array.replicate,zi,List.setIfInBounds_toArray,List.set_cons_zero,List.set_cons_succ,List.append_toArray,List.cons_append,List.nil_append,Act.put];have hB':(w.setCell ⟨A,0,none⟩ (xf [])).cell? ⟨B,0,none⟩=some v:=by rw[xd,if_neg (fun e=>hAB (congrArg Addr.block e).symm)];exact hB
 go_wp2;simp[bodyPostS,results,results86]
def NC{σ:Type}(G:Nat->Prop)(I:Nat->σ->World->Prop)(J K:σ->World->Prop)(r:SB σ)(w:World)(e:Ending)(w':World):Prop :=
 (match r with
  | .go k s=>e = .returned (.int .i64 (k:Nat))/\I k s w'
  | .fin s=>e = .returned (.int .i64 (-1))/\J s w'
  | .err n s=>(∃ uM:List PanicEntry,e = .panicked ({ v:=ql n,recovered:=false }::uM)/\uM.dropWhile (!·.goexit)=[])/\K s w'
  | .bad=>False)/\Fr G G w w'
def zlv{σ:Type}(G:Nat->Prop)(out:σ->Wd)(Z:σ->World->Prop)(r:Except (Nat×σ) σ)(w:World)(e:Ending)(w':World):Prop :=
 (match r with
  | .ok s=>e = .returned (.tuple #[xf (out s),.nilIface])/\Z s w'
  | .error (n,s)=>e = .returned (.tuple #[xf [],ql n])/\Z s w')/\Fr G G w w'
def SH(w:World)(p l g:Value):World:=((w.alloc (.cells #[xf []] 9)).alloc (.cells #[.nilIface] 73)).alloc (.cells #[p,l,g,.pointer none,.slice none 0 0,.slice none 0 0] 199)
theorem SI(w:World){A:Nat}(hA:w.heap.size=A):kg A (xf []) .nilIface ((w.alloc (.cells #[xf []] 9)).alloc (.cells #[.nilIface] 73)):=by
 have h1:(w.alloc (.cells #[xf []] 9)).heap.size=A+1:=by simp[hA]
 have xC:A<(w.alloc (.cells #[xf []] 9)).heap.size:=by omega
 refine⟨?_,?_,?_,?_⟩
 ·rw[zX _ _ _ xC,←hA];exact xq _ _ _ _ _
 ·rw[←h1];exact xq _ _ _ _ _
 ·rw[zk (zR _ _ _ xC)];subst hA;simp
 ·rw[←h1];simp
theorem kg.fr{A:Nat}{u v:Value}{w w':World}{F F':Nat->Prop}(h:kg A u v w)(hf:Fr F F' w w')(ha:¬F A)(hb:¬F (A+1)):kg A u v w' :=
 h.keep fun k hk=>hf.keep k (by have:=h.lt;omega) (by rcases hk with rfl|rfl<;>assumption)
def zu6{σ:Type}(G:Nat->Prop)(I:Nat->Nat->σ->World->Prop)(J:σ->World->Prop)(F:Nat->σ->SB σ)(r:Except (Nat×σ) σ)(A:Nat)(w:World)(m:Nat)(kv:Value)(wr:World):Prop :=
 ((∃ k s,kv = .int .i64 (k:Nat)/\I m k s wr/\Q9 F m k s=some r)\/∃ s,kv = .int .i64 (-1)/\J s wr/\r = .ok s)/\kg A (xf []) .nilIface wr/\Fr G G w wr
theorem oN{σ:Type}(G:Nat->Prop)(I:Nat->Nat->σ->World->Prop)(J K Z:σ->World->Prop)(out:σ->Wd)(F:Nat->σ->SB σ)(fuel:Nat)(s0:σ)(r:Except (Nat×σ) σ)(w:World)(pa la:Option Addr)(gf:Fn)(g1 g2:Array Value)
  (hGA:¬G w.heap.size) (hGB:¬G (w.heap.size+1)) (hG2:∀ k,w.heap.size+2<=k->G k) (h0:I fuel 0 s0 (SH w (.pointer pa) (.pointer la) (.func gf g1 g2)))
  (zu7:∀ s W,J s W->∃ v x0 x1 x2 st,qj (w.heap.size+2) x0 x1 x2 st v (out s) W/\(∀ b,xU v b->w.heap.size+2<=b)/\(out s).length<=1000000000/\∀ W',Fr (fun k=>k=w.heap.size\/k=w.heap.size+1\/xU v k) (fun k=>k=w.heap.size\/k=w.heap.size+1\/xU v k) W W'->Z s W')
  (hK:∀ s W W',K s W->Fr (fun k=>k=w.heap.size\/k=w.heap.size+1) (fun k=>k=w.heap.size\/k=w.heap.size+1) W W'->Z s W')
  (vR:∀ m k s W,I (m+1) k s W->F k s ≠ .bad->Calls prog 87 #[.pointer (some ⟨w.heap.size+2,0,none⟩),.int .i64 (k:Nat)] W (NC G (I m) J K (F k s) W))
  (hr:Q9 F fuel 0 s0=some r):Calls prog 53 #[.pointer pa,.pointer la,.func gf g1 g2] w (zlv G out Z r w):=by
 have RS:∀ (fn:Fn) (first cap:Array Value) (w:World),(zc fn first cap).run prog w = .ok (.func fn first cap) w:=fun _ _ _ _=>rfl
 obtain⟨A,hA⟩:∃ A,w.heap.size=A:=⟨_,rfl⟩;rw[hA] at hGA hGB hG2 zu7 vR hK;have Y1:=SI w hA;have yfy:=z7 zu7;have jN:=z7 vR;have HR:=z7 hr;have HKZ:=z7 hK;have HA:=z7 hA;have ME:((w.alloc (.cells #[xf []] 9)).alloc (.cells #[.nilIface] 73)).heap.size=A+2:=by simp[hA]
 have WX:Fr G G w (SH w (.pointer pa) (.pointer la) (.func gf g1 g2)):=(((Fr.refl _ _).alloc _).alloc _).alloc _;have ag:kg A (xf []) .nilIface (SH w (.pointer pa) (.pointer la) (.func gf g1 g2)):=Y1.below ((zu _ _).alloc (zy _) _);obtain⟨W0,EI⟩:∃ W0,SH w (.pointer pa) (.pointer la) (.func gf g1 g2)=W0:=⟨_,rfl⟩;rw[EI] at WX ag h0;have HW0:=z7 EI;have H0:=z7 h0;have HF0:=z7 WX;clear zu7 vR hr hK hA Y1 EI h0 WX;go_enter_defers func53,ntmps53
 go_wp2_with fail;rw[HA.out];go_loopg [9] fuel (fun m kv wr=>zu6 G I J F r A w m kv wr)
 case atStart =>
  have e:=HW0.out;subst e;exact⟨.inl ⟨0,s0,rfl,H0.out,HR.out⟩,ag,HF0.out⟩
 case round =>
  obtain⟨AE,vP,YY⟩:=hrel;have S2:=z7 vP;have Jd:=z7 YY;clear ME ag YY;rcases AE with⟨k,s,rfl,hI,vH⟩|⟨s,rfl,hI,bF⟩
  ·obtain⟨m,hm⟩:∃ m,gk=m+1:=by
    refine⟨gk - 1,?_⟩;have:gk≠0:=fun e=>by rw[e] at vH;cases vH
    omega
   rw[hm,Q9] at vH;have HM:=Lib.hid hm;have fY:=Lib.hid vH;have CF:decide ((0:Int)<=(k:Int))=true:=by simp
   have HS:=z7 (jN.out m k s wr (by rw[←hm];exact hI) (fun e=>by rw[e] at vH;cases vH));clear hm vH vP hI;go_wp2_with fail;refine HS.out.mono ?_;rintro e w1 ⟨hq,hf⟩;have Z1:=S2.out.fr hf hGA hGB;have UU:=z7 (Jd.out.trans hf);have vH:=fY.out;obtain⟨o,ho⟩:∃ o,F k s=o:=⟨_,rfl⟩;rw[ho] at hq vH;clear ho hf HS fY Jd S2
   cases o with
   | go k' s' =>
    obtain⟨rfl,mG⟩:=hq;have HI:=z7 mG;have af:=z7 Z1;have fY:=z7 (show Q9 F m k' s'=some r from vH);clear mG Z1 vH;go_wp2;go_roundg m
    case measure=>have:=HM.out;omega
    case rel=>exact⟨.inl ⟨k',s',rfl,HI.out,fY.out⟩,af.out,UU.out⟩
   | fin s' =>
    obtain⟨rfl,mG⟩:=hq;have HI:=z7 mG;have af:=z7 Z1;have fY:=z7 (show(some (.ok s'):Option (Except (Nat×σ) σ))=some r from vH);clear mG Z1 vH;go_wp2;go_roundg m
    case measure=>have:=HM.out;omega
    case rel=>exact⟨.inr ⟨s',rfl,HI.out,(zG fY.out).symm⟩,af.out,UU.out⟩
   | bad=>exact hq.elim
   | err n s' =>
    obtain⟨⟨uM,rfl,hold⟩,QI⟩:=hq;have HK':=z7 QI;clear QI;have yfx:=z7 hold;have fY:=z7 (show(some (.error (n,s')):Option (Except (Nat×σ) σ))=some r from vH);clear hold vH;go_wp2;refine leaves_cons (f:=86) (args:=#[.pointer (some ⟨A,0,none⟩),.pointer (some ⟨A+1,0,none⟩)]) (by simp) (by simp[go_sem]) ?_;refine(SE A (A+1) _ _ _ _ _ Z1.c0 Z1.z0 Z1.c1 Z1.z1 (by omega)).mono ?_;rintro e u' KH ⟨rfl,rfl,rfl⟩;have ZD:=(Z1.Yw (x:=xf [])).Cg (x:=ql n);have Vw:=ZD.c0;have S1:=ZD.c1;simp[Leaves,settle,results,results53,go_sem,Vw,S1,yfx.out];have hr:=zG fY.out;rw[←hr];exact⟨⟨rfl,HKZ.out s' _ _ HK'.out (((Fr.refl _ _).set (a:=⟨A,0,none⟩) _ (.inl (.inl rfl))).set (a:=⟨A+1,0,none⟩) _ (.inl (.inr rfl)))⟩,(UU.out.set _ (.inr (by rw[HA.out];exact zy _))).set _ (.inr (by rw[HA.out];exact Nat.le_succ _))⟩
  ·obtain⟨v,x0,x1,x2,st,ho,hv,hl,hz⟩:=yfy.out s wr hI;have HZ:=z7 hz;have HG:=z7 (oH hv ho hl);have aZ:=z7 bF;clear hI bF ho hv hl vP hz;go_wp2_with fail;refine HG.out.mono ?_;rintro e w1 ⟨rfl,hb,sY⟩;have HFV:=z7 sY;clear sY;have Z1:=S2.out.keep (fun k hk=>hb.block k (by omega));have xC:=S2.out.lt;have uZ:Fr G G w w1:=Jd.out.trans ⟨hb.os,hb.tape,hb.output,hb.size,fun k hk hn=>hb.block k (za fun q=>hn (hG2 k q)),fun _ q => .inl q⟩;have UU:=z7 uZ;obtain⟨t,ht⟩:∃ t,out s=t:=⟨_,rfl⟩;rw[ht];have HT:=z7 ht;have q0:=Z1.c0;have q1:=Z1.c1;have q2:=Z1.z0;have q3:=Z1.z1;have Vf:=Z1.Yw (x:=xf t);have GY:=Vf.Cg (x := .nilIface);have q4:=Vf.c1;have q5:=Vf.z1;clear uZ hb ht HG;go_wp2;refine leaves_cons (f:=86) (args:=#[.pointer (some ⟨A,0,none⟩),.pointer (some ⟨A+1,0,none⟩)]) (by simp) (by simp[go_sem]) ?_;refine(aj A (A+1) _).mono ?_;rintro e u' KH ⟨rfl,rfl,rfl⟩;have Vw:=GY.c0;have S1:=GY.c1;simp[Leaves,settle,results,results53,go_sem,Vw,S1];rw[aZ.out];exact⟨⟨by rw[←HT.out],HZ.out _ (((HFV.out.wide (fun k hk => .inr (.inr hk))).set (a:=⟨A,0,none⟩) _ (.inl (.inl rfl))).set (a:=⟨A+1,0,none⟩) _ (.inl (.inr (.inl rfl))))⟩,(UU.out.set _ (.inr (by rw[HA.out];exact zy _))).set _ (.inr (by rw[HA.out];exact Nat.le_succ _))⟩
theorem all_nil:MkS.all .nil=⟨[],[⟨0,0,0,[],[]⟩],1⟩:=by
 simp[MkS.all,MkS.dM,MkS.qZ,MkS.start,MkS.put,uG,fJ,jx]
theorem jZ.below{q mb:Nat}{s:MkS}{vC vI:Value}{rs:List (Value×Value)}{w w':World}(h:jZ q s vC vI rs mb w)(hb:Below w.heap.size w w'):jZ q s vC vI rs mb w':=by
 have hf:Fr xS xS w w':=Fr.of hb;exact⟨hf.cell h.q0 id,hf.cell h.q1 id,hf.cell h.q2 id,hf.own h.cC (fun _ _ q=>q),hf.own h.cI (fun _ _ q=>q),h.rows.fr hf (fun _ q=>q.elim),h.mp.keep (hb.block mb h.mp.lt)⟩
def kb(l:List (Nat×Nat)):List Value:=l.flatMap fun x=>[.int .i64 (x.1:Nat),.int .i64 (x.2:Nat)]
theorem GM(l:List (Nat×Nat)):(kb l).length=l.length*2:=by
 induction l with
 | nil=>rfl
 | cons a t ih=>simp only[kb,zE,zv,zQ,zg] at ih ⊢;omega
theorem Z2(a b:List (Nat×Nat)):kb (a++b)=kb a++kb b:=by simp[kb]
theorem kE:ZN prog 253 105 (.agg #[.int .i64 0,.int .i64 0]) 2 16 :=
 ⟨underlying253,info_parts (by kernel_rfl),rfl,by decide,by decide⟩
theorem XE:RN 185 3:=⟨underlying185,underlying3,fun w=>by simp[go_sem]⟩
def DE:Wd:=[111,116,104,101,114]
def Kq(cl:Nat):List Wd->List (Nat×Nat)->Fo->List (Nat×Nat)
 | seen,acc,.uq k a _ r=>Kq cl (k::seen) (if k∈seen then acc++[(7,a)] else acc) r
 | seen,acc,_=>if DE∈seen then acc else acc++[(6,cl)]
def u9(base:Nat)(w:World)(v:Value)(l:List (Nat×Nat)):Prop:=w.ownsRow base 105 2 v l.length (kb l)
theorem Vz{w:World}{b:Nat}{u v:Value}(h:w.cell? ⟨b,0,none⟩=some u)(h2:w.cell? ⟨b,1,none⟩=some v):∀ j x,[u,v][j]? = some x->w.cell? ((⟨b,0,none⟩:Addr).add j)=some x:=by
 intro j x hx;match j,hx with
 | 0,hx=>simp at hx;subst hx;exact h
 | 1,hx=>simp at hx;subst hx;rw[ua];exact h2
 | j+2,hx=>simp at hx
def PO(f:Wd->Option Nat)(seen:List Wd):Prop:=∀ k,(0<(f k).getD 0 ↔ k∈seen)/\(f k).getD 0<=seen.length
theorem PO.more{f:Wd->Option Nat}{seen:List Wd}(h:PO f seen)(k:Wd):PO (fun x=>if k=x then some ((f k).getD 0+1) else f x) (k::seen):=by
 intro x;have:=h x;have h2:=h k;by_cases hx:k=x
 ·subst hx;simp;omega
 ·simp only[hx,↓reduceIte,List.mem_cons,zQ];have xw:¬x=k:=fun e=>hx e.symm
  refine⟨by rw[this.1];simp[xw],by omega⟩
theorem u9.VW{base:Nat}{w w':World}{v:Value}{l:List (Nat×Nat)}(h:u9 base w v l)(hb:Below w.heap.size w w'):u9 base w' v l :=
 h.kept (row:=some w.heap.size) ⟨hb.os,hb.tape,hb.output,hb.size,fun i hi _=>hb.block i hi⟩ (by
  cases hv:v.ownBlock with
  | none=>exact .inl rfl
  | some g=>exact .inr (fun e=>by have:=(h.lt g hv).2;cases e;omega))
theorem u9.aY{base b:Nat}{w w':World}{v:Value}{l:List (Nat×Nat)}(h:u9 base w v l)(hg:w.grownBy w' (some b))(hb:b<base):u9 base w' v l :=
 h.kept hg (by
  cases hv:v.ownBlock with
  | none=>exact .inl rfl
  | some g=>exact .inr (fun e=>by have:=(h.lt g hv).1;cases e;omega))
theorem Qz{w0 w:World}{mb:Nat}{v:Value}{l:List (Nat×Nat)}(h:u9 (mb+1) w v l)(hm:w0.heap.size=mb):u9 w0.heap.size w v l:=by
 obtain⟨h1,h2⟩:=h;refine⟨h1,?_⟩;rcases h2 with h2|⟨g,cap,cur,hv,hg,rest⟩
 ·exact .inl h2
 ·exact .inr ⟨g,cap,cur,hv,by omega,rest⟩
theorem YN{lo hi:Nat}{w0:World}(b0:Nat)(n:Wd)(a fo:Nat)(of:Wd)(cl:Nat)(bs:Fo)(w:World)(hk:vK lo hi w0 w)
  (XG:xV lo hi w0 [.iface 177 (.pointer (some ⟨b0,0,none⟩))] (.br n a fo of cl bs .nil)) (JO:(Fo.br n a fo of cl bs .nil).wf 2000000=true) :
  Calls prog 116 #[.pointer (some ⟨b0,0,none⟩)] w fun e w'=>(∃ v,e = .returned v/\u9 w.heap.size w' v (Kq cl [] [] bs))/\Below w.heap.size w w':=by
 have M4:=@run_makeMap prog;obtain⟨vt,b',ba,bc,ws,he,xH,xB,fk,qD,jJ,Mv,B2,Mu,K9,UQ,_⟩:=XG
 cases he;have bQ:(decide (n.length<=4000001) && decide (fo<3) && bs.ub && decide (bs.len<=2000000) && bs.wf 2000000 && Fo.nil.wf 2000000)=true:=JO;simp only[zx,decide_eq_true_eq] at bQ;obtain⟨⟨⟨⟨⟨hnl,KA⟩,Wr⟩,I3⟩,qI⟩,_⟩:=bQ;have HK:=z7 hk;have nO:=z7 UQ;have Mq:=z7 K9;have HBL:=z7 Wr;have I4:=z7 qI;have HC5:=z7 Mu;have c4:=xp hk B2 xH xB;obtain⟨R,hR⟩:∃ R,Kq cl [] [] bs=R:=⟨_,rfl⟩;rw[hR];have HR:=z7 hR;have YI:hi<=w.heap.size:=hk.1;obtain⟨mb,EM⟩:∃ mb,w.heap.size=mb:=⟨_,rfl⟩;have NY:=z7 EM;clear hk UQ K9 Wr qI fk qD jJ Mv B2 Mu JO hR;have CO:=km.made 3 w;rw[EM] at CO;have hbd:Below w.heap.size w (w.alloc (.map #[] 0)):=(zu _ _).alloc (zy _) _;have c4':(w.alloc (.map #[] 0)).cell? ⟨b0,4,none⟩=some (.slice ba bs.len bc):=(zX _ _ _ (show b0<w.heap.size by omega)).trans c4;have zu8:(w.alloc (.map #[] 0)).heap.size=mb+1:=by simp[EM]
 obtain⟨W0,EI⟩:∃ W0,w.alloc (.map #[] 0)=W0:=⟨_,rfl⟩;rw[EI] at CO hbd zu8;have HW0:=z7 EI;clear EI;go_enter func116,ntmps116;go_wp2_with fail;clear c4 c4' EM;go_loopw [2,12] (fun fv iv wr=>∃ i us xs r acc seen nm fm,iv = .int .i64 (i:Nat)/\i<=bs.len/\xV lo hi w0 xs r/\r.ub=true/\r.wf 2000000=true/\us.length=i*3/\ws=us++xs/\i+r.len=bs.len/\Below w.heap.size w wr/\mb<wr.heap.size/\u9 (mb+1) wr fv acc/\km 3 wr mb nm fm/\nm<=i/\PO fm seen/\seen.length=i/\acc.length<=i/\Kq cl seen acc r=R) (fun _ iv _=>bs.len - (intOf iv).toNat)
 case atStart =>
  rw[HW0.out];exact⟨0,[],ws,bs,[],[],0,fun _=>none,rfl,zJ _,nO.out,HBL.out,I4.out,rfl,rfl,by omega,hbd,by omega,zN _ _ _ _,CO,zy _,(fun k=>by simp),rfl,zy _,HR.out⟩
 case round =>
  obtain⟨i,us,xs,r,acc,seen,nm,fm,rfl,hiL,fu,tY,EL,VL,tX,jq,NH,hmw,how,V5,Mg,hsn,dm,qd,Vg⟩:=hrel;have hkw:vK lo hi w0 wr:=HK.out.below NH;have IZ:=z7 how;have Iz:=z7 V5;have og:=z7 hsn;have HSL:=z7 dm;have mU:=z7 qd;have dY:=z7 Vg;have lr:=z7 fu;have U5:=z7 tY;have zxg:=z7 EL;have I5:=z7 tX;have DV:=z7 VL;have AO:=z7 jq;obtain⟨fa,fc,rfl⟩:=xY how;clear fu tY EL tX VL how V5 hsn dm qd Vg;by_cases Zg:i<bs.len
  ·cases r with
   | nil=>exfalso;simp[Fo.len] at jq;omega
   | text t r=>have:=U5.out;cases this
   | hash r=>have:=U5.out;cases this
   | put n a r=>have:=U5.out;cases this
   | num n a r=>have:=U5.out;cases this
   | br n a fo of cl bs r=>have:=U5.out;cases this
   | uq k0 a0 m0 r0 =>
    obtain⟨PC,ma,mc,ms,CQ,XJ,AP,Ut⟩:=lr.out;subst CQ;have hwl:ws.length=us.length+(PC.length+3):=by rw[I5.out];simp
    have UX:∀ j v,[xf k0,.int .i64 (a0:Nat),.slice ma m0.len mc][j]? = some v->∃ (h:i*3+j<ws.length),ws[i*3+j]=v:=by
     intro j v hj;have hj3:j<3:=by
      apply zZ;intro hc;rw[List.getElem?_eq_none (by simp;omega)] at hj
      cases hj
     refine⟨by have:=DV.out;omega,?_⟩;have h1:ws[i*3+j]? = some v:=by
      rw[I5.out,←DV.out,zL (by omega),Nat.add_sub_cancel_left,←hj];match j,hj3 with
      | 0,_=>rfl
      | 1,_=>rfl
      | 2,_=>rfl
     rw[List.getElem?_eq_getElem (by have:=DV.out;omega)] at h1;exact zG h1
    obtain⟨q0,p0⟩:=UX 0 _ rfl;obtain⟨q1,p1⟩:=UX 1 _ rfl;obtain⟨q2,p2⟩:=UX 2 _ rfl;obtain⟨g2,o2,rfl,N6,N7,d0⟩:=Mq.out (i*3+0) q0;obtain⟨nR,o2',hgg,_,_,d1⟩:=Mq.out (i*3+1) q1
    cases hgg;obtain⟨nR,o2',hgg,_,_,d2⟩:=Mq.out (i*3+2) q2
    cases hgg;rw[p0] at d0;rw[p1] at d1;rw[p2] at d2;have c0:=xp hkw d0 N6 N7;have c1:=xp hkw d1 N6 N7;have c2:=xp hkw d2 N6 N7;simp only[Nat.add_zero,←Nat.add_assoc] at c0 c1 c2;have nS:=z7 Ut;have k3:(i:Int)<(bs.len:Int):=by omega
    have k4:decide ((i:Int)<(bs.len:Int))=true:=by simp;omega
    have AR:(decide (k0.length<=4000001) && m0.vD && decide (m0.len<=2000000) && m0.wf 2000000 && r0.wf 2000000)=true:=zxg.out;simp only[zx,decide_eq_true_eq] at AR;obtain⟨⟨⟨⟨CF,_⟩,_⟩,_⟩,KM⟩:=AR;have nT:=z7 KM;have ni:=z7 (show r0.ub=true from U5.out);have nl:=z7 (show i+(r0.len+1)=bs.len from AO.out);have ZE:Below wr.heap.size wr (wr.alloc (.cells #[xf k0,.int .i64 (a0:Nat),.slice ma m0.len mc] 183)):=(zu _ _).alloc (zy _) _;have hMA:=Iz.out.below ZE;have Vd:=hMA.KI XE k0 (by omega);obtain⟨cn,Jf⟩:∃ cn,(fm k0).getD 0=cn:=⟨_,rfl⟩;rw[Jf] at Vd;have gM:=z7 (og.out.more k0);rw[Jf] at gM;have mF:=og.out k0;rw[Jf] at mF;have ZG:cn<=i:=by have:=HSL.out;omega
    have HCN:=z7 Jf;have HCK:=z7 mF.1;clear XJ AP Ut d0 d1 d2 p0 p1 p2 UX Jf mF KM hkw jq hwl;have hwA:=NH.trans (ZE.mono (by have:=NH.size;omega));by_cases b7:k0∈seen
    ·have js:=HCK.out.2 b7;have j1:decide ((0:Int)<(cn:Int))=true:=by simp;omega
     have j2:decide (0<cn)=true:=by simp;omega
     have aX:=z7 (show Kq cl (k0::seen) (acc++[(7,a0)]) r0=R by rw[←dY.out,Kq,if_pos b7]);clear b7;have HMA:=z7 hMA;have HOA:=z7 (IZ.out.VW ZE);clear hMA;go_wp2_with (at_builtin;refine jO ?_);intro W3 kJ;have CP:Below (wr.alloc (.cells #[xf k0,.int .i64 (a0:Nat),.slice ma m0.len mc] 183)).heap.size (wr.alloc (.cells #[xf k0,.int .i64 (a0:Nat),.slice ma m0.len mc] 183)) W3:=by rw[kJ];exact(zu _ _).alloc (zy _) _
     have Ny:(wr.alloc (.cells #[xf k0,.int .i64 (a0:Nat),.slice ma m0.len mc] 183)).heap.size=wr.heap.size+1:=by simp
     have QM:=fun i=>xq (wr.alloc (.cells #[xf k0,.int .i64 (a0:Nat),.slice ma m0.len mc] 183)) #[.int .i64 7,.int .i64 (a0:Nat)] 105 (0,0) i
     rw[←kJ,Ny] at QM;have zlg:=(CP.cell (p:=⟨wr.heap.size,0,none⟩) (by show wr.heap.size<_;omega)).trans (xq wr #[xf k0,.int .i64 (a0:Nat),.slice ma m0.len mc] 183 (0,0) 0);have D5:=z7 (HMA.out.below CP);have oO:=z7 (HOA.out.VW CP);have Gj:=CP.size;have X1:=hwA.trans (CP.mono (by have:=NH.size;omega));clear kJ;refine qG kE rfl _ _ rfl (mb+1) _ acc.length (kb acc) rfl oO.out ⟨wr.heap.size+1,0,none⟩ 1 1 [.int .i64 7,.int .i64 (a0:Nat)] rfl rfl ?u1 ?u2 (by have:=mU.out;omega) (by omega) ?u3
     case u1=>exact Vz (QM 0) (QM 1)
     case u2 =>
      intro u hu;simp at hu;rcases hu with rfl|rfl<;>rfl
     intro v4 w4 UG jk;have Dq:=z7 (show u9 (mb+1) w4 v4 (acc++[(7,a0)]) by unfold u9;rw[Z2,zv];exact UG);have xJ:∀ k,(zj fa acc.length fc).ownBlock=some k->mb+1<=k/\k<wr.heap.size:=fun k hk=>IZ.out.lt k hk
     have hM4:=D5.out.keep (jk.block mb D5.out.lt (fun e=>by have:=xJ mb e.symm;omega));have XZ:Below w.heap.size w w4:=X1.grown jk X1.size (fun k hk=>by have:=xJ k hk;have:=NY.out;omega);have xuq:w4.cell? ⟨wr.heap.size,0,none⟩=some (xf k0):=jk.cell zlg (fun e=>absurd (xJ _ e.symm).2 (Nat.lt_irrefl _));obtain⟨fa4,fc4,rfl⟩:=xY UG;obtain⟨w5,Ak,JD,qt⟩:=hM4.put XE k0 (by omega) ((cn:Int)+1) (cn+1) (by omega) (by omega) (by omega);have yfu:=hM4.KI XE k0 (by omega);rw[HCN.out] at yfu;have RP:=Lib.hid JD;have G6:=Lib.hid (Dq.out.aY qt (by omega));have UP:Below w.heap.size w w5:=XZ.grown qt XZ.size (fun k hk=>by cases hk;have:=NY.out;omega);have zu9:=JD.lt;have zlb:(acc.length+1)=(acc++[(7,a0)]).length:=by simp
     have sH:=z7 (show u9 (mb+1) w5 (.slice fa4 (acc.length+1) fc4) (acc++[(7,a0)]) from G6.out);clear UG jk xJ JD qt hM4 Vd QM zlg zlb;go_wp2;go_roundw
     case rel=>exact⟨i+1,us++[xf k0,.int .i64 (a0:Nat),.slice ma m0.len mc],PC,r0,acc++[(7,a0)],k0::seen,nm+1,_,by simp,by omega,nS.out,ni.out,nT.out,by have:=DV.out;simp;omega,by rw[I5.out,zO];rfl,by have:=nl.out;omega,UP,zu9,sH.out,RP.out,by omega,gM.out,by simp[HSL.out],by have:=mU.out;simp;omega,aX.out⟩
     case measure=>simp only[intOf];omega
    ·have js:¬0<cn:=fun h=>b7 (HCK.out.1 h)
     have j1:decide ((0:Int)<(cn:Int))=false:=by simp;omega
     have j2:decide (0<cn)=false:=by simp;omega
     have aX:=z7 (show Kq cl (k0::seen) acc r0=R by rw[←dY.out,Kq,if_neg b7]);clear b7 js;obtain⟨w5,Ak,JD,qt⟩:=hMA.put XE k0 (by omega) ((cn:Int)+1) (cn+1) (by omega) (by omega) (by omega);have RP:=z7 JD;have G6:=z7 ((IZ.out.VW ZE).aY qt (by omega));have UP:Below w.heap.size w w5:=hwA.grown qt hwA.size (fun k hk=>by cases hk;have:=NY.out;omega);have zu9:=JD.lt;clear JD qt hMA;go_wp2;go_roundw
     case rel=>exact⟨i+1,us++[xf k0,.int .i64 (a0:Nat),.slice ma m0.len mc],PC,r0,acc,k0::seen,nm+1,_,by simp,by omega,nS.out,ni.out,nT.out,by have:=DV.out;simp;omega,by rw[I5.out,zO];rfl,by have:=nl.out;omega,UP,zu9,G6.out,RP.out,by omega,gM.out,by simp[HSL.out],by have:=mU.out;omega,aX.out⟩
     case measure=>simp only[intOf];omega
  ·have k4:decide ((i:Int)<(bs.len:Int))=false:=by simp;omega
   have vZ:r = .nil:=by
    have:=U5.out
    cases r<;>simp[Fo.len] at jq<;>first|rfl|omega
   have Vd:(Instr.lookup 185 (.map (some mb)) (.string ⟨#[111,116,104,101,114]⟩) false).run prog wr = .ok (.int .i64 (((fm DE).getD 0:Nat):Int)) wr:=Iz.out.KI XE DE (by decide);have At:=og.out DE;obtain⟨cn,Jf⟩:∃ cn,(fm DE).getD 0=cn:=⟨_,rfl⟩;rw[Jf] at Vd At;have c5:=xp hkw HC5.out xH xB;have ve:Kq cl seen acc r=if DE∈seen then acc else acc++[(6,cl)]:=by rw[vZ];rfl
   have HFN:=z7 (ve.symm.trans dY.out);have HOB:=z7 (Qz IZ.out NY.out);by_cases b7:DE∈seen
   ·have js:=At.1.2 b7;have j1:((cn:Int)==0)=false:=by simp;omega
    have VX:=z7 (show R=acc by rw[←HFN.out,if_pos b7]);clear At Jf ve b7;go_wp2;go_ret;rw[VX.out];exact⟨⟨_,rfl,HOB.out⟩,NH⟩
   ·have js:¬0<cn:=fun h=>b7 (At.1.1 h)
    have j1:((cn:Int)==0)=true:=by simp;omega
    have VX:=z7 (show R=acc++[(6,cl)] by rw[←HFN.out,if_neg b7]);clear At Jf ve b7;go_wp2_with (at_builtin;refine jO ?_);intro W3 kJ;have CP:Below wr.heap.size wr W3:=by rw[kJ];exact(zu _ _).alloc (zy _) _
    have QM:=fun i=>xq wr #[.int .i64 6,.int .i64 (cl:Nat)] 105 (0,0) i
    rw[←kJ] at QM;have oO:=z7 (IZ.out.VW CP);have Gj:=CP.size;have X1:=NH.trans (CP.mono (by have:=NH.size;omega));clear kJ;refine qG kE rfl _ _ rfl (mb+1) _ acc.length (kb acc) rfl oO.out ⟨wr.heap.size,0,none⟩ 1 1 [.int .i64 6,.int .i64 (cl:Nat)] rfl rfl ?u4 ?u5 (by have:=mU.out;omega) (by omega) ?u6
    case u4=>exact Vz (QM 0) (QM 1)
    case u5 =>
     intro u hu;simp at hu;rcases hu with rfl|rfl<;>rfl
    intro v4 w4 UG jk;have Dq:=z7 (Qz (show u9 (mb+1) w4 v4 (acc++[(6,cl)]) by unfold u9;rw[Z2,zv];exact UG) NY.out);have xJ:∀ k,(zj fa acc.length fc).ownBlock=some k->mb+1<=k:=fun k hk=>(IZ.out.lt k hk).1
    have XZ:Below w.heap.size w w4:=X1.grown jk X1.size (fun k hk=>by have:=xJ k hk;have:=NY.out;omega);clear UG jk xJ;go_wp2;go_ret;rw[VX.out];exact⟨⟨_,rfl,Dq.out⟩,XZ⟩
theorem Vy{cl:Nat}(seen:List Wd)(acc:List (Nat×Nat))(n:Nat):(if DE∈seen then acc else acc++[(6,cl)]).length<=acc.length+n+1:=by
 split
 ·omega
 ·rw[zv];show acc.length+1<=_;omega
theorem YO(cl:Nat):∀ (f:Fo) (seen:List Wd) (acc:List (Nat×Nat)),(Kq cl seen acc f).length<=acc.length+f.len+1
 | .uq k a m r,seen,acc=>by
  rw[Kq];refine zV (YO cl r _ _) ?_;split<;>simp[Fo.len]<;>omega
 | .nil,seen,acc=>Vy seen acc _
 | .text _ _,seen,acc=>Vy seen acc _
 | .hash _,seen,acc=>Vy seen acc _
 | .put _ _ _,seen,acc=>Vy seen acc _
 | .num _ _ _,seen,acc=>Vy seen acc _
 | .br _ _ _ _ _ _ _,seen,acc=>Vy seen acc _
def ja:Fo->Nat
 | .num _ _ _=>1
 | .br _ _ f _ _ _ _=>if f=0 then 2 else 1
 | _=>0
theorem NI{lo hi:Nat}{w0:World}(x:Fo)(u:Value)(n:Wd)(a:Nat)(w:World)(hk:vK lo hi w0 w)(XG:xV lo hi w0 [u] x)(hh:AH x=some (n,a)) :
  Calls prog 115 #[u] w fun e w'=>e = .returned (.int .i64 ((ja x:Nat):Int))/\w'=w:=by
 cases x with
 | nil=>cases hh
 | text t r=>cases hh
 | hash r=>cases hh
 | uq k0 a0 m0 r0=>cases hh
 | put n0 a0 r =>
  obtain⟨vt,b0,he,xH,xB,fk,qD,fu⟩:=XG
  cases he;have e1:=N1 b0;have e2:=B1 b0;go_enter func115,ntmps115;go_wp2;go_ret;exact⟨rfl,rfl⟩
 | num n0 a0 r =>
  obtain⟨vt,b0,he,xH,xB,fk,qD,fu⟩:=XG
  cases he;have e1:=U2 b0;go_enter func115,ntmps115;go_wp2;go_ret;exact⟨rfl,rfl⟩
 | br n0 a0 fo of cl bs r =>
  obtain⟨vt,b0,ba,bc,ws,he,xH,xB,fk,qD,jJ,Mv,B2,Mu,K9,UQ,fu⟩:=XG
  cases he;have e1:=K4 b0;have e2:=Um b0;have c2:=xp hk jJ xH xB;by_cases hf:fo=0
  ·have HF:=Lib.hid hf;have j1:((fo:Int)==0)=true:=by simp[hf]
   clear hf;go_enter func115,ntmps115;go_wp2;go_ret;have hkf:ja (.br n0 a0 fo of cl bs r)=2:=if_pos HF.out;rw[hkf];exact⟨rfl,rfl⟩
  ·have HF:=Lib.hid hf;have j1:((fo:Int)==0)=false:=by simp;omega
   clear hf;go_enter func115,ntmps115;go_wp2;go_ret;have hkf:ja (.br n0 a0 fo of cl bs r)=1:=if_neg HF.out;rw[hkf];exact⟨rfl,rfl⟩
abbrev Kl:=(Wd->Option Nat)×List (Nat×Nat)
def uB(s:Kl)(n:Wd)(a k:Nat):Kl :=
 if k≠0/\(s.1 n).isSome=true/\(s.1 n).getD 0≠k then (s.1,s.2++[(5,a)]) else if k≠0 then (fun y=>if n=y then some k else s.1 y,s.2) else s
def Z3(s:Kl):Fo->Out Kl
 | .br n a f o cl bs r => .go true ((uB s n a (ja (.br n a f o cl bs r))).1,(uB s n a (ja (.br n a f o cl bs r))).2++Kq cl [] [] bs)
 | .num n a _ => .go true (uB s n a 1)
 | .put n a _ => .go true (uB s n a 0)
 | _ => .go true s
theorem fL:RN 254 255:=⟨underlying254,underlying255,fun w=>by simp[go_sem]⟩
structure XH(lo hi:Nat)(w0:World)(B:Nat)(w:World)(s:Kl)(room:Nat)(W:World):Prop where
 keep:vK lo hi w0 W
 hiB:hi<=B
 map:∃ nm,km 255 W (B+1) nm s.1/\nm+room<=1000000000
 row:∃ v,W.cell? ⟨B,0,none⟩=some v/\u9 (B+3) W v s.2
 kc:W.cell? ⟨B+2,0,none⟩=some (.map (some (B+1)))
 fz:W.frozen? ⟨B,0,none⟩=false
 few:s.2.length+room<=1000000000
 bel:Below B w W
theorem XH.below{lo hi:Nat}{w0:World}{B:Nat}{w:World}{s:Kl}{room:Nat}{W W':World}(h:XH lo hi w0 B w s room W)(hb:Below W.heap.size W W'):XH lo hi w0 B w s room W':=by
 obtain⟨h1,h2,⟨nm,h3,h3'⟩,⟨v,h4,h5⟩,h6,h7,h8,h9⟩:=h;have l1:B<W.heap.size:=z8 W _ h4;have l2:B+2<W.heap.size:=z8 W _ h6;exact⟨h1.below hb,h2,⟨nm,h3.below hb,h3'⟩,⟨v,(hb.cell (p:=⟨B,0,none⟩) l1).trans h4,h5.VW hb⟩,(hb.cell (p:=⟨B+2,0,none⟩) l2).trans h6,(hb.frozen (p:=⟨B,0,none⟩) l1).trans h7,h8,h9.trans (hb.mono (by omega))⟩
theorem XH.less{lo hi:Nat}{w0:World}{B:Nat}{w:World}{s:Kl}{room room':Nat}{W:World}(h:XH lo hi w0 B w s room W)(hr:room'<=room):XH lo hi w0 B w s room' W:=by
 obtain⟨h1,h2,⟨nm,h3,h3'⟩,h4,h6,h7,h8,h9⟩:=h;exact⟨h1,h2,⟨nm,h3,by omega⟩,h4,h6,h7,by omega,h9⟩
theorem Kk{w:World}{o:Oper}{a:Act}{K:Act->World->Prop}{Q:Exit->Act->World->Prop}
  (s x:Operand) (ho:o.op = .call { callee := .builtin .append,args:=#[s,x],argTypes:=#[253,253] })
  (base zm0:Nat) (v u:Value) (acc l:List (Nat×Nat)) (hs:a.eval s=v) (hF:u9 base w v acc) (hx:a.eval x=u) (hU:u9 zm0 w u l) (Lt:acc.length+l.length<=2147483648) (bL:base<=w.heap.size)
  (h:∀ v' w',u9 base w' v' (acc++l)->w.grownBy w' v.ownBlock->K (a.put o.dst v') w'):Oper.wp prog o a w K Q:=by
 obtain⟨i,hi,hz,h2,h3⟩:=kE.info;have hU0:=hU;rcases hU.2 with⟨hu,hn⟩|⟨g,cap,cur,hu,hg,hh,hnc,jM,dT,ht⟩
 ·have hl:l=[]:=List.eq_nil_of_length_eq_zero hn;subst hl;have hr:=run_append_owned_none (P:=prog) (w:=w) base 253 o.type 105 i 2 kE.under hi v acc.length (kb acc) hF;unfold Oper.wp execOp;simp only[ho,resolve,invoke,builtin,Sem.run_bind,Sem.run_pure,zM,zS,List.map_cons,List.map_nil,hs,hx,hu,hr];exact h v w (by simpa using hF) (MY w _)
 ·obtain⟨v',w',hr,k1,k2,_⟩:=run_append_own (P:=prog) w base 253 o.type 105 i _ 2 16 kE.under hi hz h2 h3 kE.UF kE.pos v acc.length (kb acc) hF ⟨g,0,none⟩ l.length cap (kb l) (GM l)
   (fun j x hx=>by
    have hj:j<(kb l).length:=(List.getElem?_eq_some_iff.1 hx).1;rw[ua,←hx];rw[GM] at hj;obtain⟨g',uy,AX,_,_,vU⟩:=vQ hU0 (by omega);rw[hu] at AX
    cases AX;exact vU j hj)
   (fun x hx=>by
    simp only[kb,List.mem_flatMap] at hx;obtain⟨y,_,hy⟩:=hx;simp at hy;rcases hy with rfl|rfl<;>rfl) (by unfold maxLen;omega) (by omega) bL
  unfold Oper.wp execOp;simp only[ho,resolve,invoke,builtin,Sem.run_bind,Sem.run_pure,zM,zS,List.map_cons,List.map_nil,hs,hx,hu,hr];exact h v' w' (by unfold u9;rw[Z2,zv];exact k1) k2
theorem IY(x:Fo):ja x<=2:=by
 cases x<;>simp[ja];split<;>decide
theorem vK.aV{lo hi:Nat}{w W:World}(h:vK lo hi w W):vK lo hi w W.drew:=h
theorem Qy{lo hi:Nat}{w0:World}{B:Nat}{w:World}{s:Kl}{room room':Nat}{W W':World}{row:Option Nat}{v':Value}{l:List (Nat×Nat)}(h:XH lo hi w0 B w s room W)(hg:W.grownBy W' row)(xJ:∀ k,row=some k->B+3<=k)
  (hf:u9 (B+3) W' v' (s.2++l)) (hr:room'+l.length<=room):XH lo hi w0 B w (s.1,s.2++l) room' (W'.setCell ⟨B,0,none⟩ v'):=by
 obtain⟨h1,h2,⟨nm,h3,h3'⟩,⟨v,h4,h5⟩,h6,h7,h8,h9⟩:=h;have xw:∀ k,k<B+3->(some k:Option Nat)≠row:=fun k q1 q2=>by have:=xJ k q2.symm;omega
 have l0:B<W.heap.size:=z8 W _ h4;have hb:∀ k,k<W.heap.size->k<B+3->k≠B->(W'.setCell ⟨B,0,none⟩ v').heap[k]? = W.heap[k]? := fun k q1 q2 q3=>(Below.heap_setCell _ _ _ _ q3).trans (hg.block k q1 (xw k q2))
 have l2:B+2<W.heap.size:=z8 W _ h6;have qs:W.heap.size<=(W'.setCell ⟨B,0,none⟩ v').heap.size:=zV hg.size (by simp[World.setCell]);have c0:W'.cell? ⟨B,0,none⟩=some v:=hg.cell h4 (xw B (by omega));refine⟨⟨zV h1.1 qs,fun k k1 k2=>(hb k (by have:=h1.1;omega) (by omega) (by omega)).trans (h1.2 k k1 k2)⟩,h2,⟨nm,h3.keep (hb (B+1) h3.lt (by omega) (by omega)),by omega⟩,⟨v',by rw[xd,if_pos rfl,c0];rfl,?_⟩,
  (World.cell?_of_block (a:=⟨B+2,0,none⟩) (hb (B+2) l2 (by omega) (by omega))).trans h6,?_,?_,?_⟩
 ·exact ownsRow_setCell_below hf (a:=⟨B,0,none⟩) (by show B<B+3;omega) v'
 ·rw[zf];exact(zk (a:=⟨B,0,none⟩) (hg.block B l0 (xw B (by omega)))).trans h7
 ·show(s.2++l).length+room'<=_;rw[zv];omega
 ·exact vp (h9.grown hg (by omega) (fun k q=>by have:=xJ k q;omega)) (zy _)
theorem JR{lo hi:Nat}{w0:World}{B:Nat}{w:World}{s:Kl}{room room' nm:Nat}{W W':World}{f:Wd->Option Nat}(h:XH lo hi w0 B w s room W)(hm:km 255 W' (B+1) (nm+1) f)(hg:W.grownBy W' (some (B+1)))
  (hn:nm+room<=1000000000) (hr:room'+1<=room):XH lo hi w0 B w (f,s.2) room' W':=by
 obtain⟨h1,h2,_,⟨v,h4,h5⟩,h6,h7,h8,h9⟩:=h;have xw:∀ k,k≠B+1->(some k:Option Nat)≠some (B+1):=fun k q1 q2=>q1 (by cases q2;rfl)
 have l0:B<W.heap.size:=z8 W _ h4;refine⟨⟨zV h1.1 hg.size,fun k k1 k2=>(hg.block k (by have:=h1.1;omega) (xw k (by omega))).trans (h1.2 k k1 k2)⟩,h2,⟨nm+1,hm,by omega⟩,⟨v,hg.cell h4 (xw B (by omega)),h5.aY hg (by omega)⟩,
  hg.cell h6 (xw (B+2) (by omega)),?_,by show s.2.length+room'<=_;omega,h9.grown hg (by omega) (fun k q=>by cases q;omega)⟩
 exact(zk (a:=⟨B,0,none⟩) (hg.block B l0 (xw B (by omega)))).trans h7
theorem oP{lo hi:Nat}{w0:World}{B:Nat}{w:World}(x:Fo)(u:Value)(n:Wd)(a:Nat)(s:Kl)(room:Nat)(W:World)(hI:XH lo hi w0 B w s (room+x.wt) W)(XG:xV lo hi w0 [u] x)(JO:x.wf 2000000=true)(hh:AH x=some (n,a)) :
  Calls prog 114 #[u,.agg #[xf n,.int .i64 (a:Nat)],.pointer (some ⟨B+2,0,none⟩),.pointer (some ⟨B,0,none⟩)] W (zxk (XH lo hi w0 B w) room (Z3 s x)):=by
 have HI:=z7 hI;have HND:=z7 XG;have HWF:=z7 JO;clear hI JO
 cases x with
 | nil=>cases hh
 | text t r=>cases hh
 | hash r=>cases hh
 | uq k0 a0 m0 r0=>cases hh
 | put n0 a0 r =>
  obtain⟨vt,b0,he,xH,xB,fk,qD,fu⟩:=XG;obtain⟨rfl,rfl⟩:n=n0/\a=a0:=by cases hh;exact⟨rfl,rfl⟩
  cases he;have e1:=B1 b0;have HI:=z7 (show XH lo hi w0 B w s (room+1) W from HI.out);have hnl:n.length<=4000001:=by have:=HWF.out;simp[Fo.wf] at this;exact this.1
  obtain⟨kv,Qa⟩:∃ kv,ja (.put n a r)=kv:=⟨_,rfl⟩;have CR:=z7 (fun W' hk=>NI (.put n a r) (.iface 172 (.pointer (some ⟨b0,0,none⟩))) n a W' hk HND.out rfl);have Nd:=z7 Qa;rw[Qa] at CR;clear Qa;go_enter func114,ntmps114;go_wp2_with fail;have ZE:Below W.heap.size W (W.alloc (.cells #[xf n,.int .i64 (a:Nat)] 114)):=(zu _ _).alloc (zy _) _;have Vw:=fun i=>xq W #[xf n,.int .i64 (a:Nat)] 114 (0,0) i
  have YP:=HI.out.below ZE;obtain⟨W1,Ve⟩:∃ W1,W.alloc (.cells #[xf n,.int .i64 (a:Nat)] 114)=W1:=⟨_,rfl⟩;rw[Ve] at Vw YP ⊢;have Mx:=Vw 0;have Wl:=Vw 1;clear Ve Vw ZE;refine(CR.out W1 YP.keep).mono ?_;rintro e W2 ⟨rfl,rfl⟩;obtain⟨nm,V5,Mg⟩:=YP.map;obtain⟨fv,hfc,YY⟩:=YP.row;obtain⟨fa,fc,rfl⟩:=xY YY;have Vd:=V5.look fL n (by omega);have WB:=YP.kc;have U3:=YP.fz;have aU:=YP.few;have K8:=z7 YP;have Iz:=z7 V5;have Jd:=z7 YY;have Jv:B+2<W2.heap.size:=z8 W2 _ WB;clear YP V5 YY;obtain⟨kk,Uc⟩:∃ kk,(s.1 n).getD 0=kk:=⟨_,rfl⟩;obtain⟨bb,Zj⟩:∃ bb,(s.1 n).isSome=bb:=⟨_,rfl⟩;rw[Uc,Zj] at Vd;have o7:=z7 Uc;have tL:=z7 Zj;clear Uc Zj CR;have CF:kv=0:=Nd.out.symm;subst CF;have HF:=z7 (K8.out.less (room':=room) (by omega));go_wp2;go_ret;have NL:Z3 s (.put n a r) = .go true s:=by show Out.go true (uB s n a 0)=_;unfold uB;simp
  rw[NL];exact⟨rfl,HF.out⟩
 | num n0 a0 r =>
  obtain⟨vt,b0,he,xH,xB,fk,qD,fu⟩:=XG;obtain⟨rfl,rfl⟩:n=n0/\a=a0:=by cases hh;exact⟨rfl,rfl⟩
  cases he;have e1:=S4 b0;have HI:=z7 (show XH lo hi w0 B w s (room+1) W from HI.out);have hnl:n.length<=4000001:=by have:=HWF.out;simp[Fo.wf] at this;exact this.1
  obtain⟨kv,Qa⟩:∃ kv,ja (.num n a r)=kv:=⟨_,rfl⟩;have CR:=z7 (fun W' hk=>NI (.num n a r) (.iface 175 (.pointer (some ⟨b0,0,none⟩))) n a W' hk HND.out rfl);have Nd:=z7 Qa;rw[Qa] at CR;clear Qa;go_enter func114,ntmps114;go_wp2_with fail;have ZE:Below W.heap.size W (W.alloc (.cells #[xf n,.int .i64 (a:Nat)] 114)):=(zu _ _).alloc (zy _) _;have Vw:=fun i=>xq W #[xf n,.int .i64 (a:Nat)] 114 (0,0) i
  have YP:=HI.out.below ZE;obtain⟨W1,Ve⟩:∃ W1,W.alloc (.cells #[xf n,.int .i64 (a:Nat)] 114)=W1:=⟨_,rfl⟩;rw[Ve] at Vw YP ⊢;have Mx:=Vw 0;have Wl:=Vw 1;clear Ve Vw ZE;refine(CR.out W1 YP.keep).mono ?_;rintro e W2 ⟨rfl,rfl⟩;obtain⟨nm,V5,Mg⟩:=YP.map;obtain⟨fv,hfc,YY⟩:=YP.row;obtain⟨fa,fc,rfl⟩:=xY YY;have Vd:=V5.look fL n (by omega);have WB:=YP.kc;have U3:=YP.fz;have aU:=YP.few;have K8:=z7 YP;have Iz:=z7 V5;have Jd:=z7 YY;have Jv:B+2<W2.heap.size:=z8 W2 _ WB;clear YP V5 YY;obtain⟨kk,Uc⟩:∃ kk,(s.1 n).getD 0=kk:=⟨_,rfl⟩;obtain⟨bb,Zj⟩:∃ bb,(s.1 n).isSome=bb:=⟨_,rfl⟩;rw[Uc,Zj] at Vd;have o7:=z7 Uc;have tL:=z7 Zj;clear Uc Zj CR;have zuy:kv≠0:=by rw[←Nd.out];exact Nat.one_ne_zero
  have yfk:kv<=2:=by rw[←Nd.out];exact IY _
  have j1:((kv:Int) !=0)=true:=by simp;omega
  have j1':((kv:Int)==0)=false:=by simp;omega
  have PI:=z7 zuy
  cases bb with
  | false =>
   obtain⟨W4,Ak,KM,jk⟩:=Iz.out.put fL n (by omega) (kv:Int) kv rfl (by omega) (by omega);have jN:=z7 (show uB s n a kv=(fun y=>if n=y then some kv else s.1 y,s.2) by unfold uB;rw[if_neg (fun e=>by have:=e.2.1;rw[tL.out] at this;cases this),if_pos PI.out]);have HF:=z7 (JR K8.out KM jk (room':=room) Mg (by omega));clear KM jk;go_wp2;go_ret;have NL:Z3 s (.num n a r) = .go true ((fun y=>if n=y then some kv else s.1 y,s.2):Kl):=by show Out.go true (uB s n a 1)=_;rw[show(1:Nat)=kv from Nd.out,jN.out]
   rw[NL];exact⟨rfl,HF.out⟩
  | true =>
   by_cases gK:kk=kv
   ·have j2:((kk:Int) !=(kv:Int))=false:=by simp[gK]
    have j3:(kk !=kv)=false:=by simp[gK]
    have GN:=z7 gK;clear gK;obtain⟨W4,Ak,KM,jk⟩:=Iz.out.put fL n (by omega) (kv:Int) kv rfl (by omega) (by omega);have jN:=z7 (show uB s n a kv=(fun y=>if n=y then some kv else s.1 y,s.2) by unfold uB;rw[if_neg (fun e=>e.2.2 (by rw[o7.out];exact GN.out)),if_pos PI.out]);have HF:=z7 (JR K8.out KM jk (room':=room) Mg (by omega));clear KM jk;go_wp2;go_ret;have NL:Z3 s (.num n a r) = .go true ((fun y=>if n=y then some kv else s.1 y,s.2):Kl):=by show Out.go true (uB s n a 1)=_;rw[show(1:Nat)=kv from Nd.out,jN.out]
    rw[NL];exact⟨rfl,HF.out⟩
   ·have j2:((kk:Int) !=(kv:Int))=true:=by simp;omega
    have j3:(kk !=kv)=true:=by simp[gK]
    have GN:=z7 gK;clear gK;go_wp2_with (at_builtin;refine jO ?_);intro W3 kJ;have qd:Below W2.heap.size W2 W3:=by rw[kJ];exact(zu _ _).alloc (zy _) _
    have QM:=fun i=>xq W2 #[.int .i64 5,.int .i64 (a:Nat)] 105 (0,0) i
    rw[←kJ] at QM;have AN:=z7 (K8.out.below qd);have q3:=(qd.cell (z8 _ _ hfc)).trans hfc;have oO:=z7 (Jd.out.VW qd);have Gj:=qd.size;clear kJ;refine qG kE rfl _ _ rfl (B+3) _ s.2.length (kb s.2) rfl oO.out ⟨W2.heap.size,0,none⟩ 1 1 [.int .i64 5,.int .i64 (a:Nat)] rfl rfl ?w5V1 ?w5V2 (by omega) (by omega) ?w5V3
    case w5V1=>exact Vz (QM 0) (QM 1)
    case w5V2 =>
     intro u hu;simp at hu;rcases hu with rfl|rfl<;>rfl
    intro v4 w4 UG jk;have VD:u9 (B+3) w4 v4 (s.2++[(5,a)]):=by unfold u9;rw[Z2,zv];exact UG
    have xJ:∀ k,(zj fa s.2.length fc).ownBlock=some k->B+3<=k:=fun k hk=>(Jd.out.lt k hk).1
    have xw:∀ k,k<B+3->(some k:Option Nat)≠(zj fa s.2.length fc).ownBlock:=fun k h1 h2=>by have:=xJ k h2.symm;omega
    have q4:=jk.cell q3 (xw B (by omega));have z4:w4.frozen? ⟨B,0,none⟩=false:=(World.frozen?_of_block (a:=⟨B,0,none⟩) (jk.block B (World.block_lt_of_cell? _ _ q3) (xw B (by omega)))).trans AN.out.fz;have jN:=Lib.hid (show uB s n a kv=(s.1,s.2++[(5,a)]) by unfold uB;rw[if_pos ⟨PI.out,tL.out,fun e=>GN.out (o7.out.symm.trans e)⟩]);have HF:=Lib.hid (Qy (l:=[(5,a)]) (room':=room) AN.out jk xJ VD (by simp<;>omega));obtain⟨fa4,fc4,rfl⟩:=xY VD;obtain⟨W4,V2⟩:∃ W4,w4.setCell ⟨B,0,none⟩ (.slice fa4 (s.2.length+1) fc4)=W4:=⟨_,rfl⟩;have IX:(s.2++[(5,a)]).length=s.2.length+1:=by simp
    rw[IX,V2] at HF;have HW4:=z7 V2;clear UG jk xJ VD xw q3 oO IX;go_wp2;go_ret;have NL:Z3 s (.num n a r) = .go true ((s.1,s.2++[(5,a)]):Kl):=by show Out.go true (uB s n a 1)=_;rw[show(1:Nat)=kv from Nd.out,jN.out]
    rw[NL];exact⟨rfl,HF.out⟩
 | br n0 a0 fo of cl bs r =>
  obtain⟨vt,b0,ba,bc,ws,he,xH,xB,fk,qD,jJ,Mv,B2,Mu,K9,UQ,fu⟩:=XG;obtain⟨rfl,rfl⟩:n=n0/\a=a0:=by cases hh;exact⟨rfl,rfl⟩
  cases he;have e1:=Um b0;have HI:=z7 (show XH lo hi w0 B w s (room+(2+bs.len)) W from HI.out);have hnl:n.length<=4000001:=by have:=HWF.out;simp[Fo.wf] at this;exact this.1.1.1.1.1
  have N9:=z7 (show xV lo hi w0 [.iface 177 (.pointer (some ⟨b0,0,none⟩))] (.br n a fo of cl bs .nil) from⟨[],b0,ba,bc,ws,rfl,xH,xB,fk,qD,jJ,Mv,B2,Mu,K9,UQ,rfl⟩);have zux:=z7 (show(Fo.br n a fo of cl bs .nil).wf 2000000=true by have:=HWF.out;simp[Fo.wf] at this ⊢;exact this.1);obtain⟨kv,Qa⟩:∃ kv,ja (.br n a fo of cl bs r)=kv:=⟨_,rfl⟩;have CR:=z7 (fun W' hk=>NI (.br n a fo of cl bs r) (.iface 177 (.pointer (some ⟨b0,0,none⟩))) n a W' hk HND.out rfl);have Nd:=z7 Qa;rw[Qa] at CR;clear Qa;go_enter func114,ntmps114;go_wp2_with fail;have ZE:Below W.heap.size W (W.alloc (.cells #[xf n,.int .i64 (a:Nat)] 114)):=(zu _ _).alloc (zy _) _;have Vw:=fun i=>xq W #[xf n,.int .i64 (a:Nat)] 114 (0,0) i
  have YP:=HI.out.below ZE;obtain⟨W1,Ve⟩:∃ W1,W.alloc (.cells #[xf n,.int .i64 (a:Nat)] 114)=W1:=⟨_,rfl⟩;rw[Ve] at Vw YP ⊢;have Mx:=Vw 0;have Wl:=Vw 1;clear Ve Vw ZE;refine(CR.out W1 YP.keep).mono ?_;rintro e W2 ⟨rfl,rfl⟩;obtain⟨nm,V5,Mg⟩:=YP.map;obtain⟨fv,hfc,YY⟩:=YP.row;obtain⟨fa,fc,rfl⟩:=xY YY;have Vd:=V5.look fL n (by omega);have WB:=YP.kc;have U3:=YP.fz;have aU:=YP.few;have K8:=z7 YP;have Iz:=z7 V5;have Jd:=z7 YY;have Jv:B+2<W2.heap.size:=z8 W2 _ WB;clear YP V5 YY;obtain⟨kk,Uc⟩:∃ kk,(s.1 n).getD 0=kk:=⟨_,rfl⟩;obtain⟨bb,Zj⟩:∃ bb,(s.1 n).isSome=bb:=⟨_,rfl⟩;rw[Uc,Zj] at Vd;have o7:=z7 Uc;have tL:=z7 Zj;clear Uc Zj CR;have zuy:kv≠0:=by rw[←Nd.out];by_cases h:fo=0<;>simp[ja,h]
  have yfk:kv<=2:=by rw[←Nd.out];exact IY _
  have j1:((kv:Int) !=0)=true:=by simp;omega
  have j1':((kv:Int)==0)=false:=by simp;omega
  have PI:=z7 zuy
  cases bb with
  | false =>
   obtain⟨W4,Ak,KM,jk⟩:=Iz.out.put fL n (by omega) (kv:Int) kv rfl (by omega) (by omega);have jN:=z7 (show uB s n a kv=(fun y=>if n=y then some kv else s.1 y,s.2) by unfold uB;rw[if_neg (fun e=>by have:=e.2.1;rw[tL.out] at this;cases this),if_pos PI.out]);have HF:=z7 (JR K8.out KM jk (room':=(room+1+bs.len)) Mg (by omega));clear KM jk;obtain⟨s1,uT⟩:∃ s1:Kl,((fun y=>if n=y then some kv else s.1 y,s.2):Kl)=s1:=⟨_,rfl⟩;rw[uT] at jN HF;clear uT;go_wp2_with fail;have q1:=HF.out.row;obtain⟨v1,q2,q3⟩:=q1;obtain⟨PR,PS,rfl⟩:=xY q3;have M8:=z7 (fun W' hk=>YN b0 n a fo of cl bs W' hk N9.out zux.out);have SL:=z7 q3;refine rk (fun W':World=>W'.cell? ⟨B,0,none⟩=some (.slice PR (s1).2.length PS)) 4 [0,1] 3 q2 ?_;(iterate 2 ((first|refine ty ?_|refine tn ?_);try simp only[pl]))
   refine xk ?_;refine xM 2 (by kernel_rfl) rfl (fun K hK=>?_);go_simp;refine(M8.out W4.drew HF.out.keep.aV).mono ?_;rintro e W5 ⟨⟨vb,rfl,CI⟩,jw⟩;have Qx:Below W4.heap.size W4 W5:=(zu _ W4).drew.trans jw;have aQ:=HF.out.below Qx;have q5:W5.cell? ⟨B,0,none⟩=some (.slice PR (s1).2.length PS):=(Qx.cell (z8 _ _ q2)).trans q2;have q6:=SL.out.VW Qx;have z5:=aQ.fz;have HI5:=z7 aQ;have HFB:=z7 CI;clear aQ CI;refine hK.out _ _ q5 (fun _=>?_);clear hK K;refine xM 3 (by kernel_rfl) rfl (fun K hK=>?_);rw[if_pos (by rfl)];refine Kk _ _ rfl (B+3) _ _ vb (s1).2 (Kq cl [] [] bs) rfl q6 rfl HFB.out ?w8X1 ?w8X2 ?w8X3
   case w8X1 =>
    have:=YO cl bs [] [];have:=HF.out.few;simp only[zg] at *;omega
   case w8X2=>have h:=z8 _ _ HF.out.kc;have:=Qx.size;dsimp only at h;omega
   case w8X3 =>
    intro v6 W6 ZO PT;have HF6:=z7 ZO;have xJ:∀ k,(zj PR (s1).2.length PS).ownBlock=some k->B+3<=k:=fun k hk=>(SL.out.lt k hk).1
    have xw:∀ k,k<B+3->(some k:Option Nat)≠(zj PR (s1).2.length PS).ownBlock:=fun k h1 h2=>by have:=xJ k h2.symm;omega
    have q7:=PT.cell q5 (xw B (by omega));have q8:W6.frozen? ⟨B,0,none⟩=false:=(zk (a:=⟨B,0,none⟩) (PT.block B (z8 _ _ q5) (xw B (by omega)))).trans z5;have aK:=Qy (room':=room) HI5.out PT xJ ZO (by have:=YO cl bs [] [];simp only[zg] at this;omega);obtain⟨fa6,fc6,rfl⟩:=xY ZO;refine hK.out _ _ q7 (fun _=>?_);clear hK K;refine vu 4 (by kernel_rfl) (by kernel_rfl) rfl (fun K hK=>?_);go_simp;refine hK.out _ _ ?_;clear hK K;refine vq (by kernel_rfl) ?_ _;rw[zv] at aK;have HI6:=z7 aK;clear aK;go_wp2;go_ret;have NL:Z3 s (.br n a fo of cl bs r) = .go true (s1.1,s1.2++Kq cl [] [] bs):=by
     show Out.go true ((uB s n a (ja (.br n a fo of cl bs r))).1,(uB s n a (ja (.br n a fo of cl bs r))).2++Kq cl [] [] bs)=_;rw[Nd.out,jN.out]
    rw[NL];exact⟨rfl,HI6.out⟩
  | true =>
   by_cases gK:kk=kv
   ·have j2:((kk:Int) !=(kv:Int))=false:=by simp[gK]
    have j3:(kk !=kv)=false:=by simp[gK]
    have GN:=z7 gK;clear gK;obtain⟨W4,Ak,KM,jk⟩:=Iz.out.put fL n (by omega) (kv:Int) kv rfl (by omega) (by omega);have jN:=z7 (show uB s n a kv=(fun y=>if n=y then some kv else s.1 y,s.2) by unfold uB;rw[if_neg (fun e=>e.2.2 (by rw[o7.out];exact GN.out)),if_pos PI.out]);have HF:=z7 (JR K8.out KM jk (room':=(room+1+bs.len)) Mg (by omega));clear KM jk;obtain⟨s1,uT⟩:∃ s1:Kl,((fun y=>if n=y then some kv else s.1 y,s.2):Kl)=s1:=⟨_,rfl⟩;rw[uT] at jN HF;clear uT;go_wp2_with fail;have q1:=HF.out.row;obtain⟨v1,q2,q3⟩:=q1;obtain⟨PR,PS,rfl⟩:=xY q3;have M8:=z7 (fun W' hk=>YN b0 n a fo of cl bs W' hk N9.out zux.out);have SL:=z7 q3;refine rk (fun W':World=>W'.cell? ⟨B,0,none⟩=some (.slice PR (s1).2.length PS)) 4 [0,1] 3 q2 ?_;(iterate 2 ((first|refine ty ?_|refine tn ?_);try simp only[pl]))
    refine xk ?_;refine xM 2 (by kernel_rfl) rfl (fun K hK=>?_);go_simp;refine(M8.out W4.drew HF.out.keep.aV).mono ?_;rintro e W5 ⟨⟨vb,rfl,CI⟩,jw⟩;have Qx:Below W4.heap.size W4 W5:=(zu _ W4).drew.trans jw;have aQ:=HF.out.below Qx;have q5:W5.cell? ⟨B,0,none⟩=some (.slice PR (s1).2.length PS):=(Qx.cell (z8 _ _ q2)).trans q2;have q6:=SL.out.VW Qx;have z5:=aQ.fz;have HI5:=z7 aQ;have HFB:=z7 CI;clear aQ CI;refine hK.out _ _ q5 (fun _=>?_);clear hK K;refine xM 3 (by kernel_rfl) rfl (fun K hK=>?_);rw[if_pos (by rfl)];refine Kk _ _ rfl (B+3) _ _ vb (s1).2 (Kq cl [] [] bs) rfl q6 rfl HFB.out ?w9X1 ?w9X2 ?w9X3
    case w9X1 =>
     have:=YO cl bs [] [];have:=HF.out.few;simp only[zg] at *;omega
    case w9X2=>have h:=z8 _ _ HF.out.kc;have:=Qx.size;dsimp only at h;omega
    case w9X3 =>
     intro v6 W6 ZO PT;have HF6:=z7 ZO;have xJ:∀ k,(zj PR (s1).2.length PS).ownBlock=some k->B+3<=k:=fun k hk=>(SL.out.lt k hk).1
     have xw:∀ k,k<B+3->(some k:Option Nat)≠(zj PR (s1).2.length PS).ownBlock:=fun k h1 h2=>by have:=xJ k h2.symm;omega
     have q7:=PT.cell q5 (xw B (by omega));have q8:W6.frozen? ⟨B,0,none⟩=false:=(zk (a:=⟨B,0,none⟩) (PT.block B (z8 _ _ q5) (xw B (by omega)))).trans z5;have aK:=Qy (room':=room) HI5.out PT xJ ZO (by have:=YO cl bs [] [];simp only[zg] at this;omega);obtain⟨fa6,fc6,rfl⟩:=xY ZO;refine hK.out _ _ q7 (fun _=>?_);clear hK K;refine vu 4 (by kernel_rfl) (by kernel_rfl) rfl (fun K hK=>?_);go_simp;refine hK.out _ _ ?_;clear hK K;refine vq (by kernel_rfl) ?_ _;rw[zv] at aK;have HI6:=z7 aK;clear aK;go_wp2;go_ret;have NL:Z3 s (.br n a fo of cl bs r) = .go true (s1.1,s1.2++Kq cl [] [] bs):=by
      show Out.go true ((uB s n a (ja (.br n a fo of cl bs r))).1,(uB s n a (ja (.br n a fo of cl bs r))).2++Kq cl [] [] bs)=_;rw[Nd.out,jN.out]
     rw[NL];exact⟨rfl,HI6.out⟩
   ·have j2:((kk:Int) !=(kv:Int))=true:=by simp;omega
    have j3:(kk !=kv)=true:=by simp[gK]
    have GN:=z7 gK;clear gK;go_wp2_with (at_builtin;refine jO ?_);intro W3 kJ;have qd:Below W2.heap.size W2 W3:=by rw[kJ];exact(zu _ _).alloc (zy _) _
    have QM:=fun i=>xq W2 #[.int .i64 5,.int .i64 (a:Nat)] 105 (0,0) i
    rw[←kJ] at QM;have AN:=z7 (K8.out.below qd);have q3:=(qd.cell (z8 _ _ hfc)).trans hfc;have oO:=z7 (Jd.out.VW qd);have Gj:=qd.size;clear kJ;refine qG kE rfl _ _ rfl (B+3) _ s.2.length (kb s.2) rfl oO.out ⟨W2.heap.size,0,none⟩ 1 1 [.int .i64 5,.int .i64 (a:Nat)] rfl rfl ?w10V1 ?w10V2 (by omega) (by omega) ?w10V3
    case w10V1=>exact Vz (QM 0) (QM 1)
    case w10V2 =>
     intro u hu;simp at hu;rcases hu with rfl|rfl<;>rfl
    intro v4 w4 UG jk;have VD:u9 (B+3) w4 v4 (s.2++[(5,a)]):=by unfold u9;rw[Z2,zv];exact UG
    have xJ:∀ k,(zj fa s.2.length fc).ownBlock=some k->B+3<=k:=fun k hk=>(Jd.out.lt k hk).1
    have xw:∀ k,k<B+3->(some k:Option Nat)≠(zj fa s.2.length fc).ownBlock:=fun k h1 h2=>by have:=xJ k h2.symm;omega
    have q4:=jk.cell q3 (xw B (by omega));have z4:w4.frozen? ⟨B,0,none⟩=false:=(World.frozen?_of_block (a:=⟨B,0,none⟩) (jk.block B (World.block_lt_of_cell? _ _ q3) (xw B (by omega)))).trans AN.out.fz;have jN:=Lib.hid (show uB s n a kv=(s.1,s.2++[(5,a)]) by unfold uB;rw[if_pos ⟨PI.out,tL.out,fun e=>GN.out (o7.out.symm.trans e)⟩]);have HF:=Lib.hid (Qy (l:=[(5,a)]) (room':=(room+1+bs.len)) AN.out jk xJ VD (by simp<;>omega));obtain⟨fa4,fc4,rfl⟩:=xY VD;obtain⟨W4,V2⟩:∃ W4,w4.setCell ⟨B,0,none⟩ (.slice fa4 (s.2.length+1) fc4)=W4:=⟨_,rfl⟩;have IX:(s.2++[(5,a)]).length=s.2.length+1:=by simp
    rw[IX,V2] at HF;have HW4:=z7 V2;clear UG jk xJ VD xw q3 oO IX;obtain⟨s1,uT⟩:∃ s1:Kl,((s.1,s.2++[(5,a)]):Kl)=s1:=⟨_,rfl⟩;rw[uT] at jN HF;clear uT;go_wp2_with fail;clear V2;have q1:=HF.out.row;obtain⟨v1,q2,q3⟩:=q1;obtain⟨PR,PS,rfl⟩:=xY q3;have M8:=z7 (fun W' hk=>YN b0 n a fo of cl bs W' hk N9.out zux.out);have SL:=z7 q3;refine rk (fun W':World=>W'.cell? ⟨B,0,none⟩=some (.slice PR (s1).2.length PS)) 4 [0,1] 3 q2 ?_;(iterate 2 ((first|refine ty ?_|refine tn ?_);try simp only[pl]))
    refine xk ?_;refine xM 2 (by kernel_rfl) rfl (fun K hK=>?_);go_simp;refine(M8.out W4.drew HF.out.keep.aV).mono ?_;rintro e W5 ⟨⟨vb,rfl,CI⟩,jw⟩;have Qx:Below W4.heap.size W4 W5:=(zu _ W4).drew.trans jw;have aQ:=HF.out.below Qx;have q5:W5.cell? ⟨B,0,none⟩=some (.slice PR (s1).2.length PS):=(Qx.cell (z8 _ _ q2)).trans q2;have q6:=SL.out.VW Qx;have z5:=aQ.fz;have HI5:=z7 aQ;have HFB:=z7 CI;clear aQ CI;refine hK.out _ _ q5 (fun _=>?_);clear hK K;refine xM 3 (by kernel_rfl) rfl (fun K hK=>?_);rw[if_pos (by rfl)];refine Kk _ _ rfl (B+3) _ _ vb (s1).2 (Kq cl [] [] bs) rfl q6 rfl HFB.out ?w10X1 ?w10X2 ?w10X3
    case w10X1 =>
     have:=YO cl bs [] [];have:=HF.out.few;simp only[zg] at *;omega
    case w10X2=>have h:=z8 _ _ HF.out.kc;have:=Qx.size;dsimp only at h;omega
    case w10X3 =>
     intro v6 W6 ZO PT;have HF6:=z7 ZO;have xJ:∀ k,(zj PR (s1).2.length PS).ownBlock=some k->B+3<=k:=fun k hk=>(SL.out.lt k hk).1
     have xw:∀ k,k<B+3->(some k:Option Nat)≠(zj PR (s1).2.length PS).ownBlock:=fun k h1 h2=>by have:=xJ k h2.symm;omega
     have q7:=PT.cell q5 (xw B (by omega));have q8:W6.frozen? ⟨B,0,none⟩=false:=(zk (a:=⟨B,0,none⟩) (PT.block B (z8 _ _ q5) (xw B (by omega)))).trans z5;have aK:=Qy (room':=room) HI5.out PT xJ ZO (by have:=YO cl bs [] [];simp only[zg] at this;omega);obtain⟨fa6,fc6,rfl⟩:=xY ZO;refine hK.out _ _ q7 (fun _=>?_);clear hK K;refine vu 4 (by kernel_rfl) (by kernel_rfl) rfl (fun K hK=>?_);go_simp;refine hK.out _ _ ?_;clear hK K;refine vq (by kernel_rfl) ?_ _;rw[zv] at aK;have HI6:=z7 aK;clear aK;go_wp2;go_ret;have NL:Z3 s (.br n a fo of cl bs r) = .go true (s1.1,s1.2++Kq cl [] [] bs):=by
      show Out.go true ((uB s n a (ja (.br n a fo of cl bs r))).1,(uB s n a (ja (.br n a fo of cl bs r))).2++Kq cl [] [] bs)=_;rw[Nd.out,jN.out]
     rw[NL];exact⟨rfl,HI6.out⟩
def Jb(m:Nat×Nat)(l:List (Nat×Nat)):Nat×Nat:=l.foldl (fun m x=>if x.2<m.2 then x else m) m
abbrev NM(x:Nat×Nat):Value := .agg #[.int .i64 (x.1:Nat),.int .i64 (x.2:Nat)]
theorem NN(x y:Nat×Nat)(w:World):Calls prog 118 #[NM x,NM y] w fun e w'=>e = .returned (.int .i64 (zU (x.2:Nat) (y.2:Nat)))/\Below w.heap.size w w':=by
 have HC:=z7 (fun W=>Tryz.cmp_Compare_int (x.2:Nat) (y.2:Nat) W);go_enter func118,ntmps118;go_wp2_with fail;refine(HC.out _).mono ?_;rintro e w' ⟨rfl,rfl⟩;go_wp2;go_ret;exact⟨rfl,((zu _ _).alloc (zy _) _).alloc (by simp) _⟩
theorem GO(l:List (Nat×Nat))(i:Nat)(h:i<l.length):(kb l)[i*2]? = some (.int .i64 (l[i].1:Nat))/\(kb l)[i*2+1]? = some (.int .i64 (l[i].2:Nat)):=by
 induction l generalizing i with
 | nil=>simp at h
 | cons a t ih =>
  cases i with
  | zero=>exact⟨rfl,rfl⟩
  | succ i =>
   have:=ih i (by simpa using h);have e1:(i+1)*2=i*2+2:=by omega
   have e2:kb (a::t) = .int .i64 (a.1:Nat) :: .int .i64 (a.2:Nat)::kb t:=rfl;rw[e1,e2];simpa using this
theorem SM(m:Nat×Nat)(l:List (Nat×Nat))(i:Nat)(h:i<l.length):Jb m (l.take (i+1))=if l[i].2<(Jb m (l.take i)).2 then l[i] else Jb m (l.take i):=by
 unfold Jb;rw[zD h,List.foldl_append];rfl
theorem IV(x:Nat×Nat)(l:List (Nat×Nat))(base:Nat)(v:Value)(w:World)(hl:l.length<=2000000000)(hF:u9 base w v (x::l)) :
  Calls prog 117 #[v,.func (.func 118) #[] #[]] w fun e w'=>e = .returned (NM (Jb x l))/\Below w.heap.size w w':=by
 obtain⟨g,cap,rfl,Zp,dy,vU⟩:=vQ hF (by simp);obtain⟨n,hn⟩:∃ n,(x::l).length=n:=⟨_,rfl⟩;have C5:=fun (args:Array Value) (w:World)=>enters_of func118 (by kernel_rfl) rfl args w
 have aJ:=z7 (fun i (h:i<(x::l).length)=>And.intro ((vU (i*2) (by omega)).trans (GO (x::l) i h).1) ((vU (i*2+1) (by omega)).trans (GO (x::l) i h).2));have fk:=(aJ.out 0 (by simp)).1;have qD:=(aJ.out 0 (by simp)).2;simp only[Nat.zero_mul,Nat.zero_add,List.getElem_cons_zero] at fk qD;obtain⟨x1,x2⟩:=x;have ZK:n=l.length+1:=by rw[←hn];simp
 have j1:decide ((n:Int)<1)=false:=by simp;omega
 have HN:=z7 hn;rw[hn];have HN1:=z7 ZK;have hz:1<=n:=by omega
 have VO:n<=2000000001:=by omega
 have hgw:g<w.heap.size:=dy;clear hF vU hn ZK;have jQ:Below w.heap.size w ((w.alloc (.cells #[.int .i64 0,.int .i64 0] 105)).alloc (.cells #[.int .i64 x1,.int .i64 x2] 105)):=((zu _ _).alloc (zy _) _).alloc (by simp) _;have DH:=fun i=>xq (w.alloc (.cells #[.int .i64 0,.int .i64 0] 105)) #[.int .i64 x1,.int .i64 x2] 105 (0,0) i
 have vZ:∀ i,((w.alloc (.cells #[.int .i64 0,.int .i64 0] 105)).alloc (.cells #[.int .i64 x1,.int .i64 x2] 105)).cell? ⟨w.heap.size,i,none⟩=(#[.int .i64 0,.int .i64 0]:Array Value)[i]? := fun i=>by
  rw[zX _ _ _ (by show w.heap.size<_;simp)];exact xq w _ _ _ _
 rw[show(w.alloc (.cells #[.int .i64 0,.int .i64 0] 105)).heap.size=w.heap.size+1 by simp] at DH;have zuu:∀ i,((w.alloc (.cells #[.int .i64 0,.int .i64 0] 105)).alloc (.cells #[.int .i64 x1,.int .i64 x2] 105)).frozen? ⟨w.heap.size+1,i,none⟩=false:=fun i=>by
  rw[show w.heap.size+1=(w.alloc (.cells #[.int .i64 0,.int .i64 0] 105)).heap.size by simp];simp
 have zuq:∀ i,((w.alloc (.cells #[.int .i64 0,.int .i64 0] 105)).alloc (.cells #[.int .i64 x1,.int .i64 x2] 105)).frozen? ⟨w.heap.size,i,none⟩=false:=fun i=>by
  rw[zk (zR _ _ _ (by show w.heap.size<_;simp))];simp
 obtain⟨W0,EI⟩:∃ W0,(w.alloc (.cells #[.int .i64 0,.int .i64 0] 105)).alloc (.cells #[.int .i64 x1,.int .i64 x2] 105)=W0:=⟨_,rfl⟩;rw[EI] at jQ DH vZ zuq zuu;have HB0:=z7 jQ;have HW0:=z7 EI;have HM0:=z7 DH;have gJ:=z7 vZ;have HF0:=z7 zuq;have UU:=z7 zuu;clear jQ DH vZ zuq zuu EI;go_enter func117,ntmps117;go_wp2_with fail;clear fk qD;go_loopw [6] (fun iv wr=>∃ (i:Nat) (m:Nat×Nat),iv = .int .i64 (i:Nat)/\1<=i/\i<=n/\Jb (x1,x2) (l.take (i - 1))=m/\wr.cell? ⟨w.heap.size+1,0,none⟩=some (.int .i64 (m.1:Nat))/\wr.cell? ⟨w.heap.size+1,1,none⟩=some (.int .i64 (m.2:Nat))/\(∀ i,wr.frozen? ⟨w.heap.size+1,i,none⟩=false) /\
  (∃ u v,wr.cell? ⟨w.heap.size,0,none⟩=some u/\wr.cell? ⟨w.heap.size,1,none⟩=some v)/\(∀ i,wr.frozen? ⟨w.heap.size,i,none⟩=false)/\Below w.heap.size w wr) (fun iv _=>n - (intOf iv).toNat)
 case atStart =>
  rw[HW0.out];exact⟨1,(x1,x2),rfl,zy _,hz,rfl,HM0.out 0,HM0.out 1,UU.out,⟨_,_,gJ.out 0,gJ.out 1⟩,HF0.out,HB0.out⟩
 case round =>
  obtain⟨i,m,rfl,Vc,b7,hm,fk,qD,Ul,⟨u0,v0,vZ,Vg⟩,GB,qI⟩:=hrel;obtain⟨m1,m2⟩:=m;dsimp only at fk qD;have HM:=z7 hm;have HZ1:=z7 Ul;have HZ0:=z7 GB;have I4:=z7 qI;clear hm qI;by_cases xC:i<n
  ·have k2:decide ((i:Int)<(n:Int))=true:=by simp;omega
   have hlen:i<((x1,x2)::l).length:=by rw[HN.out];exact xC
   obtain⟨d0,d1⟩:=aJ.out i hlen;have hli:((x1,x2)::l)[i]=l[i - 1]'(by have:=HN1.out;omega):=by
    obtain⟨k,rfl⟩:∃ k,i=k+1:=⟨i - 1,by omega⟩;simp
   rw[hli] at d0 d1;obtain⟨y,hy⟩:∃ y,l[i - 1]'(by have:=HN1.out;omega)=y:=⟨_,rfl⟩;rw[hy] at d0 d1;have kd:=z7 (show Jb (x1,x2) (l.take i)=if y.2<m2 then y else (m1,m2) by
    have h:=SM (x1,x2) l (i - 1) (by have:=HN1.out;omega);rw[show i - 1+1=i by omega,HM.out,hy] at h;exact h)
   obtain⟨y1,y2⟩:=y;dsimp only at d0 d1 kd;have e0:=(I4.out.cell (p:=⟨g,i*2,none⟩) hgw).trans d0;have e1:=(I4.out.cell (p:=⟨g,i*2+1,none⟩) hgw).trans d1;have hCM:=z7 (fun W=>NN (y1,y2) (m1,m2) W);have jh:wr.drew.cell? ⟨g,i*2,none⟩=some (.int .i64 (y1:Nat))/\wr.drew.cell? ⟨g,i*2+1,none⟩=some (.int .i64 (y2:Nat))/\wr.drew.cell? ⟨w.heap.size+1,0,none⟩=some (.int .i64 (m1:Nat))/\wr.drew.cell? ⟨w.heap.size+1,1,none⟩=some (.int .i64 (m2:Nat)):=⟨e0,e1,fk,qD⟩;clear d0 d1 hy hli hlen;go_wp2_with fail;refine rt (fun W':World=>W'.cell? ⟨g,i*2,none⟩=some (.int .i64 (y1:Nat))/\W'.cell? ⟨g,i*2+1,none⟩=some (.int .i64 (y2:Nat))/\W'.cell? ⟨w.heap.size+1,0,none⟩=some (.int .i64 (m1:Nat))/\W'.cell? ⟨w.heap.size+1,1,none⟩=some (.int .i64 (m2:Nat))) [0,1,2,3,4,5] 2 jh ?_;(iterate 6 ((first|refine ty ?_|refine tn ?_);try simp only[pl]))
   refine xk ?_;refine xg 6 (by kernel_rfl) rfl (fun K hK=>?_);go_simp;refine(hCM.out wr.drew).mono ?_;rintro e w2 ⟨rfl,xB⟩;have VQ:Below wr.heap.size wr w2:=(zu _ wr).drew.trans xB;have EL:w.heap.size+1<wr.heap.size:=z8 _ _ fk;have ZG:(y2<m2/\zU (y2:Int) (m2:Int) = -1)\/(¬y2<m2/\zU (y2:Int) (m2:Int)=0)\/(¬y2<m2/\zU (y2:Int) (m2:Int)=1):=by
    unfold zU;by_cases h:(y2:Int)<(m2:Int)
    ·exact .inl ⟨by omega,if_pos h⟩
    ·by_cases h2:(y2:Int) > (m2:Int)
     ·exact .inr (.inr ⟨by omega,by rw[if_neg h,if_pos h2]⟩)
     ·exact .inr (.inl ⟨by omega,by rw[if_neg h,if_neg h2]⟩)
   dsimp only;have f0:=(VQ.cell (p:=⟨w.heap.size+1,0,none⟩) EL).trans fk;have f1:=(VQ.cell (p:=⟨w.heap.size+1,1,none⟩) EL).trans qD;have f2:=(VQ.cell (p:=⟨g,i*2,none⟩) (by show g<_;omega)).trans e0;have f3:=(VQ.cell (p:=⟨g,i*2+1,none⟩) (by show g<_;omega)).trans e1;have g0:=(VQ.cell (p:=⟨w.heap.size,0,none⟩) (by show w.heap.size<_;omega)).trans vZ;have g1:=(VQ.cell (p:=⟨w.heap.size,1,none⟩) (by show w.heap.size<_;omega)).trans Vg;have z1:∀ i,w2.frozen? ⟨w.heap.size+1,i,none⟩=false:=fun i=>(VQ.frozen (p:=⟨w.heap.size+1,i,none⟩) EL).trans (HZ1.out i)
   have z0:∀ i,w2.frozen? ⟨w.heap.size,i,none⟩=false:=fun i=>(VQ.frozen (p:=⟨w.heap.size,i,none⟩) (by show w.heap.size<_;omega)).trans (HZ0.out i)
   have VY:=I4.out.trans (VQ.mono (by omega));have zuk:=z7 z1;have zuj:=z7 z0;have y0:=z1 0;have y1':=z1 1;clear z1 z0 jh e0 e1 fk qD vZ Vg VQ;rcases ZG with⟨hy,ZG⟩|⟨hy,ZG⟩|⟨hy,ZG⟩
   ·rw[ZG];have HS:=z7 (kd.out.trans (if_pos hy));clear ZG hy;refine hK.out _ _ ⟨f2,f3,f0,f1⟩ (fun _=>?_);clear hK K;refine xE [7] 0 rfl (by intro _ _ d _ _ h;cases d<;>exact h) (by kernel_rfl) (by kernel_rfl) ⟨f2,f3,f0,f1⟩ ?_;(iterate 1 ((first|refine ty ?_|refine tn ?_);try simp only[pl]))
    refine xk ?_;refine wpAnyH_done (by kernel_rfl) ?_ _;go_wp2;go_roundw
    case rel =>
     exact⟨i+1,(y1,y2),by simp,by omega,by omega,by rw[zF];exact HS.out,by rw[xd,if_neg (by simp),xd,if_pos rfl,f0];rfl,by rw[xd,if_pos rfl,xd,if_neg (by simp),f1];rfl,
      fun j=>by rw[zf,zf];exact zuk.out j,⟨_,_,(by rw[xd,if_neg (by simp),xd,if_neg (by simp)];exact g0),(by rw[xd,if_neg (by simp),xd,if_neg (by simp)];exact g1)⟩,
      fun j=>by rw[zf,zf];exact zuj.out j,vp (vp VY (by omega)) (by omega)⟩
    case measure=>simp only[intOf];omega
   ·rw[ZG];have HS:=z7 (kd.out.trans (if_neg hy));clear ZG hy;refine hK.out _ _ ⟨f2,f3,f0,f1⟩ (fun _=>?_);clear hK K;refine xE [7] 0 rfl (by intro _ _ d _ _ h;cases d<;>exact h) (by kernel_rfl) (by kernel_rfl) ⟨f2,f3,f0,f1⟩ ?_;(iterate 1 ((first|refine ty ?_|refine tn ?_);try simp only[pl]))
    refine xk ?_;refine wpAnyH_done (by kernel_rfl) ?_ _;go_wp2;go_roundw
    case rel =>
     exact⟨i+1,(m1,m2),by simp,by omega,by omega,by rw[zF];exact HS.out,f0,f1,zuk.out,⟨_,_,g0,g1⟩,zuj.out,VY⟩
    case measure=>simp only[intOf];omega
   ·rw[ZG];have HS:=z7 (kd.out.trans (if_neg hy));clear ZG hy;refine hK.out _ _ ⟨f2,f3,f0,f1⟩ (fun _=>?_);clear hK K;refine xE [7] 0 rfl (by intro _ _ d _ _ h;cases d<;>exact h) (by kernel_rfl) (by kernel_rfl) ⟨f2,f3,f0,f1⟩ ?_;(iterate 1 ((first|refine ty ?_|refine tn ?_);try simp only[pl]))
    refine xk ?_;refine wpAnyH_done (by kernel_rfl) ?_ _;go_wp2;go_roundw
    case rel =>
     exact⟨i+1,(m1,m2),by simp,by omega,by omega,by rw[zF];exact HS.out,f0,f1,zuk.out,⟨_,_,g0,g1⟩,zuj.out,VY⟩
    case measure=>simp only[intOf];omega
  ·have k2:decide ((i:Int)<(n:Int))=false:=by simp;omega
   have ve:Jb (x1,x2) l=(m1,m2):=by
    rw[←HM.out,List.take_of_length_le (by have:=HN1.out;omega)]
   have kS:=z7 ve;have z00:=GB 0;have z01:=GB 1;clear ve GB Ul;have k0:((wr.setCell ⟨w.heap.size,0,none⟩ (.int .i64 (m1:Nat))).setCell ⟨w.heap.size,1,none⟩ (.int .i64 (m2:Nat))).cell? ⟨w.heap.size,0,none⟩=some (.int .i64 (m1:Nat)):=by rw[xd,if_neg (by simp),xd,if_pos rfl,vZ];rfl
   have k1:((wr.setCell ⟨w.heap.size,0,none⟩ (.int .i64 (m1:Nat))).setCell ⟨w.heap.size,1,none⟩ (.int .i64 (m2:Nat))).cell? ⟨w.heap.size,1,none⟩=some (.int .i64 (m2:Nat)):=by rw[xd,if_pos rfl,xd,if_neg (by simp),Vg];rfl
   go_wp2;refine bodyPost_ret (v := .agg #[.int .i64 (m1:Nat),.int .i64 (m2:Nat)]) ?_ rfl ?_
   ·simp[results,results117,go_sem,k0,k1]
   rw[kS.out];exact⟨rfl,vp (vp I4.out (zy _)) (zy _)⟩
theorem NO(s:Kl)(x:Fo):∃ s',Z3 s x = .go true s':=by
 cases x<;>exact⟨_,rfl⟩
theorem kH:∀ (f:Fo) (s:Kl),∃ s',vw Z3 f s = .go true s'
 | .nil,s=>⟨s,rfl⟩
 | .text _ r,s=>kH r s
 | .hash r,s=>kH r s
 | .put n a r,s=>by
  obtain⟨s1,h1⟩:=NO s (.put n a .nil);rw[vw,h1];exact kH r s1
 | .num n a r,s=>by
  obtain⟨s1,h1⟩:=NO s (.num n a .nil);rw[vw,h1];exact kH r s1
 | .br n a f o c bs r,s=>by
  obtain⟨s1,h1⟩:=NO s (.br n a f o c bs .nil);obtain⟨s2,h2⟩:=kH bs s1;rw[vw,h1];show ∃ s',(vw Z3 bs s1).then _=_;rw[h2];exact kH r s2
 | .uq k a m r,s=>by
  obtain⟨s1,h1⟩:=kH m s;rw[vw,h1];exact kH r s1
def bq(f:Fo):List (Nat×Nat):=match vw Z3 f (fun _=>none,[]) with | .go _ s=>s.2 | .WU _ s=>s.2
def X3(f:Fo):Option (Nat×Nat):=match bq f with | []=>none|x::l=>some (Jb x l)
def yfj(r:Option (Nat×Nat))(w:World)(e:Ending)(w':World):Prop :=
 (match r with
  | none=>e = .returned .nilIface
  | some (n,a)=>∃ b,e = .returned (.iface 101 (.pointer (some ⟨b,0,none⟩)))/\w'.cell? ⟨b,0,none⟩=some (.int .i64 n)/\w'.cell? ⟨b,1,none⟩=some (.int .i64 a))/\Below w.heap.size w w'
theorem SN{lo hi:Nat}(f:Fo)(a:Option Addr)(c:Nat)(vs:List Value)(w:World)(hm:f.vD=true)(hw:f.wf 2000000=true)(hl:f.len<=2000000)(hc:f.cnt<=1000000000)(vL:Vn lo hi w a vs)(kO:xV lo hi w vs f)(YI:hi<=w.heap.size) :
  Calls prog 79 #[.slice a f.len c] w (yfj (X3 f) w):=by
 have M4:=@run_makeMap prog;have RS:∀ (fn:Fn) (first cap:Array Value) (w:World),(zc fn first cap).run prog w = .ok (.func fn first cap) w:=fun _ _ _ _=>rfl
 obtain⟨B,hB⟩:∃ B,w.heap.size=B:=⟨_,rfl⟩;have HB:=z7 hB;have hY:Mh lo hi w (.func (.func 114) #[] #[.pointer (some ⟨B+2,0,none⟩),.pointer (some ⟨B,0,none⟩)]) (XH lo hi w B w) Z3 :=
  ⟨⟨_,_,rfl,fun args w=>enters_of func114 (by kernel_rfl) rfl args w,fun s room W x u n a hI XG JO hh=>oP x u n a s room W hI XG JO hh⟩,fun s b W h=>h.keep,fun s b W W' h hb=>h.below hb,fun s b b' W h hb=>h.less hb⟩
 have HE:=z7 (fun W hI=>I6 hY (SizeOf.sizeOf f+1) f (Nat.lt_succ_self _) hm hw hl ((fun _=>none),[]) 0 W a c vs hI vL kO);obtain⟨s,hs⟩:=kH f ((fun _=>none),[]);rw[hs] at HE;have WV:bq f=s.2:=by unfold bq;rw[hs]
 have Ww:=z7 (show X3 f=match s.2 with | []=>none|x::l=>some (Jb x l) by unfold X3;rw[WV]);have Vx:∀ o1 o2 o3,((w.alloc o1).alloc o2).alloc o3=((w.alloc o1).alloc o2).alloc o3:=fun _ _ _=>rfl
 have hI0:XH lo hi w B w ((fun _=>none),[]) (0+f.cnt) (((w.alloc (.cells #[.slice none 0 0] 253)).alloc (.map #[] 0)).alloc (.cells #[.map (some (B+1))] 254)):=by
  have h1:(w.alloc (.cells #[.slice none 0 0] 253)).heap.size=B+1:=by simp[hB]
  have h2:((w.alloc (.cells #[.slice none 0 0] 253)).alloc (.map #[] 0)).heap.size=B+2:=by simp[hB]
  have b1:Below w.heap.size w (w.alloc (.cells #[.slice none 0 0] 253)):=(zu _ _).alloc (zy _) _;have b2:=fun o=>(zu (w.alloc (.cells #[.slice none 0 0] 253)).heap.size (w.alloc (.cells #[.slice none 0 0] 253))).alloc (zy _) o
  have b3:=fun o=>(zu ((w.alloc (.cells #[.slice none 0 0] 253)).alloc (.map #[] 0)).heap.size ((w.alloc (.cells #[.slice none 0 0] 253)).alloc (.map #[] 0))).alloc (zy _) o
  have bb:=(b1.trans ((b2 (.map #[] 0)).mono (by omega))).trans ((b3 (.cells #[.map (some (B+1))] 254)).mono (by omega));have c1:=xq w #[.slice none 0 0] 253 (0,0) 0;rw[hB] at c1;have Ul:(w.alloc (.cells #[.slice none 0 0] 253)).frozen? ⟨B,0,none⟩=false:=by rw[←hB];simp
  have c2:=km.made 255 (w.alloc (.cells #[.slice none 0 0] 253));rw[h1] at c2;have c3:=xq ((w.alloc (.cells #[.slice none 0 0] 253)).alloc (.map #[] 0)) #[.map (some (B+1))] 254 (0,0) 0;rw[h2] at c3;refine⟨(vg (by omega)).below bb,by omega,⟨0,c2.below (b3 _),by omega⟩,⟨.slice none 0 0,?_,zN _ _ _ _⟩,c3,?_,by simp;omega,by have h:=bb;rw[hB] at h;exact h⟩
  ·rw[(b3 _).cell (p:=⟨B,0,none⟩) (by show B<_;omega),(b2 _).cell (p:=⟨B,0,none⟩) (by show B<_;omega)];exact c1
  ·rw[(b3 _).frozen (p:=⟨B,0,none⟩) (by show B<_;omega),(b2 _).frozen (p:=⟨B,0,none⟩) (by show B<_;omega)];exact Ul
 have HI0:=z7 hI0;clear hI0 hs WV hY Vx vL kO;go_enter func79,ntmps79;go_wp2_with fail;refine(HE.out _ HI0.out).mono ?_;rintro e w2 ⟨rfl,hI2⟩;obtain⟨v,hc,hF⟩:=hI2.row;obtain⟨fa,fc,rfl⟩:=xY hF;have HF:=z7 hF;have CX:Below w.heap.size w w2:=by rw[HB.out];exact hI2.bel
 have aU:=hI2.few;clear hI2 hF HE HI0;obtain⟨s1,l⟩:=s;dsimp only at *
 cases l with
 | nil =>
  have HX:=z7 (show X3 f=none from Ww.out);go_wp2;go_ret;rw[HX.out];exact⟨rfl,CX⟩
 | cons x l =>
  have HX:=Lib.hid (show X3 f=some (Jb x l) from Ww.out);have hlen:(x::l).length=l.length+1:=rfl;rw[hlen] at hc;have j1:(((l.length+1:Nat):Int)==0)=false:=by simp;omega
  have HMI:=z7 (IV x l (B+3) (.slice fa (l.length+1) fc) w2 (by simp at aU;omega) HF.out);clear hlen aU;go_wp2_with fail;refine HMI.out.mono ?_;rintro e w3 ⟨rfl,uP⟩;obtain⟨m,DH⟩:∃ m,Jb x l=m:=⟨_,rfl⟩;obtain⟨m1,m2⟩:=m;rw[DH] at HX ⊢;clear DH;have tM:=CX.trans (uP.mono CX.size);have qd:=(zu w3.heap.size w3).alloc (zy _) (.cells #[.int .i64 m1,.int .i64 m2] 105);have jM:=fun i=>xq w3 #[.int .i64 m1,.int .i64 m2] 105 (0,0) i
  go_wp2;go_ret;rw[HX.out];exact⟨⟨_,rfl,jM 0,jM 1⟩,tM.trans (qd.mono tM.size)⟩
theorem Fo.YR{N:Nat}:∀ f g:Fo,f.wf N=true->g.wf N=true->(f.app g).wf N=true
 | .nil,g,_,h=>h
 | .text t r,g,h,h2=>Fo.YR r g h h2
 | .hash r,g,h,h2=>Fo.YR r g h h2
 | .put n a r,g,h,h2=>by
  simp only[Fo.wf,Fo.app,zx] at h ⊢;exact⟨h.1,Fo.YR r g h.2 h2⟩
 | .num n a r,g,h,h2=>by
  simp only[Fo.wf,Fo.app,zx] at h ⊢;exact⟨h.1,Fo.YR r g h.2 h2⟩
 | .br n a f o c b r,g,h,h2=>by
  simp only[Fo.wf,Fo.app,zx] at h ⊢;exact⟨h.1,Fo.YR r g h.2 h2⟩
 | .uq k a m r,g,h,h2=>by
  simp only[Fo.wf,Fo.app,zx] at h ⊢;exact⟨h.1,Fo.YR r g h.2 h2⟩
theorem Fo.bk:∀ f g:Fo,(f.app g).cnt=f.cnt+g.cnt
 | .nil,g=>by simp[Fo.app,Fo.cnt]
 | .text t r,g=>Fo.bk r g
 | .hash r,g=>Fo.bk r g
 | .put n a r,g=>by simp only[Fo.app,Fo.cnt,Fo.bk r g];omega
 | .num n a r,g=>by simp only[Fo.app,Fo.cnt,Fo.bk r g];omega
 | .br n a f o c b r,g=>by simp only[Fo.app,Fo.cnt,Fo.bk r g];omega
 | .uq k a m r,g=>by simp only[Fo.app,Fo.cnt,Fo.bk r g];omega
structure jX(f:Fo)(n:Nat):Prop where
 msg:f.vD=true
 wf:f.wf 2000000=true
 len:f.len<=n
 cnt:f.cnt<=n
theorem jX.nil:jX .nil 0:=⟨rfl,rfl,zy _,zy _⟩
theorem jX.app{f g:Fo}{n m:Nat}(h:jX f n)(k:jX g m):jX (f.app g) (n+m) :=
 ⟨Fo.ui _ _ h.msg k.msg,Fo.YR _ _ h.wf k.wf,by rw[Fo.uK];have:=h.len;have:=k.len;omega,by rw[Fo.bk];have:=h.cnt;have:=k.cnt;omega⟩
theorem jX.text(t:Wd):jX (.text t .nil) 1:=⟨rfl,rfl,zy _,zJ _⟩
theorem jX.more{f:Fo}{n m:Nat}(h:jX f n)(k:n<=m):jX f m:=⟨h.msg,h.wf,zV h.len k,zV h.cnt k⟩
theorem U8{N:Nat}:∀ (f g:Fo),(f.app g).wf N=true->f.wf N=true
 | .nil,g,_=>rfl
 | .text t r,g,h=>U8 r g h
 | .hash r,g,h=>U8 r g h
 | .put n a r,g,h=>by
  simp only[Fo.wf,Fo.app,zx] at h ⊢;exact⟨h.1,U8 r g h.2⟩
 | .num n a r,g,h=>by
  simp only[Fo.wf,Fo.app,zx] at h ⊢;exact⟨h.1,U8 r g h.2⟩
 | .br n a f o c b r,g,h=>by
  simp only[Fo.wf,Fo.app,zx] at h ⊢;exact⟨h.1,U8 r g h.2⟩
 | .uq k a m r,g,h=>by
  simp only[Fo.wf,Fo.app,zx] at h ⊢;exact⟨h.1,U8 r g h.2⟩
theorem jX.xR{f:Fo}{n:Nat}(h:jX f n)(t:Wd):jX (f.xR t) (n+1):=by
 cases hl:f.xD with
 | none=>rw[uU f t hl];exact h.app (jX.text t)
 | some s =>
  obtain⟨pre,h1,h2,h3⟩:=ud f s hl;have hw:=h.wf;have hlen:=h.len;have ZX:=h.cnt;rw[h1] at hw hlen ZX;rw[h3];refine⟨Fo.ui _ _ (h2 h.msg) rfl,Fo.YR _ _ (U8 _ _ hw) rfl,?_,?_⟩
  ·rw[Fo.uK] at hlen ⊢;simp only[Fo.len] at hlen ⊢;omega
  ·rw[Fo.bk] at ZX ⊢;simp only[Fo.cnt] at ZX ⊢;omega
structure PW(f:Fo)(n:Nat):Prop where
 oR:f.ub=true
 wf:f.wf 2000000=true
 cnt:f.cnt+f.len<=n
def Qv(rs:List Int)(m:ky):Prop:=∀ num i f j,m num i = .ok (f,j)->i<=j/\jX f (j - i)
theorem PA{rs:List Int}{i:Nat}{r:Int}(h:xX rs i=r)(hr:r≠-1):i<rs.length:=by
 apply zZ;intro hc;rw[qw (by omega)] at h;exact hr h.symm
section
variable {rs:List Int} (bF:rs.length<=1000000)
include bF
theorem By{i j:Nat}{x:Wd}(h:jS rs i = .ok (x,j)):x.length<=4000000/\i<j:=by
 refine⟨?_,gX h⟩;unfold jS at h;split at h
 ·cases h
 ·cases h;have:=bS rs i (qo rs i);omega
theorem NP{i j:Nat}{x:Wd}(h:kz rs i = .ok (x,j)):x.length<=4000000/\i<j:=by
 refine⟨?_,YF h⟩;unfold kz at h;split at h
 ·cases h
 ·cases h;have:=bS rs i (qv rs i);omega
theorem aG{num:Bool}{i j:Nat}{x:Wd}(h:UR rs num i = .ok (x,j)):x.length<=4000001/\i<j:=by
 unfold UR at h;split at h
 ·obtain⟨a,q,h1,h2⟩:=xZ h
  cases h2;have:=NP bF h1;simp;omega
 ·obtain⟨a,q,h1,h2⟩:=xZ h;split at h2
  ·cases h2
  ·cases h2;have:=By bF h1;omega
theorem SP{msg:Option ky}{num:Bool}{i j:Nat}{f:Fo}(hm:∀ m,msg=some m->Qv rs m)(h:ZZ rs msg num i = .ok (f,j)):i<j/\PW f (j - i)/\f.len=1:=by
 unfold ZZ at h;obtain⟨k,a,h1,h2⟩:=xZ h;obtain⟨u,b,h3,h4⟩:=xZ h2;have e1:=aG bF h1;have e2:=(xi h3).2;have e3:=xc rs a
 cases msg with
 | none=>cases h4
 | some m =>
  obtain⟨g,c,h5,h6⟩:=xZ (show(m num b).then _=_ from h4);obtain⟨u2,z,h7,h8⟩:=xZ h6;obtain⟨e4,hg⟩:=hm m rfl _ _ _ _ h5;have e5:=xi h7;have e6:=xc rs z;have e7:=PA e5.1 (by decide)
  cases h8;have hl:=hg.len;have hc:=hg.cnt;refine⟨by omega,⟨rfl,?_,?_⟩,rfl⟩
  ·have hml:g.len<=2000000:=by omega
   simp only[Fo.wf,zx,decide_eq_true_eq];exact⟨⟨⟨⟨by omega,hg.msg⟩,hml⟩,hg.wf⟩,trivial⟩
  ·simp only[Fo.cnt,Fo.len];omega
theorem GR{msg:Option ky}{num:Bool}(hm:∀ m,msg=some m->Qv rs m):∀ (n:Nat) (acc:Fo) (i j b:Nat) (f:Fo),kQ rs msg num n acc i = .ok (f,j)->PW acc b->i<=j/\PW f (b+(j - i))
 | 0,acc,i,j,b,f,h,_=>by cases h
 | n+1,acc,i,j,b,f,h,ha=>by
  rw[kQ] at h;split at h
  ·cases h;exact⟨zy _,by simpa using ha⟩
  ·obtain⟨g,q,h1,h2⟩:=xZ h;obtain⟨e1,hg,_⟩:=SP bF hm h1;have hag:PW (acc.app g) (b+(q - i)):=⟨Fo.bT _ _ ha.oR hg.oR,Fo.YR _ _ ha.wf hg.wf,by rw[Fo.bk,Fo.uK];have:=ha.cnt;have:=hg.cnt;omega⟩;obtain⟨e2,hf⟩:=GR hm n _ _ _ _ _ h2 hag;exact⟨by omega,⟨hf.oR,hf.wf,by have:=hf.cnt;omega⟩⟩
theorem SR{msg:Option ky}{i j:Nat}{f:Fo}(hm:∀ m,msg=some m->Qv rs m)(h:ZY rs msg i = .ok (f,j)):i<j/\jX f (j - i):=by
 unfold ZY at h;obtain⟨u,a,h1,h2⟩:=xZ h;obtain⟨nm,b,h3,h4⟩:=xZ h2;have e1:=(xi h1).2;have e2:=xc rs a;have e3:=By bF h3;have e4:=xc rs b;clear h h1 h2 h3;split at h4
 ·obtain⟨u,z,h5,h6⟩:=xZ h4;have:=(xi h5).2
  cases h6;refine⟨by omega,rfl,?_,by simp[Fo.len];omega,by simp[Fo.cnt];omega⟩;simp only[Fo.wf,zx,decide_eq_true_eq];exact⟨by omega,trivial⟩
 ·obtain⟨wd,c,h5,h6⟩:=xZ h4;have e5:=gX h5;have e6:=xc rs (xP rs b+1);have e7:=xc rs c;clear h4 h5;split at h6
  ·obtain⟨u,z,h7,h8⟩:=xZ h6;have:=(xi h7).2
   cases h8;refine⟨by omega,rfl,?_,by simp[Fo.len];omega,by simp[Fo.cnt];omega⟩;simp only[Fo.wf,zx,decide_eq_true_eq];exact⟨by omega,trivial⟩
  ·split at h6
   ·cases h6
   ·next form Pa =>
    obtain⟨u,d,h7,h8⟩:=xZ h6;obtain⟨o,l,h9,dV⟩:=xZ h8;obtain⟨bs,q,Qm,UL⟩:=xZ dV;obtain⟨u,z,WY,ny⟩:=xZ UL;have:=(xi h7).2;have:=xc rs d;have:=Cy h9;obtain⟨e8,hb⟩:=GR bF hm _ _ _ _ 0 _ Qm ⟨rfl,rfl,zy _⟩;have e9:=xi WY;have e10:=PA e9.1 (by decide);have Dd:=hb.cnt;have KA:=Gu Pa
    cases ny;refine⟨by omega,rfl,?_,by simp[Fo.len];omega,by simp[Fo.cnt];omega⟩;simp only[Fo.wf,zx,decide_eq_true_eq];exact⟨⟨⟨⟨⟨by omega,KA⟩,hb.oR⟩,by omega⟩,hb.wf⟩,trivial⟩
theorem Z4{msg:Option ky}{num:Bool}(hm:∀ m,msg=some m->Qv rs m):∀ (n:Nat) (acc:Fo) (i j b:Nat) (f:Fo),uF rs msg num n acc i = .ok (f,j)->jX acc b->i<=j/\jX f (b+(j - i))
 | 0,acc,i,j,b,f,h,_=>by cases h
 | n+1,acc,i,j,b,f,h,ha=>by
  rw[uF] at h;split at h
  ·cases h;exact⟨zy _,by simpa using ha⟩
  split at h
  ·obtain⟨g,q,h1,h2⟩:=xZ h;obtain⟨e1,hg⟩:=SR bF hm h1;obtain⟨e2,hf⟩:=Z4 hm n _ _ _ _ _ h2 (ha.app hg);exact⟨by omega,hf.more (by omega)⟩
  split at h
  ·obtain⟨e2,hf⟩:=Z4 hm n _ _ _ _ _ h (ha.app (g := .hash .nil) (m:=1) ⟨rfl,rfl,zy _,zJ _⟩);exact⟨by omega,hf.more (by omega)⟩
  ·have:=UW rs num i;obtain⟨e2,hf⟩:=Z4 hm n _ _ _ _ _ h (ha.xR _);exact⟨by omega,hf.more (by omega)⟩
theorem Bx:∀ n,Qv rs (fF rs n)
 | 0,num,i,f,j,h=>by
  rw[fF] at h;have:=Z4 bF (fun m e=>by cases e) _ _ _ _ 0 _ h jX.nil;simpa using this
 | n+1,num,i,f,j,h=>by
  rw[fF] at h;have:=Z4 bF (fun m e=>by cases e;exact Bx n) _ _ _ _ 0 _ h jX.nil;simpa using this
end
theorem bD{rs:List Int}{msg:Option ky}{num:Bool}:∀ (n:Nat) (acc:Fo) (i j:Nat) (f:Fo),uF rs msg num n acc i = .ok (f,j)->i<=rs.length->j<=rs.length
 | 0,acc,i,j,f,h,_=>by cases h
 | n+1,acc,i,j,f,h,hi=>by
  rw[uF] at h;split at h
  ·cases h;exact hi
  next h0 =>
  have xC:i<rs.length:=by
   apply zZ;intro hc;exact h0 (.inl (qw (by omega)))
  split at h
  ·obtain⟨g,q,h1,h2⟩:=xZ h;exact bD n _ _ _ _ h2 (Dt h1).2
  split at h
  ·exact bD n _ _ _ _ h xC
  ·exact bD n _ _ _ _ h (H6 xC).2
theorem XI{l:List UInt8}{f:Fo}(h:uW l = .ok f):jX f 1000:=by
 unfold uW at h;split at h
 ·cases h
 split at h
 ·cases h
 next h1 _ =>
 have bF:=V8 l;have hr:(xO l).length<=1000:=by omega
 cases hp:ZR (xO l) with
 | error e=>rw[hp] at h;cases h
 | ok x =>
  rw[hp] at h
  cases h;unfold ZR at hp;obtain⟨g,q,h2,h3⟩:=xZ (show _=Except.ok (x.1,x.2) from hp);have hg:=(Bx (by omega) 5 _ _ _ _ h2).2;have he:q<=(xO l).length:=bD _ _ _ _ _ h2 (zJ _);split at h3
  ·cases h3;exact hg.more (by omega)
  ·cases h3
def gG(l:List UInt8):Except (Nat×Nat) Fo :=
 match uW l with
 | .error e => .error e
 | .ok f=>match X3 f with|none => .ok f|some e => .error e
def zm3(r:Except (Nat×Nat) Fo)(w:World)(e:Ending)(w':World):Prop :=
 (match r with
  | .error (n,a)=>∃ v b,e = .returned (.tuple #[v,.iface 101 (.pointer (some ⟨b,0,none⟩))])/\(∃ a n c,v = .slice a n c)/\w'.cell? ⟨b,0,none⟩=some (.int .i64 n)/\w'.cell? ⟨b,1,none⟩=some (.int .i64 a)
  | .ok f=>(∃ a c vs,e = .returned (.tuple #[.slice a f.len c,.nilIface])/\Vn w.heap.size w'.heap.size w' a vs/\xV w.heap.size w'.heap.size w' vs f)/\jX f 1000)/\Below w.heap.size w w'
theorem aF(s:ByteArray)(w:World)(hs:s.size<=9223372036854775807)(hT:Lib.Utf8Tabs 3 4 w)(hN:qP w) :
  Calls prog 47 #[.string s] w (zm3 (gG s.data.toList) w):=by
 have HP:=z7 (S0 s w hs hT hN);have HR:=z7 (show gG s.data.toList=match uW s.data.toList with | .error e => .error e | .ok f=>match X3 f with|none => .ok f|some e => .error e from rfl);have HG:=z7 (fun f=>XI (l:=s.data.toList) (f:=f));obtain⟨r,hr⟩:∃ r,uW s.data.toList=r:=⟨_,rfl⟩;rw[hr] at HP HR HG;clear hT hN hr;go_enter func47,ntmps47;go_wp2_with fail;refine HP.out.mono ?_;rintro e w1 ⟨hq,xH⟩;clear HP
 cases r with
 | error en =>
  obtain⟨n,a⟩:=en;obtain⟨b,rfl,c0,c1⟩:=hq;have HX:=z7 (show gG s.data.toList = .error (n,a) from HR.out);go_wp2;go_ret2
  rw[HX.out];exact⟨⟨_,b,rfl,⟨_,_,_,rfl⟩,c0,c1⟩,xH⟩
 | ok f =>
  obtain⟨⟨a,c,vs,rfl,vL,kO⟩,Jq⟩:=hq;have hg:=HG.out f rfl;have qB:=z7 vL;have YG:=z7 kO;have HGG:=z7 hg;have HC:=z7 (SN f a c vs w1 hg.msg hg.wf (by have:=hg.len;omega) (by have:=hg.cnt;omega) vL kO (zy _));have HX:=z7 (show gG s.data.toList=match X3 f with|none => .ok f|some e => .error e from HR.out);obtain⟨q,hq⟩:∃ q,X3 f=q:=⟨_,rfl⟩;rw[hq] at HC HX;clear vL kO Jq hg hq HR HG;go_wp2_with fail;refine HC.out.mono ?_;rintro e w2 ⟨hq,xB⟩;clear HC;have qf:=xH.trans (xB.mono xH.size)
  cases q with
  | none =>
   obtain rfl:=hq;have HY:=z7 (show gG s.data.toList = .ok f from HX.out);have hk:vK w.heap.size w1.heap.size w1 w2:=⟨xB.size,fun k _ hk=>xB.block k hk⟩;go_wp2;go_ret2
   rw[HY.out];exact⟨⟨⟨a,c,vs,rfl,qB.out.keep hk (zy _) xB.size,xV.keep hk (zy _) xB.size _ _ YG.out⟩,HGG.out⟩,qf⟩
  | some e =>
   obtain⟨n,p⟩:=e;obtain⟨b,rfl,c0,c1⟩:=hq;have HY:=z7 (show gG s.data.toList = .error (n,p) from HX.out);go_wp2;go_ret2
   rw[HY.out];exact⟨⟨_,b,rfl,⟨_,_,_,rfl⟩,c0,c1⟩,qf⟩
def aD(num:Bool)(k:Wd):Prop:=k.length<=17/\(num=true->k.head? = some 61->EqW k)
def Fo.fit:Fo->Prop
 | .nil=>True
 | .text _ r=>r.fit
 | .hash r=>r.fit
 | .put n _ r=>n.length<=16/\r.fit
 | .num n _ r=>n.length<=16/\r.fit
 | .br n _ f o _ bs r=>n.length<=16/\f<3/\xL o<=999999999/\(∀ k∈bs.keys,aD (decide (f≠0)) k)/\bs.fit/\r.fit
 | .uq _ _ m r=>m.fit/\r.fit
def Fo.uA:Fo->Nat
 | .nil=>0
 | .text t r=>t.length+5+r.uA
 | .hash r=>5+r.uA
 | .put _ _ r=>5+r.uA
 | .num _ _ r=>5+r.uA
 | .br _ _ _ _ _ bs r=>40+bs.uA+r.uA
 | .uq _ _ m r=>20+m.uA+r.uA
def Fo.once:Fo->Prop
 | .nil=>True
 | .text _ r=>r.once
 | .hash r=>r.once
 | .put _ _ r=>r.once
 | .num _ _ r=>r.once
 | .br _ _ _ _ _ bs r=>bs.keys.Nodup/\bs.once/\r.once
 | .uq _ _ m r=>m.once/\r.once
theorem Fo.bj:∀ f:Fo,f.cw<=f.uA
 | .nil=>zy _
 | .text t r=>by have:=Fo.bj r;simp only[Fo.cw,Fo.uA];omega
 | .hash r=>by have:=Fo.bj r;simp only[Fo.cw,Fo.uA];omega
 | .put n a r=>by have:=Fo.bj r;simp only[Fo.cw,Fo.uA];omega
 | .num n a r=>by have:=Fo.bj r;simp only[Fo.cw,Fo.uA];omega
 | .br n a f o c b r=>by have:=Fo.bj b;have:=Fo.bj r;simp only[Fo.cw,Fo.uA];omega
 | .uq k a m r=>by have:=Fo.bj m;have:=Fo.bj r;simp only[Fo.cw,Fo.uA];omega
theorem Fo.bd:∀ f:Fo,f.fit->f.wf 2000000=true->f.uA<=5000000->f.once->f.Uo
 | .nil,_,_,_,_=>trivial
 | .text t r,h,w,m,o=>by simp only[Fo.uA] at m;exact⟨by omega,Fo.bd r h w (by omega) o⟩
 | .hash r,h,w,m,o=>by simp only[Fo.uA] at m;exact Fo.bd r h w (by omega) o
 | .put n a r,h,w,m,o=>by
  simp only[Fo.uA] at m;simp only[Fo.wf,zx] at w;exact⟨h.1,Fo.bd r h.2 w.2 (by omega) o⟩
 | .num n a r,h,w,m,o=>by
  simp only[Fo.uA] at m;simp only[Fo.wf,zx] at w;exact⟨h.1,Fo.bd r h.2 w.2 (by omega) o⟩
 | .br n a f of c b r,h,w,m,o=>by
  simp only[Fo.uA] at m;simp only[Fo.wf,zx] at w;obtain⟨h1,h2,h3,h4,h5,h6⟩:=h;refine⟨h1,h2,h3,w.1.1.1.2,o.1,fun k hk=>⟨(h4 k hk).1,fun hf=>(h4 k hk).2 (by simpa using hf)⟩,Fo.bd b h5 w.1.2 (by omega) o.2.1,Fo.bd r h6 w.2 (by omega) o.2.2⟩
 | .uq k a g r,h,w,m,o=>by
  simp only[Fo.uA] at m;simp only[Fo.wf,zx] at w;exact⟨w.1.1.1.2,Fo.bd g h.1 w.1.2 (by omega) o.1,Fo.bd r h.2 w.2 (by omega) o.2⟩
theorem Fo.gT:∀ f g:Fo,f.fit->g.fit->(f.app g).fit
 | .nil,g,_,h=>h
 | .text t r,g,h,h2=>Fo.gT r g h h2
 | .hash r,g,h,h2=>Fo.gT r g h h2
 | .put n a r,g,h,h2=>⟨h.1,Fo.gT r g h.2 h2⟩
 | .num n a r,g,h,h2=>⟨h.1,Fo.gT r g h.2 h2⟩
 | .br n a f o c b r,g,h,h2=>⟨h.1,h.2.1,h.2.2.1,h.2.2.2.1,h.2.2.2.2.1,Fo.gT r g h.2.2.2.2.2 h2⟩
 | .uq k a m r,g,h,h2=>⟨h.1,Fo.gT r g h.2 h2⟩
theorem Fo.kT:∀ f g:Fo,(f.app g).uA=f.uA+g.uA
 | .nil,g=>by simp[Fo.app,Fo.uA]
 | .text t r,g=>by simp only[Fo.app,Fo.uA,Fo.kT r g];omega
 | .hash r,g=>by simp only[Fo.app,Fo.uA,Fo.kT r g];omega
 | .put n a r,g=>by simp only[Fo.app,Fo.uA,Fo.kT r g];omega
 | .num n a r,g=>by simp only[Fo.app,Fo.uA,Fo.kT r g];omega
 | .br n a f o c b r,g=>by simp only[Fo.app,Fo.uA,Fo.kT r g];omega
 | .uq k a m r,g=>by simp only[Fo.app,Fo.uA,Fo.kT r g];omega
theorem Fo.IU:∀ f g:Fo,f.ub=true->(f.app g).keys=f.keys++g.keys
 | .nil,g,_=>rfl
 | .uq k a m r,g,h=>by
  show k::(r.app g).keys=_;rw[Fo.IU r g h];rfl
theorem YS:∀ (f g:Fo),(f.app g).fit->f.fit
 | .nil,g,_=>trivial
 | .text t r,g,h=>YS r g h
 | .hash r,g,h=>YS r g h
 | .put n a r,g,h=>⟨h.1,YS r g h.2⟩
 | .num n a r,g,h=>⟨h.1,YS r g h.2⟩
 | .br n a f o c b r,g,h=>⟨h.1,h.2.1,h.2.2.1,h.2.2.2.1,h.2.2.2.2.1,YS r g h.2.2.2.2.2⟩
 | .uq k a m r,g,h=>⟨h.1,YS r g h.2⟩
theorem Fo.IQ{f:Fo}(h:f.fit)(t:Wd):(f.xR t).fit/\(f.xR t).uA<=f.uA+t.length+5:=by
 cases hl:f.xD with
 | none =>
  rw[uU f t hl];exact⟨Fo.gT _ _ h trivial,by rw[Fo.kT];simp only[Fo.uA];omega⟩
 | some s =>
  obtain⟨pre,h1,h2,h3⟩:=ud f s hl;rw[h1] at h;rw[h3];refine⟨Fo.gT _ _ (YS _ _ h) trivial,?_⟩;rw[Fo.kT,show f.uA=(pre.app (.text s .nil)).uA from congrArg _ h1,Fo.kT];simp only[Fo.uA,zv];omega
theorem oS(cl:Nat):∀ (f:Fo) (seen:List Wd) (acc:List (Nat×Nat)),Kq cl seen acc f=[]->acc=[]/\(∀ k∈f.keys,k ∉ seen)/\f.keys.Nodup:=by
 have hn:∀ (f:Fo) (seen:List Wd) (acc:List (Nat×Nat)),(if DE∈seen then acc else acc++[(6,cl)])=[]->acc=[]:=fun f seen acc h=>by
  split at h
  ·exact h
  ·simp at h
 intro f;induction f with
 | uq k a m r _ ih =>
  intro seen acc h;rw[Kq] at h;obtain⟨h1,h2,h3⟩:=ih _ _ h;split at h1
  ·simp at h1
  next hk =>
  refine⟨h1,fun x hx=>?_,?_⟩
  ·rcases List.mem_cons.1 hx with rfl|hx
   ·exact hk
   ·exact fun q=>h2 x hx (List.mem_cons_of_mem _ q)
  ·exact List.nodup_cons.2 ⟨fun q=>h2 k q List.mem_cons_self,h3⟩
 | nil=>intro seen acc h;exact⟨hn .nil seen acc h,(fun k hk=>by cases hk),zY⟩
 | text _ _ _=>intro seen acc h;exact⟨hn .nil seen acc h,(fun k hk=>by cases hk),zY⟩
 | hash _ _=>intro seen acc h;exact⟨hn .nil seen acc h,(fun k hk=>by cases hk),zY⟩
 | put _ _ _ _=>intro seen acc h;exact⟨hn .nil seen acc h,(fun k hk=>by cases hk),zY⟩
 | num _ _ _ _=>intro seen acc h;exact⟨hn .nil seen acc h,(fun k hk=>by cases hk),zY⟩
 | br _ _ _ _ _ _ _ _ _=>intro seen acc h;exact⟨hn .nil seen acc h,(fun k hk=>by cases hk),zY⟩
theorem Y8{s:Kl}{n:Wd}{a k:Nat}(h:(uB s n a k).2=[]):s.2=[]:=by
 unfold uB at h;split at h
 ·simp at h
 ·split at h<;>exact h
theorem jB:∀ (f:Fo) (s s':Kl),vw Z3 f s = .go true s'->s'.2=[]->s.2=[]/\f.once
 | .nil,s,s',h,e=>by
  cases h;exact⟨e,trivial⟩
 | .text _ r,s,s',h,e=>jB r s s' h e
 | .hash r,s,s',h,e=>jB r s s' h e
 | .put n a r,s,s',h,e=>by
  obtain⟨h1,h2⟩:=jB r (uB s n a 0) s' h e;exact⟨Y8 h1,h2⟩
 | .num n a r,s,s',h,e=>by
  obtain⟨h1,h2⟩:=jB r (uB s n a 1) s' h e;exact⟨Y8 h1,h2⟩
 | .br n a f o c bs r,s,s',h,e=>by
  obtain⟨s1,h1⟩:∃ s1:Kl,((uB s n a (ja (.br n a f o c bs .nil))).1,(uB s n a (ja (.br n a f o c bs .nil))).2++Kq c [] [] bs)=s1:=⟨_,rfl⟩;have h2:(vw Z3 bs s1).then (fun s=>vw Z3 r s) = .go true s':=by rw[←h1];exact h
  obtain⟨s2,h3⟩:=kH bs s1;rw[h3] at h2;obtain⟨h4,h5⟩:=jB r s2 s' h2 e;obtain⟨h6,h7⟩:=jB bs s1 s2 h3 h4;rw[←h1] at h6;obtain⟨h8,h9⟩:=List.append_eq_nil_iff.1 h6;exact⟨Y8 h8,(oS c bs _ _ h9).2.2,h7,h5⟩
 | .uq k a m r,s,s',h,e=>by
  obtain⟨s1,h1⟩:=kH m s;have h2:(vw Z3 m s).then (fun s=>vw Z3 r s) = .go true s':=h;rw[h1] at h2;obtain⟨h4,h5⟩:=jB r s1 s' h2 e;obtain⟨h6,h7⟩:=jB m s s1 h1 h4;exact⟨h6,h7,h5⟩
theorem IK{f:Fo}(h:X3 f=none):f.once:=by
 obtain⟨s,hs⟩:=kH f ((fun _=>none),[]);have e:bq f=s.2:=by unfold bq;rw[hs]
 unfold X3 at h;refine(jB f _ s hs ?_).2;rw[←e]
 cases hq:bq f with
 | nil=>rfl
 | cons a t=>rw[hq] at h;cases h
theorem aB{l:Wd}(h:l.length<=9)(hd:l.all xQ=true):xL l<=999999999:=by
 have hb:∀ (l:Wd) (v:Nat),l.all xQ=true->l.foldl (fun v c=>10*v+(c.toNat - 48)) v<(v+1)*10 ^ l.length:=by
  intro l;induction l with
  | nil=>intro v _;simp
  | cons c t ih =>
   intro v h;simp only[List.all_cons,zx] at h;have hc:=(vM c).1 h.1;have:=ih (10*v+(c.toNat - 48)) h.2;rw[List.foldl_cons,zQ];refine Nat.lt_of_lt_of_le this ?_;have h3:10*v+(c.toNat - 48)+1<=(v+1)*10:=by omega
   calc (10*v+(c.toNat - 48)+1)*10 ^ t.length<=((v+1)*10)*10 ^ t.length:=Nat.mul_le_mul_right _ h3
    _=(v+1)*10 ^ (t.length+1):=by rw[Nat.pow_succ,Nat.mul_assoc,Nat.mul_comm 10]
 have h1:=hb l 0 hd;have h2:10 ^ l.length<=10 ^ 9:=Nat.pow_le_pow_right (by decide) h;have h3:(10:Nat) ^ 9=1000000000:=by decide
 unfold xL;omega
theorem oT:∀ k:Fin 128,(enc (k.val:Int)).length=1:=by decide
theorem Bv:∀ (l:List Int),(∀ r∈l,0<=r/\r<128)->(l.flatMap enc).length=l.length
 | [],_=>rfl
 | r::t,h=>by
  have h1:=h r (by simp);have h2:=oT ⟨r.toNat,by omega⟩;rw[show(((⟨r.toNat,by omega⟩:Fin 128).val:Nat):Int)=r from by show((r.toNat:Nat):Int)=r;omega] at h2;rw[zE,zv,h2,Bv t (fun q hq=>h q (by simp[hq]))];simp;omega
theorem NR(l:List Int):(l.flatMap enc).length<=4*l.length:=by
 induction l with
 | nil=>simp
 | cons a t ih=>have:=(kD a).1;simp only[zE,zv,zQ];omega
theorem GA:∀ (n:Nat) (l:List Int),l.length<=n->(vX l).1.length<=(vX l).2
 | 0,l,h=>by
  obtain rfl:l=[]:=List.length_eq_zero_iff.1 (by omega);rw[vX];exact zy _
 | n+1,[],h=>by rw[vX];exact zy _
 | n+1,c::t,h=>by
  rw[vX.eq_def];simp only;split
  ·split
   ·simp
   ·next d u =>
    split
    ·have:=GA n u (by simp at h;omega);simp;omega
    ·simp
  ·have:=GA n t (by simp at h;omega);simp;omega
theorem Bu(rs:List Int)(num:Bool)(i:Nat):(kN rs num i).1.length+4*i<=4*(kN rs num i).2:=by
 unfold kN;split
 ·have:=(kD (xX rs i)).1;show(enc (xX rs i)).length+4*i<=4*(i+1);omega
 split
 ·have:=(kD 39).1;show(enc 39).length+4*i<=4*(i+2);omega
 split
 ·have:=(kD 39).1;show(enc 39).length+4*i<=4*(i+1);omega
 ·have h1:=NR (vX (rs.drop (i+1))).1;have h2:=GA _ (rs.drop (i+1)) (zy _);show((vX (rs.drop (i+1))).1.flatMap enc).length+4*i<=4*(i+1+(vX (rs.drop (i+1))).2);omega
def Ga(m:ky):Prop:=∀ num i f j,m num i = .ok (f,j)->f.fit/\f.uA+44*i<=44*j
section
variable {rs:List Int}
theorem Gc{i j:Nat}{x:Wd}(h:jS rs i = .ok (x,j)):x.length<=16/\i<j:=by
 refine⟨?_,gX h⟩;unfold jS at h;split at h
 ·cases h
 next hn =>
 cases h;obtain⟨n,hN⟩:∃ n,qo rs i=n:=⟨_,rfl⟩;have hf:∀ k,k<n->k<16/\0<=xX rs (i+k)/\xX rs (i+k)<128:=fun k hk=>by
  have:=Dn (F:=Zt) (rs:=rs) (i:=i) (k:=k) (by rw[show runN Zt rs i=qo rs i from rfl,hN];exact hk);simp only[Zt,kF,uY,zx,ze,decide_eq_true_eq,beq_iff_eq] at this;omega
 rw[hN] at hn ⊢;have h16:n<=16:=by
  have:=(hf (n - 1) (by omega)).1;omega
 have b7:∀ k,k<n->i+k<rs.length:=fun k hk=>by
  refine za (fun hle=>?_);have:=(hf k hk).2.1;rw[qw hle] at this;omega
 have uN:∀ r∈(rs.drop i).take n,0<=r/\r<128:=fun r hr=>by
  obtain⟨k,hk,rfl⟩:=List.mem_iff_getElem.1 hr;simp only[zW,List.length_drop] at hk;have h1:=(hf k (by omega)).2;rw[Pj (b7 k (by omega))] at h1;simpa using h1
 have h1:=Bv _ uN;have h2:((rs.drop i).take n).length<=n:=by rw[zW];exact Nat.min_le_left _ _
 unfold qi;omega
theorem Bq{i j:Nat}{x:Wd}(h:kz rs i = .ok (x,j)):x.length<=9/\x.all xQ=true/\x≠[]/\i<j:=by
 have h0:=YF h;unfold kz at h;split at h
 ·cases h
 next hn =>
 cases h;obtain⟨h1,h2,h3⟩:=KT rs i hn;exact⟨h1,h2,h3,h0⟩
theorem oW:∀ x∈VB,x.head?≠some 61:=by decide
theorem Pc{num:Bool}{i j:Nat}{x:Wd}(h:UR rs num i = .ok (x,j)):aD num x/\i<j:=by
 unfold UR at h;split at h
 ·obtain⟨a,q,h1,h2⟩:=xZ h
  cases h2;obtain⟨l1,l2,l3,l4⟩:=Bq h1;exact⟨⟨by simp;omega,fun _ _=>⟨l3,l1,l2⟩⟩,by omega⟩
 ·obtain⟨a,q,h1,h2⟩:=xZ h;obtain⟨l1,l2⟩:=Gc h1;split at h2
  ·cases h2
  ·next hq =>
   cases h2;refine⟨⟨by omega,fun hn he=>?_⟩,l2⟩;exact absurd he (oW _ (zZ fun q=>hq ⟨hn,q⟩))
theorem oA{msg:Option ky}{num:Bool}{i j:Nat}{f:Fo}(hm:∀ m,msg=some m->Ga m)(h:ZZ rs msg num i = .ok (f,j)):f.fit/\f.ub=true/\(∀ k∈f.keys,aD num k)/\f.uA+44*i<=44*j:=by
 unfold ZZ at h;obtain⟨k,a,h1,h2⟩:=xZ h;obtain⟨u,b,h3,h4⟩:=xZ h2;obtain⟨hk,e1⟩:=Pc h1;have e2:=(xi h3).2;have e3:=xc rs a
 cases msg with
 | none=>cases h4
 | some m =>
  obtain⟨g,c,h5,h6⟩:=xZ (show(m num b).then _=_ from h4);obtain⟨u2,z,h7,h8⟩:=xZ h6;obtain⟨hg,ht⟩:=hm m rfl _ _ _ _ h5;have e5:=(xi h7).2;have e6:=xc rs z
  cases h8;refine⟨⟨hg,trivial⟩,rfl,fun q hq=>?_,?_⟩
  ·simp only[Fo.keys,List.mem_singleton] at hq;subst hq;exact hk
  ·simp only[Fo.uA];omega
theorem IJ{msg:Option ky}{num:Bool}(hm:∀ m,msg=some m->Ga m):∀ (n:Nat) (acc:Fo) (i j:Nat) (f:Fo),kQ rs msg num n acc i = .ok (f,j)->acc.fit->acc.ub=true->(∀ k∈acc.keys,aD num k)->f.fit/\(∀ k∈f.keys,aD num k)/\f.uA+44*i<=acc.uA+44*j
 | 0,acc,i,j,f,h,_,_,_=>by cases h
 | n+1,acc,i,j,f,h,ha,hb,hc=>by
  rw[kQ] at h;split at h
  ·cases h;exact⟨ha,hc,zy _⟩
  ·obtain⟨g,q,h1,h2⟩:=xZ h;obtain⟨g1,g2,g3,g4⟩:=oA hm h1;obtain⟨k1,k2,k3⟩:=IJ hm n _ _ _ _ h2 (Fo.gT _ _ ha g1) (Fo.bT _ _ hb g2) (fun k hk=>by
    rw[Fo.IU _ _ hb] at hk;rcases List.mem_append.1 hk with hk|hk
    ·exact hc k hk
    ·exact g3 k hk)
   rw[Fo.kT] at k3;exact⟨k1,k2,by omega⟩
theorem Pe{form i j:Nat}{o:Wd}(h:Qr rs form i = .ok (o,j)):xL o<=999999999/\i<=j:=by
 have h0:=Cy h;refine⟨?_,h0⟩;unfold Qr at h;split at h
 ·obtain⟨a,q,h1,h2⟩:=xZ h
  cases h2;obtain⟨l1,l2,l3,l4⟩:=Bq h1;exact aB l1 l2
 ·cases h;decide
theorem om{msg:Option ky}{i j:Nat}{f:Fo}(hm:∀ m,msg=some m->Ga m)(h:ZY rs msg i = .ok (f,j)):f.fit/\f.uA+44*i<=44*j:=by
 unfold ZY at h;obtain⟨u,a,h1,h2⟩:=xZ h;obtain⟨nm,b,h3,h4⟩:=xZ h2;have e1:=(xi h1).2;have e2:=xc rs a;obtain⟨hn,e3⟩:=Gc h3;have e4:=xc rs b;clear h h1 h2 h3;split at h4
 ·obtain⟨u,z,h5,h6⟩:=xZ h4;have:=(xi h5).2
  cases h6;exact⟨⟨hn,trivial⟩,by simp only[Fo.uA];omega⟩
 ·obtain⟨wd,c,h5,h6⟩:=xZ h4;have e5:=gX h5;have e6:=xc rs (xP rs b+1);have e7:=xc rs c;clear h4 h5;split at h6
  ·obtain⟨u,z,h7,h8⟩:=xZ h6;have:=(xi h7).2
   cases h8;exact⟨⟨hn,trivial⟩,by simp only[Fo.uA];omega⟩
  ·split at h6
   ·cases h6
   ·next form Pa =>
    obtain⟨u,d,h7,h8⟩:=xZ h6;obtain⟨o,l,h9,dV⟩:=xZ h8;obtain⟨bs,q,Qm,UL⟩:=xZ dV;obtain⟨u,z,WY,ny⟩:=xZ UL;have:=(xi h7).2;have:=xc rs d;obtain⟨ho,_⟩:=Pe h9;obtain⟨b1,b2,b3⟩:=IJ hm _ _ _ _ _ Qm trivial rfl (fun k hk=>by cases hk);have e9:=(xi WY).2;have KA:=Gu Pa
    cases ny;refine⟨⟨hn,KA,ho,b2,b1,trivial⟩,?_⟩;simp only[Fo.uA] at b3 ⊢;omega
theorem Qu{msg:Option ky}{num:Bool}(hm:∀ m,msg=some m->Ga m):∀ (n:Nat) (acc:Fo) (i j:Nat) (f:Fo),uF rs msg num n acc i = .ok (f,j)->acc.fit->f.fit/\f.uA+44*i<=acc.uA+44*j
 | 0,acc,i,j,f,h,_=>by cases h
 | n+1,acc,i,j,f,h,ha=>by
  rw[uF] at h;split at h
  ·cases h;exact⟨ha,zy _⟩
  split at h
  ·obtain⟨g,q,h1,h2⟩:=xZ h;obtain⟨g1,g2⟩:=om hm h1;obtain⟨k1,k2⟩:=Qu hm n _ _ _ _ h2 (Fo.gT _ _ ha g1);rw[Fo.kT] at k2;exact⟨k1,by omega⟩
  split at h
  ·obtain⟨k1,k2⟩:=Qu hm n _ _ _ _ h (Fo.gT _ _ ha trivial);rw[Fo.kT] at k2;simp only[Fo.uA] at k2;exact⟨k1,by omega⟩
  ·obtain⟨t1,t2⟩:=Fo.IQ ha (kN rs num i).1;obtain⟨k1,k2⟩:=Qu hm n _ _ _ _ h t1;have h4:=Bu rs num i;have h5:=UW rs num i;exact⟨k1,by omega⟩
theorem IG:∀ n,Ga (fF rs n)
 | 0,num,i,f,j,h=>by
  rw[fF] at h;simpa[Fo.uA] using Qu (fun m e=>by cases e) _ _ _ _ _ h trivial
 | n+1,num,i,f,j,h=>by
  rw[fF] at h;simpa[Fo.uA] using Qu (fun m e=>by cases e;exact IG n) _ _ _ _ _ h trivial
end
theorem IF{l:List UInt8}{f:Fo}(h:uW l = .ok f)(hc:X3 f=none):f.Uo/\f.cw<=44000:=by
 have hg:=XI h;unfold uW at h;split at h
 ·cases h
 split at h
 ·cases h
 next h1 _ =>
 have bF:=V8 l;have hr:(xO l).length<=1000:=by omega
 cases hp:ZR (xO l) with
 | error e=>rw[hp] at h;cases h
 | ok x =>
  rw[hp] at h
  cases h;unfold ZR at hp;obtain⟨g,q,h2,h3⟩:=xZ (show _=Except.ok (x.1,x.2) from hp);obtain⟨hf,hm⟩:=IG 5 _ _ _ _ h2;have he:q<=(xO l).length:=bD _ _ _ _ _ h2 (zJ _);split at h3
  ·cases h3;have:=Fo.bj x.1;exact⟨Fo.bd _ hf hg.wf (by omega) (IK hc),by omega⟩
  ·cases h3
end Go.Proofs.YthpldolmpinnhaaGreatDoor
