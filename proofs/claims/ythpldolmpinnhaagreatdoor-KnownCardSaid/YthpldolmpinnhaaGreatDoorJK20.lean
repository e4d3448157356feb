import Derived.Test.YthpldolmpinnhaaGreatDoorJK19
import Derived.Laws.IdiomStrings
import Derived.OwnWalk
import Derived.Deep.RegionHeld
import Derived.Deep.DeepAppendRoom
import Derived.Deep.LoopGhost
set_option maxHeartbeats 64000000
open Go.Lib renaming hid→z7,compareInt→zV
open Go.World renaming block_lt_of_cell?→z8,frozen?_of_block→zu,frozen?_setCell→zf,cell?_alloc_lt→zZ,ownsRow_nil→zE
open Nat renaming le_refl→zy,le_trans→zX,add_sub_cancel→zQ,zero_le→zG
open Bool renaming and_eq_true→zx
open Go.RowKit.Below renaming refl→zv,heap_alloc→zL
open List renaming length_append→zk,length_nil→zg,take_succ_eq_append_getElem→zJ,append_assoc→zH,map_toArray→zM,length_cons→zN,replicate→zP
open Go.Value renaming slice→zj
open Classical renaming byContradiction→zY
open Option.some renaming inj→zU
open ByteArray renaming mk→zF
open Go.Result renaming andThen_ok→zD
open Go.Instr renaming typeAssert→zI,makeFunc→zO
open Go.Proofs.Tryz
namespace Go.Proofs.YthpldolmpinnhaaGreatDoor
open Go Go.RowKit
set_option maxRecDepth 10000
theorem xr:ZV prog 48 5 (.int .u8 0) 1 1 :=
 ⟨underlying48,info_parts (by kernel_rfl),rfl,by decide,by decide⟩
def xh(l:List UInt8):List Value:=l.map fun c => .int .u8 ((c.toNat:Int) - 48)
def N0(l:List UInt8)(w:World)(e:Ending)(w':World):Prop :=
 (if l.all xF then ∃ v,e = .returned (.tuple #[v,.bool true])/\w'.ownsRow w.heap.size 5 1 v l.length (xh l) else e = .returned (.tuple #[.slice none 0 0,.bool false]))/\Below w.heap.size w w'
theorem Rn(c:UInt8)(h:xF c=true):IntKind.u8.wrap ((c.toNat:Int) - 48)=(c.toNat:Int) - 48/\(c.toNat:Int) - 48<=9:=by
 have:=(vw _).1 h;refine⟨?_,by omega⟩;simp only[IntKind.wrap,IntKind.signed,IntKind.bits];simp;omega
theorem Ab(c:UInt8)(h:xF c=false):9<((c.toNat:Int) - 48) % 256:=by
 have:=(EU _).1 h;have:=c.toNat_lt;omega
theorem N1(s:ByteArray)(w:World)(hs:s.size<=1000000) :
  Calls prog 67 #[.string s] w (N0 s.data.toList w):=by
 have hcv:=fun w s=>run_bytes_of_string (P:=prog) w 9 48 5 s underlying9 underlying48 underlying5
 obtain⟨i,hi,hz,h2,h3⟩:=xr.info;go_enter func67,ntmps67;go_wp2_with (refine wpList_make_own _ rfl _ _ _ rfl w.heap.size _ i _ 1 xr.under hi hz h2 .i64 .i64 _ s.size rfl rfl ?c1 ?c2 ?c3 ?c4 ?_)
 case c1=>first|rfl|simp
 case c2=>rw[h3];omega
 case c3=>unfold maxLen;omega
 case c4=>simp
 intro w1 fx Y9;go_wp2;refine QG ?_;intro wc hwc;have qa:wc.heap.size=w1.heap.size+1:=by rw[hwc];simp
 have xB:Below w.heap.size w w1:=(zv _ _).grown Y9 (zy _) (by simp);have jg:Below w.heap.size w wc:=by rw[hwc];exact(Below.drew xB).alloc xB.size _
 have vX:∀ j (hj:j<s.size),wc.cell? ⟨w1.heap.size,j,none⟩=some (.int .u8 (s[j].toNat:Int)):=by
  intro j hj;rw[hwc];have:=bytesRow_at s (grownCap w1 s.size 0 5) j hj;show(w1.alloc _).cell? _=_;rw[xu];exact this
 have zcq:wc.ownsRow w.heap.size 5 1 (zj (some ⟨w.heap.size,0,none⟩) 0 s.size) 0 []:=by rw[hwc];exact(World.ownsRow.drew fx).alloc _
 have R3:=xB.size;have nX:=(fx.lt w.heap.size rfl).2;clear hwc fx Y9;go_loopw [4,14] (fun v i wr=>∃ k:Nat,k<=s.size/\i = .int .i64 k/\v = .slice (some ⟨w.heap.size,0,none⟩) k s.size/\wr.ownsRow w.heap.size 5 1 v k (xh (s.data.toList.take k))/\Below w.heap.size w wr/\(s.data.toList.take k).all xF=true/\(w1.heap.size<wr.heap.size)/\∀ j (hj:j<s.size),wr.cell? ⟨w1.heap.size,j,none⟩=some (.int .u8 (s[j].toNat:Int))) (fun _ i _=>s.size - (intOf i).toNat)
 case atStart=>exact⟨0,by omega,rfl,rfl,by simpa[xh] using zcq,jg,by simp,by omega,vX⟩
 case round =>
  obtain⟨k,hk,rfl,hv,xV,hb,hH,VV,vX⟩:=hrel;have HH:=z7 hH;have HV:=z7 hv;clear hH hv;by_cases xC:k<s.size
  ·have hc:=vX k xC;by_cases hd:xF s[k]=true
   ·obtain⟨hy,hy9⟩:=Rn _ hd;have HD:=z7 hd;clear hd;have KJ:wr.ownsRow w.heap.size 5 1 (.slice (some ⟨w.heap.size,0,none⟩) k s.size) k (xh (s.data.toList.take k)):=by rw[←HV.out];exact xV
    go_wp2_with (at_builtin;refine wpList_append_own_spare _ rfl _ _ _ rfl w.heap.size _ i 1 xr.under hi h2 w.heap.size k s.size (xh (s.data.toList.take k)) HV.out (KJ.alloc _) ⟨wr.heap.size,0,none⟩ 1 1 [.int .u8 ((s[k].toNat:Int) - 48)] rfl rfl ?c1 ?c2 ?c3 ?_)
    case c1=>exact cells_one (by simp)
    case c2=>intro u hu;simp at hu;subst hu;rfl
    case c3=>omega
    intro w2 WY uP;have FO:=uP.size;have hts:=TR HH.out HD.out;rw[←DK s k xC] at hts;have HT:=z7 hts;clear hts;go_wp2;go_roundw
    case rel =>
     refine⟨k+1,by omega,by go_num,rfl,?_,((hb.alloc hb.size _).grown uP (by have:=hb.size;simp;omega) (fun q hq=>by cases hq;exact zy _)),HT.out,?_,?_⟩
     ·rw[DK s k xC];simpa[xh] using WY
     ·simp at FO;omega
     ·intro j hj;refine uP.cell ?_ (by simp;omega);rw[zZ _ _ _ VV];exact vX j hj
    case measure=>simp[intOf];omega
   ·have lz:xF s[k]=false:=by simpa using hd
    have hn:=Ab _ lz;have vS:s.data.toList.all xF=false:=BL s k xC lz;have HF:=z7 vS;clear vS hd lz;go_wp2;go_ret2
    refine⟨by rw[HF.out];rfl,hb⟩
  ·have QY:k=s.size:=by omega
   subst QY;have HA:=HH.out;rw[JI] at HA;rw[JI] at xV;have HF:=z7 HA;clear HA HH;go_wp2;go_ret2
   refine⟨?_,hb⟩;rw[if_pos HF.out,xi];exact⟨_,rfl,xV⟩
theorem Ht(d:Int)(w:World):Calls prog 103 #[.int .u8 d] w fun e w'=>e = .returned (.bool (d !=0))/\w=w':=by
 go_enter func103,ntmps103;go_wp2;go_ret;exact⟨rfl,rfl⟩
theorem zyv{l:List Int}{k:Nat}(h:k<l.length)(hn:(l[k] !=0)=true):l.any (· != 0)=true:=List.any_eq_true.2 ⟨l[k],List.getElem_mem h,hn⟩
theorem AZ{l:List Int}{k:Nat}(h:k<l.length)(hz:(l.take k).any (· != 0)=false)(hn:(l[k] !=0)=false):(l.take (k+1)).any (· != 0)=false:=by
 rw[zJ h,List.any_append,hz];simpa using hn
def xK(w:World)(a:Option Addr)(l:List Int):Prop:=∀ j (h:j<l.length),∃ b,a=some b/\w.cell? (b.add j)=some (.int .u8 l[j])
theorem xK.alloc{w:World}{a:Option Addr}{l:List Int}(h:xK w a l)(o:Obj):xK (w.alloc o) a l:=fun j hj=>by
 obtain⟨b,hb,hc⟩:=h j hj;refine⟨b,hb,?_⟩;rw[World.cell?_alloc_some _ _ _ (by rw[hc];rfl)];exact hc
theorem Hh(l:List Int)(a:Option Addr)(c:Nat)(w:World)(hl:l.length<=1000000)(hc:xK w a l) :
  Calls prog 152 #[.slice a l.length c,.func (.func 103) #[] #[]] w fun e w'=>(∃ n:Int,e = .returned (.int .i64 n)/\decide (0<=n)=l.any (· != 0))/\w=w':=by
 go_enter func152,ntmps152;go_wp2;go_loop [8] (fun i=>∃ k:Nat,k<=l.length/\i = .int .i64 k/\(l.take k).any (· != 0)=false) (fun i=>l.length - (intOf i).toNat)
 case atStart=>exact⟨0,by omega,rfl,by simp⟩
 case round =>
  obtain⟨k,hk,rfl,hz⟩:=hrel;have HZ:=z7 hz;clear hz;by_cases xC:k<l.length
  ·obtain⟨b,rfl,vX⟩:=hc k xC;go_wp2_with fail;refine(Ht _ _).mono ?_;rintro e w' ⟨rfl,rfl⟩;by_cases hn:(l[k] !=0)=true
   ·have HF:=z7 (zyv xC hn);go_wp2;go_ret;exact⟨⟨_,rfl,by rw[HF.out];simp⟩,rfl⟩
   ·have Bh:(l[k] !=0)=false:=by simpa using hn
    have HF:=z7 (AZ xC HZ.out Bh);clear hn;go_wp2;go_round
    case rel=>exact⟨k+1,by omega,by go_num,HF.out⟩
    case measure=>simp[intOf];omega
  ·have QY:k=l.length:=by omega
   subst QY;have hz:=HZ.out;rw[List.take_length] at hz;have HF:=z7 hz;clear hz HZ;go_wp2;go_ret;exact⟨⟨_,rfl,by rw[HF.out];rfl⟩,rfl⟩
theorem Xg(l:List Int)(a:Option Addr)(c:Nat)(w:World)(hl:l.length<=1000000)(hc:xK w a l) :
  Calls prog 102 #[.slice a l.length c,.func (.func 103) #[] #[]] w fun e w'=>e = .returned (.bool (l.any (· != 0)))/\w=w':=by
 go_enter func102,ntmps102;go_wp2_with fail;refine(Hh l a c w hl hc).mono ?_;rintro e w' ⟨⟨n,rfl,hn⟩,rfl⟩;go_wp2;go_ret;exact⟨rfl,rfl⟩
theorem AY(l:List Int)(a:Option Addr)(c:Nat)(b:Bool)(sc:Int)(w:World)(hl:l.length<=1000000)(hc:xK w a l) :
  Calls prog 68 #[.agg #[.bool b,.slice a l.length c,.int .i64 sc]] w fun e w'=>e = .returned (.bool (!l.any (· != 0)))/\Below w.heap.size w w':=by
 go_enter func68,ntmps68;go_wp2_with fail;refine(Xg l a c _ hl (hc.alloc _)).mono ?_;rintro e w' ⟨rfl,rfl⟩;go_wp2;go_ret;exact⟨rfl,(zv _ _).alloc (zy _) _⟩
theorem Ro(s:ByteArray):s.toList=s.data.toList:=by
 exact Go.ByteArray.toList_eq s
theorem add_add(a:Addr)(i j:Nat):(a.add i).add j=a.add (i+j):=by
 unfold Addr.add;by_cases hi:i=0
 ·subst hi;simp
 ·by_cases hj:j=0
  ·subst hj;simp
  ·simp[hi,hj,Nat.add_assoc]
def cmpL(a b:List UInt8):Int:=if a.length<b.length\/(a.length=b.length/\Op.bytesLess a b=true) then -1 else if a=b then 0 else 1
def Xf(l:List UInt8)(m:Nat):Nat:=l.foldl (fun r c=>(10*r+(c.toNat - 48)) % m) 0
theorem Gb(l:List UInt8)(c:UInt8)(m:Nat):Xf (l++[c]) m=(10*Xf l m+(c.toNat - 48)) % m:=by simp[Xf]
theorem AX(l:List UInt8)(m:Nat)(hm:0<m):Xf l m<m:=by
 by_cases h:l=[]
 ·subst h;exact hm
 ·obtain⟨t,c,rfl⟩:∃ t c,l=t++[c]:=⟨l.dropLast,l.getLast h,by rw[List.dropLast_concat_getLast]⟩;rw[Gb];exact Nat.mod_lt _ hm
def stripL:List UInt8->List UInt8
 | c::d::t=>if c=48 then stripL (d::t) else c::d::t
 | l=>l
def jJ(l:List UInt8):List UInt8:=if l=[] then [48] else stripL l
theorem N2{c:UInt8}{l:List UInt8}(h:l≠[])(hc:c=48):stripL (c::l)=stripL l:=by
 cases l with
 | nil=>exact absurd rfl h
 | cons d t=>rw[stripL,if_pos hc]
theorem N3{c:UInt8}{l:List UInt8}(hc:¬c=48):stripL (c::l)=c::l:=by
 cases l with
 | nil=>rfl
 | cons d t=>rw[stripL,if_neg hc]
def uQ(l:List UInt8):List UInt8:=(l.reverse.dropWhile (· == 48)).reverse
theorem short_zero(l:List UInt8):uQ (l++[48])=uQ l:=by simp[uQ]
theorem N5(l:List UInt8)(c:UInt8)(h:¬c=48):uQ (l++[c])=l++[c]:=by
 have:(c==48)=false:=by simpa using h
 simp[uQ,this]
end Go.Proofs.YthpldolmpinnhaaGreatDoor
namespace Go.Proofs.YthpldolmpinnhaaGreatDoor
open Go
abbrev Dg:=List UInt8×List UInt8
def ri(f:Wd):Bool:=f.any (· != 48)
def Hw(w:Wd):Bool:=w==[109,111,100] || w==[37]
abbrev qO:=Dg->Bool
def ZA(w:Wd)(ws:List Wd):Bool:=ws.head? == some w
def kH:List Wd->Option (Nat×List Wd)
 | []=>none
 | w::t=>if Gd w=true then some (Dv w,t) else none
def Qr(x:Dg)(v:Nat):Int :=
 if cmpL x.1 (xL v)<0 then -1 else if 0<cmpL x.1 (xL v)\/ri x.2=true then 1 else 0
def gu(a b:Nat)(broken:Bool):qO:=fun x=>decide (0<=Qr x a) && (decide (Qr x b<=0) && (broken || !(ri x.2)))
def VK(ws:List Wd):Option ((Nat×Nat)×List Wd) :=
 match kH ws with
 | none=>none
 | some (a,t) =>
  if ZA [46,46] t then
   match kH t.tail with
   | none=>none
   | some (b,u)=>if b<a then none else some ((a,b),u)
  else some ((a,a),t)
def qZ(within:Bool):Nat->List qO->List Wd->Option (List qO×List Wd)
 | 0,_,_=>none
 | n+1,acc,ws=>match VK ws with
  | none=>none
  | some (q,t)=>if ZA [44] t then qZ within n (acc++[gu q.1 q.2 within]) t.tail else some (acc++[gu q.1 q.2 within],t)
def bE(l:List qO):qO:=fun x=>l.any (fun t=>t x)
def allT(l:List qO):qO:=fun x=>l.all (fun t=>t x)
abbrev Parser:=List Wd->Option (qO×List Wd)
def jV(within:Bool):Parser:=fun ws=>(qZ within (ws.length+1) [] ws).map fun q=>(bE q.1,q.2)
def vo(ws:List Wd):Option ((qO×Bool)×List Wd) :=
 if ZA [61] ws then (jV false ws.tail).map fun q=>((q.1,false),q.2)
 else if ZA [33,61] ws then (jV false ws.tail).map fun q=>((q.1,true),q.2)
 else if ZA [105,115] ws then
  (kH (if ZA [110,111,116] ws.tail then ws.tail.tail else ws.tail)).map fun q=>((gu q.1 q.1 false,ZA [110,111,116] ws.tail),q.2)
 else
  let nt:=ZA [110,111,116] ws
  let u:=if nt then ws.tail else ws
  if ZA [119,105,116,104,105,110] u then (jV true u.tail).map fun q=>((q.1,nt),q.2)
  else if ZA [105,110] u then (jV false u.tail).map fun q=>((q.1,nt),q.2)
  else none
def uZ(c:Wd):Option (Dg->Dg) :=
 if c=[110] then some (fun x=>x) else if c=[105] then some (fun x=>(jJ x.1,[])) else if c=[118] then some (fun x=>(xL x.2.length,[]))
 else if c=[119] then some (fun x=>(xL (uQ x.2).length,[])) else if c=[102] then some (fun x=>(jJ x.2,[]))
 else if c=[116] then some (fun x=>(jJ (uQ x.2),[])) else none
def Du(of:Dg->Dg)(m:Nat):Dg->Dg:=fun x=>(xL (Xf (of x).1 m),(of x).2)
def Za(of:Dg->Dg)(t:List Wd):Option ((Dg->Dg)×List Wd) :=
 if Hw (t.headD []) then
  match kH t.tail with
  | none=>none
  | some (m,u)=>if m=0 then none else some (Du of m,u)
 else some (of,t)
def jm:Parser
 | []=>none
 | w::t=>match uZ w with
  | none=>none
  | some of=>match Za of t with
   | none=>none
   | some (of',u)=>match vo u with
    | none=>none
    | some ((i,nt),v)=>some ((fun x=>i (of' x) !=nt),v)
def fk(word:Wd)(one:Parser):Nat->List qO->List Wd->Option (List qO×List Wd)
 | 0,_,_=>none
 | n+1,acc,ws=>match one ws with
  | none=>none
  | some (T,t)=>if ZA word t then fk word one n (acc++[T]) t.tail else some (acc++[T],t)
def Cb(word:Wd)(rp:List qO->qO)(one:Parser):Parser:=fun ws=>(fk word one (ws.length+1) [] ws).map fun q=>(rp q.1,q.2)
def I0:Parser:=Cb [97,110,100] allT jm
def pOr:Parser:=Cb [111,114] bE I0
def xE(c:UInt8):Nat:=if 97<=c.toNat/\c.toNat<=122 then 3 else if 48<=c.toNat/\c.toNat<=57 then 2 else if c.toNat=32 then 1 else 0
def GZ:List UInt8->Option Wd
 | 33::61::_=>some [33,61]
 | 46::46::_=>some [46,46]
 | 61::_=>some [61]
 | 44::_=>some [44]
 | 37::_=>some [37]
 | _=>none
def jL:Nat->List (Wd)->List UInt8->Option (List Wd)
 | _,acc,[]=>some acc
 | 0,_,_::_=>none
 | n+1,acc,c::t=>match GZ (c::t) with
  | some g=>jL n (acc++[g]) ((c::t).drop g.length)
  | none =>
   if xE c=0 then none
   else jL n (if xE c=1 then acc else acc++[c::t.takeWhile (fun d=>xE d==xE c)]) (t.dropWhile (fun d=>xE d==xE c))
def N6(s:List UInt8):Option (List Wd):=jL (s.length+1) [] (s.take (s.idxOf 64))
def Dm(s:List UInt8):Option qO :=
 if 200<s.length then none else match N6 s with
 | none=>none
 | some ws=>match pOr ws with
  | some (T,[])=>some T
  | _=>none
end Go.Proofs.YthpldolmpinnhaaGreatDoor
namespace Go.Proofs.YthpldolmpinnhaaGreatDoor
open Go Go.RowKit
set_option maxRecDepth 10000
def V9(l:List UInt8):List UInt8:=if l.head? = some 45 then l.tail else l
def Vz(l:List UInt8):Bool:=l.head? == some 45
def uv(l:List UInt8):List UInt8:=(V9 l).take ((V9 l).idxOf 46)
def ua(l:List UInt8):List UInt8:=(V9 l).drop ((V9 l).idxOf 46+1)
def Yf(l:List UInt8):Bool:=decide ((V9 l).idxOf 46<(V9 l).length)
def Uc(l:List UInt8):Bool:=vO (uv l) && (!(Yf l) || vO (ua l)) && decide ((uv l).length+(ua l).length<=30)
def qg(l:List UInt8):Bool :=
 Uc l && !(decide (1<(uv l).length) && ((uv l).headD 0==48)) && !(Vz l && (uv l++ua l).all (· == 48))
theorem zyu{l wh fr:List UInt8}{pt:Bool}(hW:uv l=wh)(hF:ua l=fr)(hP:Yf l=pt)(h:¬(vO wh=true/\(pt=true->vO fr=true)/\wh.length+fr.length<=30)):qg l=false:=by
 have hf:Uc l=false:=by
  rw[←Bool.not_eq_true];intro hf;unfold Uc at hf;rw[hW,hF,hP] at hf;simp only[zx,Bool.or_eq_true,Bool.not_eq_true',decide_eq_true_eq] at hf;refine h ⟨hf.1.1,fun hp=>?_,hf.2⟩;rcases hf.1.2 with h1|h1
  ·rw[h1] at hp;cases hp
  ·exact h1
 simp[qg,hf]
theorem GY{l wh fr:List UInt8}{b:Bool}(hW:uv l=wh)(hF:ua l=fr)(hB:Vz l=b)(KB:Uc l=true) :
  qg l=(!(decide (1<wh.length) && (wh.headD 0==48)) && !(b && (wh++fr).all (· == 48))):=by
 simp[qg,KB,hW,hF,hB]
theorem zyq(wh:List UInt8)(h:0<(zF wh.toArray).size):(wh.headD 0==48)=(((zF wh.toArray)[0].toNat:Int)==48):=by
 have h1:=Wa ⟨wh.toArray⟩ h;rw[toList_mk] at h1;have h2:=dh (zF wh.toArray)[0] 48;have h3:((48:UInt8).toNat:Int)=48:=rfl;rw[h3] at h2;rw[h1,h2];exact Bool.beq_eq_decide_eq _ _
theorem nU{l wh fr:List UInt8}{pt:Bool}(hW:uv l=wh)(hF:ua l=fr)(hP:Yf l=pt)(h1:vO wh=true)(h2:pt=true->vO fr=true)(h3:¬((30:Int)<(wh.length:Int)+(fr.length:Int))):Uc l=true:=by
 unfold Uc;rw[hW,hF,hP,h1];have h4:wh.length+fr.length<=30:=by omega
 cases pt
 ·simp[h4]
 ·simp[h4,h2 rfl]
abbrev vg:=Bool×Dg
def fg(t:Wd)(num:Bool):Bool:=if num then qg t else decide (t.length<=60)
def numOf(t:Wd):vg:=(Vz t,(uv t,ua t))
def gW(k:Nat)(l:Wd):Wd:=zP (k - l.length) 48++l
def Dq(r k:Nat):Dg:=((gW (k+1) (xL r)).take ((gW (k+1) (xL r)).length - k),(gW (k+1) (xL r)).drop ((gW (k+1) (xL r)).length - k))
def VJ(n:vg)(v:Nat):vg :=
 if n.1 then (decide (xH (n.2.1++n.2.2)+v*10 ^ n.2.2.length≠0),Dq (xH (n.2.1++n.2.2)+v*10 ^ n.2.2.length) n.2.2.length)
 else if xH (n.2.1++n.2.2)<v*10 ^ n.2.2.length then (true,Dq (v*10 ^ n.2.2.length - xH (n.2.1++n.2.2)) n.2.2.length)
 else (false,Dq (xH (n.2.1++n.2.2) - v*10 ^ n.2.2.length) n.2.2.length)
def fe(n:vg)(v:Nat):Bool := !n.1 && decide (Qr n.2 v=0)
inductive zyk where
 | no
 | zyj
 | val (t:Wd) (num:Bool)
structure qI(τ:Type) where
 wr:vg->Wd
 sort:Bool->Dg->Nat
 get:Wd->τ->zyk×τ
inductive Rp (σ:Type) where
 | go (k:Nat) (s:σ)
 | fin (s:σ)
 | err (n:Nat) (s:σ)
 | bad
def Ue{σ:Type}(F:Nat->σ->Rp σ):Nat->Nat->σ->Option (Except (Nat×σ) σ)
 | 0,_,_=>none
 | f+1,k,s=>match F k s with | .go k' s'=>Ue F f k' s' | .fin s'=>some (.ok s') | .err n s'=>some (.error (n,s')) | .bad=>none
structure bH(τ:Type) where
 out:Wd
 stk:List (vg×vg)
 gs:τ
section
variable {τ:Type} (E:qI τ)
def Yd(n:Wd)(g:τ):Except (Nat×τ) ((Wd×Bool)×τ) :=
 match E.get n g with
 |(.no,g') => .error (12,g')
 |(.zyj,g') => .error (15,g')
 |(.val t num,g')=>if fg t num then .ok ((t,num),g') else .error (11,g')
def Yb(n:Wd)(g:τ):Except (Nat×τ) (vg×τ) :=
 match Yd E n g with
 | .error e => .error e
 | .ok ((t,num),g')=>if num then .ok (numOf t,g') else .error (13,g')
def I3(n:Wd)(g:τ):Except (Nat×τ) (Wd×τ) :=
 match Yd E n g with
 | .error e => .error e
 | .ok ((t,num),g')=>if num then .error (13,g') else .ok (t,g')
def Rr(t:Wd)(num:Bool):Wd:=if num then E.wr (numOf t) else t
def Zc(s:MkS)(x:jf):Option Wd:=x.k[0]?.bind fun j=>s.cs[j]?
def Lm(s:MkS)(t:Option Nat)(r:bH τ):Rp (bH τ) :=
 match t with
 | none => .bad
 | some p=>match fW s.code s.code.length p with|some k => .go k r|none => .fin r
def Vy(s:MkS)(x:jf)(t:Wd):Nat:=(x.k.tail.map fun j=>s.cs[j]?).idxOf (some t)
def ue(s:MkS)(x:jf)(k:Nat)(r:bH τ):Rp (bH τ) :=
 match x.op with
 | 0 => .fin r
 | 1=>match Zc s x with|none => .bad|some t => .go (k+1) { r with out:=r.out++t }
 | 2=>match Zc s x with
  | none => .bad
  | some n=>match Yd E n r.gs with | .error (e,g) => .err e { r with gs:=g } | .ok ((t,num),g) => .go (k+1) { r with out:=r.out++Rr E t num,gs:=g }
 | 3=>match Zc s x with
  | none => .bad
  | some n=>match Yb E n r.gs with | .error (e,g) => .err e { r with gs:=g } | .ok (v,g) => .go (k+1) { r with out:=r.out++E.wr v,gs:=g }
 | 4=>match Zc s x with
  | none => .bad
  | some n=>match Yb E n r.gs with | .error (e,g) => .err e { r with gs:=g } | .ok (v,g) => .go (k+1) { r with stk:=r.stk++[(v,VJ v x.v)],gs:=g }
 | 5=>match r.stk.getLast? with|none => .bad|some _ => .go (k+1) { r with stk:=r.stk.dropLast }
 | 6=>match r.stk.getLast? with|none => .bad|some t => .go (k+1) { r with out:=r.out++E.wr t.2 }
 | 7=>match r.stk.getLast? with|none => .bad|some t=>if fe t.1 x.v then Lm s x.tg[0]? r else .go (k+1) r
 | 8=>match r.stk.getLast? with|none => .bad|some t=>Lm s x.tg[E.sort false t.2.2]? r
 | 9=>match r.stk.getLast? with|none => .bad|some t=>Lm s x.tg[E.sort true t.2.2]? r
 | 10=>match Zc s x with
  | none => .bad
  | some n=>match I3 E n r.gs with
   | .error (e,g) => .err e { r with gs:=g }
   | .ok (t,g)=>if x.k.tail.all (fun j=>decide (j<s.cs.length)) then Lm s x.tg[Vy s x t]? { r with gs:=g } else .bad
 | 11=>Lm s x.tg[0]? r
 | _ => .bad
def jM(s:MkS)(k:Nat)(r:bH τ):Rp (bH τ):=match s.code[k]? with|none => .bad|some x=>ue E s x k r
def YZ(ks:List Wd)(t:Wd):Wd:=if t∈ks then t else qy
def CZ(f:Nat)(ks:List Wd)(v z:vg):Wd :=
 match ks.find? fun k=>decide (k.head? = some 61) && fe v (xH k.tail) with
 | some k=>k
 | none=>if QW.getD (E.sort (decide (f=2)) z.2) []∈ks then QW.getD (E.sort (decide (f=2)) z.2) [] else qy
def jN:Fo->Wd->vg->Wd->τ->Except (Nat×τ) (Wd×τ)
 | .nil,_,_,o,g => .ok (o,g)
 | .text t r,k,x,o,g=>jN r k x (o++t) g
 | .hash r,k,x,o,g=>jN r k x (o++E.wr x) g
 | .put n _ r,k,x,o,g=>match Yd E n g with | .error e => .error e | .ok ((t,num),g')=>jN r k x (o++Rr E t num) g'
 | .num n _ r,k,x,o,g=>match Yb E n g with | .error e => .error e | .ok (v,g')=>jN r k x (o++E.wr v) g'
 | .br n _ f off _ bs r,k,x,o,g =>
  if f=0 then
   match I3 E n g with
   | .error e => .error e
   | .ok (t,g')=>match jN bs (YZ bs.keys t) x o g' with | .error e => .error e | .ok (o',g'')=>jN r k x o' g''
  else
   match Yb E n g with
   | .error e => .error e
   | .ok (v,g')=>match jN bs (CZ E f bs.keys v (VJ v (xH off))) (VJ v (xH off)) o g' with | .error e => .error e | .ok (o',g'')=>jN r k x o' g''
 | .ug k' _ m r,k,x,o,g=>if k'=k then jN m [] x o g else jN r k x o g
end
abbrev qP(n:Nat):Value := .iface 33 (.int .i64 (n:Nat))
theorem CY(n:Nat)(w:World):(zI (qP n) 20 33 true).run prog w = .ok (.tuple #[.int .i64 n,.bool true]) w:=by rfl
theorem I4(w:World):(zI .nilIface 20 33 true).run prog w = .ok (.tuple #[.int .i64 0,.bool false]) w:=by rfl
theorem AV(A B:Nat)(w:World):CallsD prog 86 #[.pointer (some ⟨A,0,none⟩),.pointer (some ⟨B,0,none⟩)] .returning w fun e u' w'=>e = .returned (.tuple #[])/\u' = .returning/\w'=w:=by
 refine callsD_of_wpS func86 rfl fun c₀ cs hu=>?_
 have ha:=I4;apply wpS_seq;apply wpS_region;simp[wpOpsS,go_sem,recoverD,hu,ha,ntmps86,Exit.thenS];refine wpS_of_wp ?_;go_wp2
 cases c₀;simp_all [bodyPostS,results,results86]
theorem Rs(A B n:Nat)(u v:Value)(uG:List PanicEntry)(w:World)(hA:w.cell? ⟨A,0,none⟩=some u)(hAz:w.frozen? ⟨A,0,none⟩=false)(hB:w.cell? ⟨B,0,none⟩=some v)(hBz:w.frozen? ⟨B,0,none⟩=false)(hAB:B≠A) :
  CallsD prog 86 #[.pointer (some ⟨A,0,none⟩),.pointer (some ⟨B,0,none⟩)] (.panicking ({ v:=qP n,recovered:=false }::uG)) w fun e u' w' =>
   e = .returned (.tuple #[])/\u' = .panicking ({ v:=qP n,recovered:=true }::uG)/\w'=(w.setCell ⟨A,0,none⟩ (xk [])).setCell ⟨B,0,none⟩ (qP n):=by
 have ha:=CY n;refine callsD_of_wpS func86 rfl fun c₀ cs hu=>?_
 apply wpS_seq;apply wpS_region;simp[wpOpsS,go_sem,recoverD,hu,ha,ntmps86,Exit.thenS];refine wpS_of_wp ?_;simp only[Array.replicate,zP,List.setIfInBounds_toArray,List.set_cons_zero,List.set_cons_succ,List.append_toArray,List.cons_append,List.nil_append,Act.put];have hB':(w.setCell ⟨A,0,none⟩ (xk [])).cell? ⟨B,0,none⟩=some v:=by rw[xf,if_neg (fun e=>hAB (congrArg Addr.block e).symm)];exact hB
 go_wp2;simp[bodyPostS,results,results86]
def N7{σ:Type}(G:Nat->Prop)(I:Nat->σ->World->Prop)(J K:σ->World->Prop)(r:Rp σ)(w:World)(e:Ending)(w':World):Prop :=
 (match r with
  | .go k s=>e = .returned (.int .i64 (k:Nat))/\I k s w'
  | .fin s=>e = .returned (.int .i64 (-1))/\J s w'
  | .err n s=>(∃ uG:List PanicEntry,e = .panicked ({ v:=qP n,recovered:=false }::uG)/\uG.dropWhile (!·.goexit)=[])/\K s w'
  | .bad=>False)/\Fr G G w w'
def zck{σ:Type}(G:Nat->Prop)(out:σ->Wd)(Z:σ->World->Prop)(r:Except (Nat×σ) σ)(w:World)(e:Ending)(w':World):Prop :=
 (match r with
  | .ok s=>e = .returned (.tuple #[xk (out s),.nilIface])/\Z s w'
  | .error (n,s)=>e = .returned (.tuple #[xk [],qP n])/\Z s w')/\Fr G G w w'
def Rt(w:World)(p l g:Value):World:=((w.alloc (.cells #[xk []] 9)).alloc (.cells #[.nilIface] 73)).alloc (.cells #[p,l,g,.pointer none,.slice none 0 0,.slice none 0 0] 199)
theorem Rh(w:World){A:Nat}(hA:w.heap.size=A):qp A (xk []) .nilIface ((w.alloc (.cells #[xk []] 9)).alloc (.cells #[.nilIface] 73)):=by
 have h1:(w.alloc (.cells #[xk []] 9)).heap.size=A+1:=by simp[hA]
 have xC:A<(w.alloc (.cells #[xk []] 9)).heap.size:=by omega
 refine⟨?_,?_,?_,?_⟩
 ·rw[zZ _ _ _ xC,←hA];exact xu _ _ _ _ _
 ·rw[←h1];exact xu _ _ _ _ _
 ·rw[zu (zL _ _ _ xC)];subst hA;simp
 ·rw[←h1];simp
theorem qp.fr{A:Nat}{u v:Value}{w w':World}{F F':Nat->Prop}(h:qp A u v w)(hf:Fr F F' w w')(ha:¬F A)(hb:¬F (A+1)):qp A u v w' :=
 h.keep fun k hk=>hf.keep k (by have:=h.lt;omega) (by rcases hk with rfl|rfl<;>assumption)
def zyg{σ:Type}(G:Nat->Prop)(I:Nat->Nat->σ->World->Prop)(J:σ->World->Prop)(F:Nat->σ->Rp σ)(r:Except (Nat×σ) σ)(A:Nat)(w:World)(m:Nat)(kv:Value)(wr:World):Prop :=
 ((∃ k s,kv = .int .i64 (k:Nat)/\I m k s wr/\Ue F m k s=some r)\/∃ s,kv = .int .i64 (-1)/\J s wr/\r = .ok s)/\qp A (xk []) .nilIface wr/\Fr G G w wr
theorem nQ{σ:Type}(G:Nat->Prop)(I:Nat->Nat->σ->World->Prop)(J K Z:σ->World->Prop)(out:σ->Wd)(F:Nat->σ->Rp σ)(fuel:Nat)(s0:σ)(r:Except (Nat×σ) σ)(w:World)(pa la:Option Addr)(gf:Fn)(g1 g2:Array Value)
  (hGA:¬G w.heap.size) (hGB:¬G (w.heap.size+1)) (hG2:∀ k,w.heap.size+2<=k->G k) (h0:I fuel 0 s0 (Rt w (.pointer pa) (.pointer la) (.func gf g1 g2)))
  (zyf:∀ s W,J s W->∃ v x0 x1 x2 st,uo (w.heap.size+2) x0 x1 x2 st v (out s) W/\(∀ b,xX v b->w.heap.size+2<=b)/\(out s).length<=1000000000/\∀ W',Fr (fun k=>k=w.heap.size\/k=w.heap.size+1\/xX v k) (fun k=>k=w.heap.size\/k=w.heap.size+1\/xX v k) W W'->Z s W')
  (hK:∀ s W W',K s W->Fr (fun k=>k=w.heap.size\/k=w.heap.size+1) (fun k=>k=w.heap.size\/k=w.heap.size+1) W W'->Z s W')
  (vL:∀ m k s W,I (m+1) k s W->F k s ≠ .bad->Calls prog 87 #[.pointer (some ⟨w.heap.size+2,0,none⟩),.int .i64 (k:Nat)] W (N7 G (I m) J K (F k s) W))
  (hr:Ue F fuel 0 s0=some r):Calls prog 53 #[.pointer pa,.pointer la,.func gf g1 g2] w (zck G out Z r w):=by
 have R0:∀ (fn:Fn) (first cap:Array Value) (w:World),(zO fn first cap).run prog w = .ok (.func fn first cap) w:=fun _ _ _ _=>rfl
 obtain⟨A,hA⟩:∃ A,w.heap.size=A:=⟨_,rfl⟩;rw[hA] at hGA hGB hG2 zyf vL hK;have ZR:=Rh w hA;have yk5:=z7 zyf;have jF:=z7 vL;have HR:=z7 hr;have HKZ:=z7 hK;have HA:=z7 hA;have M8:((w.alloc (.cells #[xk []] 9)).alloc (.cells #[.nilIface] 73)).heap.size=A+2:=by simp[hA]
 have TD:Fr G G w (Rt w (.pointer pa) (.pointer la) (.func gf g1 g2)):=(((Fr.refl _ _).alloc _).alloc _).alloc _;have AU:qp A (xk []) .nilIface (Rt w (.pointer pa) (.pointer la) (.func gf g1 g2)):=ZR.below ((zv _ _).alloc (zy _) _);obtain⟨W0,Ej⟩:∃ W0,Rt w (.pointer pa) (.pointer la) (.func gf g1 g2)=W0:=⟨_,rfl⟩;rw[Ej] at TD AU h0;have HW0:=z7 Ej;have H0:=z7 h0;have HF0:=z7 TD;clear zyf vL hr hK hA ZR Ej h0 TD;go_enter_defers func53,ntmps53
 go_wp2_with fail;rw[HA.out];go_loopg [9] fuel (fun m kv wr=>zyg G I J F r A w m kv wr)
 case atStart =>
  have e:=HW0.out;subst e;exact⟨.inl ⟨0,s0,rfl,H0.out,HR.out⟩,AU,HF0.out⟩
 case round =>
  obtain⟨Wn,vM,Y2⟩:=hrel;have RZ:=z7 vM;have Kh:=z7 Y2;clear M8 AU Y2;rcases Wn with⟨k,s,rfl,hI,vB⟩|⟨s,rfl,hI,ZQ⟩
  ·obtain⟨m,hm⟩:∃ m,gk=m+1:=by
    refine⟨gk - 1,?_⟩;have:gk≠0:=fun e=>by rw[e] at vB;cases vB
    omega
   rw[hm,Ue] at vB;have HM:=Lib.hid hm;have gi:=Lib.hid vB;have Cu:decide ((0:Int)<=(k:Int))=true:=by simp
   have HS:=z7 (jF.out m k s wr (by rw[←hm];exact hI) (fun e=>by rw[e] at vB;cases vB));clear hm vB vM hI;go_wp2_with fail;refine HS.out.mono ?_;rintro e w1 ⟨hq,hf⟩;have bI:=RZ.out.fr hf hGA hGB;have Uz:=z7 (Kh.out.trans hf);have vB:=gi.out;obtain⟨o,ho⟩:∃ o,F k s=o:=⟨_,rfl⟩;rw[ho] at hq vB;clear ho hf HS gi Kh RZ
   cases o with
   | go k' s' =>
    obtain⟨rfl,l8⟩:=hq;have HI:=z7 l8;have AQ:=z7 bI;have gi:=z7 (show Ue F m k' s'=some r from vB);clear l8 bI vB;go_wp2;go_roundg m
    case measure=>have:=HM.out;omega
    case rel=>exact⟨.inl ⟨k',s',rfl,HI.out,gi.out⟩,AQ.out,Uz.out⟩
   | fin s' =>
    obtain⟨rfl,l8⟩:=hq;have HI:=z7 l8;have AQ:=z7 bI;have gi:=z7 (show(some (.ok s'):Option (Except (Nat×σ) σ))=some r from vB);clear l8 bI vB;go_wp2;go_roundg m
    case measure=>have:=HM.out;omega
    case rel=>exact⟨.inr ⟨s',rfl,HI.out,(zU gi.out).symm⟩,AQ.out,Uz.out⟩
   | bad=>exact hq.elim
   | err n s' =>
    obtain⟨⟨uG,rfl,hold⟩,QY⟩:=hq;have HK':=z7 QY;clear QY;have yk6:=z7 hold;have gi:=z7 (show(some (.error (n,s')):Option (Except (Nat×σ) σ))=some r from vB);clear hold vB;go_wp2;refine leaves_cons (f:=86) (args:=#[.pointer (some ⟨A,0,none⟩),.pointer (some ⟨A+1,0,none⟩)]) (by simp) (by simp[go_sem]) ?_;refine(Rs A (A+1) _ _ _ _ _ bI.c0 bI.z0 bI.c1 bI.z1 (by omega)).mono ?_;rintro e u' Kb ⟨rfl,rfl,rfl⟩;have Zq:=(bI.Ya (x:=xk [])).C1 (x:=qP n);have VR:=Zq.c0;have Rb:=Zq.c1;simp[Leaves,settle,results,results53,go_sem,VR,Rb,yk6.out];have hr:=zU gi.out;rw[←hr];exact⟨⟨rfl,HKZ.out s' _ _ HK'.out (((Fr.refl _ _).set (a:=⟨A,0,none⟩) _ (.inl (.inl rfl))).set (a:=⟨A+1,0,none⟩) _ (.inl (.inr rfl)))⟩,(Uz.out.set _ (.inr (by rw[HA.out];exact zy _))).set _ (.inr (by rw[HA.out];exact Nat.le_succ _))⟩
  ·obtain⟨v,x0,x1,x2,st,ho,hv,hl,hz⟩:=yk5.out s wr hI;have HZ:=z7 hz;have HG:=z7 (nZ hv ho hl);have AK:=z7 ZQ;clear hI ZQ ho hv hl vM hz;go_wp2_with fail;refine HG.out.mono ?_;rintro e w1 ⟨rfl,hb,pW⟩;have HFV:=z7 pW;clear pW;have bI:=RZ.out.keep (fun k hk=>hb.block k (by omega));have xC:=RZ.out.lt;have uq:Fr G G w w1:=Kh.out.trans ⟨hb.os,hb.tape,hb.output,hb.size,fun k hk hn=>hb.block k (Nat.lt_of_not_le fun q=>hn (hG2 k q)),fun _ q => .inl q⟩;have Uz:=z7 uq;obtain⟨t,ht⟩:∃ t,out s=t:=⟨_,rfl⟩;rw[ht];have HT:=z7 ht;have q0:=bI.c0;have q1:=bI.c1;have q2:=bI.z0;have q3:=bI.z1;have V3:=bI.Ya (x:=xk t);have G9:=V3.C1 (x := .nilIface);have q4:=V3.c1;have q5:=V3.z1;clear uq hb ht HG;go_wp2;refine leaves_cons (f:=86) (args:=#[.pointer (some ⟨A,0,none⟩),.pointer (some ⟨A+1,0,none⟩)]) (by simp) (by simp[go_sem]) ?_;refine(AV A (A+1) _).mono ?_;rintro e u' Kb ⟨rfl,rfl,rfl⟩;have VR:=G9.c0;have Rb:=G9.c1;simp[Leaves,settle,results,results53,go_sem,VR,Rb];rw[AK.out];exact⟨⟨by rw[←HT.out],HZ.out _ (((HFV.out.wide (fun k hk => .inr (.inr hk))).set (a:=⟨A,0,none⟩) _ (.inl (.inl rfl))).set (a:=⟨A+1,0,none⟩) _ (.inl (.inr (.inl rfl))))⟩,(Uz.out.set _ (.inr (by rw[HA.out];exact zy _))).set _ (.inr (by rw[HA.out];exact Nat.le_succ _))⟩
theorem jy.below{q mb:Nat}{s:MkS}{vC vI:Value}{rs:List (Value×Value)}{w w':World}(h:jy q s vC vI rs mb w)(hb:Below w.heap.size w w'):jy q s vC vI rs mb w':=by
 have hf:Fr xN xN w w':=Fr.of hb;exact⟨hf.cell h.q0 id,hf.cell h.q1 id,hf.cell h.q2 id,hf.own h.cC (fun _ _ q=>q),hf.own h.cI (fun _ _ q=>q),h.rows.fr hf (fun _ q=>q.elim),h.mp.keep (hb.block mb h.mp.lt)⟩
def qt(l:List (Nat×Nat)):List Value:=l.flatMap fun x=>[.int .i64 (x.1:Nat),.int .i64 (x.2:Nat)]
theorem GX(l:List (Nat×Nat)):(qt l).length=l.length*2:=by
 induction l with
 | nil=>rfl
 | cons a t ih=>simp only[qt,List.flatMap_cons,zk,zN,zg] at ih ⊢;omega
theorem bL(a b:List (Nat×Nat)):qt (a++b)=qt a++qt b:=by simp[qt]
theorem kY:ZV prog 253 105 (.agg #[.int .i64 0,.int .i64 0]) 2 16 :=
 ⟨underlying253,info_parts (by kernel_rfl),rfl,by decide,by decide⟩
theorem Xd:Ps 185 3:=⟨underlying185,underlying3,fun w=>by simp[go_sem]⟩
def Dk:Wd:=[111,116,104,101,114]
def Qs(cl:Nat):List Wd->List (Nat×Nat)->Fo->List (Nat×Nat)
 | seen,acc,.ug k a _ r=>Qs cl (k::seen) (if k∈seen then acc++[(7,a)] else acc) r
 | seen,acc,_=>if Dk∈seen then acc else acc++[(6,cl)]
def vp(base:Nat)(w:World)(v:Value)(l:List (Nat×Nat)):Prop:=w.ownsRow base 105 2 v l.length (qt l)
theorem Xs{w:World}{b:Nat}{u v:Value}(h:w.cell? ⟨b,0,none⟩=some u)(h2:w.cell? ⟨b,1,none⟩=some v):∀ j x,[u,v][j]? = some x->w.cell? ((⟨b,0,none⟩:Addr).add j)=some x:=by
 intro j x hx;match j,hx with
 | 0,hx=>simp at hx;subst hx;exact h
 | 1,hx=>simp at hx;subst hx;rw[ur];exact h2
 | j+2,hx=>simp at hx
def Ow(f:Wd->Option Nat)(seen:List Wd):Prop:=∀ k,(0<(f k).getD 0 ↔ k∈seen)/\(f k).getD 0<=seen.length
theorem Ow.more{f:Wd->Option Nat}{seen:List Wd}(h:Ow f seen)(k:Wd):Ow (fun x=>if k=x then some ((f k).getD 0+1) else f x) (k::seen):=by
 intro x;have:=h x;have h2:=h k;by_cases hx:k=x
 ·subst hx;simp;omega
 ·simp only[hx,↓reduceIte,List.mem_cons,zN];have vx:¬x=k:=fun e=>hx e.symm
  refine⟨by rw[this.1];simp[vx],by omega⟩
theorem vp.VG{base:Nat}{w w':World}{v:Value}{l:List (Nat×Nat)}(h:vp base w v l)(hb:Below w.heap.size w w'):vp base w' v l :=
 h.kept (row:=some w.heap.size) ⟨hb.os,hb.tape,hb.output,hb.size,fun i hi _=>hb.block i hi⟩ (by
  cases hv:v.ownBlock with
  | none=>exact .inl rfl
  | some g=>exact .inr (fun e=>by have:=(h.lt g hv).2;cases e;omega))
theorem vp.AJ{base b:Nat}{w w':World}{v:Value}{l:List (Nat×Nat)}(h:vp base w v l)(hg:w.grownBy w' (some b))(hb:b<base):vp base w' v l :=
 h.kept hg (by
  cases hv:v.ownBlock with
  | none=>exact .inl rfl
  | some g=>exact .inr (fun e=>by have:=(h.lt g hv).1;cases e;omega))
theorem Ui{w0 w:World}{mb:Nat}{v:Value}{l:List (Nat×Nat)}(h:vp (mb+1) w v l)(hm:w0.heap.size=mb):vp w0.heap.size w v l:=by
 obtain⟨h1,h2⟩:=h;refine⟨h1,?_⟩;rcases h2 with h2|⟨g,cap,cur,hv,hg,rest⟩
 ·exact .inl h2
 ·exact .inr ⟨g,cap,cur,hv,by omega,rest⟩
theorem YY{lo hi:Nat}{w0:World}(b0:Nat)(n:Wd)(a fo:Nat)(of:Wd)(cl:Nat)(bs:Fo)(w:World)(hk:vQ lo hi w0 w)
  (Xq:xY lo hi w0 [.iface 177 (.pointer (some ⟨b0,0,none⟩))] (.br n a fo of cl bs .nil)) (Gq:(Fo.br n a fo of cl bs .nil).wf 2000000=true) :
  Calls prog 116 #[.pointer (some ⟨b0,0,none⟩)] w fun e w'=>(∃ v,e = .returned v/\vp w.heap.size w' v (Qs cl [] [] bs))/\Below w.heap.size w w':=by
 have LI:=@run_makeMap prog;obtain⟨vt,b',ba,bc,ws,he,xB,xD,gP,qY,jD,La,DW,Lc,Ql,Uy,_⟩:=Xq
 cases he;have Zv:(decide (n.length<=4000001) && decide (fo<3) && bs.ux && decide (bs.len<=2000000) && bs.wf 2000000 && Fo.nil.wf 2000000)=true:=Gq;simp only[zx,decide_eq_true_eq] at Zv;obtain⟨⟨⟨⟨⟨hnl,KB⟩,Wy⟩,Hg⟩,qG⟩,_⟩:=Zv;have HK:=z7 hk;have mY:=z7 Uy;have Le:=z7 Ql;have HBL:=z7 Wy;have US:=z7 qG;have HC5:=z7 Lc;have c4:=xA hk DW xB xD;obtain⟨R,hR⟩:∃ R,Qs cl [] [] bs=R:=⟨_,rfl⟩;rw[hR];have HR:=z7 hR;have Yj:hi<=w.heap.size:=hk.1;obtain⟨mb,Ef⟩:∃ mb,w.heap.size=mb:=⟨_,rfl⟩;have Ms:=z7 Ef;clear hk Uy Ql Wy qG gP qY jD La DW Lc Gq hR;have CX:=kP.made 3 w;rw[Ef] at CX;have hbd:Below w.heap.size w (w.alloc (.map #[] 0)):=(zv _ _).alloc (zy _) _;have c4':(w.alloc (.map #[] 0)).cell? ⟨b0,4,none⟩=some (.slice ba bs.len bc):=(zZ _ _ _ (show b0<w.heap.size by omega)).trans c4;have zyd:(w.alloc (.map #[] 0)).heap.size=mb+1:=by simp[Ef]
 obtain⟨W0,Ej⟩:∃ W0,w.alloc (.map #[] 0)=W0:=⟨_,rfl⟩;rw[Ej] at CX hbd zyd;have HW0:=z7 Ej;clear Ej;go_enter func116,ntmps116;go_wp2_with fail;clear c4 c4' Ef;go_loopw [2,12] (fun fv iv wr=>∃ i us xs r acc seen nm fm,iv = .int .i64 (i:Nat)/\i<=bs.len/\xY lo hi w0 xs r/\r.ux=true/\r.wf 2000000=true/\us.length=i*3/\ws=us++xs/\i+r.len=bs.len/\Below w.heap.size w wr/\mb<wr.heap.size/\vp (mb+1) wr fv acc/\kP 3 wr mb nm fm/\nm<=i/\Ow fm seen/\seen.length=i/\acc.length<=i/\Qs cl seen acc r=R) (fun _ iv _=>bs.len - (intOf iv).toNat)
 case atStart =>
  rw[HW0.out];exact⟨0,[],ws,bs,[],[],0,fun _=>none,rfl,zG _,mY.out,HBL.out,US.out,rfl,rfl,by omega,hbd,by omega,zE _ _ _ _,CX,zy _,(fun k=>by simp),rfl,zy _,HR.out⟩
 case round =>
  obtain⟨i,us,xs,r,acc,seen,nm,fm,rfl,hiL,gO,rB,Eg,VY,rC,j5,N8,hmw,how,Xm,Dn,hsn,dG,qz,V2⟩:=hrel;have hkw:vQ lo hi w0 wr:=HK.out.below N8;have I5:=z7 how;have He:=z7 Xm;have mN:=z7 hsn;have HSL:=z7 dG;have im:=z7 qz;have fP:=z7 V2;have iM:=z7 gO;have Vc:=z7 rB;have zzz:=z7 Eg;have Hf:=z7 rC;have D6:=z7 VY;have Wh:=z7 j5;obtain⟨fa,fc,rfl⟩:=xZ how;clear gO rB Eg rC VY how Xm hsn dG qz V2;by_cases Z1:i<bs.len
  ·cases r with
   | nil=>exfalso;simp[Fo.len] at j5;omega
   | text t r=>have:=Vc.out;cases this
   | hash r=>have:=Vc.out;cases this
   | put n a r=>have:=Vc.out;cases this
   | num n a r=>have:=Vc.out;cases this
   | br n a fo of cl bs r=>have:=Vc.out;cases this
   | ug k0 a0 m0 r0 =>
    obtain⟨Ol,ma,mc,ms,Cy,Xu,Ww,UT⟩:=iM.out;subst Cy;have rE:ws.length=us.length+(Ol.length+3):=by rw[Hf.out];simp
    have U9:∀ j v,[xk k0,.int .i64 (a0:Nat),.slice ma m0.len mc][j]? = some v->∃ (h:i*3+j<ws.length),ws[i*3+j]=v:=by
     intro j v hj;have hj3:j<3:=by
      apply zY;intro hc;rw[List.getElem?_eq_none (by simp;omega)] at hj
      cases hj
     refine⟨by have:=D6.out;omega,?_⟩;have h1:ws[i*3+j]? = some v:=by
      rw[Hf.out,←D6.out,List.getElem?_append_right (by omega),Nat.add_sub_cancel_left,←hj];match j,hj3 with
      | 0,_=>rfl
      | 1,_=>rfl
      | 2,_=>rfl
     rw[List.getElem?_eq_getElem (by have:=D6.out;omega)] at h1;exact zU h1
    obtain⟨q0,p0⟩:=U9 0 _ rfl;obtain⟨q1,p1⟩:=U9 1 _ rfl;obtain⟨q2,p2⟩:=U9 2 _ rfl;obtain⟨g2,o2,rfl,MO,MP,d0⟩:=Le.out (i*3+0) q0;obtain⟨mX,o2',hgg,_,_,d1⟩:=Le.out (i*3+1) q1
    cases hgg;obtain⟨mX,o2',hgg,_,_,d2⟩:=Le.out (i*3+2) q2
    cases hgg;rw[p0] at d0;rw[p1] at d1;rw[p2] at d2;have c0:=xA hkw d0 MO MP;have c1:=xA hkw d1 MO MP;have c2:=xA hkw d2 MO MP;simp only[Nat.add_zero,←Nat.add_assoc] at c0 c1 c2;have mV:=z7 UT;have k3:(i:Int)<(bs.len:Int):=by omega
    have k4:decide ((i:Int)<(bs.len:Int))=true:=by simp;omega
    have A1:(decide (k0.length<=4000001) && m0.vD && decide (m0.len<=2000000) && m0.wf 2000000 && r0.wf 2000000)=true:=zzz.out;simp only[zx,decide_eq_true_eq] at A1;obtain⟨⟨⟨⟨Cu,_⟩,_⟩,_⟩,KX⟩:=A1;have mU:=z7 KX;have mQ:=z7 (show r0.ux=true from Vc.out);have mJ:=z7 (show i+(r0.len+1)=bs.len from Wh.out);have Zg:Below wr.heap.size wr (wr.alloc (.cells #[xk k0,.int .i64 (a0:Nat),.slice ma m0.len mc] 183)):=(zv _ _).alloc (zy _) _;have hMA:=He.out.below Zg;have V4:=hMA.KZ Xd k0 (by omega);obtain⟨cn,Ks⟩:∃ cn,(fm k0).getD 0=cn:=⟨_,rfl⟩;rw[Ks] at V4;have gQ:=z7 (mN.out.more k0);rw[Ks] at gQ;have l9:=mN.out k0;rw[Ks] at l9;have Z0:cn<=i:=by have:=HSL.out;omega
    have HCN:=z7 Ks;have HCK:=z7 l9.1;clear Xu Ww UT d0 d1 d2 p0 p1 p2 U9 Ks l9 KX hkw j5 rE;have hwA:=N8.trans (Zg.mono (by have:=N8.size;omega));by_cases dI:k0∈seen
    ·have je:=HCK.out.2 dI;have j1:decide ((0:Int)<(cn:Int))=true:=by simp;omega
     have j2:decide (0<cn)=true:=by simp;omega
     have AG:=z7 (show Qs cl (k0::seen) (acc++[(7,a0)]) r0=R by rw[←fP.out,Qs,if_pos dI]);clear dI;have HMA:=z7 hMA;have HOA:=z7 (I5.out.VG Zg);clear hMA;go_wp2_with (at_builtin;refine jB ?_);intro W3 j6;have CV:Below (wr.alloc (.cells #[xk k0,.int .i64 (a0:Nat),.slice ma m0.len mc] 183)).heap.size (wr.alloc (.cells #[xk k0,.int .i64 (a0:Nat),.slice ma m0.len mc] 183)) W3:=by rw[j6];exact(zv _ _).alloc (zy _) _
     have MW:(wr.alloc (.cells #[xk k0,.int .i64 (a0:Nat),.slice ma m0.len mc] 183)).heap.size=wr.heap.size+1:=by simp
     have QV:=fun i=>xu (wr.alloc (.cells #[xk k0,.int .i64 (a0:Nat),.slice ma m0.len mc] 183)) #[.int .i64 7,.int .i64 (a0:Nat)] 105 (0,0) i
     rw[←j6,MW] at QV;have zcb:=(CV.cell (p:=⟨wr.heap.size,0,none⟩) (by show wr.heap.size<_;omega)).trans (xu wr #[xk k0,.int .i64 (a0:Nat),.slice ma m0.len mc] 183 (0,0) 0);have FM:=z7 (HMA.out.below CV);have nK:=z7 (HOA.out.VG CV);have Jh:=CV.size;have Ye:=hwA.trans (CV.mono (by have:=N8.size;omega));clear j6;refine qd kY rfl _ _ rfl (mb+1) _ acc.length (qt acc) rfl nK.out ⟨wr.heap.size+1,0,none⟩ 1 1 [.int .i64 7,.int .i64 (a0:Nat)] rfl rfl ?u1 ?u2 (by have:=im.out;omega) (by omega) ?u3
     case u1=>exact Xs (QV 0) (QV 1)
     case u2 =>
      intro u hu;simp at hu;rcases hu with rfl|rfl<;>rfl
     intro v4 w4 Uu j7;have Fp:=z7 (show vp (mb+1) w4 v4 (acc++[(7,a0)]) by unfold vp;rw[bL,zk];exact Uu);have xV:∀ k,(zj fa acc.length fc).ownBlock=some k->mb+1<=k/\k<wr.heap.size:=fun k hk=>I5.out.lt k hk
     have hM4:=FM.out.keep (j7.block mb FM.out.lt (fun e=>by have:=xV mb e.symm;omega));have X2:Below w.heap.size w w4:=Ye.grown j7 Ye.size (fun k hk=>by have:=xV k hk;have:=Ms.out;omega);have xyk:w4.cell? ⟨wr.heap.size,0,none⟩=some (xk k0):=j7.cell zcb (fun e=>absurd (xV _ e.symm).2 (Nat.lt_irrefl _));obtain⟨fa4,fc4,rfl⟩:=xZ Uu;obtain⟨w5,WC,Jg,qc⟩:=hM4.put Xd k0 (by omega) ((cn:Int)+1) (cn+1) (by omega) (by omega) (by omega);have yk8:=hM4.KZ Xd k0 (by omega);rw[HCN.out] at yk8;have Ph:=Lib.hid Jg;have Ja:=Lib.hid (Fp.out.AJ qc (by omega));have UJ:Below w.heap.size w w5:=X2.grown qc X2.size (fun k hk=>by cases hk;have:=Ms.out;omega);have zyb:=Jg.lt;have ze2:(acc.length+1)=(acc++[(7,a0)]).length:=by simp
     have ru:=z7 (show vp (mb+1) w5 (.slice fa4 (acc.length+1) fc4) (acc++[(7,a0)]) from Ja.out);clear Uu j7 xV Jg qc hM4 V4 QV zcb ze2;go_wp2;go_roundw
     case rel=>exact⟨i+1,us++[xk k0,.int .i64 (a0:Nat),.slice ma m0.len mc],Ol,r0,acc++[(7,a0)],k0::seen,nm+1,_,by simp,by omega,mV.out,mQ.out,mU.out,by have:=D6.out;simp;omega,by rw[Hf.out,zH];rfl,by have:=mJ.out;omega,UJ,zyb,ru.out,Ph.out,by omega,gQ.out,by simp[HSL.out],by have:=im.out;simp;omega,AG.out⟩
     case measure=>simp only[intOf];omega
    ·have je:¬0<cn:=fun h=>dI (HCK.out.1 h)
     have j1:decide ((0:Int)<(cn:Int))=false:=by simp;omega
     have j2:decide (0<cn)=false:=by simp;omega
     have AG:=z7 (show Qs cl (k0::seen) acc r0=R by rw[←fP.out,Qs,if_neg dI]);clear dI je;obtain⟨w5,WC,Jg,qc⟩:=hMA.put Xd k0 (by omega) ((cn:Int)+1) (cn+1) (by omega) (by omega) (by omega);have Ph:=z7 Jg;have Ja:=z7 ((I5.out.VG Zg).AJ qc (by omega));have UJ:Below w.heap.size w w5:=hwA.grown qc hwA.size (fun k hk=>by cases hk;have:=Ms.out;omega);have zyb:=Jg.lt;clear Jg qc hMA;go_wp2;go_roundw
     case rel=>exact⟨i+1,us++[xk k0,.int .i64 (a0:Nat),.slice ma m0.len mc],Ol,r0,acc,k0::seen,nm+1,_,by simp,by omega,mV.out,mQ.out,mU.out,by have:=D6.out;simp;omega,by rw[Hf.out,zH];rfl,by have:=mJ.out;omega,UJ,zyb,Ja.out,Ph.out,by omega,gQ.out,by simp[HSL.out],by have:=im.out;omega,AG.out⟩
     case measure=>simp only[intOf];omega
  ·have k4:decide ((i:Int)<(bs.len:Int))=false:=by simp;omega
   have vu:r = .nil:=by
    have:=Vc.out
    cases r<;>simp[Fo.len] at j5<;>first|rfl|omega
   have V4:(Instr.lookup 185 (.map (some mb)) (.string ⟨#[111,116,104,101,114]⟩) false).run prog wr = .ok (.int .i64 (((fm Dk).getD 0:Nat):Int)) wr:=He.out.KZ Xd Dk (by decide);have Ak:=mN.out Dk;obtain⟨cn,Ks⟩:∃ cn,(fm Dk).getD 0=cn:=⟨_,rfl⟩;rw[Ks] at V4 Ak;have c5:=xA hkw HC5.out xB xD;have vS:Qs cl seen acc r=if Dk∈seen then acc else acc++[(6,cl)]:=by rw[vu];rfl
   have HFN:=z7 (vS.symm.trans fP.out);have HOB:=z7 (Ui I5.out Ms.out);by_cases dI:Dk∈seen
   ·have je:=Ak.1.2 dI;have j1:((cn:Int)==0)=false:=by simp;omega
    have V8:=z7 (show R=acc by rw[←HFN.out,if_pos dI]);clear Ak Ks vS dI;go_wp2;go_ret;rw[V8.out];exact⟨⟨_,rfl,HOB.out⟩,N8⟩
   ·have je:¬0<cn:=fun h=>dI (Ak.1.1 h)
    have j1:((cn:Int)==0)=true:=by simp;omega
    have V8:=z7 (show R=acc++[(6,cl)] by rw[←HFN.out,if_neg dI]);clear Ak Ks vS dI;go_wp2_with (at_builtin;refine jB ?_);intro W3 j6;have CV:Below wr.heap.size wr W3:=by rw[j6];exact(zv _ _).alloc (zy _) _
    have QV:=fun i=>xu wr #[.int .i64 6,.int .i64 (cl:Nat)] 105 (0,0) i
    rw[←j6] at QV;have nK:=z7 (I5.out.VG CV);have Jh:=CV.size;have Ye:=N8.trans (CV.mono (by have:=N8.size;omega));clear j6;refine qd kY rfl _ _ rfl (mb+1) _ acc.length (qt acc) rfl nK.out ⟨wr.heap.size,0,none⟩ 1 1 [.int .i64 6,.int .i64 (cl:Nat)] rfl rfl ?u4 ?u5 (by have:=im.out;omega) (by omega) ?u6
    case u4=>exact Xs (QV 0) (QV 1)
    case u5 =>
     intro u hu;simp at hu;rcases hu with rfl|rfl<;>rfl
    intro v4 w4 Uu j7;have Fp:=z7 (Ui (show vp (mb+1) w4 v4 (acc++[(6,cl)]) by unfold vp;rw[bL,zk];exact Uu) Ms.out);have xV:∀ k,(zj fa acc.length fc).ownBlock=some k->mb+1<=k:=fun k hk=>(I5.out.lt k hk).1
    have X2:Below w.heap.size w w4:=Ye.grown j7 Ye.size (fun k hk=>by have:=xV k hk;have:=Ms.out;omega);clear Uu j7 xV;go_wp2;go_ret;rw[V8.out];exact⟨⟨_,rfl,Fp.out⟩,X2⟩
theorem Xt{cl:Nat}(seen:List Wd)(acc:List (Nat×Nat))(n:Nat):(if Dk∈seen then acc else acc++[(6,cl)]).length<=acc.length+n+1:=by
 split
 ·omega
 ·rw[zk];show acc.length+1<=_;omega
theorem YX(cl:Nat):∀ (f:Fo) (seen:List Wd) (acc:List (Nat×Nat)),(Qs cl seen acc f).length<=acc.length+f.len+1
 | .ug k a m r,seen,acc=>by
  rw[Qs];refine zX (YX cl r _ _) ?_;split<;>simp[Fo.len]<;>omega
 | .nil,seen,acc=>Xt seen acc _
 | .text _ _,seen,acc=>Xt seen acc _
 | .hash _,seen,acc=>Xt seen acc _
 | .put _ _ _,seen,acc=>Xt seen acc _
 | .num _ _ _,seen,acc=>Xt seen acc _
 | .br _ _ _ _ _ _ _,seen,acc=>Xt seen acc _
def jO:Fo->Nat
 | .num _ _ _=>1
 | .br _ _ f _ _ _ _=>if f=0 then 2 else 1
 | _=>0
theorem N9{lo hi:Nat}{w0:World}(x:Fo)(u:Value)(n:Wd)(a:Nat)(w:World)(hk:vQ lo hi w0 w)(Xq:xY lo hi w0 [u] x)(hh:Wo x=some (n,a)) :
  Calls prog 115 #[u] w fun e w'=>e = .returned (.int .i64 ((jO x:Nat):Int))/\w'=w:=by
 cases x with
 | nil=>cases hh
 | text t r=>cases hh
 | hash r=>cases hh
 | ug k0 a0 m0 r0=>cases hh
 | put n0 a0 r =>
  obtain⟨vt,b0,he,xB,xD,gP,qY,gO⟩:=Xq
  cases he;have e1:=MH b0;have e2:=DT b0;go_enter func115,ntmps115;go_wp2;go_ret;exact⟨rfl,rfl⟩
 | num n0 a0 r =>
  obtain⟨vt,b0,he,xB,xD,gP,qY,gO⟩:=Xq
  cases he;have e1:=VW b0;go_enter func115,ntmps115;go_wp2;go_ret;exact⟨rfl,rfl⟩
 | br n0 a0 fo of cl bs r =>
  obtain⟨vt,b0,ba,bc,ws,he,xB,xD,gP,qY,jD,La,DW,Lc,Ql,Uy,gO⟩:=Xq
  cases he;have e1:=QT b0;have e2:=UM b0;have c2:=xA hk jD xB xD;by_cases hf:fo=0
  ·have HF:=Lib.hid hf;have j1:((fo:Int)==0)=true:=by simp[hf]
   clear hf;go_enter func115,ntmps115;go_wp2;go_ret;have hkf:jO (.br n0 a0 fo of cl bs r)=2:=if_pos HF.out;rw[hkf];exact⟨rfl,rfl⟩
  ·have HF:=Lib.hid hf;have j1:((fo:Int)==0)=false:=by simp;omega
   clear hf;go_enter func115,ntmps115;go_wp2;go_ret;have hkf:jO (.br n0 a0 fo of cl bs r)=1:=if_neg HF.out;rw[hkf];exact⟨rfl,rfl⟩
abbrev KL:=(Wd->Option Nat)×List (Nat×Nat)
def uY(s:KL)(n:Wd)(a k:Nat):KL :=
 if k≠0/\(s.1 n).isSome=true/\(s.1 n).getD 0≠k then (s.1,s.2++[(5,a)]) else if k≠0 then (fun y=>if n=y then some k else s.1 y,s.2) else s
def bM(s:KL):Fo->Out KL
 | .br n a f o cl bs r => .go true ((uY s n a (jO (.br n a f o cl bs r))).1,(uY s n a (jO (.br n a f o cl bs r))).2++Qs cl [] [] bs)
 | .num n a _ => .go true (uY s n a 1)
 | .put n a _ => .go true (uY s n a 0)
 | _ => .go true s
theorem ff:Ps 254 255:=⟨underlying254,underlying255,fun w=>by simp[go_sem]⟩
structure Xb(lo hi:Nat)(w0:World)(B:Nat)(w:World)(s:KL)(room:Nat)(W:World):Prop where
 keep:vQ lo hi w0 W
 hiB:hi<=B
 map:∃ nm,kP 255 W (B+1) nm s.1/\nm+room<=1000000000
 row:∃ v,W.cell? ⟨B,0,none⟩=some v/\vp (B+3) W v s.2
 kc:W.cell? ⟨B+2,0,none⟩=some (.map (some (B+1)))
 fz:W.frozen? ⟨B,0,none⟩=false
 few:s.2.length+room<=1000000000
 bel:Below B w W
theorem Xb.below{lo hi:Nat}{w0:World}{B:Nat}{w:World}{s:KL}{room:Nat}{W W':World}(h:Xb lo hi w0 B w s room W)(hb:Below W.heap.size W W'):Xb lo hi w0 B w s room W':=by
 obtain⟨h1,h2,⟨nm,h3,h3'⟩,⟨v,h4,h5⟩,h6,h7,h8,h9⟩:=h;have l1:B<W.heap.size:=z8 W _ h4;have l2:B+2<W.heap.size:=z8 W _ h6;exact⟨h1.below hb,h2,⟨nm,h3.below hb,h3'⟩,⟨v,(hb.cell (p:=⟨B,0,none⟩) l1).trans h4,h5.VG hb⟩,(hb.cell (p:=⟨B+2,0,none⟩) l2).trans h6,(hb.frozen (p:=⟨B,0,none⟩) l1).trans h7,h8,h9.trans (hb.mono (by omega))⟩
theorem Xb.less{lo hi:Nat}{w0:World}{B:Nat}{w:World}{s:KL}{room room':Nat}{W:World}(h:Xb lo hi w0 B w s room W)(hr:room'<=room):Xb lo hi w0 B w s room' W:=by
 obtain⟨h1,h2,⟨nm,h3,h3'⟩,h4,h6,h7,h8,h9⟩:=h;exact⟨h1,h2,⟨nm,h3,by omega⟩,h4,h6,h7,by omega,h9⟩
theorem Qt{w:World}{o:Oper}{a:Act}{K:Act->World->Prop}{Q:Exit->Act->World->Prop}
  (s x:Operand) (ho:o.op = .call { callee := .builtin .append,args:=#[s,x],argTypes:=#[253,253] })
  (base ze3:Nat) (v u:Value) (acc l:List (Nat×Nat)) (hs:a.eval s=v) (hF:vp base w v acc) (hx:a.eval x=u) (hU:vp ze3 w u l) (LB:acc.length+l.length<=2147483648) (bY:base<=w.heap.size)
  (h:∀ v' w',vp base w' v' (acc++l)->w.grownBy w' v.ownBlock->K (a.put o.dst v') w'):Oper.wp prog o a w K Q:=by
 obtain⟨i,hi,hz,h2,h3⟩:=kY.info;have hU0:=hU;rcases hU.2 with⟨hu,hn⟩|⟨g,cap,cur,hu,hg,hh,tM,jG,dJ,ht⟩
 ·have hl:l=[]:=List.eq_nil_of_length_eq_zero hn;subst hl;have hr:=run_append_owned_none (P:=prog) (w:=w) base 253 o.type 105 i 2 kY.under hi v acc.length (qt acc) hF;unfold Oper.wp execOp;simp only[ho,resolve,invoke,builtin,Sem.run_bind,Sem.run_pure,zD,zM,List.map_cons,List.map_nil,hs,hx,hu,hr];exact h v w (by simpa using hF) (Lr w _)
 ·obtain⟨v',w',hr,k1,k2,_⟩:=run_append_own (P:=prog) w base 253 o.type 105 i _ 2 16 kY.under hi hz h2 h3 kY.Uk kY.pos v acc.length (qt acc) hF ⟨g,0,none⟩ l.length cap (qt l) (GX l)
   (fun j x hx=>by
    have hj:j<(qt l).length:=(List.getElem?_eq_some_iff.1 hx).1;rw[ur,←hx];rw[GX] at hj;obtain⟨g',vh,WR,_,_,vX⟩:=vU hU0 (by omega);rw[hu] at WR
    cases WR;exact vX j hj)
   (fun x hx=>by
    simp only[qt,List.mem_flatMap] at hx;obtain⟨y,_,hy⟩:=hx;simp at hy;rcases hy with rfl|rfl<;>rfl) (by unfold maxLen;omega) (by omega) bY
  unfold Oper.wp execOp;simp only[ho,resolve,invoke,builtin,Sem.run_bind,Sem.run_pure,zD,zM,List.map_cons,List.map_nil,hs,hx,hu,hr];exact h v' w' (by unfold vp;rw[bL,zk];exact k1) k2
theorem I6(x:Fo):jO x<=2:=by
 cases x<;>simp[jO];split<;>decide
theorem vQ.AF{lo hi:Nat}{w W:World}(h:vQ lo hi w W):vQ lo hi w W.drew:=h
theorem Ul{lo hi:Nat}{w0:World}{B:Nat}{w:World}{s:KL}{room room':Nat}{W W':World}{row:Option Nat}{v':Value}{l:List (Nat×Nat)}(h:Xb lo hi w0 B w s room W)(hg:W.grownBy W' row)(xV:∀ k,row=some k->B+3<=k)
  (hf:vp (B+3) W' v' (s.2++l)) (hr:room'+l.length<=room):Xb lo hi w0 B w (s.1,s.2++l) room' (W'.setCell ⟨B,0,none⟩ v'):=by
 obtain⟨h1,h2,⟨nm,h3,h3'⟩,⟨v,h4,h5⟩,h6,h7,h8,h9⟩:=h;have vx:∀ k,k<B+3->(some k:Option Nat)≠row:=fun k q1 q2=>by have:=xV k q2.symm;omega
 have l0:B<W.heap.size:=z8 W _ h4;have hb:∀ k,k<W.heap.size->k<B+3->k≠B->(W'.setCell ⟨B,0,none⟩ v').heap[k]? = W.heap[k]? := fun k q1 q2 q3=>(Below.heap_setCell _ _ _ _ q3).trans (hg.block k q1 (vx k q2))
 have l2:B+2<W.heap.size:=z8 W _ h6;have qa:W.heap.size<=(W'.setCell ⟨B,0,none⟩ v').heap.size:=zX hg.size (by simp[World.setCell]);have c0:W'.cell? ⟨B,0,none⟩=some v:=hg.cell h4 (vx B (by omega));refine⟨⟨zX h1.1 qa,fun k k1 k2=>(hb k (by have:=h1.1;omega) (by omega) (by omega)).trans (h1.2 k k1 k2)⟩,h2,⟨nm,h3.keep (hb (B+1) h3.lt (by omega) (by omega)),by omega⟩,⟨v',by rw[xf,if_pos rfl,c0];rfl,?_⟩,
  (World.cell?_of_block (a:=⟨B+2,0,none⟩) (hb (B+2) l2 (by omega) (by omega))).trans h6,?_,?_,?_⟩
 ·exact ownsRow_setCell_below hf (a:=⟨B,0,none⟩) (by show B<B+3;omega) v'
 ·rw[zf];exact(zu (a:=⟨B,0,none⟩) (hg.block B l0 (vx B (by omega)))).trans h7
 ·show(s.2++l).length+room'<=_;rw[zk];omega
 ·exact vW (h9.grown hg (by omega) (fun k q=>by have:=xV k q;omega)) (zy _)
theorem JK{lo hi:Nat}{w0:World}{B:Nat}{w:World}{s:KL}{room room' nm:Nat}{W W':World}{f:Wd->Option Nat}(h:Xb lo hi w0 B w s room W)(hm:kP 255 W' (B+1) (nm+1) f)(hg:W.grownBy W' (some (B+1)))
  (hn:nm+room<=1000000000) (hr:room'+1<=room):Xb lo hi w0 B w (f,s.2) room' W':=by
 obtain⟨h1,h2,_,⟨v,h4,h5⟩,h6,h7,h8,h9⟩:=h;have vx:∀ k,k≠B+1->(some k:Option Nat)≠some (B+1):=fun k q1 q2=>q1 (by cases q2;rfl)
 have l0:B<W.heap.size:=z8 W _ h4;refine⟨⟨zX h1.1 hg.size,fun k k1 k2=>(hg.block k (by have:=h1.1;omega) (vx k (by omega))).trans (h1.2 k k1 k2)⟩,h2,⟨nm+1,hm,by omega⟩,⟨v,hg.cell h4 (vx B (by omega)),h5.AJ hg (by omega)⟩,
  hg.cell h6 (vx (B+2) (by omega)),?_,by show s.2.length+room'<=_;omega,h9.grown hg (by omega) (fun k q=>by cases q;omega)⟩
 exact(zu (a:=⟨B,0,none⟩) (hg.block B l0 (vx B (by omega)))).trans h7
theorem nJ{lo hi:Nat}{w0:World}{B:Nat}{w:World}(x:Fo)(u:Value)(n:Wd)(a:Nat)(s:KL)(room:Nat)(W:World)(hI:Xb lo hi w0 B w s (room+x.wt) W)(Xq:xY lo hi w0 [u] x)(Gq:x.wf 2000000=true)(hh:Wo x=some (n,a)) :
  Calls prog 114 #[u,.agg #[xk n,.int .i64 (a:Nat)],.pointer (some ⟨B+2,0,none⟩),.pointer (some ⟨B,0,none⟩)] W (zz8 (Xb lo hi w0 B w) room (bM s x)):=by
 have HI:=z7 hI;have HND:=z7 Xq;have HWF:=z7 Gq;clear hI Gq
 cases x with
 | nil=>cases hh
 | text t r=>cases hh
 | hash r=>cases hh
 | ug k0 a0 m0 r0=>cases hh
 | put n0 a0 r =>
  obtain⟨vt,b0,he,xB,xD,gP,qY,gO⟩:=Xq;obtain⟨rfl,rfl⟩:n=n0/\a=a0:=by cases hh;exact⟨rfl,rfl⟩
  cases he;have e1:=DT b0;have HI:=z7 (show Xb lo hi w0 B w s (room+1) W from HI.out);have hnl:n.length<=4000001:=by have:=HWF.out;simp[Fo.wf] at this;exact this.1
  obtain⟨kv,QE⟩:∃ kv,jO (.put n a r)=kv:=⟨_,rfl⟩;have FT:=z7 (fun W' hk=>N9 (.put n a r) (.iface 172 (.pointer (some ⟨b0,0,none⟩))) n a W' hk HND.out rfl);have Mo:=z7 QE;rw[QE] at FT;clear QE;go_enter func114,ntmps114;go_wp2_with fail;have Zg:Below W.heap.size W (W.alloc (.cells #[xk n,.int .i64 (a:Nat)] 114)):=(zv _ _).alloc (zy _) _;have VR:=fun i=>xu W #[xk n,.int .i64 (a:Nat)] 114 (0,0) i
  have YV:=HI.out.below Zg;obtain⟨W1,VD⟩:∃ W1,W.alloc (.cells #[xk n,.int .i64 (a:Nat)] 114)=W1:=⟨_,rfl⟩;rw[VD] at VR YV ⊢;have LA:=VR 0;have Tr:=VR 1;clear VD VR Zg;refine(FT.out W1 YV.keep).mono ?_;rintro e W2 ⟨rfl,rfl⟩;obtain⟨nm,Xm,Dn⟩:=YV.map;obtain⟨fv,hfc,Y2⟩:=YV.row;obtain⟨fa,fc,rfl⟩:=xZ Y2;have V4:=Xm.look ff n (by omega);have TM:=YV.kc;have VA:=YV.fz;have AD:=YV.few;have Qi:=z7 YV;have He:=z7 Xm;have Kh:=z7 Y2;have Ki:B+2<W2.heap.size:=z8 W2 _ TM;clear YV Xm Y2;obtain⟨kk,UH⟩:∃ kk,(s.1 n).getD 0=kk:=⟨_,rfl⟩;obtain⟨bb,bw⟩:∃ bb,(s.1 n).isSome=bb:=⟨_,rfl⟩;rw[UH,bw] at V4;have mF:=z7 UH;have rr:=z7 bw;clear UH bw FT;have Cu:kv=0:=Mo.out.symm;subst Cu;have HF:=z7 (Qi.out.less (room':=room) (by omega));go_wp2;go_ret;have Nz:bM s (.put n a r) = .go true s:=by show Out.go true (uY s n a 0)=_;unfold uY;simp
  rw[Nz];exact⟨rfl,HF.out⟩
 | num n0 a0 r =>
  obtain⟨vt,b0,he,xB,xD,gP,qY,gO⟩:=Xq;obtain⟨rfl,rfl⟩:n=n0/\a=a0:=by cases hh;exact⟨rfl,rfl⟩
  cases he;have e1:=RX b0;have HI:=z7 (show Xb lo hi w0 B w s (room+1) W from HI.out);have hnl:n.length<=4000001:=by have:=HWF.out;simp[Fo.wf] at this;exact this.1
  obtain⟨kv,QE⟩:∃ kv,jO (.num n a r)=kv:=⟨_,rfl⟩;have FT:=z7 (fun W' hk=>N9 (.num n a r) (.iface 175 (.pointer (some ⟨b0,0,none⟩))) n a W' hk HND.out rfl);have Mo:=z7 QE;rw[QE] at FT;clear QE;go_enter func114,ntmps114;go_wp2_with fail;have Zg:Below W.heap.size W (W.alloc (.cells #[xk n,.int .i64 (a:Nat)] 114)):=(zv _ _).alloc (zy _) _;have VR:=fun i=>xu W #[xk n,.int .i64 (a:Nat)] 114 (0,0) i
  have YV:=HI.out.below Zg;obtain⟨W1,VD⟩:∃ W1,W.alloc (.cells #[xk n,.int .i64 (a:Nat)] 114)=W1:=⟨_,rfl⟩;rw[VD] at VR YV ⊢;have LA:=VR 0;have Tr:=VR 1;clear VD VR Zg;refine(FT.out W1 YV.keep).mono ?_;rintro e W2 ⟨rfl,rfl⟩;obtain⟨nm,Xm,Dn⟩:=YV.map;obtain⟨fv,hfc,Y2⟩:=YV.row;obtain⟨fa,fc,rfl⟩:=xZ Y2;have V4:=Xm.look ff n (by omega);have TM:=YV.kc;have VA:=YV.fz;have AD:=YV.few;have Qi:=z7 YV;have He:=z7 Xm;have Kh:=z7 Y2;have Ki:B+2<W2.heap.size:=z8 W2 _ TM;clear YV Xm Y2;obtain⟨kk,UH⟩:∃ kk,(s.1 n).getD 0=kk:=⟨_,rfl⟩;obtain⟨bb,bw⟩:∃ bb,(s.1 n).isSome=bb:=⟨_,rfl⟩;rw[UH,bw] at V4;have mF:=z7 UH;have rr:=z7 bw;clear UH bw FT;have zx1:kv≠0:=by rw[←Mo.out];exact Nat.one_ne_zero
  have ykz:kv<=2:=by rw[←Mo.out];exact I6 _
  have j1:((kv:Int) !=0)=true:=by simp;omega
  have j1':((kv:Int)==0)=false:=by simp;omega
  have Oo:=z7 zx1
  cases bb with
  | false =>
   obtain⟨W4,WC,KX,j7⟩:=He.out.put ff n (by omega) (kv:Int) kv rfl (by omega) (by omega);have jF:=z7 (show uY s n a kv=(fun y=>if n=y then some kv else s.1 y,s.2) by unfold uY;rw[if_neg (fun e=>by have:=e.2.1;rw[rr.out] at this;cases this),if_pos Oo.out]);have HF:=z7 (JK Qi.out KX j7 (room':=room) Dn (by omega));clear KX j7;go_wp2;go_ret;have Nz:bM s (.num n a r) = .go true ((fun y=>if n=y then some kv else s.1 y,s.2):KL):=by show Out.go true (uY s n a 1)=_;rw[show(1:Nat)=kv from Mo.out,jF.out]
   rw[Nz];exact⟨rfl,HF.out⟩
  | true =>
   by_cases gq:kk=kv
   ·have j2:((kk:Int) !=(kv:Int))=false:=by simp[gq]
    have j3:(kk !=kv)=false:=by simp[gq]
    have GV:=z7 gq;clear gq;obtain⟨W4,WC,KX,j7⟩:=He.out.put ff n (by omega) (kv:Int) kv rfl (by omega) (by omega);have jF:=z7 (show uY s n a kv=(fun y=>if n=y then some kv else s.1 y,s.2) by unfold uY;rw[if_neg (fun e=>e.2.2 (by rw[mF.out];exact GV.out)),if_pos Oo.out]);have HF:=z7 (JK Qi.out KX j7 (room':=room) Dn (by omega));clear KX j7;go_wp2;go_ret;have Nz:bM s (.num n a r) = .go true ((fun y=>if n=y then some kv else s.1 y,s.2):KL):=by show Out.go true (uY s n a 1)=_;rw[show(1:Nat)=kv from Mo.out,jF.out]
    rw[Nz];exact⟨rfl,HF.out⟩
   ·have j2:((kk:Int) !=(kv:Int))=true:=by simp;omega
    have j3:(kk !=kv)=true:=by simp[gq]
    have GV:=z7 gq;clear gq;go_wp2_with (at_builtin;refine jB ?_);intro W3 j6;have qz:Below W2.heap.size W2 W3:=by rw[j6];exact(zv _ _).alloc (zy _) _
    have QV:=fun i=>xu W2 #[.int .i64 5,.int .i64 (a:Nat)] 105 (0,0) i
    rw[←j6] at QV;have Wt:=z7 (Qi.out.below qz);have q3:=(qz.cell (z8 _ _ hfc)).trans hfc;have nK:=z7 (Kh.out.VG qz);have Jh:=qz.size;clear j6;refine qd kY rfl _ _ rfl (B+3) _ s.2.length (qt s.2) rfl nK.out ⟨W2.heap.size,0,none⟩ 1 1 [.int .i64 5,.int .i64 (a:Nat)] rfl rfl ?w5V1 ?w5V2 (by omega) (by omega) ?w5V3
    case w5V1=>exact Xs (QV 0) (QV 1)
    case w5V2 =>
     intro u hu;simp at hu;rcases hu with rfl|rfl<;>rfl
    intro v4 w4 Uu j7;have Vg:vp (B+3) w4 v4 (s.2++[(5,a)]):=by unfold vp;rw[bL,zk];exact Uu
    have xV:∀ k,(zj fa s.2.length fc).ownBlock=some k->B+3<=k:=fun k hk=>(Kh.out.lt k hk).1
    have vx:∀ k,k<B+3->(some k:Option Nat)≠(zj fa s.2.length fc).ownBlock:=fun k h1 h2=>by have:=xV k h2.symm;omega
    have q4:=j7.cell q3 (vx B (by omega));have z4:w4.frozen? ⟨B,0,none⟩=false:=(World.frozen?_of_block (a:=⟨B,0,none⟩) (j7.block B (World.block_lt_of_cell? _ _ q3) (vx B (by omega)))).trans Wt.out.fz;have jF:=Lib.hid (show uY s n a kv=(s.1,s.2++[(5,a)]) by unfold uY;rw[if_pos ⟨Oo.out,rr.out,fun e=>GV.out (mF.out.symm.trans e)⟩]);have HF:=Lib.hid (Ul (l:=[(5,a)]) (room':=room) Wt.out j7 xV Vg (by simp<;>omega));obtain⟨fa4,fc4,rfl⟩:=xZ Vg;obtain⟨W4,FC⟩:∃ W4,w4.setCell ⟨B,0,none⟩ (.slice fa4 (s.2.length+1) fc4)=W4:=⟨_,rfl⟩;have I7:(s.2++[(5,a)]).length=s.2.length+1:=by simp
    rw[I7,FC] at HF;have HW4:=z7 FC;clear Uu j7 xV Vg vx q3 nK I7;go_wp2;go_ret;have Nz:bM s (.num n a r) = .go true ((s.1,s.2++[(5,a)]):KL):=by show Out.go true (uY s n a 1)=_;rw[show(1:Nat)=kv from Mo.out,jF.out]
    rw[Nz];exact⟨rfl,HF.out⟩
 | br n0 a0 fo of cl bs r =>
  obtain⟨vt,b0,ba,bc,ws,he,xB,xD,gP,qY,jD,La,DW,Lc,Ql,Uy,gO⟩:=Xq;obtain⟨rfl,rfl⟩:n=n0/\a=a0:=by cases hh;exact⟨rfl,rfl⟩
  cases he;have e1:=UM b0;have HI:=z7 (show Xb lo hi w0 B w s (room+(2+bs.len)) W from HI.out);have hnl:n.length<=4000001:=by have:=HWF.out;simp[Fo.wf] at this;exact this.1.1.1.1.1
  have MS:=z7 (show xY lo hi w0 [.iface 177 (.pointer (some ⟨b0,0,none⟩))] (.br n a fo of cl bs .nil) from⟨[],b0,ba,bc,ws,rfl,xB,xD,gP,qY,jD,La,DW,Lc,Ql,Uy,rfl⟩);have zx2:=z7 (show(Fo.br n a fo of cl bs .nil).wf 2000000=true by have:=HWF.out;simp[Fo.wf] at this ⊢;exact this.1);obtain⟨kv,QE⟩:∃ kv,jO (.br n a fo of cl bs r)=kv:=⟨_,rfl⟩;have FT:=z7 (fun W' hk=>N9 (.br n a fo of cl bs r) (.iface 177 (.pointer (some ⟨b0,0,none⟩))) n a W' hk HND.out rfl);have Mo:=z7 QE;rw[QE] at FT;clear QE;go_enter func114,ntmps114;go_wp2_with fail;have Zg:Below W.heap.size W (W.alloc (.cells #[xk n,.int .i64 (a:Nat)] 114)):=(zv _ _).alloc (zy _) _;have VR:=fun i=>xu W #[xk n,.int .i64 (a:Nat)] 114 (0,0) i
  have YV:=HI.out.below Zg;obtain⟨W1,VD⟩:∃ W1,W.alloc (.cells #[xk n,.int .i64 (a:Nat)] 114)=W1:=⟨_,rfl⟩;rw[VD] at VR YV ⊢;have LA:=VR 0;have Tr:=VR 1;clear VD VR Zg;refine(FT.out W1 YV.keep).mono ?_;rintro e W2 ⟨rfl,rfl⟩;obtain⟨nm,Xm,Dn⟩:=YV.map;obtain⟨fv,hfc,Y2⟩:=YV.row;obtain⟨fa,fc,rfl⟩:=xZ Y2;have V4:=Xm.look ff n (by omega);have TM:=YV.kc;have VA:=YV.fz;have AD:=YV.few;have Qi:=z7 YV;have He:=z7 Xm;have Kh:=z7 Y2;have Ki:B+2<W2.heap.size:=z8 W2 _ TM;clear YV Xm Y2;obtain⟨kk,UH⟩:∃ kk,(s.1 n).getD 0=kk:=⟨_,rfl⟩;obtain⟨bb,bw⟩:∃ bb,(s.1 n).isSome=bb:=⟨_,rfl⟩;rw[UH,bw] at V4;have mF:=z7 UH;have rr:=z7 bw;clear UH bw FT;have zx1:kv≠0:=by rw[←Mo.out];by_cases h:fo=0<;>simp[jO,h]
  have ykz:kv<=2:=by rw[←Mo.out];exact I6 _
  have j1:((kv:Int) !=0)=true:=by simp;omega
  have j1':((kv:Int)==0)=false:=by simp;omega
  have Oo:=z7 zx1
  cases bb with
  | false =>
   obtain⟨W4,WC,KX,j7⟩:=He.out.put ff n (by omega) (kv:Int) kv rfl (by omega) (by omega);have jF:=z7 (show uY s n a kv=(fun y=>if n=y then some kv else s.1 y,s.2) by unfold uY;rw[if_neg (fun e=>by have:=e.2.1;rw[rr.out] at this;cases this),if_pos Oo.out]);have HF:=z7 (JK Qi.out KX j7 (room':=(room+1+bs.len)) Dn (by omega));clear KX j7;obtain⟨s1,uF⟩:∃ s1:KL,((fun y=>if n=y then some kv else s.1 y,s.2):KL)=s1:=⟨_,rfl⟩;rw[uF] at jF HF;clear uF;go_wp2_with fail;have q1:=HF.out.row;obtain⟨v1,q2,q3⟩:=q1;obtain⟨P5,P6,rfl⟩:=xZ q3;have LP:=z7 (fun W' hk=>YY b0 n a fo of cl bs W' hk MS.out zx2.out);have Rw:=z7 q3;refine rk (fun W':World=>W'.cell? ⟨B,0,none⟩=some (.slice P5 (s1).2.length P6)) 4 [0,1] 3 q2 ?_;(iterate 2 ((first|refine ty ?_|refine tn ?_);try simp only[pl]))
   refine xq ?_;refine xI 2 (by kernel_rfl) rfl (fun K hK=>?_);go_simp;refine(LP.out W4.drew HF.out.keep.AF).mono ?_;rintro e W5 ⟨⟨vb,rfl,Cd⟩,kZ⟩;have Um:Below W4.heap.size W4 W5:=(zv _ W4).drew.trans kZ;have AB:=HF.out.below Um;have q5:W5.cell? ⟨B,0,none⟩=some (.slice P5 (s1).2.length P6):=(Um.cell (z8 _ _ q2)).trans q2;have q6:=Rw.out.VG Um;have z5:=AB.fz;have HI5:=z7 AB;have HFB:=z7 Cd;clear AB Cd;refine hK.out _ _ q5 (fun _=>?_);clear hK K;refine xI 3 (by kernel_rfl) rfl (fun K hK=>?_);rw[if_pos (by rfl)];refine Qt _ _ rfl (B+3) _ _ vb (s1).2 (Qs cl [] [] bs) rfl q6 rfl HFB.out ?w8X1 ?w8X2 ?w8X3
   case w8X1 =>
    have:=YX cl bs [] [];have:=HF.out.few;simp only[zg] at *;omega
   case w8X2=>have h:=z8 _ _ HF.out.kc;have:=Um.size;dsimp only at h;omega
   case w8X3 =>
    intro v6 W6 ZU P7;have HF6:=z7 ZU;have xV:∀ k,(zj P5 (s1).2.length P6).ownBlock=some k->B+3<=k:=fun k hk=>(Rw.out.lt k hk).1
    have vx:∀ k,k<B+3->(some k:Option Nat)≠(zj P5 (s1).2.length P6).ownBlock:=fun k h1 h2=>by have:=xV k h2.symm;omega
    have q7:=P7.cell q5 (vx B (by omega));have q8:W6.frozen? ⟨B,0,none⟩=false:=(zu (a:=⟨B,0,none⟩) (P7.block B (z8 _ _ q5) (vx B (by omega)))).trans z5;have AE:=Ul (room':=room) HI5.out P7 xV ZU (by have:=YX cl bs [] [];simp only[zg] at this;omega);obtain⟨fa6,fc6,rfl⟩:=xZ ZU;refine hK.out _ _ q7 (fun _=>?_);clear hK K;refine xw 4 (by kernel_rfl) (by kernel_rfl) rfl (fun K hK=>?_);go_simp;refine hK.out _ _ ?_;clear hK K;refine vz (by kernel_rfl) ?_ _;rw[zk] at AE;have HI6:=z7 AE;clear AE;go_wp2;go_ret;have Nz:bM s (.br n a fo of cl bs r) = .go true (s1.1,s1.2++Qs cl [] [] bs):=by
     show Out.go true ((uY s n a (jO (.br n a fo of cl bs r))).1,(uY s n a (jO (.br n a fo of cl bs r))).2++Qs cl [] [] bs)=_;rw[Mo.out,jF.out]
    rw[Nz];exact⟨rfl,HI6.out⟩
  | true =>
   by_cases gq:kk=kv
   ·have j2:((kk:Int) !=(kv:Int))=false:=by simp[gq]
    have j3:(kk !=kv)=false:=by simp[gq]
    have GV:=z7 gq;clear gq;obtain⟨W4,WC,KX,j7⟩:=He.out.put ff n (by omega) (kv:Int) kv rfl (by omega) (by omega);have jF:=z7 (show uY s n a kv=(fun y=>if n=y then some kv else s.1 y,s.2) by unfold uY;rw[if_neg (fun e=>e.2.2 (by rw[mF.out];exact GV.out)),if_pos Oo.out]);have HF:=z7 (JK Qi.out KX j7 (room':=(room+1+bs.len)) Dn (by omega));clear KX j7;obtain⟨s1,uF⟩:∃ s1:KL,((fun y=>if n=y then some kv else s.1 y,s.2):KL)=s1:=⟨_,rfl⟩;rw[uF] at jF HF;clear uF;go_wp2_with fail;have q1:=HF.out.row;obtain⟨v1,q2,q3⟩:=q1;obtain⟨P5,P6,rfl⟩:=xZ q3;have LP:=z7 (fun W' hk=>YY b0 n a fo of cl bs W' hk MS.out zx2.out);have Rw:=z7 q3;refine rk (fun W':World=>W'.cell? ⟨B,0,none⟩=some (.slice P5 (s1).2.length P6)) 4 [0,1] 3 q2 ?_;(iterate 2 ((first|refine ty ?_|refine tn ?_);try simp only[pl]))
    refine xq ?_;refine xI 2 (by kernel_rfl) rfl (fun K hK=>?_);go_simp;refine(LP.out W4.drew HF.out.keep.AF).mono ?_;rintro e W5 ⟨⟨vb,rfl,Cd⟩,kZ⟩;have Um:Below W4.heap.size W4 W5:=(zv _ W4).drew.trans kZ;have AB:=HF.out.below Um;have q5:W5.cell? ⟨B,0,none⟩=some (.slice P5 (s1).2.length P6):=(Um.cell (z8 _ _ q2)).trans q2;have q6:=Rw.out.VG Um;have z5:=AB.fz;have HI5:=z7 AB;have HFB:=z7 Cd;clear AB Cd;refine hK.out _ _ q5 (fun _=>?_);clear hK K;refine xI 3 (by kernel_rfl) rfl (fun K hK=>?_);rw[if_pos (by rfl)];refine Qt _ _ rfl (B+3) _ _ vb (s1).2 (Qs cl [] [] bs) rfl q6 rfl HFB.out ?w9X1 ?w9X2 ?w9X3
    case w9X1 =>
     have:=YX cl bs [] [];have:=HF.out.few;simp only[zg] at *;omega
    case w9X2=>have h:=z8 _ _ HF.out.kc;have:=Um.size;dsimp only at h;omega
    case w9X3 =>
     intro v6 W6 ZU P7;have HF6:=z7 ZU;have xV:∀ k,(zj P5 (s1).2.length P6).ownBlock=some k->B+3<=k:=fun k hk=>(Rw.out.lt k hk).1
     have vx:∀ k,k<B+3->(some k:Option Nat)≠(zj P5 (s1).2.length P6).ownBlock:=fun k h1 h2=>by have:=xV k h2.symm;omega
     have q7:=P7.cell q5 (vx B (by omega));have q8:W6.frozen? ⟨B,0,none⟩=false:=(zu (a:=⟨B,0,none⟩) (P7.block B (z8 _ _ q5) (vx B (by omega)))).trans z5;have AE:=Ul (room':=room) HI5.out P7 xV ZU (by have:=YX cl bs [] [];simp only[zg] at this;omega);obtain⟨fa6,fc6,rfl⟩:=xZ ZU;refine hK.out _ _ q7 (fun _=>?_);clear hK K;refine xw 4 (by kernel_rfl) (by kernel_rfl) rfl (fun K hK=>?_);go_simp;refine hK.out _ _ ?_;clear hK K;refine vz (by kernel_rfl) ?_ _;rw[zk] at AE;have HI6:=z7 AE;clear AE;go_wp2;go_ret;have Nz:bM s (.br n a fo of cl bs r) = .go true (s1.1,s1.2++Qs cl [] [] bs):=by
      show Out.go true ((uY s n a (jO (.br n a fo of cl bs r))).1,(uY s n a (jO (.br n a fo of cl bs r))).2++Qs cl [] [] bs)=_;rw[Mo.out,jF.out]
     rw[Nz];exact⟨rfl,HI6.out⟩
   ·have j2:((kk:Int) !=(kv:Int))=true:=by simp;omega
    have j3:(kk !=kv)=true:=by simp[gq]
    have GV:=z7 gq;clear gq;go_wp2_with (at_builtin;refine jB ?_);intro W3 j6;have qz:Below W2.heap.size W2 W3:=by rw[j6];exact(zv _ _).alloc (zy _) _
    have QV:=fun i=>xu W2 #[.int .i64 5,.int .i64 (a:Nat)] 105 (0,0) i
    rw[←j6] at QV;have Wt:=z7 (Qi.out.below qz);have q3:=(qz.cell (z8 _ _ hfc)).trans hfc;have nK:=z7 (Kh.out.VG qz);have Jh:=qz.size;clear j6;refine qd kY rfl _ _ rfl (B+3) _ s.2.length (qt s.2) rfl nK.out ⟨W2.heap.size,0,none⟩ 1 1 [.int .i64 5,.int .i64 (a:Nat)] rfl rfl ?w10V1 ?w10V2 (by omega) (by omega) ?w10V3
    case w10V1=>exact Xs (QV 0) (QV 1)
    case w10V2 =>
     intro u hu;simp at hu;rcases hu with rfl|rfl<;>rfl
    intro v4 w4 Uu j7;have Vg:vp (B+3) w4 v4 (s.2++[(5,a)]):=by unfold vp;rw[bL,zk];exact Uu
    have xV:∀ k,(zj fa s.2.length fc).ownBlock=some k->B+3<=k:=fun k hk=>(Kh.out.lt k hk).1
    have vx:∀ k,k<B+3->(some k:Option Nat)≠(zj fa s.2.length fc).ownBlock:=fun k h1 h2=>by have:=xV k h2.symm;omega
    have q4:=j7.cell q3 (vx B (by omega));have z4:w4.frozen? ⟨B,0,none⟩=false:=(World.frozen?_of_block (a:=⟨B,0,none⟩) (j7.block B (World.block_lt_of_cell? _ _ q3) (vx B (by omega)))).trans Wt.out.fz;have jF:=Lib.hid (show uY s n a kv=(s.1,s.2++[(5,a)]) by unfold uY;rw[if_pos ⟨Oo.out,rr.out,fun e=>GV.out (mF.out.symm.trans e)⟩]);have HF:=Lib.hid (Ul (l:=[(5,a)]) (room':=(room+1+bs.len)) Wt.out j7 xV Vg (by simp<;>omega));obtain⟨fa4,fc4,rfl⟩:=xZ Vg;obtain⟨W4,FC⟩:∃ W4,w4.setCell ⟨B,0,none⟩ (.slice fa4 (s.2.length+1) fc4)=W4:=⟨_,rfl⟩;have I7:(s.2++[(5,a)]).length=s.2.length+1:=by simp
    rw[I7,FC] at HF;have HW4:=z7 FC;clear Uu j7 xV Vg vx q3 nK I7;obtain⟨s1,uF⟩:∃ s1:KL,((s.1,s.2++[(5,a)]):KL)=s1:=⟨_,rfl⟩;rw[uF] at jF HF;clear uF;go_wp2_with fail;clear FC;have q1:=HF.out.row;obtain⟨v1,q2,q3⟩:=q1;obtain⟨P5,P6,rfl⟩:=xZ q3;have LP:=z7 (fun W' hk=>YY b0 n a fo of cl bs W' hk MS.out zx2.out);have Rw:=z7 q3;refine rk (fun W':World=>W'.cell? ⟨B,0,none⟩=some (.slice P5 (s1).2.length P6)) 4 [0,1] 3 q2 ?_;(iterate 2 ((first|refine ty ?_|refine tn ?_);try simp only[pl]))
    refine xq ?_;refine xI 2 (by kernel_rfl) rfl (fun K hK=>?_);go_simp;refine(LP.out W4.drew HF.out.keep.AF).mono ?_;rintro e W5 ⟨⟨vb,rfl,Cd⟩,kZ⟩;have Um:Below W4.heap.size W4 W5:=(zv _ W4).drew.trans kZ;have AB:=HF.out.below Um;have q5:W5.cell? ⟨B,0,none⟩=some (.slice P5 (s1).2.length P6):=(Um.cell (z8 _ _ q2)).trans q2;have q6:=Rw.out.VG Um;have z5:=AB.fz;have HI5:=z7 AB;have HFB:=z7 Cd;clear AB Cd;refine hK.out _ _ q5 (fun _=>?_);clear hK K;refine xI 3 (by kernel_rfl) rfl (fun K hK=>?_);rw[if_pos (by rfl)];refine Qt _ _ rfl (B+3) _ _ vb (s1).2 (Qs cl [] [] bs) rfl q6 rfl HFB.out ?w10X1 ?w10X2 ?w10X3
    case w10X1 =>
     have:=YX cl bs [] [];have:=HF.out.few;simp only[zg] at *;omega
    case w10X2=>have h:=z8 _ _ HF.out.kc;have:=Um.size;dsimp only at h;omega
    case w10X3 =>
     intro v6 W6 ZU P7;have HF6:=z7 ZU;have xV:∀ k,(zj P5 (s1).2.length P6).ownBlock=some k->B+3<=k:=fun k hk=>(Rw.out.lt k hk).1
     have vx:∀ k,k<B+3->(some k:Option Nat)≠(zj P5 (s1).2.length P6).ownBlock:=fun k h1 h2=>by have:=xV k h2.symm;omega
     have q7:=P7.cell q5 (vx B (by omega));have q8:W6.frozen? ⟨B,0,none⟩=false:=(zu (a:=⟨B,0,none⟩) (P7.block B (z8 _ _ q5) (vx B (by omega)))).trans z5;have AE:=Ul (room':=room) HI5.out P7 xV ZU (by have:=YX cl bs [] [];simp only[zg] at this;omega);obtain⟨fa6,fc6,rfl⟩:=xZ ZU;refine hK.out _ _ q7 (fun _=>?_);clear hK K;refine xw 4 (by kernel_rfl) (by kernel_rfl) rfl (fun K hK=>?_);go_simp;refine hK.out _ _ ?_;clear hK K;refine vz (by kernel_rfl) ?_ _;rw[zk] at AE;have HI6:=z7 AE;clear AE;go_wp2;go_ret;have Nz:bM s (.br n a fo of cl bs r) = .go true (s1.1,s1.2++Qs cl [] [] bs):=by
      show Out.go true ((uY s n a (jO (.br n a fo of cl bs r))).1,(uY s n a (jO (.br n a fo of cl bs r))).2++Qs cl [] [] bs)=_;rw[Mo.out,jF.out]
     rw[Nz];exact⟨rfl,HI6.out⟩
def Kw(m:Nat×Nat)(l:List (Nat×Nat)):Nat×Nat:=l.foldl (fun m x=>if x.2<m.2 then x else m) m
abbrev Ny(x:Nat×Nat):Value := .agg #[.int .i64 (x.1:Nat),.int .i64 (x.2:Nat)]
theorem Nx(x y:Nat×Nat)(w:World):Calls prog 118 #[Ny x,Ny y] w fun e w'=>e = .returned (.int .i64 (zV (x.2:Nat) (y.2:Nat)))/\Below w.heap.size w w':=by
 have HC:=z7 (fun W=>Tryz.cmp_Compare_int (x.2:Nat) (y.2:Nat) W);go_enter func118,ntmps118;go_wp2_with fail;refine(HC.out _).mono ?_;rintro e w' ⟨rfl,rfl⟩;go_wp2;go_ret;exact⟨rfl,((zv _ _).alloc (zy _) _).alloc (by simp) _⟩
theorem GU(l:List (Nat×Nat))(i:Nat)(h:i<l.length):(qt l)[i*2]? = some (.int .i64 (l[i].1:Nat))/\(qt l)[i*2+1]? = some (.int .i64 (l[i].2:Nat)):=by
 induction l generalizing i with
 | nil=>simp at h
 | cons a t ih =>
  cases i with
  | zero=>exact⟨rfl,rfl⟩
  | succ i =>
   have:=ih i (by simpa using h);have e1:(i+1)*2=i*2+2:=by omega
   have e2:qt (a::t) = .int .i64 (a.1:Nat) :: .int .i64 (a.2:Nat)::qt t:=rfl;rw[e1,e2];simpa using this
theorem S0(m:Nat×Nat)(l:List (Nat×Nat))(i:Nat)(h:i<l.length):Kw m (l.take (i+1))=if l[i].2<(Kw m (l.take i)).2 then l[i] else Kw m (l.take i):=by
 unfold Kw;rw[zJ h,List.foldl_append];rfl
theorem I8(x:Nat×Nat)(l:List (Nat×Nat))(base:Nat)(v:Value)(w:World)(hl:l.length<=2000000000)(hF:vp base w v (x::l)) :
  Calls prog 117 #[v,.func (.func 118) #[] #[]] w fun e w'=>e = .returned (Ny (Kw x l))/\Below w.heap.size w w':=by
 obtain⟨g,cap,rfl,Y9,dV,vX⟩:=vU hF (by simp);obtain⟨n,hn⟩:∃ n,(x::l).length=n:=⟨_,rfl⟩;have Bc:=fun (args:Array Value) (w:World)=>enters_of func118 (by kernel_rfl) rfl args w
 have AH:=z7 (fun i (h:i<(x::l).length)=>And.intro ((vX (i*2) (by omega)).trans (GU (x::l) i h).1) ((vX (i*2+1) (by omega)).trans (GU (x::l) i h).2));have gP:=(AH.out 0 (by simp)).1;have qY:=(AH.out 0 (by simp)).2;simp only[Nat.zero_mul,Nat.zero_add,List.getElem_cons_zero] at gP qY;obtain⟨x1,x2⟩:=x;have Zz:n=l.length+1:=by rw[←hn];simp
 have j1:decide ((n:Int)<1)=false:=by simp;omega
 have HN:=z7 hn;rw[hn];have HN1:=z7 Zz;have hz:1<=n:=by omega
 have QQ:n<=2000000001:=by omega
 have hgw:g<w.heap.size:=dV;clear hF vX hn Zz;have jg:Below w.heap.size w ((w.alloc (.cells #[.int .i64 0,.int .i64 0] 105)).alloc (.cells #[.int .i64 x1,.int .i64 x2] 105)):=((zv _ _).alloc (zy _) _).alloc (by simp) _;have Dj:=fun i=>xu (w.alloc (.cells #[.int .i64 0,.int .i64 0] 105)) #[.int .i64 x1,.int .i64 x2] 105 (0,0) i
 have vu:∀ i,((w.alloc (.cells #[.int .i64 0,.int .i64 0] 105)).alloc (.cells #[.int .i64 x1,.int .i64 x2] 105)).cell? ⟨w.heap.size,i,none⟩=(#[.int .i64 0,.int .i64 0]:Array Value)[i]? := fun i=>by
  rw[zZ _ _ _ (by show w.heap.size<_;simp)];exact xu w _ _ _ _
 rw[show(w.alloc (.cells #[.int .i64 0,.int .i64 0] 105)).heap.size=w.heap.size+1 by simp] at Dj;have zx4:∀ i,((w.alloc (.cells #[.int .i64 0,.int .i64 0] 105)).alloc (.cells #[.int .i64 x1,.int .i64 x2] 105)).frozen? ⟨w.heap.size+1,i,none⟩=false:=fun i=>by
  rw[show w.heap.size+1=(w.alloc (.cells #[.int .i64 0,.int .i64 0] 105)).heap.size by simp];simp
 have zx5:∀ i,((w.alloc (.cells #[.int .i64 0,.int .i64 0] 105)).alloc (.cells #[.int .i64 x1,.int .i64 x2] 105)).frozen? ⟨w.heap.size,i,none⟩=false:=fun i=>by
  rw[zu (zL _ _ _ (by show w.heap.size<_;simp))];simp
 obtain⟨W0,Ej⟩:∃ W0,(w.alloc (.cells #[.int .i64 0,.int .i64 0] 105)).alloc (.cells #[.int .i64 x1,.int .i64 x2] 105)=W0:=⟨_,rfl⟩;rw[Ej] at jg Dj vu zx5 zx4;have HB0:=z7 jg;have HW0:=z7 Ej;have HM0:=z7 Dj;have gj:=z7 vu;have HF0:=z7 zx5;have Uz:=z7 zx4;clear jg Dj vu zx5 zx4 Ej;go_enter func117,ntmps117;go_wp2_with fail;clear gP qY;go_loopw [6] (fun iv wr=>∃ (i:Nat) (m:Nat×Nat),iv = .int .i64 (i:Nat)/\1<=i/\i<=n/\Kw (x1,x2) (l.take (i - 1))=m/\wr.cell? ⟨w.heap.size+1,0,none⟩=some (.int .i64 (m.1:Nat))/\wr.cell? ⟨w.heap.size+1,1,none⟩=some (.int .i64 (m.2:Nat))/\(∀ i,wr.frozen? ⟨w.heap.size+1,i,none⟩=false) /\
  (∃ u v,wr.cell? ⟨w.heap.size,0,none⟩=some u/\wr.cell? ⟨w.heap.size,1,none⟩=some v)/\(∀ i,wr.frozen? ⟨w.heap.size,i,none⟩=false)/\Below w.heap.size w wr) (fun iv _=>n - (intOf iv).toNat)
 case atStart =>
  rw[HW0.out];exact⟨1,(x1,x2),rfl,zy _,hz,rfl,HM0.out 0,HM0.out 1,Uz.out,⟨_,_,gj.out 0,gj.out 1⟩,HF0.out,HB0.out⟩
 case round =>
  obtain⟨i,m,rfl,U8,dI,hm,gP,qY,UL,⟨u0,v0,vu,V2⟩,Gf,qG⟩:=hrel;obtain⟨m1,m2⟩:=m;dsimp only at gP qY;have HM:=z7 hm;have HZ1:=z7 UL;have HZ0:=z7 Gf;have US:=z7 qG;clear hm qG;by_cases xC:i<n
  ·have k2:decide ((i:Int)<(n:Int))=true:=by simp;omega
   have hlen:i<((x1,x2)::l).length:=by rw[HN.out];exact xC
   obtain⟨d0,d1⟩:=AH.out i hlen;have hli:((x1,x2)::l)[i]=l[i - 1]'(by have:=HN1.out;omega):=by
    obtain⟨k,rfl⟩:∃ k,i=k+1:=⟨i - 1,by omega⟩;simp
   rw[hli] at d0 d1;obtain⟨y,hy⟩:∃ y,l[i - 1]'(by have:=HN1.out;omega)=y:=⟨_,rfl⟩;rw[hy] at d0 d1;have qs:=z7 (show Kw (x1,x2) (l.take i)=if y.2<m2 then y else (m1,m2) by
    have h:=S0 (x1,x2) l (i - 1) (by have:=HN1.out;omega);rw[show i - 1+1=i by omega,HM.out,hy] at h;exact h)
   obtain⟨y1,y2⟩:=y;dsimp only at d0 d1 qs;have e0:=(US.out.cell (p:=⟨g,i*2,none⟩) hgw).trans d0;have e1:=(US.out.cell (p:=⟨g,i*2+1,none⟩) hgw).trans d1;have hCM:=z7 (fun W=>Nx (y1,y2) (m1,m2) W);have kO:wr.drew.cell? ⟨g,i*2,none⟩=some (.int .i64 (y1:Nat))/\wr.drew.cell? ⟨g,i*2+1,none⟩=some (.int .i64 (y2:Nat))/\wr.drew.cell? ⟨w.heap.size+1,0,none⟩=some (.int .i64 (m1:Nat))/\wr.drew.cell? ⟨w.heap.size+1,1,none⟩=some (.int .i64 (m2:Nat)):=⟨e0,e1,gP,qY⟩;clear d0 d1 hy hli hlen;go_wp2_with fail;refine rt (fun W':World=>W'.cell? ⟨g,i*2,none⟩=some (.int .i64 (y1:Nat))/\W'.cell? ⟨g,i*2+1,none⟩=some (.int .i64 (y2:Nat))/\W'.cell? ⟨w.heap.size+1,0,none⟩=some (.int .i64 (m1:Nat))/\W'.cell? ⟨w.heap.size+1,1,none⟩=some (.int .i64 (m2:Nat))) [0,1,2,3,4,5] 2 kO ?_;(iterate 6 ((first|refine ty ?_|refine tn ?_);try simp only[pl]))
   refine xq ?_;refine xg 6 (by kernel_rfl) rfl (fun K hK=>?_);go_simp;refine(hCM.out wr.drew).mono ?_;rintro e w2 ⟨rfl,xD⟩;have Vx:Below wr.heap.size wr w2:=(zv _ wr).drew.trans xD;have Eg:w.heap.size+1<wr.heap.size:=z8 _ _ gP;have Z0:(y2<m2/\zV (y2:Int) (m2:Int) = -1)\/(¬y2<m2/\zV (y2:Int) (m2:Int)=0)\/(¬y2<m2/\zV (y2:Int) (m2:Int)=1):=by
    unfold zV;by_cases h:(y2:Int)<(m2:Int)
    ·exact .inl ⟨by omega,if_pos h⟩
    ·by_cases h2:(y2:Int) > (m2:Int)
     ·exact .inr (.inr ⟨by omega,by rw[if_neg h,if_pos h2]⟩)
     ·exact .inr (.inl ⟨by omega,by rw[if_neg h,if_neg h2]⟩)
   dsimp only;have f0:=(Vx.cell (p:=⟨w.heap.size+1,0,none⟩) Eg).trans gP;have f1:=(Vx.cell (p:=⟨w.heap.size+1,1,none⟩) Eg).trans qY;have f2:=(Vx.cell (p:=⟨g,i*2,none⟩) (by show g<_;omega)).trans e0;have f3:=(Vx.cell (p:=⟨g,i*2+1,none⟩) (by show g<_;omega)).trans e1;have g0:=(Vx.cell (p:=⟨w.heap.size,0,none⟩) (by show w.heap.size<_;omega)).trans vu;have g1:=(Vx.cell (p:=⟨w.heap.size,1,none⟩) (by show w.heap.size<_;omega)).trans V2;have z1:∀ i,w2.frozen? ⟨w.heap.size+1,i,none⟩=false:=fun i=>(Vx.frozen (p:=⟨w.heap.size+1,i,none⟩) Eg).trans (HZ1.out i)
   have z0:∀ i,w2.frozen? ⟨w.heap.size,i,none⟩=false:=fun i=>(Vx.frozen (p:=⟨w.heap.size,i,none⟩) (by show w.heap.size<_;omega)).trans (HZ0.out i)
   have V7:=US.out.trans (Vx.mono (by omega));have zx6:=z7 z1;have zx7:=z7 z0;have y0:=z1 0;have y1':=z1 1;clear z1 z0 kO e0 e1 gP qY vu V2 Vx;rcases Z0 with⟨hy,Z0⟩|⟨hy,Z0⟩|⟨hy,Z0⟩
   ·rw[Z0];have HS:=z7 (qs.out.trans (if_pos hy));clear Z0 hy;refine hK.out _ _ ⟨f2,f3,f0,f1⟩ (fun _=>?_);clear hK K;refine xG [7] 0 rfl (by intro _ _ d _ _ h;cases d<;>exact h) (by kernel_rfl) (by kernel_rfl) ⟨f2,f3,f0,f1⟩ ?_;(iterate 1 ((first|refine ty ?_|refine tn ?_);try simp only[pl]))
    refine xq ?_;refine wpAnyH_done (by kernel_rfl) ?_ _;go_wp2;go_roundw
    case rel =>
     exact⟨i+1,(y1,y2),by simp,by omega,by omega,by rw[zQ];exact HS.out,by rw[xf,if_neg (by simp),xf,if_pos rfl,f0];rfl,by rw[xf,if_pos rfl,xf,if_neg (by simp),f1];rfl,
      fun j=>by rw[zf,zf];exact zx6.out j,⟨_,_,(by rw[xf,if_neg (by simp),xf,if_neg (by simp)];exact g0),(by rw[xf,if_neg (by simp),xf,if_neg (by simp)];exact g1)⟩,
      fun j=>by rw[zf,zf];exact zx7.out j,vW (vW V7 (by omega)) (by omega)⟩
    case measure=>simp only[intOf];omega
   ·rw[Z0];have HS:=z7 (qs.out.trans (if_neg hy));clear Z0 hy;refine hK.out _ _ ⟨f2,f3,f0,f1⟩ (fun _=>?_);clear hK K;refine xG [7] 0 rfl (by intro _ _ d _ _ h;cases d<;>exact h) (by kernel_rfl) (by kernel_rfl) ⟨f2,f3,f0,f1⟩ ?_;(iterate 1 ((first|refine ty ?_|refine tn ?_);try simp only[pl]))
    refine xq ?_;refine wpAnyH_done (by kernel_rfl) ?_ _;go_wp2;go_roundw
    case rel =>
     exact⟨i+1,(m1,m2),by simp,by omega,by omega,by rw[zQ];exact HS.out,f0,f1,zx6.out,⟨_,_,g0,g1⟩,zx7.out,V7⟩
    case measure=>simp only[intOf];omega
   ·rw[Z0];have HS:=z7 (qs.out.trans (if_neg hy));clear Z0 hy;refine hK.out _ _ ⟨f2,f3,f0,f1⟩ (fun _=>?_);clear hK K;refine xG [7] 0 rfl (by intro _ _ d _ _ h;cases d<;>exact h) (by kernel_rfl) (by kernel_rfl) ⟨f2,f3,f0,f1⟩ ?_;(iterate 1 ((first|refine ty ?_|refine tn ?_);try simp only[pl]))
    refine xq ?_;refine wpAnyH_done (by kernel_rfl) ?_ _;go_wp2;go_roundw
    case rel =>
     exact⟨i+1,(m1,m2),by simp,by omega,by omega,by rw[zQ];exact HS.out,f0,f1,zx6.out,⟨_,_,g0,g1⟩,zx7.out,V7⟩
    case measure=>simp only[intOf];omega
  ·have k2:decide ((i:Int)<(n:Int))=false:=by simp;omega
   have vS:Kw (x1,x2) l=(m1,m2):=by
    rw[←HM.out,List.take_of_length_le (by have:=HN1.out;omega)]
   have kI:=z7 vS;have z00:=Gf 0;have z01:=Gf 1;clear vS Gf UL;have k0:((wr.setCell ⟨w.heap.size,0,none⟩ (.int .i64 (m1:Nat))).setCell ⟨w.heap.size,1,none⟩ (.int .i64 (m2:Nat))).cell? ⟨w.heap.size,0,none⟩=some (.int .i64 (m1:Nat)):=by rw[xf,if_neg (by simp),xf,if_pos rfl,vu];rfl
   have k1:((wr.setCell ⟨w.heap.size,0,none⟩ (.int .i64 (m1:Nat))).setCell ⟨w.heap.size,1,none⟩ (.int .i64 (m2:Nat))).cell? ⟨w.heap.size,1,none⟩=some (.int .i64 (m2:Nat)):=by rw[xf,if_pos rfl,xf,if_neg (by simp),V2];rfl
   go_wp2;refine bodyPost_ret (v := .agg #[.int .i64 (m1:Nat),.int .i64 (m2:Nat)]) ?_ rfl ?_
   ·simp[results,results117,go_sem,k0,k1]
   rw[kI.out];exact⟨rfl,vW (vW US.out (zy _)) (zy _)⟩
theorem Nv(s:KL)(x:Fo):∃ s',bM s x = .go true s':=by
 cases x<;>exact⟨_,rfl⟩
theorem kX:∀ (f:Fo) (s:KL),∃ s',ve bM f s = .go true s'
 | .nil,s=>⟨s,rfl⟩
 | .text _ r,s=>kX r s
 | .hash r,s=>kX r s
 | .put n a r,s=>by
  obtain⟨s1,h1⟩:=Nv s (.put n a .nil);rw[ve,h1];exact kX r s1
 | .num n a r,s=>by
  obtain⟨s1,h1⟩:=Nv s (.num n a .nil);rw[ve,h1];exact kX r s1
 | .br n a f o c bs r,s=>by
  obtain⟨s1,h1⟩:=Nv s (.br n a f o c bs .nil);obtain⟨s2,h2⟩:=kX bs s1;rw[ve,h1];show ∃ s',(ve bM bs s1).then _=_;rw[h2];exact kX r s2
 | .ug k a m r,s=>by
  obtain⟨s1,h1⟩:=kX m s;rw[ve,h1];exact kX r s1
def dR(f:Fo):List (Nat×Nat):=match ve bM f (fun _=>none,[]) with | .go _ s=>s.2 | .TC _ s=>s.2
def XZ(f:Fo):Option (Nat×Nat):=match dR f with | []=>none|x::l=>some (Kw x l)
def yky(r:Option (Nat×Nat))(w:World)(e:Ending)(w':World):Prop :=
 (match r with
  | none=>e = .returned .nilIface
  | some (n,a)=>∃ b,e = .returned (.iface 101 (.pointer (some ⟨b,0,none⟩)))/\w'.cell? ⟨b,0,none⟩=some (.int .i64 n)/\w'.cell? ⟨b,1,none⟩=some (.int .i64 a))/\Below w.heap.size w w'
theorem S1{lo hi:Nat}(f:Fo)(a:Option Addr)(c:Nat)(vs:List Value)(w:World)(hm:f.vD=true)(hw:f.wf 2000000=true)(hl:f.len<=2000000)(hc:f.cnt<=1000000000)(vE:VH lo hi w a vs)(kD:xY lo hi w vs f)(Yj:hi<=w.heap.size) :
  Calls prog 79 #[.slice a f.len c] w (yky (XZ f) w):=by
 have LI:=@run_makeMap prog;have R0:∀ (fn:Fn) (first cap:Array Value) (w:World),(zO fn first cap).run prog w = .ok (.func fn first cap) w:=fun _ _ _ _=>rfl
 obtain⟨B,hB⟩:∃ B,w.heap.size=B:=⟨_,rfl⟩;have HB:=z7 hB;have hY:MB lo hi w (.func (.func 114) #[] #[.pointer (some ⟨B+2,0,none⟩),.pointer (some ⟨B,0,none⟩)]) (Xb lo hi w B w) bM :=
  ⟨⟨_,_,rfl,fun args w=>enters_of func114 (by kernel_rfl) rfl args w,fun s room W x u n a hI Xq Gq hh=>nJ x u n a s room W hI Xq Gq hh⟩,fun s b W h=>h.keep,fun s b W W' h hb=>h.below hb,fun s b b' W h hb=>h.less hb⟩
 have HE:=z7 (fun W hI=>Hd hY (SizeOf.sizeOf f+1) f (Nat.lt_succ_self _) hm hw hl ((fun _=>none),[]) 0 W a c vs hI vE kD);obtain⟨s,hs⟩:=kX f ((fun _=>none),[]);rw[hs] at HE;have TB:dR f=s.2:=by unfold dR;rw[hs]
 have Wq:=z7 (show XZ f=match s.2 with | []=>none|x::l=>some (Kw x l) by unfold XZ;rw[TB]);have b8:∀ o1 o2 o3,((w.alloc o1).alloc o2).alloc o3=((w.alloc o1).alloc o2).alloc o3:=fun _ _ _=>rfl
 have hI0:Xb lo hi w B w ((fun _=>none),[]) (0+f.cnt) (((w.alloc (.cells #[.slice none 0 0] 253)).alloc (.map #[] 0)).alloc (.cells #[.map (some (B+1))] 254)):=by
  have h1:(w.alloc (.cells #[.slice none 0 0] 253)).heap.size=B+1:=by simp[hB]
  have h2:((w.alloc (.cells #[.slice none 0 0] 253)).alloc (.map #[] 0)).heap.size=B+2:=by simp[hB]
  have b1:Below w.heap.size w (w.alloc (.cells #[.slice none 0 0] 253)):=(zv _ _).alloc (zy _) _;have b2:=fun o=>(zv (w.alloc (.cells #[.slice none 0 0] 253)).heap.size (w.alloc (.cells #[.slice none 0 0] 253))).alloc (zy _) o
  have b3:=fun o=>(zv ((w.alloc (.cells #[.slice none 0 0] 253)).alloc (.map #[] 0)).heap.size ((w.alloc (.cells #[.slice none 0 0] 253)).alloc (.map #[] 0))).alloc (zy _) o
  have bb:=(b1.trans ((b2 (.map #[] 0)).mono (by omega))).trans ((b3 (.cells #[.map (some (B+1))] 254)).mono (by omega));have c1:=xu w #[.slice none 0 0] 253 (0,0) 0;rw[hB] at c1;have UL:(w.alloc (.cells #[.slice none 0 0] 253)).frozen? ⟨B,0,none⟩=false:=by rw[←hB];simp
  have c2:=kP.made 255 (w.alloc (.cells #[.slice none 0 0] 253));rw[h1] at c2;have c3:=xu ((w.alloc (.cells #[.slice none 0 0] 253)).alloc (.map #[] 0)) #[.map (some (B+1))] 254 (0,0) 0;rw[h2] at c3;refine⟨(vy (by omega)).below bb,by omega,⟨0,c2.below (b3 _),by omega⟩,⟨.slice none 0 0,?_,zE _ _ _ _⟩,c3,?_,by simp;omega,by have h:=bb;rw[hB] at h;exact h⟩
  ·rw[(b3 _).cell (p:=⟨B,0,none⟩) (by show B<_;omega),(b2 _).cell (p:=⟨B,0,none⟩) (by show B<_;omega)];exact c1
  ·rw[(b3 _).frozen (p:=⟨B,0,none⟩) (by show B<_;omega),(b2 _).frozen (p:=⟨B,0,none⟩) (by show B<_;omega)];exact UL
 have HI0:=z7 hI0;clear hI0 hs TB hY b8 vE kD;go_enter func79,ntmps79;go_wp2_with fail;refine(HE.out _ HI0.out).mono ?_;rintro e w2 ⟨rfl,hI2⟩;obtain⟨v,hc,hF⟩:=hI2.row;obtain⟨fa,fc,rfl⟩:=xZ hF;have HF:=z7 hF;have C8:Below w.heap.size w w2:=by rw[HB.out];exact hI2.bel
 have AD:=hI2.few;clear hI2 hF HE HI0;obtain⟨s1,l⟩:=s;dsimp only at *
 cases l with
 | nil =>
  have HX:=z7 (show XZ f=none from Wq.out);go_wp2;go_ret;rw[HX.out];exact⟨rfl,C8⟩
 | cons x l =>
  have HX:=Lib.hid (show XZ f=some (Kw x l) from Wq.out);have hlen:(x::l).length=l.length+1:=rfl;rw[hlen] at hc;have j1:(((l.length+1:Nat):Int)==0)=false:=by simp;omega
  have HMI:=z7 (I8 x l (B+3) (.slice fa (l.length+1) fc) w2 (by simp at AD;omega) HF.out);clear hlen AD;go_wp2_with fail;refine HMI.out.mono ?_;rintro e w3 ⟨rfl,uD⟩;obtain⟨m,Dj⟩:∃ m,Kw x l=m:=⟨_,rfl⟩;obtain⟨m1,m2⟩:=m;rw[Dj] at HX ⊢;clear Dj;have rh:=C8.trans (uD.mono C8.size);have qz:=(zv w3.heap.size w3).alloc (zy _) (.cells #[.int .i64 m1,.int .i64 m2] 105);have jG:=fun i=>xu w3 #[.int .i64 m1,.int .i64 m2] 105 (0,0) i
  go_wp2;go_ret;rw[HX.out];exact⟨⟨_,rfl,jG 0,jG 1⟩,rh.trans (qz.mono rh.size)⟩
theorem Fo.YU{N:Nat}:∀ f g:Fo,f.wf N=true->g.wf N=true->(f.app g).wf N=true
 | .nil,g,_,h=>h
 | .text t r,g,h,h2=>Fo.YU r g h h2
 | .hash r,g,h,h2=>Fo.YU r g h h2
 | .put n a r,g,h,h2=>by
  simp only[Fo.wf,Fo.app,zx] at h ⊢;exact⟨h.1,Fo.YU r g h.2 h2⟩
 | .num n a r,g,h,h2=>by
  simp only[Fo.wf,Fo.app,zx] at h ⊢;exact⟨h.1,Fo.YU r g h.2 h2⟩
 | .br n a f o c b r,g,h,h2=>by
  simp only[Fo.wf,Fo.app,zx] at h ⊢;exact⟨h.1,Fo.YU r g h.2 h2⟩
 | .ug k a m r,g,h,h2=>by
  simp only[Fo.wf,Fo.app,zx] at h ⊢;exact⟨h.1,Fo.YU r g h.2 h2⟩
theorem Fo.dS:∀ f g:Fo,(f.app g).cnt=f.cnt+g.cnt
 | .nil,g=>by simp[Fo.app,Fo.cnt]
 | .text t r,g=>Fo.dS r g
 | .hash r,g=>Fo.dS r g
 | .put n a r,g=>by simp only[Fo.app,Fo.cnt,Fo.dS r g];omega
 | .num n a r,g=>by simp only[Fo.app,Fo.cnt,Fo.dS r g];omega
 | .br n a f o c b r,g=>by simp only[Fo.app,Fo.cnt,Fo.dS r g];omega
 | .ug k a m r,g=>by simp only[Fo.app,Fo.cnt,Fo.dS r g];omega
structure jx(f:Fo)(n:Nat):Prop where
 msg:f.vD=true
 wf:f.wf 2000000=true
 len:f.len<=n
 cnt:f.cnt<=n
theorem jx.nil:jx .nil 0:=⟨rfl,rfl,zy _,zy _⟩
theorem jx.app{f g:Fo}{n m:Nat}(h:jx f n)(k:jx g m):jx (f.app g) (n+m) :=
 ⟨Fo.uO _ _ h.msg k.msg,Fo.YU _ _ h.wf k.wf,by rw[Fo.uf];have:=h.len;have:=k.len;omega,by rw[Fo.dS];have:=h.cnt;have:=k.cnt;omega⟩
theorem jx.text(t:Wd):jx (.text t .nil) 1:=⟨rfl,rfl,zy _,zG _⟩
theorem jx.more{f:Fo}{n m:Nat}(h:jx f n)(k:n<=m):jx f m:=⟨h.msg,h.wf,zX h.len k,zX h.cnt k⟩
theorem Vl{N:Nat}:∀ (f g:Fo),(f.app g).wf N=true->f.wf N=true
 | .nil,g,_=>rfl
 | .text t r,g,h=>Vl r g h
 | .hash r,g,h=>Vl r g h
 | .put n a r,g,h=>by
  simp only[Fo.wf,Fo.app,zx] at h ⊢;exact⟨h.1,Vl r g h.2⟩
 | .num n a r,g,h=>by
  simp only[Fo.wf,Fo.app,zx] at h ⊢;exact⟨h.1,Vl r g h.2⟩
 | .br n a f o c b r,g,h=>by
  simp only[Fo.wf,Fo.app,zx] at h ⊢;exact⟨h.1,Vl r g h.2⟩
 | .ug k a m r,g,h=>by
  simp only[Fo.wf,Fo.app,zx] at h ⊢;exact⟨h.1,Vl r g h.2⟩
theorem jx.xM{f:Fo}{n:Nat}(h:jx f n)(t:Wd):jx (f.xM t) (n+1):=by
 cases hl:f.xJ with
 | none=>rw[uj f t hl];exact h.app (jx.text t)
 | some s =>
  obtain⟨pre,h1,h2,h3⟩:=uy f s hl;have hw:=h.wf;have hlen:=h.len;have Z6:=h.cnt;rw[h1] at hw hlen Z6;rw[h3];refine⟨Fo.uO _ _ (h2 h.msg) rfl,Fo.YU _ _ (Vl _ _ hw) rfl,?_,?_⟩
  ·rw[Fo.uf] at hlen ⊢;simp only[Fo.len] at hlen ⊢;omega
  ·rw[Fo.dS] at Z6 ⊢;simp only[Fo.cnt] at Z6 ⊢;omega
structure P8(f:Fo)(n:Nat):Prop where
 nG:f.ux=true
 wf:f.wf 2000000=true
 cnt:f.cnt+f.len<=n
def Un(rs:List Int)(m:jK):Prop:=∀ num i f j,m num i = .ok (f,j)->i<=j/\jx f (j - i)
theorem P9{rs:List Int}{i:Nat}{r:Int}(h:xU rs i=r)(hr:r≠-1):i<rs.length:=by
 apply zY;intro hc;rw[kF (by omega)] at h;exact hr h.symm
section
variable {rs:List Int} (ZQ:rs.length<=1000000)
include ZQ
theorem Dp{i j:Nat}{x:Wd}(h:fy rs i = .ok (x,j)):x.length<=4000000/\i<j:=by
 refine⟨?_,gz h⟩;unfold fy at h;split at h
 ·cases h
 ·cases h;have:=bJ rs i (qi rs i);omega
theorem Nu{i j:Nat}{x:Wd}(h:jz rs i = .ok (x,j)):x.length<=4000000/\i<j:=by
 refine⟨?_,Yy h⟩;unfold jz at h;split at h
 ·cases h
 ·cases h;have:=bJ rs i (qk rs i);omega
theorem AI{num:Bool}{i j:Nat}{x:Wd}(h:Je rs num i = .ok (x,j)):x.length<=4000001/\i<j:=by
 unfold Je at h;split at h
 ·obtain⟨a,q,h1,h2⟩:=xd h
  cases h2;have:=Nu ZQ h1;simp;omega
 ·obtain⟨a,q,h1,h2⟩:=xd h;split at h2
  ·cases h2
  ·cases h2;have:=Dp ZQ h1;omega
theorem S2{msg:Option jK}{num:Bool}{i j:Nat}{f:Fo}(hm:∀ m,msg=some m->Un rs m)(h:X7 rs msg num i = .ok (f,j)):i<j/\P8 f (j - i)/\f.len=1:=by
 unfold X7 at h;obtain⟨k,a,h1,h2⟩:=xd h;obtain⟨u,b,h3,h4⟩:=xd h2;have e1:=AI ZQ h1;have e2:=(xR h3).2;have e3:=xP rs a
 cases msg with
 | none=>cases h4
 | some m =>
  obtain⟨g,c,h5,h6⟩:=xd (show(m num b).then _=_ from h4);obtain⟨u2,z,h7,h8⟩:=xd h6;obtain⟨e4,hg⟩:=hm m rfl _ _ _ _ h5;have e5:=xR h7;have e6:=xP rs z;have e7:=P9 e5.1 (by decide)
  cases h8;have hl:=hg.len;have hc:=hg.cnt;refine⟨by omega,⟨rfl,?_,?_⟩,rfl⟩
  ·have hml:g.len<=2000000:=by omega
   simp only[Fo.wf,zx,decide_eq_true_eq];exact⟨⟨⟨⟨by omega,hg.msg⟩,hml⟩,hg.wf⟩,trivial⟩
  ·simp only[Fo.cnt,Fo.len];omega
theorem GQ{msg:Option jK}{num:Bool}(hm:∀ m,msg=some m->Un rs m):∀ (n:Nat) (acc:Fo) (i j b:Nat) (f:Fo),gG rs msg num n acc i = .ok (f,j)->P8 acc b->i<=j/\P8 f (b+(j - i))
 | 0,acc,i,j,b,f,h,_=>by cases h
 | n+1,acc,i,j,b,f,h,ha=>by
  rw[gG] at h;split at h
  ·cases h;exact⟨zy _,by simpa using ha⟩
  ·obtain⟨g,q,h1,h2⟩:=xd h;obtain⟨e1,hg,_⟩:=S2 ZQ hm h1;have hag:P8 (acc.app g) (b+(q - i)):=⟨Fo.bG _ _ ha.nG hg.nG,Fo.YU _ _ ha.wf hg.wf,by rw[Fo.dS,Fo.uf];have:=ha.cnt;have:=hg.cnt;omega⟩;obtain⟨e2,hf⟩:=GQ hm n _ _ _ _ _ h2 hag;exact⟨by omega,⟨hf.nG,hf.wf,by have:=hf.cnt;omega⟩⟩
theorem S3{msg:Option jK}{i j:Nat}{f:Fo}(hm:∀ m,msg=some m->Un rs m)(h:YW rs msg i = .ok (f,j)):i<j/\jx f (j - i):=by
 unfold YW at h;obtain⟨u,a,h1,h2⟩:=xd h;obtain⟨nm,b,h3,h4⟩:=xd h2;have e1:=(xR h1).2;have e2:=xP rs a;have e3:=Dp ZQ h3;have e4:=xP rs b;clear h h1 h2 h3;split at h4
 ·obtain⟨u,z,h5,h6⟩:=xd h4;have:=(xR h5).2
  cases h6;refine⟨by omega,rfl,?_,by simp[Fo.len];omega,by simp[Fo.cnt];omega⟩;simp only[Fo.wf,zx,decide_eq_true_eq];exact⟨by omega,trivial⟩
 ·obtain⟨wd,c,h5,h6⟩:=xd h4;have e5:=gz h5;have e6:=xP rs (xm rs b+1);have e7:=xP rs c;clear h4 h5;split at h6
  ·obtain⟨u,z,h7,h8⟩:=xd h6;have:=(xR h7).2
   cases h8;refine⟨by omega,rfl,?_,by simp[Fo.len];omega,by simp[Fo.cnt];omega⟩;simp only[Fo.wf,zx,decide_eq_true_eq];exact⟨by omega,trivial⟩
  ·split at h6
   ·cases h6
   ·next form Pz =>
    obtain⟨u,d,h7,h8⟩:=xd h6;obtain⟨o,l,h9,dM⟩:=xd h8;obtain⟨bs,q,KU,JS⟩:=xd dM;obtain⟨u,z,lF,lD⟩:=xd JS;have:=(xR h7).2;have:=xP rs d;have:=Bo h9;obtain⟨e8,hb⟩:=GQ ZQ hm _ _ _ _ 0 _ KU ⟨rfl,rfl,zy _⟩;have e9:=xR lF;have e10:=P9 e9.1 (by decide);have D0:=hb.cnt;have KB:=Jr Pz
    cases lD;refine⟨by omega,rfl,?_,by simp[Fo.len];omega,by simp[Fo.cnt];omega⟩;simp only[Fo.wf,zx,decide_eq_true_eq];exact⟨⟨⟨⟨⟨by omega,KB⟩,hb.nG⟩,by omega⟩,hb.wf⟩,trivial⟩
theorem bN{msg:Option jK}{num:Bool}(hm:∀ m,msg=some m->Un rs m):∀ (n:Nat) (acc:Fo) (i j b:Nat) (f:Fo),ql rs msg num n acc i = .ok (f,j)->jx acc b->i<=j/\jx f (b+(j - i))
 | 0,acc,i,j,b,f,h,_=>by cases h
 | n+1,acc,i,j,b,f,h,ha=>by
  rw[ql] at h;split at h
  ·cases h;exact⟨zy _,by simpa using ha⟩
  split at h
  ·obtain⟨g,q,h1,h2⟩:=xd h;obtain⟨e1,hg⟩:=S3 ZQ hm h1;obtain⟨e2,hf⟩:=bN hm n _ _ _ _ _ h2 (ha.app hg);exact⟨by omega,hf.more (by omega)⟩
  split at h
  ·obtain⟨e2,hf⟩:=bN hm n _ _ _ _ _ h (ha.app (g := .hash .nil) (m:=1) ⟨rfl,rfl,zy _,zG _⟩);exact⟨by omega,hf.more (by omega)⟩
  ·have:=UB rs num i;obtain⟨e2,hf⟩:=bN hm n _ _ _ _ _ h (ha.xM _);exact⟨by omega,hf.more (by omega)⟩
theorem Dr:∀ n,Un rs (YA rs n)
 | 0,num,i,f,j,h=>by
  rw[YA] at h;have:=bN ZQ (fun m e=>by cases e) _ _ _ _ 0 _ h jx.nil;simpa using this
 | n+1,num,i,f,j,h=>by
  rw[YA] at h;have:=bN ZQ (fun m e=>by cases e;exact Dr n) _ _ _ _ 0 _ h jx.nil;simpa using this
end
theorem bz{rs:List Int}{msg:Option jK}{num:Bool}:∀ (n:Nat) (acc:Fo) (i j:Nat) (f:Fo),ql rs msg num n acc i = .ok (f,j)->i<=rs.length->j<=rs.length
 | 0,acc,i,j,f,h,_=>by cases h
 | n+1,acc,i,j,f,h,hi=>by
  rw[ql] at h;split at h
  ·cases h;exact hi
  next h0 =>
  have xC:i<rs.length:=by
   apply zY;intro hc;exact h0 (.inl (kF (by omega)))
  split at h
  ·obtain⟨g,q,h1,h2⟩:=xd h;exact bz n _ _ _ _ h2 (DN h1).2
  split at h
  ·exact bz n _ _ _ _ h xC
  ·exact bz n _ _ _ _ h (ET xC).2
theorem XY{l:List UInt8}{f:Fo}(h:um l = .ok f):jx f 1000:=by
 unfold um at h;split at h
 ·cases h
 split at h
 ·cases h
 next h1 _ =>
 have ZQ:=Xo l;have hr:(vv l).length<=1000:=by omega
 cases hp:X8 (vv l) with
 | error e=>rw[hp] at h;cases h
 | ok x =>
  rw[hp] at h
  cases h;unfold X8 at hp;obtain⟨g,q,h2,h3⟩:=xd (show _=Except.ok (x.1,x.2) from hp);have hg:=(Dr (by omega) 5 _ _ _ _ h2).2;have he:q<=(vv l).length:=bz _ _ _ _ _ h2 (zG _);split at h3
  ·cases h3;exact hg.more (by omega)
  ·cases h3
def jU(l:List UInt8):Except (Nat×Nat) Fo :=
 match um l with
 | .error e => .error e
 | .ok f=>match XZ f with|none => .ok f|some e => .error e
def ze6(r:Except (Nat×Nat) Fo)(w:World)(e:Ending)(w':World):Prop :=
 (match r with
  | .error (n,a)=>∃ v b,e = .returned (.tuple #[v,.iface 101 (.pointer (some ⟨b,0,none⟩))])/\(∃ a n c,v = .slice a n c)/\w'.cell? ⟨b,0,none⟩=some (.int .i64 n)/\w'.cell? ⟨b,1,none⟩=some (.int .i64 a)
  | .ok f=>(∃ a c vs,e = .returned (.tuple #[.slice a f.len c,.nilIface])/\VH w.heap.size w'.heap.size w' a vs/\xY w.heap.size w'.heap.size w' vs f)/\jx f 1000)/\Below w.heap.size w w'
theorem I9(s:ByteArray)(w:World)(hs:s.size<=9223372036854775807)(hT:Lib.Utf8Tabs 3 4 w)(hN:ui w) :
  Calls prog 47 #[.string s] w (ze6 (jU s.data.toList) w):=by
 have HP:=z7 (Rf s w hs hT hN);have HR:=z7 (show jU s.data.toList=match um s.data.toList with | .error e => .error e | .ok f=>match XZ f with|none => .ok f|some e => .error e from rfl);have HG:=z7 (fun f=>XY (l:=s.data.toList) (f:=f));obtain⟨r,hr⟩:∃ r,um s.data.toList=r:=⟨_,rfl⟩;rw[hr] at HP HR HG;clear hT hN hr;go_enter func47,ntmps47;go_wp2_with fail;refine HP.out.mono ?_;rintro e w1 ⟨hq,xB⟩;clear HP
 cases r with
 | error en =>
  obtain⟨n,a⟩:=en;obtain⟨b,rfl,c0,c1⟩:=hq;have HX:=z7 (show jU s.data.toList = .error (n,a) from HR.out);go_wp2;go_ret2
  rw[HX.out];exact⟨⟨_,b,rfl,⟨_,_,_,rfl⟩,c0,c1⟩,xB⟩
 | ok f =>
  obtain⟨⟨a,c,vs,rfl,vE,kD⟩,Km⟩:=hq;have hg:=HG.out f rfl;have qV:=z7 vE;have Yz:=z7 kD;have HGG:=z7 hg;have HC:=z7 (S1 f a c vs w1 hg.msg hg.wf (by have:=hg.len;omega) (by have:=hg.cnt;omega) vE kD (zy _));have HX:=z7 (show jU s.data.toList=match XZ f with|none => .ok f|some e => .error e from HR.out);obtain⟨q,hq⟩:∃ q,XZ f=q:=⟨_,rfl⟩;rw[hq] at HC HX;clear vE kD Km hg hq HR HG;go_wp2_with fail;refine HC.out.mono ?_;rintro e w2 ⟨hq,xD⟩;clear HC;have qX:=xB.trans (xD.mono xB.size)
  cases q with
  | none =>
   obtain rfl:=hq;have HY:=z7 (show jU s.data.toList = .ok f from HX.out);have hk:vQ w.heap.size w1.heap.size w1 w2:=⟨xD.size,fun k _ hk=>xD.block k hk⟩;go_wp2;go_ret2
   rw[HY.out];exact⟨⟨⟨a,c,vs,rfl,qV.out.keep hk (zy _) xD.size,xY.keep hk (zy _) xD.size _ _ Yz.out⟩,HGG.out⟩,qX⟩
  | some e =>
   obtain⟨n,p⟩:=e;obtain⟨b,rfl,c0,c1⟩:=hq;have HY:=z7 (show jU s.data.toList = .error (n,p) from HX.out);go_wp2;go_ret2
   rw[HY.out];exact⟨⟨_,b,rfl,⟨_,_,_,rfl⟩,c0,c1⟩,qX⟩
end Go.Proofs.YthpldolmpinnhaaGreatDoor
