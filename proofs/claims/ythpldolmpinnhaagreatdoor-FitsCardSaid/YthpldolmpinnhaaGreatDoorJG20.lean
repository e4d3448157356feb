import Derived.Test.YthpldolmpinnhaaGreatDoorJG19
import Derived.Laws.IdiomStrings
import Derived.OwnWalk
import Derived.Deep.RegionHeld
import Derived.Deep.DeepAppendRoom
import Derived.Deep.LoopGhost
set_option maxHeartbeats 64000000
open Go.Lib renaming hid→z7,compareInt→zV
open Go.World renaming block_lt_of_cell?→z8,frozen?_of_block→zu,frozen?_setCell→zf,cell?_alloc_lt→zZ,ownsRow_nil→zE
open Nat renaming le_refl→zy,le_trans→zX,add_sub_cancel→zQ,zero_le→zG
open Bool renaming and_eq_true→zx
open Go.RowKit.Below renaming refl→zv,heap_alloc→zL
open List renaming length_append→zk,length_nil→zg,take_succ_eq_append_getElem→zJ,append_assoc→zH,map_toArray→zM,length_cons→zN,replicate→zP
open Go.Value renaming slice→zj
open Classical renaming byContradiction→zY
open Option.some renaming inj→zU
open ByteArray renaming mk→zF
open Go.Result renaming andThen_ok→zD
open Go.Instr renaming typeAssert→zI,makeFunc→zO
open Go.Proofs.Tryz
namespace Go.Proofs.YthpldolmpinnhaaGreatDoor
open Go Go.RowKit
set_option maxRecDepth 10000
theorem vx:ZS prog 48 5 (.int .u8 0) 1 1 :=
 ⟨underlying48,info_parts (by kernel_rfl),rfl,by decide,by decide⟩
def vz(l:List UInt8):List Value:=l.map fun c => .int .u8 ((c.toNat:Int) - 48)
def Od(l:List UInt8)(w:World)(e:Ending)(w':World):Prop :=
 (if l.all xF then ∃ v,e = .returned (.tuple #[v,.bool true])/\w'.ownsRow w.heap.size 5 1 v l.length (vz l) else e = .returned (.tuple #[.slice none 0 0,.bool false]))/\Below w.heap.size w w'
theorem Td(c:UInt8)(h:xF c=true):IntKind.u8.wrap ((c.toNat:Int) - 48)=(c.toNat:Int) - 48/\(c.toNat:Int) - 48<=9:=by
 have:=(vW _).1 h;refine⟨?_,by omega⟩;simp only[IntKind.wrap,IntKind.signed,IntKind.bits];simp;omega
theorem cg(c:UInt8)(h:xF c=false):9<((c.toNat:Int) - 48) % 256:=by
 have:=(Hn _).1 h;have:=c.toNat_lt;omega
theorem Ob(s:ByteArray)(w:World)(hs:s.size<=1000000) :
  Calls prog 67 #[.string s] w (Od s.data.toList w):=by
 have hcv:=fun w s=>run_bytes_of_string (P:=prog) w 9 48 5 s underlying9 underlying48 underlying5
 obtain⟨i,hi,hz,h2,h3⟩:=vx.info;go_enter func67,ntmps67;go_wp2_with (refine wpList_make_own _ rfl _ _ _ rfl w.heap.size _ i _ 1 vx.under hi hz h2 .i64 .i64 _ s.size rfl rfl ?c1 ?c2 ?c3 ?c4 ?_)
 case c1=>first|rfl|simp
 case c2=>rw[h3];omega
 case c3=>unfold maxLen;omega
 case c4=>simp
 intro w1 fE Zw;go_wp2;refine GU ?_;intro wc hwc;have qc:wc.heap.size=w1.heap.size+1:=by rw[hwc];simp
 have xG:Below w.heap.size w w1:=(zv _ _).grown Zw (zy _) (by simp);have jk:Below w.heap.size w wc:=by rw[hwc];exact(Below.drew xG).alloc xG.size _
 have vQ:∀ j (hj:j<s.size),wc.cell? ⟨w1.heap.size,j,none⟩=some (.int .u8 (s[j].toNat:Int)):=by
  intro j hj;rw[hwc];have:=bytesRow_at s (grownCap w1 s.size 0 5) j hj;show(w1.alloc _).cell? _=_;rw[xu];exact this
 have zn2:wc.ownsRow w.heap.size 5 1 (zj (some ⟨w.heap.size,0,none⟩) 0 s.size) 0 []:=by rw[hwc];exact(World.ownsRow.drew fE).alloc _
 have SK:=xG.size;have pM:=(fE.lt w.heap.size rfl).2;clear hwc fE Zw;go_loopw [4,14] (fun v i wr=>∃ k:Nat,k<=s.size/\i = .int .i64 k/\v = .slice (some ⟨w.heap.size,0,none⟩) k s.size/\wr.ownsRow w.heap.size 5 1 v k (vz (s.data.toList.take k))/\Below w.heap.size w wr/\(s.data.toList.take k).all xF=true/\(w1.heap.size<wr.heap.size)/\∀ j (hj:j<s.size),wr.cell? ⟨w1.heap.size,j,none⟩=some (.int .u8 (s[j].toNat:Int))) (fun _ i _=>s.size - (intOf i).toNat)
 case atStart=>exact⟨0,by omega,rfl,rfl,by simpa[vz] using zn2,jk,by simp,by omega,vQ⟩
 case round =>
  obtain⟨k,hk,rfl,hv,xV,hb,hH,Vp,vQ⟩:=hrel;have HH:=z7 hH;have HV:=z7 hv;clear hH hv;by_cases xB:k<s.size
  .have hc:=vQ k xB;by_cases hd:xF s[k]=true
   .obtain⟨hy,hy9⟩:=Td _ hd;have HD:=z7 hd;clear hd;have Jv:wr.ownsRow w.heap.size 5 1 (.slice (some ⟨w.heap.size,0,none⟩) k s.size) k (vz (s.data.toList.take k)):=by rw[<-HV.out];exact xV
    go_wp2_with (at_builtin;refine wpList_append_own_spare _ rfl _ _ _ rfl w.heap.size _ i 1 vx.under hi h2 w.heap.size k s.size (vz (s.data.toList.take k)) HV.out (Jv.alloc _) ⟨wr.heap.size,0,none⟩ 1 1 [.int .u8 ((s[k].toNat:Int) - 48)] rfl rfl ?c1 ?c2 ?c3 ?_)
    case c1=>exact cells_one (by simp)
    case c2=>intro u hu;simp at hu;subst hu;rfl
    case c3=>omega
    intro w2 AT uA;have K7:=uA.size;have hts:=Aj HH.out HD.out;rw[<-Bb s k xB] at hts;have HT:=z7 hts;clear hts;go_wp2;go_roundw
    case rel =>
     refine⟨k+1,by omega,by go_num,rfl,?_,((hb.alloc hb.size _).grown uA (by have:=hb.size;simp;omega) (fun q hq=>by cases hq;exact zy _)),HT.out,?_,?_⟩
     .rw[Bb s k xB];simpa[vz] using AT
     .simp at K7;omega
     .intro j hj;refine uA.cell ?_ (by simp;omega);rw[zZ _ _ _ Vp];exact vQ j hj
    case measure=>simp[intOf];omega
   .have o9:xF s[k]=false:=by simpa using hd
    have hn:=cg _ o9;have ve:s.data.toList.all xF=false:=CJ s k xB o9;have HF:=z7 ve;clear ve hd o9;go_wp2;go_ret2
    refine⟨by rw[HF.out];rfl,hb⟩
  .have Qr:k=s.size:=by omega
   subst Qr;have HA:=HH.out;rw[GX] at HA;rw[GX] at xV;have HF:=z7 HA;clear HA HH;go_wp2;go_ret2
   refine⟨?_,hb⟩;rw[if_pos HF.out,xc];exact⟨_,rfl,xV⟩
theorem L8(d:Int)(w:World):Calls prog 103 #[.int .u8 d] w fun e w'=>e = .returned (.bool (d !=0))/\w=w':=by
 go_enter func103,ntmps103;go_wp2;go_ret;exact⟨rfl,rfl⟩
theorem zq8{l:List Int}{k:Nat}(h:k<l.length)(hn:(l[k] !=0)=true):l.any (· != 0)=true:=List.any_eq_true.2 ⟨l[k],List.getElem_mem h,hn⟩
theorem cZ{l:List Int}{k:Nat}(h:k<l.length)(hz:(l.take k).any (· != 0)=false)(hn:(l[k] !=0)=false):(l.take (k+1)).any (· != 0)=false:=by
 rw[zJ h,List.any_append,hz];simpa using hn
def xK(w:World)(a:Option Addr)(l:List Int):Prop:=∀ j (h:j<l.length),∃ b,a=some b/\w.cell? (b.add j)=some (.int .u8 l[j])
theorem xK.alloc{w:World}{a:Option Addr}{l:List Int}(h:xK w a l)(o:Obj):xK (w.alloc o) a l:=fun j hj=>by
 obtain⟨b,hb,hc⟩:=h j hj;refine⟨b,hb,?_⟩;rw[World.cell?_alloc_some _ _ _ (by rw[hc];rfl)];exact hc
theorem Lz(l:List Int)(a:Option Addr)(c:Nat)(w:World)(hl:l.length<=1000000)(hc:xK w a l) :
  Calls prog 152 #[.slice a l.length c,.func (.func 103) #[] #[]] w fun e w'=>(∃ n:Int,e = .returned (.int .i64 n)/\decide (0<=n)=l.any (· != 0))/\w=w':=by
 go_enter func152,ntmps152;go_wp2;go_loop [8] (fun i=>∃ k:Nat,k<=l.length/\i = .int .i64 k/\(l.take k).any (· != 0)=false) (fun i=>l.length - (intOf i).toNat)
 case atStart=>exact⟨0,by omega,rfl,by simp⟩
 case round =>
  obtain⟨k,hk,rfl,hz⟩:=hrel;have HZ:=z7 hz;clear hz;by_cases xB:k<l.length
  .obtain⟨b,rfl,vQ⟩:=hc k xB;go_wp2_with fail;refine(L8 _ _).mono ?_;rintro e w' ⟨rfl,rfl⟩;by_cases hn:(l[k] !=0)=true
   .have HF:=z7 (zq8 xB hn);go_wp2;go_ret;exact⟨⟨_,rfl,by rw[HF.out];simp⟩,rfl⟩
   .have CA:(l[k] !=0)=false:=by simpa using hn
    have HF:=z7 (cZ xB HZ.out CA);clear hn;go_wp2;go_round
    case rel=>exact⟨k+1,by omega,by go_num,HF.out⟩
    case measure=>simp[intOf];omega
  .have Qr:k=l.length:=by omega
   subst Qr;have hz:=HZ.out;rw[List.take_length] at hz;have HF:=z7 hz;clear hz HZ;go_wp2;go_ret;exact⟨⟨_,rfl,by rw[HF.out];rfl⟩,rfl⟩
theorem XW(l:List Int)(a:Option Addr)(c:Nat)(w:World)(hl:l.length<=1000000)(hc:xK w a l) :
  Calls prog 102 #[.slice a l.length c,.func (.func 103) #[] #[]] w fun e w'=>e = .returned (.bool (l.any (· != 0)))/\w=w':=by
 go_enter func102,ntmps102;go_wp2_with fail;refine(Lz l a c w hl hc).mono ?_;rintro e w' ⟨⟨n,rfl,hn⟩,rfl⟩;go_wp2;go_ret;exact⟨rfl,rfl⟩
theorem cY(l:List Int)(a:Option Addr)(c:Nat)(b:Bool)(sc:Int)(w:World)(hl:l.length<=1000000)(hc:xK w a l) :
  Calls prog 68 #[.agg #[.bool b,.slice a l.length c,.int .i64 sc]] w fun e w'=>e = .returned (.bool (!l.any (· != 0)))/\Below w.heap.size w w':=by
 go_enter func68,ntmps68;go_wp2_with fail;refine(XW l a c _ hl (hc.alloc _)).mono ?_;rintro e w' ⟨rfl,rfl⟩;go_wp2;go_ret;exact⟨rfl,(zv _ _).alloc (zy _) _⟩
theorem Tb(s:ByteArray):s.toList=s.data.toList:=by
 exact Go.ByteArray.toList_eq s
theorem add_add(a:Addr)(i j:Nat):(a.add i).add j=a.add (i+j):=by
 unfold Addr.add;by_cases hi:i=0
 .subst hi;simp
 .by_cases hj:j=0
  .subst hj;simp
  .simp[hi,hj,Nat.add_assoc]
def cmpL(a b:List UInt8):Int:=if a.length<b.length\/(a.length=b.length/\Op.bytesLess a b=true) then -1 else if a=b then 0 else 1
def XA(l:List UInt8)(m:Nat):Nat:=l.foldl (fun r c=>(10*r+(c.toNat - 48)) % m) 0
theorem Fk(l:List UInt8)(c:UInt8)(m:Nat):XA (l++[c]) m=(10*XA l m+(c.toNat - 48)) % m:=by simp[XA]
theorem cX(l:List UInt8)(m:Nat)(hm:0<m):XA l m<m:=by
 by_cases h:l=[]
 .subst h;exact hm
 .obtain⟨t,c,rfl⟩:∃ t c,l=t++[c]:=⟨l.dropLast,l.getLast h,by rw[List.dropLast_concat_getLast]⟩;rw[Fk];exact Nat.mod_lt _ hm
def stripL:List UInt8->List UInt8
 | c::d::t=>if c=48 then stripL (d::t) else c::d::t
 | l=>l
def jR(l:List UInt8):List UInt8:=if l=[] then [48] else stripL l
theorem OZ{c:UInt8}{l:List UInt8}(h:l≠[])(hc:c=48):stripL (c::l)=stripL l:=by
 cases l with
 | nil=>exact absurd rfl h
 | cons d t=>rw[stripL,if_pos hc]
theorem OY{c:UInt8}{l:List UInt8}(hc:¬c=48):stripL (c::l)=c::l:=by
 cases l with
 | nil=>rfl
 | cons d t=>rw[stripL,if_neg hc]
def uD(l:List UInt8):List UInt8:=(l.reverse.dropWhile (· == 48)).reverse
theorem short_zero(l:List UInt8):uD (l++[48])=uD l:=by simp[uD]
theorem OX(l:List UInt8)(c:UInt8)(h:¬c=48):uD (l++[c])=l++[c]:=by
 have:(c==48)=false:=by simpa using h
 simp[uD,this]
end Go.Proofs.YthpldolmpinnhaaGreatDoor
namespace Go.Proofs.YthpldolmpinnhaaGreatDoor
open Go
abbrev Dg:=List UInt8×List UInt8
def we(f:Wd):Bool:=f.any (· != 48)
def Ly(w:Wd):Bool:=w==[109,111,100] || w==[37]
abbrev qT:=Dg->Bool
def Yy(w:Wd)(ws:List Wd):Bool:=ws.head? == some w
def kS:List Wd->Option (Nat×List Wd)
 | []=>none
 | w::t=>if Fq w=true then some (B7 w,t) else none
def KI(x:Dg)(v:Nat):Int :=
 if cmpL x.1 (xH v)<0 then -1 else if 0<cmpL x.1 (xH v)\/we x.2=true then 1 else 0
def gD(a b:Nat)(broken:Bool):qT:=fun x=>decide (0<=KI x a) && (decide (KI x b<=0) && (broken || !(we x.2)))
def Vh(ws:List Wd):Option ((Nat×Nat)×List Wd) :=
 match kS ws with
 | none=>none
 | some (a,t) =>
  if Yy [46,46] t then
   match kS t.tail with
   | none=>none
   | some (b,u)=>if b<a then none else some ((a,b),u)
  else some ((a,a),t)
def qU(within:Bool):Nat->List qT->List Wd->Option (List qT×List Wd)
 | 0,_,_=>none
 | n+1,acc,ws=>match Vh ws with
  | none=>none
  | some (q,t)=>if Yy [44] t then qU within n (acc++[gD q.1 q.2 within]) t.tail else some (acc++[gD q.1 q.2 within],t)
def Z3(l:List qT):qT:=fun x=>l.any (fun t=>t x)
def allT(l:List qT):qT:=fun x=>l.all (fun t=>t x)
abbrev Parser:=List Wd->Option (qT×List Wd)
def jM(within:Bool):Parser:=fun ws=>(qU within (ws.length+1) [] ws).map fun q=>(Z3 q.1,q.2)
def vp(ws:List Wd):Option ((qT×Bool)×List Wd) :=
 if Yy [61] ws then (jM false ws.tail).map fun q=>((q.1,false),q.2)
 else if Yy [33,61] ws then (jM false ws.tail).map fun q=>((q.1,true),q.2)
 else if Yy [105,115] ws then
  (kS (if Yy [110,111,116] ws.tail then ws.tail.tail else ws.tail)).map fun q=>((gD q.1 q.1 false,Yy [110,111,116] ws.tail),q.2)
 else
  let nt:=Yy [110,111,116] ws
  let u:=if nt then ws.tail else ws
  if Yy [119,105,116,104,105,110] u then (jM true u.tail).map fun q=>((q.1,nt),q.2)
  else if Yy [105,110] u then (jM false u.tail).map fun q=>((q.1,nt),q.2)
  else none
def uU(c:Wd):Option (Dg->Dg) :=
 if c=[110] then some (fun x=>x) else if c=[105] then some (fun x=>(jR x.1,[])) else if c=[118] then some (fun x=>(xH x.2.length,[]))
 else if c=[119] then some (fun x=>(xH (uD x.2).length,[])) else if c=[102] then some (fun x=>(jR x.2,[]))
 else if c=[116] then some (fun x=>(jR (uD x.2),[])) else none
def B8(of:Dg->Dg)(m:Nat):Dg->Dg:=fun x=>(xH (XA (of x).1 m),(of x).2)
def Yx(of:Dg->Dg)(t:List Wd):Option ((Dg->Dg)×List Wd) :=
 if Ly (t.headD []) then
  match kS t.tail with
  | none=>none
  | some (m,u)=>if m=0 then none else some (B8 of m,u)
 else some (of,t)
def gj:Parser
 | []=>none
 | w::t=>match uU w with
  | none=>none
  | some of=>match Yx of t with
   | none=>none
   | some (of',u)=>match vp u with
    | none=>none
    | some ((i,nt),v)=>some ((fun x=>i (of' x) !=nt),v)
def fN(word:Wd)(one:Parser):Nat->List qT->List Wd->Option (List qT×List Wd)
 | 0,_,_=>none
 | n+1,acc,ws=>match one ws with
  | none=>none
  | some (T,t)=>if Yy word t then fN word one n (acc++[T]) t.tail else some (acc++[T],t)
def Ev(word:Wd)(wo:List qT->qT)(one:Parser):Parser:=fun ws=>(fN word one (ws.length+1) [] ws).map fun q=>(wo q.1,q.2)
def Lx:Parser:=Ev [97,110,100] allT gj
def pOr:Parser:=Ev [111,114] Z3 Lx
def xC(c:UInt8):Nat:=if 97<=c.toNat/\c.toNat<=122 then 3 else if 48<=c.toNat/\c.toNat<=57 then 2 else if c.toNat=32 then 1 else 0
def Fj:List UInt8->Option Wd
 | 33::61::_=>some [33,61]
 | 46::46::_=>some [46,46]
 | 61::_=>some [61]
 | 44::_=>some [44]
 | 37::_=>some [37]
 | _=>none
def jm:Nat->List (Wd)->List UInt8->Option (List Wd)
 | _,acc,[]=>some acc
 | 0,_,_::_=>none
 | n+1,acc,c::t=>match Fj (c::t) with
  | some g=>jm n (acc++[g]) ((c::t).drop g.length)
  | none =>
   if xC c=0 then none
   else jm n (if xC c=1 then acc else acc++[c::t.takeWhile (fun d=>xC d==xC c)]) (t.dropWhile (fun d=>xC d==xC c))
def OV(s:List UInt8):Option (List Wd):=jm (s.length+1) [] (s.take (s.idxOf 64))
def BS(s:List UInt8):Option qT :=
 if 200<s.length then none else match OV s with
 | none=>none
 | some ws=>match pOr ws with
  | some (T,[])=>some T
  | _=>none
end Go.Proofs.YthpldolmpinnhaaGreatDoor
namespace Go.Proofs.YthpldolmpinnhaaGreatDoor
open Go Go.RowKit
set_option maxRecDepth 10000
def VM(l:List UInt8):List UInt8:=if l.head? = some 45 then l.tail else l
def YA(l:List UInt8):Bool:=l.head? == some 45
def vN(l:List UInt8):List UInt8:=(VM l).take ((VM l).idxOf 46)
def u9(l:List UInt8):List UInt8:=(VM l).drop ((VM l).idxOf 46+1)
def Ya(l:List UInt8):Bool:=decide ((VM l).idxOf 46<(VM l).length)
def QZ(l:List UInt8):Bool:=vA (vN l) && (!(Ya l) || vA (u9 l)) && decide ((vN l).length+(u9 l).length<=30)
def uB(l:List UInt8):Bool :=
 QZ l && !(decide (1<(vN l).length) && ((vN l).headD 0==48)) && !(YA l && (vN l++u9 l).all (· == 48))
theorem zq9{l wh fr:List UInt8}{pt:Bool}(hW:vN l=wh)(hF:u9 l=fr)(hP:Ya l=pt)(h:¬(vA wh=true/\(pt=true->vA fr=true)/\wh.length+fr.length<=30)):uB l=false:=by
 have hf:QZ l=false:=by
  rw[<-Bool.not_eq_true];intro hf;unfold QZ at hf;rw[hW,hF,hP] at hf;simp only[zx,Bool.or_eq_true,Bool.not_eq_true',decide_eq_true_eq] at hf;refine h ⟨hf.1.1,fun hp=>?_,hf.2⟩;rcases hf.1.2 with h1|h1
  .rw[h1] at hp;cases hp
  .exact h1
 simp[uB,hf]
theorem Fg{l wh fr:List UInt8}{b:Bool}(hW:vN l=wh)(hF:u9 l=fr)(hB:YA l=b)(Jj:QZ l=true) :
  uB l=(!(decide (1<wh.length) && (wh.headD 0==48)) && !(b && (wh++fr).all (· == 48))):=by
 simp[uB,Jj,hW,hF,hB]
theorem zqz(wh:List UInt8)(h:0<(zF wh.toArray).size):(wh.headD 0==48)=(((zF wh.toArray)[0].toNat:Int)==48):=by
 have h1:=af ⟨wh.toArray⟩ h;rw[toList_mk] at h1;have h2:=bK (zF wh.toArray)[0] 48;have h3:((48:UInt8).toNat:Int)=48:=rfl;rw[h3] at h2;rw[h1,h2];exact Bool.beq_eq_decide_eq _ _
theorem pN{l wh fr:List UInt8}{pt:Bool}(hW:vN l=wh)(hF:u9 l=fr)(hP:Ya l=pt)(h1:vA wh=true)(h2:pt=true->vA fr=true)(h3:¬((30:Int)<(wh.length:Int)+(fr.length:Int))):QZ l=true:=by
 unfold QZ;rw[hW,hF,hP,h1];have h4:wh.length+fr.length<=30:=by omega
 cases pt
 .simp[h4]
 .simp[h4,h2 rfl]
abbrev vq:=Bool×Dg
def gi(t:Wd)(num:Bool):Bool:=if num then uB t else decide (t.length<=60)
def numOf(t:Wd):vq:=(YA t,(vN t,u9 t))
def fU(k:Nat)(l:Wd):Wd:=zP (k - l.length) 48++l
def Bz(r k:Nat):Dg:=((fU (k+1) (xH r)).take ((fU (k+1) (xH r)).length - k),(fU (k+1) (xH r)).drop ((fU (k+1) (xH r)).length - k))
def X9(n:vq)(v:Nat):vq :=
 if n.1 then (decide (xE (n.2.1++n.2.2)+v*10 ^ n.2.2.length≠0),Bz (xE (n.2.1++n.2.2)+v*10 ^ n.2.2.length) n.2.2.length)
 else if xE (n.2.1++n.2.2)<v*10 ^ n.2.2.length then (true,Bz (v*10 ^ n.2.2.length - xE (n.2.1++n.2.2)) n.2.2.length)
 else (false,Bz (xE (n.2.1++n.2.2) - v*10 ^ n.2.2.length) n.2.2.length)
def dD(n:vq)(v:Nat):Bool := !n.1 && decide (KI n.2 v=0)
inductive zqy where
 | no
 | zqx
 | val (t:Wd) (num:Bool)
structure qJ(τ:Type) where
 wr:vq->Wd
 sort:Bool->Dg->Nat
 get:Wd->τ->zqy×τ
inductive TZ (σ:Type) where
 | go (k:Nat) (s:σ)
 | fin (s:σ)
 | err (n:Nat) (s:σ)
 | bad
def QY{σ:Type}(F:Nat->σ->TZ σ):Nat->Nat->σ->Option (Except (Nat×σ) σ)
 | 0,_,_=>none
 | f+1,k,s=>match F k s with | .go k' s'=>QY F f k' s' | .fin s'=>some (.ok s') | .err n s'=>some (.error (n,s')) | .bad=>none
structure Z4(τ:Type) where
 out:Wd
 stk:List (vq×vq)
 gs:τ
section
variable {τ:Type} (E:qJ τ)
def Ze(n:Wd)(g:τ):Except (Nat×τ) ((Wd×Bool)×τ) :=
 match E.get n g with
 |(.no,g') => .error (12,g')
 |(.zqx,g') => .error (15,g')
 |(.val t num,g')=>if gi t num then .ok ((t,num),g') else .error (11,g')
def Zi(n:Wd)(g:τ):Except (Nat×τ) (vq×τ) :=
 match Ze E n g with
 | .error e => .error e
 | .ok ((t,num),g')=>if num then .ok (numOf t,g') else .error (13,g')
def Hg(n:Wd)(g:τ):Except (Nat×τ) (Wd×τ) :=
 match Ze E n g with
 | .error e => .error e
 | .ok ((t,num),g')=>if num then .error (13,g') else .ok (t,g')
def OU(t:Wd)(num:Bool):Wd:=if num then E.wr (numOf t) else t
def Yv(s:MkS)(x:jG):Option Wd:=x.k[0]?.bind fun j=>s.cs[j]?
def Mw(s:MkS)(t:Option Nat)(r:Z4 τ):TZ (Z4 τ) :=
 match t with
 | none => .bad
 | some p=>match dF s.code s.code.length p with|some k => .go k r|none => .fin r
def VN(s:MkS)(x:jG)(t:Wd):Nat:=(x.k.tail.map fun j=>s.cs[j]?).idxOf (some t)
def uh(s:MkS)(x:jG)(k:Nat)(r:Z4 τ):TZ (Z4 τ) :=
 match x.op with
 | 0 => .fin r
 | 1=>match Yv s x with|none => .bad|some t => .go (k+1) { r with out:=r.out++t }
 | 2=>match Yv s x with
  | none => .bad
  | some n=>match Ze E n r.gs with | .error (e,g) => .err e { r with gs:=g } | .ok ((t,num),g) => .go (k+1) { r with out:=r.out++OU E t num,gs:=g }
 | 3=>match Yv s x with
  | none => .bad
  | some n=>match Zi E n r.gs with | .error (e,g) => .err e { r with gs:=g } | .ok (v,g) => .go (k+1) { r with out:=r.out++E.wr v,gs:=g }
 | 4=>match Yv s x with
  | none => .bad
  | some n=>match Zi E n r.gs with | .error (e,g) => .err e { r with gs:=g } | .ok (v,g) => .go (k+1) { r with stk:=r.stk++[(v,X9 v x.v)],gs:=g }
 | 5=>match r.stk.getLast? with|none => .bad|some _ => .go (k+1) { r with stk:=r.stk.dropLast }
 | 6=>match r.stk.getLast? with|none => .bad|some t => .go (k+1) { r with out:=r.out++E.wr t.2 }
 | 7=>match r.stk.getLast? with|none => .bad|some t=>if dD t.1 x.v then Mw s x.tg[0]? r else .go (k+1) r
 | 8=>match r.stk.getLast? with|none => .bad|some t=>Mw s x.tg[E.sort false t.2.2]? r
 | 9=>match r.stk.getLast? with|none => .bad|some t=>Mw s x.tg[E.sort true t.2.2]? r
 | 10=>match Yv s x with
  | none => .bad
  | some n=>match Hg E n r.gs with
   | .error (e,g) => .err e { r with gs:=g }
   | .ok (t,g)=>if x.k.tail.all (fun j=>decide (j<s.cs.length)) then Mw s x.tg[VN s x t]? { r with gs:=g } else .bad
 | 11=>Mw s x.tg[0]? r
 | _ => .bad
def jn(s:MkS)(k:Nat)(r:Z4 τ):TZ (Z4 τ):=match s.code[k]? with|none => .bad|some x=>uh E s x k r
def Zl(ks:List Wd)(t:Wd):Wd:=if t∈ks then t else qv
def Ff(f:Nat)(ks:List Wd)(v z:vq):Wd :=
 match ks.find? fun k=>decide (k.head? = some 61) && dD v (xE k.tail) with
 | some k=>k
 | none=>if KQ.getD (E.sort (decide (f=2)) z.2) []∈ks then KQ.getD (E.sort (decide (f=2)) z.2) [] else qv
def kT:Fo->Wd->vq->Wd->τ->Except (Nat×τ) (Wd×τ)
 | .nil,_,_,o,g => .ok (o,g)
 | .text t r,k,x,o,g=>kT r k x (o++t) g
 | .hash r,k,x,o,g=>kT r k x (o++E.wr x) g
 | .put n _ r,k,x,o,g=>match Ze E n g with | .error e => .error e | .ok ((t,num),g')=>kT r k x (o++OU E t num) g'
 | .num n _ r,k,x,o,g=>match Zi E n g with | .error e => .error e | .ok (v,g')=>kT r k x (o++E.wr v) g'
 | .br n _ f off _ bs r,k,x,o,g =>
  if f=0 then
   match Hg E n g with
   | .error e => .error e
   | .ok (t,g')=>match kT bs (Zl bs.keys t) x o g' with | .error e => .error e | .ok (o',g'')=>kT r k x o' g''
  else
   match Zi E n g with
   | .error e => .error e
   | .ok (v,g')=>match kT bs (Ff E f bs.keys v (X9 v (xE off))) (X9 v (xE off)) o g' with | .error e => .error e | .ok (o',g'')=>kT r k x o' g''
 | .uz k' _ m r,k,x,o,g=>if k'=k then kT m [] x o g else kT r k x o g
end
abbrev qW(n:Nat):Value := .iface 33 (.int .i64 (n:Nat))
theorem Eu(n:Nat)(w:World):(zI (qW n) 20 33 true).run prog w = .ok (.tuple #[.int .i64 n,.bool true]) w:=by rfl
theorem Lv(w:World):(zI .nilIface 20 33 true).run prog w = .ok (.tuple #[.int .i64 0,.bool false]) w:=by rfl
theorem cV(A B:Nat)(w:World):CallsD prog 86 #[.pointer (some ⟨A,0,none⟩),.pointer (some ⟨B,0,none⟩)] .returning w fun e u' w'=>e = .returned (.tuple #[])/\u' = .returning/\w'=w:=by
 refine callsD_of_wpS func86 rfl fun c₀ cs hu=>?_
 have ha:=Lv;apply wpS_seq;apply wpS_region;simp[wpOpsS,go_sem,recoverD,hu,ha,ntmps86,Exit.thenS];refine wpS_of_wp ?_;go_wp2
 cases c₀;simp_all [bodyPostS,results,results86]
theorem TY(A B n:Nat)(u v:Value)(uf:List PanicEntry)(w:World)(hA:w.cell? ⟨A,0,none⟩=some u)(hAz:w.frozen? ⟨A,0,none⟩=false)(hB:w.cell? ⟨B,0,none⟩=some v)(hBz:w.frozen? ⟨B,0,none⟩=false)(hAB:B≠A) :
  CallsD prog 86 #[.pointer (some ⟨A,0,none⟩),.pointer (some ⟨B,0,none⟩)] (.panicking ({ v:=qW n,recovered:=false }::uf)) w fun e u' w' =>
   e = .returned (.tuple #[])/\u' = .panicking ({ v:=qW n,recovered:=true }::uf)/\w'=(w.setCell ⟨A,0,none⟩ (xg [])).setCell ⟨B,0,none⟩ (qW n):=by
 have ha:=Eu n;refine callsD_of_wpS func86 rfl fun c₀ cs hu=>?_
 apply wpS_seq;apply wpS_region;simp[wpOpsS,go_sem,recoverD,hu,ha,ntmps86,Exit.thenS];refine wpS_of_wp ?_;simp only[Array.replicate,zP,List.setIfInBounds_toArray,List.set_cons_zero,List.set_cons_succ,List.append_toArray,List.cons_append,List.nil_append,Act.put];have hB':(w.setCell ⟨A,0,none⟩ (xg [])).cell? ⟨B,0,none⟩=some v:=by rw[xk,if_neg (fun e=>hAB (congrArg Addr.block e).symm)];exact hB
 go_wp2;simp[bodyPostS,results,results86]
def OQ{σ:Type}(G:Nat->Prop)(I:Nat->σ->World->Prop)(J K:σ->World->Prop)(r:TZ σ)(w:World)(e:Ending)(w':World):Prop :=
 (match r with
  | .go k s=>e = .returned (.int .i64 (k:Nat))/\I k s w'
  | .fin s=>e = .returned (.int .i64 (-1))/\J s w'
  | .err n s=>(∃ uf:List PanicEntry,e = .panicked ({ v:=qW n,recovered:=false }::uf)/\uf.dropWhile (!·.goexit)=[])/\K s w'
  | .bad=>False)/\Fr G G w w'
def zn3{σ:Type}(G:Nat->Prop)(out:σ->Wd)(Z:σ->World->Prop)(r:Except (Nat×σ) σ)(w:World)(e:Ending)(w':World):Prop :=
 (match r with
  | .ok s=>e = .returned (.tuple #[xg (out s),.nilIface])/\Z s w'
  | .error (n,s)=>e = .returned (.tuple #[xg [],qW n])/\Z s w')/\Fr G G w w'
def TX(w:World)(p l g:Value):World:=((w.alloc (.cells #[xg []] 9)).alloc (.cells #[.nilIface] 73)).alloc (.cells #[p,l,g,.pointer none,.slice none 0 0,.slice none 0 0] 199)
theorem TV(w:World){A:Nat}(hA:w.heap.size=A):qw A (xg []) .nilIface ((w.alloc (.cells #[xg []] 9)).alloc (.cells #[.nilIface] 73)):=by
 have h1:(w.alloc (.cells #[xg []] 9)).heap.size=A+1:=by simp[hA]
 have xB:A<(w.alloc (.cells #[xg []] 9)).heap.size:=by omega
 refine⟨?_,?_,?_,?_⟩
 .rw[zZ _ _ _ xB,<-hA];exact xu _ _ _ _ _
 .rw[<-h1];exact xu _ _ _ _ _
 .rw[zu (zL _ _ _ xB)];subst hA;simp
 .rw[<-h1];simp
theorem qw.fr{A:Nat}{u v:Value}{w w':World}{F F':Nat->Prop}(h:qw A u v w)(hf:Fr F F' w w')(ha:¬F A)(hb:¬F (A+1)):qw A u v w' :=
 h.keep fun k hk=>hf.keep k (by have:=h.lt;omega) (by rcases hk with rfl|rfl<;>assumption)
def zqv{σ:Type}(G:Nat->Prop)(I:Nat->Nat->σ->World->Prop)(J:σ->World->Prop)(F:Nat->σ->TZ σ)(r:Except (Nat×σ) σ)(A:Nat)(w:World)(m:Nat)(kv:Value)(wr:World):Prop :=
 ((∃ k s,kv = .int .i64 (k:Nat)/\I m k s wr/\QY F m k s=some r)\/∃ s,kv = .int .i64 (-1)/\J s wr/\r = .ok s)/\qw A (xg []) .nilIface wr/\Fr G G w wr
theorem pO{σ:Type}(G:Nat->Prop)(I:Nat->Nat->σ->World->Prop)(J K Z:σ->World->Prop)(out:σ->Wd)(F:Nat->σ->TZ σ)(fuel:Nat)(s0:σ)(r:Except (Nat×σ) σ)(w:World)(pa la:Option Addr)(gf:Fn)(g1 g2:Array Value)
  (hGA:¬G w.heap.size) (hGB:¬G (w.heap.size+1)) (hG2:∀ k,w.heap.size+2<=k->G k) (h0:I fuel 0 s0 (TX w (.pointer pa) (.pointer la) (.func gf g1 g2)))
  (zqu:∀ s W,J s W->∃ v x0 x1 x2 st,q9 (w.heap.size+2) x0 x1 x2 st v (out s) W/\(∀ b,xY v b->w.heap.size+2<=b)/\(out s).length<=1000000000/\∀ W',Fr (fun k=>k=w.heap.size\/k=w.heap.size+1\/xY v k) (fun k=>k=w.heap.size\/k=w.heap.size+1\/xY v k) W W'->Z s W')
  (hK:∀ s W W',K s W->Fr (fun k=>k=w.heap.size\/k=w.heap.size+1) (fun k=>k=w.heap.size\/k=w.heap.size+1) W W'->Z s W')
  (vM:∀ m k s W,I (m+1) k s W->F k s ≠ .bad->Calls prog 87 #[.pointer (some ⟨w.heap.size+2,0,none⟩),.int .i64 (k:Nat)] W (OQ G (I m) J K (F k s) W))
  (hr:QY F fuel 0 s0=some r):Calls prog 53 #[.pointer pa,.pointer la,.func gf g1 g2] w (zn3 G out Z r w):=by
 have Nv:∀ (fn:Fn) (first cap:Array Value) (w:World),(zO fn first cap).run prog w = .ok (.func fn first cap) w:=fun _ _ _ _=>rfl
 obtain⟨A,hA⟩:=xX w.heap.size;rw[hA] at hGA hGB hG2 zqu vM hK;have Y7:=TV w hA;have yb5:=z7 zqu;have jD:=z7 vM;have HR:=z7 hr;have HKZ:=z7 hK;have HA:=z7 hA;have Nd:((w.alloc (.cells #[xg []] 9)).alloc (.cells #[.nilIface] 73)).heap.size=A+2:=by simp[hA]
 have R4:Fr G G w (TX w (.pointer pa) (.pointer la) (.func gf g1 g2)):=(((Fr.refl _ _).alloc _).alloc _).alloc _;have cK:qw A (xg []) .nilIface (TX w (.pointer pa) (.pointer la) (.func gf g1 g2)):=Y7.below ((zv _ _).alloc (zy _) _);obtain⟨W0,Jf⟩:=xX (TX w (.pointer pa) (.pointer la) (.func gf g1 g2));rw[Jf] at R4 cK h0;have aU:=z7 Jf;have H0:=z7 h0;have HF0:=z7 R4;clear zqu vM hr hK hA Y7 Jf h0 R4;go_enter_defers func53,ntmps53
 go_wp2_with fail;rw[HA.out];go_loopg [9] fuel (fun m kv wr=>zqv G I J F r A w m kv wr)
 case atStart =>
  have e:=aU.out;subst e;exact⟨.inl ⟨0,s0,rfl,H0.out,HR.out⟩,cK,HF0.out⟩
 case round =>
  obtain⟨aQ,vE,YG⟩:=hrel;have SW:=z7 vE;have JA:=z7 YG;clear Nd cK YG;rcases aQ with⟨k,s,rfl,hI,vH⟩|⟨s,rfl,hI,ZA⟩
  .obtain⟨m,hm⟩:∃ m,gk=m+1:=by
    refine⟨gk - 1,?_⟩;have:gk≠0:=fun e=>by rw[e] at vH;cases vH
    omega
   rw[hm,QY] at vH;have HM:=Lib.hid hm;have fQ:=Lib.hid vH;have E0:decide ((0:Int)<=(k:Int))=true:=by simp
   have HS:=z7 (jD.out m k s wr (by rw[<-hm];exact hI) (fun e=>by rw[e] at vH;cases vH));clear hm vH vE hI;go_wp2_with fail;refine HS.out.mono ?_;rintro e w1 ⟨hq,hf⟩;have Z5:=SW.out.fr hf hGA hGB;have Ve:=z7 (JA.out.trans hf);have vH:=fQ.out;obtain⟨o,ho⟩:=xX (F k s);rw[ho] at hq vH;clear ho hf HS fQ JA SW
   cases o with
   | go k' s' =>
    obtain⟨rfl,Mh⟩:=hq;have HI:=z7 Mh;have cJ:=z7 Z5;have fQ:=z7 (show QY F m k' s'=some r from vH);clear Mh Z5 vH;go_wp2;go_roundg m
    case measure=>have:=HM.out;omega
    case rel=>exact⟨.inl ⟨k',s',rfl,HI.out,fQ.out⟩,cJ.out,Ve.out⟩
   | fin s' =>
    obtain⟨rfl,Mh⟩:=hq;have HI:=z7 Mh;have cJ:=z7 Z5;have fQ:=z7 (show(some (.ok s'):Option (Except (Nat×σ) σ))=some r from vH);clear Mh Z5 vH;go_wp2;go_roundg m
    case measure=>have:=HM.out;omega
    case rel=>exact⟨.inr ⟨s',rfl,HI.out,(zU fQ.out).symm⟩,cJ.out,Ve.out⟩
   | bad=>exact hq.elim
   | err n s' =>
    obtain⟨⟨uf,rfl,hold⟩,Qr⟩:=hq;have HK':=z7 Qr;clear Qr;have yb6:=z7 hold;have fQ:=z7 (show(some (.error (n,s')):Option (Except (Nat×σ) σ))=some r from vH);clear hold vH;go_wp2;refine leaves_cons (f:=86) (args:=#[.pointer (some ⟨A,0,none⟩),.pointer (some ⟨A+1,0,none⟩)]) (by simp) (by simp[go_sem]) ?_;refine(TY A (A+1) _ _ _ _ _ Z5.c0 Z5.z0 Z5.c1 Z5.z1 (by omega)).mono ?_;rintro e u' Qm ⟨rfl,rfl,rfl⟩;have ZB:=(Z5.Xu (x:=xg [])).Ce (x:=qW n);have Ux:=ZB.c0;have SS:=ZB.c1;simp[Leaves,settle,results,results53,go_sem,Ux,SS,yb6.out];have hr:=zU fQ.out;rw[<-hr];exact⟨⟨rfl,HKZ.out s' _ _ HK'.out (((Fr.refl _ _).set (a:=⟨A,0,none⟩) _ (.inl (.inl rfl))).set (a:=⟨A+1,0,none⟩) _ (.inl (.inr rfl)))⟩,(Ve.out.set _ (.inr (by rw[HA.out];exact zy _))).set _ (.inr (by rw[HA.out];exact Nat.le_succ _))⟩
  .obtain⟨v,x0,x1,x2,st,ho,hv,hl,hz⟩:=yb5.out s wr hI;have HZ:=z7 hz;have HG:=z7 (pI hv ho hl);have cG:=z7 ZA;clear hI ZA ho hv hl vE hz;go_wp2_with fail;refine HG.out.mono ?_;rintro e w1 ⟨rfl,hb,tH⟩;have HFV:=z7 tH;clear tH;have Z5:=SW.out.keep (fun k hk=>hb.block k (by omega));have xB:=SW.out.lt;have ug:Fr G G w w1:=JA.out.trans ⟨hb.os,hb.tape,hb.output,hb.size,fun k hk hn=>hb.block k (Nat.lt_of_not_le fun q=>hn (hG2 k q)),fun _ q => .inl q⟩;have Ve:=z7 ug;obtain⟨t,ht⟩:=xX (out s);rw[ht];have HT:=z7 ht;have q0:=Z5.c0;have q1:=Z5.c1;have q2:=Z5.z0;have q3:=Z5.z1;have VC:=Z5.Xu (x:=xg t);have Gw:=VC.Ce (x := .nilIface);have q4:=VC.c1;have q5:=VC.z1;clear ug hb ht HG;go_wp2;refine leaves_cons (f:=86) (args:=#[.pointer (some ⟨A,0,none⟩),.pointer (some ⟨A+1,0,none⟩)]) (by simp) (by simp[go_sem]) ?_;refine(cV A (A+1) _).mono ?_;rintro e u' Qm ⟨rfl,rfl,rfl⟩;have Ux:=Gw.c0;have SS:=Gw.c1;simp[Leaves,settle,results,results53,go_sem,Ux,SS];rw[cG.out];exact⟨⟨by rw[<-HT.out],HZ.out _ (((HFV.out.wide (fun k hk => .inr (.inr hk))).set (a:=⟨A,0,none⟩) _ (.inl (.inl rfl))).set (a:=⟨A+1,0,none⟩) _ (.inl (.inr (.inl rfl))))⟩,(Ve.out.set _ (.inr (by rw[HA.out];exact zy _))).set _ (.inr (by rw[HA.out];exact Nat.le_succ _))⟩
theorem jX.below{q mb:Nat}{s:MkS}{vC vI:Value}{rs:List (Value×Value)}{w w':World}(h:jX q s vC vI rs mb w)(hb:Below w.heap.size w w'):jX q s vC vI rs mb w':=by
 have hf:Fr xI xI w w':=Fr.of hb;exact⟨hf.cell h.q0 id,hf.cell h.q1 id,hf.cell h.q2 id,hf.own h.cC (fun _ _ q=>q),hf.own h.cI (fun _ _ q=>q),h.rows.fr hf (fun _ q=>q.elim),h.mp.keep (hb.block mb h.mp.lt)⟩
def ky(l:List (Nat×Nat)):List Value:=l.flatMap fun x=>[.int .i64 (x.1:Nat),.int .i64 (x.2:Nat)]
theorem Fb(l:List (Nat×Nat)):(ky l).length=l.length*2:=by
 induction l with
 | nil=>rfl
 | cons a t ih=>simp only[ky,List.flatMap_cons,zk,zN,zg] at ih |-;omega
theorem Z6(a b:List (Nat×Nat)):ky (a++b)=ky a++ky b:=by simp[ky]
theorem kJ:ZS prog 253 105 (.agg #[.int .i64 0,.int .i64 0]) 2 16 :=
 ⟨underlying253,info_parts (by kernel_rfl),rfl,by decide,by decide⟩
theorem Xa:SZ 185 3:=⟨underlying185,underlying3,fun w=>by simp[go_sem]⟩
def FZ:Wd:=[111,116,104,101,114]
def QX(cl:Nat):List Wd->List (Nat×Nat)->Fo->List (Nat×Nat)
 | seen,acc,.uz k a _ r=>QX cl (k::seen) (if k∈seen then acc++[(7,a)] else acc) r
 | seen,acc,_=>if FZ∈seen then acc else acc++[(6,cl)]
def vr(base:Nat)(w:World)(v:Value)(l:List (Nat×Nat)):Prop:=w.ownsRow base 105 2 v l.length (ky l)
theorem VV{w:World}{b:Nat}{u v:Value}(h:w.cell? ⟨b,0,none⟩=some u)(h2:w.cell? ⟨b,1,none⟩=some v):∀ j x,[u,v][j]? = some x->w.cell? ((⟨b,0,none⟩:Addr).add j)=some x:=by
 intro j x hx;match j,hx with
 | 0,hx=>simp at hx;subst hx;exact h
 | 1,hx=>simp at hx;subst hx;rw[uR];exact h2
 | j+2,hx=>simp at hx
def RV(f:Wd->Option Nat)(seen:List Wd):Prop:=∀ k,(0<(f k).getD 0 ↔ k∈seen)/\(f k).getD 0<=seen.length
theorem RV.more{f:Wd->Option Nat}{seen:List Wd}(h:RV f seen)(k:Wd):RV (fun x=>if k=x then some ((f k).getD 0+1) else f x) (k::seen):=by
 intro x;have:=h x;have h2:=h k;by_cases hx:k=x
 .subst hx;simp;omega
 .simp only[hx,↓reduceIte,List.mem_cons,zN];have vy:¬x=k:=fun e=>hx e.symm
  refine⟨by rw[this.1];simp[vy],by omega⟩
theorem vr.Vw{base:Nat}{w w':World}{v:Value}{l:List (Nat×Nat)}(h:vr base w v l)(hb:Below w.heap.size w w'):vr base w' v l :=
 h.kept (row:=some w.heap.size) ⟨hb.os,hb.tape,hb.output,hb.size,fun i hi _=>hb.block i hi⟩ (by
  cases hv:v.ownBlock with
  | none=>exact .inl rfl
  | some g=>exact .inr (fun e=>by have:=(h.lt g hv).2;cases e;omega))
theorem vr.cD{base b:Nat}{w w':World}{v:Value}{l:List (Nat×Nat)}(h:vr base w v l)(hg:w.grownBy w' (some b))(hb:b<base):vr base w' v l :=
 h.kept hg (by
  cases hv:v.ownBlock with
  | none=>exact .inl rfl
  | some g=>exact .inr (fun e=>by have:=(h.lt g hv).1;cases e;omega))
theorem QV{w0 w:World}{mb:Nat}{v:Value}{l:List (Nat×Nat)}(h:vr (mb+1) w v l)(hm:w0.heap.size=mb):vr w0.heap.size w v l:=by
 obtain⟨h1,h2⟩:=h;refine⟨h1,?_⟩;rcases h2 with h2|⟨g,cap,cur,hv,hg,rest⟩
 .exact .inl h2
 .exact .inr ⟨g,cap,cur,hv,by omega,rest⟩
theorem Yc{lo hi:Nat}{w0:World}(b0:Nat)(n:Wd)(a fo:Nat)(of:Wd)(cl:Nat)(bs:Fo)(w:World)(hk:xr lo hi w0 w)
  (XQ:xZ lo hi w0 [.iface 177 (.pointer (some ⟨b0,0,none⟩))] (.br n a fo of cl bs .nil)) (Vr:(Fo.br n a fo of cl bs .nil).wf 2000000=true) :
  Calls prog 116 #[.pointer (some ⟨b0,0,none⟩)] w fun e w'=>(∃ v,e = .returned v/\vr w.heap.size w' v (QX cl [] [] bs))/\Below w.heap.size w w':=by
 have GM:=@run_makeMap prog;obtain⟨vt,b',ba,bc,ws,he,xG,xJ,ff,qK,jT,Mp,BI,Mr,KB,UR,_⟩:=XQ
 cases he;have ZJ:(decide (n.length<=4000001) && decide (fo<3) && bs.uk && decide (bs.len<=2000000) && bs.wf 2000000 && Fo.nil.wf 2000000)=true:=Vr;simp only[zx,decide_eq_true_eq] at ZJ;obtain⟨⟨⟨⟨⟨oh,Jj⟩,AE⟩,Dw⟩,qB⟩,_⟩:=ZJ;have HK:=z7 hk;have ot:=z7 UR;have Gu:=z7 KB;have HBL:=z7 AE;have Im:=z7 qB;have HC5:=z7 Mr;have c4:=xA hk BI xG xJ;obtain⟨R,hR⟩:=xX (QX cl [] [] bs);rw[hR];have HR:=z7 hR;have Z2:hi<=w.heap.size:=hk.1;obtain⟨mb,Hk⟩:=xX w.heap.size;have Ok:=z7 Hk;clear hk UR KB AE qB ff qK jT Mp BI Mr Vr hR;have Ek:=j5.made 3 w;rw[Hk] at Ek;have hbd:Below w.heap.size w (w.alloc (.map #[] 0)):=(zv _ _).alloc (zy _) _;have c4':(w.alloc (.map #[] 0)).cell? ⟨b0,4,none⟩=some (.slice ba bs.len bc):=(zZ _ _ _ (show b0<w.heap.size by omega)).trans c4;have zqq:(w.alloc (.map #[] 0)).heap.size=mb+1:=by simp[Hk]
 obtain⟨W0,Jf⟩:=xX (w.alloc (.map #[] 0));rw[Jf] at Ek hbd zqq;have aU:=z7 Jf;clear Jf;go_enter func116,ntmps116;go_wp2_with fail;clear c4 c4' Hk;go_loopw [2,12] (fun fv iv wr=>∃ i us xs r acc seen nm fm,iv = .int .i64 (i:Nat)/\i<=bs.len/\xZ lo hi w0 xs r/\r.uk=true/\r.wf 2000000=true/\us.length=i*3/\ws=us++xs/\i+r.len=bs.len/\Below w.heap.size w wr/\mb<wr.heap.size/\vr (mb+1) wr fv acc/\j5 3 wr mb nm fm/\nm<=i/\RV fm seen/\seen.length=i/\acc.length<=i/\QX cl seen acc r=R) (fun _ iv _=>bs.len - (intOf iv).toNat)
 case atStart =>
  rw[aU.out];exact⟨0,[],ws,bs,[],[],0,fun _=>none,rfl,zG _,ot.out,HBL.out,Im.out,rfl,rfl,by omega,hbd,by omega,zE _ _ _ _,Ek,zy _,(fun k=>by simp),rfl,zy _,HR.out⟩
 case round =>
  obtain⟨i,us,xs,r,acc,seen,nm,fm,rfl,hiL,fg,wJ,Hq,Vn,wG,kR,Ja,hmw,how,Vd,Jc,hsn,dW,uN,VB⟩:=hrel;have hkw:xr lo hi w0 wr:=HK.out.below Ja;have Lu:=z7 how;have It:=z7 Vd;have pZ:=z7 hsn;have HSL:=z7 dW;have A7:=z7 uN;have fI:=z7 VB;have nL:=z7 fg;have Ug:=z7 wJ;have zu6:=z7 Hq;have Io:=z7 wG;have B0:=z7 Vn;have aD:=z7 kR;obtain⟨fa,fc,rfl⟩:=xf how;clear fg wJ Hq wG Vn how Vd hsn dW uN VB;by_cases b8:i<bs.len
  .cases r with
   | nil=>exfalso;simp[Fo.len] at kR;omega
   | text t r=>have:=Ug.out;cases this
   | hash r=>have:=Ug.out;cases this
   | put n a r=>have:=Ug.out;cases this
   | num n a r=>have:=Ug.out;cases this
   | br n a fo of cl bs r=>have:=Ug.out;cases this
   | uz k0 a0 m0 r0 =>
    obtain⟨Rk,ma,mc,ms,Ct,XR,aB,Qg⟩:=nL.out;subst Ct;have Rj:ws.length=us.length+(Rk.length+3):=by rw[Io.out];simp
    have UO:∀ j v,[xg k0,.int .i64 (a0:Nat),.slice ma m0.len mc][j]? = some v->∃ (h:i*3+j<ws.length),ws[i*3+j]=v:=by
     intro j v hj;have hj3:j<3:=by
      apply zY;intro hc;rw[List.getElem?_eq_none (by simp;omega)] at hj
      cases hj
     refine⟨by have:=B0.out;omega,?_⟩;have h1:ws[i*3+j]? = some v:=by
      rw[Io.out,<-B0.out,List.getElem?_append_right (by omega),Nat.add_sub_cancel_left,<-hj];match j,hj3 with
      | 0,_=>rfl
      | 1,_=>rfl
      | 2,_=>rfl
     rw[List.getElem?_eq_getElem (by have:=B0.out;omega)] at h1;exact zU h1
    obtain⟨q0,p0⟩:=UO 0 _ rfl;obtain⟨q1,p1⟩:=UO 1 _ rfl;obtain⟨q2,p2⟩:=UO 2 _ rfl;obtain⟨g2,o2,rfl,Nt,Nh,d0⟩:=Gu.out (i*3+0) q0;obtain⟨ow,o2',hgg,_,_,d1⟩:=Gu.out (i*3+1) q1
    cases hgg;obtain⟨ow,o2',hgg,_,_,d2⟩:=Gu.out (i*3+2) q2
    cases hgg;rw[p0] at d0;rw[p1] at d1;rw[p2] at d2;have c0:=xA hkw d0 Nt Nh;have c1:=xA hkw d1 Nt Nh;have c2:=xA hkw d2 Nt Nh;simp only[Nat.add_zero,<-Nat.add_assoc] at c0 c1 c2;have p6:=z7 Qg;have k3:(i:Int)<(bs.len:Int):=by omega
    have k4:decide ((i:Int)<(bs.len:Int))=true:=by simp;omega
    have aC:(decide (k0.length<=4000001) && m0.vD && decide (m0.len<=2000000) && m0.wf 2000000 && r0.wf 2000000)=true:=zu6.out;simp only[zx,decide_eq_true_eq] at aC;obtain⟨⟨⟨⟨E0,_⟩,_⟩,_⟩,J0⟩:=aC;have p7:=z7 J0;have p8:=z7 (show r0.uk=true from Ug.out);have p9:=z7 (show i+(r0.len+1)=bs.len from aD.out);have ZH:Below wr.heap.size wr (wr.alloc (.cells #[xg k0,.int .i64 (a0:Nat),.slice ma m0.len mc] 183)):=(zv _ _).alloc (zy _) _;have hMA:=It.out.below ZH;have VE:=hMA.Kt Xa k0 (by omega);obtain⟨cn,JT⟩:=xX ((fm k0).getD 0);rw[JT] at VE;have gN:=z7 (pZ.out.more k0);rw[JT] at gN;have o8:=pZ.out k0;rw[JT] at o8;have Zd:cn<=i:=by have:=HSL.out;omega
    have HCN:=z7 JT;have HCK:=z7 o8.1;clear XR aB Qg d0 d1 d2 p0 p1 p2 UO JT o8 J0 hkw kR Rj;have hwA:=Ja.trans (ZH.mono (by have:=Ja.size;omega));by_cases dI:k0∈seen
    .have gx:=HCK.out.2 dI;have j1:decide ((0:Int)<(cn:Int))=true:=by simp;omega
     have j2:decide (0<cn)=true:=by simp;omega
     have TU:=z7 (show QX cl (k0::seen) (acc++[(7,a0)]) r0=R by rw[<-fI.out,QX,if_pos dI]);clear dI;have HMA:=z7 hMA;have HOA:=z7 (Lu.out.Vw ZH);clear hMA;go_wp2_with (at_builtin;refine kI ?_);intro W3 kg;have Ej:Below (wr.alloc (.cells #[xg k0,.int .i64 (a0:Nat),.slice ma m0.len mc] 183)).heap.size (wr.alloc (.cells #[xg k0,.int .i64 (a0:Nat),.slice ma m0.len mc] 183)) W3:=by rw[kg];exact(zv _ _).alloc (zy _) _
     have O4:(wr.alloc (.cells #[xg k0,.int .i64 (a0:Nat),.slice ma m0.len mc] 183)).heap.size=wr.heap.size+1:=by simp
     have Qt:=fun i=>xu (wr.alloc (.cells #[xg k0,.int .i64 (a0:Nat),.slice ma m0.len mc] 183)) #[.int .i64 7,.int .i64 (a0:Nat)] 105 (0,0) i
     rw[<-kg,O4] at Qt;have zn8:=(Ej.cell (p:=⟨wr.heap.size,0,none⟩) (by show wr.heap.size<_;omega)).trans (xu wr #[xg k0,.int .i64 (a0:Nat),.slice ma m0.len mc] 183 (0,0) 0);have DO:=z7 (HMA.out.below Ej);have TQ:=z7 (HOA.out.Vw Ej);have Gn:=Ej.size;have Xk:=hwA.trans (Ej.mono (by have:=Ja.size;omega));clear kg;refine qX kJ rfl _ _ rfl (mb+1) _ acc.length (ky acc) rfl TQ.out ⟨wr.heap.size+1,0,none⟩ 1 1 [.int .i64 7,.int .i64 (a0:Nat)] rfl rfl ?u1 ?u2 (by have:=A7.out;omega) (by omega) ?u3
     case u1=>exact VV (Qt 0) (Qt 1)
     case u2 =>
      intro u hu;simp at hu;rcases hu with rfl|rfl<;>rfl
     intro v4 w4 VU qt;have JM:=z7 (show vr (mb+1) w4 v4 (acc++[(7,a0)]) by unfold vr;rw[Z6,zk];exact VU);have xV:∀ k,(zj fa acc.length fc).ownBlock=some k->mb+1<=k/\k<wr.heap.size:=fun k hk=>Lu.out.lt k hk
     have hM4:=DO.out.keep (qt.block mb DO.out.lt (fun e=>by have:=xV mb e.symm;omega));have XC:Below w.heap.size w w4:=Xk.grown qt Xk.size (fun k hk=>by have:=xV k hk;have:=Ok.out;omega);have xj2:w4.cell? ⟨wr.heap.size,0,none⟩=some (xg k0):=qt.cell zn8 (fun e=>absurd (xV _ e.symm).2 (Nat.lt_irrefl _));obtain⟨fa4,fc4,rfl⟩:=xf VU;obtain⟨w5,Ao,G0,qm⟩:=hM4.put Xa k0 (by omega) ((cn:Int)+1) (cn+1) (by omega) (by omega) (by omega);have yb8:=hM4.Kt Xa k0 (by omega);rw[HCN.out] at yb8;have SX:=Lib.hid G0;have GI:=Lib.hid (JM.out.cD qm (by omega));have Uw:Below w.heap.size w w5:=XC.grown qm XC.size (fun k hk=>by cases hk;have:=Ok.out;omega);have zqk:=G0.lt;have zny:(acc.length+1)=(acc++[(7,a0)]).length:=by simp
     have th:=z7 (show vr (mb+1) w5 (.slice fa4 (acc.length+1) fc4) (acc++[(7,a0)]) from GI.out);clear VU qt xV G0 qm hM4 VE Qt zn8 zny;go_wp2;go_roundw
     case rel=>exact⟨i+1,us++[xg k0,.int .i64 (a0:Nat),.slice ma m0.len mc],Rk,r0,acc++[(7,a0)],k0::seen,nm+1,_,by simp,by omega,p6.out,p8.out,p7.out,by have:=B0.out;simp;omega,by rw[Io.out,zH];rfl,by have:=p9.out;omega,Uw,zqk,th.out,SX.out,by omega,gN.out,by simp[HSL.out],by have:=A7.out;simp;omega,TU.out⟩
     case measure=>simp only[intOf];omega
    .have gx:¬0<cn:=fun h=>dI (HCK.out.1 h)
     have j1:decide ((0:Int)<(cn:Int))=false:=by simp;omega
     have j2:decide (0<cn)=false:=by simp;omega
     have TU:=z7 (show QX cl (k0::seen) acc r0=R by rw[<-fI.out,QX,if_neg dI]);clear dI gx;obtain⟨w5,Ao,G0,qm⟩:=hMA.put Xa k0 (by omega) ((cn:Int)+1) (cn+1) (by omega) (by omega) (by omega);have SX:=z7 G0;have GI:=z7 ((Lu.out.Vw ZH).cD qm (by omega));have Uw:Below w.heap.size w w5:=hwA.grown qm hwA.size (fun k hk=>by cases hk;have:=Ok.out;omega);have zqk:=G0.lt;clear G0 qm hMA;go_wp2;go_roundw
     case rel=>exact⟨i+1,us++[xg k0,.int .i64 (a0:Nat),.slice ma m0.len mc],Rk,r0,acc,k0::seen,nm+1,_,by simp,by omega,p6.out,p8.out,p7.out,by have:=B0.out;simp;omega,by rw[Io.out,zH];rfl,by have:=p9.out;omega,Uw,zqk,GI.out,SX.out,by omega,gN.out,by simp[HSL.out],by have:=A7.out;omega,TU.out⟩
     case measure=>simp only[intOf];omega
  .have k4:decide ((i:Int)<(bs.len:Int))=false:=by simp;omega
   have vg:r = .nil:=by
    have:=Ug.out
    cases r<;>simp[Fo.len] at kR<;>first|rfl|omega
   have VE:(Instr.lookup 185 (.map (some mb)) (.string ⟨#[111,116,104,101,114]⟩) false).run prog wr = .ok (.int .i64 (((fm FZ).getD 0:Nat):Int)) wr:=It.out.Kt Xa FZ (by decide);have ar:=pZ.out FZ;obtain⟨cn,JT⟩:=xX ((fm FZ).getD 0);rw[JT] at VE ar;have c5:=xA hkw HC5.out xG xJ;have ve:QX cl seen acc r=if FZ∈seen then acc else acc++[(6,cl)]:=by rw[vg];rfl
   have HFN:=z7 (ve.symm.trans fI.out);have HOB:=z7 (QV Lu.out Ok.out);by_cases dI:FZ∈seen
   .have gx:=ar.1.2 dI;have j1:((cn:Int)==0)=false:=by simp;omega
    have VL:=z7 (show R=acc by rw[<-HFN.out,if_pos dI]);clear ar JT ve dI;go_wp2;go_ret;rw[VL.out];exact⟨⟨_,rfl,HOB.out⟩,Ja⟩
   .have gx:¬0<cn:=fun h=>dI (ar.1.1 h)
    have j1:((cn:Int)==0)=true:=by simp;omega
    have VL:=z7 (show R=acc++[(6,cl)] by rw[<-HFN.out,if_neg dI]);clear ar JT ve dI;go_wp2_with (at_builtin;refine kI ?_);intro W3 kg;have Ej:Below wr.heap.size wr W3:=by rw[kg];exact(zv _ _).alloc (zy _) _
    have Qt:=fun i=>xu wr #[.int .i64 6,.int .i64 (cl:Nat)] 105 (0,0) i
    rw[<-kg] at Qt;have TQ:=z7 (Lu.out.Vw Ej);have Gn:=Ej.size;have Xk:=Ja.trans (Ej.mono (by have:=Ja.size;omega));clear kg;refine qX kJ rfl _ _ rfl (mb+1) _ acc.length (ky acc) rfl TQ.out ⟨wr.heap.size,0,none⟩ 1 1 [.int .i64 6,.int .i64 (cl:Nat)] rfl rfl ?u4 ?u5 (by have:=A7.out;omega) (by omega) ?u6
    case u4=>exact VV (Qt 0) (Qt 1)
    case u5 =>
     intro u hu;simp at hu;rcases hu with rfl|rfl<;>rfl
    intro v4 w4 VU qt;have JM:=z7 (QV (show vr (mb+1) w4 v4 (acc++[(6,cl)]) by unfold vr;rw[Z6,zk];exact VU) Ok.out);have xV:∀ k,(zj fa acc.length fc).ownBlock=some k->mb+1<=k:=fun k hk=>(Lu.out.lt k hk).1
    have XC:Below w.heap.size w w4:=Xk.grown qt Xk.size (fun k hk=>by have:=xV k hk;have:=Ok.out;omega);clear VU qt xV;go_wp2;go_ret;rw[VL.out];exact⟨⟨_,rfl,JM.out⟩,XC⟩
theorem VQ{cl:Nat}(seen:List Wd)(acc:List (Nat×Nat))(n:Nat):(if FZ∈seen then acc else acc++[(6,cl)]).length<=acc.length+n+1:=by
 split
 .omega
 .rw[zk];show acc.length+1<=_;omega
theorem Ye(cl:Nat):∀ (f:Fo) (seen:List Wd) (acc:List (Nat×Nat)),(QX cl seen acc f).length<=acc.length+f.len+1
 | .uz k a m r,seen,acc=>by
  rw[QX];refine zX (Ye cl r _ _) ?_;split<;>simp[Fo.len]<;>omega
 | .nil,seen,acc=>VQ seen acc _
 | .text _ _,seen,acc=>VQ seen acc _
 | .hash _,seen,acc=>VQ seen acc _
 | .put _ _ _,seen,acc=>VQ seen acc _
 | .num _ _ _,seen,acc=>VQ seen acc _
 | .br _ _ _ _ _ _ _,seen,acc=>VQ seen acc _
def jg:Fo->Nat
 | .num _ _ _=>1
 | .br _ _ f _ _ _ _=>if f=0 then 2 else 1
 | _=>0
theorem OK{lo hi:Nat}{w0:World}(x:Fo)(u:Value)(n:Wd)(a:Nat)(w:World)(hk:xr lo hi w0 w)(XQ:xZ lo hi w0 [u] x)(hh:IA x=some (n,a)) :
  Calls prog 115 #[u] w fun e w'=>e = .returned (.int .i64 ((jg x:Nat):Int))/\w'=w:=by
 cases x with
 | nil=>cases hh
 | text t r=>cases hh
 | hash r=>cases hh
 | uz k0 a0 m0 r0=>cases hh
 | put n0 a0 r =>
  obtain⟨vt,b0,he,xG,xJ,ff,qK,fg⟩:=XQ
  cases he;have e1:=Nl b0;have e2:=BH b0;go_enter func115,ntmps115;go_wp2;go_ret;exact⟨rfl,rfl⟩
 | num n0 a0 r =>
  obtain⟨vt,b0,he,xG,xJ,ff,qK,fg⟩:=XQ
  cases he;have e1:=Uq b0;go_enter func115,ntmps115;go_wp2;go_ret;exact⟨rfl,rfl⟩
 | br n0 a0 fo of cl bs r =>
  obtain⟨vt,b0,ba,bc,ws,he,xG,xJ,ff,qK,jT,Mp,BI,Mr,KB,UR,fg⟩:=XQ
  cases he;have e1:=KU b0;have e2:=Qu b0;have c2:=xA hk jT xG xJ;by_cases hf:fo=0
  .have HF:=Lib.hid hf;have j1:((fo:Int)==0)=true:=by simp[hf]
   clear hf;go_enter func115,ntmps115;go_wp2;go_ret;have hkf:jg (.br n0 a0 fo of cl bs r)=2:=if_pos HF.out;rw[hkf];exact⟨rfl,rfl⟩
  .have HF:=Lib.hid hf;have j1:((fo:Int)==0)=false:=by simp;omega
   clear hf;go_enter func115,ntmps115;go_wp2;go_ret;have hkf:jg (.br n0 a0 fo of cl bs r)=1:=if_neg HF.out;rw[hkf];exact⟨rfl,rfl⟩
abbrev UA:=(Wd->Option Nat)×List (Nat×Nat)
def vO(s:UA)(n:Wd)(a k:Nat):UA :=
 if k≠0/\(s.1 n).isSome=true/\(s.1 n).getD 0≠k then (s.1,s.2++[(5,a)]) else if k≠0 then (fun y=>if n=y then some k else s.1 y,s.2) else s
def fK(s:UA):Fo->Out UA
 | .br n a f o cl bs r => .go true ((vO s n a (jg (.br n a f o cl bs r))).1,(vO s n a (jg (.br n a f o cl bs r))).2++QX cl [] [] bs)
 | .num n a _ => .go true (vO s n a 1)
 | .put n a _ => .go true (vO s n a 0)
 | _ => .go true s
theorem fO:SZ 254 255:=⟨underlying254,underlying255,fun w=>by simp[go_sem]⟩
structure Xc(lo hi:Nat)(w0:World)(B:Nat)(w:World)(s:UA)(room:Nat)(W:World):Prop where
 keep:xr lo hi w0 W
 hiB:hi<=B
 map:∃ nm,j5 255 W (B+1) nm s.1/\nm+room<=1000000000
 row:∃ v,W.cell? ⟨B,0,none⟩=some v/\vr (B+3) W v s.2
 kc:W.cell? ⟨B+2,0,none⟩=some (.map (some (B+1)))
 fz:W.frozen? ⟨B,0,none⟩=false
 jV:s.2.length+room<=1000000000
 Hf:Below B w W
theorem Xc.below{lo hi:Nat}{w0:World}{B:Nat}{w:World}{s:UA}{room:Nat}{W W':World}(h:Xc lo hi w0 B w s room W)(hb:Below W.heap.size W W'):Xc lo hi w0 B w s room W':=by
 obtain⟨h1,h2,⟨nm,h3,h3'⟩,⟨v,h4,h5⟩,h6,h7,h8,h9⟩:=h;have l1:B<W.heap.size:=z8 W _ h4;have l2:B+2<W.heap.size:=z8 W _ h6;exact⟨h1.below hb,h2,⟨nm,h3.below hb,h3'⟩,⟨v,(hb.cell (p:=⟨B,0,none⟩) l1).trans h4,h5.Vw hb⟩,(hb.cell (p:=⟨B+2,0,none⟩) l2).trans h6,(hb.frozen (p:=⟨B,0,none⟩) l1).trans h7,h8,h9.trans (hb.mono (by omega))⟩
theorem Xc.less{lo hi:Nat}{w0:World}{B:Nat}{w:World}{s:UA}{room room':Nat}{W:World}(h:Xc lo hi w0 B w s room W)(hr:room'<=room):Xc lo hi w0 B w s room' W:=by
 obtain⟨h1,h2,⟨nm,h3,h3'⟩,h4,h6,h7,h8,h9⟩:=h;exact⟨h1,h2,⟨nm,h3,by omega⟩,h4,h6,h7,by omega,h9⟩
theorem KL{w:World}{o:Oper}{a:Act}{K:Act->World->Prop}{Q:Exit->Act->World->Prop}
  (s x:Operand) (ho:o.op = .call { callee := .builtin .append,args:=#[s,x],argTypes:=#[253,253] })
  (base znx:Nat) (v u:Value) (acc l:List (Nat×Nat)) (hs:a.eval s=v) (hF:vr base w v acc) (hx:a.eval x=u) (hU:vr znx w u l) (MS:acc.length+l.length<=2147483648) (bM:base<=w.heap.size)
  (h:∀ v' w',vr base w' v' (acc++l)->w.grownBy w' v.ownBlock->K (a.put o.dst v') w'):Oper.wp prog o a w K Q:=by
 obtain⟨i,hi,hz,h2,h3⟩:=kJ.info;have hU0:=hU;rcases hU.2 with⟨hu,hn⟩|⟨g,cap,cur,hu,hg,hh,hnc,jS,dT,ht⟩
 .have hl:l=[]:=List.eq_nil_of_length_eq_zero hn;subst hl;have hr:=run_append_owned_none (P:=prog) (w:=w) base 253 o.type 105 i 2 kJ.under hi v acc.length (ky acc) hF;unfold Oper.wp execOp;simp only[ho,resolve,invoke,builtin,Sem.run_bind,Sem.run_pure,zD,zM,List.map_cons,List.map_nil,hs,hx,hu,hr];exact h v w (by simpa using hF) (N7 w _)
 .obtain⟨v',w',hr,k1,k2,_⟩:=run_append_own (P:=prog) w base 253 o.type 105 i _ 2 16 kJ.under hi hz h2 h3 kJ.Ua kJ.pos v acc.length (ky acc) hF ⟨g,0,none⟩ l.length cap (ky l) (Fb l)
   (fun j x hx=>by
    have hj:j<(ky l).length:=(List.getElem?_eq_some_iff.1 hx).1;rw[uR,<-hx];rw[Fb] at hj;obtain⟨g',vw,av,_,_,vQ⟩:=vZ hU0 (by omega);rw[hu] at av
    cases av;exact vQ j hj)
   (fun x hx=>by
    simp only[ky,List.mem_flatMap] at hx;obtain⟨y,_,hy⟩:=hx;simp at hy;rcases hy with rfl|rfl<;>rfl) (by unfold maxLen;omega) (by omega) bM
  unfold Oper.wp execOp;simp only[ho,resolve,invoke,builtin,Sem.run_bind,Sem.run_pure,zD,zM,List.map_cons,List.map_nil,hs,hx,hu,hr];exact h v' w' (by unfold vr;rw[Z6,zk];exact k1) k2
theorem Lq(x:Fo):jg x<=2:=by
 cases x<;>simp[jg];split<;>decide
theorem xr.cE{lo hi:Nat}{w W:World}(h:xr lo hi w W):xr lo hi w W.drew:=h
theorem QU{lo hi:Nat}{w0:World}{B:Nat}{w:World}{s:UA}{room room':Nat}{W W':World}{row:Option Nat}{v':Value}{l:List (Nat×Nat)}(h:Xc lo hi w0 B w s room W)(hg:W.grownBy W' row)(xV:∀ k,row=some k->B+3<=k)
  (hf:vr (B+3) W' v' (s.2++l)) (hr:room'+l.length<=room):Xc lo hi w0 B w (s.1,s.2++l) room' (W'.setCell ⟨B,0,none⟩ v'):=by
 obtain⟨h1,h2,⟨nm,h3,h3'⟩,⟨v,h4,h5⟩,h6,h7,h8,h9⟩:=h;have vy:∀ k,k<B+3->(some k:Option Nat)≠row:=fun k q1 q2=>by have:=xV k q2.symm;omega
 have l0:B<W.heap.size:=z8 W _ h4;have hb:∀ k,k<W.heap.size->k<B+3->k≠B->(W'.setCell ⟨B,0,none⟩ v').heap[k]? = W.heap[k]? := fun k q1 q2 q3=>(Below.heap_setCell _ _ _ _ q3).trans (hg.block k q1 (vy k q2))
 have l2:B+2<W.heap.size:=z8 W _ h6;have qc:W.heap.size<=(W'.setCell ⟨B,0,none⟩ v').heap.size:=zX hg.size (by simp[World.setCell]);have c0:W'.cell? ⟨B,0,none⟩=some v:=hg.cell h4 (vy B (by omega));refine⟨⟨zX h1.1 qc,fun k k1 k2=>(hb k (by have:=h1.1;omega) (by omega) (by omega)).trans (h1.2 k k1 k2)⟩,h2,⟨nm,h3.keep (hb (B+1) h3.lt (by omega) (by omega)),by omega⟩,⟨v',by rw[xk,if_pos rfl,c0];rfl,?_⟩,
  (World.cell?_of_block (a:=⟨B+2,0,none⟩) (hb (B+2) l2 (by omega) (by omega))).trans h6,?_,?_,?_⟩
 .exact ownsRow_setCell_below hf (a:=⟨B,0,none⟩) (by show B<B+3;omega) v'
 .rw[zf];exact(zu (a:=⟨B,0,none⟩) (hg.block B l0 (vy B (by omega)))).trans h7
 .show(s.2++l).length+room'<=_;rw[zk];omega
 .exact vJ (h9.grown hg (by omega) (fun k q=>by have:=xV k q;omega)) (zy _)
theorem Gk{lo hi:Nat}{w0:World}{B:Nat}{w:World}{s:UA}{room room' nm:Nat}{W W':World}{f:Wd->Option Nat}(h:Xc lo hi w0 B w s room W)(hm:j5 255 W' (B+1) (nm+1) f)(hg:W.grownBy W' (some (B+1)))
  (hn:nm+room<=1000000000) (hr:room'+1<=room):Xc lo hi w0 B w (f,s.2) room' W':=by
 obtain⟨h1,h2,_,⟨v,h4,h5⟩,h6,h7,h8,h9⟩:=h;have vy:∀ k,k≠B+1->(some k:Option Nat)≠some (B+1):=fun k q1 q2=>q1 (by cases q2;rfl)
 have l0:B<W.heap.size:=z8 W _ h4;refine⟨⟨zX h1.1 hg.size,fun k k1 k2=>(hg.block k (by have:=h1.1;omega) (vy k (by omega))).trans (h1.2 k k1 k2)⟩,h2,⟨nm+1,hm,by omega⟩,⟨v,hg.cell h4 (vy B (by omega)),h5.cD hg (by omega)⟩,
  hg.cell h6 (vy (B+2) (by omega)),?_,by show s.2.length+room'<=_;omega,h9.grown hg (by omega) (fun k q=>by cases q;omega)⟩
 exact(zu (a:=⟨B,0,none⟩) (hg.block B l0 (vy B (by omega)))).trans h7
theorem pP{lo hi:Nat}{w0:World}{B:Nat}{w:World}(x:Fo)(u:Value)(n:Wd)(a:Nat)(s:UA)(room:Nat)(W:World)(hI:Xc lo hi w0 B w s (room+x.wt) W)(XQ:xZ lo hi w0 [u] x)(Vr:x.wf 2000000=true)(hh:IA x=some (n,a)) :
  Calls prog 114 #[u,.agg #[xg n,.int .i64 (a:Nat)],.pointer (some ⟨B+2,0,none⟩),.pointer (some ⟨B,0,none⟩)] W (Sa (Xc lo hi w0 B w) room (fK s x)):=by
 have HI:=z7 hI;have HND:=z7 XQ;have wP:=z7 Vr;clear hI Vr
 cases x with
 | nil=>cases hh
 | text t r=>cases hh
 | hash r=>cases hh
 | uz k0 a0 m0 r0=>cases hh
 | put n0 a0 r =>
  obtain⟨vt,b0,he,xG,xJ,ff,qK,fg⟩:=XQ;obtain⟨rfl,rfl⟩:n=n0/\a=a0:=by cases hh;exact⟨rfl,rfl⟩
  cases he;have e1:=BH b0;have HI:=z7 (show Xc lo hi w0 B w s (room+1) W from HI.out);have oh:n.length<=4000001:=by have:=wP.out;simp[Fo.wf] at this;exact this.1
  obtain⟨kv,Ky⟩:=xX (jg (.put n a r));have DR:=z7 (fun W' hk=>OK (.put n a r) (.iface 172 (.pointer (some ⟨b0,0,none⟩))) n a W' hk HND.out rfl);have Ov:=z7 Ky;rw[Ky] at DR;clear Ky;go_enter func114,ntmps114;go_wp2_with fail;have ZH:Below W.heap.size W (W.alloc (.cells #[xg n,.int .i64 (a:Nat)] 114)):=(zv _ _).alloc (zy _) _;have Ux:=fun i=>xu W #[xg n,.int .i64 (a:Nat)] 114 (0,0) i
  have Yi:=HI.out.below ZH;obtain⟨W1,XY⟩:=xX (W.alloc (.cells #[xg n,.int .i64 (a:Nat)] 114));rw[XY] at Ux Yi |-
  have Mo:=Ux 0;have AJ:=Ux 1;clear XY Ux ZH;refine(DR.out W1 Yi.keep).mono ?_;rintro e W2 ⟨rfl,rfl⟩;obtain⟨nm,Vd,Jc⟩:=Yi.map;obtain⟨fv,hfc,YG⟩:=Yi.row;obtain⟨fa,fc,rfl⟩:=xf YG;have VE:=Vd.look fO n (by omega);have Az:=Yi.kc;have Uk:=Yi.fz;have Eg:=Yi.jV;have KD:=z7 Yi;have It:=z7 Vd;have JA:=z7 YG;have Kw:B+2<W2.heap.size:=z8 W2 _ Az;clear Yi Vd YG;obtain⟨kk,Qy⟩:=xX ((s.1 n).getD 0);obtain⟨bb,Zf⟩:=xX ((s.1 n).isSome);rw[Qy,Zf] at VE;have py:=z7 Qy;have Ax:=z7 Zf;clear Qy Zf DR;have E0:kv=0:=Ov.out.symm;subst E0;have HF:=z7 (KD.out.less (room':=room) (by omega));go_wp2;go_ret;have OJ:fK s (.put n a r) = .go true s:=by show Out.go true (vO s n a 0)=_;unfold vO;simp
  rw[OJ];exact⟨rfl,HF.out⟩
 | num n0 a0 r =>
  obtain⟨vt,b0,he,xG,xJ,ff,qK,fg⟩:=XQ;obtain⟨rfl,rfl⟩:n=n0/\a=a0:=by cases hh;exact⟨rfl,rfl⟩
  cases he;have e1:=Se b0;have HI:=z7 (show Xc lo hi w0 B w s (room+1) W from HI.out);have oh:n.length<=4000001:=by have:=wP.out;simp[Fo.wf] at this;exact this.1
  obtain⟨kv,Ky⟩:=xX (jg (.num n a r));have DR:=z7 (fun W' hk=>OK (.num n a r) (.iface 175 (.pointer (some ⟨b0,0,none⟩))) n a W' hk HND.out rfl);have Ov:=z7 Ky;rw[Ky] at DR;clear Ky;go_enter func114,ntmps114;go_wp2_with fail;have ZH:Below W.heap.size W (W.alloc (.cells #[xg n,.int .i64 (a:Nat)] 114)):=(zv _ _).alloc (zy _) _;have Ux:=fun i=>xu W #[xg n,.int .i64 (a:Nat)] 114 (0,0) i
  have Yi:=HI.out.below ZH;obtain⟨W1,XY⟩:=xX (W.alloc (.cells #[xg n,.int .i64 (a:Nat)] 114));rw[XY] at Ux Yi |-
  have Mo:=Ux 0;have AJ:=Ux 1;clear XY Ux ZH;refine(DR.out W1 Yi.keep).mono ?_;rintro e W2 ⟨rfl,rfl⟩;obtain⟨nm,Vd,Jc⟩:=Yi.map;obtain⟨fv,hfc,YG⟩:=Yi.row;obtain⟨fa,fc,rfl⟩:=xf YG;have VE:=Vd.look fO n (by omega);have Az:=Yi.kc;have Uk:=Yi.fz;have Eg:=Yi.jV;have KD:=z7 Yi;have It:=z7 Vd;have JA:=z7 YG;have Kw:B+2<W2.heap.size:=z8 W2 _ Az;clear Yi Vd YG;obtain⟨kk,Qy⟩:=xX ((s.1 n).getD 0);obtain⟨bb,Zf⟩:=xX ((s.1 n).isSome);rw[Qy,Zf] at VE;have py:=z7 Qy;have Ax:=z7 Zf;clear Qy Zf DR;have zqj:kv≠0:=by rw[<-Ov.out];exact Nat.one_ne_zero
  have ybz:kv<=2:=by rw[<-Ov.out];exact Lq _
  have j1:((kv:Int) !=0)=true:=by simp;omega
  have j1':((kv:Int)==0)=false:=by simp;omega
  have RZ:=z7 zqj
  cases bb with
  | false =>
   obtain⟨W4,Ao,J0,qt⟩:=It.out.put fO n (by omega) (kv:Int) kv rfl (by omega) (by omega);have jD:=z7 (show vO s n a kv=(fun y=>if n=y then some kv else s.1 y,s.2) by unfold vO;rw[if_neg (fun e=>by have:=e.2.1;rw[Ax.out] at this;cases this),if_pos RZ.out]);have HF:=z7 (Gk KD.out J0 qt (room':=room) Jc (by omega));clear J0 qt;go_wp2;go_ret;have OJ:fK s (.num n a r) = .go true ((fun y=>if n=y then some kv else s.1 y,s.2):UA):=by show Out.go true (vO s n a 1)=_;rw[show(1:Nat)=kv from Ov.out,jD.out]
   rw[OJ];exact⟨rfl,HF.out⟩
  | true =>
   by_cases jU:kk=kv
   .have j2:((kk:Int) !=(kv:Int))=false:=by simp[jU]
    have j3:(kk !=kv)=false:=by simp[jU]
    have FY:=z7 jU;clear jU;obtain⟨W4,Ao,J0,qt⟩:=It.out.put fO n (by omega) (kv:Int) kv rfl (by omega) (by omega);have jD:=z7 (show vO s n a kv=(fun y=>if n=y then some kv else s.1 y,s.2) by unfold vO;rw[if_neg (fun e=>e.2.2 (by rw[py.out];exact FY.out)),if_pos RZ.out]);have HF:=z7 (Gk KD.out J0 qt (room':=room) Jc (by omega));clear J0 qt;go_wp2;go_ret;have OJ:fK s (.num n a r) = .go true ((fun y=>if n=y then some kv else s.1 y,s.2):UA):=by show Out.go true (vO s n a 1)=_;rw[show(1:Nat)=kv from Ov.out,jD.out]
    rw[OJ];exact⟨rfl,HF.out⟩
   .have j2:((kk:Int) !=(kv:Int))=true:=by simp;omega
    have j3:(kk !=kv)=true:=by simp[jU]
    have FY:=z7 jU;clear jU;go_wp2_with (at_builtin;refine kI ?_);intro W3 kg;have uN:Below W2.heap.size W2 W3:=by rw[kg];exact(zv _ _).alloc (zy _) _
    have Qt:=fun i=>xu W2 #[.int .i64 5,.int .i64 (a:Nat)] 105 (0,0) i
    rw[<-kg] at Qt;have aF:=z7 (KD.out.below uN);have q3:=(uN.cell (z8 _ _ hfc)).trans hfc;have TQ:=z7 (JA.out.Vw uN);have Gn:=uN.size;clear kg;refine qX kJ rfl _ _ rfl (B+3) _ s.2.length (ky s.2) rfl TQ.out ⟨W2.heap.size,0,none⟩ 1 1 [.int .i64 5,.int .i64 (a:Nat)] rfl rfl ?w5V1 ?w5V2 (by omega) (by omega) ?w5V3
    case w5V1=>exact VV (Qt 0) (Qt 1)
    case w5V2 =>
     intro u hu;simp at hu;rcases hu with rfl|rfl<;>rfl
    intro v4 w4 VU qt;have Vi:vr (B+3) w4 v4 (s.2++[(5,a)]):=by unfold vr;rw[Z6,zk];exact VU
    have xV:∀ k,(zj fa s.2.length fc).ownBlock=some k->B+3<=k:=fun k hk=>(JA.out.lt k hk).1
    have vy:∀ k,k<B+3->(some k:Option Nat)≠(zj fa s.2.length fc).ownBlock:=fun k h1 h2=>by have:=xV k h2.symm;omega
    have q4:=qt.cell q3 (vy B (by omega));have z4:w4.frozen? ⟨B,0,none⟩=false:=(World.frozen?_of_block (a:=⟨B,0,none⟩) (qt.block B (World.block_lt_of_cell? _ _ q3) (vy B (by omega)))).trans aF.out.fz;have jD:=Lib.hid (show vO s n a kv=(s.1,s.2++[(5,a)]) by unfold vO;rw[if_pos ⟨RZ.out,Ax.out,fun e=>FY.out (py.out.symm.trans e)⟩]);have HF:=Lib.hid (QU (l:=[(5,a)]) (room':=room) aF.out qt xV Vi (by simp<;>omega));obtain⟨fa4,fc4,rfl⟩:=xf Vi;obtain⟨W4,DH⟩:=xX (w4.setCell ⟨B,0,none⟩ (.slice fa4 (s.2.length+1) fc4));have Lk:(s.2++[(5,a)]).length=s.2.length+1:=by simp
    rw[Lk,DH] at HF;have HW4:=z7 DH;clear VU qt xV Vi vy q3 TQ Lk;go_wp2;go_ret;have OJ:fK s (.num n a r) = .go true ((s.1,s.2++[(5,a)]):UA):=by show Out.go true (vO s n a 1)=_;rw[show(1:Nat)=kv from Ov.out,jD.out]
    rw[OJ];exact⟨rfl,HF.out⟩
 | br n0 a0 fo of cl bs r =>
  obtain⟨vt,b0,ba,bc,ws,he,xG,xJ,ff,qK,jT,Mp,BI,Mr,KB,UR,fg⟩:=XQ;obtain⟨rfl,rfl⟩:n=n0/\a=a0:=by cases hh;exact⟨rfl,rfl⟩
  cases he;have e1:=Qu b0;have HI:=z7 (show Xc lo hi w0 B w s (room+(2+bs.len)) W from HI.out);have oh:n.length<=4000001:=by have:=wP.out;simp[Fo.wf] at this;exact this.1.1.1.1.1
  have O0:=z7 (show xZ lo hi w0 [.iface 177 (.pointer (some ⟨b0,0,none⟩))] (.br n a fo of cl bs .nil) from⟨[],b0,ba,bc,ws,rfl,xG,xJ,ff,qK,jT,Mp,BI,Mr,KB,UR,rfl⟩);have zqg:=z7 (show(Fo.br n a fo of cl bs .nil).wf 2000000=true by have:=wP.out;simp[Fo.wf] at this |-;exact this.1);obtain⟨kv,Ky⟩:=xX (jg (.br n a fo of cl bs r));have DR:=z7 (fun W' hk=>OK (.br n a fo of cl bs r) (.iface 177 (.pointer (some ⟨b0,0,none⟩))) n a W' hk HND.out rfl);have Ov:=z7 Ky;rw[Ky] at DR;clear Ky;go_enter func114,ntmps114;go_wp2_with fail;have ZH:Below W.heap.size W (W.alloc (.cells #[xg n,.int .i64 (a:Nat)] 114)):=(zv _ _).alloc (zy _) _;have Ux:=fun i=>xu W #[xg n,.int .i64 (a:Nat)] 114 (0,0) i
  have Yi:=HI.out.below ZH;obtain⟨W1,XY⟩:=xX (W.alloc (.cells #[xg n,.int .i64 (a:Nat)] 114));rw[XY] at Ux Yi |-
  have Mo:=Ux 0;have AJ:=Ux 1;clear XY Ux ZH;refine(DR.out W1 Yi.keep).mono ?_;rintro e W2 ⟨rfl,rfl⟩;obtain⟨nm,Vd,Jc⟩:=Yi.map;obtain⟨fv,hfc,YG⟩:=Yi.row;obtain⟨fa,fc,rfl⟩:=xf YG;have VE:=Vd.look fO n (by omega);have Az:=Yi.kc;have Uk:=Yi.fz;have Eg:=Yi.jV;have KD:=z7 Yi;have It:=z7 Vd;have JA:=z7 YG;have Kw:B+2<W2.heap.size:=z8 W2 _ Az;clear Yi Vd YG;obtain⟨kk,Qy⟩:=xX ((s.1 n).getD 0);obtain⟨bb,Zf⟩:=xX ((s.1 n).isSome);rw[Qy,Zf] at VE;have py:=z7 Qy;have Ax:=z7 Zf;clear Qy Zf DR;have zqj:kv≠0:=by rw[<-Ov.out];by_cases h:fo=0<;>simp[jg,h]
  have ybz:kv<=2:=by rw[<-Ov.out];exact Lq _
  have j1:((kv:Int) !=0)=true:=by simp;omega
  have j1':((kv:Int)==0)=false:=by simp;omega
  have RZ:=z7 zqj
  cases bb with
  | false =>
   obtain⟨W4,Ao,J0,qt⟩:=It.out.put fO n (by omega) (kv:Int) kv rfl (by omega) (by omega);have jD:=z7 (show vO s n a kv=(fun y=>if n=y then some kv else s.1 y,s.2) by unfold vO;rw[if_neg (fun e=>by have:=e.2.1;rw[Ax.out] at this;cases this),if_pos RZ.out]);have HF:=z7 (Gk KD.out J0 qt (room':=(room+1+bs.len)) Jc (by omega));clear J0 qt;obtain⟨s1,uH⟩:∃ s1:UA,((fun y=>if n=y then some kv else s.1 y,s.2):UA)=s1:=⟨_,rfl⟩;rw[uH] at jD HF;clear uH;go_wp2_with fail;have q1:=HF.out.row;obtain⟨v1,q2,q3⟩:=q1;obtain⟨RU,RQ,rfl⟩:=xf q3;have Me:=z7 (fun W' hk=>Yc b0 n a fo of cl bs W' hk O0.out zqg.out);have TK:=z7 q3;refine rk (fun W':World=>W'.cell? ⟨B,0,none⟩=some (.slice RU (s1).2.length RQ)) 4 [0,1] 3 q2 ?_;(iterate 2 ((first|refine ty ?_|refine tn ?_);try simp only[pl]))
   refine xq ?_;refine UN 2 (fun K hK=>?_);go_simp;refine(Me.out W4.drew HF.out.keep.cE).mono ?_;rintro e W5 ⟨⟨vb,rfl,Ex⟩,jW⟩;have QQ:Below W4.heap.size W4 W5:=(zv _ W4).drew.trans jW;have cH:=HF.out.below QQ;have q5:W5.cell? ⟨B,0,none⟩=some (.slice RU (s1).2.length RQ):=(QQ.cell (z8 _ _ q2)).trans q2;have q6:=TK.out.Vw QQ;have z5:=cH.fz;have HI5:=z7 cH;have HFB:=z7 Ex;clear cH Ex;refine hK.out _ _ q5 (fun _=>?_);clear hK K;refine UN 3 (fun K hK=>?_);rw[if_pos (by rfl)];refine KL _ _ rfl (B+3) _ _ vb (s1).2 (QX cl [] [] bs) rfl q6 rfl HFB.out ?w8X1 ?w8X2 ?w8X3
   case w8X1 =>
    have:=Ye cl bs [] [];have:=HF.out.jV;simp only[zg] at *;omega
   case w8X2=>have h:=z8 _ _ HF.out.kc;have:=QQ.size;dsimp only at h;omega
   case w8X3 =>
    intro v6 W6 ZT RJ;have HF6:=z7 ZT;have xV:∀ k,(zj RU (s1).2.length RQ).ownBlock=some k->B+3<=k:=fun k hk=>(TK.out.lt k hk).1
    have vy:∀ k,k<B+3->(some k:Option Nat)≠(zj RU (s1).2.length RQ).ownBlock:=fun k h1 h2=>by have:=xV k h2.symm;omega
    have q7:=RJ.cell q5 (vy B (by omega));have q8:W6.frozen? ⟨B,0,none⟩=false:=(zu (a:=⟨B,0,none⟩) (RJ.block B (z8 _ _ q5) (vy B (by omega)))).trans z5;have cL:=QU (room':=room) HI5.out RJ xV ZT (by have:=Ye cl bs [] [];simp only[zg] at this;omega);obtain⟨fa6,fc6,rfl⟩:=xf ZT;refine hK.out _ _ q7 (fun _=>?_);clear hK K;refine BZ 4 (fun K hK=>?_);go_simp;refine hK.out _ _ ?_;clear hK K;refine BX ?_ _;rw[zk] at cL;have HI6:=z7 cL;clear cL;go_wp2;go_ret;have OJ:fK s (.br n a fo of cl bs r) = .go true (s1.1,s1.2++QX cl [] [] bs):=by
     show Out.go true ((vO s n a (jg (.br n a fo of cl bs r))).1,(vO s n a (jg (.br n a fo of cl bs r))).2++QX cl [] [] bs)=_;rw[Ov.out,jD.out]
    rw[OJ];exact⟨rfl,HI6.out⟩
  | true =>
   by_cases jU:kk=kv
   .have j2:((kk:Int) !=(kv:Int))=false:=by simp[jU]
    have j3:(kk !=kv)=false:=by simp[jU]
    have FY:=z7 jU;clear jU;obtain⟨W4,Ao,J0,qt⟩:=It.out.put fO n (by omega) (kv:Int) kv rfl (by omega) (by omega);have jD:=z7 (show vO s n a kv=(fun y=>if n=y then some kv else s.1 y,s.2) by unfold vO;rw[if_neg (fun e=>e.2.2 (by rw[py.out];exact FY.out)),if_pos RZ.out]);have HF:=z7 (Gk KD.out J0 qt (room':=(room+1+bs.len)) Jc (by omega));clear J0 qt;obtain⟨s1,uH⟩:∃ s1:UA,((fun y=>if n=y then some kv else s.1 y,s.2):UA)=s1:=⟨_,rfl⟩;rw[uH] at jD HF;clear uH;go_wp2_with fail;have q1:=HF.out.row;obtain⟨v1,q2,q3⟩:=q1;obtain⟨RU,RQ,rfl⟩:=xf q3;have Me:=z7 (fun W' hk=>Yc b0 n a fo of cl bs W' hk O0.out zqg.out);have TK:=z7 q3;refine rk (fun W':World=>W'.cell? ⟨B,0,none⟩=some (.slice RU (s1).2.length RQ)) 4 [0,1] 3 q2 ?_;(iterate 2 ((first|refine ty ?_|refine tn ?_);try simp only[pl]))
    refine xq ?_;refine UN 2 (fun K hK=>?_);go_simp;refine(Me.out W4.drew HF.out.keep.cE).mono ?_;rintro e W5 ⟨⟨vb,rfl,Ex⟩,jW⟩;have QQ:Below W4.heap.size W4 W5:=(zv _ W4).drew.trans jW;have cH:=HF.out.below QQ;have q5:W5.cell? ⟨B,0,none⟩=some (.slice RU (s1).2.length RQ):=(QQ.cell (z8 _ _ q2)).trans q2;have q6:=TK.out.Vw QQ;have z5:=cH.fz;have HI5:=z7 cH;have HFB:=z7 Ex;clear cH Ex;refine hK.out _ _ q5 (fun _=>?_);clear hK K;refine UN 3 (fun K hK=>?_);rw[if_pos (by rfl)];refine KL _ _ rfl (B+3) _ _ vb (s1).2 (QX cl [] [] bs) rfl q6 rfl HFB.out ?w9X1 ?w9X2 ?w9X3
    case w9X1 =>
     have:=Ye cl bs [] [];have:=HF.out.jV;simp only[zg] at *;omega
    case w9X2=>have h:=z8 _ _ HF.out.kc;have:=QQ.size;dsimp only at h;omega
    case w9X3 =>
     intro v6 W6 ZT RJ;have HF6:=z7 ZT;have xV:∀ k,(zj RU (s1).2.length RQ).ownBlock=some k->B+3<=k:=fun k hk=>(TK.out.lt k hk).1
     have vy:∀ k,k<B+3->(some k:Option Nat)≠(zj RU (s1).2.length RQ).ownBlock:=fun k h1 h2=>by have:=xV k h2.symm;omega
     have q7:=RJ.cell q5 (vy B (by omega));have q8:W6.frozen? ⟨B,0,none⟩=false:=(zu (a:=⟨B,0,none⟩) (RJ.block B (z8 _ _ q5) (vy B (by omega)))).trans z5;have cL:=QU (room':=room) HI5.out RJ xV ZT (by have:=Ye cl bs [] [];simp only[zg] at this;omega);obtain⟨fa6,fc6,rfl⟩:=xf ZT;refine hK.out _ _ q7 (fun _=>?_);clear hK K;refine BZ 4 (fun K hK=>?_);go_simp;refine hK.out _ _ ?_;clear hK K;refine BX ?_ _;rw[zk] at cL;have HI6:=z7 cL;clear cL;go_wp2;go_ret;have OJ:fK s (.br n a fo of cl bs r) = .go true (s1.1,s1.2++QX cl [] [] bs):=by
      show Out.go true ((vO s n a (jg (.br n a fo of cl bs r))).1,(vO s n a (jg (.br n a fo of cl bs r))).2++QX cl [] [] bs)=_;rw[Ov.out,jD.out]
     rw[OJ];exact⟨rfl,HI6.out⟩
   .have j2:((kk:Int) !=(kv:Int))=true:=by simp;omega
    have j3:(kk !=kv)=true:=by simp[jU]
    have FY:=z7 jU;clear jU;go_wp2_with (at_builtin;refine kI ?_);intro W3 kg;have uN:Below W2.heap.size W2 W3:=by rw[kg];exact(zv _ _).alloc (zy _) _
    have Qt:=fun i=>xu W2 #[.int .i64 5,.int .i64 (a:Nat)] 105 (0,0) i
    rw[<-kg] at Qt;have aF:=z7 (KD.out.below uN);have q3:=(uN.cell (z8 _ _ hfc)).trans hfc;have TQ:=z7 (JA.out.Vw uN);have Gn:=uN.size;clear kg;refine qX kJ rfl _ _ rfl (B+3) _ s.2.length (ky s.2) rfl TQ.out ⟨W2.heap.size,0,none⟩ 1 1 [.int .i64 5,.int .i64 (a:Nat)] rfl rfl ?w10V1 ?w10V2 (by omega) (by omega) ?w10V3
    case w10V1=>exact VV (Qt 0) (Qt 1)
    case w10V2 =>
     intro u hu;simp at hu;rcases hu with rfl|rfl<;>rfl
    intro v4 w4 VU qt;have Vi:vr (B+3) w4 v4 (s.2++[(5,a)]):=by unfold vr;rw[Z6,zk];exact VU
    have xV:∀ k,(zj fa s.2.length fc).ownBlock=some k->B+3<=k:=fun k hk=>(JA.out.lt k hk).1
    have vy:∀ k,k<B+3->(some k:Option Nat)≠(zj fa s.2.length fc).ownBlock:=fun k h1 h2=>by have:=xV k h2.symm;omega
    have q4:=qt.cell q3 (vy B (by omega));have z4:w4.frozen? ⟨B,0,none⟩=false:=(World.frozen?_of_block (a:=⟨B,0,none⟩) (qt.block B (World.block_lt_of_cell? _ _ q3) (vy B (by omega)))).trans aF.out.fz;have jD:=Lib.hid (show vO s n a kv=(s.1,s.2++[(5,a)]) by unfold vO;rw[if_pos ⟨RZ.out,Ax.out,fun e=>FY.out (py.out.symm.trans e)⟩]);have HF:=Lib.hid (QU (l:=[(5,a)]) (room':=(room+1+bs.len)) aF.out qt xV Vi (by simp<;>omega));obtain⟨fa4,fc4,rfl⟩:=xf Vi;obtain⟨W4,DH⟩:=xX (w4.setCell ⟨B,0,none⟩ (.slice fa4 (s.2.length+1) fc4));have Lk:(s.2++[(5,a)]).length=s.2.length+1:=by simp
    rw[Lk,DH] at HF;have HW4:=z7 DH;clear VU qt xV Vi vy q3 TQ Lk;obtain⟨s1,uH⟩:∃ s1:UA,((s.1,s.2++[(5,a)]):UA)=s1:=⟨_,rfl⟩;rw[uH] at jD HF;clear uH;go_wp2_with fail;clear DH;have q1:=HF.out.row;obtain⟨v1,q2,q3⟩:=q1;obtain⟨RU,RQ,rfl⟩:=xf q3;have Me:=z7 (fun W' hk=>Yc b0 n a fo of cl bs W' hk O0.out zqg.out);have TK:=z7 q3;refine rk (fun W':World=>W'.cell? ⟨B,0,none⟩=some (.slice RU (s1).2.length RQ)) 4 [0,1] 3 q2 ?_;(iterate 2 ((first|refine ty ?_|refine tn ?_);try simp only[pl]))
    refine xq ?_;refine UN 2 (fun K hK=>?_);go_simp;refine(Me.out W4.drew HF.out.keep.cE).mono ?_;rintro e W5 ⟨⟨vb,rfl,Ex⟩,jW⟩;have QQ:Below W4.heap.size W4 W5:=(zv _ W4).drew.trans jW;have cH:=HF.out.below QQ;have q5:W5.cell? ⟨B,0,none⟩=some (.slice RU (s1).2.length RQ):=(QQ.cell (z8 _ _ q2)).trans q2;have q6:=TK.out.Vw QQ;have z5:=cH.fz;have HI5:=z7 cH;have HFB:=z7 Ex;clear cH Ex;refine hK.out _ _ q5 (fun _=>?_);clear hK K;refine UN 3 (fun K hK=>?_);rw[if_pos (by rfl)];refine KL _ _ rfl (B+3) _ _ vb (s1).2 (QX cl [] [] bs) rfl q6 rfl HFB.out ?w10X1 ?w10X2 ?w10X3
    case w10X1 =>
     have:=Ye cl bs [] [];have:=HF.out.jV;simp only[zg] at *;omega
    case w10X2=>have h:=z8 _ _ HF.out.kc;have:=QQ.size;dsimp only at h;omega
    case w10X3 =>
     intro v6 W6 ZT RJ;have HF6:=z7 ZT;have xV:∀ k,(zj RU (s1).2.length RQ).ownBlock=some k->B+3<=k:=fun k hk=>(TK.out.lt k hk).1
     have vy:∀ k,k<B+3->(some k:Option Nat)≠(zj RU (s1).2.length RQ).ownBlock:=fun k h1 h2=>by have:=xV k h2.symm;omega
     have q7:=RJ.cell q5 (vy B (by omega));have q8:W6.frozen? ⟨B,0,none⟩=false:=(zu (a:=⟨B,0,none⟩) (RJ.block B (z8 _ _ q5) (vy B (by omega)))).trans z5;have cL:=QU (room':=room) HI5.out RJ xV ZT (by have:=Ye cl bs [] [];simp only[zg] at this;omega);obtain⟨fa6,fc6,rfl⟩:=xf ZT;refine hK.out _ _ q7 (fun _=>?_);clear hK K;refine BZ 4 (fun K hK=>?_);go_simp;refine hK.out _ _ ?_;clear hK K;refine BX ?_ _;rw[zk] at cL;have HI6:=z7 cL;clear cL;go_wp2;go_ret;have OJ:fK s (.br n a fo of cl bs r) = .go true (s1.1,s1.2++QX cl [] [] bs):=by
      show Out.go true ((vO s n a (jg (.br n a fo of cl bs r))).1,(vO s n a (jg (.br n a fo of cl bs r))).2++QX cl [] [] bs)=_;rw[Ov.out,jD.out]
     rw[OJ];exact⟨rfl,HI6.out⟩
def KM(m:Nat×Nat)(l:List (Nat×Nat)):Nat×Nat:=l.foldl (fun m x=>if x.2<m.2 then x else m) m
abbrev OG(x:Nat×Nat):Value := .agg #[.int .i64 (x.1:Nat),.int .i64 (x.2:Nat)]
theorem OD(x y:Nat×Nat)(w:World):Calls prog 118 #[OG x,OG y] w fun e w'=>e = .returned (.int .i64 (zV (x.2:Nat) (y.2:Nat)))/\Below w.heap.size w w':=by
 have HC:=z7 (fun W=>Tryz.cmp_Compare_int (x.2:Nat) (y.2:Nat) W);go_enter func118,ntmps118;go_wp2_with fail;refine(HC.out _).mono ?_;rintro e w' ⟨rfl,rfl⟩;go_wp2;go_ret;exact⟨rfl,((zv _ _).alloc (zy _) _).alloc (by simp) _⟩
theorem FX(l:List (Nat×Nat))(i:Nat)(h:i<l.length):(ky l)[i*2]? = some (.int .i64 (l[i].1:Nat))/\(ky l)[i*2+1]? = some (.int .i64 (l[i].2:Nat)):=by
 induction l generalizing i with
 | nil=>simp at h
 | cons a t ih =>
  cases i with
  | zero=>exact⟨rfl,rfl⟩
  | succ i =>
   have:=ih i (by simpa using h);have e1:(i+1)*2=i*2+2:=by omega
   have e2:ky (a::t) = .int .i64 (a.1:Nat) :: .int .i64 (a.2:Nat)::ky t:=rfl;rw[e1,e2];simpa using this
theorem TJ(m:Nat×Nat)(l:List (Nat×Nat))(i:Nat)(h:i<l.length):KM m (l.take (i+1))=if l[i].2<(KM m (l.take i)).2 then l[i] else KM m (l.take i):=by
 unfold KM;rw[zJ h,List.foldl_append];rfl
theorem Lj(x:Nat×Nat)(l:List (Nat×Nat))(base:Nat)(v:Value)(w:World)(hl:l.length<=2000000000)(hF:vr base w v (x::l)) :
  Calls prog 117 #[v,.func (.func 118) #[] #[]] w fun e w'=>e = .returned (OG (KM x l))/\Below w.heap.size w w':=by
 obtain⟨g,cap,rfl,Zw,je,vQ⟩:=vZ hF (by simp);obtain⟨n,hn⟩:=xX ((x::l).length);have Dc:=fun (args:Array Value) (w:World)=>enters_of func118 (by kernel_rfl) rfl args w
 have cM:=z7 (fun i (h:i<(x::l).length)=>And.intro ((vQ (i*2) (by omega)).trans (FX (x::l) i h).1) ((vQ (i*2+1) (by omega)).trans (FX (x::l) i h).2));have ff:=(cM.out 0 (by simp)).1;have qK:=(cM.out 0 (by simp)).2;simp only[Nat.zero_mul,Nat.zero_add,List.getElem_cons_zero] at ff qK;obtain⟨x1,x2⟩:=x;have bO:n=l.length+1:=by rw[<-hn];simp
 have j1:decide ((n:Int)<1)=false:=by simp;omega
 have HN:=z7 hn;rw[hn];have HN1:=z7 bO;have hz:1<=n:=by omega
 have Qw:n<=2000000001:=by omega
 have hgw:g<w.heap.size:=je;clear hF vQ hn bO;have jk:Below w.heap.size w ((w.alloc (.cells #[.int .i64 0,.int .i64 0] 105)).alloc (.cells #[.int .i64 x1,.int .i64 x2] 105)):=((zv _ _).alloc (zy _) _).alloc (by simp) _;have By:=fun i=>xu (w.alloc (.cells #[.int .i64 0,.int .i64 0] 105)) #[.int .i64 x1,.int .i64 x2] 105 (0,0) i
 have vg:∀ i,((w.alloc (.cells #[.int .i64 0,.int .i64 0] 105)).alloc (.cells #[.int .i64 x1,.int .i64 x2] 105)).cell? ⟨w.heap.size,i,none⟩=(#[.int .i64 0,.int .i64 0]:Array Value)[i]? := fun i=>by
  rw[zZ _ _ _ (by show w.heap.size<_;simp)];exact xu w _ _ _ _
 rw[show(w.alloc (.cells #[.int .i64 0,.int .i64 0] 105)).heap.size=w.heap.size+1 by simp] at By;have zqd:∀ i,((w.alloc (.cells #[.int .i64 0,.int .i64 0] 105)).alloc (.cells #[.int .i64 x1,.int .i64 x2] 105)).frozen? ⟨w.heap.size+1,i,none⟩=false:=fun i=>by
  rw[show w.heap.size+1=(w.alloc (.cells #[.int .i64 0,.int .i64 0] 105)).heap.size by simp];simp
 have zqb:∀ i,((w.alloc (.cells #[.int .i64 0,.int .i64 0] 105)).alloc (.cells #[.int .i64 x1,.int .i64 x2] 105)).frozen? ⟨w.heap.size,i,none⟩=false:=fun i=>by
  rw[zu (zL _ _ _ (by show w.heap.size<_;simp))];simp
 obtain⟨W0,Jf⟩:=xX ((w.alloc (.cells #[.int .i64 0,.int .i64 0] 105)).alloc (.cells #[.int .i64 x1,.int .i64 x2] 105));rw[Jf] at jk By vg zqb zqd;have HB0:=z7 jk;have aU:=z7 Jf;have HM0:=z7 By;have gB:=z7 vg;have HF0:=z7 zqb;have Ve:=z7 zqd;clear jk By vg zqb zqd Jf;go_enter func117,ntmps117;go_wp2_with fail;clear ff qK;go_loopw [6] (fun iv wr=>∃ (i:Nat) (m:Nat×Nat),iv = .int .i64 (i:Nat)/\1<=i/\i<=n/\KM (x1,x2) (l.take (i - 1))=m/\wr.cell? ⟨w.heap.size+1,0,none⟩=some (.int .i64 (m.1:Nat))/\wr.cell? ⟨w.heap.size+1,1,none⟩=some (.int .i64 (m.2:Nat))/\(∀ i,wr.frozen? ⟨w.heap.size+1,i,none⟩=false) /\
  (∃ u v,wr.cell? ⟨w.heap.size,0,none⟩=some u/\wr.cell? ⟨w.heap.size,1,none⟩=some v)/\(∀ i,wr.frozen? ⟨w.heap.size,i,none⟩=false)/\Below w.heap.size w wr) (fun iv _=>n - (intOf iv).toNat)
 case atStart =>
  rw[aU.out];exact⟨1,(x1,x2),rfl,zy _,hz,rfl,HM0.out 0,HM0.out 1,Ve.out,⟨_,_,gB.out 0,gB.out 1⟩,HF0.out,HB0.out⟩
 case round =>
  obtain⟨i,m,rfl,UM,dI,hm,ff,qK,Qv,⟨u0,v0,vg,VB⟩,Fu,qB⟩:=hrel;obtain⟨m1,m2⟩:=m;dsimp only at ff qK;have HM:=z7 hm;have HZ1:=z7 Qv;have HZ0:=z7 Fu;have Im:=z7 qB;clear hm qB;by_cases xB:i<n
  .have k2:decide ((i:Int)<(n:Int))=true:=by simp;omega
   have hlen:i<((x1,x2)::l).length:=by rw[HN.out];exact xB
   obtain⟨d0,d1⟩:=cM.out i hlen;have hli:((x1,x2)::l)[i]=l[i - 1]'(by have:=HN1.out;omega):=by
    obtain⟨k,rfl⟩:∃ k,i=k+1:=⟨i - 1,by omega⟩;simp
   rw[hli] at d0 d1;obtain⟨y,hy⟩:∃ y,l[i - 1]'(by have:=HN1.out;omega)=y:=⟨_,rfl⟩;rw[hy] at d0 d1;have kz:=z7 (show KM (x1,x2) (l.take i)=if y.2<m2 then y else (m1,m2) by
    have h:=TJ (x1,x2) l (i - 1) (by have:=HN1.out;omega);rw[show i - 1+1=i by omega,HM.out,hy] at h;exact h)
   obtain⟨y1,y2⟩:=y;dsimp only at d0 d1 kz;have e0:=(Im.out.cell (p:=⟨g,i*2,none⟩) hgw).trans d0;have e1:=(Im.out.cell (p:=⟨g,i*2+1,none⟩) hgw).trans d1;have pR:=z7 (fun W=>OD (y1,y2) (m1,m2) W);have jO:wr.drew.cell? ⟨g,i*2,none⟩=some (.int .i64 (y1:Nat))/\wr.drew.cell? ⟨g,i*2+1,none⟩=some (.int .i64 (y2:Nat))/\wr.drew.cell? ⟨w.heap.size+1,0,none⟩=some (.int .i64 (m1:Nat))/\wr.drew.cell? ⟨w.heap.size+1,1,none⟩=some (.int .i64 (m2:Nat)):=⟨e0,e1,ff,qK⟩;clear d0 d1 hy hli hlen;go_wp2_with fail;refine rt (fun W':World=>W'.cell? ⟨g,i*2,none⟩=some (.int .i64 (y1:Nat))/\W'.cell? ⟨g,i*2+1,none⟩=some (.int .i64 (y2:Nat))/\W'.cell? ⟨w.heap.size+1,0,none⟩=some (.int .i64 (m1:Nat))/\W'.cell? ⟨w.heap.size+1,1,none⟩=some (.int .i64 (m2:Nat))) [0,1,2,3,4,5] 2 jO ?_;(iterate 6 ((first|refine ty ?_|refine tn ?_);try simp only[pl]))
   refine xq ?_;refine jx 6 (fun K hK=>?_);go_simp;refine(pR.out wr.drew).mono ?_;rintro e w2 ⟨rfl,xJ⟩;have VO:Below wr.heap.size wr w2:=(zv _ wr).drew.trans xJ;have Hq:w.heap.size+1<wr.heap.size:=z8 _ _ ff;have Zd:(y2<m2/\zV (y2:Int) (m2:Int) = -1)\/(¬y2<m2/\zV (y2:Int) (m2:Int)=0)\/(¬y2<m2/\zV (y2:Int) (m2:Int)=1):=by
    unfold zV;by_cases h:(y2:Int)<(m2:Int)
    .exact .inl ⟨by omega,if_pos h⟩
    .by_cases h2:(y2:Int) > (m2:Int)
     .exact .inr (.inr ⟨by omega,by rw[if_neg h,if_pos h2]⟩)
     .exact .inr (.inl ⟨by omega,by rw[if_neg h,if_neg h2]⟩)
   dsimp only;have f0:=(VO.cell (p:=⟨w.heap.size+1,0,none⟩) Hq).trans ff;have f1:=(VO.cell (p:=⟨w.heap.size+1,1,none⟩) Hq).trans qK;have f2:=(VO.cell (p:=⟨g,i*2,none⟩) (by show g<_;omega)).trans e0;have f3:=(VO.cell (p:=⟨g,i*2+1,none⟩) (by show g<_;omega)).trans e1;have g0:=(VO.cell (p:=⟨w.heap.size,0,none⟩) (by show w.heap.size<_;omega)).trans vg;have g1:=(VO.cell (p:=⟨w.heap.size,1,none⟩) (by show w.heap.size<_;omega)).trans VB;have z1:∀ i,w2.frozen? ⟨w.heap.size+1,i,none⟩=false:=fun i=>(VO.frozen (p:=⟨w.heap.size+1,i,none⟩) Hq).trans (HZ1.out i)
   have z0:∀ i,w2.frozen? ⟨w.heap.size,i,none⟩=false:=fun i=>(VO.frozen (p:=⟨w.heap.size,i,none⟩) (by show w.heap.size<_;omega)).trans (HZ0.out i)
   have ZW:=Im.out.trans (VO.mono (by omega));have zk0:=z7 z1;have zk1:=z7 z0;have y0:=z1 0;have y1':=z1 1;clear z1 z0 jO e0 e1 ff qK vg VB VO;rcases Zd with⟨hy,Zd⟩|⟨hy,Zd⟩|⟨hy,Zd⟩
   .rw[Zd];have HS:=z7 (kz.out.trans (if_pos hy));clear Zd hy;refine hK.out _ _ ⟨f2,f3,f0,f1⟩ (fun _=>?_);clear hK K;refine VA [7] 0 ⟨f2,f3,f0,f1⟩ ?_;(iterate 1 ((first|refine ty ?_|refine tn ?_);try simp only[pl]))
    refine xq ?_;refine b7 ?_ _;go_wp2;go_roundw
    case rel =>
     exact⟨i+1,(y1,y2),by simp,by omega,by omega,by rw[zQ];exact HS.out,by rw[xk,if_neg (by simp),xk,if_pos rfl,f0];rfl,by rw[xk,if_pos rfl,xk,if_neg (by simp),f1];rfl,
      fun j=>by rw[zf,zf];exact zk0.out j,⟨_,_,(by rw[xk,if_neg (by simp),xk,if_neg (by simp)];exact g0),(by rw[xk,if_neg (by simp),xk,if_neg (by simp)];exact g1)⟩,
      fun j=>by rw[zf,zf];exact zk1.out j,vJ (vJ ZW (by omega)) (by omega)⟩
    case measure=>simp only[intOf];omega
   .rw[Zd];have HS:=z7 (kz.out.trans (if_neg hy));clear Zd hy;refine hK.out _ _ ⟨f2,f3,f0,f1⟩ (fun _=>?_);clear hK K;refine VA [7] 0 ⟨f2,f3,f0,f1⟩ ?_;(iterate 1 ((first|refine ty ?_|refine tn ?_);try simp only[pl]))
    refine xq ?_;refine b7 ?_ _;go_wp2;go_roundw
    case rel =>
     exact⟨i+1,(m1,m2),by simp,by omega,by omega,by rw[zQ];exact HS.out,f0,f1,zk0.out,⟨_,_,g0,g1⟩,zk1.out,ZW⟩
    case measure=>simp only[intOf];omega
   .rw[Zd];have HS:=z7 (kz.out.trans (if_neg hy));clear Zd hy;refine hK.out _ _ ⟨f2,f3,f0,f1⟩ (fun _=>?_);clear hK K;refine VA [7] 0 ⟨f2,f3,f0,f1⟩ ?_;(iterate 1 ((first|refine ty ?_|refine tn ?_);try simp only[pl]))
    refine xq ?_;refine b7 ?_ _;go_wp2;go_roundw
    case rel =>
     exact⟨i+1,(m1,m2),by simp,by omega,by omega,by rw[zQ];exact HS.out,f0,f1,zk0.out,⟨_,_,g0,g1⟩,zk1.out,ZW⟩
    case measure=>simp only[intOf];omega
  .have k2:decide ((i:Int)<(n:Int))=false:=by simp;omega
   have ve:KM (x1,x2) l=(m1,m2):=by
    rw[<-HM.out,List.take_of_length_le (by have:=HN1.out;omega)]
   have kW:=z7 ve;have z00:=Fu 0;have z01:=Fu 1;clear ve Fu Qv;have k0:((wr.setCell ⟨w.heap.size,0,none⟩ (.int .i64 (m1:Nat))).setCell ⟨w.heap.size,1,none⟩ (.int .i64 (m2:Nat))).cell? ⟨w.heap.size,0,none⟩=some (.int .i64 (m1:Nat)):=by rw[xk,if_neg (by simp),xk,if_pos rfl,vg];rfl
   have k1:((wr.setCell ⟨w.heap.size,0,none⟩ (.int .i64 (m1:Nat))).setCell ⟨w.heap.size,1,none⟩ (.int .i64 (m2:Nat))).cell? ⟨w.heap.size,1,none⟩=some (.int .i64 (m2:Nat)):=by rw[xk,if_pos rfl,xk,if_neg (by simp),VB];rfl
   go_wp2;refine bodyPost_ret (v := .agg #[.int .i64 (m1:Nat),.int .i64 (m2:Nat)]) ?_ rfl ?_
   .simp[results,results117,go_sem,k0,k1]
   rw[kW.out];exact⟨rfl,vJ (vJ Im.out (zy _)) (zy _)⟩
theorem OB(s:UA)(x:Fo):∃ s',fK s x = .go true s':=by
 cases x<;>exact⟨_,rfl⟩
theorem kG:∀ (f:Fo) (s:UA),∃ s',xO fK f s = .go true s'
 | .nil,s=>⟨s,rfl⟩
 | .text _ r,s=>kG r s
 | .hash r,s=>kG r s
 | .put n a r,s=>by
  obtain⟨s1,h1⟩:=OB s (.put n a .nil);rw[xO,h1];exact kG r s1
 | .num n a r,s=>by
  obtain⟨s1,h1⟩:=OB s (.num n a .nil);rw[xO,h1];exact kG r s1
 | .br n a f o c bs r,s=>by
  obtain⟨s1,h1⟩:=OB s (.br n a f o c bs .nil);obtain⟨s2,h2⟩:=kG bs s1;rw[xO,h1];show ∃ s',(xO fK bs s1).then _=_;rw[h2];exact kG r s2
 | .uz k a m r,s=>by
  obtain⟨s1,h1⟩:=kG m s;rw[xO,h1];exact kG r s1
def jH(f:Fo):List (Nat×Nat):=match xO fK f (fun _=>none,[]) with | .go _ s=>s.2 | .XO _ s=>s.2
def Z7(f:Fo):Option (Nat×Nat):=match jH f with | []=>none|x::l=>some (KM x l)
def yby(r:Option (Nat×Nat))(w:World)(e:Ending)(w':World):Prop :=
 (match r with
  | none=>e = .returned .nilIface
  | some (n,a)=>∃ b,e = .returned (.iface 101 (.pointer (some ⟨b,0,none⟩)))/\w'.cell? ⟨b,0,none⟩=some (.int .i64 n)/\w'.cell? ⟨b,1,none⟩=some (.int .i64 a))/\Below w.heap.size w w'
theorem TF{lo hi:Nat}(f:Fo)(a:Option Addr)(c:Nat)(vs:List Value)(w:World)(hm:f.vD=true)(hw:f.wf 2000000=true)(hl:f.len<=2000000)(hc:f.cnt<=1000000000)(xi:U6 lo hi w a vs)(ql:xZ lo hi w vs f)(Z2:hi<=w.heap.size) :
  Calls prog 79 #[.slice a f.len c] w (yby (Z7 f) w):=by
 have GM:=@run_makeMap prog;have Nv:∀ (fn:Fn) (first cap:Array Value) (w:World),(zO fn first cap).run prog w = .ok (.func fn first cap) w:=fun _ _ _ _=>rfl
 obtain⟨B,hB⟩:=xX w.heap.size;have HB:=z7 hB;have hY:Ci lo hi w (.func (.func 114) #[] #[.pointer (some ⟨B+2,0,none⟩),.pointer (some ⟨B,0,none⟩)]) (Xc lo hi w B w) fK :=
  ⟨⟨_,_,rfl,fun args w=>enters_of func114 (by kernel_rfl) rfl args w,fun s room W x u n a hI XQ Vr hh=>pP x u n a s room W hI XQ Vr hh⟩,fun s b W h=>h.keep,fun s b W W' h hb=>h.below hb,fun s b b' W h hb=>h.less hb⟩
 have HE:=z7 (fun W hI=>F9 hY (SizeOf.sizeOf f+1) f (Nat.lt_succ_self _) hm hw hl ((fun _=>none),[]) 0 W a c vs hI xi ql);obtain⟨s,hs⟩:=kG f ((fun _=>none),[]);rw[hs] at HE;have A4:jH f=s.2:=by unfold jH;rw[hs]
 have AM:=z7 (show Z7 f=match s.2 with | []=>none|x::l=>some (KM x l) by unfold Z7;rw[A4]);have Xg:∀ o1 o2 o3,((w.alloc o1).alloc o2).alloc o3=((w.alloc o1).alloc o2).alloc o3:=fun _ _ _=>rfl
 have hI0:Xc lo hi w B w ((fun _=>none),[]) (0+f.cnt) (((w.alloc (.cells #[.slice none 0 0] 253)).alloc (.map #[] 0)).alloc (.cells #[.map (some (B+1))] 254)):=by
  have h1:(w.alloc (.cells #[.slice none 0 0] 253)).heap.size=B+1:=by simp[hB]
  have h2:((w.alloc (.cells #[.slice none 0 0] 253)).alloc (.map #[] 0)).heap.size=B+2:=by simp[hB]
  have b1:Below w.heap.size w (w.alloc (.cells #[.slice none 0 0] 253)):=(zv _ _).alloc (zy _) _;have b2:=fun o=>(zv (w.alloc (.cells #[.slice none 0 0] 253)).heap.size (w.alloc (.cells #[.slice none 0 0] 253))).alloc (zy _) o
  have b3:=fun o=>(zv ((w.alloc (.cells #[.slice none 0 0] 253)).alloc (.map #[] 0)).heap.size ((w.alloc (.cells #[.slice none 0 0] 253)).alloc (.map #[] 0))).alloc (zy _) o
  have bb:=(b1.trans ((b2 (.map #[] 0)).mono (by omega))).trans ((b3 (.cells #[.map (some (B+1))] 254)).mono (by omega));have c1:=xu w #[.slice none 0 0] 253 (0,0) 0;rw[hB] at c1;have Qv:(w.alloc (.cells #[.slice none 0 0] 253)).frozen? ⟨B,0,none⟩=false:=by rw[<-hB];simp
  have c2:=j5.made 255 (w.alloc (.cells #[.slice none 0 0] 253));rw[h1] at c2;have c3:=xu ((w.alloc (.cells #[.slice none 0 0] 253)).alloc (.map #[] 0)) #[.map (some (B+1))] 254 (0,0) 0;rw[h2] at c3;refine⟨(xW (by omega)).below bb,by omega,⟨0,c2.below (b3 _),by omega⟩,⟨.slice none 0 0,?_,zE _ _ _ _⟩,c3,?_,by simp;omega,by have h:=bb;rw[hB] at h;exact h⟩
  .rw[(b3 _).cell (p:=⟨B,0,none⟩) (by show B<_;omega),(b2 _).cell (p:=⟨B,0,none⟩) (by show B<_;omega)];exact c1
  .rw[(b3 _).frozen (p:=⟨B,0,none⟩) (by show B<_;omega),(b2 _).frozen (p:=⟨B,0,none⟩) (by show B<_;omega)];exact Qv
 have HI0:=z7 hI0;clear hI0 hs A4 hY Xg xi ql;go_enter func79,ntmps79;go_wp2_with fail;refine(HE.out _ HI0.out).mono ?_;rintro e w2 ⟨rfl,hI2⟩;obtain⟨v,hc,hF⟩:=hI2.row;obtain⟨fa,fc,rfl⟩:=xf hF;have HF:=z7 hF;have F8:Below w.heap.size w w2:=by rw[HB.out];exact hI2.Hf
 have Eg:=hI2.jV;clear hI2 hF HE HI0;obtain⟨s1,l⟩:=s;dsimp only at *
 cases l with
 | nil =>
  have HX:=z7 (show Z7 f=none from AM.out);go_wp2;go_ret;rw[HX.out];exact⟨rfl,F8⟩
 | cons x l =>
  have HX:=Lib.hid (show Z7 f=some (KM x l) from AM.out);have hlen:(x::l).length=l.length+1:=rfl;rw[hlen] at hc;have j1:(((l.length+1:Nat):Int)==0)=false:=by simp;omega
  have HMI:=z7 (Lj x l (B+3) (.slice fa (l.length+1) fc) w2 (by simp at Eg;omega) HF.out);clear hlen Eg;go_wp2_with fail;refine HMI.out.mono ?_;rintro e w3 ⟨rfl,ub⟩;obtain⟨m,By⟩:=xX (KM x l);obtain⟨m1,m2⟩:=m;rw[By] at HX |-
  clear By;have zz1:=F8.trans (ub.mono F8.size);have uN:=(zv w3.heap.size w3).alloc (zy _) (.cells #[.int .i64 m1,.int .i64 m2] 105);have jS:=fun i=>xu w3 #[.int .i64 m1,.int .i64 m2] 105 (0,0) i
  go_wp2;go_ret;rw[HX.out];exact⟨⟨_,rfl,jS 0,jS 1⟩,zz1.trans (uN.mono zz1.size)⟩
theorem Fo.Yl{N:Nat}:∀ f g:Fo,f.wf N=true->g.wf N=true->(f.app g).wf N=true
 | .nil,g,_,h=>h
 | .text t r,g,h,h2=>Fo.Yl r g h h2
 | .hash r,g,h,h2=>Fo.Yl r g h h2
 | .put n a r,g,h,h2=>by
  simp only[Fo.wf,Fo.app,zx] at h |-
  exact⟨h.1,Fo.Yl r g h.2 h2⟩
 | .num n a r,g,h,h2=>by
  simp only[Fo.wf,Fo.app,zx] at h |-
  exact⟨h.1,Fo.Yl r g h.2 h2⟩
 | .br n a f o c b r,g,h,h2=>by
  simp only[Fo.wf,Fo.app,zx] at h |-
  exact⟨h.1,Fo.Yl r g h.2 h2⟩
 | .uz k a m r,g,h,h2=>by
  simp only[Fo.wf,Fo.app,zx] at h |-
  exact⟨h.1,Fo.Yl r g h.2 h2⟩
theorem Fo.bd:∀ f g:Fo,(f.app g).cnt=f.cnt+g.cnt
 | .nil,g=>by simp[Fo.app,Fo.cnt]
 | .text t r,g=>Fo.bd r g
 | .hash r,g=>Fo.bd r g
 | .put n a r,g=>by simp only[Fo.app,Fo.cnt,Fo.bd r g];omega
 | .num n a r,g=>by simp only[Fo.app,Fo.cnt,Fo.bd r g];omega
 | .br n a f o c b r,g=>by simp only[Fo.app,Fo.cnt,Fo.bd r g];omega
 | .uz k a m r,g=>by simp only[Fo.app,Fo.cnt,Fo.bd r g];omega
structure jQ(f:Fo)(n:Nat):Prop where
 msg:f.vD=true
 wf:f.wf 2000000=true
 len:f.len<=n
 cnt:f.cnt<=n
theorem jQ.nil:jQ .nil 0:=⟨rfl,rfl,zy _,zy _⟩
theorem jQ.app{f g:Fo}{n m:Nat}(h:jQ f n)(k:jQ g m):jQ (f.app g) (n+m) :=
 ⟨Fo.uW _ _ h.msg k.msg,Fo.Yl _ _ h.wf k.wf,by rw[Fo.uX];have:=h.len;have:=k.len;omega,by rw[Fo.bd];have:=h.cnt;have:=k.cnt;omega⟩
theorem jQ.text(t:Wd):jQ (.text t .nil) 1:=⟨rfl,rfl,zy _,zG _⟩
theorem jQ.more{f:Fo}{n m:Nat}(h:jQ f n)(k:n<=m):jQ f m:=⟨h.msg,h.wf,zX h.len k,zX h.cnt k⟩
theorem UZ{N:Nat}:∀ (f g:Fo),(f.app g).wf N=true->f.wf N=true
 | .nil,g,_=>rfl
 | .text t r,g,h=>UZ r g h
 | .hash r,g,h=>UZ r g h
 | .put n a r,g,h=>by
  simp only[Fo.wf,Fo.app,zx] at h |-
  exact⟨h.1,UZ r g h.2⟩
 | .num n a r,g,h=>by
  simp only[Fo.wf,Fo.app,zx] at h |-
  exact⟨h.1,UZ r g h.2⟩
 | .br n a f o c b r,g,h=>by
  simp only[Fo.wf,Fo.app,zx] at h |-
  exact⟨h.1,UZ r g h.2⟩
 | .uz k a m r,g,h=>by
  simp only[Fo.wf,Fo.app,zx] at h |-
  exact⟨h.1,UZ r g h.2⟩
theorem jQ.xL{f:Fo}{n:Nat}(h:jQ f n)(t:Wd):jQ (f.xL t) (n+1):=by
 cases hl:f.xD with
 | none=>rw[uZ f t hl];exact h.app (jQ.text t)
 | some s =>
  obtain⟨pre,h1,h2,h3⟩:=uq f s hl;have hw:=h.wf;have hlen:=h.len;have ZV:=h.cnt;rw[h1] at hw hlen ZV;rw[h3];refine⟨Fo.uW _ _ (h2 h.msg) rfl,Fo.Yl _ _ (UZ _ _ hw) rfl,?_,?_⟩
  .rw[Fo.uX] at hlen |-
   simp only[Fo.len] at hlen |-
   omega
  .rw[Fo.bd] at ZV |-
   simp only[Fo.cnt] at ZV |-
   omega
structure RG(f:Fo)(n:Nat):Prop where
 pS:f.uk=true
 wf:f.wf 2000000=true
 cnt:f.cnt+f.len<=n
def QK(rs:List Int)(m:kN):Prop:=∀ num i f j,m num i = .ok (f,j)->i<=j/\jQ f (j - i)
theorem RF{rs:List Int}{i:Nat}{r:Int}(h:xU rs i=r)(hr:r≠-1):i<rs.length:=by
 apply zY;intro hc;rw[kM (by omega)] at h;exact hr h.symm
section
variable {rs:List Int} (ZA:rs.length<=1000000)
include ZA
theorem BW{i j:Nat}{x:Wd}(h:gK rs i = .ok (x,j)):x.length<=4000000/\i<j:=by
 refine⟨?_,gJ h⟩;unfold gK at h;split at h
 .cases h
 .cases h;have:=bp rs i (qe rs i);omega
theorem OC{i j:Nat}{x:Wd}(h:kK rs i = .ok (x,j)):x.length<=4000000/\i<j:=by
 refine⟨?_,YN h⟩;unfold kK at h;split at h
 .cases h
 .cases h;have:=bp rs i (qd rs i);omega
theorem cN{num:Bool}{i j:Nat}{x:Wd}(h:Kg rs num i = .ok (x,j)):x.length<=4000001/\i<j:=by
 unfold Kg at h;split at h
 .obtain⟨a,q,h1,h2⟩:=xd h
  cases h2;have:=OC ZA h1;simp;omega
 .obtain⟨a,q,h1,h2⟩:=xd h;split at h2
  .cases h2
  .cases h2;have:=BW ZA h1;omega
theorem TD{msg:Option kN}{num:Bool}{i j:Nat}{f:Fo}(hm:∀ m,msg=some m->QK rs m)(h:Xv rs msg num i = .ok (f,j)):i<j/\RG f (j - i)/\f.len=1:=by
 unfold Xv at h;obtain⟨k,a,h1,h2⟩:=xd h;obtain⟨u,b,h3,h4⟩:=xd h2;have e1:=cN ZA h1;have e2:=(xP h3).2;have e3:=xN rs a
 cases msg with
 | none=>cases h4
 | some m =>
  obtain⟨g,c,h5,h6⟩:=xd (show(m num b).then _=_ from h4);obtain⟨u2,z,h7,h8⟩:=xd h6;obtain⟨e4,hg⟩:=hm m rfl _ _ _ _ h5;have e5:=xP h7;have e6:=xN rs z;have e7:=RF e5.1 (by decide)
  cases h8;have hl:=hg.len;have hc:=hg.cnt;refine⟨by omega,⟨rfl,?_,?_⟩,rfl⟩
  .have hml:g.len<=2000000:=by omega
   simp only[Fo.wf,zx,decide_eq_true_eq];exact⟨⟨⟨⟨by omega,hg.msg⟩,hml⟩,hg.wf⟩,trivial⟩
  .simp only[Fo.cnt,Fo.len];omega
theorem FV{msg:Option kN}{num:Bool}(hm:∀ m,msg=some m->QK rs m):∀ (n:Nat) (acc:Fo) (i j b:Nat) (f:Fo),ji rs msg num n acc i = .ok (f,j)->RG acc b->i<=j/\RG f (b+(j - i))
 | 0,acc,i,j,b,f,h,_=>by cases h
 | n+1,acc,i,j,b,f,h,ha=>by
  rw[ji] at h;split at h
  .cases h;exact⟨zy _,by simpa using ha⟩
  .obtain⟨g,q,h1,h2⟩:=xd h;obtain⟨e1,hg,_⟩:=TD ZA hm h1;have hag:RG (acc.app g) (b+(q - i)):=⟨Fo.bh _ _ ha.pS hg.pS,Fo.Yl _ _ ha.wf hg.wf,by rw[Fo.bd,Fo.uX];have:=ha.cnt;have:=hg.cnt;omega⟩;obtain⟨e2,hf⟩:=FV hm n _ _ _ _ _ h2 hag;exact⟨by omega,⟨hf.pS,hf.wf,by have:=hf.cnt;omega⟩⟩
theorem TB{msg:Option kN}{i j:Nat}{f:Fo}(hm:∀ m,msg=some m->QK rs m)(h:YI rs msg i = .ok (f,j)):i<j/\jQ f (j - i):=by
 unfold YI at h;obtain⟨u,a,h1,h2⟩:=xd h;obtain⟨nm,b,h3,h4⟩:=xd h2;have e1:=(xP h1).2;have e2:=xN rs a;have e3:=BW ZA h3;have e4:=xN rs b;clear h h1 h2 h3;split at h4
 .obtain⟨u,z,h5,h6⟩:=xd h4;have:=(xP h5).2
  cases h6;refine⟨by omega,rfl,?_,by simp[Fo.len];omega,by simp[Fo.cnt];omega⟩;simp only[Fo.wf,zx,decide_eq_true_eq];exact⟨by omega,trivial⟩
 .obtain⟨wd,c,h5,h6⟩:=xd h4;have e5:=gJ h5;have e6:=xN rs (xh rs b+1);have e7:=xN rs c;clear h4 h5;split at h6
  .obtain⟨u,z,h7,h8⟩:=xd h6;have:=(xP h7).2
   cases h8;refine⟨by omega,rfl,?_,by simp[Fo.len];omega,by simp[Fo.cnt];omega⟩;simp only[Fo.wf,zx,decide_eq_true_eq];exact⟨by omega,trivial⟩
  .split at h6
   .cases h6
   .next form RD =>
    obtain⟨u,d,h7,h8⟩:=xd h6;obtain⟨o,l,h9,du⟩:=xd h8;obtain⟨bs,q,Qn,Qp⟩:=xd du;obtain⟨u,z,oD,oB⟩:=xd Qp;have:=(xP h7).2;have:=xN rs d;have:=CP h9;obtain⟨e8,hb⟩:=FV ZA hm _ _ _ _ 0 _ Qn ⟨rfl,rfl,zy _⟩;have e9:=xP oD;have e10:=RF e9.1 (by decide);have Dn:=hb.cnt;have Jj:=Ge RD
    cases oB;refine⟨by omega,rfl,?_,by simp[Fo.len];omega,by simp[Fo.cnt];omega⟩;simp only[Fo.wf,zx,decide_eq_true_eq];exact⟨⟨⟨⟨⟨by omega,Jj⟩,hb.pS⟩,by omega⟩,hb.wf⟩,trivial⟩
theorem Z8{msg:Option kN}{num:Bool}(hm:∀ m,msg=some m->QK rs m):∀ (n:Nat) (acc:Fo) (i j b:Nat) (f:Fo),qI rs msg num n acc i = .ok (f,j)->jQ acc b->i<=j/\jQ f (b+(j - i))
 | 0,acc,i,j,b,f,h,_=>by cases h
 | n+1,acc,i,j,b,f,h,ha=>by
  rw[qI] at h;split at h
  .cases h;exact⟨zy _,by simpa using ha⟩
  split at h
  .obtain⟨g,q,h1,h2⟩:=xd h;obtain⟨e1,hg⟩:=TB ZA hm h1;obtain⟨e2,hf⟩:=Z8 hm n _ _ _ _ _ h2 (ha.app hg);exact⟨by omega,hf.more (by omega)⟩
  split at h
  .obtain⟨e2,hf⟩:=Z8 hm n _ _ _ _ _ h (ha.app (g := .hash .nil) (m:=1) ⟨rfl,rfl,zy _,zG _⟩);exact⟨by omega,hf.more (by omega)⟩
  .have:=Q8 rs num i;obtain⟨e2,hf⟩:=Z8 hm n _ _ _ _ _ h (ha.xL _);exact⟨by omega,hf.more (by omega)⟩
theorem BA:∀ n,QK rs (YL rs n)
 | 0,num,i,f,j,h=>by
  rw[YL] at h;have:=Z8 ZA (fun m e=>by cases e) _ _ _ _ 0 _ h jQ.nil;simpa using this
 | n+1,num,i,f,j,h=>by
  rw[YL] at h;have:=Z8 ZA (fun m e=>by cases e;exact BA n) _ _ _ _ 0 _ h jQ.nil;simpa using this
end
theorem bD{rs:List Int}{msg:Option kN}{num:Bool}:∀ (n:Nat) (acc:Fo) (i j:Nat) (f:Fo),qI rs msg num n acc i = .ok (f,j)->i<=rs.length->j<=rs.length
 | 0,acc,i,j,f,h,_=>by cases h
 | n+1,acc,i,j,f,h,hi=>by
  rw[qI] at h;split at h
  .cases h;exact hi
  next h0 =>
  have xB:i<rs.length:=by
   apply zY;intro hc;exact h0 (.inl (kM (by omega)))
  split at h
  .obtain⟨g,q,h1,h2⟩:=xd h;exact bD n _ _ _ _ h2 (BD h1).2
  split at h
  .exact bD n _ _ _ _ h xB
  .exact bD n _ _ _ _ h (Ig xB).2
theorem Xe{l:List UInt8}{f:Fo}(h:uF l = .ok f):jQ f 1000:=by
 unfold uF at h;split at h
 .cases h
 split at h
 .cases h
 next h1 _ =>
 have ZA:=VZ l;have hr:(xm l).length<=1000:=by omega
 cases hp:YM (xm l) with
 | error e=>rw[hp] at h;cases h
 | ok x =>
  rw[hp] at h
  cases h;unfold YM at hp;obtain⟨g,q,h2,h3⟩:=xd (show _=Except.ok (x.1,x.2) from hp);have hg:=(BA (by omega) 5 _ _ _ _ h2).2;have he:q<=(xm l).length:=bD _ _ _ _ _ h2 (zG _);split at h3
  .cases h3;exact hg.more (by omega)
  .cases h3
def ke(l:List UInt8):Except (Nat×Nat) Fo :=
 match uF l with
 | .error e => .error e
 | .ok f=>match Z7 f with|none => .ok f|some e => .error e
def znq(r:Except (Nat×Nat) Fo)(w:World)(e:Ending)(w':World):Prop :=
 (match r with
  | .error (n,a)=>∃ v b,e = .returned (.tuple #[v,.iface 101 (.pointer (some ⟨b,0,none⟩))])/\(∃ a n c,v = .slice a n c)/\w'.cell? ⟨b,0,none⟩=some (.int .i64 n)/\w'.cell? ⟨b,1,none⟩=some (.int .i64 a)
  | .ok f=>(∃ a c vs,e = .returned (.tuple #[.slice a f.len c,.nilIface])/\U6 w.heap.size w'.heap.size w' a vs/\xZ w.heap.size w'.heap.size w' vs f)/\jQ f 1000)/\Below w.heap.size w w'
theorem Lg(s:ByteArray)(w:World)(hs:s.size<=9223372036854775807)(hT:Lib.Utf8Tabs 3 4 w)(hN:uS w) :
  Calls prog 47 #[.string s] w (znq (ke s.data.toList) w):=by
 have HP:=z7 (SR s w hs hT hN);have HR:=z7 (show ke s.data.toList=match uF s.data.toList with | .error e => .error e | .ok f=>match Z7 f with|none => .ok f|some e => .error e from rfl);have HG:=z7 (fun f=>Xe (l:=s.data.toList) (f:=f));obtain⟨r,hr⟩:=xX (uF s.data.toList);rw[hr] at HP HR HG;clear hT hN hr;go_enter func47,ntmps47;go_wp2_with fail;refine HP.out.mono ?_;rintro e w1 ⟨hq,xG⟩;clear HP
 cases r with
 | error en =>
  obtain⟨n,a⟩:=en;obtain⟨b,rfl,c0,c1⟩:=hq;have HX:=z7 (show ke s.data.toList = .error (n,a) from HR.out);go_wp2;go_ret2
  rw[HX.out];exact⟨⟨_,b,rfl,⟨_,_,_,rfl⟩,c0,c1⟩,xG⟩
 | ok f =>
  obtain⟨⟨a,c,vs,rfl,xi,ql⟩,JP⟩:=hq;have hg:=HG.out f rfl;have qb:=z7 xi;have Y2:=z7 ql;have HGG:=z7 hg;have HC:=z7 (TF f a c vs w1 hg.msg hg.wf (by have:=hg.len;omega) (by have:=hg.cnt;omega) xi ql (zy _));have HX:=z7 (show ke s.data.toList=match Z7 f with|none => .ok f|some e => .error e from HR.out);obtain⟨q,hq⟩:=xX (Z7 f);rw[hq] at HC HX;clear xi ql JP hg hq HR HG;go_wp2_with fail;refine HC.out.mono ?_;rintro e w2 ⟨hq,xJ⟩;clear HC;have uG:=xG.trans (xJ.mono xG.size)
  cases q with
  | none =>
   obtain rfl:=hq;have HY:=z7 (show ke s.data.toList = .ok f from HX.out);have hk:xr w.heap.size w1.heap.size w1 w2:=⟨xJ.size,fun k _ hk=>xJ.block k hk⟩;go_wp2;go_ret2
   rw[HY.out];exact⟨⟨⟨a,c,vs,rfl,qb.out.keep hk (zy _) xJ.size,xZ.keep hk (zy _) xJ.size _ _ Y2.out⟩,HGG.out⟩,uG⟩
  | some e =>
   obtain⟨n,p⟩:=e;obtain⟨b,rfl,c0,c1⟩:=hq;have HY:=z7 (show ke s.data.toList = .error (n,p) from HX.out);go_wp2;go_ret2
   rw[HY.out];exact⟨⟨_,b,rfl,⟨_,_,_,rfl⟩,c0,c1⟩,uG⟩
end Go.Proofs.YthpldolmpinnhaaGreatDoor
