import Derived.Test.YthpldolmpinnhaaGreatDoorJ19
import Derived.Laws.IdiomStrings
import Derived.OwnWalk
import Derived.Deep.RegionHeld
import Derived.Deep.DeepAppendRoom
import Derived.Deep.LoopGhost
namespace Go.Proofs.YthpldolmpinnhaaGreatDoor
open Go Go.RowKit
set_option maxRecDepth 10000
theorem elem_bytes:Elem Tryz.prog 48 5 (.int .u8 0) 1 1 :=
 ⟨Tryz.underlying48,info_parts (by kernel_rfl),rfl,by decide,by decide⟩
def digs (l:List UInt8):List Value:=l.map fun c => .int .u8 ((c.toNat:Int) - 48)
def ValuesPost (l:List UInt8) (w:World) (e:Ending) (w':World):Prop :=
 (if l.all isDig then ∃ v,e = .returned (.tuple #[v,.bool true])/\w'.ownsRow w.heap.size 5 1 v l.length (digs l) else e = .returned (.tuple #[.slice none 0 0,.bool false]))/\Below w.heap.size w w'
theorem digit_yes (c:UInt8) (h:isDig c=true):IntKind.u8.wrap ((c.toNat:Int) - 48)=(c.toNat:Int) - 48/\(c.toNat:Int) - 48<=9:=by
 have:=(isDig_iff _).1 h;refine ⟨?_,by omega⟩;simp only [IntKind.wrap,IntKind.signed,IntKind.bits];simp;omega
theorem digit_no (c:UInt8) (h:isDig c=false):9<((c.toNat:Int) - 48) % 256:=by
 have:=(isDig_false _).1 h;have:=c.toNat_lt;omega
set_option maxHeartbeats 800000 in
theorem values_any (s:ByteArray) (w:World) (hs:s.size<=1000000) :
  Calls Tryz.prog 67 #[.string s] w (ValuesPost s.data.toList w):=by
 have hcv:=fun w s=>run_bytes_of_string (P:=Tryz.prog) w 9 48 5 s Tryz.underlying9 Tryz.underlying48 Tryz.underlying5
 obtain ⟨i,hi,hz,h2,h3⟩:=elem_bytes.info;go_enter Tryz.func67,Tryz.ntmps67
 go_wp2_with (refine wpList_make_own _ rfl _ _ _ rfl w.heap.size _ i _ 1 elem_bytes.under hi hz h2 .i64 .i64 _ s.size rfl rfl ?c1 ?c2 ?c3 ?c4 ?_)
 case c1=>first | rfl | simp
 case c2=>rw [h3];omega
 case c3=>unfold maxLen;omega
 case c4=>simp
 intro w1 hown0 hg1;go_wp2
 refine wp_gen ?_;intro wc hwc;have hsz:wc.heap.size=w1.heap.size+1:=by rw [hwc];simp
 have hb1:Below w.heap.size w w1:=(Below.refl _ _).grown hg1 (Nat.le_refl _) (by simp);have hb0:Below w.heap.size w wc:=by rw [hwc];exact (Below.drew hb1).alloc hb1.size _
 have hcell:∀ j (hj:j<s.size),wc.cell? ⟨w1.heap.size,j,none⟩=some (.int .u8 (s[j].toNat:Int)):=by
  intro j hj;rw [hwc];have:=bytesRow_at s (grownCap w1 s.size 0 5) j hj;show (w1.alloc _).cell? _=_;rw [cell_made];exact this
 have hownc:wc.ownsRow w.heap.size 5 1 (Value.slice (some ⟨w.heap.size,0,none⟩) 0 s.size) 0 []:=by rw [hwc];exact (World.ownsRow.drew hown0).alloc _
 have hw1:=hb1.size;have hlt1:=(hown0.lt w.heap.size rfl).2;clear hwc hown0 hg1;go_loopw [4,14] (fun v i wr=>∃ k:Nat,k<=s.size/\i = .int .i64 k/\v = .slice (some ⟨w.heap.size,0,none⟩) k s.size/\wr.ownsRow w.heap.size 5 1 v k (digs (s.data.toList.take k))/\Below w.heap.size w wr/\(s.data.toList.take k).all isDig=true/\(w1.heap.size<wr.heap.size)/\∀ j (hj:j<s.size),wr.cell? ⟨w1.heap.size,j,none⟩=some (.int .u8 (s[j].toNat:Int))) (fun _ i _=>s.size - (intOf i).toNat)
 case atStart=>exact ⟨0,by omega,rfl,rfl,by simpa [digs] using hownc,hb0,by simp,by omega,hcell⟩
 case round =>
  obtain ⟨k,hk,rfl,hv,hown,hb,hH,hws,hcell⟩:=hrel;have HH:=Lib.hid hH;have HV:=Lib.hid hv;clear hH hv;by_cases hlt:k<s.size
  ·have hc:=hcell k hlt;by_cases hd:isDig s[k]=true
   ·obtain ⟨hy,hy9⟩:=digit_yes _ hd;have HD:=Lib.hid hd;clear hd;have hown2:wr.ownsRow w.heap.size 5 1 (.slice (some ⟨w.heap.size,0,none⟩) k s.size) k (digs (s.data.toList.take k)):=by rw [←HV.out];exact hown
    go_wp2_with (at_builtin;refine wpList_append_own_spare _ rfl _ _ _ rfl w.heap.size _ i 1 elem_bytes.under hi h2 w.heap.size k s.size (digs (s.data.toList.take k)) HV.out (hown2.alloc _) ⟨wr.heap.size,0,none⟩ 1 1 [.int .u8 ((s[k].toNat:Int) - 48)] rfl rfl ?c1 ?c2 ?c3 ?_)
    case c1=>exact cells_one (by simp)
    case c2=>intro u hu;simp at hu;subst hu;rfl
    case c3=>omega
    intro w2 hown3 hgrow;have hw2:=hgrow.size;have hts:=all_snoc HH.out HD.out;rw [←take_snoc s k hlt] at hts;have HT:=Lib.hid hts;clear hts;go_wp2
    go_roundw
    case rel =>
     refine ⟨k+1,by omega,by go_num,rfl,?_,((hb.alloc hb.size _).grown hgrow (by have:=hb.size;simp;omega) (fun q hq=>by cases hq;exact Nat.le_refl _)),HT.out,?_,?_⟩
     ·rw [take_snoc s k hlt];simpa [digs] using hown3
     ·simp at hw2;omega
     ·intro j hj;refine hgrow.cell ?_ (by simp;omega);rw [World.cell?_alloc_lt _ _ _ hws];exact hcell j hj
    case measure=>simp [intOf];omega
   ·have hd':isDig s[k]=false:=by simpa using hd
    have hn:=digit_no _ hd';have hfin:s.data.toList.all isDig=false:=all_false_of s k hlt hd';have HF:=Lib.hid hfin;clear hfin hd hd';go_wp2
    go_ret2
    refine ⟨by rw [HF.out];rfl,hb⟩
  ·have hk':k=s.size:=by omega
   subst hk';have HA:=HH.out;rw [take_all] at HA;rw [take_all] at hown;have HF:=Lib.hid HA;clear HA HH;go_wp2
   go_ret2
   refine ⟨?_,hb⟩;rw [if_pos HF.out,size_toList];exact ⟨_,rfl,hown⟩
theorem nonzero_any (d:Int) (w:World):Calls Tryz.prog 103 #[.int .u8 d] w fun e w'=>e = .returned (.bool (d !=0))/\w=w':=by
 go_enter Tryz.func103,Tryz.ntmps103
 go_wp2
 go_ret
 exact ⟨rfl,rfl⟩
theorem any_of {l:List Int} {k:Nat} (h:k<l.length) (hn:(l[k] !=0)=true):l.any (· != 0)=true:=List.any_eq_true.2 ⟨l[k],List.getElem_mem h,hn⟩
theorem any_snoc {l:List Int} {k:Nat} (h:k<l.length) (hz:(l.take k).any (· != 0)=false) (hn:(l[k] !=0)=false):(l.take (k+1)).any (· != 0)=false:=by
 rw [List.take_succ_eq_append_getElem h,List.any_append,hz];simpa using hn
def BytesAt (w:World) (a:Option Addr) (l:List Int):Prop:=∀ j (h:j<l.length),∃ b,a=some b/\w.cell? (b.add j)=some (.int .u8 l[j])
theorem BytesAt.alloc {w:World} {a:Option Addr} {l:List Int} (h:BytesAt w a l) (o:Obj):BytesAt (w.alloc o) a l:=fun j hj=>by
 obtain ⟨b,hb,hc⟩:=h j hj;refine ⟨b,hb,?_⟩;rw [World.cell?_alloc_some _ _ _ (by rw [hc];rfl)];exact hc
set_option maxHeartbeats 400000 in
theorem indexNZ_any (l:List Int) (a:Option Addr) (c:Nat) (w:World) (hl:l.length<=1000000) (hc:BytesAt w a l) :
  Calls Tryz.prog 152 #[.slice a l.length c,.func (.func 103) #[] #[]] w fun e w'=>(∃ n:Int,e = .returned (.int .i64 n)/\decide (0<=n)=l.any (· != 0))/\w=w':=by
 go_enter Tryz.func152,Tryz.ntmps152
 go_wp2
 go_loop [8] (fun i=>∃ k:Nat,k<=l.length/\i = .int .i64 k/\(l.take k).any (· != 0)=false) (fun i=>l.length - (intOf i).toNat)
 case atStart=>exact ⟨0,by omega,rfl,by simp⟩
 case round =>
  obtain ⟨k,hk,rfl,hz⟩:=hrel;have HZ:=Lib.hid hz;clear hz;by_cases hlt:k<l.length
  ·obtain ⟨b,rfl,hcell⟩:=hc k hlt;go_wp2_with fail
   refine (nonzero_any _ _).mono ?_;rintro e w' ⟨rfl,rfl⟩;by_cases hn:(l[k] !=0)=true
   ·have HF:=Lib.hid (any_of hlt hn);go_wp2
    go_ret
    exact ⟨⟨_,rfl,by rw [HF.out];simp⟩,rfl⟩
   ·have hn':(l[k] !=0)=false:=by simpa using hn
    have HF:=Lib.hid (any_snoc hlt HZ.out hn');clear hn;go_wp2
    go_round
    case rel=>exact ⟨k+1,by omega,by go_num,HF.out⟩
    case measure=>simp [intOf];omega
  ·have hk':k=l.length:=by omega
   subst hk';have hz:=HZ.out;rw [List.take_length] at hz;have HF:=Lib.hid hz;clear hz HZ;go_wp2
   go_ret
   exact ⟨⟨_,rfl,by rw [HF.out];rfl⟩,rfl⟩
theorem containsNZ_any (l:List Int) (a:Option Addr) (c:Nat) (w:World) (hl:l.length<=1000000) (hc:BytesAt w a l) :
  Calls Tryz.prog 102 #[.slice a l.length c,.func (.func 103) #[] #[]] w fun e w'=>e = .returned (.bool (l.any (· != 0)))/\w=w':=by
 go_enter Tryz.func102,Tryz.ntmps102
 go_wp2_with fail
 refine (indexNZ_any l a c w hl hc).mono ?_;rintro e w' ⟨⟨n,rfl,hn⟩,rfl⟩;go_wp2
 go_ret
 exact ⟨rfl,rfl⟩
theorem zero_any (l:List Int) (a:Option Addr) (c:Nat) (b:Bool) (sc:Int) (w:World) (hl:l.length<=1000000) (hc:BytesAt w a l) :
  Calls Tryz.prog 68 #[.agg #[.bool b,.slice a l.length c,.int .i64 sc]] w fun e w'=>e = .returned (.bool (!l.any (· != 0)))/\Below w.heap.size w w':=by
 go_enter Tryz.func68,Tryz.ntmps68
 go_wp2_with fail
 refine (containsNZ_any l a c _ hl (hc.alloc _)).mono ?_;rintro e w' ⟨rfl,rfl⟩;go_wp2
 go_ret
 exact ⟨rfl,(Below.refl _ _).alloc (Nat.le_refl _) _⟩
def PartsAt (w0 w:World) (base:Nat) (v:Value) (ps:List (List (List UInt8))):Prop :=
 ∃ vs:List Value,w.ownsRow base 31 1 v ps.length vs/\∀ j (h:j<ps.length),∃ u,vs[j]? = some u/\StrsAt w0 u ps[j]
theorem add_add (a:Addr) (i j:Nat):(a.add i).add j=a.add (i+j):=by
 unfold Addr.add;by_cases hi:i=0
 ·subst hi;simp
 ·by_cases hj:j=0
  ·subst hj;simp
  ·simp [hi,hj,Nat.add_assoc]
theorem PartsAt.more {w wr w1:World} {base:Nat} {v v':Value} {acc:List (List (List UInt8))} {vs:List Value} {u:Value} {p:List (List UInt8)} (hl:vs.length=acc.length)
  (hp:∀ j (h:j<acc.length),∃ u,vs[j]? = some u/\StrsAt w u acc[j]) (ho:w1.ownsRow base 31 1 v' (acc.length+1) (vs++[u])) (hu:StrsAt w u p):PartsAt w w1 base v' (acc++[p]):=by
 refine ⟨vs++[u],by simpa using ho,fun j h=>?_⟩;by_cases hj:j<acc.length
 ·obtain ⟨x,hx,hs⟩:=hp j hj;exact ⟨x,by rw [List.getElem?_append_left (by omega)];exact hx,by rw [List.getElem_append_left hj];exact hs⟩
 ·have e:j=acc.length:=by simp at h;omega
  subst e;refine ⟨u,by rw [List.getElem?_append_right (by omega),hl];simp,?_⟩;rw [List.getElem_append_right (by omega)];simpa using hu
def cmpL (a b:List UInt8):Int:=if a.length<b.length\/(a.length=b.length/\Op.bytesLess a b=true) then -1 else if a=b then 0 else 1
end Go.Proofs.YthpldolmpinnhaaGreatDoor
namespace Go.Proofs.YthpldolmpinnhaaGreatDoor
open Go
abbrev Dg:=List UInt8×List UInt8
def brk (f:Wd):Bool:=f.any (· != 48)
abbrev Tst:=Dg->Bool
def cmpT (x:Dg) (v:Nat):Int :=
 if cmpL x.1 (decL v)<0 then -1 else if 0<cmpL x.1 (decL v)\/brk x.2=true then 1 else 0
end Go.Proofs.YthpldolmpinnhaaGreatDoor
namespace Go.Proofs.YthpldolmpinnhaaGreatDoor
open Go Go.RowKit
set_option maxRecDepth 10000
def absL (l:List UInt8):List UInt8:=if l.head? = some 45 then l.tail else l
def negL (l:List UInt8):Bool:=l.head? == some 45
def wholeL (l:List UInt8):List UInt8:=(absL l).take ((absL l).idxOf 46)
def fracL (l:List UInt8):List UInt8:=(absL l).drop ((absL l).idxOf 46+1)
def pointL (l:List UInt8):Bool:=decide ((absL l).idxOf 46<(absL l).length)
def figsL (l:List UInt8):Bool:=numeralsL (wholeL l) && (!(pointL l) || numeralsL (fracL l)) && decide ((wholeL l).length+(fracL l).length<=30)
def isNumL (l:List UInt8):Bool :=
 figsL l && !(decide (1<(wholeL l).length) && ((wholeL l).headD 0==48)) && !(negL l && (wholeL l++fracL l).all (· == 48))
theorem notNum {l wh fr:List UInt8} {pt:Bool} (hW:wholeL l=wh) (hF:fracL l=fr) (hP:pointL l=pt) (h:¬(numeralsL wh=true/\(pt=true->numeralsL fr=true)/\wh.length+fr.length<=30)):isNumL l=false:=by
 have hf:figsL l=false:=by
  rw [←Bool.not_eq_true];intro hf;unfold figsL at hf;rw [hW,hF,hP] at hf;simp only [Bool.and_eq_true,Bool.or_eq_true,Bool.not_eq_true',decide_eq_true_eq] at hf;refine h ⟨hf.1.1,fun hp=>?_,hf.2⟩;rcases hf.1.2 with h1 | h1
  ·rw [h1] at hp;cases hp
  ·exact h1
 simp [isNumL,hf]
theorem isNum_of {l wh fr:List UInt8} {b:Bool} (hW:wholeL l=wh) (hF:fracL l=fr) (hB:negL l=b) (hfo:figsL l=true) :
  isNumL l=(!(decide (1<wh.length) && (wh.headD 0==48)) && !(b && (wh++fr).all (· == 48))):=by
 simp [isNumL,hfo,hW,hF,hB]
theorem head48 (wh:List UInt8) (h:0<(ByteArray.mk wh.toArray).size):(wh.headD 0==48)=(((ByteArray.mk wh.toArray)[0].toNat:Int)==48):=by
 have h1:=headD_eq ⟨wh.toArray⟩ h;rw [toList_mk] at h1;have h2:=toNat_beq (ByteArray.mk wh.toArray)[0] 48;have h3:((48:UInt8).toNat:Int)=48:=rfl;rw [h3] at h2;rw [h1,h2];exact Bool.beq_eq_decide_eq _ _
theorem form_of {l wh fr:List UInt8} {pt:Bool} (hW:wholeL l=wh) (hF:fracL l=fr) (hP:pointL l=pt) (h1:numeralsL wh=true) (h2:pt=true->numeralsL fr=true) (h3:¬((30:Int)<(wh.length:Int)+(fr.length:Int))):figsL l=true:=by
 unfold figsL;rw [hW,hF,hP,h1];have h4:wh.length+fr.length<=30:=by omega
 cases pt
 ·simp [h4]
 ·simp [h4,h2 rfl]
abbrev SNum:=Bool×Dg
def validL (t:Wd) (num:Bool):Bool:=if num then isNumL t else decide (t.length<=60)
def numOf (t:Wd):SNum:=(negL t,(wholeL t,fracL t))
def padD (k:Nat) (l:Wd):Wd:=List.replicate (k - l.length) 48++l
def fixD (r k:Nat):Dg:=((padD (k+1) (decL r)).take ((padD (k+1) (decL r)).length - k),(padD (k+1) (decL r)).drop ((padD (k+1) (decL r)).length - k))
def lessN (n:SNum) (v:Nat):SNum :=
 if n.1 then (decide (offV (n.2.1++n.2.2)+v*10 ^ n.2.2.length≠0),fixD (offV (n.2.1++n.2.2)+v*10 ^ n.2.2.length) n.2.2.length)
 else if offV (n.2.1++n.2.2)<v*10 ^ n.2.2.length then (true,fixD (v*10 ^ n.2.2.length - offV (n.2.1++n.2.2)) n.2.2.length)
 else (false,fixD (offV (n.2.1++n.2.2) - v*10 ^ n.2.2.length) n.2.2.length)
def sameN (n:SNum) (v:Nat):Bool := !n.1 && decide (cmpT n.2 v=0)
inductive GetO where
 | no
 | boom
 | val (t:Wd) (num:Bool)
structure EnvF (τ:Type) where
 wr:SNum->Wd
 sort:Bool->Dg->Nat
 get:Wd->τ->GetO×τ
inductive StO (σ:Type) where
 | go (k:Nat) (s:σ)
 | fin (s:σ)
 | err (n:Nat) (s:σ)
 | bad
def runF {σ:Type} (F:Nat->σ->StO σ):Nat->Nat->σ->Option (Except (Nat×σ) σ)
 | 0,_,_=>none
 | f+1,k,s=>match F k s with | .go k' s'=>runF F f k' s' | .fin s'=>some (.ok s') | .err n s'=>some (.error (n,s')) | .bad=>none
structure RSt (τ:Type) where
 out:Wd
 stk:List (SNum×SNum)
 gs:τ
section
variable {τ:Type} (E:EnvF τ)
def argF (n:Wd) (g:τ):Except (Nat×τ) ((Wd×Bool)×τ) :=
 match E.get n g with
 | (.no,g') => .error (12,g')
 | (.boom,g') => .error (15,g')
 | (.val t num,g')=>if validL t num then .ok ((t,num),g') else .error (11,g')
def numF (n:Wd) (g:τ):Except (Nat×τ) (SNum×τ) :=
 match argF E n g with
 | .error e => .error e
 | .ok ((t,num),g')=>if num then .ok (numOf t,g') else .error (13,g')
def wdF (n:Wd) (g:τ):Except (Nat×τ) (Wd×τ) :=
 match argF E n g with
 | .error e => .error e
 | .ok ((t,num),g')=>if num then .error (13,g') else .ok (t,g')
def putW (t:Wd) (num:Bool):Wd:=if num then E.wr (numOf t) else t
def conF (s:MkS) (x:InL):Option Wd:=x.k[0]?.bind fun j=>s.cs[j]?
def toF (s:MkS) (t:Option Nat) (r:RSt τ):StO (RSt τ) :=
 match t with
 | none => .bad
 | some p=>match posN s.code s.code.length p with | some k => .go k r | none => .fin r
def tabI (s:MkS) (x:InL) (t:Wd):Nat:=(x.k.tail.map fun j=>s.cs[j]?).idxOf (some t)
def insF (s:MkS) (x:InL) (k:Nat) (r:RSt τ):StO (RSt τ) :=
 match x.op with
 | 0 => .fin r
 | 1=>match conF s x with | none => .bad | some t => .go (k+1) { r with out:=r.out++t }
 | 2=>match conF s x with
  | none => .bad
  | some n=>match argF E n r.gs with | .error (e,g) => .err e { r with gs:=g } | .ok ((t,num),g) => .go (k+1) { r with out:=r.out++putW E t num,gs:=g }
 | 3=>match conF s x with
  | none => .bad
  | some n=>match numF E n r.gs with | .error (e,g) => .err e { r with gs:=g } | .ok (v,g) => .go (k+1) { r with out:=r.out++E.wr v,gs:=g }
 | 4=>match conF s x with
  | none => .bad
  | some n=>match numF E n r.gs with | .error (e,g) => .err e { r with gs:=g } | .ok (v,g) => .go (k+1) { r with stk:=r.stk++[(v,lessN v x.v)],gs:=g }
 | 5=>match r.stk.getLast? with | none => .bad | some _ => .go (k+1) { r with stk:=r.stk.dropLast }
 | 6=>match r.stk.getLast? with | none => .bad | some t => .go (k+1) { r with out:=r.out++E.wr t.2 }
 | 7=>match r.stk.getLast? with | none => .bad | some t=>if sameN t.1 x.v then toF s x.tg[0]? r else .go (k+1) r
 | 8=>match r.stk.getLast? with | none => .bad | some t=>toF s x.tg[E.sort false t.2.2]? r
 | 9=>match r.stk.getLast? with | none => .bad | some t=>toF s x.tg[E.sort true t.2.2]? r
 | 10=>match conF s x with
  | none => .bad
  | some n=>match wdF E n r.gs with
   | .error (e,g) => .err e { r with gs:=g }
   | .ok (t,g)=>if x.k.tail.all (fun j=>decide (j<s.cs.length)) then toF s x.tg[tabI s x t]? { r with gs:=g } else .bad
 | 11=>toF s x.tg[0]? r
 | _ => .bad
def stepM (s:MkS) (k:Nat) (r:RSt τ):StO (RSt τ):=match s.code[k]? with | none => .bad | some x=>insF E s x k r
def selKey (ks:List Wd) (t:Wd):Wd:=if t∈ks then t else othC
def pluKey (f:Nat) (ks:List Wd) (v z:SNum):Wd :=
 match ks.find? fun k=>decide (k.head? = some 61) && sameN v (offV k.tail) with
 | some k=>k
 | none=>if catC.getD (E.sort (decide (f=2)) z.2) []∈ks then catC.getD (E.sort (decide (f=2)) z.2) [] else othC
def sayF:Fo->Wd->SNum->Wd->τ->Except (Nat×τ) (Wd×τ)
 | .nil,_,_,o,g => .ok (o,g)
 | .text t r,k,x,o,g=>sayF r k x (o++t) g
 | .hash r,k,x,o,g=>sayF r k x (o++E.wr x) g
 | .put n _ r,k,x,o,g=>match argF E n g with | .error e => .error e | .ok ((t,num),g')=>sayF r k x (o++putW E t num) g'
 | .num n _ r,k,x,o,g=>match numF E n g with | .error e => .error e | .ok (v,g')=>sayF r k x (o++E.wr v) g'
 | .br n _ f off _ bs r,k,x,o,g =>
  if f=0 then
   match wdF E n g with
   | .error e => .error e
   | .ok (t,g')=>match sayF bs (selKey bs.keys t) x o g' with | .error e => .error e | .ok (o',g'')=>sayF r k x o' g''
  else
   match numF E n g with
   | .error e => .error e
   | .ok (v,g')=>match sayF bs (pluKey E f bs.keys v (lessN v (offV off))) (lessN v (offV off)) o g' with | .error e => .error e | .ok (o',g'')=>sayF r k x o' g''
 | .leg k' _ m r,k,x,o,g=>if k'=k then sayF m [] x o g else sayF r k x o g
end
abbrev errnoV (n:Nat):Value := .iface 33 (.int .i64 (n:Nat))
theorem assert_errno (n:Nat) (w:World):(Instr.typeAssert (errnoV n) 20 33 true).run Tryz.prog w = .ok (.tuple #[.int .i64 n,.bool true]) w:=by rfl
theorem assert_nile (w:World):(Instr.typeAssert .nilIface 20 33 true).run Tryz.prog w = .ok (.tuple #[.int .i64 0,.bool false]) w:=by rfl
theorem run_idle (A B:Nat) (w:World):CallsD Tryz.prog 86 #[.pointer (some ⟨A,0,none⟩),.pointer (some ⟨B,0,none⟩)] .returning w fun e u' w'=>e = .returned (.tuple #[])/\u' = .returning/\w'=w:=by
 refine callsD_of_wpS Tryz.func86 rfl fun c₀ cs hu=>?_
 have ha:=assert_nile;apply wpS_seq;apply wpS_region;simp [wpOpsS,go_sem,recoverD,hu,ha,Tryz.ntmps86,Exit.thenS];refine wpS_of_wp ?_;go_wp2
 cases c₀;simp_all [bodyPostS,results,Tryz.results86]
set_option maxHeartbeats 4000000 in
theorem run_catch (A B n:Nat) (u v:Value) (older:List PanicEntry) (w:World) (hA:w.cell? ⟨A,0,none⟩=some u) (hAz:w.frozen? ⟨A,0,none⟩=false) (hB:w.cell? ⟨B,0,none⟩=some v) (hBz:w.frozen? ⟨B,0,none⟩=false) (hAB:B≠A) :
  CallsD Tryz.prog 86 #[.pointer (some ⟨A,0,none⟩),.pointer (some ⟨B,0,none⟩)] (.panicking ({ v:=errnoV n,recovered:=false }::older)) w fun e u' w' =>
   e = .returned (.tuple #[])/\u' = .panicking ({ v:=errnoV n,recovered:=true }::older)/\w'=(w.setCell ⟨A,0,none⟩ (strv [])).setCell ⟨B,0,none⟩ (errnoV n):=by
 have ha:=assert_errno n;refine callsD_of_wpS Tryz.func86 rfl fun c₀ cs hu=>?_
 apply wpS_seq;apply wpS_region;simp [wpOpsS,go_sem,recoverD,hu,ha,Tryz.ntmps86,Exit.thenS];refine wpS_of_wp ?_;simp only [Array.replicate,List.replicate,List.setIfInBounds_toArray,List.set_cons_zero,List.set_cons_succ,List.append_toArray,List.cons_append,List.nil_append,Act.put];have hB':(w.setCell ⟨A,0,none⟩ (strv [])).cell? ⟨B,0,none⟩=some v:=by rw [cellSet,if_neg (fun e=>hAB (congrArg Addr.block e).symm)];exact hB
 go_wp2
 simp [bodyPostS,results,Tryz.results86]
def VStQ {σ:Type} (G:Nat->Prop) (I:Nat->σ->World->Prop) (J K:σ->World->Prop) (r:StO σ) (w:World) (e:Ending) (w':World):Prop :=
 (match r with
  | .go k s=>e = .returned (.int .i64 (k:Nat))/\I k s w'
  | .fin s=>e = .returned (.int .i64 (-1))/\J s w'
  | .err n s=>(∃ older:List PanicEntry,e = .panicked ({ v:=errnoV n,recovered:=false }::older)/\older.dropWhile (!·.goexit)=[])/\K s w'
  | .bad=>False)/\Fr G G w w'
def RunE {σ:Type} (G:Nat->Prop) (out:σ->Wd) (Z:σ->World->Prop) (r:Except (Nat×σ) σ) (w:World) (e:Ending) (w':World):Prop :=
 (match r with
  | .ok s=>e = .returned (.tuple #[strv (out s),.nilIface])/\Z s w'
  | .error (n,s)=>e = .returned (.tuple #[strv [],errnoV n])/\Z s w')/\Fr G G w w'
def runW (w:World) (p l g:Value):World:=((w.alloc (.cells #[strv []] 9)).alloc (.cells #[.nilIface] 73)).alloc (.cells #[p,l,g,.pointer none,.slice none 0 0,.slice none 0 0] 199)
theorem resr_made (w:World) {A:Nat} (hA:w.heap.size=A):ResAt A (strv []) .nilIface ((w.alloc (.cells #[strv []] 9)).alloc (.cells #[.nilIface] 73)):=by
 have h1:(w.alloc (.cells #[strv []] 9)).heap.size=A+1:=by simp [hA]
 have hlt:A<(w.alloc (.cells #[strv []] 9)).heap.size:=by omega
 refine ⟨?_,?_,?_,?_⟩
 ·rw [World.cell?_alloc_lt _ _ _ hlt,←hA];exact cell_made _ _ _ _ _
 ·rw [←h1];exact cell_made _ _ _ _ _
 ·rw [World.frozen?_of_block (Below.heap_alloc _ _ _ hlt)];subst hA;simp
 ·rw [←h1];simp
theorem ResAt.fr {A:Nat} {u v:Value} {w w':World} {F F':Nat->Prop} (h:ResAt A u v w) (hf:Fr F F' w w') (ha:¬F A) (hb:¬F (A+1)):ResAt A u v w' :=
 h.keep fun k hk=>hf.keep k (by have:=h.lt;omega) (by rcases hk with rfl | rfl<;>assumption)
def RunRel {σ:Type} (G:Nat->Prop) (I:Nat->Nat->σ->World->Prop) (J:σ->World->Prop) (F:Nat->σ->StO σ) (r:Except (Nat×σ) σ) (A:Nat) (w:World) (m:Nat) (kv:Value) (wr:World):Prop :=
 ((∃ k s,kv = .int .i64 (k:Nat)/\I m k s wr/\runF F m k s=some r)\/∃ s,kv = .int .i64 (-1)/\J s wr/\r = .ok s)/\ResAt A (strv []) .nilIface wr/\Fr G G w wr
set_option maxHeartbeats 4000000 in
theorem run_any {σ:Type} (G:Nat->Prop) (I:Nat->Nat->σ->World->Prop) (J K Z:σ->World->Prop) (out:σ->Wd) (F:Nat->σ->StO σ) (fuel:Nat) (s0:σ) (r:Except (Nat×σ) σ) (w:World) (pa la:Option Addr) (gf:Fn) (g1 g2:Array Value)
  (hGA:¬G w.heap.size) (hGB:¬G (w.heap.size+1)) (hG2:∀ k,w.heap.size+2<=k->G k) (h0:I fuel 0 s0 (runW w (.pointer pa) (.pointer la) (.func gf g1 g2)))
  (hout:∀ s W,J s W->∃ v x0 x1 x2 st,OutAt (w.heap.size+2) x0 x1 x2 st v (out s) W/\(∀ b,rowF v b->w.heap.size+2<=b)/\(out s).length<=1000000000/\∀ W',Fr (fun k=>k=w.heap.size\/k=w.heap.size+1\/rowF v k) (fun k=>k=w.heap.size\/k=w.heap.size+1\/rowF v k) W W'->Z s W')
  (hK:∀ s W W',K s W->Fr (fun k=>k=w.heap.size\/k=w.heap.size+1) (fun k=>k=w.heap.size\/k=w.heap.size+1) W W'->Z s W')
  (hst:∀ m k s W,I (m+1) k s W->F k s ≠ .bad->Calls Tryz.prog 87 #[.pointer (some ⟨w.heap.size+2,0,none⟩),.int .i64 (k:Nat)] W (VStQ G (I m) J K (F k s) W))
  (hr:runF F fuel 0 s0=some r):Calls Tryz.prog 53 #[.pointer pa,.pointer la,.func gf g1 g2] w (RunE G out Z r w):=by
 have hmf:∀ (fn:Fn) (first cap:Array Value) (w:World),(Instr.makeFunc fn first cap).run Tryz.prog w = .ok (.func fn first cap) w:=fun _ _ _ _=>rfl
 obtain ⟨A,hA⟩:∃ A,w.heap.size=A:=⟨_,rfl⟩;rw [hA] at hGA hGB hG2 hout hst hK;have hres0:=resr_made w hA;have HOUT:=Lib.hid hout;have HST:=Lib.hid hst;have HR:=Lib.hid hr;have HKZ:=Lib.hid hK;have HA:=Lib.hid hA;have hW2:((w.alloc (.cells #[strv []] 9)).alloc (.cells #[.nilIface] 73)).heap.size=A+2:=by simp [hA]
 have hf0:Fr G G w (runW w (.pointer pa) (.pointer la) (.func gf g1 g2)):=(((Fr.refl _ _).alloc _).alloc _).alloc _;have hresW:ResAt A (strv []) .nilIface (runW w (.pointer pa) (.pointer la) (.func gf g1 g2)):=hres0.below ((Below.refl _ _).alloc (Nat.le_refl _) _);obtain ⟨W0,hW0⟩:∃ W0,runW w (.pointer pa) (.pointer la) (.func gf g1 g2)=W0:=⟨_,rfl⟩;rw [hW0] at hf0 hresW h0;have HW0:=Lib.hid hW0;have H0:=Lib.hid h0;have HF0:=Lib.hid hf0;clear hout hst hr hK hA hres0 hW0 h0 hf0;go_enter_defers Tryz.func53,Tryz.ntmps53
 go_wp2_with fail
 rw [HA.out];go_loopg [9] fuel (fun m kv wr=>RunRel G I J F r A w m kv wr)
 case atStart =>
  have e:=HW0.out;subst e;exact ⟨.inl ⟨0,s0,rfl,H0.out,HR.out⟩,hresW,HF0.out⟩
 case round =>
  obtain ⟨hcase,hres,hfr⟩:=hrel;have HRES:=Lib.hid hres;have HFR:=Lib.hid hfr;clear hW2 hresW hfr;rcases hcase with ⟨k,s,rfl,hI,hrun⟩ | ⟨s,rfl,hI,hrs⟩
  ·obtain ⟨m,hm⟩:∃ m,gk=m+1:=by
    refine ⟨gk - 1,?_⟩;have:gk≠0:=fun e=>by rw [e] at hrun;cases hrun
    omega
   rw [hm,runF] at hrun;have HM:=Lib.hid hm;have HRUN:=Lib.hid hrun;have hk0:decide ((0:Int)<=(k:Int))=true:=by simp
   have HS:=Lib.hid (HST.out m k s wr (by rw [←hm];exact hI) (fun e=>by rw [e] at hrun;cases hrun));clear hm hrun hres hI;go_wp2_with fail
   refine HS.out.mono ?_;rintro e w1 ⟨hq,hf⟩;have hres1:=HRES.out.fr hf hGA hGB;have HF1:=Lib.hid (HFR.out.trans hf);have hrun:=HRUN.out;obtain ⟨o,ho⟩:∃ o,F k s=o:=⟨_,rfl⟩;rw [ho] at hq hrun;clear ho hf HS HRUN HFR HRES
   cases o with
   | go k' s' =>
    obtain ⟨rfl,hI'⟩:=hq;have HI:=Lib.hid hI';have HRES1:=Lib.hid hres1;have HRUN:=Lib.hid (show runF F m k' s'=some r from hrun);clear hI' hres1 hrun;go_wp2
    go_roundg m
    case measure=>have:=HM.out;omega
    case rel=>exact ⟨.inl ⟨k',s',rfl,HI.out,HRUN.out⟩,HRES1.out,HF1.out⟩
   | fin s' =>
    obtain ⟨rfl,hI'⟩:=hq;have HI:=Lib.hid hI';have HRES1:=Lib.hid hres1;have HRUN:=Lib.hid (show (some (.ok s'):Option (Except (Nat×σ) σ))=some r from hrun);clear hI' hres1 hrun;go_wp2
    go_roundg m
    case measure=>have:=HM.out;omega
    case rel=>exact ⟨.inr ⟨s',rfl,HI.out,(Option.some.inj HRUN.out).symm⟩,HRES1.out,HF1.out⟩
   | bad=>exact hq.elim
   | err n s' =>
    obtain ⟨⟨older,rfl,hold⟩,hk'⟩:=hq;have HK':=Lib.hid hk';clear hk';have HOLD:=Lib.hid hold;have HRUN:=Lib.hid (show (some (.error (n,s')):Option (Except (Nat×σ) σ))=some r from hrun);clear hold hrun;go_wp2
    refine leaves_cons (f:=86) (args:=#[.pointer (some ⟨A,0,none⟩),.pointer (some ⟨A+1,0,none⟩)]) (by simp) (by simp [go_sem]) ?_;refine (run_catch A (A+1) _ _ _ _ _ hres1.c0 hres1.z0 hres1.c1 hres1.z1 (by omega)).mono ?_;rintro e u' w'' ⟨rfl,rfl,rfl⟩;have hres2:=(hres1.set0 (x:=strv [])).set1 (x:=errnoV n);have hcA:=hres2.c0;have hcB:=hres2.c1;simp [Leaves,settle,results,Tryz.results53,go_sem,hcA,hcB,HOLD.out];have hr:=Option.some.inj HRUN.out;rw [←hr];exact ⟨⟨rfl,HKZ.out s' _ _ HK'.out (((Fr.refl _ _).set (a:=⟨A,0,none⟩) _ (.inl (.inl rfl))).set (a:=⟨A+1,0,none⟩) _ (.inl (.inr rfl)))⟩,(HF1.out.set _ (.inr (by rw [HA.out];exact Nat.le_refl _))).set _ (.inr (by rw [HA.out];exact Nat.le_succ _))⟩
  ·obtain ⟨v,x0,x1,x2,st,ho,hv,hl,hz⟩:=HOUT.out s wr hI;have HZ:=Lib.hid hz;have HG:=Lib.hid (out_get hv ho hl);have HRS:=Lib.hid hrs;clear hI hrs ho hv hl hres hz;go_wp2_with fail
   refine HG.out.mono ?_;rintro e w1 ⟨rfl,hb,hfv⟩;have HFV:=Lib.hid hfv;clear hfv;have hres1:=HRES.out.keep (fun k hk=>hb.block k (by omega));have hlt:=HRES.out.lt;have hf1:Fr G G w w1:=HFR.out.trans ⟨hb.os,hb.tape,hb.output,hb.size,fun k hk hn=>hb.block k (Nat.lt_of_not_le fun q=>hn (hG2 k q)),fun _ q => .inl q⟩;have HF1:=Lib.hid hf1;obtain ⟨t,ht⟩:∃ t,out s=t:=⟨_,rfl⟩;rw [ht];have HT:=Lib.hid ht;have q0:=hres1.c0;have q1:=hres1.c1;have q2:=hres1.z0;have q3:=hres1.z1;have hr6:=hres1.set0 (x:=strv t);have hr7:=hr6.set1 (x := .nilIface);have q4:=hr6.c1;have q5:=hr6.z1;clear hf1 hb ht HG;go_wp2
   refine leaves_cons (f:=86) (args:=#[.pointer (some ⟨A,0,none⟩),.pointer (some ⟨A+1,0,none⟩)]) (by simp) (by simp [go_sem]) ?_;refine (run_idle A (A+1) _).mono ?_;rintro e u' w'' ⟨rfl,rfl,rfl⟩;have hcA:=hr7.c0;have hcB:=hr7.c1;simp [Leaves,settle,results,Tryz.results53,go_sem,hcA,hcB];rw [HRS.out];exact ⟨⟨by rw [←HT.out],HZ.out _ (((HFV.out.wide (fun k hk => .inr (.inr hk))).set (a:=⟨A,0,none⟩) _ (.inl (.inl rfl))).set (a:=⟨A+1,0,none⟩) _ (.inl (.inr (.inl rfl))))⟩,(HF1.out.set _ (.inr (by rw [HA.out];exact Nat.le_refl _))).set _ (.inr (by rw [HA.out];exact Nat.le_succ _))⟩
theorem all_nil:MkS.all .nil=⟨[],[⟨0,0,0,[],[]⟩],1⟩:=by
 simp [MkS.all,MkS.mes,MkS.goS,MkS.start,MkS.put,insX,frmL,insB]
theorem ProgAt.below {q mb:Nat} {s:MkS} {vC vI:Value} {rs:List (Value×Value)} {w w':World} (h:ProgAt q s vC vI rs mb w) (hb:Below w.heap.size w w'):ProgAt q s vC vI rs mb w':=by
 have hf:Fr noF noF w w':=Fr.of hb;exact ⟨hf.cell h.q0 id,hf.cell h.q1 id,hf.cell h.q2 id,hf.own h.cC (fun _ _ q=>q),hf.own h.cI (fun _ _ q=>q),h.rows.fr hf (fun _ q=>q.elim),h.mp.keep (hb.block mb h.mp.lt)⟩
def faultC (l:List (Nat×Nat)):List Value:=l.flatMap fun x=>[.int .i64 (x.1:Nat),.int .i64 (x.2:Nat)]
theorem faultC_len (l:List (Nat×Nat)):(faultC l).length=l.length*2:=by
 induction l with
 | nil=>rfl
 | cons a t ih=>simp only [faultC,List.flatMap_cons,List.length_append,List.length_cons,List.length_nil] at ih ⊢;omega
theorem faultC_app (a b:List (Nat×Nat)):faultC (a++b)=faultC a++faultC b:=by simp [faultC]
theorem elem_fault:Elem Tryz.prog 253 105 (.agg #[.int .i64 0,.int .i64 0]) 2 16 :=
 ⟨Tryz.underlying253,info_parts (by kernel_rfl),rfl,by decide,by decide⟩
theorem mapt_int:MapT 185 3:=⟨Tryz.underlying185,Tryz.underlying3,fun w=>by simp [go_sem]⟩
def othW:Wd:=[111,116,104,101,114]
def bGo (cl:Nat):List Wd->List (Nat×Nat)->Fo->List (Nat×Nat)
 | seen,acc,.leg k a _ r=>bGo cl (k::seen) (if k∈seen then acc++[(7,a)] else acc) r
 | seen,acc,_=>if othW∈seen then acc else acc++[(6,cl)]
def FaultsR (base:Nat) (w:World) (v:Value) (l:List (Nat×Nat)):Prop:=w.ownsRow base 105 2 v l.length (faultC l)
theorem cells_two {w:World} {b:Nat} {u v:Value} (h:w.cell? ⟨b,0,none⟩=some u) (h2:w.cell? ⟨b,1,none⟩=some v):∀ j x,[u,v][j]? = some x->w.cell? ((⟨b,0,none⟩:Addr).add j)=some x:=by
 intro j x hx;match j,hx with
 | 0,hx=>simp at hx;subst hx;exact h
 | 1,hx=>simp at hx;subst hx;rw [addr_add0];exact h2
 | j+2,hx=>simp at hx
def SeenF (f:Wd->Option Nat) (seen:List Wd):Prop:=∀ k,(0<(f k).getD 0 ↔ k∈seen)/\(f k).getD 0<=seen.length
theorem SeenF.more {f:Wd->Option Nat} {seen:List Wd} (h:SeenF f seen) (k:Wd):SeenF (fun x=>if k=x then some ((f k).getD 0+1) else f x) (k::seen):=by
 intro x;have:=h x;have h2:=h k;by_cases hx:k=x
 ·subst hx;simp;omega
 ·simp only [hx,↓reduceIte,List.mem_cons,List.length_cons];have hne:¬x=k:=fun e=>hx e.symm
  refine ⟨by rw [this.1];simp [hne],by omega⟩
theorem FaultsR.keepB {base:Nat} {w w':World} {v:Value} {l:List (Nat×Nat)} (h:FaultsR base w v l) (hb:Below w.heap.size w w'):FaultsR base w' v l :=
 h.kept (row:=some w.heap.size) ⟨hb.os,hb.tape,hb.output,hb.size,fun i hi _=>hb.block i hi⟩ (by
  cases hv:v.ownBlock with
  | none=>exact .inl rfl
  | some g=>exact .inr (fun e=>by have:=(h.lt g hv).2;cases e;omega))
theorem FaultsR.keepG {base b:Nat} {w w':World} {v:Value} {l:List (Nat×Nat)} (h:FaultsR base w v l) (hg:w.grownBy w' (some b)) (hb:b<base):FaultsR base w' v l :=
 h.kept hg (by
  cases hv:v.ownBlock with
  | none=>exact .inl rfl
  | some g=>exact .inr (fun e=>by have:=(h.lt g hv).1;cases e;omega))
theorem ownsRow_base {w0 w:World} {mb:Nat} {v:Value} {l:List (Nat×Nat)} (h:FaultsR (mb+1) w v l) (hm:w0.heap.size=mb):FaultsR w0.heap.size w v l:=by
 obtain ⟨h1,h2⟩:=h;refine ⟨h1,?_⟩;rcases h2 with h2 | ⟨g,cap,cur,hv,hg,rest⟩
 ·exact .inl h2
 ·exact .inr ⟨g,cap,cur,hv,by omega,rest⟩
set_option maxHeartbeats 8000000 in
theorem syn_branches {lo hi:Nat} {w0:World} (b0:Nat) (n:Wd) (a fo:Nat) (of:Wd) (cl:Nat) (bs:Fo) (w:World) (hk:KeepR lo hi w0 w)
  (hnd:NodesV lo hi w0 [.iface 177 (.pointer (some ⟨b0,0,none⟩))] (.br n a fo of cl bs .nil)) (hwf:(Fo.br n a fo of cl bs .nil).wf 2000000=true) :
  Calls Tryz.prog 116 #[.pointer (some ⟨b0,0,none⟩)] w fun e w'=>(∃ v,e = .returned v/\FaultsR w.heap.size w' v (bGo cl [] [] bs))/\Below w.heap.size w w':=by
 have hmm:=@run_makeMap Tryz.prog;obtain ⟨vt,b',ba,bc,ws,he,hb1,hb2,hc0,hc1,hc2,hc3,hc4,hc5,hrw,hbs,_⟩:=hnd
 cases he;have hwq:(decide (n.length<=4000001) && decide (fo<3) && bs.isLegs && decide (bs.len<=2000000) && bs.wf 2000000 && Fo.nil.wf 2000000)=true:=hwf;simp only [Bool.and_eq_true,decide_eq_true_eq] at hwq;obtain ⟨⟨⟨⟨⟨hnl,hfo⟩,hbl⟩,hbn⟩,hbw⟩,_⟩:=hwq;have HK:=Lib.hid hk;have HBS:=Lib.hid hbs;have HRW:=Lib.hid hrw;have HBL:=Lib.hid hbl;have HBW:=Lib.hid hbw;have HC5:=Lib.hid hc5;have c4:=keep_cell hk hc4 hb1 hb2;obtain ⟨R,hR⟩:∃ R,bGo cl [] [] bs=R:=⟨_,rfl⟩;rw [hR];have HR:=Lib.hid hR;have hhi:hi<=w.heap.size:=hk.1;obtain ⟨mb,hmb⟩:∃ mb,w.heap.size=mb:=⟨_,rfl⟩;have HMB:=Lib.hid hmb;clear hk hbs hrw hbl hbw hc0 hc1 hc2 hc3 hc4 hc5 hwf hR;have hmd:=MapG.made 3 w;rw [hmb] at hmd;have hbd:Below w.heap.size w (w.alloc (.map #[] 0)):=(Below.refl _ _).alloc (Nat.le_refl _) _;have c4':(w.alloc (.map #[] 0)).cell? ⟨b0,4,none⟩=some (.slice ba bs.len bc):=(World.cell?_alloc_lt _ _ _ (show b0<w.heap.size by omega)).trans c4;have hsz0:(w.alloc (.map #[] 0)).heap.size=mb+1:=by simp [hmb]
 obtain ⟨W0,hW0⟩:∃ W0,w.alloc (.map #[] 0)=W0:=⟨_,rfl⟩;rw [hW0] at hmd hbd hsz0;have HW0:=Lib.hid hW0;clear hW0;go_enter Tryz.func116,Tryz.ntmps116
 go_wp2_with fail
 clear c4 c4' hmb;go_loopw [2,12] (fun fv iv wr=>∃ i us xs r acc seen nm fm,iv = .int .i64 (i:Nat)/\i<=bs.len/\NodesV lo hi w0 xs r/\r.isLegs=true/\r.wf 2000000=true/\us.length=i*3/\ws=us++xs/\i+r.len=bs.len/\Below w.heap.size w wr/\mb<wr.heap.size/\FaultsR (mb+1) wr fv acc/\MapG 3 wr mb nm fm/\nm<=i/\SeenF fm seen/\seen.length=i/\acc.length<=i/\bGo cl seen acc r=R) (fun _ iv _=>bs.len - (intOf iv).toNat)
 case atStart =>
  rw [HW0.out];exact ⟨0,[],ws,bs,[],[],0,fun _=>none,rfl,Nat.zero_le _,HBS.out,HBL.out,HBW.out,rfl,rfl,by omega,hbd,by omega,World.ownsRow_nil _ _ _ _,hmd,Nat.le_refl _,(fun k=>by simp),rfl,Nat.le_refl _,HR.out⟩
 case round =>
  obtain ⟨i,us,xs,r,acc,seen,nm,fm,rfl,hiL,hnr,hmr,hwr,hus,hvs,hln,hbw1,hmw,how,hmp,hnm,hsn,hsl,hal,hr1⟩:=hrel;have hkw:KeepR lo hi w0 wr:=HK.out.below hbw1;have HOW:=Lib.hid how;have HMP:=Lib.hid hmp;have HSN:=Lib.hid hsn;have HSL:=Lib.hid hsl;have HAL:=Lib.hid hal;have HR1:=Lib.hid hr1;have HN2:=Lib.hid hnr;have HMR2:=Lib.hid hmr;have HWR2:=Lib.hid hwr;have HVS2:=Lib.hid hvs;have HUS2:=Lib.hid hus;have HLN2:=Lib.hid hln;obtain ⟨fa,fc,rfl⟩:=own_slice how;clear hnr hmr hwr hvs hus how hmp hsn hsl hal hr1;by_cases hlt2:i<bs.len
  ·cases r with
   | nil=>exfalso;simp [Fo.len] at hln;omega
   | text t r=>have:=HMR2.out;cases this
   | hash r=>have:=HMR2.out;cases this
   | put n a r=>have:=HMR2.out;cases this
   | num n a r=>have:=HMR2.out;cases this
   | br n a fo of cl bs r=>have:=HMR2.out;cases this
   | leg k0 a0 m0 r0 =>
    obtain ⟨vt2,ma,mc,ms,he2,hmrow,hmn,hnr3⟩:=HN2.out;subst he2;have hwl:ws.length=us.length+(vt2.length+3):=by rw [HVS2.out];simp
    have hat:∀ j v,[strv k0,.int .i64 (a0:Nat),.slice ma m0.len mc][j]? = some v->∃ (h:i*3+j<ws.length),ws[i*3+j]=v:=by
     intro j v hj;have hj3:j<3:=by
      apply Classical.byContradiction;intro hc;rw [List.getElem?_eq_none (by simp;omega)] at hj
      cases hj
     refine ⟨by have:=HUS2.out;omega,?_⟩;have h1:ws[i*3+j]? = some v:=by
      rw [HVS2.out,←HUS2.out,List.getElem?_append_right (by omega),Nat.add_sub_cancel_left,←hj];match j,hj3 with
      | 0,_=>rfl
      | 1,_=>rfl
      | 2,_=>rfl
     rw [List.getElem?_eq_getElem (by have:=HUS2.out;omega)] at h1;exact Option.some.inj h1
    obtain ⟨q0,p0⟩:=hat 0 _ rfl;obtain ⟨q1,p1⟩:=hat 1 _ rfl;obtain ⟨q2,p2⟩:=hat 2 _ rfl;obtain ⟨g2,o2,rfl,hg21,hg22,d0⟩:=HRW.out (i*3+0) q0;obtain ⟨g2',o2',hgg,_,_,d1⟩:=HRW.out (i*3+1) q1
    cases hgg;obtain ⟨g2',o2',hgg,_,_,d2⟩:=HRW.out (i*3+2) q2
    cases hgg;rw [p0] at d0;rw [p1] at d1;rw [p2] at d2;have c0:=keep_cell hkw d0 hg21 hg22;have c1:=keep_cell hkw d1 hg21 hg22;have c2:=keep_cell hkw d2 hg21 hg22;simp only [Nat.add_zero,←Nat.add_assoc] at c0 c1 c2;have HNR3:=Lib.hid hnr3;have k3:(i:Int)<(bs.len:Int):=by omega
    have k4:decide ((i:Int)<(bs.len:Int))=true:=by simp;omega
    have hwq2:(decide (k0.length<=4000001) && m0.isMsg && decide (m0.len<=2000000) && m0.wf 2000000 && r0.wf 2000000)=true:=HWR2.out;simp only [Bool.and_eq_true,decide_eq_true_eq] at hwq2;obtain ⟨⟨⟨⟨hk0,_⟩,_⟩,_⟩,hm4⟩:=hwq2;have HWR3:=Lib.hid hm4;have HMR3:=Lib.hid (show r0.isLegs=true from HMR2.out);have HLN3:=Lib.hid (show i+(r0.len+1)=bs.len from HLN2.out);have hbA:Below wr.heap.size wr (wr.alloc (.cells #[strv k0,.int .i64 (a0:Nat),.slice ma m0.len mc] 183)):=(Below.refl _ _).alloc (Nat.le_refl _) _;have hMA:=HMP.out.below hbA;have hlk:=hMA.look1 mapt_int k0 (by omega);obtain ⟨cn,hcn⟩:∃ cn,(fm k0).getD 0=cn:=⟨_,rfl⟩;rw [hcn] at hlk;have HS1:=Lib.hid (HSN.out.more k0);rw [hcn] at HS1;have hck:=HSN.out k0;rw [hcn] at hck;have hcl:cn<=i:=by have:=HSL.out;omega
    have HCN:=Lib.hid hcn;have HCK:=Lib.hid hck.1;clear hmrow hmn hnr3 d0 d1 d2 p0 p1 p2 hat hcn hck hm4 hkw hln hwl;have hwA:=hbw1.trans (hbA.mono (by have:=hbw1.size;omega));by_cases hin:k0∈seen
    ·have hpos:=HCK.out.2 hin;have j1:decide ((0:Int)<(cn:Int))=true:=by simp;omega
     have j2:decide (0<cn)=true:=by simp;omega
     have HRN:=Lib.hid (show bGo cl (k0::seen) (acc++[(7,a0)]) r0=R by rw [←HR1.out,bGo,if_pos hin]);clear hin;have HMA:=Lib.hid hMA;have HOA:=Lib.hid (HOW.out.keepB hbA);clear hMA;go_wp2_with (at_builtin;refine list_gen ?_)
     intro W3 hW3;have hbA2:Below (wr.alloc (.cells #[strv k0,.int .i64 (a0:Nat),.slice ma m0.len mc] 183)).heap.size (wr.alloc (.cells #[strv k0,.int .i64 (a0:Nat),.slice ma m0.len mc] 183)) W3:=by rw [hW3];exact (Below.refl _ _).alloc (Nat.le_refl _) _
     have hsA:(wr.alloc (.cells #[strv k0,.int .i64 (a0:Nat),.slice ma m0.len mc] 183)).heap.size=wr.heap.size+1:=by simp
     have hC3:=fun i=>cell_made (wr.alloc (.cells #[strv k0,.int .i64 (a0:Nat),.slice ma m0.len mc] 183)) #[.int .i64 7,.int .i64 (a0:Nat)] 105 (0,0) i
     rw [←hW3,hsA] at hC3;have hcB3:=(hbA2.cell (p:=⟨wr.heap.size,0,none⟩) (by show wr.heap.size<_;omega)).trans (cell_made wr #[strv k0,.int .i64 (a0:Nat),.slice ma m0.len mc] 183 (0,0) 0);have HM3:=Lib.hid (HMA.out.below hbA2);have HO3:=Lib.hid (HOA.out.keepB hbA2);have hsz3:=hbA2.size;have hbw3:=hwA.trans (hbA2.mono (by have:=hbw1.size;omega));clear hW3;refine app_own elem_fault rfl _ _ rfl (mb+1) _ acc.length (faultC acc) rfl HO3.out ⟨wr.heap.size+1,0,none⟩ 1 1 [.int .i64 7,.int .i64 (a0:Nat)] rfl rfl ?u1 ?u2 (by have:=HAL.out;omega) (by omega) ?u3
     case u1=>exact cells_two (hC3 0) (hC3 1)
     case u2 =>
      intro u hu;simp at hu;rcases hu with rfl | rfl<;>rfl
     intro v4 w4 ho4 hg4;have HO4:=Lib.hid (show FaultsR (mb+1) w4 v4 (acc++[(7,a0)]) by unfold FaultsR;rw [faultC_app,List.length_append];exact ho4);have hown:∀ k,(Value.slice fa acc.length fc).ownBlock=some k->mb+1<=k/\k<wr.heap.size:=fun k hk=>HOW.out.lt k hk
     have hM4:=HM3.out.keep (hg4.block mb HM3.out.lt (fun e=>by have:=hown mb e.symm;omega));have hbw4:Below w.heap.size w w4:=hbw3.grown hg4 hbw3.size (fun k hk=>by have:=hown k hk;have:=HMB.out;omega);have hcB4:w4.cell? ⟨wr.heap.size,0,none⟩=some (strv k0):=hg4.cell hcB3 (fun e=>absurd (hown _ e.symm).2 (Nat.lt_irrefl _));obtain ⟨fa4,fc4,rfl⟩:=own_slice ho4;obtain ⟨w5,hup,hm5,hg5⟩:=hM4.put mapt_int k0 (by omega) ((cn:Int)+1) (cn+1) (by omega) (by omega) (by omega);have hlk2:=hM4.look1 mapt_int k0 (by omega);rw [HCN.out] at hlk2;have HM5:=Lib.hid hm5;have HO5:=Lib.hid (HO4.out.keepG hg5 (by omega));have hbw5:Below w.heap.size w w5:=hbw4.grown hg5 hbw4.size (fun k hk=>by cases hk;have:=HMB.out;omega);have hm5w:=hm5.lt;have hlen5:(acc.length+1)=(acc++[(7,a0)]).length:=by simp
     have HO6:=Lib.hid (show FaultsR (mb+1) w5 (.slice fa4 (acc.length+1) fc4) (acc++[(7,a0)]) from HO5.out);clear ho4 hg4 hown hm5 hg5 hM4 hlk hC3 hcB3 hlen5;go_wp2
     go_roundw
     case rel=>exact ⟨i+1,us++[strv k0,.int .i64 (a0:Nat),.slice ma m0.len mc],vt2,r0,acc++[(7,a0)],k0::seen,nm+1,_,by simp,by omega,HNR3.out,HMR3.out,HWR3.out,by have:=HUS2.out;simp;omega,by rw [HVS2.out,List.append_assoc];rfl,by have:=HLN3.out;omega,hbw5,hm5w,HO6.out,HM5.out,by omega,HS1.out,by simp [HSL.out],by have:=HAL.out;simp;omega,HRN.out⟩
     case measure=>simp only [intOf];omega
    ·have hpos:¬0<cn:=fun h=>hin (HCK.out.1 h)
     have j1:decide ((0:Int)<(cn:Int))=false:=by simp;omega
     have j2:decide (0<cn)=false:=by simp;omega
     have HRN:=Lib.hid (show bGo cl (k0::seen) acc r0=R by rw [←HR1.out,bGo,if_neg hin]);clear hin hpos;obtain ⟨w5,hup,hm5,hg5⟩:=hMA.put mapt_int k0 (by omega) ((cn:Int)+1) (cn+1) (by omega) (by omega) (by omega);have HM5:=Lib.hid hm5;have HO5:=Lib.hid ((HOW.out.keepB hbA).keepG hg5 (by omega));have hbw5:Below w.heap.size w w5:=hwA.grown hg5 hwA.size (fun k hk=>by cases hk;have:=HMB.out;omega);have hm5w:=hm5.lt;clear hm5 hg5 hMA;go_wp2
     go_roundw
     case rel=>exact ⟨i+1,us++[strv k0,.int .i64 (a0:Nat),.slice ma m0.len mc],vt2,r0,acc,k0::seen,nm+1,_,by simp,by omega,HNR3.out,HMR3.out,HWR3.out,by have:=HUS2.out;simp;omega,by rw [HVS2.out,List.append_assoc];rfl,by have:=HLN3.out;omega,hbw5,hm5w,HO5.out,HM5.out,by omega,HS1.out,by simp [HSL.out],by have:=HAL.out;omega,HRN.out⟩
     case measure=>simp only [intOf];omega
  ·have k4:decide ((i:Int)<(bs.len:Int))=false:=by simp;omega
   have hr0:r = .nil:=by
    have:=HMR2.out
    cases r<;>simp [Fo.len] at hln<;>first | rfl | omega
   have hlk:(Instr.lookup 185 (.map (some mb)) (.string ⟨#[111,116,104,101,114]⟩) false).run Tryz.prog wr = .ok (.int .i64 (((fm othW).getD 0:Nat):Int)) wr:=HMP.out.look1 mapt_int othW (by decide);have hso:=HSN.out othW;obtain ⟨cn,hcn⟩:∃ cn,(fm othW).getD 0=cn:=⟨_,rfl⟩;rw [hcn] at hlk hso;have c5:=keep_cell hkw HC5.out hb1 hb2;have hfin:bGo cl seen acc r=if othW∈seen then acc else acc++[(6,cl)]:=by rw [hr0];rfl
   have HFN:=Lib.hid (hfin.symm.trans HR1.out);have HOB:=Lib.hid (ownsRow_base HOW.out HMB.out);by_cases hin:othW∈seen
   ·have hpos:=hso.1.2 hin;have j1:((cn:Int)==0)=false:=by simp;omega
    have HRX:=Lib.hid (show R=acc by rw [←HFN.out,if_pos hin]);clear hso hcn hfin hin;go_wp2
    go_ret
    rw [HRX.out];exact ⟨⟨_,rfl,HOB.out⟩,hbw1⟩
   ·have hpos:¬0<cn:=fun h=>hin (hso.1.1 h)
    have j1:((cn:Int)==0)=true:=by simp;omega
    have HRX:=Lib.hid (show R=acc++[(6,cl)] by rw [←HFN.out,if_neg hin]);clear hso hcn hfin hin;go_wp2_with (at_builtin;refine list_gen ?_)
    intro W3 hW3;have hbA2:Below wr.heap.size wr W3:=by rw [hW3];exact (Below.refl _ _).alloc (Nat.le_refl _) _
    have hC3:=fun i=>cell_made wr #[.int .i64 6,.int .i64 (cl:Nat)] 105 (0,0) i
    rw [←hW3] at hC3;have HO3:=Lib.hid (HOW.out.keepB hbA2);have hsz3:=hbA2.size;have hbw3:=hbw1.trans (hbA2.mono (by have:=hbw1.size;omega));clear hW3;refine app_own elem_fault rfl _ _ rfl (mb+1) _ acc.length (faultC acc) rfl HO3.out ⟨wr.heap.size,0,none⟩ 1 1 [.int .i64 6,.int .i64 (cl:Nat)] rfl rfl ?u4 ?u5 (by have:=HAL.out;omega) (by omega) ?u6
    case u4=>exact cells_two (hC3 0) (hC3 1)
    case u5 =>
     intro u hu;simp at hu;rcases hu with rfl | rfl<;>rfl
    intro v4 w4 ho4 hg4;have HO4:=Lib.hid (ownsRow_base (show FaultsR (mb+1) w4 v4 (acc++[(6,cl)]) by unfold FaultsR;rw [faultC_app,List.length_append];exact ho4) HMB.out);have hown:∀ k,(Value.slice fa acc.length fc).ownBlock=some k->mb+1<=k:=fun k hk=>(HOW.out.lt k hk).1
    have hbw4:Below w.heap.size w w4:=hbw3.grown hg4 hbw3.size (fun k hk=>by have:=hown k hk;have:=HMB.out;omega);clear ho4 hg4 hown;go_wp2
    go_ret
    rw [HRX.out];exact ⟨⟨_,rfl,HO4.out⟩,hbw4⟩
theorem bGo_end {cl:Nat} (seen:List Wd) (acc:List (Nat×Nat)) (n:Nat):(if othW∈seen then acc else acc++[(6,cl)]).length<=acc.length+n+1:=by
 split
 ·omega
 ·rw [List.length_append];show acc.length+1<=_;omega
theorem bGo_len (cl:Nat):∀ (f:Fo) (seen:List Wd) (acc:List (Nat×Nat)),(bGo cl seen acc f).length<=acc.length+f.len+1
 | .leg k a m r,seen,acc=>by
  rw [bGo];refine Nat.le_trans (bGo_len cl r _ _) ?_;split<;>simp [Fo.len]<;>omega
 | .nil,seen,acc=>bGo_end seen acc _
 | .text _ _,seen,acc=>bGo_end seen acc _
 | .hash _,seen,acc=>bGo_end seen acc _
 | .put _ _ _,seen,acc=>bGo_end seen acc _
 | .num _ _ _,seen,acc=>bGo_end seen acc _
 | .br _ _ _ _ _ _ _,seen,acc=>bGo_end seen acc _
def kindF:Fo->Nat
 | .num _ _ _=>1
 | .br _ _ f _ _ _ _=>if f=0 then 2 else 1
 | _=>0
theorem of_any {lo hi:Nat} {w0:World} (x:Fo) (u:Value) (n:Wd) (a:Nat) (w:World) (hk:KeepR lo hi w0 w) (hnd:NodesV lo hi w0 [u] x) (hh:headF x=some (n,a)) :
  Calls Tryz.prog 115 #[u] w fun e w'=>e = .returned (.int .i64 ((kindF x:Nat):Int))/\w'=w:=by
 cases x with
 | nil=>cases hh
 | text t r=>cases hh
 | hash r=>cases hh
 | leg k0 a0 m0 r0=>cases hh
 | put n0 a0 r =>
  obtain ⟨vt,b0,he,hb1,hb2,hc0,hc1,hnr⟩:=hnd
  cases he;have e1:=as_put_num b0;have e2:=as_put_br b0;go_enter Tryz.func115,Tryz.ntmps115
  go_wp2
  go_ret
  exact ⟨rfl,rfl⟩
 | num n0 a0 r =>
  obtain ⟨vt,b0,he,hb1,hb2,hc0,hc1,hnr⟩:=hnd
  cases he;have e1:=as_num_num b0;go_enter Tryz.func115,Tryz.ntmps115
  go_wp2
  go_ret
  exact ⟨rfl,rfl⟩
 | br n0 a0 fo of cl bs r =>
  obtain ⟨vt,b0,ba,bc,ws,he,hb1,hb2,hc0,hc1,hc2,hc3,hc4,hc5,hrw,hbs,hnr⟩:=hnd
  cases he;have e1:=as_br_num b0;have e2:=as_br_br b0;have c2:=keep_cell hk hc2 hb1 hb2;by_cases hf:fo=0
  ·have HF:=Lib.hid hf;have j1:((fo:Int)==0)=true:=by simp [hf]
   clear hf;go_enter Tryz.func115,Tryz.ntmps115
   go_wp2
   go_ret
   have hkf:kindF (.br n0 a0 fo of cl bs r)=2:=if_pos HF.out;rw [hkf];exact ⟨rfl,rfl⟩
  ·have HF:=Lib.hid hf;have j1:((fo:Int)==0)=false:=by simp;omega
   clear hf;go_enter Tryz.func115,Tryz.ntmps115
   go_wp2
   go_ret
   have hkf:kindF (.br n0 a0 fo of cl bs r)=1:=if_neg HF.out;rw [hkf];exact ⟨rfl,rfl⟩
abbrev KSt:=(Wd->Option Nat)×List (Nat×Nat)
def kindS (s:KSt) (n:Wd) (a k:Nat):KSt :=
 if k≠0/\(s.1 n).isSome=true/\(s.1 n).getD 0≠k then (s.1,s.2++[(5,a)]) else if k≠0 then (fun y=>if n=y then some k else s.1 y,s.2) else s
def chkF (s:KSt):Fo->Out KSt
 | .br n a f o cl bs r => .go true ((kindS s n a (kindF (.br n a f o cl bs r))).1,(kindS s n a (kindF (.br n a f o cl bs r))).2++bGo cl [] [] bs)
 | .num n a _ => .go true (kindS s n a 1)
 | .put n a _ => .go true (kindS s n a 0)
 | _ => .go true s
theorem mapt_kind:MapT 254 255:=⟨Tryz.underlying254,Tryz.underlying255,fun w=>by simp [go_sem]⟩
structure ChkI (lo hi:Nat) (w0:World) (B:Nat) (w:World) (s:KSt) (room:Nat) (W:World):Prop where
 keep:KeepR lo hi w0 W
 hiB:hi<=B
 map:∃ nm,MapG 255 W (B+1) nm s.1/\nm+room<=1000000000
 row:∃ v,W.cell? ⟨B,0,none⟩=some v/\FaultsR (B+3) W v s.2
 kc:W.cell? ⟨B+2,0,none⟩=some (.map (some (B+1)))
 fz:W.frozen? ⟨B,0,none⟩=false
 few:s.2.length+room<=1000000000
 bel:Below B w W
theorem ChkI.below {lo hi:Nat} {w0:World} {B:Nat} {w:World} {s:KSt} {room:Nat} {W W':World} (h:ChkI lo hi w0 B w s room W) (hb:Below W.heap.size W W'):ChkI lo hi w0 B w s room W':=by
 obtain ⟨h1,h2,⟨nm,h3,h3'⟩,⟨v,h4,h5⟩,h6,h7,h8,h9⟩:=h;have l1:B<W.heap.size:=World.block_lt_of_cell? W _ h4;have l2:B+2<W.heap.size:=World.block_lt_of_cell? W _ h6;exact ⟨h1.below hb,h2,⟨nm,h3.below hb,h3'⟩,⟨v,(hb.cell (p:=⟨B,0,none⟩) l1).trans h4,h5.keepB hb⟩,(hb.cell (p:=⟨B+2,0,none⟩) l2).trans h6,(hb.frozen (p:=⟨B,0,none⟩) l1).trans h7,h8,h9.trans (hb.mono (by omega))⟩
theorem ChkI.less {lo hi:Nat} {w0:World} {B:Nat} {w:World} {s:KSt} {room room':Nat} {W:World} (h:ChkI lo hi w0 B w s room W) (hr:room'<=room):ChkI lo hi w0 B w s room' W:=by
 obtain ⟨h1,h2,⟨nm,h3,h3'⟩,h4,h6,h7,h8,h9⟩:=h;exact ⟨h1,h2,⟨nm,h3,by omega⟩,h4,h6,h7,by omega,h9⟩
theorem op_faults {w:World} {o:Oper} {a:Act} {K:Act->World->Prop} {Q:Exit->Act->World->Prop}
  (s x:Operand) (ho:o.op = .call { callee := .builtin .append,args:=#[s,x],argTypes:=#[253,253] })
  (base base2:Nat) (v u:Value) (acc l:List (Nat×Nat)) (hs:a.eval s=v) (hF:FaultsR base w v acc) (hx:a.eval x=u) (hU:FaultsR base2 w u l) (h31:acc.length+l.length<=2147483648) (hbase:base<=w.heap.size)
  (h:∀ v' w',FaultsR base w' v' (acc++l)->w.grownBy w' v.ownBlock->K (a.put o.dst v') w'):Oper.wp Tryz.prog o a w K Q:=by
 obtain ⟨i,hi,hz,h2,h3⟩:=elem_fault.info;have hU0:=hU;rcases hU.2 with ⟨hu,hn⟩ | ⟨g,cap,cur,hu,hg,hh,hnc,hcm,hcs,ht⟩
 ·have hl:l=[]:=List.eq_nil_of_length_eq_zero hn;subst hl;have hr:=run_append_owned_none (P:=Tryz.prog) (w:=w) base 253 o.type 105 i 2 elem_fault.under hi v acc.length (faultC acc) hF;unfold Oper.wp execOp;simp only [ho,resolve,invoke,builtin,Sem.run_bind,Sem.run_pure,Result.andThen_ok,List.map_toArray,List.map_cons,List.map_nil,hs,hx,hu,hr];exact h v w (by simpa using hF) (grown_refl w _)
 ·obtain ⟨v',w',hr,k1,k2,_⟩:=run_append_own (P:=Tryz.prog) w base 253 o.type 105 i _ 2 16 elem_fault.under hi hz h2 h3 elem_fault.zsize elem_fault.pos v acc.length (faultC acc) hF ⟨g,0,none⟩ l.length cap (faultC l) (faultC_len l)
   (fun j x hx=>by
    have hj:j<(faultC l).length:=(List.getElem?_eq_some_iff.1 hx).1;rw [addr_add0,←hx];rw [faultC_len] at hj;obtain ⟨g',cap',hv',_,_,hcell⟩:=own_some hU0 (by omega);rw [hu] at hv'
    cases hv';exact hcell j hj)
   (fun x hx=>by
    simp only [faultC,List.mem_flatMap] at hx;obtain ⟨y,_,hy⟩:=hx;simp at hy;rcases hy with rfl | rfl<;>rfl) (by unfold maxLen;omega) (by omega) hbase
  unfold Oper.wp execOp;simp only [ho,resolve,invoke,builtin,Sem.run_bind,Sem.run_pure,Result.andThen_ok,List.map_toArray,List.map_cons,List.map_nil,hs,hx,hu,hr];exact h v' w' (by unfold FaultsR;rw [faultC_app,List.length_append];exact k1) k2
theorem kindF_le (x:Fo):kindF x<=2:=by
 cases x<;>simp [kindF];split<;>decide
theorem KeepR.drewK {lo hi:Nat} {w W:World} (h:KeepR lo hi w W):KeepR lo hi w W.drew:=h
theorem chk_row {lo hi:Nat} {w0:World} {B:Nat} {w:World} {s:KSt} {room room':Nat} {W W':World} {row:Option Nat} {v':Value} {l:List (Nat×Nat)} (h:ChkI lo hi w0 B w s room W) (hg:W.grownBy W' row) (hown:∀ k,row=some k->B+3<=k)
  (hf:FaultsR (B+3) W' v' (s.2++l)) (hr:room'+l.length<=room):ChkI lo hi w0 B w (s.1,s.2++l) room' (W'.setCell ⟨B,0,none⟩ v'):=by
 obtain ⟨h1,h2,⟨nm,h3,h3'⟩,⟨v,h4,h5⟩,h6,h7,h8,h9⟩:=h;have hne:∀ k,k<B+3->(some k:Option Nat)≠row:=fun k q1 q2=>by have:=hown k q2.symm;omega
 have l0:B<W.heap.size:=World.block_lt_of_cell? W _ h4;have hb:∀ k,k<W.heap.size->k<B+3->k≠B->(W'.setCell ⟨B,0,none⟩ v').heap[k]? = W.heap[k]? := fun k q1 q2 q3=>(Below.heap_setCell _ _ _ _ q3).trans (hg.block k q1 (hne k q2))
 have l2:B+2<W.heap.size:=World.block_lt_of_cell? W _ h6;have hsz:W.heap.size<=(W'.setCell ⟨B,0,none⟩ v').heap.size:=Nat.le_trans hg.size (by simp [World.setCell]);have c0:W'.cell? ⟨B,0,none⟩=some v:=hg.cell h4 (hne B (by omega));refine ⟨⟨Nat.le_trans h1.1 hsz,fun k k1 k2=>(hb k (by have:=h1.1;omega) (by omega) (by omega)).trans (h1.2 k k1 k2)⟩,h2,⟨nm,h3.keep (hb (B+1) h3.lt (by omega) (by omega)),by omega⟩,⟨v',by rw [cellSet,if_pos rfl,c0];rfl,?_⟩,
  (World.cell?_of_block (a:=⟨B+2,0,none⟩) (hb (B+2) l2 (by omega) (by omega))).trans h6,?_,?_,?_⟩
 ·exact ownsRow_setCell_below hf (a:=⟨B,0,none⟩) (by show B<B+3;omega) v'
 ·rw [World.frozen?_setCell];exact (World.frozen?_of_block (a:=⟨B,0,none⟩) (hg.block B l0 (hne B (by omega)))).trans h7
 ·show (s.2++l).length+room'<=_;rw [List.length_append];omega
 ·exact setc_below (h9.grown hg (by omega) (fun k q=>by have:=hown k q;omega)) (Nat.le_refl _)
theorem chk_put {lo hi:Nat} {w0:World} {B:Nat} {w:World} {s:KSt} {room room' nm:Nat} {W W':World} {f:Wd->Option Nat} (h:ChkI lo hi w0 B w s room W) (hm:MapG 255 W' (B+1) (nm+1) f) (hg:W.grownBy W' (some (B+1)))
  (hn:nm+room<=1000000000) (hr:room'+1<=room):ChkI lo hi w0 B w (f,s.2) room' W':=by
 obtain ⟨h1,h2,_,⟨v,h4,h5⟩,h6,h7,h8,h9⟩:=h;have hne:∀ k,k≠B+1->(some k:Option Nat)≠some (B+1):=fun k q1 q2=>q1 (by cases q2;rfl)
 have l0:B<W.heap.size:=World.block_lt_of_cell? W _ h4;refine ⟨⟨Nat.le_trans h1.1 hg.size,fun k k1 k2=>(hg.block k (by have:=h1.1;omega) (hne k (by omega))).trans (h1.2 k k1 k2)⟩,h2,⟨nm+1,hm,by omega⟩,⟨v,hg.cell h4 (hne B (by omega)),h5.keepG hg (by omega)⟩,
  hg.cell h6 (hne (B+2) (by omega)),?_,by show s.2.length+room'<=_;omega,h9.grown hg (by omega) (fun k q=>by cases q;omega)⟩
 exact (World.frozen?_of_block (a:=⟨B,0,none⟩) (hg.block B l0 (hne B (by omega)))).trans h7
set_option maxHeartbeats 8000000 in
theorem chk_any {lo hi:Nat} {w0:World} {B:Nat} {w:World} (x:Fo) (u:Value) (n:Wd) (a:Nat) (s:KSt) (room:Nat) (W:World) (hI:ChkI lo hi w0 B w s (room+x.wt) W) (hnd:NodesV lo hi w0 [u] x) (hwf:x.wf 2000000=true) (hh:headF x=some (n,a)) :
  Calls Tryz.prog 114 #[u,.agg #[strv n,.int .i64 (a:Nat)],.pointer (some ⟨B+2,0,none⟩),.pointer (some ⟨B,0,none⟩)] W (OutQ (ChkI lo hi w0 B w) room (chkF s x)):=by
 have HI:=Lib.hid hI;have HND:=Lib.hid hnd;have HWF:=Lib.hid hwf;clear hI hwf
 cases x with
 | nil=>cases hh
 | text t r=>cases hh
 | hash r=>cases hh
 | leg k0 a0 m0 r0=>cases hh
 | put n0 a0 r =>
  obtain ⟨vt,b0,he,hb1,hb2,hc0,hc1,hnr⟩:=hnd;obtain ⟨rfl,rfl⟩:n=n0/\a=a0:=by cases hh;exact ⟨rfl,rfl⟩
  cases he;have e1:=as_put_br b0;have HI:=Lib.hid (show ChkI lo hi w0 B w s (room+1) W from HI.out);have hnl:n.length<=4000001:=by have:=HWF.out;simp [Fo.wf] at this;exact this.1
  obtain ⟨kv,hkv⟩:∃ kv,kindF (.put n a r)=kv:=⟨_,rfl⟩;have HOF:=Lib.hid (fun W' hk=>of_any (.put n a r) (.iface 172 (.pointer (some ⟨b0,0,none⟩))) n a W' hk HND.out rfl);have HKV:=Lib.hid hkv;rw [hkv] at HOF;clear hkv;go_enter Tryz.func114,Tryz.ntmps114
  go_wp2_with fail
  have hbA:Below W.heap.size W (W.alloc (.cells #[strv n,.int .i64 (a:Nat)] 114)):=(Below.refl _ _).alloc (Nat.le_refl _) _;have hcA:=fun i=>cell_made W #[strv n,.int .i64 (a:Nat)] 114 (0,0) i
  have hI1:=HI.out.below hbA;obtain ⟨W1,hW1⟩:∃ W1,W.alloc (.cells #[strv n,.int .i64 (a:Nat)] 114)=W1:=⟨_,rfl⟩;rw [hW1] at hcA hI1 ⊢;have hh0:=hcA 0;have hh1:=hcA 1;clear hW1 hcA hbA;refine (HOF.out W1 hI1.keep).mono ?_;rintro e W2 ⟨rfl,rfl⟩;obtain ⟨nm,hmp,hnm⟩:=hI1.map;obtain ⟨fv,hfc,hfr⟩:=hI1.row;obtain ⟨fa,fc,rfl⟩:=own_slice hfr;have hlk:=hmp.look mapt_kind n (by omega);have hkc:=hI1.kc;have hfz:=hI1.fz;have hfew:=hI1.few;have HI1:=Lib.hid hI1;have HMP:=Lib.hid hmp;have HFR:=Lib.hid hfr;have hB2:B+2<W2.heap.size:=World.block_lt_of_cell? W2 _ hkc;clear hI1 hmp hfr;obtain ⟨kk,hkk⟩:∃ kk,(s.1 n).getD 0=kk:=⟨_,rfl⟩;obtain ⟨bb,hbb⟩:∃ bb,(s.1 n).isSome=bb:=⟨_,rfl⟩;rw [hkk,hbb] at hlk;have HKK:=Lib.hid hkk;have HBB:=Lib.hid hbb;clear hkk hbb HOF;have hk0:kv=0:=HKV.out.symm;subst hk0;have HF:=Lib.hid (HI1.out.less (room':=room) (by omega));go_wp2
  go_ret
  have hch:chkF s (.put n a r) = .go true s:=by show Out.go true (kindS s n a 0)=_;unfold kindS;simp
  rw [hch];exact ⟨rfl,HF.out⟩
 | num n0 a0 r =>
  obtain ⟨vt,b0,he,hb1,hb2,hc0,hc1,hnr⟩:=hnd;obtain ⟨rfl,rfl⟩:n=n0/\a=a0:=by cases hh;exact ⟨rfl,rfl⟩
  cases he;have e1:=as_num_br b0;have HI:=Lib.hid (show ChkI lo hi w0 B w s (room+1) W from HI.out);have hnl:n.length<=4000001:=by have:=HWF.out;simp [Fo.wf] at this;exact this.1
  obtain ⟨kv,hkv⟩:∃ kv,kindF (.num n a r)=kv:=⟨_,rfl⟩;have HOF:=Lib.hid (fun W' hk=>of_any (.num n a r) (.iface 175 (.pointer (some ⟨b0,0,none⟩))) n a W' hk HND.out rfl);have HKV:=Lib.hid hkv;rw [hkv] at HOF;clear hkv;go_enter Tryz.func114,Tryz.ntmps114
  go_wp2_with fail
  have hbA:Below W.heap.size W (W.alloc (.cells #[strv n,.int .i64 (a:Nat)] 114)):=(Below.refl _ _).alloc (Nat.le_refl _) _;have hcA:=fun i=>cell_made W #[strv n,.int .i64 (a:Nat)] 114 (0,0) i
  have hI1:=HI.out.below hbA;obtain ⟨W1,hW1⟩:∃ W1,W.alloc (.cells #[strv n,.int .i64 (a:Nat)] 114)=W1:=⟨_,rfl⟩;rw [hW1] at hcA hI1 ⊢;have hh0:=hcA 0;have hh1:=hcA 1;clear hW1 hcA hbA;refine (HOF.out W1 hI1.keep).mono ?_;rintro e W2 ⟨rfl,rfl⟩;obtain ⟨nm,hmp,hnm⟩:=hI1.map;obtain ⟨fv,hfc,hfr⟩:=hI1.row;obtain ⟨fa,fc,rfl⟩:=own_slice hfr;have hlk:=hmp.look mapt_kind n (by omega);have hkc:=hI1.kc;have hfz:=hI1.fz;have hfew:=hI1.few;have HI1:=Lib.hid hI1;have HMP:=Lib.hid hmp;have HFR:=Lib.hid hfr;have hB2:B+2<W2.heap.size:=World.block_lt_of_cell? W2 _ hkc;clear hI1 hmp hfr;obtain ⟨kk,hkk⟩:∃ kk,(s.1 n).getD 0=kk:=⟨_,rfl⟩;obtain ⟨bb,hbb⟩:∃ bb,(s.1 n).isSome=bb:=⟨_,rfl⟩;rw [hkk,hbb] at hlk;have HKK:=Lib.hid hkk;have HBB:=Lib.hid hbb;clear hkk hbb HOF;have hkv0:kv≠0:=by rw [←HKV.out];exact Nat.one_ne_zero
  have hkv2:kv<=2:=by rw [←HKV.out];exact kindF_le _
  have j1:((kv:Int) !=0)=true:=by simp;omega
  have j1':((kv:Int)==0)=false:=by simp;omega
  have HK0:=Lib.hid hkv0
  cases bb with
  | false =>
   obtain ⟨W4,hup,hm4,hg4⟩:=HMP.out.put mapt_kind n (by omega) (kv:Int) kv rfl (by omega) (by omega);have HST:=Lib.hid (show kindS s n a kv=(fun y=>if n=y then some kv else s.1 y,s.2) by unfold kindS;rw [if_neg (fun e=>by have:=e.2.1;rw [HBB.out] at this;cases this),if_pos HK0.out]);have HF:=Lib.hid (chk_put HI1.out hm4 hg4 (room':=room) hnm (by omega));clear hm4 hg4;go_wp2
   go_ret
   have hch:chkF s (.num n a r) = .go true ((fun y=>if n=y then some kv else s.1 y,s.2):KSt):=by show Out.go true (kindS s n a 1)=_;rw [show (1:Nat)=kv from HKV.out,HST.out]
   rw [hch];exact ⟨rfl,HF.out⟩
  | true =>
   by_cases hsame:kk=kv
   ·have j2:((kk:Int) !=(kv:Int))=false:=by simp [hsame]
    have j3:(kk !=kv)=false:=by simp [hsame]
    have HSAME:=Lib.hid hsame;clear hsame;obtain ⟨W4,hup,hm4,hg4⟩:=HMP.out.put mapt_kind n (by omega) (kv:Int) kv rfl (by omega) (by omega);have HST:=Lib.hid (show kindS s n a kv=(fun y=>if n=y then some kv else s.1 y,s.2) by unfold kindS;rw [if_neg (fun e=>e.2.2 (by rw [HKK.out];exact HSAME.out)),if_pos HK0.out]);have HF:=Lib.hid (chk_put HI1.out hm4 hg4 (room':=room) hnm (by omega));clear hm4 hg4;go_wp2
    go_ret
    have hch:chkF s (.num n a r) = .go true ((fun y=>if n=y then some kv else s.1 y,s.2):KSt):=by show Out.go true (kindS s n a 1)=_;rw [show (1:Nat)=kv from HKV.out,HST.out]
    rw [hch];exact ⟨rfl,HF.out⟩
   ·have j2:((kk:Int) !=(kv:Int))=true:=by simp;omega
    have j3:(kk !=kv)=true:=by simp [hsame]
    have HSAME:=Lib.hid hsame;clear hsame;go_wp2_with (at_builtin;refine list_gen ?_)
    intro W3 hW3;have hal:Below W2.heap.size W2 W3:=by rw [hW3];exact (Below.refl _ _).alloc (Nat.le_refl _) _
    have hC3:=fun i=>cell_made W2 #[.int .i64 5,.int .i64 (a:Nat)] 105 (0,0) i
    rw [←hW3] at hC3;have HI3:=Lib.hid (HI1.out.below hal);have q3:=(hal.cell (World.block_lt_of_cell? _ _ hfc)).trans hfc;have HO3:=Lib.hid (HFR.out.keepB hal);have hsz3:=hal.size;clear hW3;refine app_own elem_fault rfl _ _ rfl (B+3) _ s.2.length (faultC s.2) rfl HO3.out ⟨W2.heap.size,0,none⟩ 1 1 [.int .i64 5,.int .i64 (a:Nat)] rfl rfl ?w5V1 ?w5V2 (by omega) (by omega) ?w5V3
    case w5V1=>exact cells_two (hC3 0) (hC3 1)
    case w5V2 =>
     intro u hu;simp at hu;rcases hu with rfl | rfl<;>rfl
    intro v4 w4 ho4 hg4;have hf4:FaultsR (B+3) w4 v4 (s.2++[(5,a)]):=by unfold FaultsR;rw [faultC_app,List.length_append];exact ho4
    have hown:∀ k,(Value.slice fa s.2.length fc).ownBlock=some k->B+3<=k:=fun k hk=>(HFR.out.lt k hk).1
    have hne:∀ k,k<B+3->(some k:Option Nat)≠(Value.slice fa s.2.length fc).ownBlock:=fun k h1 h2=>by have:=hown k h2.symm;omega
    have q4:=hg4.cell q3 (hne B (by omega));have z4:w4.frozen? ⟨B,0,none⟩=false:=(World.frozen?_of_block (a:=⟨B,0,none⟩) (hg4.block B (World.block_lt_of_cell? _ _ q3) (hne B (by omega)))).trans HI3.out.fz;have HST:=Lib.hid (show kindS s n a kv=(s.1,s.2++[(5,a)]) by unfold kindS;rw [if_pos ⟨HK0.out,HBB.out,fun e=>HSAME.out (HKK.out.symm.trans e)⟩]);have HF:=Lib.hid (chk_row (l:=[(5,a)]) (room':=room) HI3.out hg4 hown hf4 (by simp<;>omega));obtain ⟨fa4,fc4,rfl⟩:=own_slice hf4;obtain ⟨W4,hW4⟩:∃ W4,w4.setCell ⟨B,0,none⟩ (.slice fa4 (s.2.length+1) fc4)=W4:=⟨_,rfl⟩;have hlen4:(s.2++[(5,a)]).length=s.2.length+1:=by simp
    rw [hlen4,hW4] at HF;have HW4:=Lib.hid hW4;clear ho4 hg4 hown hf4 hne q3 HO3 hlen4;go_wp2
    go_ret
    have hch:chkF s (.num n a r) = .go true ((s.1,s.2++[(5,a)]):KSt):=by show Out.go true (kindS s n a 1)=_;rw [show (1:Nat)=kv from HKV.out,HST.out]
    rw [hch];exact ⟨rfl,HF.out⟩
 | br n0 a0 fo of cl bs r =>
  obtain ⟨vt,b0,ba,bc,ws,he,hb1,hb2,hc0,hc1,hc2,hc3,hc4,hc5,hrw,hbs,hnr⟩:=hnd;obtain ⟨rfl,rfl⟩:n=n0/\a=a0:=by cases hh;exact ⟨rfl,rfl⟩
  cases he;have e1:=as_br_br b0;have HI:=Lib.hid (show ChkI lo hi w0 B w s (room+(2+bs.len)) W from HI.out);have hnl:n.length<=4000001:=by have:=HWF.out;simp [Fo.wf] at this;exact this.1.1.1.1.1
  have HND2:=Lib.hid (show NodesV lo hi w0 [.iface 177 (.pointer (some ⟨b0,0,none⟩))] (.br n a fo of cl bs .nil) from ⟨[],b0,ba,bc,ws,rfl,hb1,hb2,hc0,hc1,hc2,hc3,hc4,hc5,hrw,hbs,rfl⟩);have HWF2:=Lib.hid (show (Fo.br n a fo of cl bs .nil).wf 2000000=true by have:=HWF.out;simp [Fo.wf] at this ⊢;exact this.1);obtain ⟨kv,hkv⟩:∃ kv,kindF (.br n a fo of cl bs r)=kv:=⟨_,rfl⟩;have HOF:=Lib.hid (fun W' hk=>of_any (.br n a fo of cl bs r) (.iface 177 (.pointer (some ⟨b0,0,none⟩))) n a W' hk HND.out rfl);have HKV:=Lib.hid hkv;rw [hkv] at HOF;clear hkv;go_enter Tryz.func114,Tryz.ntmps114
  go_wp2_with fail
  have hbA:Below W.heap.size W (W.alloc (.cells #[strv n,.int .i64 (a:Nat)] 114)):=(Below.refl _ _).alloc (Nat.le_refl _) _;have hcA:=fun i=>cell_made W #[strv n,.int .i64 (a:Nat)] 114 (0,0) i
  have hI1:=HI.out.below hbA;obtain ⟨W1,hW1⟩:∃ W1,W.alloc (.cells #[strv n,.int .i64 (a:Nat)] 114)=W1:=⟨_,rfl⟩;rw [hW1] at hcA hI1 ⊢;have hh0:=hcA 0;have hh1:=hcA 1;clear hW1 hcA hbA;refine (HOF.out W1 hI1.keep).mono ?_;rintro e W2 ⟨rfl,rfl⟩;obtain ⟨nm,hmp,hnm⟩:=hI1.map;obtain ⟨fv,hfc,hfr⟩:=hI1.row;obtain ⟨fa,fc,rfl⟩:=own_slice hfr;have hlk:=hmp.look mapt_kind n (by omega);have hkc:=hI1.kc;have hfz:=hI1.fz;have hfew:=hI1.few;have HI1:=Lib.hid hI1;have HMP:=Lib.hid hmp;have HFR:=Lib.hid hfr;have hB2:B+2<W2.heap.size:=World.block_lt_of_cell? W2 _ hkc;clear hI1 hmp hfr;obtain ⟨kk,hkk⟩:∃ kk,(s.1 n).getD 0=kk:=⟨_,rfl⟩;obtain ⟨bb,hbb⟩:∃ bb,(s.1 n).isSome=bb:=⟨_,rfl⟩;rw [hkk,hbb] at hlk;have HKK:=Lib.hid hkk;have HBB:=Lib.hid hbb;clear hkk hbb HOF;have hkv0:kv≠0:=by rw [←HKV.out];by_cases h:fo=0<;>simp [kindF,h]
  have hkv2:kv<=2:=by rw [←HKV.out];exact kindF_le _
  have j1:((kv:Int) !=0)=true:=by simp;omega
  have j1':((kv:Int)==0)=false:=by simp;omega
  have HK0:=Lib.hid hkv0
  cases bb with
  | false =>
   obtain ⟨W4,hup,hm4,hg4⟩:=HMP.out.put mapt_kind n (by omega) (kv:Int) kv rfl (by omega) (by omega);have HST:=Lib.hid (show kindS s n a kv=(fun y=>if n=y then some kv else s.1 y,s.2) by unfold kindS;rw [if_neg (fun e=>by have:=e.2.1;rw [HBB.out] at this;cases this),if_pos HK0.out]);have HF:=Lib.hid (chk_put HI1.out hm4 hg4 (room':=(room+1+bs.len)) hnm (by omega));clear hm4 hg4;obtain ⟨s1,hs1⟩:∃ s1:KSt,((fun y=>if n=y then some kv else s.1 y,s.2):KSt)=s1:=⟨_,rfl⟩;rw [hs1] at HST HF;clear hs1;go_wp2_with fail
   have q1:=HF.out.row;obtain ⟨v1,q2,q3⟩:=q1;obtain ⟨fa1,fc1,rfl⟩:=own_slice q3;have HBR:=Lib.hid (fun W' hk=>syn_branches b0 n a fo of cl bs W' hk HND2.out HWF2.out);have HQ3:=Lib.hid q3;refine wp_region_takesK (fun W':World=>W'.cell? ⟨B,0,none⟩=some (.slice fa1 (s1).2.length fc1)) 4 [0,1] 3 (by intro _ _ d _ _ h;cases d<;>exact h) (by kernel_rfl) (by kernel_rfl) q2 ?_;(iterate 2 (first | (refine takes_yes (v:=?_) rfl (by rfl) ?_ ?_;rotate_left;(focus ((intro w' hS';(try dsimp only at hS');go_simp;try (with_reducible rfl));done));(try simp only [Act.put,List.setIfInBounds_toArray,List.set_cons_zero,List.set_cons_succ])) | (refine takes_no rfl (by rfl) ?_;(try simp only [Act.put,List.setIfInBounds_toArray,List.set_cons_zero,List.set_cons_succ]))))
   refine takes_nil ?_;refine wpAnyK_only 2 (by kernel_rfl) rfl (fun K hK=>?_);go_simp
   refine (HBR.out W4.drew HF.out.keep.drewK).mono ?_;rintro e W5 ⟨⟨vb,rfl,hfb⟩,hb5⟩;have hb5':Below W4.heap.size W4 W5:=(Below.refl _ W4).drew.trans hb5;have hI5:=HF.out.below hb5';have q5:W5.cell? ⟨B,0,none⟩=some (.slice fa1 (s1).2.length fc1):=(hb5'.cell (World.block_lt_of_cell? _ _ q2)).trans q2;have q6:=HQ3.out.keepB hb5';have z5:=hI5.fz;have HI5:=Lib.hid hI5;have HFB:=Lib.hid hfb;clear hI5 hfb;refine hK.out _ _ q5 (fun _=>?_);clear hK K;refine wpAnyK_only 3 (by kernel_rfl) rfl (fun K hK=>?_);rw [if_pos (by rfl)];refine op_faults _ _ rfl (B+3) _ _ vb (s1).2 (bGo cl [] [] bs) rfl q6 rfl HFB.out ?w8X1 ?w8X2 ?w8X3
   case w8X1 =>
    have:=bGo_len cl bs [] [];have:=HF.out.few;simp only [List.length_nil] at *;omega
   case w8X2=>have h:=World.block_lt_of_cell? _ _ HF.out.kc;have:=hb5'.size;dsimp only at h;omega
   case w8X3 =>
    intro v6 W6 hf6 hg6;have HF6:=Lib.hid hf6;have hown:∀ k,(Value.slice fa1 (s1).2.length fc1).ownBlock=some k->B+3<=k:=fun k hk=>(HQ3.out.lt k hk).1
    have hne:∀ k,k<B+3->(some k:Option Nat)≠(Value.slice fa1 (s1).2.length fc1).ownBlock:=fun k h1 h2=>by have:=hown k h2.symm;omega
    have q7:=hg6.cell q5 (hne B (by omega));have q8:W6.frozen? ⟨B,0,none⟩=false:=(World.frozen?_of_block (a:=⟨B,0,none⟩) (hg6.block B (World.block_lt_of_cell? _ _ q5) (hne B (by omega)))).trans z5;have hI6:=chk_row (room':=room) HI5.out hg6 hown hf6 (by have:=bGo_len cl bs [] [];simp only [List.length_nil] at this;omega);obtain ⟨fa6,fc6,rfl⟩:=own_slice hf6;refine hK.out _ _ q7 (fun _=>?_);clear hK K;refine wpAnyK_last 4 (by kernel_rfl) (by kernel_rfl) rfl (fun K hK=>?_);go_simp
    refine hK.out _ _ ?_;clear hK K;refine wpAnyK_done (by kernel_rfl) ?_ _;rw [List.length_append] at hI6;have HI6:=Lib.hid hI6;clear hI6;go_wp2
    go_ret
    have hch:chkF s (.br n a fo of cl bs r) = .go true (s1.1,s1.2++bGo cl [] [] bs):=by
     show Out.go true ((kindS s n a (kindF (.br n a fo of cl bs r))).1,(kindS s n a (kindF (.br n a fo of cl bs r))).2++bGo cl [] [] bs)=_;rw [HKV.out,HST.out]
    rw [hch];exact ⟨rfl,HI6.out⟩
  | true =>
   by_cases hsame:kk=kv
   ·have j2:((kk:Int) !=(kv:Int))=false:=by simp [hsame]
    have j3:(kk !=kv)=false:=by simp [hsame]
    have HSAME:=Lib.hid hsame;clear hsame;obtain ⟨W4,hup,hm4,hg4⟩:=HMP.out.put mapt_kind n (by omega) (kv:Int) kv rfl (by omega) (by omega);have HST:=Lib.hid (show kindS s n a kv=(fun y=>if n=y then some kv else s.1 y,s.2) by unfold kindS;rw [if_neg (fun e=>e.2.2 (by rw [HKK.out];exact HSAME.out)),if_pos HK0.out]);have HF:=Lib.hid (chk_put HI1.out hm4 hg4 (room':=(room+1+bs.len)) hnm (by omega));clear hm4 hg4;obtain ⟨s1,hs1⟩:∃ s1:KSt,((fun y=>if n=y then some kv else s.1 y,s.2):KSt)=s1:=⟨_,rfl⟩;rw [hs1] at HST HF;clear hs1;go_wp2_with fail
    have q1:=HF.out.row;obtain ⟨v1,q2,q3⟩:=q1;obtain ⟨fa1,fc1,rfl⟩:=own_slice q3;have HBR:=Lib.hid (fun W' hk=>syn_branches b0 n a fo of cl bs W' hk HND2.out HWF2.out);have HQ3:=Lib.hid q3;refine wp_region_takesK (fun W':World=>W'.cell? ⟨B,0,none⟩=some (.slice fa1 (s1).2.length fc1)) 4 [0,1] 3 (by intro _ _ d _ _ h;cases d<;>exact h) (by kernel_rfl) (by kernel_rfl) q2 ?_;(iterate 2 (first | (refine takes_yes (v:=?_) rfl (by rfl) ?_ ?_;rotate_left;(focus ((intro w' hS';(try dsimp only at hS');go_simp;try (with_reducible rfl));done));(try simp only [Act.put,List.setIfInBounds_toArray,List.set_cons_zero,List.set_cons_succ])) | (refine takes_no rfl (by rfl) ?_;(try simp only [Act.put,List.setIfInBounds_toArray,List.set_cons_zero,List.set_cons_succ]))))
    refine takes_nil ?_;refine wpAnyK_only 2 (by kernel_rfl) rfl (fun K hK=>?_);go_simp
    refine (HBR.out W4.drew HF.out.keep.drewK).mono ?_;rintro e W5 ⟨⟨vb,rfl,hfb⟩,hb5⟩;have hb5':Below W4.heap.size W4 W5:=(Below.refl _ W4).drew.trans hb5;have hI5:=HF.out.below hb5';have q5:W5.cell? ⟨B,0,none⟩=some (.slice fa1 (s1).2.length fc1):=(hb5'.cell (World.block_lt_of_cell? _ _ q2)).trans q2;have q6:=HQ3.out.keepB hb5';have z5:=hI5.fz;have HI5:=Lib.hid hI5;have HFB:=Lib.hid hfb;clear hI5 hfb;refine hK.out _ _ q5 (fun _=>?_);clear hK K;refine wpAnyK_only 3 (by kernel_rfl) rfl (fun K hK=>?_);rw [if_pos (by rfl)];refine op_faults _ _ rfl (B+3) _ _ vb (s1).2 (bGo cl [] [] bs) rfl q6 rfl HFB.out ?w9X1 ?w9X2 ?w9X3
    case w9X1 =>
     have:=bGo_len cl bs [] [];have:=HF.out.few;simp only [List.length_nil] at *;omega
    case w9X2=>have h:=World.block_lt_of_cell? _ _ HF.out.kc;have:=hb5'.size;dsimp only at h;omega
    case w9X3 =>
     intro v6 W6 hf6 hg6;have HF6:=Lib.hid hf6;have hown:∀ k,(Value.slice fa1 (s1).2.length fc1).ownBlock=some k->B+3<=k:=fun k hk=>(HQ3.out.lt k hk).1
     have hne:∀ k,k<B+3->(some k:Option Nat)≠(Value.slice fa1 (s1).2.length fc1).ownBlock:=fun k h1 h2=>by have:=hown k h2.symm;omega
     have q7:=hg6.cell q5 (hne B (by omega));have q8:W6.frozen? ⟨B,0,none⟩=false:=(World.frozen?_of_block (a:=⟨B,0,none⟩) (hg6.block B (World.block_lt_of_cell? _ _ q5) (hne B (by omega)))).trans z5;have hI6:=chk_row (room':=room) HI5.out hg6 hown hf6 (by have:=bGo_len cl bs [] [];simp only [List.length_nil] at this;omega);obtain ⟨fa6,fc6,rfl⟩:=own_slice hf6;refine hK.out _ _ q7 (fun _=>?_);clear hK K;refine wpAnyK_last 4 (by kernel_rfl) (by kernel_rfl) rfl (fun K hK=>?_);go_simp
     refine hK.out _ _ ?_;clear hK K;refine wpAnyK_done (by kernel_rfl) ?_ _;rw [List.length_append] at hI6;have HI6:=Lib.hid hI6;clear hI6;go_wp2
     go_ret
     have hch:chkF s (.br n a fo of cl bs r) = .go true (s1.1,s1.2++bGo cl [] [] bs):=by
      show Out.go true ((kindS s n a (kindF (.br n a fo of cl bs r))).1,(kindS s n a (kindF (.br n a fo of cl bs r))).2++bGo cl [] [] bs)=_;rw [HKV.out,HST.out]
     rw [hch];exact ⟨rfl,HI6.out⟩
   ·have j2:((kk:Int) !=(kv:Int))=true:=by simp;omega
    have j3:(kk !=kv)=true:=by simp [hsame]
    have HSAME:=Lib.hid hsame;clear hsame;go_wp2_with (at_builtin;refine list_gen ?_)
    intro W3 hW3;have hal:Below W2.heap.size W2 W3:=by rw [hW3];exact (Below.refl _ _).alloc (Nat.le_refl _) _
    have hC3:=fun i=>cell_made W2 #[.int .i64 5,.int .i64 (a:Nat)] 105 (0,0) i
    rw [←hW3] at hC3;have HI3:=Lib.hid (HI1.out.below hal);have q3:=(hal.cell (World.block_lt_of_cell? _ _ hfc)).trans hfc;have HO3:=Lib.hid (HFR.out.keepB hal);have hsz3:=hal.size;clear hW3;refine app_own elem_fault rfl _ _ rfl (B+3) _ s.2.length (faultC s.2) rfl HO3.out ⟨W2.heap.size,0,none⟩ 1 1 [.int .i64 5,.int .i64 (a:Nat)] rfl rfl ?w10V1 ?w10V2 (by omega) (by omega) ?w10V3
    case w10V1=>exact cells_two (hC3 0) (hC3 1)
    case w10V2 =>
     intro u hu;simp at hu;rcases hu with rfl | rfl<;>rfl
    intro v4 w4 ho4 hg4;have hf4:FaultsR (B+3) w4 v4 (s.2++[(5,a)]):=by unfold FaultsR;rw [faultC_app,List.length_append];exact ho4
    have hown:∀ k,(Value.slice fa s.2.length fc).ownBlock=some k->B+3<=k:=fun k hk=>(HFR.out.lt k hk).1
    have hne:∀ k,k<B+3->(some k:Option Nat)≠(Value.slice fa s.2.length fc).ownBlock:=fun k h1 h2=>by have:=hown k h2.symm;omega
    have q4:=hg4.cell q3 (hne B (by omega));have z4:w4.frozen? ⟨B,0,none⟩=false:=(World.frozen?_of_block (a:=⟨B,0,none⟩) (hg4.block B (World.block_lt_of_cell? _ _ q3) (hne B (by omega)))).trans HI3.out.fz;have HST:=Lib.hid (show kindS s n a kv=(s.1,s.2++[(5,a)]) by unfold kindS;rw [if_pos ⟨HK0.out,HBB.out,fun e=>HSAME.out (HKK.out.symm.trans e)⟩]);have HF:=Lib.hid (chk_row (l:=[(5,a)]) (room':=(room+1+bs.len)) HI3.out hg4 hown hf4 (by simp<;>omega));obtain ⟨fa4,fc4,rfl⟩:=own_slice hf4;obtain ⟨W4,hW4⟩:∃ W4,w4.setCell ⟨B,0,none⟩ (.slice fa4 (s.2.length+1) fc4)=W4:=⟨_,rfl⟩;have hlen4:(s.2++[(5,a)]).length=s.2.length+1:=by simp
    rw [hlen4,hW4] at HF;have HW4:=Lib.hid hW4;clear ho4 hg4 hown hf4 hne q3 HO3 hlen4;obtain ⟨s1,hs1⟩:∃ s1:KSt,((s.1,s.2++[(5,a)]):KSt)=s1:=⟨_,rfl⟩;rw [hs1] at HST HF;clear hs1;go_wp2_with fail
    clear hW4;have q1:=HF.out.row;obtain ⟨v1,q2,q3⟩:=q1;obtain ⟨fa1,fc1,rfl⟩:=own_slice q3;have HBR:=Lib.hid (fun W' hk=>syn_branches b0 n a fo of cl bs W' hk HND2.out HWF2.out);have HQ3:=Lib.hid q3;refine wp_region_takesK (fun W':World=>W'.cell? ⟨B,0,none⟩=some (.slice fa1 (s1).2.length fc1)) 4 [0,1] 3 (by intro _ _ d _ _ h;cases d<;>exact h) (by kernel_rfl) (by kernel_rfl) q2 ?_;(iterate 2 (first | (refine takes_yes (v:=?_) rfl (by rfl) ?_ ?_;rotate_left;(focus ((intro w' hS';(try dsimp only at hS');go_simp;try (with_reducible rfl));done));(try simp only [Act.put,List.setIfInBounds_toArray,List.set_cons_zero,List.set_cons_succ])) | (refine takes_no rfl (by rfl) ?_;(try simp only [Act.put,List.setIfInBounds_toArray,List.set_cons_zero,List.set_cons_succ]))))
    refine takes_nil ?_;refine wpAnyK_only 2 (by kernel_rfl) rfl (fun K hK=>?_);go_simp
    refine (HBR.out W4.drew HF.out.keep.drewK).mono ?_;rintro e W5 ⟨⟨vb,rfl,hfb⟩,hb5⟩;have hb5':Below W4.heap.size W4 W5:=(Below.refl _ W4).drew.trans hb5;have hI5:=HF.out.below hb5';have q5:W5.cell? ⟨B,0,none⟩=some (.slice fa1 (s1).2.length fc1):=(hb5'.cell (World.block_lt_of_cell? _ _ q2)).trans q2;have q6:=HQ3.out.keepB hb5';have z5:=hI5.fz;have HI5:=Lib.hid hI5;have HFB:=Lib.hid hfb;clear hI5 hfb;refine hK.out _ _ q5 (fun _=>?_);clear hK K;refine wpAnyK_only 3 (by kernel_rfl) rfl (fun K hK=>?_);rw [if_pos (by rfl)];refine op_faults _ _ rfl (B+3) _ _ vb (s1).2 (bGo cl [] [] bs) rfl q6 rfl HFB.out ?w10X1 ?w10X2 ?w10X3
    case w10X1 =>
     have:=bGo_len cl bs [] [];have:=HF.out.few;simp only [List.length_nil] at *;omega
    case w10X2=>have h:=World.block_lt_of_cell? _ _ HF.out.kc;have:=hb5'.size;dsimp only at h;omega
    case w10X3 =>
     intro v6 W6 hf6 hg6;have HF6:=Lib.hid hf6;have hown:∀ k,(Value.slice fa1 (s1).2.length fc1).ownBlock=some k->B+3<=k:=fun k hk=>(HQ3.out.lt k hk).1
     have hne:∀ k,k<B+3->(some k:Option Nat)≠(Value.slice fa1 (s1).2.length fc1).ownBlock:=fun k h1 h2=>by have:=hown k h2.symm;omega
     have q7:=hg6.cell q5 (hne B (by omega));have q8:W6.frozen? ⟨B,0,none⟩=false:=(World.frozen?_of_block (a:=⟨B,0,none⟩) (hg6.block B (World.block_lt_of_cell? _ _ q5) (hne B (by omega)))).trans z5;have hI6:=chk_row (room':=room) HI5.out hg6 hown hf6 (by have:=bGo_len cl bs [] [];simp only [List.length_nil] at this;omega);obtain ⟨fa6,fc6,rfl⟩:=own_slice hf6;refine hK.out _ _ q7 (fun _=>?_);clear hK K;refine wpAnyK_last 4 (by kernel_rfl) (by kernel_rfl) rfl (fun K hK=>?_);go_simp
     refine hK.out _ _ ?_;clear hK K;refine wpAnyK_done (by kernel_rfl) ?_ _;rw [List.length_append] at hI6;have HI6:=Lib.hid hI6;clear hI6;go_wp2
     go_ret
     have hch:chkF s (.br n a fo of cl bs r) = .go true (s1.1,s1.2++bGo cl [] [] bs):=by
      show Out.go true ((kindS s n a (kindF (.br n a fo of cl bs r))).1,(kindS s n a (kindF (.br n a fo of cl bs r))).2++bGo cl [] [] bs)=_;rw [HKV.out,HST.out]
     rw [hch];exact ⟨rfl,HI6.out⟩
def minF (m:Nat×Nat) (l:List (Nat×Nat)):Nat×Nat:=l.foldl (fun m x=>if x.2<m.2 then x else m) m
abbrev faultV (x:Nat×Nat):Value := .agg #[.int .i64 (x.1:Nat),.int .i64 (x.2:Nat)]
theorem cmp_faults (x y:Nat×Nat) (w:World):Calls Tryz.prog 118 #[faultV x,faultV y] w fun e w'=>e = .returned (.int .i64 (Lib.compareInt (x.2:Nat) (y.2:Nat)))/\Below w.heap.size w w':=by
 have HC:=Lib.hid (fun W=>Tryz.cmp_Compare_int (x.2:Nat) (y.2:Nat) W);go_enter Tryz.func118,Tryz.ntmps118
 go_wp2_with fail
 refine (HC.out _).mono ?_;rintro e w' ⟨rfl,rfl⟩;go_wp2
 go_ret
 exact ⟨rfl,((Below.refl _ _).alloc (Nat.le_refl _) _).alloc (by simp) _⟩
end Go.Proofs.YthpldolmpinnhaaGreatDoor
