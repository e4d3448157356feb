import Derived.Test.YthpldolmpinnhaaGreatDoorJ22
import Derived.Laws.IdiomStrings
import Derived.OwnWalk
import Derived.Deep.RegionHeld
import Derived.Deep.DeepAppendRoom
import Derived.Test.YthpldolmpinnhaaGreatDoorShelf
namespace Go.Proofs.YthpldolmpinnhaaGreatDoor
open Go Go.RowKit
set_option maxRecDepth 10000
theorem elem_bytes:Elem Tryz.prog 48 5 (.int .u8 0) 1 1 :=
 ⟨Tryz.underlying48,info_parts (by kernel_rfl),rfl,by decide,by decide⟩
def digs (l:List UInt8):List Value:=l.map fun c => .int .u8 ((c.toNat:Int) - 48)
def ValuesPost (l:List UInt8) (w:World) (e:Ending) (w':World):Prop :=
 (if l.all isDig then ∃ v,e = .returned (.tuple #[v,.bool true])/\w'.ownsRow w.heap.size 5 1 v l.length (digs l) else e = .returned (.tuple #[.slice none 0 0,.bool false]))/\Below w.heap.size w w'
theorem digit_yes (c:UInt8) (h:isDig c=true):IntKind.u8.wrap ((c.toNat:Int) - 48)=(c.toNat:Int) - 48/\(c.toNat:Int) - 48<=9:=by
 have:=(isDig_iff _).1 h;refine ⟨?_,by omega⟩;simp only [IntKind.wrap,IntKind.signed,IntKind.bits];simp;omega
theorem digit_no (c:UInt8) (h:isDig c=false):9<((c.toNat:Int) - 48) % 256:=by
 have:=(isDig_false _).1 h;have:=c.toNat_lt;omega
set_option maxHeartbeats 800000 in
theorem values_any (s:ByteArray) (w:World) (hs:s.size<=1000000) :
  Calls Tryz.prog 67 #[.string s] w (ValuesPost s.data.toList w):=by
 have hcv:=fun w s=>run_bytes_of_string (P:=Tryz.prog) w 9 48 5 s Tryz.underlying9 Tryz.underlying48 Tryz.underlying5
 obtain ⟨i,hi,hz,h2,h3⟩:=elem_bytes.info;go_enter Tryz.func67,Tryz.ntmps67
 go_wp2_with (refine wpList_make_own _ rfl _ _ _ rfl w.heap.size _ i _ 1 elem_bytes.under hi hz h2 .i64 .i64 _ s.size rfl rfl ?c1 ?c2 ?c3 ?c4 ?_)
 case c1=>first | rfl | simp
 case c2=>rw [h3];omega
 case c3=>unfold maxLen;omega
 case c4=>simp
 intro w1 hown0 hg1;go_wp2
 refine wp_gen ?_;intro wc hwc;have hsz:wc.heap.size=w1.heap.size+1:=by rw [hwc];simp
 have hb1:Below w.heap.size w w1:=(Below.refl _ _).grown hg1 (Nat.le_refl _) (by simp);have hb0:Below w.heap.size w wc:=by rw [hwc];exact (Below.drew hb1).alloc hb1.size _
 have hcell:∀ j (hj:j<s.size),wc.cell? ⟨w1.heap.size,j,none⟩=some (.int .u8 (s[j].toNat:Int)):=by
  intro j hj;rw [hwc];have:=bytesRow_at s (grownCap w1 s.size 0 5) j hj;show (w1.alloc _).cell? _=_;rw [cell_made];exact this
 have hownc:wc.ownsRow w.heap.size 5 1 (Value.slice (some ⟨w.heap.size,0,none⟩) 0 s.size) 0 []:=by rw [hwc];exact (World.ownsRow.drew hown0).alloc _
 have hw1:=hb1.size;have hlt1:=(hown0.lt w.heap.size rfl).2;clear hwc hown0 hg1;go_loopw [4,14] (fun v i wr=>∃ k:Nat,k<=s.size/\i = .int .i64 k/\v = .slice (some ⟨w.heap.size,0,none⟩) k s.size/\wr.ownsRow w.heap.size 5 1 v k (digs (s.data.toList.take k))/\Below w.heap.size w wr/\(s.data.toList.take k).all isDig=true/\(w1.heap.size<wr.heap.size)/\∀ j (hj:j<s.size),wr.cell? ⟨w1.heap.size,j,none⟩=some (.int .u8 (s[j].toNat:Int))) (fun _ i _=>s.size - (intOf i).toNat)
 case atStart=>exact ⟨0,by omega,rfl,rfl,by simpa [digs] using hownc,hb0,by simp,by omega,hcell⟩
 case round =>
  obtain ⟨k,hk,rfl,hv,hown,hb,hH,hws,hcell⟩:=hrel;have HH:=Lib.hid hH;have HV:=Lib.hid hv;clear hH hv;by_cases hlt:k<s.size
  ·have hc:=hcell k hlt;by_cases hd:isDig s[k]=true
   ·obtain ⟨hy,hy9⟩:=digit_yes _ hd;have HD:=Lib.hid hd;clear hd;have hown2:wr.ownsRow w.heap.size 5 1 (.slice (some ⟨w.heap.size,0,none⟩) k s.size) k (digs (s.data.toList.take k)):=by rw [←HV.out];exact hown
    go_wp2_with (at_builtin;refine wpList_append_own_spare _ rfl _ _ _ rfl w.heap.size _ i 1 elem_bytes.under hi h2 w.heap.size k s.size (digs (s.data.toList.take k)) HV.out (hown2.alloc _) ⟨wr.heap.size,0,none⟩ 1 1 [.int .u8 ((s[k].toNat:Int) - 48)] rfl rfl ?c1 ?c2 ?c3 ?_)
    case c1=>exact cells_one (by simp)
    case c2=>intro u hu;simp at hu;subst hu;rfl
    case c3=>omega
    intro w2 hown3 hgrow;have hw2:=hgrow.size;have hts:=all_snoc HH.out HD.out;rw [←take_snoc s k hlt] at hts;have HT:=Lib.hid hts;clear hts;go_wp2
    go_roundw
    case rel =>
     refine ⟨k+1,by omega,by go_num,rfl,?_,((hb.alloc hb.size _).grown hgrow (by have:=hb.size;simp;omega) (fun q hq=>by cases hq;exact Nat.le_refl _)),HT.out,?_,?_⟩
     ·rw [take_snoc s k hlt];simpa [digs] using hown3
     ·simp at hw2;omega
     ·intro j hj;refine hgrow.cell ?_ (by simp;omega);rw [World.cell?_alloc_lt _ _ _ hws];exact hcell j hj
    case measure=>simp [intOf];omega
   ·have hd':isDig s[k]=false:=by simpa using hd
    have hn:=digit_no _ hd';have hfin:s.data.toList.all isDig=false:=all_false_of s k hlt hd';have HF:=Lib.hid hfin;clear hfin hd hd';go_wp2
    go_ret2
    refine ⟨by rw [HF.out];rfl,hb⟩
  ·have hk':k=s.size:=by omega
   subst hk';have HA:=HH.out;rw [take_all] at HA;rw [take_all] at hown;have HF:=Lib.hid HA;clear HA HH;go_wp2
   go_ret2
   refine ⟨?_,hb⟩;rw [if_pos HF.out,size_toList];exact ⟨_,rfl,hown⟩
theorem nonzero_any (d:Int) (w:World):Calls Tryz.prog 103 #[.int .u8 d] w fun e w'=>e = .returned (.bool (d !=0))/\w=w':=by
 go_enter Tryz.func103,Tryz.ntmps103
 go_wp2
 go_ret
 exact ⟨rfl,rfl⟩
theorem any_of {l:List Int} {k:Nat} (h:k<l.length) (hn:(l[k] !=0)=true):l.any (· != 0)=true:=List.any_eq_true.2 ⟨l[k],List.getElem_mem h,hn⟩
theorem any_snoc {l:List Int} {k:Nat} (h:k<l.length) (hz:(l.take k).any (· != 0)=false) (hn:(l[k] !=0)=false):(l.take (k+1)).any (· != 0)=false:=by
 rw [List.take_succ_eq_append_getElem h,List.any_append,hz];simpa using hn
def BytesAt (w:World) (a:Option Addr) (l:List Int):Prop:=∀ j (h:j<l.length),∃ b,a=some b/\w.cell? (b.add j)=some (.int .u8 l[j])
theorem BytesAt.alloc {w:World} {a:Option Addr} {l:List Int} (h:BytesAt w a l) (o:Obj):BytesAt (w.alloc o) a l:=fun j hj=>by
 obtain ⟨b,hb,hc⟩:=h j hj;refine ⟨b,hb,?_⟩;rw [World.cell?_alloc_some _ _ _ (by rw [hc];rfl)];exact hc
set_option maxHeartbeats 400000 in
theorem indexNZ_any (l:List Int) (a:Option Addr) (c:Nat) (w:World) (hl:l.length<=1000000) (hc:BytesAt w a l) :
  Calls Tryz.prog 152 #[.slice a l.length c,.func (.func 103) #[] #[]] w fun e w'=>(∃ n:Int,e = .returned (.int .i64 n)/\decide (0<=n)=l.any (· != 0))/\w=w':=by
 go_enter Tryz.func152,Tryz.ntmps152
 go_wp2
 go_loop [8] (fun i=>∃ k:Nat,k<=l.length/\i = .int .i64 k/\(l.take k).any (· != 0)=false) (fun i=>l.length - (intOf i).toNat)
 case atStart=>exact ⟨0,by omega,rfl,by simp⟩
 case round =>
  obtain ⟨k,hk,rfl,hz⟩:=hrel;have HZ:=Lib.hid hz;clear hz;by_cases hlt:k<l.length
  ·obtain ⟨b,rfl,hcell⟩:=hc k hlt;go_wp2_with fail
   refine (nonzero_any _ _).mono ?_;rintro e w' ⟨rfl,rfl⟩;by_cases hn:(l[k] !=0)=true
   ·have HF:=Lib.hid (any_of hlt hn);go_wp2
    go_ret
    exact ⟨⟨_,rfl,by rw [HF.out];simp⟩,rfl⟩
   ·have hn':(l[k] !=0)=false:=by simpa using hn
    have HF:=Lib.hid (any_snoc hlt HZ.out hn');clear hn;go_wp2
    go_round
    case rel=>exact ⟨k+1,by omega,by go_num,HF.out⟩
    case measure=>simp [intOf];omega
  ·have hk':k=l.length:=by omega
   subst hk';have hz:=HZ.out;rw [List.take_length] at hz;have HF:=Lib.hid hz;clear hz HZ;go_wp2
   go_ret
   exact ⟨⟨_,rfl,by rw [HF.out];rfl⟩,rfl⟩
theorem containsNZ_any (l:List Int) (a:Option Addr) (c:Nat) (w:World) (hl:l.length<=1000000) (hc:BytesAt w a l) :
  Calls Tryz.prog 102 #[.slice a l.length c,.func (.func 103) #[] #[]] w fun e w'=>e = .returned (.bool (l.any (· != 0)))/\w=w':=by
 go_enter Tryz.func102,Tryz.ntmps102
 go_wp2_with fail
 refine (indexNZ_any l a c w hl hc).mono ?_;rintro e w' ⟨⟨n,rfl,hn⟩,rfl⟩;go_wp2
 go_ret
 exact ⟨rfl,rfl⟩
theorem zero_any (l:List Int) (a:Option Addr) (c:Nat) (b:Bool) (sc:Int) (w:World) (hl:l.length<=1000000) (hc:BytesAt w a l) :
  Calls Tryz.prog 68 #[.agg #[.bool b,.slice a l.length c,.int .i64 sc]] w fun e w'=>e = .returned (.bool (!l.any (· != 0)))/\Below w.heap.size w w':=by
 go_enter Tryz.func68,Tryz.ntmps68
 go_wp2_with fail
 refine (containsNZ_any l a c _ hl (hc.alloc _)).mono ?_;rintro e w' ⟨rfl,rfl⟩;go_wp2
 go_ret
 exact ⟨rfl,(Below.refl _ _).alloc (Nat.le_refl _) _⟩
theorem indexByte_eq (c:UInt8):∀ l:List UInt8,Lib.indexByte l c=if l.idxOf c<l.length then ((l.idxOf c:Nat):Int) else -1
 | []=>rfl
 | b::l=>by
  have ih:=indexByte_eq c l;rw [Lib.indexByte,ih,List.idxOf_cons];by_cases h:b==c
  ·simp [h]
  ·simp only [h,cond_false,List.length_cons];by_cases h2:l.idxOf c<l.length
   ·rw [if_pos h2,if_pos (show l.idxOf c+1<l.length+1 by omega)];have h3:(((l.idxOf c:Nat):Int)==-1)=false:=by rw [beq_eq_false_iff_ne];omega
    rw [h3];simp
   ·rw [if_neg h2,if_neg (show ¬(l.idxOf c+1<l.length+1) by omega)];simp
set_option maxHeartbeats 800000 in
theorem liteCut_any (s:ByteArray) (c:UInt8) (w:World) (hs:s.size<=1000000) :
  Calls Tryz.prog 101 #[.string s,.string ⟨#[c]⟩] w fun e w' =>
   e = .returned (.tuple #[.string ⟨(s.data.toList.take (s.data.toList.idxOf c)).toArray⟩,.string ⟨(s.data.toList.drop (s.data.toList.idxOf c+1)).toArray⟩,.bool (decide (s.data.toList.idxOf c<s.size))])/\∃ n,w'=w.drewN n:=by
 have hx:=indexByte_eq c s.data.toList;rw [size_toList] at hx;have HX:=Lib.hid hx;clear hx;go_enter Tryz.func101,Tryz.ntmps101
 go_wp2_with fail
 refine (Tryz.stringslite_Index_one s c _).mono ?_;rw [HX.out];rintro e w' ⟨rfl,rfl⟩;by_cases hlt:s.data.toList.idxOf c<s.size
 ·rw [if_pos hlt];generalize hk:s.data.toList.idxOf c=k at hlt;have HK:=Lib.hid hk;clear hk;have hr:(k+1:Nat)<=s.size:=hlt;go_wp2_with fail
  go_quiet (fail)
  go_wp2
  go_ret3
  rw [extract_take,extract_drop,HK.out];exact ⟨by simp [hlt],nq,rfl⟩
 ·rw [if_neg hlt];have hi:s.data.toList.idxOf c=s.size:=by have:=List.idxOf_le_length (a:=c) (l:=s.data.toList);simp only [size_toList] at this;omega
  have Hi:=Lib.hid hi;clear hi hlt;go_wp2
  go_ret3
  rw [Hi.out,take_all,mk_toList,List.drop_of_length_le (by simp)];exact ⟨by simp,0,rfl⟩
def absL (l:List UInt8):List UInt8:=if l.head? = some 45 then l.tail else l
def negL (l:List UInt8):Bool:=l.head? == some 45
def wholeL (l:List UInt8):List UInt8:=(absL l).take ((absL l).idxOf 46)
def fracL (l:List UInt8):List UInt8:=(absL l).drop ((absL l).idxOf 46+1)
def pointL (l:List UInt8):Bool:=decide ((absL l).idxOf 46<(absL l).length)
def figsL (l:List UInt8):Bool:=numeralsL (wholeL l) && (!(pointL l) || numeralsL (fracL l)) && decide ((wholeL l).length+(fracL l).length<=30)
def isNumL (l:List UInt8):Bool :=
 figsL l && !(decide (1<(wholeL l).length) && ((wholeL l).headD 0==48)) && !(negL l && (wholeL l++fracL l).all (· == 48))
def NumPost (l:List UInt8) (w:World) (e:Ending) (w':World):Prop :=
 e = .returned (.tuple #[.agg #[.bool (negL l),strv (wholeL l),strv (fracL l)],.bool (isNumL l)])/\Below w.heap.size w w'
theorem notNum {l wh fr:List UInt8} {pt:Bool} (hW:wholeL l=wh) (hF:fracL l=fr) (hP:pointL l=pt) (h:¬(numeralsL wh=true/\(pt=true->numeralsL fr=true)/\wh.length+fr.length<=30)):isNumL l=false:=by
 have hf:figsL l=false:=by
  rw [←Bool.not_eq_true];intro hf;unfold figsL at hf;rw [hW,hF,hP] at hf;simp only [Bool.and_eq_true,Bool.or_eq_true,Bool.not_eq_true',decide_eq_true_eq] at hf;refine h ⟨hf.1.1,fun hp=>?_,hf.2⟩;rcases hf.1.2 with h1 | h1
  ·rw [h1] at hp;cases hp
  ·exact h1
 simp [isNumL,hf]
theorem neg_cases (s:ByteArray):(negL s.data.toList=true/\(0<s.size/\∀ h:0<s.size,((s[0].toNat:Int)==45)=true)/\(s.extract 1 s.size).data.toList=absL s.data.toList) \/
   (negL s.data.toList=false/\(0<s.size/\∀ h:0<s.size,((s[0].toNat:Int)==45)=false)/\s.data.toList=absL s.data.toList) \/
   (negL s.data.toList=false/\¬(0<s.size)/\s.data.toList=absL s.data.toList):=by
 by_cases h0:0<s.size
 ·have h1:s.data.toList.head? = some s[0]:=by
   rw [List.head?_eq_getElem?,List.getElem?_eq_getElem (by simpa using h0),getElem_toList s 0 h0]
  have h2:=toNat_beq s[0] 45;have h3:((45:UInt8).toNat:Int)=45:=rfl;rw [h3] at h2;by_cases h4:s[0]=45
  ·refine .inl ⟨by simp [negL,h1,h4],⟨h0,fun _=>by rw [h2];simp [h4]⟩,?_⟩;rw [extract_drop];simp [absL,h1,h4]
  ·refine .inr (.inl ⟨by simp [negL,h1,h4],⟨h0,fun _=>by rw [h2];simp [h4]⟩,?_⟩);simp [absL,h1,h4]
 ·have h1:s.data.toList=[]:=List.eq_nil_of_length_eq_zero (by rw [size_toList];omega);exact .inr (.inr ⟨by simp [negL,h1],h0,by simp [absL,h1]⟩)
theorem isNum_of {l wh fr:List UInt8} {b:Bool} (hW:wholeL l=wh) (hF:fracL l=fr) (hB:negL l=b) (hfo:figsL l=true) :
  isNumL l=(!(decide (1<wh.length) && (wh.headD 0==48)) && !(b && (wh++fr).all (· == 48))):=by
 simp [isNumL,hfo,hW,hF,hB]
theorem head48 (wh:List UInt8) (h:0<(ByteArray.mk wh.toArray).size):(wh.headD 0==48)=(((ByteArray.mk wh.toArray)[0].toNat:Int)==48):=by
 have h1:=headD_eq ⟨wh.toArray⟩ h;rw [toList_mk] at h1;have h2:=toNat_beq (ByteArray.mk wh.toArray)[0] 48;have h3:((48:UInt8).toNat:Int)=48:=rfl;rw [h3] at h2;rw [h1,h2];exact Bool.beq_eq_decide_eq _ _
theorem form_of {l wh fr:List UInt8} {pt:Bool} (hW:wholeL l=wh) (hF:fracL l=fr) (hP:pointL l=pt) (h1:numeralsL wh=true) (h2:pt=true->numeralsL fr=true) (h3:¬((30:Int)<(wh.length:Int)+(fr.length:Int))):figsL l=true:=by
 unfold figsL;rw [hW,hF,hP,h1];have h4:wh.length+fr.length<=30:=by omega
 cases pt
 ·simp [h4]
 ·simp [h4,h2 rfl]

theorem slice_of {w : World} {base size n : Nat} {e : TypeId} {v : Value} {xs : List Value} (h : w.ownsRow base e size v n xs) : ∃ a m k, v = .slice a m k := by
  obtain ⟨a, cap, hv⟩ := own_slice h
  exact ⟨a, n, cap, hv⟩

/-- what decimal.Parse gives back -/
def DecPost (l : List UInt8) (w : World) (e : Ending) (w' : World) : Prop :=
  ∃ (b : Bool) (v : Value) (k : Int), e = .returned (.tuple #[.agg #[.bool b, v, .int .i64 k], .bool (isNumL l)]) ∧ (∃ a n k', v = .slice a n k') ∧ Below w.heap.size w w' ∧
    (isNumL l = true → b = negL l ∧ k = ((fracL l).length : Int) ∧ w'.ownsRow w.heap.size 5 1 v ((wholeL l).length + (fracL l).length) (digs (wholeL l ++ fracL l)))

theorem cutDot_any (s : ByteArray) (l : List UInt8) (hl : s.data.toList = l) (w : World) (hs : s.size ≤ 1000000) :
    Calls Tryz.prog 66 #[.string s, .string ⟨#[46]⟩] w fun e w' =>
      e = .returned (.tuple #[strv (l.take (l.idxOf 46)), strv (l.drop (l.idxOf 46 + 1)), .bool (decide (l.idxOf 46 < l.length))]) ∧ ∃ n, w' = w.drewN n := by
  subst hl
  go_enter Tryz.func66, Tryz.ntmps66
  go_wp2_with fail
  refine (liteCut_any s 46 _ hs).mono ?_
  rintro e w' ⟨rfl, n, rfl⟩
  go_wp2
  go_ret3
  exact ⟨by rw [size_toList]; rfl, n, rfl⟩

theorem prefix_eq (l : List UInt8) : Lib.trimPrefix l [45] = absL l ∧ Lib.hasPrefix l [45] = negL l := by
  cases l with
  | nil => exact ⟨rfl, rfl⟩
  | cons x l =>
    by_cases h : x = 45
    · subst h; simp [Lib.trimPrefix, Lib.hasPrefix, absL, negL, List.isPrefixOf]
    · have h2 : ((45 : UInt8) == x) = false := by rw [beq_eq_false_iff_ne]; exact fun e => h e.symm
      simp [Lib.trimPrefix, Lib.hasPrefix, absL, negL, List.isPrefixOf, h, h2]

theorem own_mono {w : World} {base base' size n : Nat} {e : TypeId} {v : Value} {xs : List Value} (h : w.ownsRow base e size v n xs) (hb : base' ≤ base) : w.ownsRow base' e size v n xs :=
  ⟨h.1, h.2.imp id fun ⟨g, cap, cur, a, b, c⟩ => ⟨g, cap, cur, a, Nat.le_trans hb b, c⟩⟩

/-- digits' values -/
def vals (l : List UInt8) : List Int := l.map fun c => (c.toNat : Int) - 48

theorem zero_eq (l : List UInt8) : (!(vals l).any (· != 0)) = l.all (· == 48) := by
  induction l with
  | nil => rfl
  | cons c l ih =>
    have h : (((c.toNat : Int) - 48) != 0) = !(c == 48) := by
      have h2 := toNat_beq c 48
      have h3 : ((48 : UInt8).toNat : Int) = 48 := rfl
      rw [h3] at h2
      by_cases h4 : c = 48
      · subst h4; rfl
      · have h5 : (c == 48) = false := by simpa using h4
        rw [h5, Bool.not_false, bne_iff_ne]
        intro h6
        have h7 : ((c.toNat : Int) == 48) = true := by rw [beq_iff_eq]; omega
        rw [h7] at h2
        simp [h4] at h2
    simp only [vals, List.map_cons, List.any_cons, List.all_cons] at ih ⊢
    rw [h, ← ih]
    simp

theorem bytesAt_own {w : World} {B n cap : Nat} {ad : Option Addr} {l : List UInt8} (h : w.ownsRow B 5 1 (.slice ad n cap) n (digs l)) (hn : n = l.length) : BytesAt w ad (vals l) := by
  subst hn
  intro j hj
  have hj2 : j < l.length := by simpa [vals] using hj
  obtain ⟨g, cap', hv, _, _, hc⟩ := own_some h (by omega)
  cases hv
  refine ⟨⟨g, 0, none⟩, rfl, ?_⟩
  have := hc j (by omega)
  rw [addr_add0, this]
  simp [digs, vals, hj2]

theorem BytesAt.set {w : World} {a : Option Addr} {l : List Int} (h : BytesAt w a l) {p : Addr} (hp : ∀ b, a = some b → b.block ≠ p.block) (u : Value) : BytesAt (w.setCell p u) a l := fun j hj => by
  obtain ⟨b, hb, hc⟩ := h j hj
  refine ⟨b, hb, ?_⟩
  rw [← hc]
  exact World.cell?_of_block (Below.heap_setCell _ _ _ _ (by rw [addr_add]; exact hp b hb))

theorem zero_list (l : List UInt8) (n : Nat) (hn : n = l.length) (a : Option Addr) (c : Nat) (b : Bool) (sc : Int) (w : World) (hl : l.length ≤ 1000000) (hc : BytesAt w a (vals l)) :
    Calls Tryz.prog 68 #[.agg #[.bool b, .slice a n c, .int .i64 sc]] w fun e w' => e = .returned (.bool (l.all (· == 48))) ∧ Below w.heap.size w w' := by
  subst hn
  have := zero_any (vals l) a c b sc w (by simpa [vals] using hl) hc
  rw [zero_eq] at this
  simpa [vals] using this

theorem own_set {w : World} {base size n : Nat} {e : TypeId} {v : Value} {xs : List Value} (h : w.ownsRow base e size v n xs) {p : Addr} (hp : some p.block ≠ v.ownBlock) (u : Value) : (w.setCell p u).ownsRow base e size v n xs :=
  h.kept (row := some p.block) ⟨rfl, rfl, rfl, by simp, fun i _ hne => Below.heap_setCell _ _ _ _ (fun he => hne (by rw [he]))⟩ (.inr (fun he => hp he.symm))

theorem own_below {w w' : World} {base size n : Nat} {e : TypeId} {v : Value} {xs : List Value} (h : w.ownsRow base e size v n xs) (hb : Below w.heap.size w w') : w'.ownsRow base e size v n xs :=
  h.kept (row := none) ⟨hb.os, hb.tape, hb.output, hb.size, fun i hi _ => hb.block i hi⟩ (by cases v.ownBlock <;> simp)

theorem dec_no {l wh fr : List UInt8} {pt : Bool} (hW : wholeL l = wh) (hF : fracL l = fr) (hP : pointL l = pt) (hN : pt = false → fr = []) (h : ¬ ((wh ++ fr).all isDig = true ∧ wh ≠ [] ∧ (pt = true → fr ≠ []) ∧ wh.length + fr.length ≤ 30)) : isNumL l = false := by
  refine notNum hW hF hP fun ⟨h1, h2, h3⟩ => h ⟨?_, ?_, ?_, h3⟩
  · simp only [numeralsL, Bool.and_eq_true] at h1 h2
    rw [List.all_append, h1.1]
    cases pt with
    | false => rw [hN rfl]; rfl
    | true => simp [(h2 rfl).1]
  · intro e; subst e; simp [numeralsL] at h1
  · intro hp e; subst e; simp [numeralsL] at h2; exact absurd hp (by simpa using h2)

theorem dec_yes {l wh fr : List UInt8} {pt : Bool} (hW : wholeL l = wh) (hF : fracL l = fr) (hP : pointL l = pt) (h1 : (wh ++ fr).all isDig = true) (h2 : wh ≠ []) (h3 : pt = true → fr ≠ []) (h4 : wh.length + fr.length ≤ 30) : figsL l = true := by
  rw [List.all_append, Bool.and_eq_true] at h1
  refine form_of hW hF hP (by simp [numeralsL, h1.1, h2]) (fun hp => by simp [numeralsL, h1.2, h3 hp]) (by omega)

set_option maxHeartbeats 4000000 in
theorem parse_any (s : ByteArray) (w : World) (hs : s.size ≤ 1000000) :
    Calls Tryz.prog 44 #[.string s] w (DecPost s.data.toList w) := by
  have hlen : (absL s.data.toList).length ≤ s.size := by unfold absL; split <;> simp
  have hp := prefix_eq s.data.toList
  have HP0 := Lib.hid hp
  generalize hal : absL s.data.toList = al at hlen
  have Hal := Lib.hid hal
  clear hal hp
  go_enter Tryz.func44, Tryz.ntmps44
  go_wp2_with fail
  refine (Tryz.strings_CutPrefix s _ _).mono ?_
  rintro e w' ⟨rfl, rfl⟩
  have hq1 : Lib.trimPrefix s.data.toList [45] = al := HP0.out.1.trans Hal.out
  have hq2 := HP0.out.2
  rw [show ({ data := #[45] } : ByteArray).data.toList = [45] from rfl, hq1, hq2]
  clear hq1 hq2
  generalize hbq : negL s.data.toList = b
  have HB := Lib.hid hbq
  clear hbq
  go_wp2_with fail
  refine (cutDot_any _ al (toList_mk al) _ (by rw [size_mk]; omega)).mono ?_
  rintro e w' ⟨rfl, nq, rfl⟩
  have hwl : (al.take (al.idxOf 46)).length + (al.drop (al.idxOf 46 + 1)).length ≤ s.size := by simp; omega
  have hW : wholeL s.data.toList = al.take (al.idxOf 46) := by rw [wholeL, Hal.out]
  have hF : fracL s.data.toList = al.drop (al.idxOf 46 + 1) := by rw [fracL, Hal.out]
  have hP : pointL s.data.toList = decide (al.idxOf 46 < al.length) := by rw [pointL, Hal.out]
  have hN : decide (al.idxOf 46 < al.length) = false → al.drop (al.idxOf 46 + 1) = [] := by
    intro h; simp at h; exact List.drop_of_length_le (by omega)
  generalize al.take (al.idxOf 46) = wh at hW hwl ⊢
  generalize al.drop (al.idxOf 46 + 1) = fr at hF hwl hN ⊢
  generalize decide (al.idxOf 46 < al.length) = pt at hP hN ⊢
  have HW := Lib.hid hW
  have HF := Lib.hid hF
  have HP := Lib.hid hP
  have HN := Lib.hid hN
  clear hW hF hP hN
  go_wp2_with fail
  refine (values_any _ _ (by first | (rw [append_mk, size_mk]; simp; omega) | simp; omega)).mono ?_
  rw [append_mk, toList_mk]
  rintro e w' ⟨hv, hb⟩
  have hsz : w.heap.size + 1 ≤ w'.heap.size := by have := hb.size; simpa using this
  have hB : Below w.heap.size w w' := (below_drewN ((Below.refl _ _).alloc (Nat.le_refl _) _) nq).trans (hb.mono (by simp))
  have hc0 : w'.cell? ⟨w.heap.size, 0, none⟩ = some (.bool b) := by rw [hb.cell (by simp)]; go_simp
  have hc1 : w'.cell? ⟨w.heap.size, 1, none⟩ = some (.slice none 0 0) := by rw [hb.cell (by simp)]; go_simp
  have hc2 : w'.cell? ⟨w.heap.size, 2, none⟩ = some (.int .i64 0) := by rw [hb.cell (by simp)]; go_simp
  have hf0 : w'.frozen? ⟨w.heap.size, 0, none⟩ = false := by rw [hb.frozen (by simp)]; go_simp
  have hf1 : w'.frozen? ⟨w.heap.size, 1, none⟩ = false := by rw [hb.frozen (by simp)]; go_simp
  have hf2 : w'.frozen? ⟨w.heap.size, 2, none⟩ = false := by rw [hb.frozen (by simp)]; go_simp
  have hown : ∀ v, w'.ownsRow ((w.alloc (.cells #[.bool b, .slice none 0 0, .int .i64 0] 97)).drewN nq).heap.size 5 1 v (wh ++ fr).length (digs (wh ++ fr)) → w'.ownsRow w.heap.size 5 1 v (wh ++ fr).length (digs (wh ++ fr)) := fun v h => own_mono h (by simp)
  have hlo : ∀ v, w'.ownsRow ((w.alloc (.cells #[.bool b, .slice none 0 0, .int .i64 0] 97)).drewN nq).heap.size 5 1 v (wh ++ fr).length (digs (wh ++ fr)) → some w.heap.size ≠ v.ownBlock := fun v h e => by have := (World.ownsRow.lt h _ e.symm).1; simp at this; omega
  clear hb
  by_cases hall : (wh ++ fr).all isDig = true
  · rw [if_pos hall] at hv
    obtain ⟨v, rfl, hrow⟩ := hv
    have HSV := Lib.hid (slice_of hrow)
    have hrow2 := hown v hrow
    have hnb := hlo v hrow
    clear hown hlo hrow
    obtain ⟨ad, cap, rfl⟩ := own_slice hrow2
    have HALL := Lib.hid hall
    clear hall
    have hln : (wh ++ fr).length = wh.length + fr.length := by simp
    rw [hln] at hrow2 hnb ⊢
    have HROW := Lib.hid hrow2
    clear hln hrow2
    by_cases hbad : ¬ (wh ≠ [] ∧ (pt = true → fr ≠ []) ∧ wh.length + fr.length ≤ 30)
    · have hfin := dec_no HW.out HF.out HP.out HN.out (fun h => hbad h.2)
      have HFIN := Lib.hid hfin
      clear hfin
      go_wp2
      all_goals first
        | (exfalso; refine hbad ⟨by assumption, ?_, ?_⟩ <;> first | (intro h; contradiction) | (intro _; assumption) | omega)
        | (refine bodyPost_ret (v := .tuple #[.agg #[.bool b, .slice none 0 0, .int .i64 0], .bool false]) ?_ rfl ?_
           focus (simp [results, Tryz.results44, go_sem, *])
           refine ⟨b, _, _, by rw [HFIN.out], by first | exact ⟨_, _, _, rfl⟩ | exact HSV.out, ?_, fun h => by rw [HFIN.out] at h; cases h⟩
           refine hB.trans ?_
           (repeat (first | (with_reducible exact Below.refl _ _) | (with_reducible refine below_drewN ?_ _) | (with_reducible refine Below.drew ?_) | (with_reducible refine Below.alloc ?_ ?_ _; rotate_left; focus (first | (simp; done) | (simp; omega))) | (with_reducible refine Below.setCell ?_ ?_ _; rotate_left; focus (first | (simp; done) | (simp; omega)))))
           done)
    · have hgood : wh ≠ [] ∧ (pt = true → fr ≠ []) ∧ wh.length + fr.length ≤ 30 := Classical.not_not.1 hbad
      clear hbad
      obtain ⟨hg1, hg2, hg3⟩ := hgood
      have hfo := dec_yes HW.out HF.out HP.out HALL.out hg1 hg2 hg3
      have HFO := Lib.hid hfo
      clear hfo
      have h30 : ¬ ((30 : Int) < (wh.length : Int) + (fr.length : Int)) := by omega
      have hsz0 : 0 < (ByteArray.mk wh.toArray).size := by
        rw [size_mk]
        cases wh with
        | nil => exact absurd rfl hg1
        | cons x l => simp
      have h48 := head48 wh hsz0
      have H48 := Lib.hid h48
      clear h48
      have hpt : (pt = true ∧ ¬ fr = []) ∨ pt = false := by
        cases pt
        · exact .inr rfl
        · exact .inl ⟨rfl, hg2 rfl⟩
      clear hg2
      rcases hpt with ⟨hpt, hfr⟩ | hpt
      all_goals
        by_cases c1 : (1 : Int) < (wh.length : Int)
        · by_cases c2 : (((ByteArray.mk wh.toArray)[0].toNat : Int) == 48) = true
          · have hfin : isNumL s.data.toList = false := by
              rw [isNum_of HW.out HF.out HB.out HFO.out, H48.out, c2]; simp; omega
            have HFIN := Lib.hid hfin
            clear hfin
            go_wp2
            all_goals first
              | (exfalso; rename_i hh; simp [hg1, hfr] at hh; omega) | (exfalso; rename_i hh; simp [hg1] at hh; omega)
              | skip
            refine bodyPost_ret (v := .tuple #[.agg #[.bool b, .slice ad (wh.length + fr.length) cap, .int .i64 (fr.length : Int)], .bool false]) ?_ rfl ?_
            · simp [results, Tryz.results44, go_sem, cellSet, *]
            · refine ⟨b, _, _, by rw [HFIN.out], by first | exact ⟨_, _, _, rfl⟩ | exact HSV.out, ?_, fun h => by rw [HFIN.out] at h; cases h⟩
              refine hB.trans ?_
              (repeat (first | (with_reducible exact Below.refl _ _) | (with_reducible refine below_drewN ?_ _) | (with_reducible refine Below.drew ?_) | (with_reducible refine Below.alloc ?_ ?_ _; rotate_left; focus (first | (simp; done) | (simp; omega))) | (with_reducible refine Below.setCell ?_ ?_ _; rotate_left; focus (first | (simp; done) | (simp; omega)))))
          · have c2' : (((ByteArray.mk wh.toArray)[0].toNat : Int) == 48) = false := by simpa using c2
            have hfin : isNumL s.data.toList = !(b && (wh ++ fr).all (· == 48)) := by
              rw [isNum_of HW.out HF.out HB.out HFO.out, H48.out, c2']; simp
            have HFIN := Lib.hid hfin
            clear hfin c2
            cases b
            · have HR := HROW
              simp only [Bool.false_and, Bool.not_false] at HFIN
              go_wp2
              all_goals first
                | (exfalso; rename_i hh; simp [hg1, hfr] at hh; omega) | (exfalso; rename_i hh; simp [hg1] at hh; omega)
                | skip
              refine bodyPost_ret (v := .tuple #[.agg #[.bool false, .slice ad (wh.length + fr.length) cap, .int .i64 (fr.length : Int)], .bool true]) ?_ rfl ?_
              · simp [results, Tryz.results44, go_sem, cellSet, *]
              · refine ⟨_, _, _, by rw [HFIN.out], by first | exact ⟨_, _, _, rfl⟩ | exact HSV.out, ?_, ?_⟩
                · refine hB.trans ?_
                  (repeat (first | (with_reducible exact Below.refl _ _) | (with_reducible refine below_drewN ?_ _) | (with_reducible refine Below.drew ?_) | (with_reducible refine Below.alloc ?_ ?_ _; rotate_left; focus (first | (simp; done) | (simp; omega))) | (with_reducible refine Below.setCell ?_ ?_ _; rotate_left; focus (first | (simp; done) | (simp; omega)))))
                · intro _
                  rw [HW.out, HF.out]
                  refine ⟨HB.out.symm, rfl, ?_⟩
                  (repeat (with_reducible refine own_set ?_ hnb _))
                  exact HR.out
            · simp only [Bool.true_and] at HFIN
              go_wp2_with fail
              all_goals first
                | (exfalso; rename_i hh; simp [hg1, hfr] at hh; omega) | (exfalso; rename_i hh; simp [hg1] at hh; omega)
                | skip
              refine (zero_list (wh ++ fr) (wh.length + fr.length) (by simp) ad cap true _ _ (by simp; omega) (((bytesAt_own HROW.out (by simp)).set ?_ _).set ?_ _)).mono ?_
              · intro q hq he; subst hq; exact hnb (by simp [Value.ownBlock]; exact he.symm)
              · intro q hq he; subst hq; exact hnb (by simp [Value.ownBlock]; exact he.symm)
              rintro e w2 ⟨rfl, hb2⟩
              have hsz2 : w.heap.size + 1 ≤ w2.heap.size := by have := hb2.size; simp at this; omega
              have hB2 : Below w.heap.size w w2 := ((hB.setCell (p := ⟨w.heap.size, 1, none⟩) (Nat.le_refl _) _).setCell (p := ⟨w.heap.size, 2, none⟩) (Nat.le_refl _) _).trans (hb2.mono (by simp; omega))
              have hd0 : w2.cell? ⟨w.heap.size, 0, none⟩ = some (.bool true) := by rw [hb2.cell (by simp; omega)]; simp [cellSet, hc0]
              have hd1 : w2.cell? ⟨w.heap.size, 1, none⟩ = some (.slice ad (wh.length + fr.length) cap) := by rw [hb2.cell (by simp; omega)]; simp [cellSet, hc1]
              have hd2 : w2.cell? ⟨w.heap.size, 2, none⟩ = some (.int .i64 (fr.length : Int)) := by rw [hb2.cell (by simp; omega)]; simp [cellSet, hc2]
              have he0 : w2.frozen? ⟨w.heap.size, 0, none⟩ = false := by rw [hb2.frozen (by simp; omega)]; go_simp
              have he1 : w2.frozen? ⟨w.heap.size, 1, none⟩ = false := by rw [hb2.frozen (by simp; omega)]; go_simp
              have he2 : w2.frozen? ⟨w.heap.size, 2, none⟩ = false := by rw [hb2.frozen (by simp; omega)]; go_simp
              have HR := Lib.hid (own_below (own_set (own_set HROW.out hnb _) hnb _) hb2)
              clear hb2 hc0 hc1 hc2 hf0 hf1 hf2
              generalize (wh ++ fr).all (· == 48) = z at HFIN ⊢
              cases z
              · simp only [Bool.not_false] at HFIN
                go_wp2
                refine bodyPost_ret (v := .tuple #[.agg #[.bool true, .slice ad (wh.length + fr.length) cap, .int .i64 (fr.length : Int)], .bool true]) ?_ rfl ?_
                · simp [results, Tryz.results44, go_sem, cellSet, *]
                · refine ⟨_, _, _, by rw [HFIN.out], by first | exact ⟨_, _, _, rfl⟩ | exact HSV.out, ?_, ?_⟩
                  · refine hB2.trans ?_
                    (repeat (first | (with_reducible exact Below.refl _ _) | (with_reducible refine below_drewN ?_ _) | (with_reducible refine Below.drew ?_) | (with_reducible refine Below.alloc ?_ ?_ _; rotate_left; focus (first | (simp; done) | (simp; omega))) | (with_reducible refine Below.setCell ?_ ?_ _; rotate_left; focus (first | (simp; done) | (simp; omega)))))
                  · intro _
                    rw [HW.out, HF.out]
                    refine ⟨HB.out.symm, rfl, ?_⟩
                    (repeat (with_reducible refine own_set ?_ hnb _))
                    exact HR.out
              · simp only [Bool.not_true] at HFIN
                go_wp2
                refine bodyPost_ret (v := .tuple #[.agg #[.bool true, .slice ad (wh.length + fr.length) cap, .int .i64 (fr.length : Int)], .bool false]) ?_ rfl ?_
                · simp [results, Tryz.results44, go_sem, cellSet, *]
                · refine ⟨_, _, _, by rw [HFIN.out], by first | exact ⟨_, _, _, rfl⟩ | exact HSV.out, ?_, ?_⟩
                  · refine hB2.trans ?_
                    (repeat (first | (with_reducible exact Below.refl _ _) | (with_reducible refine below_drewN ?_ _) | (with_reducible refine Below.drew ?_) | (with_reducible refine Below.alloc ?_ ?_ _; rotate_left; focus (first | (simp; done) | (simp; omega))) | (with_reducible refine Below.setCell ?_ ?_ _; rotate_left; focus (first | (simp; done) | (simp; omega)))))
                  · intro h; rw [HFIN.out] at h; cases h
        · have hfin : isNumL s.data.toList = !(b && (wh ++ fr).all (· == 48)) := by
            rw [isNum_of HW.out HF.out HB.out HFO.out, decide_eq_false (by omega)]; simp
          have HFIN := Lib.hid hfin
          clear hfin
          cases b
          · have HR := HROW
            simp only [Bool.false_and, Bool.not_false] at HFIN
            go_wp2
            all_goals first
              | (exfalso; rename_i hh; simp [hg1, hfr] at hh; omega) | (exfalso; rename_i hh; simp [hg1] at hh; omega)
              | skip
            refine bodyPost_ret (v := .tuple #[.agg #[.bool false, .slice ad (wh.length + fr.length) cap, .int .i64 (fr.length : Int)], .bool true]) ?_ rfl ?_
            · simp [results, Tryz.results44, go_sem, cellSet, *]
            · refine ⟨_, _, _, by rw [HFIN.out], by first | exact ⟨_, _, _, rfl⟩ | exact HSV.out, ?_, ?_⟩
              · refine hB.trans ?_
                (repeat (first | (with_reducible exact Below.refl _ _) | (with_reducible refine below_drewN ?_ _) | (with_reducible refine Below.drew ?_) | (with_reducible refine Below.alloc ?_ ?_ _; rotate_left; focus (first | (simp; done) | (simp; omega))) | (with_reducible refine Below.setCell ?_ ?_ _; rotate_left; focus (first | (simp; done) | (simp; omega)))))
              · intro _
                rw [HW.out, HF.out]
                refine ⟨HB.out.symm, rfl, ?_⟩
                (repeat (with_reducible refine own_set ?_ hnb _))
                exact HR.out
          · simp only [Bool.true_and] at HFIN
            go_wp2_with fail
            all_goals first
              | (exfalso; rename_i hh; simp [hg1, hfr] at hh; omega) | (exfalso; rename_i hh; simp [hg1] at hh; omega)
              | skip
            refine (zero_list (wh ++ fr) (wh.length + fr.length) (by simp) ad cap true _ _ (by simp; omega) (((bytesAt_own HROW.out (by simp)).set ?_ _).set ?_ _)).mono ?_
            · intro q hq he; subst hq; exact hnb (by simp [Value.ownBlock]; exact he.symm)
            · intro q hq he; subst hq; exact hnb (by simp [Value.ownBlock]; exact he.symm)
            rintro e w2 ⟨rfl, hb2⟩
            have hsz2 : w.heap.size + 1 ≤ w2.heap.size := by have := hb2.size; simp at this; omega
            have hB2 : Below w.heap.size w w2 := ((hB.setCell (p := ⟨w.heap.size, 1, none⟩) (Nat.le_refl _) _).setCell (p := ⟨w.heap.size, 2, none⟩) (Nat.le_refl _) _).trans (hb2.mono (by simp; omega))
            have hd0 : w2.cell? ⟨w.heap.size, 0, none⟩ = some (.bool true) := by rw [hb2.cell (by simp; omega)]; simp [cellSet, hc0]
            have hd1 : w2.cell? ⟨w.heap.size, 1, none⟩ = some (.slice ad (wh.length + fr.length) cap) := by rw [hb2.cell (by simp; omega)]; simp [cellSet, hc1]
            have hd2 : w2.cell? ⟨w.heap.size, 2, none⟩ = some (.int .i64 (fr.length : Int)) := by rw [hb2.cell (by simp; omega)]; simp [cellSet, hc2]
            have he0 : w2.frozen? ⟨w.heap.size, 0, none⟩ = false := by rw [hb2.frozen (by simp; omega)]; go_simp
            have he1 : w2.frozen? ⟨w.heap.size, 1, none⟩ = false := by rw [hb2.frozen (by simp; omega)]; go_simp
            have he2 : w2.frozen? ⟨w.heap.size, 2, none⟩ = false := by rw [hb2.frozen (by simp; omega)]; go_simp
            have HR := Lib.hid (own_below (own_set (own_set HROW.out hnb _) hnb _) hb2)
            clear hb2 hc0 hc1 hc2 hf0 hf1 hf2
            generalize (wh ++ fr).all (· == 48) = z at HFIN ⊢
            cases z
            · simp only [Bool.not_false] at HFIN
              go_wp2
              refine bodyPost_ret (v := .tuple #[.agg #[.bool true, .slice ad (wh.length + fr.length) cap, .int .i64 (fr.length : Int)], .bool true]) ?_ rfl ?_
              · simp [results, Tryz.results44, go_sem, cellSet, *]
              · refine ⟨_, _, _, by rw [HFIN.out], by first | exact ⟨_, _, _, rfl⟩ | exact HSV.out, ?_, ?_⟩
                · refine hB2.trans ?_
                  (repeat (first | (with_reducible exact Below.refl _ _) | (with_reducible refine below_drewN ?_ _) | (with_reducible refine Below.drew ?_) | (with_reducible refine Below.alloc ?_ ?_ _; rotate_left; focus (first | (simp; done) | (simp; omega))) | (with_reducible refine Below.setCell ?_ ?_ _; rotate_left; focus (first | (simp; done) | (simp; omega)))))
                · intro _
                  rw [HW.out, HF.out]
                  refine ⟨HB.out.symm, rfl, ?_⟩
                  (repeat (with_reducible refine own_set ?_ hnb _))
                  exact HR.out
            · simp only [Bool.not_true] at HFIN
              go_wp2
              refine bodyPost_ret (v := .tuple #[.agg #[.bool true, .slice ad (wh.length + fr.length) cap, .int .i64 (fr.length : Int)], .bool false]) ?_ rfl ?_
              · simp [results, Tryz.results44, go_sem, cellSet, *]
              · refine ⟨_, _, _, by rw [HFIN.out], by first | exact ⟨_, _, _, rfl⟩ | exact HSV.out, ?_, ?_⟩
                · refine hB2.trans ?_
                  (repeat (first | (with_reducible exact Below.refl _ _) | (with_reducible refine below_drewN ?_ _) | (with_reducible refine Below.drew ?_) | (with_reducible refine Below.alloc ?_ ?_ _; rotate_left; focus (first | (simp; done) | (simp; omega))) | (with_reducible refine Below.setCell ?_ ?_ _; rotate_left; focus (first | (simp; done) | (simp; omega)))))
                · intro h; rw [HFIN.out] at h; cases h
  · rw [if_neg hall] at hv
    subst hv
    have hfin := dec_no HW.out HF.out HP.out HN.out (fun h => hall h.1)
    have HFIN := Lib.hid hfin
    clear hfin hall hown hlo
    go_wp2
    refine bodyPost_ret (v := .tuple #[.agg #[.bool b, .slice none 0 0, .int .i64 0], .bool false]) ?_ rfl ?_
    · simp [results, Tryz.results44, go_sem, *]
    · refine ⟨b, _, _, by rw [HFIN.out], by first | exact ⟨_, _, _, rfl⟩ | exact HSV.out, ?_, fun h => by rw [HFIN.out] at h; cases h⟩
      refine hB.trans ?_
      (repeat (first | (with_reducible exact Below.refl _ _) | (with_reducible refine below_drewN ?_ _) | (with_reducible refine Below.drew ?_) | (with_reducible refine Below.alloc ?_ ?_ _; rotate_left; focus (first | (simp; done) | (simp; omega))) | (with_reducible refine Below.setCell ?_ ?_ _; rotate_left; focus (first | (simp; done) | (simp; omega)))))
end Go.Proofs.YthpldolmpinnhaaGreatDoor
