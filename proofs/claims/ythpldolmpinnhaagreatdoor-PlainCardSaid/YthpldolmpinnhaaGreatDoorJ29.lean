import Derived.Test.YthpldolmpinnhaaGreatDoorJ28
namespace Go.Proofs.YthpldolmpinnhaaGreatDoor
open Go Go.RowKit
set_option maxRecDepth 10000
set_option maxHeartbeats 2000000 in
theorem tell_f (b:Nat) (n a:Int) (w:World) (hE:ErrT w) (h0:w.cell? ⟨b,0,none⟩=some (.int .i64 n)) (h1:w.cell? ⟨b,1,none⟩=some (.int .i64 a)) :
  Calls Tryz.prog 30 #[.iface 101 (.pointer (some ⟨b,0,none⟩))] w (TellPost n a w):=by
 have HE:=Lib.hid hE;have H0:=Lib.hid h0;have H1:=Lib.hid h1;have hlt:b<w.heap.size:=World.block_lt_of_cell? w _ h0;clear hE h0 h1;go_enter Tryz.func30,Tryz.ntmps30
 go_wp2_with fail
 refine calls_gen ?_;intro W hW;have hb:Below w.heap.size w W:=by rw [hW];exact ((Below.refl _ _).alloc (Nat.le_refl _) _).alloc (by simp) _
 have hz:w.heap.size+2<=W.heap.size:=by rw [hW];simp
 have hA:W.cell? ⟨w.heap.size,0,none⟩=some (.pointer none)/\W.frozen? ⟨w.heap.size,0,none⟩=false:=by rw [hW];constructor<;>go_simp
 clear hW;refine (as_hit_f ⟨b,0,none⟩ ⟨w.heap.size,0,none⟩ _ W (HE.out.below hb) hA.1 hA.2).mono ?_;rintro e w2 ⟨rfl,p1,p2,p3,p4,hw2⟩;have hb2:Below w.heap.size W w2:=by rw [hw2];exact (((((Below.refl _ _).alloc (by omega) _).alloc (by simp;omega) _).alloc (by simp;omega) _).alloc (by simp;omega) _).setCell (by simp) _
 have hb02:=hb.trans hb2;have hC:w2.cell? ⟨w.heap.size,0,none⟩=some (.pointer (some ⟨b,0,none⟩)):=by
  rw [hw2,cellSet,if_pos rfl];rw [World.cell?_alloc_lt _ _ _ (by simp;omega),World.cell?_alloc_lt _ _ _ (by simp;omega),World.cell?_alloc_lt _ _ _ (by simp;omega),World.cell?_alloc_lt _ _ _ (by show w.heap.size<_;omega),hA.1];rfl
 have d0:=(hb02.cell (p:=⟨b,0,none⟩) hlt).trans H0.out;have d1:=(hb02.cell (p:=⟨b,1,none⟩) hlt).trans H1.out;clear hw2 hb2 hA;have hS0:w2.drew.cell? ⟨w.heap.size,0,none⟩=some (.pointer (some ⟨b,0,none⟩))/\w2.drew.cell? ⟨b,0,none⟩=some (.int .i64 n)/\w2.drew.cell? ⟨b,1,none⟩=some (.int .i64 a):=⟨hC,d0,d1⟩;go_wp2_with fail
 refine wp_region_takes (fun W':World=>W'.cell? ⟨w.heap.size,0,none⟩=some (.pointer (some ⟨b,0,none⟩))/\W'.cell? ⟨b,0,none⟩=some (.int .i64 n)/\W'.cell? ⟨b,1,none⟩=some (.int .i64 a)) [0,1,2,3,4,5,6,7,8,9] 0 (by intro _ _ d _ _ h;cases d<;>exact h) (by kernel_rfl) (by kernel_rfl) hS0 ?_;(iterate 10 (first | (refine takes_yes (v:=?_) rfl (by rfl) ?_ ?_;rotate_left;(focus ((intro w' hS';(try dsimp only at hS');go_simp;try (with_reducible rfl));done));(try simp only [Act.put,List.setIfInBounds_toArray,List.set_cons_zero,List.set_cons_succ])) | (refine takes_no rfl (by rfl) ?_;(try simp only [Act.put,List.setIfInBounds_toArray,List.set_cons_zero,List.set_cons_succ]))))
 refine takes_nil ?_;refine wpAnyH_done (by kernel_rfl) ?_ _;go_wp2
 go_ret2
 exact ⟨rfl,hb02.drew⟩
def PCompQ (kn:Bool) (r:Except (Nat×Nat) Fo) (mi po gr:Int) (fi ne:Nat) (dg:List UInt8) (Qc Qo:World->Value->Prop) (w:World) (e:Ending) (w':World):Prop :=
 Below w.heap.size w w' /\
 if kn=false then e = .returned (.tuple #[.pointer none,.int .i64 8,.int .i64 0])
 else match r with
  | .error (n,a)=>e = .returned (.tuple #[.pointer none,.int .i64 (n:Nat),.int .i64 (a:Nat)])
  | .ok f=>∃ P q g mb vC vI rs cv ov,e = .returned (.tuple #[.pointer (some ⟨P,0,none⟩),.int .i64 0,.int .i64 0])/\PhrAt P q g mb f vC vI rs mi po gr fi ne dg cv ov w'/\(∀ W,Below w'.heap.size w' W->Qc W cv)/\∀ W,Below w'.heap.size w' W->Qo W ov
set_option maxHeartbeats 4000000 in
theorem pcompile_any (s:ByteArray) (c o:Value) (ra rb:Bool) (mi po gr:Int) (fi ne:Nat) (dg:ByteArray) (Qc Qo:World->Value->Prop) (w:World) (hs:s.size<=1000000) (hd:dg.size<=1000000) (hfi:fi<=255) (hne:ne<=255)
  (hc:PReadAt w c ra Qc) (ho:PReadAt w o rb Qo) (hco:(∃ a n k,c = .slice a n k)/\∃ a n k,o = .slice a n k) (hE:CmpEnv w) :
  Calls Tryz.prog 20 #[.string s,locv c o mi po gr fi ne dg] w (PCompQ (knownL ra rb mi po gr fi ne dg.data.toList) (readP s.data.toList) mi po gr fi ne dg.data.toList Qc Qo w):=by
 have HC:=Lib.hid hc;have HO:=Lib.hid ho;have HCO:=Lib.hid hco;have HE:=Lib.hid hE;clear hc ho hco hE;go_enter Tryz.func20,Tryz.ntmps20
 go_wp2_with fail
 refine calls_gen ?_;intro W hW;have hb:Below w.heap.size w W:=by rw [hW];exact (Below.refl _ _).alloc (Nat.le_refl _) _
 clear hW;refine (lcompile_any s c o ra rb mi po gr fi ne dg Qc Qo W hs hd hfi hne (HC.out.later hb) (HO.out.later hb) HCO.out (HE.out.below hb)).mono ?_;rintro e w1 ⟨hb1,hres⟩;have hb01:Below w.heap.size w w1:=hb.trans (hb1.mono hb.size);have henv:=HE.out.below hb01;obtain ⟨kn,hkn⟩:∃ kn,knownL ra rb mi po gr fi ne dg.data.toList=kn:=⟨_,rfl⟩;rw [hkn] at hres;have HKN:=Lib.hid hkn;clear hkn
 cases kn
 ·rw [if_pos rfl] at hres;subst hres;have HT:=Lib.hid (tell_e 8 w1 henv.tabs.err);clear hb hb1 henv;go_wp2_with fail
  refine HT.out.mono ?_;rintro e w2 ⟨rfl,hb2⟩;have hb02:=hb01.trans (hb2.mono hb01.size);clear HT hb2;go_wp2
  go_ret3
  refine ⟨hb02,?_⟩;rw [if_pos HKN.out];rfl
 ·rw [if_neg (by simp)] at hres;obtain ⟨r,hr⟩:∃ r,readP s.data.toList=r:=⟨_,rfl⟩;rw [hr] at hres;have HR:=Lib.hid hr;clear hr
  cases r with
  | error en =>
   obtain ⟨n,a⟩:=en;obtain ⟨b,rfl,f0,f1⟩:=hres;have HT:=Lib.hid (tell_f b n a w1 henv.tabs.err f0 f1);clear hb hb1 henv f0 f1;go_wp2_with fail
   refine HT.out.mono ?_;rintro e w2 ⟨rfl,hb2⟩;have hb02:=hb01.trans (hb2.mono hb01.size);clear HT hb2;go_wp2
   go_ret3
   refine ⟨hb02,?_⟩;rw [if_neg (by rw [HKN.out];simp),HR.out];rfl
  | ok f =>
   obtain ⟨P,q,g,mb,vC,vI,rs,cv,ov,rfl,hph,hqc,hqo⟩:=hres;have HT:=Lib.hid (tell_nil w1);have HP:=Lib.hid hph;have HQ:=Lib.hid (And.intro hqc hqo);clear hb hb1 henv hph hqc hqo;go_wp2_with fail
   refine HT.out.mono ?_;rintro e w2 ⟨rfl,hb2⟩;have hb02:=hb01.trans (hb2.mono hb01.size);have HP2:=Lib.hid (HP.out.below hb2);clear HT;go_wp2
   go_ret3
   refine ⟨hb02,?_⟩;rw [if_neg (by rw [HKN.out];simp),HR.out];exact ⟨P,q,g,mb,vC,vI,rs,cv,ov,rfl,HP2.out,fun W hW=>HQ.out.1 W (hb2.trans (hW.mono hb2.size)),fun W hW=>HQ.out.2 W (hb2.trans (hW.mono hb2.size))⟩
end Go.Proofs.YthpldolmpinnhaaGreatDoor
