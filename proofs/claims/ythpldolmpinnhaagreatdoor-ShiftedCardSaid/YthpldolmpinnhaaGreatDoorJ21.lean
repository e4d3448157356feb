import Derived.Test.YthpldolmpinnhaaGreatDoorJ20
namespace Go.Proofs.YthpldolmpinnhaaGreatDoor
open Go Go.RowKit
set_option maxRecDepth 10000
theorem faultC_get (l:List (Nat×Nat)) (i:Nat) (h:i<l.length):(faultC l)[i*2]? = some (.int .i64 (l[i].1:Nat))/\(faultC l)[i*2+1]? = some (.int .i64 (l[i].2:Nat)):=by
 induction l generalizing i with
 | nil=>simp at h
 | cons a t ih =>
  cases i with
  | zero=>exact ⟨rfl,rfl⟩
  | succ i =>
   have:=ih i (by simpa using h);have e1:(i+1)*2=i*2+2:=by omega
   have e2:faultC (a::t) = .int .i64 (a.1:Nat) :: .int .i64 (a.2:Nat)::faultC t:=rfl;rw [e1,e2];simpa using this
theorem minF_take (m:Nat×Nat) (l:List (Nat×Nat)) (i:Nat) (h:i<l.length):minF m (l.take (i+1))=if l[i].2<(minF m (l.take i)).2 then l[i] else minF m (l.take i):=by
 unfold minF;rw [List.take_succ_eq_append_getElem h,List.foldl_append];rfl
set_option maxHeartbeats 4000000 in
theorem minfunc_any (x:Nat×Nat) (l:List (Nat×Nat)) (base:Nat) (v:Value) (w:World) (hl:l.length<=2000000000) (hF:FaultsR base w v (x::l)) :
  Calls Tryz.prog 117 #[v,.func (.func 118) #[] #[]] w fun e w'=>e = .returned (faultV (minF x l))/\Below w.heap.size w w':=by
 obtain ⟨g,cap,rfl,hg1,hg2,hcell⟩:=own_some hF (by simp);obtain ⟨n,hn⟩:∃ n,(x::l).length=n:=⟨_,rfl⟩;have hent:=fun (args:Array Value) (w:World)=>enters_of Tryz.func118 (by kernel_rfl) rfl args w
 have HCELL:=Lib.hid (fun i (h:i<(x::l).length)=>And.intro ((hcell (i*2) (by omega)).trans (faultC_get (x::l) i h).1) ((hcell (i*2+1) (by omega)).trans (faultC_get (x::l) i h).2));have hc0:=(HCELL.out 0 (by simp)).1;have hc1:=(HCELL.out 0 (by simp)).2;simp only [Nat.zero_mul,Nat.zero_add,List.getElem_cons_zero] at hc0 hc1;obtain ⟨x1,x2⟩:=x;have hn1:n=l.length+1:=by rw [←hn];simp
 have j1:decide ((n:Int)<1)=false:=by simp;omega
 have HN:=Lib.hid hn;rw [hn];have HN1:=Lib.hid hn1;have hz:1<=n:=by omega
 have hz2:n<=2000000001:=by omega
 have hgw:g<w.heap.size:=hg2;clear hF hcell hn hn1;have hb0:Below w.heap.size w ((w.alloc (.cells #[.int .i64 0,.int .i64 0] 105)).alloc (.cells #[.int .i64 x1,.int .i64 x2] 105)):=((Below.refl _ _).alloc (Nat.le_refl _) _).alloc (by simp) _;have hm0:=fun i=>cell_made (w.alloc (.cells #[.int .i64 0,.int .i64 0] 105)) #[.int .i64 x1,.int .i64 x2] 105 (0,0) i
 have hr0:∀ i,((w.alloc (.cells #[.int .i64 0,.int .i64 0] 105)).alloc (.cells #[.int .i64 x1,.int .i64 x2] 105)).cell? ⟨w.heap.size,i,none⟩=(#[.int .i64 0,.int .i64 0]:Array Value)[i]? := fun i=>by
  rw [World.cell?_alloc_lt _ _ _ (by show w.heap.size<_;simp)];exact cell_made w _ _ _ _
 rw [show (w.alloc (.cells #[.int .i64 0,.int .i64 0] 105)).heap.size=w.heap.size+1 by simp] at hm0;have hfz1:∀ i,((w.alloc (.cells #[.int .i64 0,.int .i64 0] 105)).alloc (.cells #[.int .i64 x1,.int .i64 x2] 105)).frozen? ⟨w.heap.size+1,i,none⟩=false:=fun i=>by
  rw [show w.heap.size+1=(w.alloc (.cells #[.int .i64 0,.int .i64 0] 105)).heap.size by simp];simp
 have hfz0:∀ i,((w.alloc (.cells #[.int .i64 0,.int .i64 0] 105)).alloc (.cells #[.int .i64 x1,.int .i64 x2] 105)).frozen? ⟨w.heap.size,i,none⟩=false:=fun i=>by
  rw [World.frozen?_of_block (Below.heap_alloc _ _ _ (by show w.heap.size<_;simp))];simp
 obtain ⟨W0,hW0⟩:∃ W0,(w.alloc (.cells #[.int .i64 0,.int .i64 0] 105)).alloc (.cells #[.int .i64 x1,.int .i64 x2] 105)=W0:=⟨_,rfl⟩;rw [hW0] at hb0 hm0 hr0 hfz0 hfz1;have HB0:=Lib.hid hb0;have HW0:=Lib.hid hW0;have HM0:=Lib.hid hm0;have HR0:=Lib.hid hr0;have HF0:=Lib.hid hfz0;have HF1:=Lib.hid hfz1;clear hb0 hm0 hr0 hfz0 hfz1 hW0;go_enter Tryz.func117,Tryz.ntmps117
 go_wp2_with fail
 clear hc0 hc1;go_loopw [6] (fun iv wr=>∃ (i:Nat) (m:Nat×Nat),iv = .int .i64 (i:Nat)/\1<=i/\i<=n/\minF (x1,x2) (l.take (i - 1))=m/\wr.cell? ⟨w.heap.size+1,0,none⟩=some (.int .i64 (m.1:Nat))/\wr.cell? ⟨w.heap.size+1,1,none⟩=some (.int .i64 (m.2:Nat))/\(∀ i,wr.frozen? ⟨w.heap.size+1,i,none⟩=false) /\
  (∃ u v,wr.cell? ⟨w.heap.size,0,none⟩=some u/\wr.cell? ⟨w.heap.size,1,none⟩=some v)/\(∀ i,wr.frozen? ⟨w.heap.size,i,none⟩=false)/\Below w.heap.size w wr) (fun iv _=>n - (intOf iv).toNat)
 case atStart =>
  rw [HW0.out];exact ⟨1,(x1,x2),rfl,Nat.le_refl _,hz,rfl,HM0.out 0,HM0.out 1,HF1.out,⟨_,_,HR0.out 0,HR0.out 1⟩,HF0.out,HB0.out⟩
 case round =>
  obtain ⟨i,m,rfl,hi1,hin,hm,hc0,hc1,hz1,⟨u0,v0,hr0,hr1⟩,hz0,hbw⟩:=hrel;obtain ⟨m1,m2⟩:=m;dsimp only at hc0 hc1;have HM:=Lib.hid hm;have HZ1:=Lib.hid hz1;have HZ0:=Lib.hid hz0;have HBW:=Lib.hid hbw;clear hm hbw;by_cases hlt:i<n
  ·have k2:decide ((i:Int)<(n:Int))=true:=by simp;omega
   have hlen:i<((x1,x2)::l).length:=by rw [HN.out];exact hlt
   obtain ⟨d0,d1⟩:=HCELL.out i hlen;have hli:((x1,x2)::l)[i]=l[i - 1]'(by have:=HN1.out;omega):=by
    obtain ⟨k,rfl⟩:∃ k,i=k+1:=⟨i - 1,by omega⟩;simp
   rw [hli] at d0 d1;obtain ⟨y,hy⟩:∃ y,l[i - 1]'(by have:=HN1.out;omega)=y:=⟨_,rfl⟩;rw [hy] at d0 d1;have HSTEP:=Lib.hid (show minF (x1,x2) (l.take i)=if y.2<m2 then y else (m1,m2) by
    have h:=minF_take (x1,x2) l (i - 1) (by have:=HN1.out;omega);rw [show i - 1+1=i by omega,HM.out,hy] at h;exact h)
   obtain ⟨y1,y2⟩:=y;dsimp only at d0 d1 HSTEP;have e0:=(HBW.out.cell (p:=⟨g,i*2,none⟩) hgw).trans d0;have e1:=(HBW.out.cell (p:=⟨g,i*2+1,none⟩) hgw).trans d1;have hCM:=Lib.hid (fun W=>cmp_faults (y1,y2) (m1,m2) W);have hS0:wr.drew.cell? ⟨g,i*2,none⟩=some (.int .i64 (y1:Nat))/\wr.drew.cell? ⟨g,i*2+1,none⟩=some (.int .i64 (y2:Nat))/\wr.drew.cell? ⟨w.heap.size+1,0,none⟩=some (.int .i64 (m1:Nat))/\wr.drew.cell? ⟨w.heap.size+1,1,none⟩=some (.int .i64 (m2:Nat)):=⟨e0,e1,hc0,hc1⟩;clear d0 d1 hy hli hlen;go_wp2_with fail
   refine wp_region_takes (fun W':World=>W'.cell? ⟨g,i*2,none⟩=some (.int .i64 (y1:Nat))/\W'.cell? ⟨g,i*2+1,none⟩=some (.int .i64 (y2:Nat))/\W'.cell? ⟨w.heap.size+1,0,none⟩=some (.int .i64 (m1:Nat))/\W'.cell? ⟨w.heap.size+1,1,none⟩=some (.int .i64 (m2:Nat))) [0,1,2,3,4,5] 2 (by intro _ _ d _ _ h;cases d<;>exact h) (by kernel_rfl) (by kernel_rfl) hS0 ?_;(iterate 6 (first | (refine takes_yes (v:=?_) rfl (by rfl) ?_ ?_;rotate_left;(focus ((intro w' hS';(try dsimp only at hS');go_simp;try (with_reducible rfl));done));(try simp only [Act.put,List.setIfInBounds_toArray,List.set_cons_zero,List.set_cons_succ])) | (refine takes_no rfl (by rfl) ?_;(try simp only [Act.put,List.setIfInBounds_toArray,List.set_cons_zero,List.set_cons_succ]))))
   refine takes_nil ?_;refine wpAnyH_only 6 (by kernel_rfl) rfl (fun K hK=>?_);go_simp
   refine (hCM.out wr.drew).mono ?_;rintro e w2 ⟨rfl,hb2⟩;have hb2':Below wr.heap.size wr w2:=(Below.refl _ wr).drew.trans hb2;have hwr:w.heap.size+1<wr.heap.size:=World.block_lt_of_cell? _ _ hc0;have hcl:(y2<m2/\Lib.compareInt (y2:Int) (m2:Int) = -1)\/(¬y2<m2/\Lib.compareInt (y2:Int) (m2:Int)=0)\/(¬y2<m2/\Lib.compareInt (y2:Int) (m2:Int)=1):=by
    unfold Lib.compareInt;by_cases h:(y2:Int)<(m2:Int)
    ·exact .inl ⟨by omega,if_pos h⟩
    ·by_cases h2:(y2:Int) > (m2:Int)
     ·exact .inr (.inr ⟨by omega,by rw [if_neg h,if_pos h2]⟩)
     ·exact .inr (.inl ⟨by omega,by rw [if_neg h,if_neg h2]⟩)
   dsimp only;have f0:=(hb2'.cell (p:=⟨w.heap.size+1,0,none⟩) hwr).trans hc0;have f1:=(hb2'.cell (p:=⟨w.heap.size+1,1,none⟩) hwr).trans hc1;have f2:=(hb2'.cell (p:=⟨g,i*2,none⟩) (by show g<_;omega)).trans e0;have f3:=(hb2'.cell (p:=⟨g,i*2+1,none⟩) (by show g<_;omega)).trans e1;have g0:=(hb2'.cell (p:=⟨w.heap.size,0,none⟩) (by show w.heap.size<_;omega)).trans hr0;have g1:=(hb2'.cell (p:=⟨w.heap.size,1,none⟩) (by show w.heap.size<_;omega)).trans hr1;have z1:∀ i,w2.frozen? ⟨w.heap.size+1,i,none⟩=false:=fun i=>(hb2'.frozen (p:=⟨w.heap.size+1,i,none⟩) hwr).trans (HZ1.out i)
   have z0:∀ i,w2.frozen? ⟨w.heap.size,i,none⟩=false:=fun i=>(hb2'.frozen (p:=⟨w.heap.size,i,none⟩) (by show w.heap.size<_;omega)).trans (HZ0.out i)
   have hbw2:=HBW.out.trans (hb2'.mono (by omega));have HZ1':=Lib.hid z1;have HZ0':=Lib.hid z0;have y0:=z1 0;have y1':=z1 1;clear z1 z0 hS0 e0 e1 hc0 hc1 hr0 hr1 hb2';rcases hcl with ⟨hy,hcl⟩ | ⟨hy,hcl⟩ | ⟨hy,hcl⟩
   ·rw [hcl];have HS:=Lib.hid (HSTEP.out.trans (if_pos hy));clear hcl hy;refine hK.out _ _ ⟨f2,f3,f0,f1⟩ (fun _=>?_);clear hK K;refine wpAnyH_more [7] 0 rfl (by intro _ _ d _ _ h;cases d<;>exact h) (by kernel_rfl) (by kernel_rfl) ⟨f2,f3,f0,f1⟩ ?_;(iterate 1 (first | (refine takes_yes (v:=?_) rfl (by rfl) ?_ ?_;rotate_left;(focus ((intro w' hS';(try dsimp only at hS');go_simp;try (with_reducible rfl));done));(try simp only [Act.put,List.setIfInBounds_toArray,List.set_cons_zero,List.set_cons_succ])) | (refine takes_no rfl (by rfl) ?_;(try simp only [Act.put,List.setIfInBounds_toArray,List.set_cons_zero,List.set_cons_succ]))))
    refine takes_nil ?_;refine wpAnyH_done (by kernel_rfl) ?_ _;go_wp2
    go_roundw
    case rel =>
     exact ⟨i+1,(y1,y2),by simp,by omega,by omega,by rw [Nat.add_sub_cancel];exact HS.out,by rw [cellSet,if_neg (by simp),cellSet,if_pos rfl,f0];rfl,by rw [cellSet,if_pos rfl,cellSet,if_neg (by simp),f1];rfl,
      fun j=>by rw [World.frozen?_setCell,World.frozen?_setCell];exact HZ1'.out j,⟨_,_,(by rw [cellSet,if_neg (by simp),cellSet,if_neg (by simp)];exact g0),(by rw [cellSet,if_neg (by simp),cellSet,if_neg (by simp)];exact g1)⟩,
      fun j=>by rw [World.frozen?_setCell,World.frozen?_setCell];exact HZ0'.out j,setc_below (setc_below hbw2 (by omega)) (by omega)⟩
    case measure=>simp only [intOf];omega
   ·rw [hcl];have HS:=Lib.hid (HSTEP.out.trans (if_neg hy));clear hcl hy;refine hK.out _ _ ⟨f2,f3,f0,f1⟩ (fun _=>?_);clear hK K;refine wpAnyH_more [7] 0 rfl (by intro _ _ d _ _ h;cases d<;>exact h) (by kernel_rfl) (by kernel_rfl) ⟨f2,f3,f0,f1⟩ ?_;(iterate 1 (first | (refine takes_yes (v:=?_) rfl (by rfl) ?_ ?_;rotate_left;(focus ((intro w' hS';(try dsimp only at hS');go_simp;try (with_reducible rfl));done));(try simp only [Act.put,List.setIfInBounds_toArray,List.set_cons_zero,List.set_cons_succ])) | (refine takes_no rfl (by rfl) ?_;(try simp only [Act.put,List.setIfInBounds_toArray,List.set_cons_zero,List.set_cons_succ]))))
    refine takes_nil ?_;refine wpAnyH_done (by kernel_rfl) ?_ _;go_wp2
    go_roundw
    case rel =>
     exact ⟨i+1,(m1,m2),by simp,by omega,by omega,by rw [Nat.add_sub_cancel];exact HS.out,f0,f1,HZ1'.out,⟨_,_,g0,g1⟩,HZ0'.out,hbw2⟩
    case measure=>simp only [intOf];omega
   ·rw [hcl];have HS:=Lib.hid (HSTEP.out.trans (if_neg hy));clear hcl hy;refine hK.out _ _ ⟨f2,f3,f0,f1⟩ (fun _=>?_);clear hK K;refine wpAnyH_more [7] 0 rfl (by intro _ _ d _ _ h;cases d<;>exact h) (by kernel_rfl) (by kernel_rfl) ⟨f2,f3,f0,f1⟩ ?_;(iterate 1 (first | (refine takes_yes (v:=?_) rfl (by rfl) ?_ ?_;rotate_left;(focus ((intro w' hS';(try dsimp only at hS');go_simp;try (with_reducible rfl));done));(try simp only [Act.put,List.setIfInBounds_toArray,List.set_cons_zero,List.set_cons_succ])) | (refine takes_no rfl (by rfl) ?_;(try simp only [Act.put,List.setIfInBounds_toArray,List.set_cons_zero,List.set_cons_succ]))))
    refine takes_nil ?_;refine wpAnyH_done (by kernel_rfl) ?_ _;go_wp2
    go_roundw
    case rel =>
     exact ⟨i+1,(m1,m2),by simp,by omega,by omega,by rw [Nat.add_sub_cancel];exact HS.out,f0,f1,HZ1'.out,⟨_,_,g0,g1⟩,HZ0'.out,hbw2⟩
    case measure=>simp only [intOf];omega
  ·have k2:decide ((i:Int)<(n:Int))=false:=by simp;omega
   have hfin:minF (x1,x2) l=(m1,m2):=by
    rw [←HM.out,List.take_of_length_le (by have:=HN1.out;omega)]
   have HFIN:=Lib.hid hfin;have z00:=hz0 0;have z01:=hz0 1;clear hfin hz0 hz1;have k0:((wr.setCell ⟨w.heap.size,0,none⟩ (.int .i64 (m1:Nat))).setCell ⟨w.heap.size,1,none⟩ (.int .i64 (m2:Nat))).cell? ⟨w.heap.size,0,none⟩=some (.int .i64 (m1:Nat)):=by rw [cellSet,if_neg (by simp),cellSet,if_pos rfl,hr0];rfl
   have k1:((wr.setCell ⟨w.heap.size,0,none⟩ (.int .i64 (m1:Nat))).setCell ⟨w.heap.size,1,none⟩ (.int .i64 (m2:Nat))).cell? ⟨w.heap.size,1,none⟩=some (.int .i64 (m2:Nat)):=by rw [cellSet,if_pos rfl,cellSet,if_neg (by simp),hr1];rfl
   go_wp2
   refine bodyPost_ret (v := .agg #[.int .i64 (m1:Nat),.int .i64 (m2:Nat)]) ?_ rfl ?_
   ·simp [results,Tryz.results117,go_sem,k0,k1]
   rw [HFIN.out];exact ⟨rfl,setc_below (setc_below HBW.out (Nat.le_refl _)) (Nat.le_refl _)⟩
theorem chk_go (s:KSt) (x:Fo):∃ s',chkF s x = .go true s':=by
 cases x<;>exact ⟨_,rfl⟩
theorem each_go:∀ (f:Fo) (s:KSt),∃ s',eachF chkF f s = .go true s'
 | .nil,s=>⟨s,rfl⟩
 | .text _ r,s=>each_go r s
 | .hash r,s=>each_go r s
 | .put n a r,s=>by
  obtain ⟨s1,h1⟩:=chk_go s (.put n a .nil);rw [eachF,h1];exact each_go r s1
 | .num n a r,s=>by
  obtain ⟨s1,h1⟩:=chk_go s (.num n a .nil);rw [eachF,h1];exact each_go r s1
 | .br n a f o c bs r,s=>by
  obtain ⟨s1,h1⟩:=chk_go s (.br n a f o c bs .nil);obtain ⟨s2,h2⟩:=each_go bs s1;rw [eachF,h1];show ∃ s',(eachF chkF bs s1).then _=_;rw [h2];exact each_go r s2
 | .leg k a m r,s=>by
  obtain ⟨s1,h1⟩:=each_go m s;rw [eachF,h1];exact each_go r s1
def faultsL (f:Fo):List (Nat×Nat):=match eachF chkF f (fun _=>none,[]) with | .go _ s=>s.2 | .pan _ s=>s.2
def chkL (f:Fo):Option (Nat×Nat):=match faultsL f with | []=>none | x::l=>some (minF x l)
def ChkQ (r:Option (Nat×Nat)) (w:World) (e:Ending) (w':World):Prop :=
 (match r with
  | none=>e = .returned .nilIface
  | some (n,a)=>∃ b,e = .returned (.iface 101 (.pointer (some ⟨b,0,none⟩)))/\w'.cell? ⟨b,0,none⟩=some (.int .i64 n)/\w'.cell? ⟨b,1,none⟩=some (.int .i64 a))/\Below w.heap.size w w'
set_option maxHeartbeats 4000000 in
theorem check_any {lo hi:Nat} (f:Fo) (a:Option Addr) (c:Nat) (vs:List Value) (w:World) (hm:f.isMsg=true) (hw:f.wf 2000000=true) (hl:f.len<=2000000) (hc:f.cnt<=1000000000) (hrow:RowC lo hi w a vs) (hnod:NodesV lo hi w vs f) (hhi:hi<=w.heap.size) :
  Calls Tryz.prog 79 #[.slice a f.len c] w (ChkQ (chkL f) w):=by
 have hmm:=@run_makeMap Tryz.prog;have hmf:∀ (fn:Fn) (first cap:Array Value) (w:World),(Instr.makeFunc fn first cap).run Tryz.prog w = .ok (.func fn first cap) w:=fun _ _ _ _=>rfl
 obtain ⟨B,hB⟩:∃ B,w.heap.size=B:=⟨_,rfl⟩;have HB:=Lib.hid hB;have hY:YieldR lo hi w (.func (.func 114) #[] #[.pointer (some ⟨B+2,0,none⟩),.pointer (some ⟨B,0,none⟩)]) (ChkI lo hi w B w) chkF :=
  ⟨⟨_,_,rfl,fun args w=>enters_of Tryz.func114 (by kernel_rfl) rfl args w,fun s room W x u n a hI hnd hwf hh=>chk_any x u n a s room W hI hnd hwf hh⟩,fun s b W h=>h.keep,fun s b W W' h hb=>h.below hb,fun s b b' W h hb=>h.less hb⟩
 have HE:=Lib.hid (fun W hI=>each_any hY (SizeOf.sizeOf f+1) f (Nat.lt_succ_self _) hm hw hl ((fun _=>none),[]) 0 W a c vs hI hrow hnod);obtain ⟨s,hs⟩:=each_go f ((fun _=>none),[]);rw [hs] at HE;have hfl:faultsL f=s.2:=by unfold faultsL;rw [hs]
 have HCL:=Lib.hid (show chkL f=match s.2 with | []=>none | x::l=>some (minF x l) by unfold chkL;rw [hfl]);have hsm:∀ o1 o2 o3,((w.alloc o1).alloc o2).alloc o3=((w.alloc o1).alloc o2).alloc o3:=fun _ _ _=>rfl
 have hI0:ChkI lo hi w B w ((fun _=>none),[]) (0+f.cnt) (((w.alloc (.cells #[.slice none 0 0] 253)).alloc (.map #[] 0)).alloc (.cells #[.map (some (B+1))] 254)):=by
  have h1:(w.alloc (.cells #[.slice none 0 0] 253)).heap.size=B+1:=by simp [hB]
  have h2:((w.alloc (.cells #[.slice none 0 0] 253)).alloc (.map #[] 0)).heap.size=B+2:=by simp [hB]
  have b1:Below w.heap.size w (w.alloc (.cells #[.slice none 0 0] 253)):=(Below.refl _ _).alloc (Nat.le_refl _) _;have b2:=fun o=>(Below.refl (w.alloc (.cells #[.slice none 0 0] 253)).heap.size (w.alloc (.cells #[.slice none 0 0] 253))).alloc (Nat.le_refl _) o
  have b3:=fun o=>(Below.refl ((w.alloc (.cells #[.slice none 0 0] 253)).alloc (.map #[] 0)).heap.size ((w.alloc (.cells #[.slice none 0 0] 253)).alloc (.map #[] 0))).alloc (Nat.le_refl _) o
  have bb:=(b1.trans ((b2 (.map #[] 0)).mono (by omega))).trans ((b3 (.cells #[.map (some (B+1))] 254)).mono (by omega));have c1:=cell_made w #[.slice none 0 0] 253 (0,0) 0;rw [hB] at c1;have hz1:(w.alloc (.cells #[.slice none 0 0] 253)).frozen? ⟨B,0,none⟩=false:=by rw [←hB];simp
  have c2:=MapG.made 255 (w.alloc (.cells #[.slice none 0 0] 253));rw [h1] at c2;have c3:=cell_made ((w.alloc (.cells #[.slice none 0 0] 253)).alloc (.map #[] 0)) #[.map (some (B+1))] 254 (0,0) 0;rw [h2] at c3;refine ⟨(keep_refl (by omega)).below bb,by omega,⟨0,c2.below (b3 _),by omega⟩,⟨.slice none 0 0,?_,World.ownsRow_nil _ _ _ _⟩,c3,?_,by simp;omega,by have h:=bb;rw [hB] at h;exact h⟩
  ·rw [(b3 _).cell (p:=⟨B,0,none⟩) (by show B<_;omega),(b2 _).cell (p:=⟨B,0,none⟩) (by show B<_;omega)];exact c1
  ·rw [(b3 _).frozen (p:=⟨B,0,none⟩) (by show B<_;omega),(b2 _).frozen (p:=⟨B,0,none⟩) (by show B<_;omega)];exact hz1
 have HI0:=Lib.hid hI0;clear hI0 hs hfl hY hsm hrow hnod;go_enter Tryz.func79,Tryz.ntmps79
 go_wp2_with fail
 refine (HE.out _ HI0.out).mono ?_;rintro e w2 ⟨rfl,hI2⟩;obtain ⟨v,hc,hF⟩:=hI2.row;obtain ⟨fa,fc,rfl⟩:=own_slice hF;have HF:=Lib.hid hF;have hbel:Below w.heap.size w w2:=by rw [HB.out];exact hI2.bel
 have hfew:=hI2.few;clear hI2 hF HE HI0;obtain ⟨s1,l⟩:=s;dsimp only at *
 cases l with
 | nil =>
  have HX:=Lib.hid (show chkL f=none from HCL.out);go_wp2
  go_ret
  rw [HX.out];exact ⟨rfl,hbel⟩
 | cons x l =>
  have HX:=Lib.hid (show chkL f=some (minF x l) from HCL.out);have hlen:(x::l).length=l.length+1:=rfl;rw [hlen] at hc;have j1:(((l.length+1:Nat):Int)==0)=false:=by simp;omega
  have HMI:=Lib.hid (minfunc_any x l (B+3) (.slice fa (l.length+1) fc) w2 (by simp at hfew;omega) HF.out);clear hlen hfew;go_wp2_with fail
  refine HMI.out.mono ?_;rintro e w3 ⟨rfl,hb3⟩;obtain ⟨m,hm0⟩:∃ m,minF x l=m:=⟨_,rfl⟩;obtain ⟨m1,m2⟩:=m;rw [hm0] at HX ⊢;clear hm0;have hbel3:=hbel.trans (hb3.mono hbel.size);have hal:=(Below.refl w3.heap.size w3).alloc (Nat.le_refl _) (.cells #[.int .i64 m1,.int .i64 m2] 105);have hcm:=fun i=>cell_made w3 #[.int .i64 m1,.int .i64 m2] 105 (0,0) i
  go_wp2
  go_ret
  rw [HX.out];exact ⟨⟨_,rfl,hcm 0,hcm 1⟩,hbel3.trans (hal.mono hbel3.size)⟩
theorem Fo.wf_app {N:Nat}:∀ f g:Fo,f.wf N=true->g.wf N=true->(f.app g).wf N=true
 | .nil,g,_,h=>h
 | .text t r,g,h,h2=>Fo.wf_app r g h h2
 | .hash r,g,h,h2=>Fo.wf_app r g h h2
 | .put n a r,g,h,h2=>by
  simp only [Fo.wf,Fo.app,Bool.and_eq_true] at h ⊢;exact ⟨h.1,Fo.wf_app r g h.2 h2⟩
 | .num n a r,g,h,h2=>by
  simp only [Fo.wf,Fo.app,Bool.and_eq_true] at h ⊢;exact ⟨h.1,Fo.wf_app r g h.2 h2⟩
 | .br n a f o c b r,g,h,h2=>by
  simp only [Fo.wf,Fo.app,Bool.and_eq_true] at h ⊢;exact ⟨h.1,Fo.wf_app r g h.2 h2⟩
 | .leg k a m r,g,h,h2=>by
  simp only [Fo.wf,Fo.app,Bool.and_eq_true] at h ⊢;exact ⟨h.1,Fo.wf_app r g h.2 h2⟩
theorem Fo.cnt_app:∀ f g:Fo,(f.app g).cnt=f.cnt+g.cnt
 | .nil,g=>by simp [Fo.app,Fo.cnt]
 | .text t r,g=>Fo.cnt_app r g
 | .hash r,g=>Fo.cnt_app r g
 | .put n a r,g=>by simp only [Fo.app,Fo.cnt,Fo.cnt_app r g];omega
 | .num n a r,g=>by simp only [Fo.app,Fo.cnt,Fo.cnt_app r g];omega
 | .br n a f o c b r,g=>by simp only [Fo.app,Fo.cnt,Fo.cnt_app r g];omega
 | .leg k a m r,g=>by simp only [Fo.app,Fo.cnt,Fo.cnt_app r g];omega
structure GoodF (f:Fo) (n:Nat):Prop where
 msg:f.isMsg=true
 wf:f.wf 2000000=true
 len:f.len<=n
 cnt:f.cnt<=n
theorem GoodF.nil:GoodF .nil 0:=⟨rfl,rfl,Nat.le_refl _,Nat.le_refl _⟩
theorem GoodF.app {f g:Fo} {n m:Nat} (h:GoodF f n) (k:GoodF g m):GoodF (f.app g) (n+m) :=
 ⟨Fo.isMsg_app _ _ h.msg k.msg,Fo.wf_app _ _ h.wf k.wf,by rw [Fo.len_app];have:=h.len;have:=k.len;omega,by rw [Fo.cnt_app];have:=h.cnt;have:=k.cnt;omega⟩
theorem GoodF.text (t:Wd):GoodF (.text t .nil) 1:=⟨rfl,rfl,Nat.le_refl _,Nat.zero_le _⟩
theorem GoodF.more {f:Fo} {n m:Nat} (h:GoodF f n) (k:n<=m):GoodF f m:=⟨h.msg,h.wf,Nat.le_trans h.len k,Nat.le_trans h.cnt k⟩
theorem wf_pre {N:Nat}:∀ (f g:Fo),(f.app g).wf N=true->f.wf N=true
 | .nil,g,_=>rfl
 | .text t r,g,h=>wf_pre r g h
 | .hash r,g,h=>wf_pre r g h
 | .put n a r,g,h=>by
  simp only [Fo.wf,Fo.app,Bool.and_eq_true] at h ⊢;exact ⟨h.1,wf_pre r g h.2⟩
 | .num n a r,g,h=>by
  simp only [Fo.wf,Fo.app,Bool.and_eq_true] at h ⊢;exact ⟨h.1,wf_pre r g h.2⟩
 | .br n a f o c b r,g,h=>by
  simp only [Fo.wf,Fo.app,Bool.and_eq_true] at h ⊢;exact ⟨h.1,wf_pre r g h.2⟩
 | .leg k a m r,g,h=>by
  simp only [Fo.wf,Fo.app,Bool.and_eq_true] at h ⊢;exact ⟨h.1,wf_pre r g h.2⟩
theorem GoodF.addText {f:Fo} {n:Nat} (h:GoodF f n) (t:Wd):GoodF (f.addText t) (n+1):=by
 cases hl:f.lastText with
 | none=>rw [last_none f t hl];exact h.app (GoodF.text t)
 | some s =>
  obtain ⟨pre,h1,h2,h3⟩:=last_some f s hl;have hw:=h.wf;have hlen:=h.len;have hcnt:=h.cnt;rw [h1] at hw hlen hcnt;rw [h3];refine ⟨Fo.isMsg_app _ _ (h2 h.msg) rfl,Fo.wf_app _ _ (wf_pre _ _ hw) rfl,?_,?_⟩
  ·rw [Fo.len_app] at hlen ⊢;simp only [Fo.len] at hlen ⊢;omega
  ·rw [Fo.cnt_app] at hcnt ⊢;simp only [Fo.cnt] at hcnt ⊢;omega
structure GoodL (f:Fo) (n:Nat):Prop where
 legs:f.isLegs=true
 wf:f.wf 2000000=true
 cnt:f.cnt+f.len<=n
def MsgGood (rs:List Int) (m:MsgP):Prop:=∀ num i f j,m num i = .ok (f,j)->i<=j/\GoodF f (j - i)
theorem next_lt {rs:List Int} {i:Nat} {r:Int} (h:nextL rs i=r) (hr:r≠-1):i<rs.length:=by
 apply Classical.byContradiction;intro hc;rw [next_end (by omega)] at h;exact hr h.symm
section
variable {rs:List Int} (hrs:rs.length<=1000000)
include hrs
theorem nameP_len {i j:Nat} {x:Wd} (h:nameP rs i = .ok (x,j)):x.length<=4000000/\i<j:=by
 refine ⟨?_,nameP_inv h⟩;unfold nameP at h;split at h
 ·cases h
 ·cases h;have:=pieceL_len rs i (nameN rs i);omega
theorem wholeP_len {i j:Nat} {x:Wd} (h:wholeP rs i = .ok (x,j)):x.length<=4000000/\i<j:=by
 refine ⟨?_,wholeP_inv h⟩;unfold wholeP at h;split at h
 ·cases h
 ·cases h;have:=pieceL_len rs i (wholeN rs i);omega
theorem keyP_len {num:Bool} {i j:Nat} {x:Wd} (h:keyP rs num i = .ok (x,j)):x.length<=4000001/\i<j:=by
 unfold keyP at h;split at h
 ·obtain ⟨a,q,h1,h2⟩:=then_inv h
  cases h2;have:=wholeP_len hrs h1;simp;omega
 ·obtain ⟨a,q,h1,h2⟩:=then_inv h;split at h2
  ·cases h2
  ·cases h2;have:=nameP_len hrs h1;omega
theorem legP_good {msg:Option MsgP} {num:Bool} {i j:Nat} {f:Fo} (hm:∀ m,msg=some m->MsgGood rs m) (h:legP rs msg num i = .ok (f,j)):i<j/\GoodL f (j - i)/\f.len=1:=by
 unfold legP at h;obtain ⟨k,a,h1,h2⟩:=then_inv h;obtain ⟨u,b,h3,h4⟩:=then_inv h2;have e1:=keyP_len hrs h1;have e2:=(wantP_inv h3).2;have e3:=skipL_le rs a
 cases msg with
 | none=>cases h4
 | some m =>
  obtain ⟨g,c,h5,h6⟩:=then_inv (show (m num b).then _=_ from h4);obtain ⟨u2,z,h7,h8⟩:=then_inv h6;obtain ⟨e4,hg⟩:=hm m rfl _ _ _ _ h5;have e5:=wantP_inv h7;have e6:=skipL_le rs z;have e7:=next_lt e5.1 (by decide)
  cases h8;have hl:=hg.len;have hc:=hg.cnt;refine ⟨by omega,⟨rfl,?_,?_⟩,rfl⟩
  ·have hml:g.len<=2000000:=by omega
   simp only [Fo.wf,Bool.and_eq_true,decide_eq_true_eq];exact ⟨⟨⟨⟨by omega,hg.msg⟩,hml⟩,hg.wf⟩,trivial⟩
  ·simp only [Fo.cnt,Fo.len];omega
theorem legsP_good {msg:Option MsgP} {num:Bool} (hm:∀ m,msg=some m->MsgGood rs m):∀ (n:Nat) (acc:Fo) (i j b:Nat) (f:Fo),legsP rs msg num n acc i = .ok (f,j)->GoodL acc b->i<=j/\GoodL f (b+(j - i))
 | 0,acc,i,j,b,f,h,_=>by cases h
 | n+1,acc,i,j,b,f,h,ha=>by
  rw [legsP] at h;split at h
  ·cases h;exact ⟨Nat.le_refl _,by simpa using ha⟩
  ·obtain ⟨g,q,h1,h2⟩:=then_inv h;obtain ⟨e1,hg,_⟩:=legP_good hrs hm h1;have hag:GoodL (acc.app g) (b+(q - i)):=⟨Fo.isLegs_app _ _ ha.legs hg.legs,Fo.wf_app _ _ ha.wf hg.wf,by rw [Fo.cnt_app,Fo.len_app];have:=ha.cnt;have:=hg.cnt;omega⟩;obtain ⟨e2,hf⟩:=legsP_good hm n _ _ _ _ _ h2 hag;exact ⟨by omega,⟨hf.legs,hf.wf,by have:=hf.cnt;omega⟩⟩
theorem argP_good {msg:Option MsgP} {i j:Nat} {f:Fo} (hm:∀ m,msg=some m->MsgGood rs m) (h:argP rs msg i = .ok (f,j)):i<j/\GoodF f (j - i):=by
 unfold argP at h;obtain ⟨u,a,h1,h2⟩:=then_inv h;obtain ⟨nm,b,h3,h4⟩:=then_inv h2;have e1:=(wantP_inv h1).2;have e2:=skipL_le rs a;have e3:=nameP_len hrs h3;have e4:=skipL_le rs b;clear h h1 h2 h3;split at h4
 ·obtain ⟨u,z,h5,h6⟩:=then_inv h4;have:=(wantP_inv h5).2
  cases h6;refine ⟨by omega,rfl,?_,by simp [Fo.len];omega,by simp [Fo.cnt];omega⟩;simp only [Fo.wf,Bool.and_eq_true,decide_eq_true_eq];exact ⟨by omega,trivial⟩
 ·obtain ⟨wd,c,h5,h6⟩:=then_inv h4;have e5:=nameP_inv h5;have e6:=skipL_le rs (skipL rs b+1);have e7:=skipL_le rs c;clear h4 h5;split at h6
  ·obtain ⟨u,z,h7,h8⟩:=then_inv h6;have:=(wantP_inv h7).2
   cases h8;refine ⟨by omega,rfl,?_,by simp [Fo.len];omega,by simp [Fo.cnt];omega⟩;simp only [Fo.wf,Bool.and_eq_true,decide_eq_true_eq];exact ⟨by omega,trivial⟩
  ·split at h6
   ·cases h6
   ·next form hform =>
    obtain ⟨u,d,h7,h8⟩:=then_inv h6;obtain ⟨o,l,h9,h10⟩:=then_inv h8;obtain ⟨bs,q,h11,h12⟩:=then_inv h10;obtain ⟨u,z,h13,h14⟩:=then_inv h12;have:=(wantP_inv h7).2;have:=skipL_le rs d;have:=offP_le h9;obtain ⟨e8,hb⟩:=legsP_good hrs hm _ _ _ _ 0 _ h11 ⟨rfl,rfl,Nat.le_refl _⟩;have e9:=wantP_inv h13;have e10:=next_lt e9.1 (by decide);have hbc:=hb.cnt;have hfo:=formL_lt hform
    cases h14;refine ⟨by omega,rfl,?_,by simp [Fo.len];omega,by simp [Fo.cnt];omega⟩;simp only [Fo.wf,Bool.and_eq_true,decide_eq_true_eq];exact ⟨⟨⟨⟨⟨by omega,hfo⟩,hb.legs⟩,by omega⟩,hb.wf⟩,trivial⟩
theorem msgGo_good {msg:Option MsgP} {num:Bool} (hm:∀ m,msg=some m->MsgGood rs m):∀ (n:Nat) (acc:Fo) (i j b:Nat) (f:Fo),msgGo rs msg num n acc i = .ok (f,j)->GoodF acc b->i<=j/\GoodF f (b+(j - i))
 | 0,acc,i,j,b,f,h,_=>by cases h
 | n+1,acc,i,j,b,f,h,ha=>by
  rw [msgGo] at h;split at h
  ·cases h;exact ⟨Nat.le_refl _,by simpa using ha⟩
  split at h
  ·obtain ⟨g,q,h1,h2⟩:=then_inv h;obtain ⟨e1,hg⟩:=argP_good hrs hm h1;obtain ⟨e2,hf⟩:=msgGo_good hm n _ _ _ _ _ h2 (ha.app hg);exact ⟨by omega,hf.more (by omega)⟩
  split at h
  ·obtain ⟨e2,hf⟩:=msgGo_good hm n _ _ _ _ _ h (ha.app (g := .hash .nil) (m:=1) ⟨rfl,rfl,Nat.le_refl _,Nat.zero_le _⟩);exact ⟨by omega,hf.more (by omega)⟩
  ·have:=textT_lt rs num i;obtain ⟨e2,hf⟩:=msgGo_good hm n _ _ _ _ _ h (ha.addText _);exact ⟨by omega,hf.more (by omega)⟩
theorem msgP_good:∀ n,MsgGood rs (msgP rs n)
 | 0,num,i,f,j,h=>by
  rw [msgP] at h;have:=msgGo_good hrs (fun m e=>by cases e) _ _ _ _ 0 _ h GoodF.nil;simpa using this
 | n+1,num,i,f,j,h=>by
  rw [msgP] at h;have:=msgGo_good hrs (fun m e=>by cases e;exact msgP_good n) _ _ _ _ 0 _ h GoodF.nil;simpa using this
end
theorem msgGo_end {rs:List Int} {msg:Option MsgP} {num:Bool}:∀ (n:Nat) (acc:Fo) (i j:Nat) (f:Fo),msgGo rs msg num n acc i = .ok (f,j)->i<=rs.length->j<=rs.length
 | 0,acc,i,j,f,h,_=>by cases h
 | n+1,acc,i,j,f,h,hi=>by
  rw [msgGo] at h;split at h
  ·cases h;exact hi
  next h0 =>
  have hlt:i<rs.length:=by
   apply Classical.byContradiction;intro hc;exact h0 (.inl (next_end (by omega)))
  split at h
  ·obtain ⟨g,q,h1,h2⟩:=then_inv h;exact msgGo_end n _ _ _ _ h2 (argP_last h1).2
  split at h
  ·exact msgGo_end n _ _ _ _ h hlt
  ·exact msgGo_end n _ _ _ _ h (text_end hlt).2
theorem parseR_good {l:List UInt8} {f:Fo} (h:parseR l = .ok f):GoodF f 1000:=by
 unfold parseR at h;split at h
 ·cases h
 split at h
 ·cases h
 next h1 _ =>
 have hrs:=runes_len l;have hr:(runesL l).length<=1000:=by omega
 cases hp:parseL (runesL l) with
 | error e=>rw [hp] at h;cases h
 | ok x =>
  rw [hp] at h
  cases h;unfold parseL at hp;obtain ⟨g,q,h2,h3⟩:=then_inv (show _=Except.ok (x.1,x.2) from hp);have hg:=(msgP_good (by omega) 5 _ _ _ _ h2).2;have he:q<=(runesL l).length:=msgGo_end _ _ _ _ _ h2 (Nat.zero_le _);split at h3
  ·cases h3;exact hg.more (by omega)
  ·cases h3
def readP (l:List UInt8):Except (Nat×Nat) Fo :=
 match parseR l with
 | .error e => .error e
 | .ok f=>match chkL f with | none => .ok f | some e => .error e
def ReadQ (r:Except (Nat×Nat) Fo) (w:World) (e:Ending) (w':World):Prop :=
 (match r with
  | .error (n,a)=>∃ v b,e = .returned (.tuple #[v,.iface 101 (.pointer (some ⟨b,0,none⟩))])/\(∃ a n c,v = .slice a n c)/\w'.cell? ⟨b,0,none⟩=some (.int .i64 n)/\w'.cell? ⟨b,1,none⟩=some (.int .i64 a)
  | .ok f=>(∃ a c vs,e = .returned (.tuple #[.slice a f.len c,.nilIface])/\RowC w.heap.size w'.heap.size w' a vs/\NodesV w.heap.size w'.heap.size w' vs f)/\GoodF f 1000)/\Below w.heap.size w w'
set_option maxHeartbeats 2000000 in
theorem read_msg (s:ByteArray) (w:World) (hs:s.size<=9223372036854775807) (hT:Lib.Utf8Tabs 3 4 w) (hN:NamesAt w) :
  Calls Tryz.prog 47 #[.string s] w (ReadQ (readP s.data.toList) w):=by
 have HP:=Lib.hid (syn_parse s w hs hT hN);have HR:=Lib.hid (show readP s.data.toList=match parseR s.data.toList with | .error e => .error e | .ok f=>match chkL f with | none => .ok f | some e => .error e from rfl);have HG:=Lib.hid (fun f=>parseR_good (l:=s.data.toList) (f:=f));obtain ⟨r,hr⟩:∃ r,parseR s.data.toList=r:=⟨_,rfl⟩;rw [hr] at HP HR HG;clear hT hN hr;go_enter Tryz.func47,Tryz.ntmps47
 go_wp2_with fail
 refine HP.out.mono ?_;rintro e w1 ⟨hq,hb1⟩;clear HP
 cases r with
 | error en =>
  obtain ⟨n,a⟩:=en;obtain ⟨b,rfl,c0,c1⟩:=hq;have HX:=Lib.hid (show readP s.data.toList = .error (n,a) from HR.out);go_wp2
  go_ret2
  rw [HX.out];exact ⟨⟨_,b,rfl,⟨_,_,_,rfl⟩,c0,c1⟩,hb1⟩
 | ok f =>
  obtain ⟨⟨a,c,vs,rfl,hrow,hnod⟩,hmsg⟩:=hq;have hg:=HG.out f rfl;have HROW:=Lib.hid hrow;have HNOD:=Lib.hid hnod;have HGG:=Lib.hid hg;have HC:=Lib.hid (check_any f a c vs w1 hg.msg hg.wf (by have:=hg.len;omega) (by have:=hg.cnt;omega) hrow hnod (Nat.le_refl _));have HX:=Lib.hid (show readP s.data.toList=match chkL f with | none => .ok f | some e => .error e from HR.out);obtain ⟨q,hq⟩:∃ q,chkL f=q:=⟨_,rfl⟩;rw [hq] at HC HX;clear hrow hnod hmsg hg hq HR HG;go_wp2_with fail
  refine HC.out.mono ?_;rintro e w2 ⟨hq,hb2⟩;clear HC;have hb02:=hb1.trans (hb2.mono hb1.size)
  cases q with
  | none =>
   obtain rfl:=hq;have HY:=Lib.hid (show readP s.data.toList = .ok f from HX.out);have hk:KeepR w.heap.size w1.heap.size w1 w2:=⟨hb2.size,fun k _ hk=>hb2.block k hk⟩;go_wp2
   go_ret2
   rw [HY.out];exact ⟨⟨⟨a,c,vs,rfl,HROW.out.keep hk (Nat.le_refl _) hb2.size,NodesV.keep hk (Nat.le_refl _) hb2.size _ _ HNOD.out⟩,HGG.out⟩,hb02⟩
  | some e =>
   obtain ⟨n,p⟩:=e;obtain ⟨b,rfl,c0,c1⟩:=hq;have HY:=Lib.hid (show readP s.data.toList = .error (n,p) from HX.out);go_wp2
   go_ret2
   rw [HY.out];exact ⟨⟨_,b,rfl,⟨_,_,_,rfl⟩,c0,c1⟩,hb02⟩
def KeyW (num:Bool) (k:Wd):Prop:=k.length<=17/\(num=true->k.head? = some 61->EqW k)
def Fo.fit:Fo->Prop
 | .nil=>True
 | .text _ r=>r.fit
 | .hash r=>r.fit
 | .put n _ r=>n.length<=16/\r.fit
 | .num n _ r=>n.length<=16/\r.fit
 | .br n _ f o _ bs r=>n.length<=16/\f<3/\offV o<=999999999/\(∀ k∈bs.keys,KeyW (decide (f≠0)) k)/\bs.fit/\r.fit
 | .leg _ _ m r=>m.fit/\r.fit
def Fo.mass:Fo->Nat
 | .nil=>0
 | .text t r=>t.length+5+r.mass
 | .hash r=>5+r.mass
 | .put _ _ r=>5+r.mass
 | .num _ _ r=>5+r.mass
 | .br _ _ _ _ _ bs r=>40+bs.mass+r.mass
 | .leg _ _ m r=>20+m.mass+r.mass
def Fo.once:Fo->Prop
 | .nil=>True
 | .text _ r=>r.once
 | .hash r=>r.once
 | .put _ _ r=>r.once
 | .num _ _ r=>r.once
 | .br _ _ _ _ _ bs r=>bs.keys.Nodup/\bs.once/\r.once
 | .leg _ _ m r=>m.once/\r.once
theorem Fo.cw_mass:∀ f:Fo,f.cw<=f.mass
 | .nil=>Nat.le_refl _
 | .text t r=>by have:=Fo.cw_mass r;simp only [Fo.cw,Fo.mass];omega
 | .hash r=>by have:=Fo.cw_mass r;simp only [Fo.cw,Fo.mass];omega
 | .put n a r=>by have:=Fo.cw_mass r;simp only [Fo.cw,Fo.mass];omega
 | .num n a r=>by have:=Fo.cw_mass r;simp only [Fo.cw,Fo.mass];omega
 | .br n a f o c b r=>by have:=Fo.cw_mass b;have:=Fo.cw_mass r;simp only [Fo.cw,Fo.mass];omega
 | .leg k a m r=>by have:=Fo.cw_mass m;have:=Fo.cw_mass r;simp only [Fo.cw,Fo.mass];omega
theorem Fo.fit_cok:∀ f:Fo,f.fit->f.wf 2000000=true->f.mass<=5000000->f.once->f.cok
 | .nil,_,_,_,_=>trivial
 | .text t r,h,w,m,o=>by simp only [Fo.mass] at m;exact ⟨by omega,Fo.fit_cok r h w (by omega) o⟩
 | .hash r,h,w,m,o=>by simp only [Fo.mass] at m;exact Fo.fit_cok r h w (by omega) o
 | .put n a r,h,w,m,o=>by
  simp only [Fo.mass] at m;simp only [Fo.wf,Bool.and_eq_true] at w;exact ⟨h.1,Fo.fit_cok r h.2 w.2 (by omega) o⟩
 | .num n a r,h,w,m,o=>by
  simp only [Fo.mass] at m;simp only [Fo.wf,Bool.and_eq_true] at w;exact ⟨h.1,Fo.fit_cok r h.2 w.2 (by omega) o⟩
 | .br n a f of c b r,h,w,m,o=>by
  simp only [Fo.mass] at m;simp only [Fo.wf,Bool.and_eq_true] at w;obtain ⟨h1,h2,h3,h4,h5,h6⟩:=h;refine ⟨h1,h2,h3,w.1.1.1.2,o.1,fun k hk=>⟨(h4 k hk).1,fun hf=>(h4 k hk).2 (by simpa using hf)⟩,Fo.fit_cok b h5 w.1.2 (by omega) o.2.1,Fo.fit_cok r h6 w.2 (by omega) o.2.2⟩
 | .leg k a g r,h,w,m,o=>by
  simp only [Fo.mass] at m;simp only [Fo.wf,Bool.and_eq_true] at w;exact ⟨w.1.1.1.2,Fo.fit_cok g h.1 w.1.2 (by omega) o.1,Fo.fit_cok r h.2 w.2 (by omega) o.2⟩
theorem Fo.fit_app:∀ f g:Fo,f.fit->g.fit->(f.app g).fit
 | .nil,g,_,h=>h
 | .text t r,g,h,h2=>Fo.fit_app r g h h2
 | .hash r,g,h,h2=>Fo.fit_app r g h h2
 | .put n a r,g,h,h2=>⟨h.1,Fo.fit_app r g h.2 h2⟩
 | .num n a r,g,h,h2=>⟨h.1,Fo.fit_app r g h.2 h2⟩
 | .br n a f o c b r,g,h,h2=>⟨h.1,h.2.1,h.2.2.1,h.2.2.2.1,h.2.2.2.2.1,Fo.fit_app r g h.2.2.2.2.2 h2⟩
 | .leg k a m r,g,h,h2=>⟨h.1,Fo.fit_app r g h.2 h2⟩
theorem Fo.mass_app:∀ f g:Fo,(f.app g).mass=f.mass+g.mass
 | .nil,g=>by simp [Fo.app,Fo.mass]
 | .text t r,g=>by simp only [Fo.app,Fo.mass,Fo.mass_app r g];omega
 | .hash r,g=>by simp only [Fo.app,Fo.mass,Fo.mass_app r g];omega
 | .put n a r,g=>by simp only [Fo.app,Fo.mass,Fo.mass_app r g];omega
 | .num n a r,g=>by simp only [Fo.app,Fo.mass,Fo.mass_app r g];omega
 | .br n a f o c b r,g=>by simp only [Fo.app,Fo.mass,Fo.mass_app r g];omega
 | .leg k a m r,g=>by simp only [Fo.app,Fo.mass,Fo.mass_app r g];omega
theorem Fo.keys_app:∀ f g:Fo,f.isLegs=true->(f.app g).keys=f.keys++g.keys
 | .nil,g,_=>rfl
 | .leg k a m r,g,h=>by
  show k::(r.app g).keys=_;rw [Fo.keys_app r g h];rfl
theorem fit_pre:∀ (f g:Fo),(f.app g).fit->f.fit
 | .nil,g,_=>trivial
 | .text t r,g,h=>fit_pre r g h
 | .hash r,g,h=>fit_pre r g h
 | .put n a r,g,h=>⟨h.1,fit_pre r g h.2⟩
 | .num n a r,g,h=>⟨h.1,fit_pre r g h.2⟩
 | .br n a f o c b r,g,h=>⟨h.1,h.2.1,h.2.2.1,h.2.2.2.1,h.2.2.2.2.1,fit_pre r g h.2.2.2.2.2⟩
 | .leg k a m r,g,h=>⟨h.1,fit_pre r g h.2⟩
theorem Fo.fit_addText {f:Fo} (h:f.fit) (t:Wd):(f.addText t).fit/\(f.addText t).mass<=f.mass+t.length+5:=by
 cases hl:f.lastText with
 | none =>
  rw [last_none f t hl];exact ⟨Fo.fit_app _ _ h trivial,by rw [Fo.mass_app];simp only [Fo.mass];omega⟩
 | some s =>
  obtain ⟨pre,h1,h2,h3⟩:=last_some f s hl;rw [h1] at h;rw [h3];refine ⟨Fo.fit_app _ _ (fit_pre _ _ h) trivial,?_⟩;rw [Fo.mass_app,show f.mass=(pre.app (.text s .nil)).mass from congrArg _ h1,Fo.mass_app];simp only [Fo.mass,List.length_append];omega
theorem once_br (cl:Nat):∀ (f:Fo) (seen:List Wd) (acc:List (Nat×Nat)),bGo cl seen acc f=[]->acc=[]/\(∀ k∈f.keys,k ∉ seen)/\f.keys.Nodup:=by
 have hn:∀ (f:Fo) (seen:List Wd) (acc:List (Nat×Nat)),(if othW∈seen then acc else acc++[(6,cl)])=[]->acc=[]:=fun f seen acc h=>by
  split at h
  ·exact h
  ·simp at h
 intro f;induction f with
 | leg k a m r _ ih =>
  intro seen acc h;rw [bGo] at h;obtain ⟨h1,h2,h3⟩:=ih _ _ h;split at h1
  ·simp at h1
  next hk =>
  refine ⟨h1,fun x hx=>?_,?_⟩
  ·rcases List.mem_cons.1 hx with rfl | hx
   ·exact hk
   ·exact fun q=>h2 x hx (List.mem_cons_of_mem _ q)
  ·exact List.nodup_cons.2 ⟨fun q=>h2 k q List.mem_cons_self,h3⟩
 | nil=>intro seen acc h;exact ⟨hn .nil seen acc h,(fun k hk=>by cases hk),List.nodup_nil⟩
 | text _ _ _=>intro seen acc h;exact ⟨hn .nil seen acc h,(fun k hk=>by cases hk),List.nodup_nil⟩
 | hash _ _=>intro seen acc h;exact ⟨hn .nil seen acc h,(fun k hk=>by cases hk),List.nodup_nil⟩
 | put _ _ _ _=>intro seen acc h;exact ⟨hn .nil seen acc h,(fun k hk=>by cases hk),List.nodup_nil⟩
 | num _ _ _ _=>intro seen acc h;exact ⟨hn .nil seen acc h,(fun k hk=>by cases hk),List.nodup_nil⟩
 | br _ _ _ _ _ _ _ _ _=>intro seen acc h;exact ⟨hn .nil seen acc h,(fun k hk=>by cases hk),List.nodup_nil⟩
theorem kind_nil {s:KSt} {n:Wd} {a k:Nat} (h:(kindS s n a k).2=[]):s.2=[]:=by
 unfold kindS at h;split at h
 ·simp at h
 ·split at h<;>exact h
theorem once_each:∀ (f:Fo) (s s':KSt),eachF chkF f s = .go true s'->s'.2=[]->s.2=[]/\f.once
 | .nil,s,s',h,e=>by
  cases h;exact ⟨e,trivial⟩
 | .text _ r,s,s',h,e=>once_each r s s' h e
 | .hash r,s,s',h,e=>once_each r s s' h e
 | .put n a r,s,s',h,e=>by
  obtain ⟨h1,h2⟩:=once_each r (kindS s n a 0) s' h e;exact ⟨kind_nil h1,h2⟩
 | .num n a r,s,s',h,e=>by
  obtain ⟨h1,h2⟩:=once_each r (kindS s n a 1) s' h e;exact ⟨kind_nil h1,h2⟩
 | .br n a f o c bs r,s,s',h,e=>by
  obtain ⟨s1,h1⟩:∃ s1:KSt,((kindS s n a (kindF (.br n a f o c bs .nil))).1,(kindS s n a (kindF (.br n a f o c bs .nil))).2++bGo c [] [] bs)=s1:=⟨_,rfl⟩;have h2:(eachF chkF bs s1).then (fun s=>eachF chkF r s) = .go true s':=by rw [←h1];exact h
  obtain ⟨s2,h3⟩:=each_go bs s1;rw [h3] at h2;obtain ⟨h4,h5⟩:=once_each r s2 s' h2 e;obtain ⟨h6,h7⟩:=once_each bs s1 s2 h3 h4;rw [←h1] at h6;obtain ⟨h8,h9⟩:=List.append_eq_nil_iff.1 h6;exact ⟨kind_nil h8,(once_br c bs _ _ h9).2.2,h7,h5⟩
 | .leg k a m r,s,s',h,e=>by
  obtain ⟨s1,h1⟩:=each_go m s;have h2:(eachF chkF m s).then (fun s=>eachF chkF r s) = .go true s':=h;rw [h1] at h2;obtain ⟨h4,h5⟩:=once_each r s1 s' h2 e;obtain ⟨h6,h7⟩:=once_each m s s1 h1 h4;exact ⟨h6,h7,h5⟩
theorem once_chk {f:Fo} (h:chkL f=none):f.once:=by
 obtain ⟨s,hs⟩:=each_go f ((fun _=>none),[]);have e:faultsL f=s.2:=by unfold faultsL;rw [hs]
 unfold chkL at h;refine (once_each f _ s hs ?_).2;rw [←e]
 cases hq:faultsL f with
 | nil=>rfl
 | cons a t=>rw [hq] at h;cases h
theorem off_nine {l:Wd} (h:l.length<=9) (hd:l.all isDig=true):offV l<=999999999:=by
 have hb:∀ (l:Wd) (v:Nat),l.all isDig=true->l.foldl (fun v c=>10*v+(c.toNat - 48)) v<(v+1)*10 ^ l.length:=by
  intro l;induction l with
  | nil=>intro v _;simp
  | cons c t ih =>
   intro v h;simp only [List.all_cons,Bool.and_eq_true] at h;have hc:=(isDig_iff c).1 h.1;have:=ih (10*v+(c.toNat - 48)) h.2;rw [List.foldl_cons,List.length_cons];refine Nat.lt_of_lt_of_le this ?_;have h3:10*v+(c.toNat - 48)+1<=(v+1)*10:=by omega
   calc (10*v+(c.toNat - 48)+1)*10 ^ t.length<=((v+1)*10)*10 ^ t.length:=Nat.mul_le_mul_right _ h3
    _=(v+1)*10 ^ (t.length+1):=by rw [Nat.pow_succ,Nat.mul_assoc,Nat.mul_comm 10]
 have h1:=hb l 0 hd;have h2:10 ^ l.length<=10 ^ 9:=Nat.pow_le_pow_right (by decide) h;have h3:(10:Nat) ^ 9=1000000000:=by decide
 unfold offV;omega
theorem enc_low:∀ k:Fin 128,(enc (k.val:Int)).length=1:=by decide
theorem low_piece:∀ (l:List Int),(∀ r∈l,0<=r/\r<128)->(l.flatMap enc).length=l.length
 | [],_=>rfl
 | r::t,h=>by
  have h1:=h r (by simp);have h2:=enc_low ⟨r.toNat,by omega⟩;rw [show (((⟨r.toNat,by omega⟩:Fin 128).val:Nat):Int)=r from by show ((r.toNat:Nat):Int)=r;omega] at h2;rw [List.flatMap_cons,List.length_append,h2,low_piece t (fun q hq=>h q (by simp [hq]))];simp;omega
theorem piece_four (l:List Int):(l.flatMap enc).length<=4*l.length:=by
 induction l with
 | nil=>simp
 | cons a t ih=>have:=(enc_length a).1;simp only [List.flatMap_cons,List.length_append,List.length_cons];omega
theorem quote_le:∀ (n:Nat) (l:List Int),l.length<=n->(quoteL l).1.length<=(quoteL l).2
 | 0,l,h=>by
  obtain rfl:l=[]:=List.length_eq_zero_iff.1 (by omega);rw [quoteL];exact Nat.le_refl _
 | n+1,[],h=>by rw [quoteL];exact Nat.le_refl _
 | n+1,c::t,h=>by
  rw [quoteL.eq_def];simp only;split
  ·split
   ·simp
   ·next d u =>
    split
    ·have:=quote_le n u (by simp at h;omega);simp;omega
    ·simp
  ·have:=quote_le n t (by simp at h;omega);simp;omega
theorem text_four (rs:List Int) (num:Bool) (i:Nat):(textT rs num i).1.length+4*i<=4*(textT rs num i).2:=by
 unfold textT;split
 ·have:=(enc_length (nextL rs i)).1;show (enc (nextL rs i)).length+4*i<=4*(i+1);omega
 split
 ·have:=(enc_length 39).1;show (enc 39).length+4*i<=4*(i+2);omega
 split
 ·have:=(enc_length 39).1;show (enc 39).length+4*i<=4*(i+1);omega
 ·have h1:=piece_four (quoteL (rs.drop (i+1))).1;have h2:=quote_le _ (rs.drop (i+1)) (Nat.le_refl _);show ((quoteL (rs.drop (i+1))).1.flatMap enc).length+4*i<=4*(i+1+(quoteL (rs.drop (i+1))).2);omega
def MsgFit (m:MsgP):Prop:=∀ num i f j,m num i = .ok (f,j)->f.fit/\f.mass+44*i<=44*j
section
variable {rs:List Int}
theorem name_fit {i j:Nat} {x:Wd} (h:nameP rs i = .ok (x,j)):x.length<=16/\i<j:=by
 refine ⟨?_,nameP_inv h⟩;unfold nameP at h;split at h
 ·cases h
 next hn =>
 cases h;obtain ⟨n,hN⟩:∃ n,nameN rs i=n:=⟨_,rfl⟩;have hf:∀ k,k<n->k<16/\0<=nextL rs (i+k)/\nextL rs (i+k)<128:=fun k hk=>by
  have:=runN_fits (F:=nameF) (rs:=rs) (i:=i) (k:=k) (by rw [show runN nameF rs i=nameN rs i from rfl,hN];exact hk);simp only [nameF,letterL,digitL,Bool.and_eq_true,Bool.or_eq_true,decide_eq_true_eq,beq_iff_eq] at this;omega
 rw [hN] at hn ⊢;have h16:n<=16:=by
  have:=(hf (n - 1) (by omega)).1;omega
 have hin:∀ k,k<n->i+k<rs.length:=fun k hk=>by
  refine Nat.lt_of_not_le (fun hle=>?_);have:=(hf k hk).2.1;rw [next_end hle] at this;omega
 have hall:∀ r∈(rs.drop i).take n,0<=r/\r<128:=fun r hr=>by
  obtain ⟨k,hk,rfl⟩:=List.mem_iff_getElem.1 hr;simp only [List.length_take,List.length_drop] at hk;have h1:=(hf k (by omega)).2;rw [next_at (hin k (by omega))] at h1;simpa using h1
 have h1:=low_piece _ hall;have h2:((rs.drop i).take n).length<=n:=by rw [List.length_take];exact Nat.min_le_left _ _
 unfold pieceL;omega
theorem whole_fit {i j:Nat} {x:Wd} (h:wholeP rs i = .ok (x,j)):x.length<=9/\x.all isDig=true/\x≠[]/\i<j:=by
 have h0:=wholeP_inv h;unfold wholeP at h;split at h
 ·cases h
 next hn =>
 cases h;obtain ⟨h1,h2,h3⟩:=whole_piece rs i hn;exact ⟨h1,h2,h3,h0⟩
theorem cats_eq:∀ x∈catsL,x.head?≠some 61:=by decide
theorem key_fit {num:Bool} {i j:Nat} {x:Wd} (h:keyP rs num i = .ok (x,j)):KeyW num x/\i<j:=by
 unfold keyP at h;split at h
 ·obtain ⟨a,q,h1,h2⟩:=then_inv h
  cases h2;obtain ⟨l1,l2,l3,l4⟩:=whole_fit h1;exact ⟨⟨by simp;omega,fun _ _=>⟨l3,l1,l2⟩⟩,by omega⟩
 ·obtain ⟨a,q,h1,h2⟩:=then_inv h;obtain ⟨l1,l2⟩:=name_fit h1;split at h2
  ·cases h2
  ·next hq =>
   cases h2;refine ⟨⟨by omega,fun hn he=>?_⟩,l2⟩;exact absurd he (cats_eq _ (Classical.byContradiction fun q=>hq ⟨hn,q⟩))
theorem leg_fit {msg:Option MsgP} {num:Bool} {i j:Nat} {f:Fo} (hm:∀ m,msg=some m->MsgFit m) (h:legP rs msg num i = .ok (f,j)):f.fit/\f.isLegs=true/\(∀ k∈f.keys,KeyW num k)/\f.mass+44*i<=44*j:=by
 unfold legP at h;obtain ⟨k,a,h1,h2⟩:=then_inv h;obtain ⟨u,b,h3,h4⟩:=then_inv h2;obtain ⟨hk,e1⟩:=key_fit h1;have e2:=(wantP_inv h3).2;have e3:=skipL_le rs a
 cases msg with
 | none=>cases h4
 | some m =>
  obtain ⟨g,c,h5,h6⟩:=then_inv (show (m num b).then _=_ from h4);obtain ⟨u2,z,h7,h8⟩:=then_inv h6;obtain ⟨hg,ht⟩:=hm m rfl _ _ _ _ h5;have e5:=(wantP_inv h7).2;have e6:=skipL_le rs z
  cases h8;refine ⟨⟨hg,trivial⟩,rfl,fun q hq=>?_,?_⟩
  ·simp only [Fo.keys,List.mem_singleton] at hq;subst hq;exact hk
  ·simp only [Fo.mass];omega
theorem legs_fit {msg:Option MsgP} {num:Bool} (hm:∀ m,msg=some m->MsgFit m):∀ (n:Nat) (acc:Fo) (i j:Nat) (f:Fo),legsP rs msg num n acc i = .ok (f,j)->acc.fit->acc.isLegs=true->(∀ k∈acc.keys,KeyW num k)->f.fit/\(∀ k∈f.keys,KeyW num k)/\f.mass+44*i<=acc.mass+44*j
 | 0,acc,i,j,f,h,_,_,_=>by cases h
 | n+1,acc,i,j,f,h,ha,hb,hc=>by
  rw [legsP] at h;split at h
  ·cases h;exact ⟨ha,hc,Nat.le_refl _⟩
  ·obtain ⟨g,q,h1,h2⟩:=then_inv h;obtain ⟨g1,g2,g3,g4⟩:=leg_fit hm h1;obtain ⟨k1,k2,k3⟩:=legs_fit hm n _ _ _ _ h2 (Fo.fit_app _ _ ha g1) (Fo.isLegs_app _ _ hb g2) (fun k hk=>by
    rw [Fo.keys_app _ _ hb] at hk;rcases List.mem_append.1 hk with hk | hk
    ·exact hc k hk
    ·exact g3 k hk)
   rw [Fo.mass_app] at k3;exact ⟨k1,k2,by omega⟩
theorem off_fit {form i j:Nat} {o:Wd} (h:offP rs form i = .ok (o,j)):offV o<=999999999/\i<=j:=by
 have h0:=offP_le h;refine ⟨?_,h0⟩;unfold offP at h;split at h
 ·obtain ⟨a,q,h1,h2⟩:=then_inv h
  cases h2;obtain ⟨l1,l2,l3,l4⟩:=whole_fit h1;exact off_nine l1 l2
 ·cases h;decide
theorem arg_fit {msg:Option MsgP} {i j:Nat} {f:Fo} (hm:∀ m,msg=some m->MsgFit m) (h:argP rs msg i = .ok (f,j)):f.fit/\f.mass+44*i<=44*j:=by
 unfold argP at h;obtain ⟨u,a,h1,h2⟩:=then_inv h;obtain ⟨nm,b,h3,h4⟩:=then_inv h2;have e1:=(wantP_inv h1).2;have e2:=skipL_le rs a;obtain ⟨hn,e3⟩:=name_fit h3;have e4:=skipL_le rs b;clear h h1 h2 h3;split at h4
 ·obtain ⟨u,z,h5,h6⟩:=then_inv h4;have:=(wantP_inv h5).2
  cases h6;exact ⟨⟨hn,trivial⟩,by simp only [Fo.mass];omega⟩
 ·obtain ⟨wd,c,h5,h6⟩:=then_inv h4;have e5:=nameP_inv h5;have e6:=skipL_le rs (skipL rs b+1);have e7:=skipL_le rs c;clear h4 h5;split at h6
  ·obtain ⟨u,z,h7,h8⟩:=then_inv h6;have:=(wantP_inv h7).2
   cases h8;exact ⟨⟨hn,trivial⟩,by simp only [Fo.mass];omega⟩
  ·split at h6
   ·cases h6
   ·next form hform =>
    obtain ⟨u,d,h7,h8⟩:=then_inv h6;obtain ⟨o,l,h9,h10⟩:=then_inv h8;obtain ⟨bs,q,h11,h12⟩:=then_inv h10;obtain ⟨u,z,h13,h14⟩:=then_inv h12;have:=(wantP_inv h7).2;have:=skipL_le rs d;obtain ⟨ho,_⟩:=off_fit h9;obtain ⟨b1,b2,b3⟩:=legs_fit hm _ _ _ _ _ h11 trivial rfl (fun k hk=>by cases hk);have e9:=(wantP_inv h13).2;have hfo:=formL_lt hform
    cases h14;refine ⟨⟨hn,hfo,ho,b2,b1,trivial⟩,?_⟩;simp only [Fo.mass] at b3 ⊢;omega
theorem msg_fit {msg:Option MsgP} {num:Bool} (hm:∀ m,msg=some m->MsgFit m):∀ (n:Nat) (acc:Fo) (i j:Nat) (f:Fo),msgGo rs msg num n acc i = .ok (f,j)->acc.fit->f.fit/\f.mass+44*i<=acc.mass+44*j
 | 0,acc,i,j,f,h,_=>by cases h
 | n+1,acc,i,j,f,h,ha=>by
  rw [msgGo] at h;split at h
  ·cases h;exact ⟨ha,Nat.le_refl _⟩
  split at h
  ·obtain ⟨g,q,h1,h2⟩:=then_inv h;obtain ⟨g1,g2⟩:=arg_fit hm h1;obtain ⟨k1,k2⟩:=msg_fit hm n _ _ _ _ h2 (Fo.fit_app _ _ ha g1);rw [Fo.mass_app] at k2;exact ⟨k1,by omega⟩
  split at h
  ·obtain ⟨k1,k2⟩:=msg_fit hm n _ _ _ _ h (Fo.fit_app _ _ ha trivial);rw [Fo.mass_app] at k2;simp only [Fo.mass] at k2;exact ⟨k1,by omega⟩
  ·obtain ⟨t1,t2⟩:=Fo.fit_addText ha (textT rs num i).1;obtain ⟨k1,k2⟩:=msg_fit hm n _ _ _ _ h t1;have h4:=text_four rs num i;have h5:=textT_lt rs num i;exact ⟨k1,by omega⟩
theorem msgs_fit:∀ n,MsgFit (msgP rs n)
 | 0,num,i,f,j,h=>by
  rw [msgP] at h;simpa [Fo.mass] using msg_fit (fun m e=>by cases e) _ _ _ _ _ h trivial
 | n+1,num,i,f,j,h=>by
  rw [msgP] at h;simpa [Fo.mass] using msg_fit (fun m e=>by cases e;exact msgs_fit n) _ _ _ _ _ h trivial
end
theorem read_cok {l:List UInt8} {f:Fo} (h:parseR l = .ok f) (hc:chkL f=none):f.cok/\f.cw<=44000:=by
 have hg:=parseR_good h;unfold parseR at h;split at h
 ·cases h
 split at h
 ·cases h
 next h1 _ =>
 have hrs:=runes_len l;have hr:(runesL l).length<=1000:=by omega
 cases hp:parseL (runesL l) with
 | error e=>rw [hp] at h;cases h
 | ok x =>
  rw [hp] at h
  cases h;unfold parseL at hp;obtain ⟨g,q,h2,h3⟩:=then_inv (show _=Except.ok (x.1,x.2) from hp);obtain ⟨hf,hm⟩:=msgs_fit 5 _ _ _ _ h2;have he:q<=(runesL l).length:=msgGo_end _ _ _ _ _ h2 (Nat.zero_le _);split at h3
  ·cases h3;have:=Fo.cw_mass x.1;exact ⟨Fo.fit_cok _ hf hg.wf (by omega) (once_chk hc),by omega⟩
  ·cases h3
end Go.Proofs.YthpldolmpinnhaaGreatDoor
