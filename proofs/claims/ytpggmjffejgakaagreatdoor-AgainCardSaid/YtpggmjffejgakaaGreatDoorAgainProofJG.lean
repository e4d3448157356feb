/-
  PROVED: the law Again: the one form of a pattern's one form is the same, its program has the same bytes, what is loaded of them says the same of whatever arguments (a pattern over 8192 bytes, more than 60 arguments or one over 8192 bytes is not looked at); so the law returns true; each argument reads afterwards as it did.
  Conditions: none beyond the row's own (the listed variables read as the program's text lays them: the given tie; each string and slice that is met takes at most 2^47 - 4096 bytes: the form's own reach).
-/
import Derived.Test.YtpggmjffejgakaaGreatDoorJG7
import Derived.ShutString
import Derived.Carry
open Array renaming toList_inj->xu2
open Bool renaming and_eq_true->zv
open Go renaming Calls->zE,DataW->ib,Program->Gz,TypeId->xM,Value->zx,World->z8,joinedFacts->yfb,laidMetH->fH,maxLen->vp,reachBytes->xu9,trodAll_cons_mk->TH
open Go.OpenSpec renaming ofChange->jB
open Option.some renaming inj->zL
open Go.Value renaming okWide->vzy
open Go.Proofs.Tryz
namespace Go.Proofs.YtpggmjffejgakaaGreatDoor.again
open Go.ChangeShapes Go.WideShapes Go.ChangeAt Go.RowKit
open Go.ChangeMaps (open_string shut_string)
set_option maxRecDepth 100000 in
theorem contract(H:Type)(enc:xM×zx->H)(W:z8)(base:Nat)(args:Array zx)(ds gs:List (ib H))(before:List MemPlace)
  (hval:∀(j:Nat) t v,Tryz.f3.params[j]? = some t->args[j]? = some v->vzy prog W .any base t v)
  (hW:DataW.Whole enc prog Tryz.f3.params.toList Rows.againSpec.vars false W args.toList ds gs before) (hwt:(DataW.weightsEach prog (Tryz.f3.params.toList++(jB Rows.againSpec).bare.plain.varTypes prog) (ds++gs)).all (· ≤ xu9)=true) (hL:fH prog listed W) (hSh:W.ShapedOpen prog) :
  zE prog 3 args W λe W'=>∃v,e = .returned v/\Rows.againSpec.post enc prog Tryz.f3 false true false false W args v W':=by
 have hW':=hW;obtain⟨p,q,hA0,hV,rfl,hfz,D9⟩:=hW;have hA:DataW.TrodAll enc prog W 0 (λ_=>true) true Tryz.f3.params.toList args.toList ds p:=hA0;rw[Tryz.params3]at hA hval hwt;obtain⟨v0,vs0,d0,ds0,p0,q0,xrj,rfl,rfl,h0,r0⟩:=trodAll_cons hA;obtain⟨v1,vs1,d1,ds1,p1,q1,rfl,rfl,rfl,h1,r1⟩:=trodAll_cons r0;obtain⟨rfl,rfl,rfl⟩:=trodAll_nil r1;obtain rfl:args=#[v0,v1]:=xu2.1 xrj;obtain⟨rfl,rfl⟩:=trodVars_none hV;obtain⟨a,n,c,ws,rfl,PM,DN,pT,B8,XP⟩:=wg (j:=1) (.inr ⟨_,hval 1 22 v1 rfl rfl⟩) h1 hwt rfl rfl;obtain⟨s,rfl,rfl,rfl,w0⟩:=open_string underlying9 (hval 0 9 v0 rfl rfl) h0;have m0:=w0;unfold vp at m0;clear hA0;refine(wz s ws a n c W (by omega) DN (by omega) PM (λt ht=>by have:=B8 t ht;omega) (yf3 hL) (xvv hL hSh)).mono λe W' ⟨he,hb⟩=>?_
 subst he;refine⟨_,rfl,_,_,_,[],[]++(p1++[]),[],hW',?_,?_,?_,hb.frame _,λh=>by cases h⟩
 .exact TH (shut_bool underlying4 _) trodAll_mk0
 .exact TH (shut_string underlying9 w0) (TH (hb.trod (t:=22) (by kernel_rfl) (by kernel_rfl) (of_decide_eq_true (by kernel_rfl)) h1 XP) trodAll_mk0)
 .rfl
theorem reads(os:Os){H:Type}(enc:xM×zx->H):∃places,DataW.whole enc prog ((FU os).forCall (λ_ _=>0) ⟨#[],#[.string ⟨#[]⟩,.slice none 0 0],[]⟩).memory Tryz.f3.params.toList Rows.againSpec.vars false
   #[.string ⟨#[]⟩,.slice none 0 0].toList 8=some ([.lit (.string []),.nil],[],places) :=
 ⟨[],by kernel_rfl⟩
set_option maxRecDepth 100000 in
theorem lifted(os:Os)(started:os.Started)(H:Type)(enc:xM×zx->H)(F:Stop.Interp) :
  ReturnsInHanded {} Tryz.checked os 3 .any ((jB Rows.againSpec).preRow enc prog Tryz.f3 Rows.againRow.domain false Rows.againRow.laid) (((jB Rows.againSpec).at F).post enc prog Tryz.f3 false true false false):=by
 obtain⟨places,hx⟩:=reads os enc;refine returnsInHanded_of_row (C:=Tryz.checked) (s:=jB Rows.againSpec) own started (by kernel_rfl) func3
  (witness_row_atRef (enc:=enc) (C:=Tryz.checked) false (FU os) #[.string ⟨#[]⟩,.slice none 0 0] rfl (by kernel_rfl) (by kernel_rfl) (by kernel_rfl)
   (OpenSpec.preRow_of_cond 8 hx (by kernel_rfl) (λk hk=>by cases hk) (by kernel_rfl) (zpb os _))) ?_
 intro W base args ds gs before hval hW _ _ hwt hL hSh _;exact contract H enc W base args ds gs before hval hW hwt hL hSh
theorem named:Tryz.pinned.checked.prog.funcNamed Rows.againRow.func=some 3:=by kernel_rfl
theorem wb{P:Gz}{f:FuncId}{fn:Func}{s:ChangeSpec}{c:OpenClaim}(h1:(c.inPlace==P.inPlace f)=true)(h2:(c.unfollowed==P.unfollowed f)=true)(h3:(c.recurses==P.recurses f)=true)(h4:(c.named==P.varsNamed f)=true)(h5:(c.wf (jB s) && laidOutB P && mapsRowed P && fn.params.all (P.readableRec ·) && namedTie P c.named s.vars)=true)
  (h6:((c.stops==[]) && (P.stops==[]) && (c.knobs==[]) && (P.stopKnobs==[]) &&
   (c.maps==(fn.params.toList++s.plain.varTypes P).any (P.mapsRec ·)) && (c.ifaces==(fn.params.toList++s.plain.varTypes P).any (P.ifacesRec ·)) && (c.mapsOut==P.mapsAmong fn.resultTypes.toList) &&
   (c.loops==(fn.params.toList++s.plain.varTypes P).any (P.loopsFrom ·)) && (c.wideKeys==(fn.params.toList++s.plain.varTypes P++fn.resultTypes.toList).any (P.wideKeysFrom ·)) &&
   s.vars.all (P.varReadable ·) && fn.resultTypes.all (λt=>P.readableRec t && decide (t<P.types.size)) && (c.ifacesOut==fn.resultTypes.toList.any (P.ifacesRec ·)) && (c.loopsOut==fn.resultTypes.toList.any (P.loopsFrom ·)) && (c.plainKeys==P.plainKeys) && c.shortTexts.isNone)=true)
  (h7:(P.stopsHeard && P.mayEnter && (c.lifted==P.liftsFinal) && (P.make==some c.make) && (c.kinds==(if c.domain.isEmpty then []else fn.params.toList.map λt=>match P.underlying t with|some (.int k)=>some k|_=>none)) && (c.pinned==c.pinnedBy) &&
   (c.veiled==(fn.params.toList++s.plain.varTypes P++fn.resultTypes.toList).any (P.veiledRec ·)) && c.veiledFits P fn.params.toList (fn.params.toList++s.plain.varTypes P++fn.resultTypes.toList))=true):yfb P f fn s c=true:=by
 simp only[zv]at h5 h6 h7;simp only[yfb,zv];simp only[h1,h2,h3,h4,h5,h6,h7,and_self];exact⟨⟨⟨⟨trivial,h7.1.1.1.2⟩,trivial⟩,trivial⟩,trivial⟩
theorem yf4:(Rows.againRow.inPlace==Tryz.pinned.checked.prog.inPlace 3)=true:=by kernel_rfl
theorem yf5:(Rows.againRow.unfollowed==Tryz.pinned.checked.prog.unfollowed 3)=true:=by kernel_rfl
theorem yf6:(Rows.againRow.recurses==Tryz.pinned.checked.prog.recurses 3)=true:=by kernel_rfl
theorem yf7:(Rows.againRow.named==Tryz.pinned.checked.prog.varsNamed 3)=true:=by kernel_rfl
theorem A7:yfb Tryz.pinned.checked.prog 3 Tryz.f3 (jB Rows.againSpec).bare Rows.againRow=true:=wb yf4 yf5 yf6 yf7 (by kernel_rfl) (by kernel_rfl) (by kernel_rfl)
theorem wZ:decide (Func.isInstance Tryz.pinned.checked.prog Tryz.f3 Rows.againRow.origin Rows.againRow.targs)=true:=by kernel_rfl
theorem said:Rows.AgainSaid :=
 OpenClaim.holds_of_cond 3 Tryz.f3 rfl rfl rfl rfl rfl rfl rfl ⟨rfl,rfl,rfl,rfl,rfl⟩ rfl rfl rfl rfl rfl named func3 A7
  (of_decide_eq_true wZ) (by unfold Func.isWrapper;first|(rw[if_pos (by decide +kernel)];kernel_rfl)|(rw[if_neg (by decide +kernel)];exact⟨rfl,rfl⟩))
  (λos started H enc _ F=>by rw[OpenClaim.pre_eq_preRow];exact lifted os started H enc F)
theorem plain(f:FuncId)(fn:Func)(hf:Tryz.pinned.checked.prog.funcNamed "phrases/phraseskeep.Again" = some f)(hfn:Tryz.pinned.checked.prog.funcs[f]? = some fn) :
  true=Tryz.pinned.checked.prog.looks []/\∀(j:Nat) t,fn.params[j]? = some t->Tryz.pinned.checked.prog.wantsStandIn t=false:=by
 obtain rfl:f=3:=zL ((show prog.funcNamed "phrases/phraseskeep.Again" = some 3 by kernel_rfl).symm.trans hf) |>.symm;obtain rfl:fn=Tryz.f3:=(zL (func3.symm.trans hfn)).symm;refine⟨by kernel_rfl,λj t ht=>?_⟩;rw[Tryz.params3]at ht;have h:t=9\/t=22:=by
  rcases j with _|_|j
  .exact .inl (by simpa using ht.symm)
  .exact .inr (by simpa using ht.symm)
  .simp at ht
 rcases h with rfl|rfl
 .exact(show prog.wantsStandIn 9=false by kernel_rfl)
 .exact(show prog.wantsStandIn 22=false by kernel_rfl)
theorem proved:Rows.AgainCardSaid :=
 Claim7.holds_tied_plain_at .later [] _ _ _ _ said (λ_ h=>by cases h) (by kernel_rfl) (λ_ h=>by cases h) again_row_tie rfl ⟨rfl,rfl⟩ (by kernel_rfl) rfl plain (by kernel_rfl)
#print axioms proved
end Go.Proofs.YtpggmjffejgakaaGreatDoor.again
