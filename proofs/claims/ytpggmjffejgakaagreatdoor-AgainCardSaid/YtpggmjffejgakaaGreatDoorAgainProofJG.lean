/-
  PROVED: the law Again: the one form of a pattern's one form is the same, its program has the same bytes, what is loaded of them says the same of whatever arguments (a pattern over 8192 bytes, more than 60 arguments or one over 8192 bytes is not looked at); so the law returns true; each argument reads afterwards as it did.
  Conditions: none beyond the row's own (the listed variables read as the program's text lays them: the given tie; each string and slice that is met takes at most 2^47 - 4096 bytes: the form's own reach).
-/
import Derived.Test.YtpggmjffejgakaaGreatDoorJG8
import Derived.ShutString
import Derived.Carry
open Array renaming toList_inj->xu0
open Bool renaming and_eq_true->zx
open Go renaming Calls->zC,Program->VI,TypeId->xm,World->z8,joinedFacts->yd0,laidMetH->fB,reachBytes->xu8,trodAll_cons_mk->TK
open Go.OpenSpec renaming ofChange->jG
open Option.some renaming inj->zL
open Go.Value renaming okWide->vz9
open Go.Proofs.Tryz
namespace Go.Proofs.YtpggmjffejgakaaGreatDoor.again
open Go.ChangeShapes Go.WideShapes Go.ChangeAt Go.RowKit
open Go.ChangeMaps (open_string shut_string)
set_option maxRecDepth 100000 in
theorem contract(H:Type)(enc:xm×Value->H)(W:z8)(base:Nat)(args:Array Value)(ds gs:List (DataW H))(before:List MemPlace)
  (hval:∀(j:Nat) t v,Tryz.f3.params[j]? = some t->args[j]? = some v->vz9 prog W .any base t v)
  (hW:DataW.Whole enc prog Tryz.f3.params.toList Rows.againSpec.vars false W args.toList ds gs before) (hwt:(DataW.weightsEach prog (Tryz.f3.params.toList++(jG Rows.againSpec).bare.plain.varTypes prog) (ds++gs)).all (· ≤ xu8)=true) (hL:fB prog listed W) (hSh:W.ShapedOpen prog) :
  zC prog 3 args W λe W'=>∃v,e = .returned v/\Rows.againSpec.post enc prog Tryz.f3 false true false false W args v W':=by
 have hW':=hW;obtain⟨p,q,hA0,hV,rfl,hfz,Fm⟩:=hW;have hA:DataW.TrodAll enc prog W 0 (λ_=>true) true Tryz.f3.params.toList args.toList ds p:=hA0;rw[Tryz.params3]at hA hval hwt;obtain⟨v0,vs0,d0,ds0,p0,q0,xrk,rfl,rfl,h0,r0⟩:=trodAll_cons hA;obtain⟨v1,vs1,d1,ds1,p1,q1,rfl,rfl,rfl,h1,r1⟩:=trodAll_cons r0;obtain⟨rfl,rfl,rfl⟩:=trodAll_nil r1;obtain rfl:args=#[v0,v1]:=xu0.1 xrk;obtain⟨rfl,rfl⟩:=trodVars_none hV;obtain⟨a,n,c,ws,rfl,PH,DQ,pN,Dp,XC⟩:=wy (j:=1) (.inr ⟨_,hval 1 22 v1 rfl rfl⟩) h1 hwt rfl rfl;obtain⟨s,rfl,rfl,rfl,w0⟩:=open_string underlying9 (hval 0 9 v0 rfl rfl) h0;have m0:=w0;unfold maxLen at m0;clear hA0;refine(tS s ws a n c W (by omega) DQ (by omega) PH (λt ht=>by have:=Dp t ht;omega) (yf1 hL) (xvv hL hSh)).mono λe W' ⟨he,hb⟩=>?_
 subst he;refine⟨_,rfl,_,_,_,[],[]++(p1++[]),[],hW',?_,?_,?_,hb.frame _,λh=>by cases h⟩
 .exact TK (shut_bool underlying4 _) trodAll_mk0
 .exact TK (shut_string underlying9 w0) (TK (hb.trod (t:=22) (by kernel_rfl) (by kernel_rfl) (of_decide_eq_true (by kernel_rfl)) h1 XC) trodAll_mk0)
 .rfl
theorem reads(os:Os){H:Type}(enc:xm×Value->H):∃places,DataW.whole enc prog ((Fx os).forCall (λ_ _=>0) ⟨#[],#[.string ⟨#[]⟩,.slice none 0 0],[]⟩).memory Tryz.f3.params.toList Rows.againSpec.vars false
   #[.string ⟨#[]⟩,.slice none 0 0].toList 8=some ([.lit (.string []),.nil],[],places) :=
 ⟨[],by kernel_rfl⟩
set_option maxRecDepth 100000 in
theorem lifted(os:Os)(started:os.Started)(H:Type)(enc:xm×Value->H)(F:Stop.Interp) :
  ReturnsInHanded {} Tryz.checked os 3 .any ((jG Rows.againSpec).preRow enc prog Tryz.f3 Rows.againRow.domain false Rows.againRow.laid) (((jG Rows.againSpec).at F).post enc prog Tryz.f3 false true false false):=by
 obtain⟨places,hx⟩:=reads os enc;refine returnsInHanded_of_row (C:=Tryz.checked) (s:=jG Rows.againSpec) own started (by kernel_rfl) func3
  (witness_row_atRef (enc:=enc) (C:=Tryz.checked) false (Fx os) #[.string ⟨#[]⟩,.slice none 0 0] rfl (by kernel_rfl) (by kernel_rfl) (by kernel_rfl)
   (OpenSpec.preRow_of_cond 8 hx (by kernel_rfl) (λk hk=>by cases hk) (by kernel_rfl) (zpj os _))) ?_
 intro W base args ds gs before hval hW _ _ hwt hL hSh _;exact contract H enc W base args ds gs before hval hW hwt hL hSh
theorem named:Tryz.pinned.checked.prog.funcNamed Rows.againRow.func=some 3:=by kernel_rfl
theorem wx{P:VI}{f:FuncId}{fn:Func}{s:ChangeSpec}{c:OpenClaim}(h1:(c.inPlace==P.inPlace f)=true)(h2:(c.unfollowed==P.unfollowed f)=true)(h3:(c.recurses==P.recurses f)=true)(h4:(c.named==P.varsNamed f)=true)(h5:(c.wf (jG s) && laidOutB P && mapsRowed P && fn.params.all (P.readableRec ·) && namedTie P c.named s.vars)=true)
  (h6:((c.stops==[]) && (P.stops==[]) && (c.knobs==[]) && (P.stopKnobs==[]) &&
   (c.maps==(fn.params.toList++s.plain.varTypes P).any (P.mapsRec ·)) && (c.ifaces==(fn.params.toList++s.plain.varTypes P).any (P.ifacesRec ·)) && (c.mapsOut==P.mapsAmong fn.resultTypes.toList) &&
   (c.loops==(fn.params.toList++s.plain.varTypes P).any (P.loopsFrom ·)) && (c.wideKeys==(fn.params.toList++s.plain.varTypes P++fn.resultTypes.toList).any (P.wideKeysFrom ·)) &&
   s.vars.all (P.varReadable ·) && fn.resultTypes.all (λt=>P.readableRec t && decide (t<P.types.size)) && (c.ifacesOut==fn.resultTypes.toList.any (P.ifacesRec ·)) && (c.loopsOut==fn.resultTypes.toList.any (P.loopsFrom ·)) && (c.plainKeys==P.plainKeys) && c.shortTexts.isNone)=true)
  (h7:(P.stopsHeard && P.mayEnter && (c.lifted==P.liftsFinal) && (P.make==some c.make) && (c.kinds==(if c.domain.isEmpty then []else fn.params.toList.map λt=>match P.underlying t with|some (.int k)=>some k|_=>none)) && (c.pinned==c.pinnedBy) &&
   (c.veiled==(fn.params.toList++s.plain.varTypes P++fn.resultTypes.toList).any (P.veiledRec ·)) && c.veiledFits P fn.params.toList (fn.params.toList++s.plain.varTypes P++fn.resultTypes.toList))=true):yd0 P f fn s c=true:=by
 simp only[zx]at h5 h6 h7;simp only[yd0,zx];simp only[h1,h2,h3,h4,h5,h6,h7,and_self];exact⟨⟨⟨⟨trivial,h7.1.1.1.2⟩,trivial⟩,trivial⟩,trivial⟩
theorem yf2:(Rows.againRow.inPlace==Tryz.pinned.checked.prog.inPlace 3)=true:=by kernel_rfl
theorem yf3:(Rows.againRow.unfollowed==Tryz.pinned.checked.prog.unfollowed 3)=true:=by kernel_rfl
theorem yf4:(Rows.againRow.recurses==Tryz.pinned.checked.prog.recurses 3)=true:=by kernel_rfl
theorem yf5:(Rows.againRow.named==Tryz.pinned.checked.prog.varsNamed 3)=true:=by kernel_rfl
theorem Wh:yd0 Tryz.pinned.checked.prog 3 Tryz.f3 (jG Rows.againSpec).bare Rows.againRow=true:=wx yf2 yf3 yf4 yf5 (by kernel_rfl) (by kernel_rfl) (by kernel_rfl)
theorem wu:decide (Func.isInstance Tryz.pinned.checked.prog Tryz.f3 Rows.againRow.origin Rows.againRow.targs)=true:=by kernel_rfl
theorem said:Rows.AgainSaid :=
 OpenClaim.holds_of_cond 3 Tryz.f3 rfl rfl rfl rfl rfl rfl rfl ⟨rfl,rfl,rfl,rfl,rfl⟩ rfl rfl rfl rfl rfl named func3 Wh
  (of_decide_eq_true wu) (by unfold Func.isWrapper;first|(rw[if_pos (by decide +kernel)];kernel_rfl)|(rw[if_neg (by decide +kernel)];exact⟨rfl,rfl⟩))
  (λos started H enc _ F=>by rw[OpenClaim.pre_eq_preRow];exact lifted os started H enc F)
theorem plain(f:FuncId)(fn:Func)(hf:Tryz.pinned.checked.prog.funcNamed "phrases/phraseskeep.Again" = some f)(hfn:Tryz.pinned.checked.prog.funcs[f]? = some fn) :
  true=Tryz.pinned.checked.prog.looks []/\∀(j:Nat) t,fn.params[j]? = some t->Tryz.pinned.checked.prog.wantsStandIn t=false:=by
 obtain rfl:f=3:=zL ((show prog.funcNamed "phrases/phraseskeep.Again" = some 3 by kernel_rfl).symm.trans hf) |>.symm;obtain rfl:fn=Tryz.f3:=(zL (func3.symm.trans hfn)).symm;refine⟨by kernel_rfl,λj t ht=>?_⟩;rw[Tryz.params3]at ht;have h:t=9\/t=22:=by
  rcases j with _|_|j
  .exact .inl (by simpa using ht.symm)
  .exact .inr (by simpa using ht.symm)
  .simp at ht
 rcases h with rfl|rfl
 .exact(show prog.wantsStandIn 9=false by kernel_rfl)
 .exact(show prog.wantsStandIn 22=false by kernel_rfl)
theorem proved:Rows.AgainCardSaid :=
 Claim7.holds_tied_plain_at .later [] _ _ _ _ said (λ_ h=>by cases h) (by kernel_rfl) (λ_ h=>by cases h) again_row_tie rfl ⟨rfl,rfl⟩ (by kernel_rfl) rfl plain (by kernel_rfl)
#print axioms proved
end Go.Proofs.YtpggmjffejgakaaGreatDoor.again
