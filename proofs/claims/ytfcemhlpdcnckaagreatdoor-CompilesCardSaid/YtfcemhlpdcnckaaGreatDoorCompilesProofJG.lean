/-
  PROVED: the law Compiles: for every text, lists of rules, signs, numbers of groups and digits, the program's Compile answers as the document's reader does (the locale, the fault and its place), with a program where there is no fault; so the law returns true; each argument reads afterwards as it did.
  Conditions: none beyond the row's own (the listed variables read as the program's text lays them: the given tie; each string and slice that is met takes at most 2^47 - 4096 bytes: the form's own reach).
-/
import Derived.Test.YtfcemhlpdcnckaaGreatDoorJG12
import Derived.ShutString
import Derived.Carry
open Array renaming toList_inj->zej
open Bool renaming and_eq_true->zQ
open Go renaming Calls->zE,Program->Me,TypeId->uP,Value->zx,World->z7,joinedFacts->zef,laidMetH->Yf,reachBytes->ykz,trodAll_cons_mk->kI
open Go.OpenSpec renaming ofChange->jb
open Option.some renaming inj->zR
open Go.Value renaming okWide->WE
open Go.Proofs.Tryz
namespace Go.Proofs.YtfcemhlpdcnckaaGreatDoor.compiles
open Go.ChangeShapes Go.WideShapes Go.ChangeAt Go.RowKit
open Go.ChangeMaps (open_string shut_string)
set_option maxRecDepth 100000 in
theorem contract(H:Type)(enc:uP×zx->H)(W:z7)(base:Nat)(args:Array zx)(ds gs:List (DataW H))(before:List MemPlace)
  (hval:∀(j:Nat) t v,Tryz.f3.params[j]? = some t->args[j]? = some v->WE prog W .any base t v)
  (hW:DataW.Whole enc prog Tryz.f3.params.toList Rows.compilesSpec.vars false W args.toList ds gs before) (hwt:(DataW.weightsEach prog (Tryz.f3.params.toList++(jb Rows.compilesSpec).bare.plain.varTypes prog) (ds++gs)).all (· ≤ ykz)=true) (hL:Yf prog listed W) (hSh:W.ShapedOpen prog) :
  zE prog 3 args W λe W'=>∃v,e = .returned v/\Rows.compilesSpec.post enc prog Tryz.f3 false true false false W args v W':=by
 have hW':=hW;obtain⟨p,q,hA0,hV,rfl,hfz,Cy⟩:=hW;have hA:DataW.TrodAll enc prog W 0 (λ_=>true) true Tryz.f3.params.toList args.toList ds p:=hA0;rw[Tryz.params3]at hA hval hwt;obtain⟨v0,vs0,d0,ds0,p0,q0,yp8,rfl,rfl,h0,r0⟩:=trodAll_cons hA;obtain⟨v1,vs1,d1,ds1,p1,q1,rfl,rfl,rfl,h1,r1⟩:=trodAll_cons r0;obtain⟨v2,vs2,d2,ds2,p2,q2,rfl,rfl,rfl,h2,r2⟩:=trodAll_cons r1;obtain⟨v3,vs3,d3,ds3,p3,q3,rfl,rfl,rfl,h3,r3⟩:=trodAll_cons r2;obtain⟨v4,vs4,d4,ds4,p4,q4,rfl,rfl,rfl,h4,r4⟩:=trodAll_cons r3;obtain⟨v5,vs5,d5,ds5,p5,q5,rfl,rfl,rfl,h5,r5⟩:=trodAll_cons r4;obtain⟨v6,vs6,d6,ds6,p6,q6,rfl,rfl,rfl,h6,r6⟩:=trodAll_cons r5;obtain⟨rfl,rfl,rfl⟩:=trodAll_nil r6;obtain rfl:args=#[v0,v1,v2,v3,v4,v5,v6]:=zej.1 yp8;obtain⟨rfl,rfl⟩:=trodVars_none hV;obtain⟨xs3,sg3,tr3⟩:=WK (hval 3 23 v3 rfl rfl) h3;obtain⟨ws1,la1,lb1,lc1,lp1⟩:=Ho (j:=1) (.inr ⟨_,hval 1 22 v1 rfl rfl⟩) h1 hwt rfl rfl;obtain⟨ws2,la2,lb2,lc2,lp2⟩:=Ho (j:=2) (.inr ⟨_,hval 2 22 v2 rfl rfl⟩) h2 hwt rfl rfl;obtain⟨s0,rfl,rfl,rfl,w0⟩:=open_string underlying9 (hval 0 9 v0 rfl rfl) h0;have m0:=w0;unfold maxLen at m0;obtain⟨s6,rfl,rfl,rfl,w6⟩:=open_string underlying9 (hval 6 9 v6 rfl rfl) h6;have m6:=w6;unfold maxLen at m6;obtain⟨f4,rfl,rfl,rfl,w4⟩:=open_int underlying3 (hval 4 3 v4 rfl rfl) h4;obtain⟨f5,rfl,rfl,rfl,w5⟩:=open_int underlying3 (hval 5 3 v5 rfl rfl) h5;clear hA0;refine(ME s0 v1 ws1 v2 ws2 v3 xs3 f4 f5 s6 W la1 lb1 lc1 la2 lb2 lc2 sg3 (yk1 hL)).mono λe W' ⟨he,hb⟩=>?_
 subst he;refine⟨_,rfl,_,_,_,[],[]++(p1++(p2++(p3++([]++([]++([]++[])))))),[],hW',?_,?_,?_,hb.frame _,λh=>by cases h⟩
 .exact kI (shut_bool underlying4 _) trodAll_mk0
 .exact kI (shut_string underlying9 w0) (kI (hb.trod (t:=22) (by kernel_rfl) (by kernel_rfl) (of_decide_eq_true (by kernel_rfl)) h1 lp1) (kI (hb.trod (t:=22) (by kernel_rfl) (by kernel_rfl) (of_decide_eq_true (by kernel_rfl)) h2 lp2) (kI (tr3 W' hb) (kI (shut_int underlying3 w4) (kI (shut_int underlying3 w5) (kI (shut_string underlying9 w6) trodAll_mk0))))))
 .rfl
theorem reads(os:Os){H:Type}(enc:uP×zx->H):∃places,DataW.whole enc prog ((Gk os).forCall (λ_ _=>0) ⟨#[],#[.string ⟨#[]⟩,.slice none 0 0,.slice none 0 0,.slice none 0 0,.int .i64 0,.int .i64 0,.string ⟨#[]⟩],[]⟩).memory Tryz.f3.params.toList Rows.compilesSpec.vars false
   #[.string ⟨#[]⟩,.slice none 0 0,.slice none 0 0,.slice none 0 0,.int .i64 0,.int .i64 0,.string ⟨#[]⟩].toList 8=some ([.lit (.string []),.nil,.nil,.nil,.lit (.int .i64 0),.lit (.int .i64 0),.lit (.string [])],[],places) :=
 ⟨[],by kernel_rfl⟩
set_option maxRecDepth 100000 in
theorem lifted(os:Os)(started:os.Started)(H:Type)(enc:uP×zx->H)(F:Stop.Interp) :
  ReturnsInHanded {} Tryz.checked os 3 .any ((jb Rows.compilesSpec).preRow enc prog Tryz.f3 Rows.compilesRow.domain false Rows.compilesRow.laid) (((jb Rows.compilesSpec).at F).post enc prog Tryz.f3 false true false false):=by
 obtain⟨places,hx⟩:=reads os enc;refine returnsInHanded_of_row (C:=Tryz.checked) (s:=jb Rows.compilesSpec) own started (by kernel_rfl) func3
  (witness_row_atRef (enc:=enc) (C:=Tryz.checked) false (Gk os) #[.string ⟨#[]⟩,.slice none 0 0,.slice none 0 0,.slice none 0 0,.int .i64 0,.int .i64 0,.string ⟨#[]⟩] rfl (by kernel_rfl) (by kernel_rfl) (by kernel_rfl)
   (OpenSpec.preRow_of_cond 8 hx (by kernel_rfl) (λk hk=>by cases hk) (by kernel_rfl) (zu8 os _))) ?_
 intro W base args ds gs before hval hW _ _ hwt hL hSh _;exact contract H enc W base args ds gs before hval hW hwt hL hSh
theorem named:Tryz.pinned.checked.prog.funcNamed Rows.compilesRow.func=some 3:=by kernel_rfl
theorem iW{P:Me}{f:FuncId}{fn:Func}{s:ChangeSpec}{c:OpenClaim}(h1:(c.inPlace==P.inPlace f)=true)(h2:(c.unfollowed==P.unfollowed f)=true)(h3:(c.recurses==P.recurses f)=true)(h4:(c.named==P.varsNamed f)=true)(h5:(c.wf (jb s) && laidOutB P && mapsRowed P && fn.params.all (P.readableRec ·) && namedTie P c.named s.vars)=true)
  (h6:((c.stops==[]) && (P.stops==[]) && (c.knobs==[]) && (P.stopKnobs==[]) &&
   (c.maps==(fn.params.toList++s.plain.varTypes P).any (P.mapsRec ·)) && (c.ifaces==(fn.params.toList++s.plain.varTypes P).any (P.ifacesRec ·)) && (c.mapsOut==P.mapsAmong fn.resultTypes.toList) &&
   (c.loops==(fn.params.toList++s.plain.varTypes P).any (P.loopsFrom ·)) && (c.wideKeys==(fn.params.toList++s.plain.varTypes P++fn.resultTypes.toList).any (P.wideKeysFrom ·)) &&
   s.vars.all (P.varReadable ·) && fn.resultTypes.all (λt=>P.readableRec t && decide (t<P.types.size)) && (c.ifacesOut==fn.resultTypes.toList.any (P.ifacesRec ·)) && (c.loopsOut==fn.resultTypes.toList.any (P.loopsFrom ·)) && (c.plainKeys==P.plainKeys) && c.shortTexts.isNone)=true)
  (h7:(P.stopsHeard && P.mayEnter && (c.lifted==P.liftsFinal) && (P.make==some c.make) && (c.kinds==(if c.domain.isEmpty then []else fn.params.toList.map λt=>match P.underlying t with|some (.int k)=>some k|_=>none)) && (c.pinned==c.pinnedBy) &&
   (c.veiled==(fn.params.toList++s.plain.varTypes P++fn.resultTypes.toList).any (P.veiledRec ·)) && c.veiledFits P fn.params.toList (fn.params.toList++s.plain.varTypes P++fn.resultTypes.toList))=true):zef P f fn s c=true:=by
 simp only[zQ]at h5 h6 h7;simp only[zef,zQ];simp only[h1,h2,h3,h4,h5,h6,h7,and_self];exact⟨⟨⟨⟨trivial,h7.1.1.1.2⟩,trivial⟩,trivial⟩,trivial⟩
theorem ze2:(Rows.compilesRow.inPlace==Tryz.pinned.checked.prog.inPlace 3)=true:=by kernel_rfl
theorem ze3:(Rows.compilesRow.unfollowed==Tryz.pinned.checked.prog.unfollowed 3)=true:=by kernel_rfl
theorem ze4:(Rows.compilesRow.recurses==Tryz.pinned.checked.prog.recurses 3)=true:=by kernel_rfl
theorem ze5:(Rows.compilesRow.named==Tryz.pinned.checked.prog.varsNamed 3)=true:=by kernel_rfl
theorem RP:zef Tryz.pinned.checked.prog 3 Tryz.f3 (jb Rows.compilesSpec).bare Rows.compilesRow=true:=iW ze2 ze3 ze4 ze5 (by kernel_rfl) (by kernel_rfl) (by kernel_rfl)
theorem iA:decide (Func.isInstance Tryz.pinned.checked.prog Tryz.f3 Rows.compilesRow.origin Rows.compilesRow.targs)=true:=by kernel_rfl
theorem said:Rows.CompilesSaid :=
 OpenClaim.holds_of_cond 3 Tryz.f3 rfl rfl rfl rfl rfl rfl rfl ⟨rfl,rfl,rfl,rfl,rfl⟩ rfl rfl rfl rfl rfl named func3 RP
  (of_decide_eq_true iA) (by unfold Func.isWrapper;first|(rw[if_pos (by decide +kernel)];kernel_rfl)|(rw[if_neg (by decide +kernel)];exact⟨rfl,rfl⟩))
  (λos started H enc _ F=>by rw[OpenClaim.pre_eq_preRow];exact lifted os started H enc F)
theorem plain(f:FuncId)(fn:Func)(hf:Tryz.pinned.checked.prog.funcNamed "phrases/phraseslaw.Compiles" = some f)(hfn:Tryz.pinned.checked.prog.funcs[f]? = some fn) :
  true=Tryz.pinned.checked.prog.looks []/\∀(j:Nat) t,fn.params[j]? = some t->Tryz.pinned.checked.prog.wantsStandIn t=false:=by
 obtain rfl:f=3:=zR ((show prog.funcNamed "phrases/phraseslaw.Compiles" = some 3 by kernel_rfl).symm.trans hf) |>.symm;obtain rfl:fn=Tryz.f3:=(zR (func3.symm.trans hfn)).symm;refine⟨by kernel_rfl,λj t ht=>?_⟩;rw[Tryz.params3]at ht;have h:t=9\/t=22\/t=3\/t=23:=by
  rcases j with _|_|_|_|_|_|_|j
  .exact .inl (by simpa using ht.symm)
  .exact .inr (.inl (by simpa using ht.symm))
  .exact .inr (.inl (by simpa using ht.symm))
  .exact .inr (.inr (.inr (by simpa using ht.symm)))
  .exact .inr (.inr (.inl (by simpa using ht.symm)))
  .exact .inr (.inr (.inl (by simpa using ht.symm)))
  .exact .inl (by simpa using ht.symm)
  .simp at ht
 rcases h with rfl|rfl|rfl|rfl
 .exact(show prog.wantsStandIn 9=false by kernel_rfl)
 .exact(show prog.wantsStandIn 22=false by kernel_rfl)
 .exact(show prog.wantsStandIn 3=false by kernel_rfl)
 .exact(show prog.wantsStandIn 23=false by kernel_rfl)
theorem proved:Rows.CompilesCardSaid :=
 Claim7.holds_tied_plain_at .later [] _ _ _ _ said (λ_ h=>by cases h) (by kernel_rfl) (λ_ h=>by cases h) compiles_row_tie rfl ⟨rfl,rfl⟩ (by kernel_rfl) rfl plain (by kernel_rfl)
#print axioms proved
end Go.Proofs.YtfcemhlpdcnckaaGreatDoor.compiles
