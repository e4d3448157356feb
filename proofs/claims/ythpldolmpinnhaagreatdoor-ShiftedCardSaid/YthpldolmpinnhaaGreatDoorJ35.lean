import Derived.Test.YthpldolmpinnhaaGreatDoorJ34
namespace Go.Proofs.YthpldolmpinnhaaGreatDoor
open Go Go.RowKit
set_option maxRecDepth 10000
theorem field_less (a0 a3:Bool) (p:Addr) (n c:Nat) (k:Int) (p':Addr) (n' c':Nat) (k':Int) (w:World):(Instr.field 272 (.agg #[.bool a0,.slice (some p) n c,.int .i64 k,.bool a3,.slice (some p') n' c',.int .i64 k']) 1).run Tryz.prog w = .ok (.agg #[.bool a3,.slice (some p') n' c',.int .i64 k']) w:=by kernel_rfl
theorem field_given (a0 a3:Bool) (p:Addr) (n c:Nat) (k:Int) (p':Addr) (n' c':Nat) (k':Int) (w:World):(Instr.field 272 (.agg #[.bool a0,.slice (some p) n c,.int .i64 k,.bool a3,.slice (some p') n' c',.int .i64 k']) 0).run Tryz.prog w = .ok (.agg #[.bool a0,.slice (some p) n c,.int .i64 k]) w:=by kernel_rfl
theorem NumI.any {M:Nat->Prop} {w:World} {v:Value} {n:SNum} (h:NumI M w v n):NumI (fun _=>False) w v n:=h.fr (Fr.refl noF _) (fun _ q=>q.elim) (fun _ q=>q.elim)
theorem NumI.ok {M:Nat->Prop} {w:World} {v:Value} {n:SNum} (h:NumI M w v n):DgOk n.2:=by
 obtain ⟨_,_,_,_,_,_,_,_,_,h⟩:=h;exact h
section
variable {τ:Type} {w0 W:World} {A0 b q mb g k:Nat} {G:Nat->Prop} {s:MkS} {vC vI gv:Value} {rs:List (Value×Value)} {E:EnvF τ} {F S:τ->Nat->Prop} {Inv:τ->World->Prop} {r:RSt τ} {x:InL}
theorem tell_run (hE:EnvM w0 A0 b G q mb g s vC vI rs gv E F S Inv) (hf:Fr G G w0 W) (hR:RunAt b A0 q g gv G F S Inv r W) {nv:Value} {n:SNum} {M:Nat->Prop} (hn:NumI M W nv n) (hlen:r.out.length<=900000000) :
  Calls Tryz.prog 128 #[.pointer (some ⟨b,0,none⟩),nv] W fun e w'=>e = .returned (.tuple #[])/\RunAt b A0 q g gv G F S Inv { r with out:=r.out++E.wr n } w'/\Fr G G W w':=by
 obtain ⟨v,st,cs,hO,hst,hen,hi,hsb,hsv,hS,hA,hF⟩:=hR;have hl:=hE.wrl n hn.ok;refine (vtell_any hO hn.any (fun W' hW'=>hE.wr W' nv n (hf.trans ((Fr.of hW').wide (F:=noF) (fun _ q=>q.elim))) (hn.any.fr (Fr.of (F:=noF) hW') (fun _ q=>q.elim) (fun _ q=>q.elim))) (by omega)).mono ?_;rintro e w' ⟨he,hq⟩;exact ⟨he,RunAt.wrote hE hst hen hi hsb hsv hS hA hF hO.lt hq⟩
set_option maxHeartbeats 4000000 in
theorem step_hash (hE:EnvM w0 A0 b G q mb g s vC vI rs gv E F S Inv) (hf:Fr G G w0 W) (hR:RunAt b A0 q g gv G F S Inv r W) (hk:s.code[k]? = some x) (hop:x.op=6) {stk:List (SNum×SNum)} {tp:SNum×SNum} (hs:r.stk=stk++[tp]) (hsl:r.stk.length<=1000000) (hlen:r.out.length<=900000000) :
  Calls Tryz.prog 87 #[.pointer (some ⟨b,0,none⟩),.int .i64 (k:Nat)] W fun e w'=>e = .returned (.int .i64 ((k+1:Nat):Int))/\VmQ b A0 q g gv G F S Inv r (k+1) { r with out:=r.out++E.wr tp.2 } w'/\Fr G G W w':=by
 obtain ⟨I,ic,kv,tv,q1,lt,i0,-⟩:=(hE.prog W hf).ins hk;rw [hop] at i0;have hR':=hR;obtain ⟨v,st,cs,hO,hst,hen,hi,hsb,hsv,hS,hA,hF⟩:=hR;obtain ⟨tn,tz⟩:=tp;have hlen2:(stk++[(tn,tz)]).length=stk.length+1:=by simp
 rw [hs] at hen hst hsl;rw [hlen2] at hst hsl;obtain ⟨cs',nb,g1,o1,m1,c1,k1,zb,g2,o2,m2,c2,k2,rfl,hen',-,hz⟩:=hen.last;have HT:=Lib.hid (top_any hO nb zb g1 o1 m1 c1 k1 g2 o2 m2 c2 k2 hst hen'.len (by omega));have b0:=hO.cell.1;have hn1:=hE.n1;obtain ⟨n,hN⟩:∃ n,s.code.length=n:=⟨_,rfl⟩;rw [hN] at q1 lt hn1;have k3:(k:Int)<(n:Int):=by omega
 have hfd:=field_less;have htl:=fun (W':World) (hb:Below W.heap.size W W')=>tell_run hE (hf.trans ((Fr.of hb).wide (F:=noF) (fun _ q=>q.elim))) (hR'.quiet hE (Fr.of hb)) (hz.any.fr (Fr.of (F:=noF) hb) (fun _ q=>q.elim) (M':=fun _=>False) (fun _ q=>q.elim)) hlen
 have HTL:=Lib.hid htl;have HE:=Lib.hid hE;have HW:=Lib.hid (hE.wrl tz hz.ok);clear hE hf hk hop hO hst hen hi hsb hsv hS hA hF hs hen' hN hR' htl hsl hlen hlen2;go_enter Tryz.func87,Tryz.ntmps87
 go_wp2_with fail
 refine HT.out.mono ?_;rintro e w1 ⟨rfl,hb1⟩;have HX:=Lib.hid (HTL.out w1 hb1);have HB:=Lib.hid hb1;clear HT hb1 HTL;go_wp2_with fail
 refine HX.out.mono ?_;rintro e w2 ⟨rfl,hr,hf2⟩;have HR:=Lib.hid (And.intro hr hf2);clear hr hf2 HX;go_wp2
 go_ret
 refine ⟨by first | rfl | simp,⟨HR.out.1,by have:=HW.out;simp;omega,by simp⟩,((Fr.of HB.out).wide (F:=noF) (fun _ q=>q.elim)).trans HR.out.2⟩
end
section
variable {τ:Type} {w0 W:World} {A0 b q mb g k:Nat} {G:Nat->Prop} {s:MkS} {vC vI gv:Value} {rs:List (Value×Value)} {E:EnvF τ} {F S:τ->Nat->Prop} {Inv:τ->World->Prop} {r:RSt τ} {x:InL}
theorem RunAt.err (hE:EnvM w0 A0 b G q mb g s vC vI rs gv E F S Inv) {w w':World} (h:RunAt b A0 q g gv G F S Inv r w) {s':τ} (hq:Inv s' w'/\Fr (F r.gs) (F s') w w'/\∀ k,S s' k->S r.gs k\/w.heap.size<=k) :
  ErrQ Inv S b { r with gs:=s' } w'/\Fr G G w w':=by
 obtain ⟨h1,h2,h3⟩:=RunAt.asked hE h hq;obtain ⟨v,st,cs,hO,hst,hen,hi,hsb,hsv,hS,hA,hF⟩:=h1;exact ⟨⟨hi,fun k hk=>(hS k hk).1⟩,h2⟩
theorem conF_parts {n:Wd} (h:conF s x=some n):∃ j,x.k[0]? = some j/\s.cs[j]? = some n:=by
 unfold conF at h
 cases hx:x.k[0]? with
 | none=>rw [hx] at h;cases h
 | some j=>rw [hx] at h;exact ⟨j,rfl,h⟩
theorem step_txt (hE:EnvM w0 A0 b G q mb g s vC vI rs gv E F S Inv) (hf:Fr G G w0 W) (hR:RunAt b A0 q g gv G F S Inv r W) (hk:s.code[k]? = some x) (hop:x.op=1) {t:Wd} (hc:conF s x=some t) (hlen:r.out.length<=900000000) :
  Calls Tryz.prog 87 #[.pointer (some ⟨b,0,none⟩),.int .i64 (k:Nat)] W fun e w'=>e = .returned (.int .i64 ((k+1:Nat):Int))/\VmQ b A0 q g gv G F S Inv r (k+1) { r with out:=r.out++t } w'/\Fr G G W w':=by
 obtain ⟨j,hj,ht⟩:=conF_parts hc;obtain ⟨v,st,cs,hO,hst,hen,hi,hsb,hsv,hS,hA,hF⟩:=hR;have h3:=hE.n3 t (List.mem_of_getElem? ht);refine (step_text hO (hE.prog W hf) hk hop hj ht hE.n1 hE.n2 (by omega)).mono ?_;rintro e w' ⟨rfl,hq⟩;obtain ⟨hr,hfr⟩:=RunAt.wrote hE hst hen hi hsb hsv hS hA hF hO.lt hq;exact ⟨rfl,⟨hr,by simp;omega,Nat.le_succ _⟩,hfr⟩
def AskS (b A0 q g:Nat) (gv:Value) (G:Nat->Prop) (F S:τ->Nat->Prop) (Inv:τ->World->Prop) (r:RSt τ) (k:Nat) {α:Type} (fn:α->τ->RSt τ) (res:Except (Nat×τ) (α×τ)) (W:World) (e:Ending) (w':World):Prop :=
 (match res with
  | .ok (a,s')=>e = .returned (.int .i64 ((k+1:Nat):Int))/\VmQ b A0 q g gv G F S Inv r (k+1) (fn a s') w'
  | .error (n,s')=>PanE n e/\ErrQ Inv S b { r with gs:=s' } w')/\Fr G G W w'
set_option maxHeartbeats 4000000 in
theorem step_number (hE:EnvM w0 A0 b G q mb g s vC vI rs gv E F S Inv) (hf:Fr G G w0 W) (hR:RunAt b A0 q g gv G F S Inv r W) (hk:s.code[k]? = some x) (hop:x.op=3) {t:Wd} (hc:conF s x=some t) (hlen:r.out.length<=900000000) :
  Calls Tryz.prog 87 #[.pointer (some ⟨b,0,none⟩),.int .i64 (k:Nat)] W (AskS b A0 q g gv G F S Inv r k (fun v s'=>{ r with out:=r.out++E.wr v,gs:=s' }) (numF E t r.gs) W):=by
 obtain ⟨j,hj,ht⟩:=conF_parts hc;have hp:=hE.prog W hf;obtain ⟨I,ic,kv,tv,q1,lt,i0,-,i3,-,kr,-⟩:=hp.ins hk;obtain ⟨C,cc,q0,cj,hjl⟩:=hp.con ht;obtain ⟨K,kc,rfl,kj,hkl⟩:=kr.at_ hj;have h3:=hE.n3 t (List.mem_of_getElem? ht);have hn1:=hE.n1;have hn2:=hE.n2;obtain ⟨n,hN⟩:∃ n,s.code.length=n:=⟨_,rfl⟩;obtain ⟨m,hM⟩:∃ m,s.cs.length=m:=⟨_,rfl⟩;obtain ⟨z,hZ⟩:∃ z,x.k.length=z:=⟨_,rfl⟩;rw [hN] at q1 lt hn1;rw [hM] at q0 hjl hn2;rw [hZ] at i3 hkl;rw [hop] at i0;have hR':=hR;obtain ⟨v,st,cs,hO,hst,hen,hi,hsb,hsv,hS,hA,hF⟩:=hR;have b0:=hO.cell.1;have hcon:ConM b q j t W:=⟨b0,C,m,cc,q0,cj,hjl,hn2⟩;have HNB:=Lib.hid (numb_any hE.get b q j t r.gs W hO.cell.2.2.1 hcon hi (by omega));have k1:(k:Int)<(n:Int):=by omega
 have k3:(0:Int)<(z:Int):=by omega
 obtain ⟨res,hres⟩:∃ res,numF E t r.gs=res:=⟨_,rfl⟩;rw [hres] at HNB ⊢;have HE:=Lib.hid hE;have HR:=Lib.hid hR';have HF:=Lib.hid hf;have HL:=Lib.hid hlen;clear hE hf hp hk hop hO hst hen hi hsb hsv hS hA hF hN hM hZ kr hj ht hc hR' hcon hres hlen;go_enter Tryz.func87,Tryz.ntmps87
 go_wp2_with fail
 refine HNB.out.mono ?_;intro e w1 hq
 cases res with
 | error er =>
  obtain ⟨c,s'⟩:=er;obtain ⟨⟨older,rfl,hold⟩,hI⟩:=hq;obtain ⟨h1,h2⟩:=RunAt.err HE.out HR.out hI;have HQ:=Lib.hid (show AskS b A0 q g gv G F S Inv r k (fun v s'=>{ r with out:=r.out++E.wr v,gs:=s' }) (.error (c,s'):Except (Nat×τ) (SNum×τ)) W (.panicked ({ v:=errnoV c,recovered:=false }::older)) w1 from ⟨⟨⟨older,rfl,hold⟩,h1⟩,h2⟩);clear hold hI HNB h1 h2;go_wp2
  exact ⟨rfl,HQ.out⟩
 | ok p =>
  obtain ⟨nn,s'⟩:=p;obtain ⟨⟨nv,rfl,hnn,hsz⟩,hI⟩:=hq;obtain ⟨h1,h2,-⟩:=RunAt.asked HE.out HR.out hI;have HTL:=Lib.hid (tell_run HE.out (HF.out.trans h2) h1 hnn HL.out);have HFR:=Lib.hid h2;have HWL:=Lib.hid (HE.out.wrl nn hnn.ok);obtain ⟨gd,o,cap,rfl,-⟩:=hnn;clear hI HNB h1 h2;go_wp2_with fail
  refine HTL.out.mono ?_;rintro e w2 ⟨rfl,hr,hf2⟩;have HRR:=Lib.hid (And.intro hr hf2);clear hr hf2 HTL;go_wp2
  go_ret
  exact ⟨⟨by first | rfl | simp,HRR.out.1,by have:=HWL.out;simp;omega,Nat.le_succ _⟩,HFR.out.trans HRR.out.2⟩
end
section
variable {τ:Type} {w0 W:World} {A0 b q mb g k:Nat} {G:Nat->Prop} {s:MkS} {vC vI gv:Value} {rs:List (Value×Value)} {E:EnvF τ} {F S:τ->Nat->Prop} {Inv:τ->World->Prop} {r:RSt τ} {x:InL}
set_option maxHeartbeats 4000000 in
theorem step_put (hE:EnvM w0 A0 b G q mb g s vC vI rs gv E F S Inv) (hf:Fr G G w0 W) (hR:RunAt b A0 q g gv G F S Inv r W) (hk:s.code[k]? = some x) (hop:x.op=2) {t:Wd} (hc:conF s x=some t) (hlen:r.out.length<=900000000) :
  Calls Tryz.prog 87 #[.pointer (some ⟨b,0,none⟩),.int .i64 (k:Nat)] W (AskS b A0 q g gv G F S Inv r k (fun (p:Wd×Bool) s'=>{ r with out:=r.out++putW E p.1 p.2,gs:=s' }) (argF E t r.gs) W):=by
 obtain ⟨j,hj,ht⟩:=conF_parts hc;have hp:=hE.prog W hf;obtain ⟨I,ic,kv,tv,q1,lt,i0,-,i3,-,kr,-⟩:=hp.ins hk;obtain ⟨C,cc,q0,cj,hjl⟩:=hp.con ht;obtain ⟨K,kc,rfl,kj,hkl⟩:=kr.at_ hj;have h3:=hE.n3 t (List.mem_of_getElem? ht);have hn1:=hE.n1;have hn2:=hE.n2;obtain ⟨n,hN⟩:∃ n,s.code.length=n:=⟨_,rfl⟩;obtain ⟨m,hM⟩:∃ m,s.cs.length=m:=⟨_,rfl⟩;obtain ⟨z,hZ⟩:∃ z,x.k.length=z:=⟨_,rfl⟩;rw [hN] at q1 lt hn1;rw [hM] at q0 hjl hn2;rw [hZ] at i3 hkl;rw [hop] at i0;have hR':=hR;obtain ⟨v,st,cs,hO,hst,hen,hi,hsb,hsv,hS,hA,hF⟩:=hR;have b0:=hO.cell.1;have hcon:ConM b q j t W:=⟨b0,C,m,cc,q0,cj,hjl,hn2⟩;have HNB:=Lib.hid (arg_any hE.get b q j t r.gs W hO.cell.2.2.1 hcon hi (by omega));have k1:(k:Int)<(n:Int):=by omega
 have k3:(0:Int)<(z:Int):=by omega
 obtain ⟨res,hres⟩:∃ res,argF E t r.gs=res:=⟨_,rfl⟩;rw [hres] at HNB ⊢;have HRS:=Lib.hid hres;have HE:=Lib.hid hE;have HR:=Lib.hid hR';have HF:=Lib.hid hf;have HL:=Lib.hid hlen;clear hE hf hp hk hop hO hst hen hi hsb hsv hS hA hF hN hM hZ kr hj ht hc hR' hcon hres hlen;go_enter Tryz.func87,Tryz.ntmps87
 go_wp2_with fail
 refine HNB.out.mono ?_;intro e w1 hq
 cases res with
 | error er =>
  obtain ⟨c,s'⟩:=er;obtain ⟨⟨older,rfl,hold⟩,hI⟩:=hq;obtain ⟨h1,h2⟩:=RunAt.err HE.out HR.out hI;have HQ:=Lib.hid (show AskS b A0 q g gv G F S Inv r k (fun (p:Wd×Bool) s'=>{ r with out:=r.out++putW E p.1 p.2,gs:=s' }) (.error (c,s'):Except (Nat×τ) ((Wd×Bool)×τ)) W (.panicked ({ v:=errnoV c,recovered:=false }::older)) w1 from ⟨⟨⟨older,rfl,hold⟩,h1⟩,h2⟩);clear hold hI HNB h1 h2;go_wp2
  exact ⟨rfl,HQ.out⟩
 | ok p =>
  obtain ⟨⟨u,num⟩,s'⟩:=p;obtain ⟨⟨hu,rfl⟩,hI⟩:=hq;obtain ⟨h1,h2,-⟩:=RunAt.asked HE.out HR.out hI;have hv:=arg_valid HRS.out;have hsz:(⟨u.toArray⟩:ByteArray).size=u.length:=size_mk _;have HP:=fun W=>Lib.hid (parse_any ⟨u.toArray⟩ W (by rw [hsz];exact hu))
  have HR1:=Lib.hid h1;have HFR:=Lib.hid h2;have HV:=Lib.hid hv;clear hI HNB h1 h2 hv
  cases num
  ·go_wp2_with fail
   refine (HP _).out.mono ?_;rintro e w2 ⟨bb,pv,pk,rfl,⟨va,vn,vk,rfl⟩,hb2,-⟩;have hfz:Fr noF noF w1 w2:=((Fr.refl _ _).alloc _).trans (Fr.of hb2);have e0:w2.cell? ⟨w1.heap.size,0,none⟩=some (strv u):=(hb2.cell (by simp)).trans (cell_made _ _ _ _ 0);have e1:w2.cell? ⟨w1.heap.size,1,none⟩=some (.bool false):=(hb2.cell (by simp)).trans (cell_made _ _ _ _ 1);obtain ⟨V,hVe⟩:∃ V,w1.heap.size=V:=⟨_,rfl⟩;rw [hVe] at e0 e1;obtain ⟨W3,hW3⟩:∃ W3,w2.alloc (.cells #[.bool bb,.slice va vn vk,.int .i64 pk] 97)=W3:=⟨_,rfl⟩;have hf3:Fr noF noF w1 W3:=by rw [←hW3];exact hfz.alloc _
   have d0:W3.cell? ⟨V,0,none⟩=some (strv u):=by rw [←hW3];exact cell_al e0 _
   have d1:W3.cell? ⟨V,1,none⟩=some (.bool false):=by rw [←hW3];exact cell_al e1 _
   have h60:u.length<=60:=by have:=HV.out;simpa [validL] using this
   have hR3:=HR1.out.quiet HE.out hf3;have HF3:=Lib.hid hf3;obtain ⟨v',st',cs',hO',hst',hen',hi',hsb',hsv',hS',hA',hF'⟩:=hR3;have HWR:=Lib.hid (out_write (w:=W3.drew) u hO' (by have:=HL.out;simp only;omega));have HRR:=Lib.hid (fun w' hq=>RunAt.wrote (t:=u) (w':=w') HE.out hst' hen' hi' hsb' hsv' hS' hA' hF' hO'.lt hq);clear hb2 hfz e0 e1 hO' hst' hen' hi' hsb' hsv' hS' hA' hF' hf3 HP
   cases isNumL u;all_goals
    go_wp2_with fail
    try rw [hW3]
    refine rk (fun W':World=>W'.cell? ⟨V,0,none⟩=some (strv u)) 5 (List.range 5) 1 d0 ?_;(iterate 5 (refine ty ?_;try simp only [pl]))
    refine takes_nil ?_;refine wpAnyK_last 5 (by kernel_rfl) (by kernel_rfl) rfl (fun J hJ=>?_);go_simp
    refine HWR.out.mono ?_;rintro e w4 ⟨⟨uu,rfl⟩,hq4⟩;refine hJ.out _ _ ?_;clear hJ J;refine wpAnyK_done (by kernel_rfl) ?_ _;obtain ⟨hr4,hfr4⟩:=HRR.out w4 (by obtain ⟨v4,a1,a2⟩:=hq4;exact ⟨v4,a1,a2.und⟩);have H4:=Lib.hid (And.intro hr4 hfr4);clear hq4 hr4 hfr4 hW3;go_wp2
    go_ret
    exact ⟨⟨by first | rfl | simp,H4.out.1,by simp [putW];omega,Nat.le_succ _⟩,(HFR.out.trans (HF3.out.wide (fun _ q=>q.elim))).trans H4.out.2⟩
  ·have hnum:isNumL u=true:=by have:=HV.out;exact this
   have HN:=Lib.hid hnum;clear hnum;go_wp2_with fail
   refine (HP _).out.mono ?_;rintro e w2 ⟨bb,pv,pk,rfl,⟨va,vn,vk,rfl⟩,hb2,hres⟩;obtain ⟨rfl,rfl,hown⟩:=hres HN.out;obtain ⟨d1',d2',hw',h30⟩:=num_parts HN.out;have hfz:Fr noF noF w1 w2:=((Fr.refl _ _).alloc _).trans (Fr.of hb2);have e0:w2.cell? ⟨w1.heap.size,0,none⟩=some (strv u):=(hb2.cell (by simp)).trans (cell_made _ _ _ _ 0);have e1:w2.cell? ⟨w1.heap.size,1,none⟩=some (.bool true):=(hb2.cell (by simp)).trans (cell_made _ _ _ _ 1);obtain ⟨V,hVe⟩:∃ V,w1.heap.size=V:=⟨_,rfl⟩;rw [hVe] at e0 e1;obtain ⟨W3,hW3⟩:∃ W3,w2.alloc (.cells #[.bool (negL u),.slice va vn vk,.int .i64 ((fracL u).length:Nat)] 97)=W3:=⟨_,rfl⟩;have hf3:Fr noF noF w1 W3:=by rw [←hW3];exact hfz.alloc _
   have d1:W3.cell? ⟨V,1,none⟩=some (.bool true):=by rw [←hW3];exact cell_al e1 _
   have hnr:=num_row (negL u) (w:=W3) (by rw [←hW3];exact hown.alloc _) d1' d2' hw' h30;have hR3:=HR1.out.quiet HE.out hf3;have HTL:=Lib.hid (tell_run HE.out ((HF.out.trans HFR.out).trans (hf3.wide (fun _ q=>q.elim))) hR3 hnr HL.out);have HWL:=Lib.hid (HE.out.wrl _ hnr.ok);have HF3:=Lib.hid hf3;have n0:∀ j,W3.cell? ⟨w2.heap.size,j,none⟩=(#[Value.bool (negL u),.slice va vn vk,.int .i64 ((fracL u).length:Nat)]:Array Value)[j]? := fun j=>by rw [←hW3];exact cell_made _ _ _ _ _
   have m0:=n0 0;have m1:=n0 1;have m2:=n0 2;simp only [List.getElem?_toArray,List.getElem?_cons_zero,List.getElem?_cons_succ] at m0 m1 m2;clear hb2 hfz e0 e1 hnr hR3 hf3 HP hres hown n0;rw [HN.out];go_wp2_with fail
   refine HTL.out.mono ?_;rintro e w4 ⟨rfl,hr4,hf4⟩;have H4:=Lib.hid (And.intro hr4 hf4);clear hr4 hf4 HTL;go_wp2
   go_ret
   exact ⟨⟨by first | rfl | simp,H4.out.1,by have:=HWL.out;simp [putW,numOf];omega,Nat.le_succ _⟩,(HFR.out.trans (HF3.out.wide (fun _ q=>q.elim))).trans H4.out.2⟩
end
section
variable {τ:Type} {w0 W:World} {A0 b q mb g k:Nat} {G:Nat->Prop} {s:MkS} {vC vI gv:Value} {rs:List (Value×Value)} {E:EnvF τ} {F S:τ->Nat->Prop} {Inv:τ->World->Prop} {r:RSt τ} {x:InL}
structure RunC (b A0 q g:Nat) (gv:Value) (G:Nat->Prop) (F S:τ->Nat->Prop) (Inv:τ->World->Prop) (r:RSt τ) (v st:Value) (cs:List Value) (w:World):Prop where
 o:OutAt b (.pointer (some ⟨q,0,none⟩)) (.pointer (some ⟨g,0,none⟩)) gv st v r.out w
 row:w.ownsRow 0 272 6 st r.stk.length cs
 en:EntC (mutF b v st (S r.gs)) w r.stk cs
 inv:Inv r.gs w
 sb:st.ownBlock≠some b
 sv:∀ k,rowF v k->¬rowF st k
 ds:∀ k,S r.gs k->(k+2<b\/b<k)/\¬rowF v k/\¬rowF st k
 da:∀ k,rowF v k\/rowF st k->A0<=k
 df:∀ k,F r.gs k->G k
theorem RunC.asked (hE:EnvM w0 A0 b G q mb g s vC vI rs gv E F S Inv) {v st:Value} {cs:List Value} {w w':World} (h:RunC b A0 q g gv G F S Inv r v st cs w) {s':τ} (hq:Inv s' w'/\Fr (F r.gs) (F s') w w'/\∀ k,S s' k->S r.gs k\/w.heap.size<=k) :
  RunC b A0 q g gv G F S Inv { r with gs:=s' } v st cs w'/\Fr G G w w':=by
 obtain ⟨hO,hst,hen,hi,hsb,hsv,hS,hA,hF⟩:=h;obtain ⟨hi',hf,hs'⟩:=hq;have hlt:=hO.lt;have nb:¬F r.gs b:=fun q=>by have:=(hS b (hE.get.sub _ _ q)).1;omega
 have nv:∀ k,rowF v k->¬F r.gs k:=fun k hk q=>(hS k (hE.get.sub _ _ q)).2.1 hk
 have nst:∀ k,rowF st k->¬F r.gs k:=fun k hk q=>(hS k (hE.get.sub _ _ q)).2.2 hk
 refine ⟨⟨hO.fr hf nb nv,hf.own hst nst,EntC.fr hf (fun k hk => .inr (.inr (.inr (hE.get.sub _ _ hk)))) (fun k hk=>?_) hen,hi',hsb,hsv,fun k hk=>?_,hA,fun k hk=>?_⟩,?_⟩
 ·rcases hk with h | h | h | h
  ·exact .inl (.inl h)
  ·exact .inl (.inr (.inl h))
  ·exact .inl (.inr (.inr (.inl h)))
  ·exact (hs' k h).imp (fun q => .inr (.inr (.inr q))) id
 ·rcases hs' k hk with h | h
  ·exact hS k h
  ·exact ⟨by omega,fun q=>by have:=own_in hO.row q;omega,fun q=>by have:=own_in hst q;omega⟩
 ·rcases hf.fp k hk with h | h
  ·exact hF k h
  ·exact hE.gA k (by have:=hE.gb;omega)
 ·exact (hf.tg (F'':=F r.gs) (fun k hk => .inl hk)).wide (fun k hk=>hF k hk)
theorem RunC.quiet (hE:EnvM w0 A0 b G q mb g s vC vI rs gv E F S Inv) {v st:Value} {cs:List Value} {w w':World} (h:RunC b A0 q g gv G F S Inv r v st cs w) (hf:Fr noF noF w w'):RunC b A0 q g gv G F S Inv r v st cs w' :=
 ⟨h.o.fr hf id (fun _ _ q=>q),hf.own h.row (fun _ _ q=>q),EntC.fr hf (fun _ q=>q.elim) (fun _ q => .inl q) h.en,hE.get.fr h.inv hf (fun _ q=>q.elim),h.sb,h.sv,h.ds,h.da,h.df⟩
set_option maxHeartbeats 4000000 in
theorem step_enter (hE:EnvM w0 A0 b G q mb g s vC vI rs gv E F S Inv) (hf:Fr G G w0 W) (hR:RunAt b A0 q g gv G F S Inv r W) (hk:s.code[k]? = some x) (hop:x.op=4) {t:Wd} (hc:conF s x=some t) (hsl:r.stk.length<=900000) :
  Calls Tryz.prog 87 #[.pointer (some ⟨b,0,none⟩),.int .i64 (k:Nat)] W (AskS b A0 q g gv G F S Inv r k (fun v s'=>{ r with stk:=r.stk++[(v,lessN v x.v)],gs:=s' }) (numF E t r.gs) W):=by
 obtain ⟨j,hj,ht⟩:=conF_parts hc;have hp:=hE.prog W hf;obtain ⟨I,ic,kv,tv,q1,lt,i0,i2,i3,-,kr,-⟩:=hp.ins hk;obtain ⟨C,cc,q0,cj,hjl⟩:=hp.con ht;obtain ⟨K,kc,rfl,kj,hkl⟩:=kr.at_ hj;have h3:=hE.n3 t (List.mem_of_getElem? ht);have hv9:=(hE.n4 x (List.mem_of_getElem? hk)).1;have hn1:=hE.n1;have hn2:=hE.n2;obtain ⟨n,hN⟩:∃ n,s.code.length=n:=⟨_,rfl⟩;obtain ⟨m,hM⟩:∃ m,s.cs.length=m:=⟨_,rfl⟩;obtain ⟨z,hZ⟩:∃ z,x.k.length=z:=⟨_,rfl⟩;obtain ⟨xv,hXV⟩:∃ xv,x.v=xv:=⟨_,rfl⟩;rw [hN] at q1 lt hn1;rw [hM] at q0 hjl hn2;rw [hZ] at i3 hkl;rw [hXV] at i2 hv9 ⊢;rw [hop] at i0;obtain ⟨v,st,cs,hO,hst,hen,hi,hsb,hsv,hS,hA,hF⟩:=hR;have hRC:RunC b A0 q g gv G F S Inv r v st cs W:=⟨hO,hst,hen,hi,hsb,hsv,hS,hA,hF⟩;have b0:=hO.cell.1;have hlb:=hO.lt;have hcon:ConM b q j t W:=⟨b0,C,m,cc,q0,cj,hjl,hn2⟩;have HNB:=Lib.hid (numb_any hE.get b q j t r.gs W hO.cell.2.2.1 hcon hi (by omega));have k1:(k:Int)<(n:Int):=by omega
 have k3:(0:Int)<(z:Int):=by omega
 obtain ⟨res,hres⟩:∃ res,numF E t r.gs=res:=⟨_,rfl⟩;rw [hres] at HNB ⊢;have HVI:=Lib.hid (Option.some.inj (hp.q1.symm.trans (show W.cell? ⟨q,1,none⟩=some (.slice (some ⟨I,0,none⟩) s.code.length ic) by rw [hN];exact q1)));have HK:=Lib.hid hk;have HXV:=Lib.hid hXV;have HLB:=Lib.hid (And.intro hlb (And.intro (fun k (hk:rowF v k)=>own_in hO.row hk) (fun k (hk:rowF st k)=>own_in hst hk)));have HE:=Lib.hid hE;have HRC:=Lib.hid hRC;have HF:=Lib.hid hf;have HSL:=Lib.hid hsl;clear hE hf hp hk hop hO hst hen hi hsb hsv hS hA hF hN hM hZ kr hj ht hc hcon hres hlb hRC hXV hsl;go_enter Tryz.func87,Tryz.ntmps87
 go_wp2_with fail
 refine HNB.out.mono ?_;intro e w1 hq
 cases res with
 | error er =>
  obtain ⟨c,s'⟩:=er;obtain ⟨⟨older,rfl,hold⟩,hI⟩:=hq;obtain ⟨h1,h2⟩:=HRC.out.asked HE.out hI;have HQ:=Lib.hid (show AskS b A0 q g gv G F S Inv r k (fun v s'=>{ r with stk:=r.stk++[(v,lessN v xv)],gs:=s' }) (.error (c,s'):Except (Nat×τ) (SNum×τ)) W (.panicked ({ v:=errnoV c,recovered:=false }::older)) w1 from ⟨⟨⟨older,rfl,hold⟩,h1.inv,fun k hk=>(h1.ds k hk).1⟩,h2⟩);clear hold hI HNB h1 h2;go_wp2
  exact ⟨rfl,HQ.out⟩
 | ok p =>
  obtain ⟨nn,s'⟩:=p;obtain ⟨⟨nv,rfl,hnn,hsz⟩,hI⟩:=hq;obtain ⟨h1,h2⟩:=HRC.out.asked HE.out hI;have hnn1:NumI (mutF b v st (S s')) w1 nv nn:=hnn.fr (Fr.refl noF _) (fun _ q=>q.elim) (fun k hk => .inl (by
   rcases hk with rfl | h | h | h
   ·exact .inl HLB.out.1
   ·exact .inl (HLB.out.2.1 k h)
   ·exact .inl (HLB.out.2.2 k h)
   ·exact .inr h))
  have hp1:=HE.out.prog w1 (HF.out.trans h2);have HFR:=Lib.hid h2;have HRC1:=Lib.hid h1;have HNN:=Lib.hid hnn1;have HSZ:=Lib.hid hsz;obtain ⟨gd,o,cap,hnve,-⟩:=hnn;obtain ⟨nb,hnb⟩:∃ nb,nn.1=nb:=⟨_,rfl⟩;obtain ⟨LL,hLL⟩:∃ LL,nn.2.1.length+nn.2.2.length=LL:=⟨_,rfl⟩;obtain ⟨sc,hsc⟩:∃ sc,nn.2.2.length=sc:=⟨_,rfl⟩;rw [hnb,hLL,hsc] at hnve;subst hnve;obtain ⟨I2,ic2,kv2,tv2,q1',-,-,i2',-⟩:=hp1.ins HK.out;have hIe:=Option.some.inj (hp1.q1.symm.trans q1');rw [HVI.out] at hIe;simp only [Value.slice.injEq,Option.some.injEq,Addr.mk.injEq,and_true,true_and] at hIe;rw [←hIe.1,HXV.out] at i2';obtain ⟨B9,hB9⟩:∃ B9,w1.heap.size=B9:=⟨_,rfl⟩;obtain ⟨W2,hW2⟩:∃ W2,w1.alloc (.cells #[.bool nb,.slice (some ⟨gd,o,none⟩) LL cap,.int .i64 (sc:Nat)] 97)=W2:=⟨_,rfl⟩;have hf2:Fr noF noF w1 W2:=by rw [←hW2];exact (Fr.refl _ _).alloc _
  have n0:∀ j,W2.cell? ⟨B9,j,none⟩=(#[Value.bool nb,.slice (some ⟨gd,o,none⟩) LL cap,.int .i64 (sc:Nat)]:Array Value)[j]? := fun j=>by rw [←hW2,←hB9];exact cell_made _ _ _ _ _
  have m0:=n0 0;have m1:=n0 1;have m2:=n0 2;simp only [List.getElem?_toArray,List.getElem?_cons_zero,List.getElem?_cons_succ] at m0 m1 m2;have i2W:=hf2.cell i2' id;have hmin:=minus_num _ nn xv W2.drew ((hnn1.any.fr hf2 (fun _ q=>q.elim) (M':=fun _=>False) (fun _ q=>q.elim)).fr (w':=W2.drew) (F:=noF) (F':=noF) ((Fr.refl _ _).drew) (fun _ q=>q.elim) (M':=fun _=>False) (fun _ q=>q.elim)) hv9 (by omega);have HMIN:=Lib.hid hmin;have HF2:=Lib.hid hf2;clear h1 h2 hI HNB hnn1 hp1 hmin hf2 n0 hIe q1' i2' b0 q0 q1 i0 i2 i3 cj kj hsz;go_wp2_with fail
  try rw [hW2]
  clear hW2 hB9 hnb hLL hsc;refine rk (fun W':World=>W'.cell? ⟨B9,0,none⟩=some (.bool nb)/\W'.cell? ⟨B9,1,none⟩=some (.slice (some ⟨gd,o,none⟩) LL cap)/\W'.cell? ⟨B9,2,none⟩=some (.int .i64 (sc:Nat))/\W'.cell? ⟨I,k*5+2,none⟩=some (.int .i64 xv)) 11 (List.range 9) 3 ⟨m0,m1,m2,i2W⟩ ?_;(iterate 9 (refine ty ?_;try simp only [pl]))
  refine takes_nil ?_;refine wpAnyK_only 9 (by kernel_rfl) rfl (fun J hJ=>?_);go_simp
  refine HMIN.out.mono ?_;rintro e w3 ⟨⟨v3,rfl,hz3⟩,hb3⟩;have hf3:Fr noF noF W2 w3:=(Fr.of hb3).und;have HZ:=Lib.hid hz3;have HOK:=Lib.hid hz3.ok;obtain ⟨zz,hzz⟩:∃ zz,lessN nn xv=zz:=⟨_,rfl⟩;rw [hzz] at hz3 HZ;obtain ⟨g3,o3,cap3,hv3,-⟩:=hz3;obtain ⟨zb,hzb⟩:∃ zb,zz.1=zb:=⟨_,rfl⟩;obtain ⟨L3,hL3⟩:∃ L3,zz.2.1.length+zz.2.2.length=L3:=⟨_,rfl⟩;obtain ⟨sc3,hsc3⟩:∃ sc3,zz.2.2.length=sc3:=⟨_,rfl⟩;rw [hzb,hL3,hsc3] at hv3;subst hv3;have rc:=HRC1.out.quiet HE.out (HF2.out.trans hf3);have hl1:=HRC1.out.o.lt;have h1:NumI (mutF b v st (S s')) w3 (numA nb gd o LL cap sc) nn:=HNN.out.fr (HF2.out.trans hf3) (fun _ q=>q.elim) (fun _ q => .inl q);have h2:NumI (mutF b v st (S s')) w3 (numA zb g3 o3 L3 cap3 sc3) zz:=HZ.out.fr (Fr.refl noF _) (fun _ q=>q.elim) (fun k hk => .inl (by
   have hW2:=HF2.out.size;have hW1:=HFR.out.size;show k<W2.heap.size;rcases hk with rfl | h | h | h
   ·omega
   ·have:=HLB.out.2.1 k h;omega
   ·have:=HLB.out.2.2 k h;omega
   ·have:=HE.out.get.supp s' w1 k HRC1.out.inv h;omega))
  have hen:=EntC.snoc h1 h2 rc.en;have HPU:=Lib.hid (push_any rc.o rc.row rc.sb rc.sv (by have:=HSL.out;simp only;omega) nb zb gd o LL cap sc g3 o3 L3 cap3 sc3);have HST:=Lib.hid (fun w' hq=>RunAt.stacked (r:={ r with gs:=s' }) (w:=w3) (w':=w') (stk:=r.stk++[(nn,zz)]) HE.out rc.row hen rc.inv rc.ds rc.da rc.df rc.o.lt (by rw [List.length_append];exact hq));have c0:=hf3.cell m0 id;have c1:=hf3.cell m1 id;have c2:=hf3.cell m2 id;have c3:=hf3.cell i2W id;have HF3:=Lib.hid hf3;have HZZ:=Lib.hid hzz;clear hf3 rc h1 h2 hen hb3 HMIN hzb hL3 hsc3 hl1 hzz m0 m1 m2 i2W;refine hJ.out _ _ ⟨c0,c1,c2,c3⟩ fun _=>?_
  clear hJ J;refine wpAnyK_more [10] 1 rfl (by intro _ _ d _ _ h;cases d<;>exact h) (by kernel_rfl) (by kernel_rfl) ⟨c0,c1,c2,c3⟩ ?_;refine ty ?_;try simp only [pl]
  refine takes_nil ?_;refine wpAnyK_last 11 (by kernel_rfl) (by kernel_rfl) rfl (fun J hJ=>?_);go_simp
  refine HPU.out.mono ?_;rintro e w4 ⟨rfl,hq4⟩;refine hJ.out _ _ ?_;clear hJ J;refine wpAnyK_done (by kernel_rfl) ?_ _;obtain ⟨hr4,hfr4⟩:=HST.out w4 hq4;have H4:=Lib.hid (And.intro hr4 hfr4);clear hq4 hr4 hfr4 HPU HST;go_wp2
  go_ret
  have hrr:=H4.out.1;rw [←HZZ.out] at hrr;exact ⟨⟨by first | rfl | simp,hrr,Nat.le_add_right _ _,by simp⟩,(HFR.out.trans ((HF2.out.trans HF3.out).wide (fun _ q=>q.elim))).trans H4.out.2⟩
end
def jmpV (s:MkS) (p:Nat):Int:=jmpI (posN s.code s.code.length p)
section
variable {τ:Type} {w0 W:World} {A0 b q mb g k:Nat} {G:Nat->Prop} {s:MkS} {vC vI gv:Value} {rs:List (Value×Value)} {E:EnvF τ} {F S:τ->Nat->Prop} {Inv:τ->World->Prop} {r:RSt τ} {x:InL}
set_option maxHeartbeats 4000000 in
theorem step_goto (hE:EnvM w0 A0 b G q mb g s vC vI rs gv E F S Inv) (hf:Fr G G w0 W) (hR:RunAt b A0 q g gv G F S Inv r W) (hk:s.code[k]? = some x) (hop:x.op=11) {p:Nat} (htg:x.tg[0]? = some p) :
  Calls Tryz.prog 87 #[.pointer (some ⟨b,0,none⟩),.int .i64 (k:Nat)] W fun e w'=>e = .returned (.int .i64 (jmpV s p))/\Fr noF noF W w':=by
 have hp:=hE.prog W hf;obtain ⟨I,ic,kv,tv,q1,lt,i0,-,-,i4,-,tr⟩:=hp.ins hk;obtain ⟨T,tc,rfl,tj,htl⟩:=tr.at_ htg;have hp4:=(hE.n4 x (List.mem_of_getElem? hk)).2 p (List.mem_of_getElem? htg);have HAT:=Lib.hid (at_any q mb s.code.length p _ W.drew hp.q2 (hp.mp.keep rfl) hp4);have hn1:=hE.n1;obtain ⟨jv,hjv⟩:∃ jv,jmpV s p=jv:=⟨_,rfl⟩;have HJ:=Lib.hid hjv;rw [show jmpI (posN s.code s.code.length p)=jv from hjv] at HAT;rw [hjv];obtain ⟨n,hN⟩:∃ n,s.code.length=n:=⟨_,rfl⟩;obtain ⟨z,hZ⟩:∃ z,x.tg.length=z:=⟨_,rfl⟩;rw [hN] at q1 lt hn1;rw [hZ] at i4 htl;rw [hop] at i0;obtain ⟨v,st,cs,hO,-⟩:=hR;have b0:=hO.cell.1;have k1:(k:Int)<(n:Int):=by omega
 have k3:(0:Int)<(z:Int):=by omega
 clear hE hf hp hk hop hO hN hZ tr htg hjv;go_enter Tryz.func87,Tryz.ntmps87
 go_wp2_with fail
 refine rt (fun W':World=>W'.cell? ⟨b,0,none⟩=some (.pointer (some ⟨q,0,none⟩))/\W'.cell? ⟨I,k*5+4,none⟩=some (.slice (some ⟨T,0,none⟩) z tc)/\W'.cell? ⟨T,0,none⟩=some (.int .i64 p)) (List.range 10) 2 ⟨b0,i4,tj⟩ ?_;(iterate 10 (refine ty ?_;try simp only [pl]))
 refine takes_nil ?_;refine wpAnyH_only 10 (by kernel_rfl) rfl (fun J hJ=>?_);go_simp
 refine HAT.out.mono ?_;rintro e w1 ⟨rfl,rfl⟩;refine hJ.out _ _ ⟨b0,i4,tj⟩ fun _=>?_
 clear hJ J;refine wpAnyH_more [11] 0 rfl (by intro _ _ d _ _ h;cases d<;>exact h) (by kernel_rfl) (by kernel_rfl) ⟨b0,i4,tj⟩ ?_;refine ty ?_;try simp only [pl]
 refine takes_nil ?_;refine wpAnyH_done (by kernel_rfl) ?_ _;go_wp2
 go_ret
 exact ⟨rfl,(Fr.refl _ _).drew⟩
set_option maxHeartbeats 8000000 in
theorem step_equal (hE:EnvM w0 A0 b G q mb g s vC vI rs gv E F S Inv) (hf:Fr G G w0 W) (hR:RunAt b A0 q g gv G F S Inv r W) (hk:s.code[k]? = some x) (hop:x.op=7) {p:Nat} (htg:x.tg[0]? = some p) {stk:List (SNum×SNum)} {tp:SNum×SNum} (hs:r.stk=stk++[tp]) (hsl:r.stk.length<=1000000) :
  Calls Tryz.prog 87 #[.pointer (some ⟨b,0,none⟩),.int .i64 (k:Nat)] W fun e w'=>e = .returned (.int .i64 (if sameN tp.1 x.v then jmpV s p else ((k+1:Nat):Int)))/\Fr noF noF W w':=by
 have hp:=hE.prog W hf;obtain ⟨I,ic,kv,tv,q1,lt,i0,i2,-,i4,-,tr⟩:=hp.ins hk;obtain ⟨T,tc,rfl,tj,htl⟩:=tr.at_ htg;obtain ⟨hv9,hp4⟩:=hE.n4 x (List.mem_of_getElem? hk);have hp4:=hp4 p (List.mem_of_getElem? htg);have HAT:=Lib.hid (fun (w:World) (hq:w.cell? ⟨q,2,none⟩=some (.map (some mb))) (hm:MapI w mb s.code.length (posN s.code s.code.length))=>at_any q mb s.code.length p (posN s.code s.code.length) w hq hm hp4);have HQ2:=Lib.hid (And.intro hp.q2 hp.mp);have hn1:=hE.n1;obtain ⟨jv,hjv⟩:∃ jv,jmpV s p=jv:=⟨_,rfl⟩;rw [show jmpI (posN s.code s.code.length p)=jv from hjv] at HAT;rw [hjv];obtain ⟨n,hN⟩:∃ n,s.code.length=n:=⟨_,rfl⟩;obtain ⟨z,hZ⟩:∃ z,x.tg.length=z:=⟨_,rfl⟩;obtain ⟨xv,hXV⟩:∃ xv,x.v=xv:=⟨_,rfl⟩;rw [hN] at q1 lt hn1 HQ2 HAT;rw [hZ] at i4 htl;rw [hXV] at i2 hv9 ⊢;rw [hop] at i0;obtain ⟨v,st,cs,hO,hst,hen,-⟩:=hR;obtain ⟨tn,tz⟩:=tp;obtain ⟨JJ,hJJ⟩:∃ JJ,(if sameN tn xv=true then jv else ((k+1:Nat):Int))=JJ:=⟨_,rfl⟩;have HJJ:=Lib.hid hJJ;rw [show (if sameN (tn,tz).1 xv=true then jv else ((k+1:Nat):Int))=JJ from hJJ];clear hJJ;have hlen2:(stk++[(tn,tz)]).length=stk.length+1:=by simp
 rw [hs] at hen hst hsl;rw [hlen2] at hst hsl;obtain ⟨cs',nb,g1,o1,m1,c1,k1',zb,g2,o2,m2,c2,k2,rfl,hen',hn,-⟩:=hen.last;have HT:=Lib.hid (top_any (w:=W.drew) hO nb zb g1 o1 m1 c1 k1' g2 o2 m2 c2 k2 hst hen'.len (by omega));have b0:=hO.cell.1;have k1:(k:Int)<(n:Int):=by omega
 have k3:(0:Int)<(z:Int):=by omega
 have hfd:=field_given;have HSM:=Lib.hid (fun (w:World) (hb:Fr noF noF W w)=>same_num _ tn xv w (hn.any.fr hb (fun _ q=>q.elim) (M':=fun _=>False) (fun _ q=>q.elim)) hv9);clear hE hf hp hk hop hO hN hZ tr htg hjv hst hen hen' hs hsl hlen2 hXV hn;go_enter Tryz.func87,Tryz.ntmps87
 go_wp2_with fail
 refine rt (fun W':World=>W'.cell? ⟨I,k*5+2,none⟩=some (.int .i64 xv)) [0,1,2,5,6,7,8] 4 i2 ?_;(iterate 7 (refine ty ?_;try simp only [pl]))
 refine takes_nil ?_;refine wpAnyH_only 3 (by kernel_rfl) rfl (fun J hJ=>?_);go_simp
 refine HT.out.mono ?_;rintro e w1 ⟨rfl,hb1⟩;have hf1:Fr noF noF W w1:=(Fr.of hb1).und;have i2a:=hf1.cell i2 id;refine hJ.out _ _ i2a fun _=>?_
 clear hJ J;refine wpAnyH_more [4] 2 rfl (by intro _ _ d _ _ h;cases d<;>exact h) (by kernel_rfl) (by kernel_rfl) i2a ?_;refine ty ?_;try simp only [pl]
 refine takes_nil ?_;refine wpAnyH_only 9 (by kernel_rfl) rfl (fun J hJ=>?_);go_simp
 refine (HSM.out w1 hf1).mono ?_;rintro e w2 ⟨rfl,hb2⟩;have hf2:Fr noF noF W w2:=hf1.trans (Fr.of hb2);have i2b:=hf2.cell i2 id;have b0b:=hf2.cell b0 id;have i4b:=hf2.cell i4 id;have tjb:=hf2.cell tj id;have q2b:=hf2.cell HQ2.out.1 id;have HMB:=Lib.hid (HQ2.out.2.keep (hf2.keep mb HQ2.out.2.lt id));refine hJ.out _ _ i2b fun _=>?_
 clear hJ J;refine wpAnyH_more [10] 0 rfl (by intro _ _ d _ _ h;cases d<;>exact h) (by kernel_rfl) (by kernel_rfl) i2b ?_;refine ty ?_;try simp only [pl]
 refine takes_nil ?_;refine wpAnyH_done (by kernel_rfl) ?_ _;have HF2:=Lib.hid hf2;clear hf1 hb1 hf2 hb2 i2a HT HSM hfd b0 i4 tj i2
 cases hsm:sameN tn xv
 ·have HSE:=Lib.hid (show ((k+1:Nat):Int)=JJ by rw [←HJJ.out,hsm];rfl);clear hsm;go_wp2
  go_ret
  exact ⟨by rw [←HSE.out];first | rfl | simp,HF2.out⟩
 ·have HSE:=Lib.hid (show jv=JJ by rw [←HJJ.out,hsm];rfl);have HA2:=Lib.hid (HAT.out w2.drew q2b (HMB.out.keep rfl));clear hsm HAT;go_wp2_with fail
  refine rt (fun W':World=>W'.cell? ⟨b,0,none⟩=some (.pointer (some ⟨q,0,none⟩))/\W'.cell? ⟨I,k*5+4,none⟩=some (.slice (some ⟨T,0,none⟩) z tc)/\W'.cell? ⟨T,0,none⟩=some (.int .i64 p)) (List.range 10) 2 ⟨b0b,i4b,tjb⟩ ?_;(iterate 10 (refine ty ?_;try simp only [pl]))
  refine takes_nil ?_;refine wpAnyH_only 10 (by kernel_rfl) rfl (fun J hJ=>?_);go_simp
  refine HA2.out.mono ?_;rintro e w3 ⟨rfl,rfl⟩;refine hJ.out _ _ ⟨b0b,i4b,tjb⟩ fun _=>?_
  clear hJ J;refine wpAnyH_more [11] 0 rfl (by intro _ _ d _ _ h;cases d<;>exact h) (by kernel_rfl) (by kernel_rfl) ⟨b0b,i4b,tjb⟩ ?_;refine ty ?_;try simp only [pl]
  refine takes_nil ?_;refine wpAnyH_done (by kernel_rfl) ?_ _;go_wp2
  go_ret
  exact ⟨by rw [←HSE.out];rfl,HF2.out.drew⟩
end
section
variable {τ:Type} {w0 W:World} {A0 b q mb g k:Nat} {G:Nat->Prop} {s:MkS} {vC vI gv:Value} {rs:List (Value×Value)} {E:EnvF τ} {F S:τ->Nat->Prop} {Inv:τ->World->Prop} {r:RSt τ} {x:InL}
set_option maxHeartbeats 8000000 in
theorem step_card (hE:EnvM w0 A0 b G q mb g s vC vI rs gv E F S Inv) (hf:Fr G G w0 W) (hR:RunAt b A0 q g gv G F S Inv r W) (hk:s.code[k]? = some x) (hop:x.op=8) {p:Nat} {stk:List (SNum×SNum)} {tp:SNum×SNum} (hs:r.stk=stk++[tp]) (htg:x.tg[E.sort false tp.2.2]? = some p) (hsl:r.stk.length<=1000000) :
  Calls Tryz.prog 87 #[.pointer (some ⟨b,0,none⟩),.int .i64 (k:Nat)] W fun e w'=>e = .returned (.int .i64 (jmpV s p))/\Fr noF noF W w':=by
 have hp:=hE.prog W hf;obtain ⟨I,ic,kv,tv,q1,lt,i0,i2,-,i4,-,tr⟩:=hp.ins hk;obtain ⟨T,tc,rfl,tj,htl⟩:=tr.at_ htg;have hp4:=(hE.n4 x (List.mem_of_getElem? hk)).2 p (List.mem_of_getElem? htg);have HAT:=Lib.hid (fun (w:World) (hq:w.cell? ⟨q,2,none⟩=some (.map (some mb))) (hm:MapI w mb s.code.length (posN s.code s.code.length))=>at_any q mb s.code.length p (posN s.code s.code.length) w hq hm hp4);have HQ2:=Lib.hid (And.intro hp.q2 hp.mp);have hn1:=hE.n1;obtain ⟨jv,hjv⟩:∃ jv,jmpV s p=jv:=⟨_,rfl⟩;rw [show jmpI (posN s.code s.code.length p)=jv from hjv] at HAT;rw [hjv];obtain ⟨n,hN⟩:∃ n,s.code.length=n:=⟨_,rfl⟩;obtain ⟨z,hZ⟩:∃ z,x.tg.length=z:=⟨_,rfl⟩;rw [hN] at q1 lt hn1 HQ2 HAT;rw [hZ] at i4 htl;rw [hop] at i0;obtain ⟨v,st,cs,hO,hst,hen,-⟩:=hR;obtain ⟨tn,tz⟩:=tp;have hlen2:(stk++[(tn,tz)]).length=stk.length+1:=by simp
 rw [hs] at hen hst hsl;rw [hlen2] at hst hsl;obtain ⟨cs',nb,g1,o1,m1,c1,k1',zb,g2,o2,m2,c2,k2,rfl,hen',-,hz⟩:=hen.last;have HT:=Lib.hid (top_any (w:=W.drew) hO nb zb g1 o1 m1 c1 k1' g2 o2 m2 c2 k2 hst hen'.len (by omega));obtain ⟨cv,ov,hcv,hc1,hc2⟩:=hE.set;have g0:=(hcv W hf).1;obtain ⟨ix,hix⟩:∃ ix,E.sort false tz.2=ix:=⟨_,rfl⟩;have HOF:=Lib.hid (fun (w:World) (hb:Fr noF noF W w)=>hc1 w _ tz.2 (hf.trans (hb.wide (G:=G) (fun _ q=>q.elim))) ((hz.any.fr hb (fun _ q=>q.elim) (M':=fun _=>False) (fun _ q=>q.elim))).num);simp only [hix] at HOF tj htl;have b0:=hO.cell.1;have b1:=hO.cell.2.1;have k1:(k:Int)<(n:Int):=by omega
 have k3:(ix:Int)<(z:Int):=by omega
 have hfd:=field_less;clear hE hf hp hk hop hO hN hZ tr htg hjv hst hen hen' hs hsl hlen2 hz hcv hc1 hc2 hix;go_enter Tryz.func87,Tryz.ntmps87
 go_wp2_with fail
 refine rt (fun W':World=>W'.cell? ⟨b,0,none⟩=some (.pointer (some ⟨q,0,none⟩))/\W'.cell? ⟨b,1,none⟩=some (.pointer (some ⟨g,0,none⟩))/\W'.cell? ⟨g,0,none⟩=some cv/\W'.cell? ⟨I,k*5+4,none⟩=some (.slice (some ⟨T,0,none⟩) z tc)/\W'.cell? ⟨T,ix,none⟩=some (.int .i64 p)) (List.range 18) 7 ⟨b0,b1,g0,i4,tj⟩ ?_;(iterate 18 (refine ty ?_;try simp only [pl]))
 refine takes_nil ?_;refine wpAnyH_only 18 (by kernel_rfl) rfl (fun J hJ=>?_);go_simp
 refine HT.out.mono ?_;rintro e w1 ⟨rfl,hb1⟩;have hf1:Fr noF noF W w1:=(Fr.of hb1).und;have a1:=hf1.cell b0 id;have a2:=hf1.cell b1 id;have a3:=hf1.cell g0 id;have a4:=hf1.cell i4 id;have a5:=hf1.cell tj id;refine hJ.out _ _ ⟨a1,a2,a3,a4,a5⟩ fun _=>?_
 clear hJ J;refine wpAnyH_more [19] 5 rfl (by intro _ _ d _ _ h;cases d<;>exact h) (by kernel_rfl) (by kernel_rfl) ⟨a1,a2,a3,a4,a5⟩ ?_;refine ty ?_;try simp only [pl]
 refine takes_nil ?_;refine wpAnyH_only 20 (by kernel_rfl) rfl (fun J hJ=>?_);go_simp
 refine (HOF.out w1 hf1).mono ?_;rintro e w2 ⟨rfl,hb2⟩;have hf2:Fr noF noF W w2:=hf1.trans (Fr.of hb2);have d1:=hf2.cell b0 id;have d2:=hf2.cell b1 id;have d3:=hf2.cell g0 id;have d4:=hf2.cell i4 id;have d5:=hf2.cell tj id;have q2b:=hf2.cell HQ2.out.1 id;have HA2:=Lib.hid (HAT.out w2 q2b (HQ2.out.2.keep (hf2.keep mb HQ2.out.2.lt id)));have HF2:=Lib.hid hf2;clear a1 a2 a3 a4 a5 hf1 hb1 hf2 hb2 b0 b1 g0 i4 tj HT HOF HAT HQ2 q2b;refine hJ.out _ _ ⟨d1,d2,d3,d4,d5⟩ fun _=>?_
 clear hJ J;refine wpAnyH_more [21,22] 2 rfl (by intro _ _ d _ _ h;cases d<;>exact h) (by kernel_rfl) (by kernel_rfl) ⟨d1,d2,d3,d4,d5⟩ ?_;(iterate 2 (refine ty ?_;try simp only [pl]))
 refine takes_nil ?_;refine wpAnyH_only 23 (by kernel_rfl) rfl (fun J hJ=>?_);go_simp
 refine HA2.out.mono ?_;rintro e w3 ⟨rfl,rfl⟩;refine hJ.out _ _ ⟨d1,d2,d3,d4,d5⟩ fun _=>?_
 clear hJ J;refine wpAnyH_more [24] 0 rfl (by intro _ _ d _ _ h;cases d<;>exact h) (by kernel_rfl) (by kernel_rfl) ⟨d1,d2,d3,d4,d5⟩ ?_;refine ty ?_;try simp only [pl]
 refine takes_nil ?_;refine wpAnyH_done (by kernel_rfl) ?_ _;go_wp2
 go_ret
 exact ⟨rfl,HF2.out⟩
set_option maxHeartbeats 8000000 in
theorem step_ordl (hE:EnvM w0 A0 b G q mb g s vC vI rs gv E F S Inv) (hf:Fr G G w0 W) (hR:RunAt b A0 q g gv G F S Inv r W) (hk:s.code[k]? = some x) (hop:x.op=9) {p:Nat} {stk:List (SNum×SNum)} {tp:SNum×SNum} (hs:r.stk=stk++[tp]) (htg:x.tg[E.sort true tp.2.2]? = some p) (hsl:r.stk.length<=1000000) :
  Calls Tryz.prog 87 #[.pointer (some ⟨b,0,none⟩),.int .i64 (k:Nat)] W fun e w'=>e = .returned (.int .i64 (jmpV s p))/\Fr noF noF W w':=by
 have hp:=hE.prog W hf;obtain ⟨I,ic,kv,tv,q1,lt,i0,i2,-,i4,-,tr⟩:=hp.ins hk;obtain ⟨T,tc,rfl,tj,htl⟩:=tr.at_ htg;have hp4:=(hE.n4 x (List.mem_of_getElem? hk)).2 p (List.mem_of_getElem? htg);have HAT:=Lib.hid (fun (w:World) (hq:w.cell? ⟨q,2,none⟩=some (.map (some mb))) (hm:MapI w mb s.code.length (posN s.code s.code.length))=>at_any q mb s.code.length p (posN s.code s.code.length) w hq hm hp4);have HQ2:=Lib.hid (And.intro hp.q2 hp.mp);have hn1:=hE.n1;obtain ⟨jv,hjv⟩:∃ jv,jmpV s p=jv:=⟨_,rfl⟩;rw [show jmpI (posN s.code s.code.length p)=jv from hjv] at HAT;rw [hjv];obtain ⟨n,hN⟩:∃ n,s.code.length=n:=⟨_,rfl⟩;obtain ⟨z,hZ⟩:∃ z,x.tg.length=z:=⟨_,rfl⟩;rw [hN] at q1 lt hn1 HQ2 HAT;rw [hZ] at i4 htl;rw [hop] at i0;obtain ⟨v,st,cs,hO,hst,hen,-⟩:=hR;obtain ⟨tn,tz⟩:=tp;have hlen2:(stk++[(tn,tz)]).length=stk.length+1:=by simp
 rw [hs] at hen hst hsl;rw [hlen2] at hst hsl;obtain ⟨cs',nb,g1,o1,m1,c1,k1',zb,g2,o2,m2,c2,k2,rfl,hen',-,hz⟩:=hen.last;have HT:=Lib.hid (top_any (w:=W.drew) hO nb zb g1 o1 m1 c1 k1' g2 o2 m2 c2 k2 hst hen'.len (by omega));obtain ⟨cv,ov,hcv,hc1,hc2⟩:=hE.set;have g0:=(hcv W hf).2;obtain ⟨ix,hix⟩:∃ ix,E.sort true tz.2=ix:=⟨_,rfl⟩;have HOF:=Lib.hid (fun (w:World) (hb:Fr noF noF W w)=>hc2 w _ tz.2 (hf.trans (hb.wide (G:=G) (fun _ q=>q.elim))) ((hz.any.fr hb (fun _ q=>q.elim) (M':=fun _=>False) (fun _ q=>q.elim))).num);simp only [hix] at HOF tj htl;have b0:=hO.cell.1;have b1:=hO.cell.2.1;have k1:(k:Int)<(n:Int):=by omega
 have k3:(ix:Int)<(z:Int):=by omega
 have hfd:=field_less;clear hE hf hp hk hop hO hN hZ tr htg hjv hst hen hen' hs hsl hlen2 hz hcv hc1 hc2 hix;go_enter Tryz.func87,Tryz.ntmps87
 go_wp2_with fail
 refine rt (fun W':World=>W'.cell? ⟨b,0,none⟩=some (.pointer (some ⟨q,0,none⟩))/\W'.cell? ⟨b,1,none⟩=some (.pointer (some ⟨g,0,none⟩))/\W'.cell? ⟨g,1,none⟩=some ov/\W'.cell? ⟨I,k*5+4,none⟩=some (.slice (some ⟨T,0,none⟩) z tc)/\W'.cell? ⟨T,ix,none⟩=some (.int .i64 p)) (List.range 18) 7 ⟨b0,b1,g0,i4,tj⟩ ?_;(iterate 18 (refine ty ?_;try simp only [pl]))
 refine takes_nil ?_;refine wpAnyH_only 18 (by kernel_rfl) rfl (fun J hJ=>?_);go_simp
 refine HT.out.mono ?_;rintro e w1 ⟨rfl,hb1⟩;have hf1:Fr noF noF W w1:=(Fr.of hb1).und;have a1:=hf1.cell b0 id;have a2:=hf1.cell b1 id;have a3:=hf1.cell g0 id;have a4:=hf1.cell i4 id;have a5:=hf1.cell tj id;refine hJ.out _ _ ⟨a1,a2,a3,a4,a5⟩ fun _=>?_
 clear hJ J;refine wpAnyH_more [19] 5 rfl (by intro _ _ d _ _ h;cases d<;>exact h) (by kernel_rfl) (by kernel_rfl) ⟨a1,a2,a3,a4,a5⟩ ?_;refine ty ?_;try simp only [pl]
 refine takes_nil ?_;refine wpAnyH_only 20 (by kernel_rfl) rfl (fun J hJ=>?_);go_simp
 refine (HOF.out w1 hf1).mono ?_;rintro e w2 ⟨rfl,hb2⟩;have hf2:Fr noF noF W w2:=hf1.trans (Fr.of hb2);have d1:=hf2.cell b0 id;have d2:=hf2.cell b1 id;have d3:=hf2.cell g0 id;have d4:=hf2.cell i4 id;have d5:=hf2.cell tj id;have q2b:=hf2.cell HQ2.out.1 id;have HA2:=Lib.hid (HAT.out w2 q2b (HQ2.out.2.keep (hf2.keep mb HQ2.out.2.lt id)));have HF2:=Lib.hid hf2;clear a1 a2 a3 a4 a5 hf1 hb1 hf2 hb2 b0 b1 g0 i4 tj HT HOF HAT HQ2 q2b;refine hJ.out _ _ ⟨d1,d2,d3,d4,d5⟩ fun _=>?_
 clear hJ J;refine wpAnyH_more [21,22] 2 rfl (by intro _ _ d _ _ h;cases d<;>exact h) (by kernel_rfl) (by kernel_rfl) ⟨d1,d2,d3,d4,d5⟩ ?_;(iterate 2 (refine ty ?_;try simp only [pl]))
 refine takes_nil ?_;refine wpAnyH_only 23 (by kernel_rfl) rfl (fun J hJ=>?_);go_simp
 refine HA2.out.mono ?_;rintro e w3 ⟨rfl,rfl⟩;refine hJ.out _ _ ⟨d1,d2,d3,d4,d5⟩ fun _=>?_
 clear hJ J;refine wpAnyH_more [24] 0 rfl (by intro _ _ d _ _ h;cases d<;>exact h) (by kernel_rfl) (by kernel_rfl) ⟨d1,d2,d3,d4,d5⟩ ?_;refine ty ?_;try simp only [pl]
 refine takes_nil ?_;refine wpAnyH_done (by kernel_rfl) ?_ _;go_wp2
 go_ret
 exact ⟨rfl,HF2.out⟩
end
section
variable {τ:Type} {w0 W:World} {A0 b q mb g k:Nat} {G:Nat->Prop} {s:MkS} {vC vI gv:Value} {rs:List (Value×Value)} {E:EnvF τ} {F S:τ->Nat->Prop} {Inv:τ->World->Prop} {r:RSt τ} {x:InL}
def ChoP (s:MkS) (x:InL) (u:Wd) (_:τ) (_:World) (e:Ending):Prop:=e = .returned (.int .i64 ((tabI s x u:Nat):Int))
theorem idx_stop {α:Type} [BEq α] [LawfulBEq α] {l:List α} {a:α} {i:Nat} (hi:i<l.length) (h:a ∉ l.take i) (he:l[i]=a):l.idxOf a=i:=by
 have h1:l=l.take i++l[i]::l.drop (i+1):=by rw [←List.drop_eq_getElem_cons hi,List.take_append_drop]
 rw [h1,List.idxOf_append,if_neg h,he,List.idxOf_cons_self,List.length_take];omega
theorem not_take {α:Type} {l:List α} {a:α} {i:Nat} (hi:i<l.length) (h:a ∉ l.take i) (he:l[i]≠a):a ∉ l.take (i+1):=by
 rw [List.take_succ_eq_append_getElem hi,List.mem_append,List.mem_singleton];exact fun q=>q.elim h (fun e=>he e.symm)
set_option maxHeartbeats 8000000 in
theorem chosen_any (hE:EnvM w0 A0 b G q mb g s vC vI rs gv E F S Inv) (hf:Fr G G w0 W) (hR:RunAt b A0 q g gv G F S Inv r W) (hk:s.code[k]? = some x) {t:Wd} (hc:conF s x=some t) {I ic:Nat} (hvI:vI = .slice (some ⟨I,0,none⟩) s.code.length ic) (hall:x.k.tail.all (fun j=>decide (j<s.cs.length))=true) (hkl:x.k.length<=1000000) :
  Calls Tryz.prog 136 #[.pointer (some ⟨b,0,none⟩),.pointer (some ⟨I,k*5,none⟩)] W (AskQ F S Inv r.gs W (ChoP s x) (wdF E t r.gs)):=by
 obtain ⟨j,hj,ht⟩:=conF_parts hc;have hp:=hE.prog W hf;obtain ⟨I1,ic1,kv,tv,q1,lt,i0,-,i3,-,kr,-⟩:=hp.ins hk;have hI1:=Option.some.inj (hp.q1.symm.trans q1);rw [hvI] at hI1;simp only [Value.slice.injEq,Option.some.injEq,Addr.mk.injEq,and_true,true_and] at hI1;rw [←hI1.1] at i3;obtain ⟨C,cc,q0,cj,hjl⟩:=hp.con ht;obtain ⟨K,kc,rfl,kj,hkl0⟩:=kr.at_ hj;have h3:=hE.n3 t (List.mem_of_getElem? ht);obtain ⟨v,st,cs,hO,hst,hen,hi,hsb,hsv,hS,hA,hF⟩:=hR;have hRC:RunC b A0 q g gv G F S Inv r v st cs W:=⟨hO,hst,hen,hi,hsb,hsv,hS,hA,hF⟩;have hcon:ConM b q j t W:=⟨hO.cell.1,C,s.cs.length,cc,q0,cj,hjl,hE.n2⟩;have HTX:=Lib.hid (text_any hE.get b q j t r.gs W hO.cell.2.2.1 hcon hi (by omega));obtain ⟨z,hZ⟩:∃ z,x.k.length=z:=⟨_,rfl⟩;rw [hZ] at i3 hkl0 hkl;obtain ⟨res,hres⟩:∃ res,wdF E t r.gs=res:=⟨_,rfl⟩;rw [hres] at HTX ⊢;have k3:(0:Int)<(z:Int):=by omega
 have HE:=Lib.hid hE;have HF:=Lib.hid hf;have HRC:=Lib.hid hRC;have HK:=Lib.hid hk;have HVI:=Lib.hid hvI;have HAL:=Lib.hid hall;have HZ:=Lib.hid hZ;clear hE hf hRC hk hvI hall hp hO hst hen hi hsb hsv hS hA hF kr hj ht hc hcon hres q1 i0 q0 cj lt hjl hI1 hZ;go_enter Tryz.func136,Tryz.ntmps136
 go_wp2_with fail
 refine HTX.out.mono ?_;intro e w1 hq
 cases res with
 | error er =>
  obtain ⟨c,s'⟩:=er;obtain ⟨⟨older,rfl,hold⟩,hI⟩:=hq;have HQ:=Lib.hid (show AskQ F S Inv r.gs W (ChoP s x) (.error (c,s'):Except (Nat×τ) (Wd×τ)) (.panicked ({ v:=errnoV c,recovered:=false }::older)) w1 from ⟨⟨older,rfl,hold⟩,hI⟩);clear hold hI HTX;go_wp2
  exact ⟨rfl,HQ.out⟩
 | ok p =>
  obtain ⟨u,s'⟩:=p;obtain ⟨⟨hu,rfl⟩,hI⟩:=hq;obtain ⟨h1,h2⟩:=HRC.out.asked HE.out hI;have hp:=HE.out.prog w1 (HF.out.trans h2);obtain ⟨I1,ic1,kv,tv,q1,lt,i0,-,i3',-,kr,-⟩:=hp.ins HK.out;have hI1:=Option.some.inj (hp.q1.symm.trans q1);rw [HVI.out] at hI1;simp only [Value.slice.injEq,Option.some.injEq,Addr.mk.injEq,and_true,true_and] at hI1;rw [←hI1.1] at i3';obtain ⟨K2,kc2,hkv,hK2b,hK2l,hK2⟩:=own_some kr (by rw [HZ.out];omega);have hkc:x.k.length<=kc2:=by
   rcases kr.2 with ⟨hv,hn⟩ | ⟨g2,cap2,cur,hv,_,_,hh,_⟩
   ·rw [HZ.out] at hn;omega
   ·rw [hkv] at hv;cases hv;exact hh
  rw [hkv,HZ.out] at i3';rw [HZ.out] at hkc;have b0:=h1.o.cell.1;have HI:=Lib.hid hI;have HP:=Lib.hid hp;have HK2:=Lib.hid hK2;obtain ⟨y,rfl⟩:∃ y,z=y+1:=⟨z - 1,by omega⟩;have l4:1<=kc2:=by omega
  have l5:((y:Int)+1) - 1=(y:Int):=by omega
  obtain ⟨L,hL⟩:∃ L,x.k.tail.map (fun j=>s.cs[j]?)=L:=⟨_,rfl⟩;have hLl:L.length=y:=by rw [←hL,List.length_map,List.length_tail,HZ.out];omega
  have htI:tabI s x u=L.idxOf (some u):=by unfold tabI;rw [hL]
  have HL:=Lib.hid (And.intro hL (And.intro hLl htI));have hsz:(⟨u.toArray⟩:ByteArray).size=u.length:=size_mk _;clear h1 h2 hI HTX hp q1 lt i0 kr hI1 hkv hK2 hK2b hK2l kj i3 hL hLl htI;by_cases hk1:kc2=1
  ·obtain rfl:y=0:=by omega
   subst hk1;have HQ:=Lib.hid (show tabI s x u=0 by
    obtain ⟨a,b,c⟩:=HL.out;rw [c,List.eq_nil_of_length_eq_zero b];rfl)
   go_wp2_with fail
   go_loopw [20] (fun iv wr=>iv = .int .i64 0/\wr=w1) (fun _ _=>0)
   case atStart=>exact ⟨rfl,rfl⟩
   case round =>
    obtain ⟨rfl,rfl⟩:=hrel;go_wp2
    go_ret
    exact ⟨by unfold ChoP;rw [HQ.out];rfl,HI.out⟩
  ·go_wp2_with fail
   go_loopw [20] (fun iv wr=>∃ i:Nat,iv = .int .i64 (i:Nat)/\i<=y/\some u ∉ L.take i/\Fr noF noF w1 wr) (fun iv _=>y - (intOf iv).toNat)
   case atStart=>exact ⟨0,rfl,Nat.zero_le _,by simp,Fr.refl _ _⟩
   case round =>
    obtain ⟨i,rfl,hiy,hnot,hfr⟩:=hrel;have HFR:=Lib.hid hfr;have HN:=Lib.hid hnot;by_cases hlt:i<y
    ·obtain ⟨hL,hLl,htI⟩:=HL.out;have hi1:i<L.length:=by omega
     have hkt:i<x.k.tail.length:=by rw [List.length_tail,HZ.out];omega
     have hji:x.k.tail[i]<s.cs.length:=of_decide_eq_true (List.all_eq_true.1 HAL.out _ (List.getElem_mem hkt));have hki:x.k[i+1]? = some x.k.tail[i]:=by rw [List.getElem_tail,List.getElem?_eq_getElem]
     obtain ⟨jj,hjj⟩:∃ jj,x.k.tail[i]=jj:=⟨_,rfl⟩;rw [hjj] at hji hki;obtain ⟨c,hcc⟩:∃ c,s.cs[jj]? = some c:=⟨_,List.getElem?_eq_getElem hji⟩;have hLi:L[i]=some c:=by
      have:L[i]? = some (some c):=by rw [←hL,List.getElem?_map,List.getElem?_eq_getElem hkt,hjj,Option.map_some,hcc]
      rw [List.getElem?_eq_getElem hi1] at this;exact Option.some.inj this
     obtain ⟨C2,cc2,q0,cj,hjl⟩:=HP.out.con hcc;have q0':=hfr.cell q0 id;have cj':=hfr.cell cj id;have b0':=hfr.cell b0 id;have i3b:=hfr.cell i3' id;have kj':wr.cell? ⟨K2,i+1,none⟩=some (.int .i64 jj):=hfr.cell (by rw [HK2.out _ (by rw [HZ.out];omega)];simp [intC,hki]) id;obtain ⟨mm,hmm⟩:∃ mm,s.cs.length=mm:=⟨_,rfl⟩;rw [hmm] at q0' hjl;have f1:(i:Int)<(y:Int):=by omega
     have f2:(1:Int)+(i:Int)<(y:Int)+1:=by omega
     have f3:(0:Int)<=1+(i:Int):=by omega
     have f4:IntKind.i64.wrap (1+(i:Int))=1+(i:Int):=by rw [IntKind.wrap_i64];omega
     have f5:(1+(i:Int)).toNat=i+1:=by omega
     have f6:(jj:Int)<(mm:Int):=by omega
     have hszc:(⟨c.toArray⟩:ByteArray).size=c.length:=size_mk _;clear hfr hnot q0 cj hjl hcc hjj hki hji hkt hL hLl htI hmm;by_cases hcu:c=u
     ·subst hcu;have HS:=Lib.hid (show tabI s x c=i by rw [HL.out.2.2];exact idx_stop hi1 HN.out hLi);clear hLi hi1;go_wp2_with fail
      refine rt (fun W':World=>W'.cell? ⟨b,0,none⟩=some (.pointer (some ⟨q,0,none⟩))/\W'.cell? ⟨q,0,none⟩=some (.slice (some ⟨C2,0,none⟩) mm cc2)/\W'.cell? ⟨I,k*5+3,none⟩=some (.slice (some ⟨K2,0,none⟩) (y+1) kc2)/\W'.cell? ⟨K2,i+1,none⟩=some (.int .i64 jj)/\W'.cell? ⟨C2,jj,none⟩=some (strv c)) (List.range 19) 0 ⟨b0',q0',i3b,kj',cj'⟩ ?_;(iterate 19 (refine ty ?_;try simp only [pl]))
      refine takes_nil ?_;refine wpAnyH_done (by kernel_rfl) ?_ _;go_wp2
      go_ret
      exact ⟨by unfold ChoP;rw [HS.out];rfl,AskQ.more HE.out.get HI.out (HFR.out.drew) (fun _ q=>q.elim)⟩
     ·have HN2:=Lib.hid (not_take hi1 HN.out (by rw [hLi];exact fun e=>hcu (Option.some.inj e)));have hcu':(c==u)=false:=by simpa using hcu
      clear hLi hi1;go_wp2_with fail
      refine rt (fun W':World=>W'.cell? ⟨b,0,none⟩=some (.pointer (some ⟨q,0,none⟩))/\W'.cell? ⟨q,0,none⟩=some (.slice (some ⟨C2,0,none⟩) mm cc2)/\W'.cell? ⟨I,k*5+3,none⟩=some (.slice (some ⟨K2,0,none⟩) (y+1) kc2)/\W'.cell? ⟨K2,i+1,none⟩=some (.int .i64 jj)/\W'.cell? ⟨C2,jj,none⟩=some (strv c)) (List.range 19) 0 ⟨b0',q0',i3b,kj',cj'⟩ ?_;(iterate 19 (refine ty ?_;try simp only [pl]))
      refine takes_nil ?_;refine wpAnyH_done (by kernel_rfl) ?_ _;go_wp2
      exact ⟨⟨i+1,congrArg (Value.int .i64) (by omega),by omega,HN2.out,HFR.out.drew⟩,by simp only [intOf];omega⟩
    ·obtain rfl:i=y:=by omega
     have HS:=Lib.hid (show tabI s x u=i by
      obtain ⟨hL,hLl,htI⟩:=HL.out;rw [htI];have h:=HN.out;rw [List.take_of_length_le (by omega)] at h;rw [List.idxOf_eq_length h,hLl])
     have i3b:=hfr.cell i3' id;have f1:¬((i:Int)<(i:Int)):=by omega
     clear hfr hnot;go_wp2
     go_ret
     exact ⟨by unfold ChoP;rw [HS.out];first | rfl | simp,AskQ.more HE.out.get HI.out HFR.out (fun _ q=>q.elim)⟩
end
theorem ProgAt.insR {q mb k:Nat} {s:MkS} {vC vI:Value} {rs:List (Value×Value)} {w:World} {x:InL} (h:ProgAt q s vC vI rs mb w) (hk:s.code[k]? = some x):∃ I ic kv tv,rs[k]? = some (kv,tv)/\vI = .slice (some ⟨I,0,none⟩) s.code.length ic/\InsM q k x I s.code.length ic kv tv w:=by
 have hil:=(List.getElem?_eq_some_iff.1 hk).1;obtain ⟨⟨kv,tv⟩,hr⟩:∃ r,rs[k]? = some r:=⟨_,List.getElem?_eq_getElem (by have:=h.rows.len;omega)⟩;obtain ⟨h1,h2⟩:=h.rows.k k x _ hk hr;obtain ⟨I,ic,hvI,-,hI,hins⟩:=own_some h.cI (by omega);have c:∀ j,j<5->w.cell? ⟨I,k*5+j,none⟩=(insV x (kv,tv))[j]? := fun j hj=>by rw [hins _ (by omega),insR_at _ _ h.rows.len k j x _ hk hr hj]
 exact ⟨I,ic,kv,tv,hr,hvI,⟨by rw [h.q1,hvI],hil,c 0 (by omega),c 2 (by omega),c 3 (by omega),c 4 (by omega),h1,h2⟩⟩
section
variable {τ:Type} {w0 W:World} {A0 b q mb g k:Nat} {G:Nat->Prop} {s:MkS} {vC vI gv:Value} {rs:List (Value×Value)} {E:EnvF τ} {F S:τ->Nat->Prop} {Inv:τ->World->Prop} {r:RSt τ} {x:InL}
def SelS (b A0 q g:Nat) (gv:Value) (G:Nat->Prop) (F S:τ->Nat->Prop) (Inv:τ->World->Prop) (s:MkS) (x:InL) (r:RSt τ) (res:Except (Nat×τ) (Wd×τ)) (W:World) (e:Ending) (w':World):Prop :=
 (match res with
  | .ok (u,s')=>(∀ p,x.tg[tabI s x u]? = some p->e = .returned (.int .i64 (jmpV s p)))/\RunAt b A0 q g gv G F S Inv { r with gs:=s' } w'
  | .error (n,s')=>PanE n e/\ErrQ Inv S b { r with gs:=s' } w')/\Fr G G W w'
set_option maxHeartbeats 8000000 in
theorem step_select (hE:EnvM w0 A0 b G q mb g s vC vI rs gv E F S Inv) (hf:Fr G G w0 W) (hR:RunAt b A0 q g gv G F S Inv r W) (hk:s.code[k]? = some x) (hop:x.op=10) {t:Wd} (hc:conF s x=some t) (hall:x.k.tail.all (fun j=>decide (j<s.cs.length))=true) (hkl:x.k.length<=1000000) (htab:∀ u,∃ p,x.tg[tabI s x u]? = some p) :
  Calls Tryz.prog 87 #[.pointer (some ⟨b,0,none⟩),.int .i64 (k:Nat)] W (SelS b A0 q g gv G F S Inv s x r (wdF E t r.gs) W):=by
 have hp:=hE.prog W hf;obtain ⟨I,ic,kv,tv,hrs,hvI,q1,lt,i0,-,-,i4,-,tr⟩:=hp.insR hk;obtain ⟨p0,hp0⟩:=htab [];obtain ⟨T,tc,htv,-,htl0⟩:=tr.at_ hp0;obtain ⟨v,st,cs,hO,hst,hen,hi,hsb,hsv,hS,hA,hF⟩:=hR;have hRC:RunC b A0 q g gv G F S Inv r v st cs W.drew:=⟨hO,hst,EntC.fr ((Fr.refl noF W).drew) (fun _ q=>q.elim) (fun _ q => .inl q) hen,hE.get.fr hi ((Fr.refl noF W).drew) (fun _ q=>q.elim),hsb,hsv,hS,hA,hF⟩;have hRA:RunAt b A0 q g gv G F S Inv r W.drew:=⟨v,st,cs,hRC.o,hRC.row,hRC.en,hRC.inv,hRC.sb,hRC.sv,hRC.ds,hRC.da,hRC.df⟩;have hfd:Fr G G w0 W.drew:=hf.drew;have HCH:=Lib.hid (chosen_any hE hfd hRA hk hc hvI hall hkl);have b0:=hO.cell.1;have hn1:=hE.n1;obtain ⟨n,hN⟩:∃ n,s.code.length=n:=⟨_,rfl⟩;obtain ⟨z,hZ⟩:∃ z,x.tg.length=z:=⟨_,rfl⟩;obtain ⟨res,hres⟩:∃ res,wdF E t r.gs=res:=⟨_,rfl⟩;rw [hres] at HCH ⊢;have HI4:=Lib.hid (fun (w:World) (h:ProgAt q s vC vI rs mb w)=>show w.cell? ⟨I,k*5+4,none⟩=some (.slice (some ⟨T,0,none⟩) z tc)/\∀ j y,x.tg[j]? = some y->w.cell? ⟨T,j,none⟩=some (.int .i64 (y:Nat)) from by
  obtain ⟨I',ic',kv',tv',hrs',hvI',q1',-,-,-,-,i4',-,tr'⟩:=h.insR hk;rw [hvI] at hvI';simp only [Value.slice.injEq,Option.some.injEq,Addr.mk.injEq,and_true,true_and] at hvI';rw [hrs] at hrs'
  cases hrs';rw [←hvI'.1] at i4';refine ⟨by rw [i4',htv,hZ],fun j y hj=>?_⟩;obtain ⟨T',tc',htv',hc',-⟩:=tr'.at_ hj;rw [htv] at htv'
  cases htv';exact hc')
 have i4W:=(HI4.out W hp).1;have tjW:=(HI4.out W hp).2;rw [hN] at q1 lt hn1;rw [hop] at i0;have k1:(k:Int)<(n:Int):=by omega
 have HE:=Lib.hid hE;have HF:=Lib.hid hfd;have HRC:=Lib.hid hRC;have HTB:=Lib.hid htab;have HX4:=Lib.hid (fun p hp=>(hE.n4 x (List.mem_of_getElem? hk)).2 p hp);obtain ⟨TG,hTG⟩:∃ TG,x.tg=TG:=⟨_,rfl⟩;rw [hTG] at tjW hZ HI4;have HZ:=Lib.hid hZ;have HTG:=Lib.hid hTG;clear hE hf hRC hRA hk hop hc hall hp hO hst hen hi hsb hsv hS hA hF hN hZ tr hrs hvI i4 htl0 htab hres hp0 hfd hTG htv;go_enter Tryz.func87,Tryz.ntmps87
 go_wp2_with fail
 refine rt (fun W':World=>W'.cell? ⟨b,0,none⟩=some (.pointer (some ⟨q,0,none⟩))/\W'.cell? ⟨I,k*5+4,none⟩=some (.slice (some ⟨T,0,none⟩) z tc)/\∀ j y,TG[j]? = some y->W'.cell? ⟨T,j,none⟩=some (.int .i64 (y:Nat))) (List.range 10) 5 ⟨b0,i4W,tjW⟩ ?_;(iterate 10 (refine ty ?_;try simp only [pl]))
 refine takes_nil ?_;refine wpAnyH_only 10 (by kernel_rfl) rfl (fun J hJ=>?_);go_simp
 refine HCH.out.mono ?_;intro e w1 hq
 cases res with
 | error er =>
  obtain ⟨c,s'⟩:=er;obtain ⟨⟨older,rfl,hold⟩,hI⟩:=hq;obtain ⟨h1,h2⟩:=HRC.out.asked HE.out hI;have HQ:=Lib.hid (show SelS b A0 q g gv G F S Inv s x r (.error (c,s'):Except (Nat×τ) (Wd×τ)) W (.panicked ({ v:=errnoV c,recovered:=false }::older)) w1 from ⟨⟨⟨older,rfl,hold⟩,h1.inv,fun k hk=>(h1.ds k hk).1⟩,h2.und⟩);clear hold hI HCH h1 h2;exact ⟨rfl,HQ.out⟩
 | ok p =>
  obtain ⟨u,s'⟩:=p;obtain ⟨hch,hI⟩:=hq;obtain rfl:=hch;obtain ⟨h1,h2⟩:=HRC.out.asked HE.out hI;have hp1:=HE.out.prog w1 (HF.out.trans h2);obtain ⟨i4b,tjb⟩:=HI4.out w1 hp1;have b0b:=h1.o.cell.1;obtain ⟨p,hpt⟩:=HTB.out u;obtain ⟨ix,hix⟩:∃ ix,tabI s x u=ix:=⟨_,rfl⟩;rw [hix] at hpt ⊢;have hpt':TG[ix]? = some p:=by rw [←HTG.out];exact hpt
  have k3:(ix:Int)<(z:Int):=by have:=(List.getElem?_eq_some_iff.1 hpt').1;have:=HZ.out;omega
  have HAT:=Lib.hid (at_any q mb s.code.length p (posN s.code s.code.length) w1 hp1.q2 hp1.mp (HX4.out p (List.mem_of_getElem? hpt)));have tj1:=tjb ix p hpt';have HFR:=Lib.hid (show Fr G G W w1 from h2.und);have HR1:=Lib.hid h1;obtain ⟨jv,hjv⟩:∃ jv,jmpV s p=jv:=⟨_,rfl⟩;rw [show jmpI (posN s.code s.code.length p)=jv from hjv] at HAT;have HJV:=Lib.hid hjv;have HPT:=Lib.hid (And.intro hpt hix);clear hI HCH h1 h2 hp1 hjv hpt hix b0 i4W tjW;refine hJ.out _ _ ⟨b0b,i4b,tjb⟩ fun _=>?_
  clear hJ J;refine wpAnyH_more [11,12] 2 rfl (by intro _ _ d _ _ h;cases d<;>exact h) (by kernel_rfl) (by kernel_rfl) ⟨b0b,i4b,tjb⟩ ?_;refine ty ?_;try simp only [pl]
  refine takes_yes (v := .int .i64 (p:Nat)) rfl (by rfl) ?_ ?_
  ·intro w' hS';have t1:=hS'.2.2 ix p hpt';go_simp
  try simp only [pl]
  refine takes_nil ?_;refine wpAnyH_only 13 (by kernel_rfl) rfl (fun J hJ=>?_);go_simp
  refine HAT.out.mono ?_;rintro e w3 ⟨rfl,rfl⟩;refine hJ.out _ _ ⟨b0b,i4b,tjb⟩ fun _=>?_
  clear hJ J;refine wpAnyH_more [14] 0 rfl (by intro _ _ d _ _ h;cases d<;>exact h) (by kernel_rfl) (by kernel_rfl) ⟨b0b,i4b,tjb⟩ ?_;refine ty ?_;try simp only [pl]
  refine takes_nil ?_;refine wpAnyH_done (by kernel_rfl) ?_ _;go_wp2
  go_ret
  refine ⟨⟨fun p' hp'=>?_,⟨_,_,_,HR1.out.o,HR1.out.row,HR1.out.en,HR1.out.inv,HR1.out.sb,HR1.out.sv,HR1.out.ds,HR1.out.da,HR1.out.df⟩⟩,HFR.out⟩;rw [HPT.out.2,HPT.out.1] at hp'
  cases hp';rw [HJV.out];rfl
end
def TabOk (s:MkS):Prop:=∀ x∈s.code,(x.op=7->0<x.tg.length)/\(x.op=10->x.k.length<=1000000/\x.k.tail.all (fun j=>decide (j<s.cs.length))=true/\x.k.tail.length<x.tg.length)
section
variable {τ:Type} {w0 W:World} {A0 b q mb g k:Nat} {G:Nat->Prop} {s:MkS} {vC vI gv:Value} {rs:List (Value×Value)} {E:EnvF τ} {F S:τ->Nat->Prop} {Inv:τ->World->Prop} {r:RSt τ} {x:InL}
def VmI (w0:World) (b A0 q g:Nat) (gv:Value) (G:Nat->Prop) (F S:τ->Nat->Prop) (Inv:τ->World->Prop) (m _:Nat) (r:RSt τ) (W:World):Prop :=
 RunAt b A0 q g gv G F S Inv r W/\Fr G G w0 W/\r.out.length+m*5000<=900000000/\r.stk.length+m<=900000
def VmJ (w0:World) (b A0 q g:Nat) (gv:Value) (G:Nat->Prop) (F S:τ->Nat->Prop) (Inv:τ->World->Prop) (r:RSt τ) (W:World):Prop :=
 RunAt b A0 q g gv G F S Inv r W/\r.out.length<=900000000
theorem vm_bound {n k m:Nat} (hl:n+(m+1)*5000<=k):n+m*5000<=k:=by
 rw [Nat.succ_mul] at hl;exact Nat.le_trans (Nat.add_le_add_left (Nat.le_add_right _ _) n) hl
theorem vm_bound1 {n k m:Nat} (hl:n+(m+1)<=k):n+m<=k:=by omega
theorem vm_bound0 {n k m:Nat} (hl:n+(m+1)*5000<=k):n<=k:=by omega
theorem vm_go {m:Nat} (hf:Fr G G w0 W) (hl:r.out.length+(m+1)*5000<=900000000) (hs:r.stk.length+(m+1)<=900000) {r':RSt τ} {e:Ending} {w':World} (h1:e = .returned (.int .i64 ((k+1:Nat):Int))) (h2:VmQ b A0 q g gv G F S Inv r (k+1) r' w') (h3:Fr G G W w') :
  VStQ G (VmI w0 b A0 q g gv G F S Inv m) (VmJ w0 b A0 q g gv G F S Inv) (ErrQ Inv S b) (.go (k+1) r') W e w' :=
 ⟨⟨h1,h2.1,hf.trans h3,by have:=h2.2.1;omega,by have:=h2.2.2;omega⟩,h3⟩
theorem vm_same {m:Nat} (hf:Fr G G w0 W) (hl:r.out.length+(m+1)*5000<=900000000) (hs:r.stk.length+(m+1)<=900000) {r':RSt τ} {e:Ending} {w':World} (h1:e = .returned (.int .i64 ((k+1:Nat):Int))) (h2:RunAt b A0 q g gv G F S Inv r' w') (h3:Fr G G W w') (a1:r'.out=r.out) (a2:r'.stk=r.stk) :
  VStQ G (VmI w0 b A0 q g gv G F S Inv m) (VmJ w0 b A0 q g gv G F S Inv) (ErrQ Inv S b) (.go (k+1) r') W e w':=by
 have k2:r.out.length+m*5000<=900000000:=vm_bound hl;have k3:r.stk.length+m<=900000:=vm_bound1 hs;exact ⟨⟨h1,h2,hf.trans h3,by simp only [a1];exact k2,by simp only [a2];exact k3⟩,h3⟩
theorem vm_jmp {m p:Nat} (hf:Fr G G w0 W) (hl:r.out.length+(m+1)*5000<=900000000) (hs:r.stk.length+(m+1)<=900000) {r':RSt τ} {e:Ending} {w':World} (h1:e = .returned (.int .i64 (jmpV s p))) (h2:RunAt b A0 q g gv G F S Inv r' w') (h3:Fr G G W w') (a1:r'.out=r.out) (a2:r'.stk=r.stk) :
  VStQ G (VmI w0 b A0 q g gv G F S Inv m) (VmJ w0 b A0 q g gv G F S Inv) (ErrQ Inv S b) (toF s (some p) r') W e w':=by
 have k2:r.out.length+m*5000<=900000000:=vm_bound hl;have k1:r.out.length<=900000000:=vm_bound0 hl;have k3:r.stk.length+m<=900000:=vm_bound1 hs;refine ⟨?_,h3⟩;simp only [toF];subst h1;unfold jmpV
 cases posN s.code s.code.length p with
 | none=>exact ⟨rfl,h2,by simp only [a1];exact k1⟩
 | some k'=>exact ⟨rfl,h2,hf.trans h3,by simp only [a1];exact k2,by simp only [a2];exact k3⟩
def askO (r:RSt τ) (k:Nat) {α:Type} (fn:α->τ->RSt τ) (res:Except (Nat×τ) (α×τ)):StO (RSt τ):=match res with | .error (n,s') => .err n { r with gs:=s' } | .ok (a,s') => .go (k+1) (fn a s')
theorem vm_ask {m:Nat} {α:Type} {fn:α->τ->RSt τ} (hf:Fr G G w0 W) (hl:r.out.length+(m+1)*5000<=900000000) (hs:r.stk.length+(m+1)<=900000) {res:Except (Nat×τ) (α×τ)} {e:Ending} {w':World} (h:AskS b A0 q g gv G F S Inv r k fn res W e w') {o:StO (RSt τ)}
  (ho:o=askO r k fn res) :
  VStQ G (VmI w0 b A0 q g gv G F S Inv m) (VmJ w0 b A0 q g gv G F S Inv) (ErrQ Inv S b) o W e w':=by
 subst ho;obtain ⟨h1,h2⟩:=h
 cases res with
 | error er=>exact ⟨h1,h2⟩
 | ok a=>exact vm_go hf hl hs h1.1 h1.2 h2
theorem last_parts {α:Type} {l:List α} {t:α} (h:l.getLast? = some t):l=l.dropLast++[t]:=by
 obtain ⟨ys,rfl⟩:=List.getLast?_eq_some_iff.1 h;simp
theorem at_of {x:InL} {i:Nat} {r:RSt τ} (h:toF s x.tg[i]? r ≠ .bad):∃ p,x.tg[i]? = some p:=by
 cases hp:x.tg[i]? with
 | none=>rw [hp] at h;exact absurd rfl h
 | some p=>exact ⟨p,rfl⟩
theorem vm_step (hE:EnvM w0 A0 b G q mb g s vC vI rs gv E F S Inv) (hT:TabOk s) {m:Nat} (hI:VmI w0 b A0 q g gv G F S Inv (m+1) k r W) (hb:stepM E s k r ≠ .bad) :
  Calls Tryz.prog 87 #[.pointer (some ⟨b,0,none⟩),.int .i64 (k:Nat)] W (VStQ G (VmI w0 b A0 q g gv G F S Inv m) (VmJ w0 b A0 q g gv G F S Inv) (ErrQ Inv S b) (stepM E s k r) W):=by
 obtain ⟨hR,hf,hl,hs⟩:=hI;have hno:∀ {w w':World},Fr noF noF w w'->Fr G G w w':=fun h=>(h.tg (F'':=noF) (fun k hk=>hk.elim)).wide (fun k hk=>hk.elim)
 have hsl:r.stk.length<=900000:=by omega
 have hsm:r.stk.length<=1000000:=by omega
 have hll:r.out.length<=900000000:=by omega
 cases hk:s.code[k]? with
 | none=>exact absurd (by simp only [stepM,hk]) hb
 | some x =>
  have hst:stepM E s k r=insF E s x k r:=by simp only [stepM,hk]
  rw [hst] at hb ⊢;have h11:x.op=0\/x.op=1\/x.op=2\/x.op=3\/x.op=4\/x.op=5\/x.op=6\/x.op=7\/x.op=8\/x.op=9\/x.op=10\/x.op=11\/12<=x.op:=by omega
  rcases h11 with hop | hop | hop | hop | hop | hop | hop | hop | hop | hop | hop | hop | hop
  ·rw [show insF E s x k r = .fin r by unfold insF;rw [hop];rfl];obtain ⟨v,st,cs,hO,hR'⟩:=hR;refine (step_end hO (hE.prog W hf) hk hop hE.n1).mono ?_;rintro e w' ⟨rfl,rfl⟩;exact ⟨⟨rfl,⟨v,st,cs,hO,hR'⟩,hll⟩,Fr.refl _ _⟩
  ·cases hc:conF s x with
   | none=>exact absurd (by unfold insF;rw [hop];simp only [hc]) hb
   | some t =>
    rw [show insF E s x k r = .go (k+1) { r with out:=r.out++t } by unfold insF;rw [hop];simp only [hc]];exact (step_txt hE hf hR hk hop hc hll).mono fun e w' h=>vm_go hf hl hs h.1 h.2.1 h.2.2
  ·cases hc:conF s x with
   | none=>exact absurd (by unfold insF;rw [hop];simp only [hc]) hb
   | some t =>
    refine (step_put hE hf hR hk hop hc hll).mono fun e w' h=>vm_ask hf hl hs h ?_
    unfold insF;rw [hop];simp only [hc];generalize argF E t r.gs=z;rcases z with ⟨n,g'⟩ | ⟨⟨t,num⟩,g'⟩<;>rfl
  ·cases hc:conF s x with
   | none=>exact absurd (by unfold insF;rw [hop];simp only [hc]) hb
   | some t =>
    refine (step_number hE hf hR hk hop hc hll).mono fun e w' h=>vm_ask hf hl hs h ?_
    unfold insF;rw [hop];simp only [hc];generalize numF E t r.gs=z;rcases z with ⟨n,g'⟩ | ⟨v,g'⟩<;>rfl
  ·cases hc:conF s x with
   | none=>exact absurd (by unfold insF;rw [hop];simp only [hc]) hb
   | some t =>
    refine (step_enter hE hf hR hk hop hc hsl).mono fun e w' h=>vm_ask hf hl hs h ?_
    unfold insF;rw [hop];simp only [hc];generalize numF E t r.gs=z;rcases z with ⟨n,g'⟩ | ⟨v,g'⟩<;>rfl
  ·cases hc:r.stk.getLast? with
   | none=>exact absurd (by unfold insF;rw [hop];simp only [hc]) hb
   | some t =>
    rw [show insF E s x k r = .go (k+1) { r with stk:=r.stk.dropLast } by unfold insF;rw [hop];simp only [hc]];exact (step_leave hE hf hR hk hop (last_parts hc) hsm).mono fun e w' h=>vm_go hf hl hs h.1 h.2.1 h.2.2
  ·cases hc:r.stk.getLast? with
   | none=>exact absurd (by unfold insF;rw [hop];simp only [hc]) hb
   | some t =>
    rw [show insF E s x k r = .go (k+1) { r with out:=r.out++E.wr t.2 } by unfold insF;rw [hop];simp only [hc]];exact (step_hash hE hf hR hk hop (last_parts hc) hsm hll).mono fun e w' h=>vm_go hf hl hs h.1 h.2.1 h.2.2
  ·cases hc:r.stk.getLast? with
   | none=>exact absurd (by unfold insF;rw [hop];simp only [hc]) hb
   | some t =>
    rw [show insF E s x k r=if sameN t.1 x.v then toF s x.tg[0]? r else .go (k+1) r by unfold insF;rw [hop];simp only [hc]] at hb ⊢;obtain ⟨p,hp⟩:∃ p,x.tg[0]? = some p:=⟨_,List.getElem?_eq_getElem ((hT x (List.mem_of_getElem? hk)).1 hop)⟩;rw [hp];refine (step_equal hE hf hR hk hop hp (last_parts hc) hsm).mono fun e w' h=>?_
    by_cases hs0:sameN t.1 x.v=true
    ·rw [if_pos hs0];exact vm_jmp hf hl hs (by rw [h.1,if_pos hs0]) (hR.quiet hE h.2) (hno h.2) rfl rfl
    ·rw [if_neg hs0];exact vm_same hf hl hs (by rw [h.1,if_neg hs0]) (hR.quiet hE h.2) (hno h.2) rfl rfl
  ·cases hc:r.stk.getLast? with
   | none=>exact absurd (by unfold insF;rw [hop];simp only [hc]) hb
   | some t =>
    rw [show insF E s x k r=toF s x.tg[E.sort false t.2.2]? r by unfold insF;rw [hop];simp only [hc]] at hb ⊢;obtain ⟨p,hp⟩:=at_of hb;rw [hp];exact (step_card hE hf hR hk hop (last_parts hc) hp hsm).mono fun e w' h=>vm_jmp hf hl hs h.1 (hR.quiet hE h.2) (hno h.2) rfl rfl
  ·cases hc:r.stk.getLast? with
   | none=>exact absurd (by unfold insF;rw [hop];simp only [hc]) hb
   | some t =>
    rw [show insF E s x k r=toF s x.tg[E.sort true t.2.2]? r by unfold insF;rw [hop];simp only [hc]] at hb ⊢;obtain ⟨p,hp⟩:=at_of hb;rw [hp];exact (step_ordl hE hf hR hk hop (last_parts hc) hp hsm).mono fun e w' h=>vm_jmp hf hl hs h.1 (hR.quiet hE h.2) (hno h.2) rfl rfl
  ·cases hc:conF s x with
   | none=>exact absurd (by unfold insF;rw [hop];simp only [hc]) hb
   | some t =>
    obtain ⟨a1,a2,a3⟩:=(hT x (List.mem_of_getElem? hk)).2 hop;have htab:∀ u,∃ p,x.tg[tabI s x u]? = some p:=fun u=>⟨_,List.getElem?_eq_getElem (Nat.lt_of_le_of_lt (by unfold tabI;exact Nat.le_trans List.idxOf_le_length (by simp)) a3)⟩
    refine (step_select hE hf hR hk hop hc a2 a1 htab).mono fun e w' h=>?_
    rw [show insF E s x k r=(match wdF E t r.gs with | .error (e,g) => .err e { r with gs:=g } | .ok (t,g)=>toF s x.tg[tabI s x t]? { r with gs:=g }) by unfold insF;rw [hop];simp only [hc,a2,if_true];generalize wdF E t r.gs=z;rcases z with ⟨n,g'⟩ | ⟨u,g'⟩<;>rfl];obtain ⟨h1,h2⟩:=h
    cases hw:wdF E t r.gs with
    | error er =>
     rw [hw] at h1;exact ⟨h1,h2⟩
    | ok p =>
     obtain ⟨u,s'⟩:=p;rw [hw] at h1;obtain ⟨p,hp⟩:=htab u;show VStQ _ _ _ _ (toF s x.tg[tabI s x u]? { r with gs:=s' }) _ _ _;rw [hp];exact vm_jmp hf hl hs (h1.1 p hp) h1.2 h2 rfl rfl
  ·rw [show insF E s x k r=toF s x.tg[0]? r by unfold insF;rw [hop];rfl] at hb ⊢;obtain ⟨p,hp⟩:=at_of hb;rw [hp];exact (step_goto hE hf hR hk hop hp).mono fun e w' h=>vm_jmp hf hl hs h.1 (hR.quiet hE h.2) (hno h.2) rfl rfl
  ·refine absurd ?_ hb;unfold insF;split<;>first | rfl | omega
end
end Go.Proofs.YthpldolmpinnhaaGreatDoor
