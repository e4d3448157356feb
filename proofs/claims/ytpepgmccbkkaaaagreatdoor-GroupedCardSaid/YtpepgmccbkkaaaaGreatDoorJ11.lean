import Derived.Test.YtpepgmccbkkaaaaGreatDoorJ10
import Derived.Laws.EntriesVeiled
import Derived.Deep.LoopGhost
import Derived.WalkMore
import Derived.Defers
import Derived.Recover

/- plural's parser: rows. -/
namespace Go.Proofs.YtpepgmccbkkaaaaGreatDoor
open Go Go.RowKit
set_option maxRecDepth 10000

/-- a function value that parses -/
def OneR (p : Nat) (w : World) (v : Value) (P : Parser) : Prop :=
  ∃ k first cap, v = .func (.func k) first cap ∧ (∀ args w, (callFunc k args).run Tryz.prog w = .ok (.enter k args) w) ∧
    ∀ W ws, But p w W → PAt W p ws → (∀ x ∈ ws, WOk x) → ws.length ≤ 1000 → Calls Tryz.prog k (first ++ cap) W (ParseQ p (P ws) W)

/-- a function value that puts tests together -/
def TogR (v : Value) (tog : List Tst → Tst) : Prop :=
  ∃ k, v = .func (.func k) #[] #[] ∧ (∀ args w, (callFunc k args).run Tryz.prog w = .ok (.enter k args) w) ∧
    ∀ (Ts : List Tst) (a : Option Addr) (c lo : Nat) (W : World), Ts.length ≤ 1000000 → lo ≤ W.heap.size → TestsR lo W.heap.size W a Ts →
      Calls Tryz.prog k #[.slice a Ts.length c] W fun e w' => (∃ v, e = .returned v ∧ TestR lo w'.heap.size w' v (tog Ts)) ∧ Below W.heap.size W w'

/-- the loop's relation: 'is' stands next -/
def RowRel (p : Nat) (word : Wd) (P : Parser) (r : Option (List Tst × List Wd)) (n0 : Nat) (w : World) (sv : Value) (n : Nat) (wr : World) : Prop :=
  ∃ (Ts : List Tst) (us : List Wd), RowT w.heap.size wr sv Ts ∧ PAt wr p us ∧ But p w wr ∧ us.length + Ts.length ≤ n0 + 1 ∧ (∀ x ∈ us, WOk x) ∧ us.length ≤ n ∧ us.length ≤ n0 ∧
    (if isW word us then pRowGo word P n Ts us.tail else some (Ts, us)) = r

theorem row_lit {lo l0 h0 : Nat} {w : World} {u : Value} {T : Tst} (hT : TestR l0 h0 w u T) (hlo : lo ≤ l0) (hh : h0 ≤ w.heap.size) (hl : lo ≤ w.heap.size) :
    RowT lo (w.alloc (.cells #[u] 118)) (.slice (some ⟨w.heap.size, 0, none⟩) 1 1) [T] := by
  have hb : Below w.heap.size w (w.alloc (.cells #[u] 118)) := (Below.refl _ _).alloc (Nat.le_refl _) _
  refine ⟨[u], World.ownsRow_lit w #[u] 1 hl (by decide) rfl, fun j hj => ?_⟩
  have : j = 0 := by simp at hj; omega
  subst this
  exact ⟨u, l0, h0, rfl, hlo, Nat.le_trans hh hb.size, fun g hg => by cases hg; exact .inr hh, hT.keep (keep_below hb hh hh) (Nat.le_refl _) (Nat.le_refl _)⟩

set_option maxHeartbeats 2000000 in
theorem row_any (p : Nat) (word : Wd) (tog : List Tst → Tst) (P : Parser) (tv ov : Value) (ws : List Wd) (w : World) (hp : PAt w p ws) (hx : ∀ x ∈ ws, WOk x) (hl : ws.length ≤ 1000) (ht : TogR tv tog) (ho : OneR p w ov P) (hs : ∀ us T t, P us = some (T, t) → Sub t us) :
    Calls Tryz.prog 69 #[.pointer (some ⟨p, 0, none⟩), strv word, tv, ov] w (ParseQ p (pRow word tog P ws) w) := by
  obtain ⟨r, hr⟩ : ∃ r, pRowGo word P (ws.length + 1) [] ws = r := ⟨_, rfl⟩
  have hpr : pRow word tog P ws = r.map fun q => (tog q.1, q.2) := by unfold pRow; rw [hr]
  rw [hpr]
  have HR := Lib.hid hr
  have HX := Lib.hid hx
  have HP := Lib.hid hp
  have HS := Lib.hid hs
  have hlt := hp.lt
  obtain ⟨kt, rfl, het, htog⟩ := ht
  obtain ⟨ko, first, cap, rfl, heo, hone⟩ := ho
  have HTOG := Lib.hid htog
  have HONE := Lib.hid hone
  clear hr hpr hx hp hs htog hone
  go_enter Tryz.func69, Tryz.ntmps69
  go_wp2_with fail
  refine (HONE.out w ws (But.refl _ _) HP.out HX.out hl).mono ?_
  rintro e w1 ⟨hq, hb1⟩
  cases hn : P ws with
  | none =>
    rw [hn] at hq
    obtain rfl := hq
    have hr0 : r = none := by rw [← HR.out, pRowGo, hn]
    have HR0 := Lib.hid hr0
    clear hr0 hn
    go_wp2
    refine ⟨rfl, ?_, hb1⟩
    rw [HR0.out]
    rfl
  | some q =>
    obtain ⟨T1, t1⟩ := q
    rw [hn] at hq
    obtain ⟨⟨v, rfl, hT1⟩, hp1⟩ := hq
    have hsub1 := HS.out _ _ _ hn
    have hrl := row_lit hT1 (Nat.le_refl w.heap.size) (Nat.le_refl _) hb1.size
    have HRL := Lib.hid hrl
    obtain ⟨kv, cpv, rfl, _⟩ := hT1
    have hb1A : But p w (w1.alloc (.cells #[.func (.func kv) #[] cpv] 118)) := hb1.below ((Below.refl _ _).alloc (Nat.le_refl _) _)
    have hp1A : PAt (w1.alloc (.cells #[.func (.func kv) #[] cpv] 118)) p t1 := hp1.below ((Below.refl _ _).alloc (Nat.le_refl _) _)
    have HP1 := Lib.hid hp1A
    have hrr : (if isW word t1 then pRowGo word P ws.length [T1] t1.tail else some ([T1], t1)) = r := by rw [← HR.out, pRowGo, hn]; rfl
    have HRR := Lib.hid hrr
    have HX1 := Lib.hid (fun x hx => HX.out x (hsub1.mem x hx))
    have hln1 := hsub1.len
    clear hn hp1 hp1A hrl hrr hsub1
    go_wp2_with fail
    go_loopg [9] ws.length (fun n sv wr => RowRel p word P r ws.length w sv n wr)
    case atStart => exact ⟨[T1], t1, HRL.out, HP1.out, hb1A, by simp; omega, HX1.out, hln1, hln1, HRR.out⟩
    case round =>
      obtain ⟨Ts, us, hrow, hpa, hbut, hlen, hxs, hun, hu0, hgo⟩ := hrel
      have HROW := Lib.hid hrow
      have HPA := Lib.hid hpa
      have HXS := Lib.hid hxs
      have HGO := Lib.hid hgo
      obtain ⟨a, c, rfl⟩ := hrow.form
      clear hrow hpa hxs hgo
      go_wp2_with fail
      refine (is_lit p word us _ HPA.out).mono ?_
      rintro e w2 ⟨rfl, hp2, hb2⟩
      have hbut2 := hbut.trans hb2
      have HROW2 := Lib.hid (HROW.out.but hb2 hlt)
      have HP2 := Lib.hid hp2
      clear hp2
      cases hi : isW word us
      · have hgo := HGO.out
        rw [hi] at hgo
        have hp2 := HP2.out
        rw [hi] at hp2
        have HGO2 := Lib.hid hgo
        have HPZ := Lib.hid hp2
        have hsm := HTOG.out Ts a c w.heap.size w2 (by omega) hbut2.size HROW2.out.tests
        have HSM := Lib.hid hsm
        clear hi hgo hp2 hsm
        go_wp2_with fail
        refine HSM.out.mono ?_
        rintro e w3 ⟨⟨v, rfl, htt⟩, hb3⟩
        have HTT := Lib.hid htt
        clear htt
        go_wp2
        go_ret
        rw [← HGO2.out]
        exact ⟨⟨⟨_, rfl, HTT.out⟩, HPZ.out.below hb3⟩, hbut2.below hb3⟩
      · have hgo := HGO.out
        rw [hi] at hgo
        have hp2 := HP2.out
        rw [hi] at hp2
        have HPZ := Lib.hid hp2
        have hpos : 0 < us.length := by
          cases us with
          | nil => cases hi
          | cons x y => simp
        obtain ⟨m, rfl⟩ : ∃ m, gk = m + 1 := ⟨gk - 1, by omega⟩
        have HGO2 := Lib.hid hgo
        have hone := HONE.out w2 us.tail hbut2 hp2 (fun x hx => HXS.out x (List.mem_of_mem_tail hx)) (by simp; omega)
        have HON := Lib.hid hone
        clear hi hgo hp2 hone
        go_wp2_with fail
        refine HON.out.mono ?_
        rintro e w3 ⟨hq3, hb3⟩
        have hbut3 := hbut2.trans hb3
        cases hn3 : P us.tail with
        | none =>
          rw [hn3] at hq3
          obtain rfl := hq3
          have hr0 : r = none := by rw [← HGO2.out]; simp [pRowGo, hn3]
          have HR0 := Lib.hid hr0
          clear hr0 hn3
          go_wp2
          refine ⟨rfl, ?_, hbut3⟩
          rw [HR0.out]
          rfl
        | some q3 =>
          obtain ⟨T3, t3⟩ := q3
          rw [hn3] at hq3
          obtain ⟨⟨v, rfl, hT3⟩, hp3⟩ := hq3
          have hsub3 := HS.out _ _ _ hn3
          have hgo3 : (if isW word t3 then pRowGo word P m (Ts ++ [T3]) t3.tail else some (Ts ++ [T3], t3)) = r := by rw [← HGO2.out]; simp [pRowGo, hn3]
          have HGO3 := Lib.hid hgo3
          obtain ⟨vs, ho4, ht4⟩ := HROW2.out.but hb3 hlt
          have HFT := Lib.hid hT3
          have HP4 := Lib.hid hp3
          have HT4 := Lib.hid ht4
          have HO4 := Lib.hid ho4
          have HX3 := Lib.hid (fun x hx => HXS.out x (List.mem_of_mem_tail (hsub3.mem x hx)))
          have hl3 : t3.length + 1 ≤ us.length := by have := hsub3.len; simp at this; omega
          obtain ⟨kf, cpf, rfl, _⟩ := hT3
          clear hp3 ht4 ho4 hn3 hgo3 hsub3
          go_wp2_with (at_builtin; refine app_own_at elem_tests rfl _ _ rfl w.heap.size _ Ts.length vs rfl (HO4.out.alloc _) ⟨w3.heap.size, 0, none⟩ 1 1 [.func (.func kf) #[] cpf] rfl rfl ?c1 ?c2 ?c3 ?c4 ?_)
          case c1 => exact cells_one (cell_made _ _ _ _ _)
          case c2 => intro u hu; simp at hu; subst hu; rfl
          case c3 => omega
          case c4 => have := hbut3.size; simp; omega
          intro sv' w5 ho5 hg5 hat5
          have hbA : Below w3.heap.size w3 (w3.alloc (.cells #[.func (.func kf) #[] cpf] 118)) := (Below.refl _ _).alloc (Nat.le_refl _) _
          have hownb : ∀ g, (Value.slice a Ts.length c).ownBlock = some g → w.heap.size ≤ g ∧ g < w2.heap.size := fun g hg => by
            obtain ⟨_, ho3, _⟩ := HROW2.out
            exact ho3.lt g hg
          have hrow5 : RowT w.heap.size w5 sv' (Ts ++ [T3]) :=
            RowT.more HT4.out (by have := HO4.out.1; omega) HFT.out (by have := hbut2.size; omega) (Nat.le_refl _) (fun g hg => .inl (hownb g hg).2) hbA hg5 (by simpa using hat5) ho5
          have hp5 : PAt w5 p t3 := (HP4.out.below hbA).row (HO4.out.alloc _) hlt hg5
          have hbut5 : But p w w5 := (hbut3.below hbA).grown hg5 (fun k hk => (hownb k hk).1)
          obtain ⟨a5, c5, rfl⟩ := own_slice ho5
          have HROW5 := Lib.hid hrow5
          have HP5 := Lib.hid hp5
          clear hrow5 hp5 ho5 hg5 hat5 hbA hownb
          go_wp2
          go_roundg m
          case measure => omega
          case rel => exact ⟨Ts ++ [T3], t3, by simpa using HROW5.out, HP5.out, hbut5, by simp; omega, HX3.out, by omega, by omega, HGO3.out⟩
end Go.Proofs.YtpepgmccbkkaaaaGreatDoor

/- plural's tokens: a rule's words, as the program finds them. -/
namespace Go.Proofs.YtpepgmccbkkaaaaGreatDoor
open Go Go.RowKit
set_option maxRecDepth 10000

theorem cutAt_any (s : ByteArray) (w : World) (hs : s.size ≤ 1000000) :
    Calls Tryz.prog 39 #[.string s, .string ⟨#[64]⟩] w fun e w' =>
      e = .returned (.tuple #[.string ⟨(s.data.toList.take (s.data.toList.idxOf 64)).toArray⟩, .string ⟨(s.data.toList.drop (s.data.toList.idxOf 64 + 1)).toArray⟩, .bool (decide (s.data.toList.idxOf 64 < s.size))]) ∧ ∃ n, w' = w.drewN n := by
  have hL := fun w => liteCut_any s 64 w hs
  have HL := Lib.hid hL
  clear hL
  go_enter Tryz.func39, Tryz.ntmps39
  go_wp2_with fail
  refine (HL.out _).mono ?_
  rintro e w' ⟨rfl, n, rfl⟩
  go_wp2
  go_ret3
  exact ⟨rfl, n, rfl⟩

/-- what is thrown where a rule is none -/
abbrev thrownT : Ending := .panicked [{ v := .iface 151 (.agg #[]), recovered := false }]

def TokQ (r : Option (List Wd)) (w : World) (e : Ending) (w' : World) : Prop :=
  (match r with | none => e = thrownT | some ws => ∃ v, e = .returned v ∧ w'.ownsRow w.heap.size 9 1 v ws.length (ws.map strv)) ∧ Below w.heap.size w w'

/-- the loop's relation -/
def TokRel (r : Option (List Wd)) (n0 : Nat) (w : World) (s sv : Value) (n : Nat) (wr : World) : Prop :=
  ∃ (acc : List Wd) (l : List UInt8), s = .string ⟨l.toArray⟩ ∧ wr.ownsRow w.heap.size 9 1 sv acc.length (acc.map strv) ∧ Below w.heap.size w wr ∧ l.length < n ∧ l.length + acc.length ≤ n0 ∧ tokGo n acc l = r

theorem prefix_no {l m : List UInt8} (h : Lib.hasPrefix l m = false) : Lib.trimPrefix l m = l := by
  unfold Lib.trimPrefix
  simp [h]

theorem sign_hit {c : UInt8} {t m : List UInt8} (hm : m = [33, 61] ∨ m = [46, 46] ∨ m = [61] ∨ m = [44] ∨ m = [37]) (h : Lib.hasPrefix (c :: t) m = true) : signL (c :: t) = some m ∧ Lib.trimPrefix (c :: t) m = (c :: t).drop m.length := by
  have ht : Lib.trimPrefix (c :: t) m = (c :: t).drop m.length := by unfold Lib.trimPrefix; rw [if_pos h]
  refine ⟨?_, ht⟩
  unfold Lib.hasPrefix at h
  rcases hm with rfl | rfl | rfl | rfl | rfl
  · cases t with
    | nil => simp [List.isPrefixOf] at h
    | cons d u =>
      simp [List.isPrefixOf] at h
      obtain ⟨rfl, rfl⟩ := h
      rfl
  · cases t with
    | nil => simp [List.isPrefixOf] at h
    | cons d u =>
      simp [List.isPrefixOf] at h
      obtain ⟨rfl, rfl⟩ := h
      rfl
  · simp [List.isPrefixOf] at h; subst h; rfl
  · simp [List.isPrefixOf] at h; subst h; rfl
  · simp [List.isPrefixOf] at h; subst h; rfl

theorem sign_miss {c : UInt8} {t : List UInt8} (h0 : Lib.hasPrefix (c :: t) [33, 61] = false) (h1 : Lib.hasPrefix (c :: t) [46, 46] = false) (h2 : Lib.hasPrefix (c :: t) [61] = false) (h3 : Lib.hasPrefix (c :: t) [44] = false) (h4 : Lib.hasPrefix (c :: t) [37] = false) : signL (c :: t) = none := by
  unfold signL
  split
  · rename_i u e; cases e; simp [Lib.hasPrefix, List.isPrefixOf] at h0
  · rename_i u e; cases e; simp [Lib.hasPrefix, List.isPrefixOf] at h1
  · rename_i u e; cases e; simp [Lib.hasPrefix, List.isPrefixOf] at h2
  · rename_i u e; cases e; simp [Lib.hasPrefix, List.isPrefixOf] at h3
  · rename_i u e; cases e; simp [Lib.hasPrefix, List.isPrefixOf] at h4
  · rfl

theorem run_of {p : UInt8 → Bool} : ∀ {t : List UInt8} {m : Nat}, m ≤ t.length → (t.take m).all p = true → (∀ h : m < t.length, p t[m] = false) → t.takeWhile p = t.take m ∧ t.dropWhile p = t.drop m
  | [], 0, _, _, _ => ⟨rfl, rfl⟩
  | [], m + 1, h, _, _ => absurd h (by simp)
  | c :: t, 0, _, _, h => by
    have := h (by simp)
    have hc : p c = false := by simpa using this
    rw [List.takeWhile_cons_of_neg (by simp [hc]), List.dropWhile_cons_of_neg (by simp [hc])]
    exact ⟨rfl, rfl⟩
  | c :: t, m + 1, hm, ha, h => by
    simp only [List.take_succ_cons, List.all_cons, Bool.and_eq_true] at ha
    have ih := run_of (t := t) (m := m) (by simpa using hm) ha.2 (fun hl => by have := h (by simp; omega); simpa using this)
    rw [List.takeWhile_cons_of_pos ha.1, List.dropWhile_cons_of_pos ha.1, ih.1, ih.2]
    exact ⟨rfl, rfl⟩

theorem class_le (c : UInt8) : classL c ≤ 3 := by
  unfold classL
  split
  · decide
  split
  · decide
  split <;> decide

set_option maxHeartbeats 40000000 in
theorem tokens_any (s : ByteArray) (w : World) (hs : s.size ≤ 1000) : Calls Tryz.prog 68 #[.string s] w (TokQ (tokL s.data.toList) w) := by
  obtain ⟨r, hr⟩ : ∃ r, tokL s.data.toList = r := ⟨_, rfl⟩
  rw [hr]
  have hl0 : (s.data.toList.take (s.data.toList.idxOf 64)).length ≤ s.size := by simp; omega
  unfold tokL at hr
  rw [size_toList] at hr
  obtain ⟨l0, hl⟩ : ∃ l0, s.data.toList.take (s.data.toList.idxOf 64) = l0 := ⟨_, rfl⟩
  have hC := cutAt_any s w (by omega)
  rw [hl] at hr hl0 hC
  have HR := Lib.hid hr
  have HC := Lib.hid hC
  have hcp : ∀ (s p : ByteArray) (W : World), Calls Tryz.prog 38 #[.string s, .string p] W fun e w' => e = .returned (.tuple #[.string ⟨(Lib.trimPrefix s.data.toList p.data.toList).toArray⟩, .bool (Lib.hasPrefix s.data.toList p.data.toList)]) ∧ W = w' := fun s p W => (Tryz.strings_CutPrefix s p W).mono fun _ _ h => ⟨h.1, h.2.symm⟩
  have HCP := Lib.hid hcp
  clear hr hl hC hcp
  have hix0 : ∀ W : World, (Instr.index 174 (.agg #[.string ⟨#[33, 61]⟩, .string ⟨#[46, 46]⟩, .string ⟨#[61]⟩, .string ⟨#[44]⟩, .string ⟨#[37]⟩]) (.int .i64 0)).run Tryz.prog W = .ok (.string ⟨#[33, 61]⟩) W := fun W => by kernel_rfl
  have hix1 : ∀ W : World, (Instr.index 174 (.agg #[.string ⟨#[33, 61]⟩, .string ⟨#[46, 46]⟩, .string ⟨#[61]⟩, .string ⟨#[44]⟩, .string ⟨#[37]⟩]) (.int .i64 1)).run Tryz.prog W = .ok (.string ⟨#[46, 46]⟩) W := fun W => by kernel_rfl
  have hix2 : ∀ W : World, (Instr.index 174 (.agg #[.string ⟨#[33, 61]⟩, .string ⟨#[46, 46]⟩, .string ⟨#[61]⟩, .string ⟨#[44]⟩, .string ⟨#[37]⟩]) (.int .i64 2)).run Tryz.prog W = .ok (.string ⟨#[61]⟩) W := fun W => by kernel_rfl
  have hix3 : ∀ W : World, (Instr.index 174 (.agg #[.string ⟨#[33, 61]⟩, .string ⟨#[46, 46]⟩, .string ⟨#[61]⟩, .string ⟨#[44]⟩, .string ⟨#[37]⟩]) (.int .i64 3)).run Tryz.prog W = .ok (.string ⟨#[44]⟩) W := fun W => by kernel_rfl
  have hix4 : ∀ W : World, (Instr.index 174 (.agg #[.string ⟨#[33, 61]⟩, .string ⟨#[46, 46]⟩, .string ⟨#[61]⟩, .string ⟨#[44]⟩, .string ⟨#[37]⟩]) (.int .i64 4)).run Tryz.prog W = .ok (.string ⟨#[37]⟩) W := fun W => by kernel_rfl
  go_enter Tryz.func68, Tryz.ntmps68
  go_wp2_with fail
  go_step3
  go_wp2_with fail
  refine HC.out.mono ?_
  rintro e w1 ⟨rfl, nd, rfl⟩
  go_wp2_with fail
  go_step3
  go_wp2_with fail
  go_loopg [0, 2] (s.size + 1) (fun n sl sv wr => TokRel r s.size w sl sv n wr)
  case atStart => exact ⟨[], l0, rfl, World.ownsRow_nil _ _ _ _, below_drewN (Below.refl _ _) nd, by omega, by simp; omega, HR.out⟩
  case round =>
    obtain ⟨acc, l, rfl, hown, hb, hln, hla, hgo⟩ := hrel
    obtain ⟨a, cap, rfl⟩ := own_slice hown
    have HO := Lib.hid hown
    have HG := Lib.hid hgo
    obtain ⟨n, rfl⟩ : ∃ n, gk = n + 1 := ⟨gk - 1, by omega⟩
    clear hown hgo
    cases l with
    | nil =>
      have hg : r = some acc := by rw [← HG.out, tokGo]
      have HGG := Lib.hid hg
      clear hg
      go_wp2
      try rw [Exit.noGoto_ret]
      go_ret
      rw [HGG.out]
      exact ⟨⟨_, rfl, HO.out⟩, hb⟩
    | cons c t =>
      have hsz := size_mk (c :: t)
      obtain ⟨u, hu⟩ : ∃ u : ByteArray, u = ⟨(c :: t).toArray⟩ := ⟨_, rfl⟩
      have hud : u.data.toList = c :: t := by rw [hu]
      rw [← hu] at hsz ⊢
      have HU := Lib.hid hu
      have HUD := Lib.hid hud
      have hpos : (0 : Int) < (u.size : Int) := by rw [hsz]; simp
      have HSZ := Lib.hid hsz
      clear hu hud
      have hlt : t.length + 1 ≤ s.size := by have h1 := hla; simp at h1; omega
      clear hsz
      have P0 := HCP.out u ⟨#[33, 61]⟩
      have P1 := HCP.out u ⟨#[46, 46]⟩
      have P2 := HCP.out u ⟨#[61]⟩
      have P3 := HCP.out u ⟨#[44]⟩
      have P4 := HCP.out u ⟨#[37]⟩
      rw [HUD.out] at P0
      rw [HUD.out] at P1
      rw [HUD.out] at P2
      rw [HUD.out] at P3
      rw [HUD.out] at P4
      cases q0 : Lib.hasPrefix (c :: t) (⟨#[33, 61]⟩ : ByteArray).data.toList
      · skip
        rw [q0, prefix_no q0] at P0
        have HP0 := Lib.hid P0
        have Q0 := Lib.hid q0
        clear P0 q0
        cases q1 : Lib.hasPrefix (c :: t) (⟨#[46, 46]⟩ : ByteArray).data.toList
        · skip
          rw [q1, prefix_no q1] at P1
          have HP1 := Lib.hid P1
          have Q1 := Lib.hid q1
          clear P1 q1
          cases q2 : Lib.hasPrefix (c :: t) (⟨#[61]⟩ : ByteArray).data.toList
          · skip
            rw [q2, prefix_no q2] at P2
            have HP2 := Lib.hid P2
            have Q2 := Lib.hid q2
            clear P2 q2
            cases q3 : Lib.hasPrefix (c :: t) (⟨#[44]⟩ : ByteArray).data.toList
            · skip
              rw [q3, prefix_no q3] at P3
              have HP3 := Lib.hid P3
              have Q3 := Lib.hid q3
              clear P3 q3
              cases q4 : Lib.hasPrefix (c :: t) (⟨#[37]⟩ : ByteArray).data.toList
              · skip
                rw [q4, prefix_no q4] at P4
                have HP4 := Lib.hid P4
                have Q4 := Lib.hid q4
                clear P4 q4
                have hsg := sign_miss Q0.out Q1.out Q2.out Q3.out Q4.out
                have hgo := HG.out
                rw [tokGo, hsg] at hgo
                have HGO := Lib.hid hgo
                clear hgo hsg
                go_wp2_with fail
                refine wp_loop_rounds 6 ?_
                rw [rounds_succ]
                go_wp2_with fail
                refine (HP0.out _).mono ?_
                rintro e wz0 ⟨rfl, rfl⟩
                go_wp2_with fail
                rw [rounds_succ]
                go_wp2_with fail
                refine (HP1.out _).mono ?_
                rintro e wz1 ⟨rfl, rfl⟩
                go_wp2_with fail
                rw [rounds_succ]
                go_wp2_with fail
                refine (HP2.out _).mono ?_
                rintro e wz2 ⟨rfl, rfl⟩
                go_wp2_with fail
                rw [rounds_succ]
                go_wp2_with fail
                refine (HP3.out _).mono ?_
                rintro e wz3 ⟨rfl, rfl⟩
                go_wp2_with fail
                rw [rounds_succ]
                go_wp2_with fail
                refine (HP4.out _).mono ?_
                rintro e wz4 ⟨rfl, rfl⟩
                go_wp2_with fail
                rw [rounds_succ]
                have hcl := fun W => class_any c W
                have hg0 : u[0]'(by omega) = c := by
                  have h1 := HU.out
                  subst h1
                  simp [ByteArray.getElem_eq_getElem_data]
                go_wp2_with fail
                have HCL := Lib.hid hcl
                have HG0 := Lib.hid hg0
                clear hcl hg0
                have hk3 := class_le c
                have hKc := (by omega : classL c = 0 ∨ classL c = 1 ∨ classL c = 2 ∨ classL c = 3)
                have hsz2 : u.size = t.length + 1 := HSZ.out
                have hux : ∀ m (h : m < t.length) (h2 : m + 1 < u.size), u[m + 1] = t[m] := fun m h h2 => by
                  have h1 := HU.out
                  subst h1
                  simp [ByteArray.getElem_eq_getElem_data]
                have HUX := Lib.hid hux
                have HCLW := HCL.out wr
                clear hix0 hix1 hix2 hix3 hix4 hux hk3 hsz2 hpos
                rcases hKc with hK | hK | hK | hK
                · skip
                  rw [hK] at HCLW
                  refine HCLW.mono ?_
                  rintro e w3 ⟨rfl, rfl⟩
                  have HK := Lib.hid hK
                  clear hK HCLW
                  go_wp2_with fail
                  go_loop [7] (fun v => ∃ m : Nat, m ≤ t.length ∧ v = .int .i64 ((m + 1 : Nat) : Int) ∧ (t.take m).all (fun d => classL d == classL c) = true) (fun v => t.length + 1 - (intOf v).toNat)
                  case atStart => exact ⟨0, Nat.zero_le _, rfl, rfl⟩
                  case round =>
                    obtain ⟨m, hm, rfl, hall⟩ := hrel
                    have HALL := Lib.hid hall
                    clear hall
                    by_cases hmt : m < t.length
                    · have b1 : m + 1 < u.size := by have hz0 : u.size = t.length + 1 := HSZ.out; omega
                      have hum := HUX.out m hmt b1
                      have b2 : (m : Int) + 1 < (u.size : Int) := by omega
                      have b3 : m + 1 ≤ u.size := by omega
                      have hcm := class_any t[m] wr
                      obtain ⟨K2, hK2⟩ : ∃ K2, classL t[m] = K2 := ⟨_, rfl⟩
                      rw [hK2] at hcm
                      have HCM := Lib.hid hcm
                      have HK2 := Lib.hid hK2
                      clear hcm hK2
                      go_wp2_with fail
                      refine HCM.out.mono ?_
                      rintro e w4 ⟨rfl, rfl⟩
                      by_cases hq : K2 = 0
                      · have hq' : ((K2 : Int) == 0) = true := by rw [hq]; rfl
                        have hal2 : (t.take (m + 1)).all (fun d => classL d == classL c) = true := by
                          rw [List.take_succ_eq_append_getElem hmt, List.all_append, HALL.out]
                          simp [HK2.out, HK.out, hq]
                        have HAL2 := Lib.hid hal2
                        clear hq hal2
                        go_wp2
                        exact ⟨⟨m + 1, by omega, by go_num, HAL2.out⟩, by simp [intOf]; omega⟩
                      · have hq' : ((K2 : Int) == 0) = false := by simp; omega
                        have hrun := run_of (p := fun d => classL d == classL c) hm HALL.out (fun h => by simp [HK2.out, HK.out, hq])
                        have HRUN := Lib.hid hrun
                        clear hrun hq
                        have hr0 : r = none := by rw [← HGO.out, if_pos HK.out]
                        have HR0 := Lib.hid hr0
                        clear hr0
                        go_wp2
                        refine ⟨rfl, ?_, hb⟩
                        rw [HR0.out]
                    · have hrun := run_of (p := fun d => classL d == classL c) hm HALL.out (fun h => absurd h hmt)
                      have HRUN := Lib.hid hrun
                      have b2 : ¬ ((m : Int) + 1 < (u.size : Int)) := by have hz0 : u.size = t.length + 1 := HSZ.out; omega
                      have b1 : ¬ (m + 1 < u.size) := by omega
                      have b3 : m + 1 ≤ u.size := by have hz0 : u.size = t.length + 1 := HSZ.out; omega
                      clear hrun hmt
                      have hr0 : r = none := by rw [← HGO.out, if_pos HK.out]
                      have HR0 := Lib.hid hr0
                      clear hr0
                      go_wp2
                      refine ⟨rfl, ?_, hb⟩
                      rw [HR0.out]
                · skip
                  rw [hK] at HCLW
                  refine HCLW.mono ?_
                  rintro e w3 ⟨rfl, rfl⟩
                  have HK := Lib.hid hK
                  clear hK HCLW
                  go_wp2_with fail
                  go_loop [7] (fun v => ∃ m : Nat, m ≤ t.length ∧ v = .int .i64 ((m + 1 : Nat) : Int) ∧ (t.take m).all (fun d => classL d == classL c) = true) (fun v => t.length + 1 - (intOf v).toNat)
                  case atStart => exact ⟨0, Nat.zero_le _, rfl, rfl⟩
                  case round =>
                    obtain ⟨m, hm, rfl, hall⟩ := hrel
                    have HALL := Lib.hid hall
                    clear hall
                    by_cases hmt : m < t.length
                    · have b1 : m + 1 < u.size := by have hz0 : u.size = t.length + 1 := HSZ.out; omega
                      have hum := HUX.out m hmt b1
                      have b2 : (m : Int) + 1 < (u.size : Int) := by omega
                      have b3 : m + 1 ≤ u.size := by omega
                      have hcm := class_any t[m] wr
                      obtain ⟨K2, hK2⟩ : ∃ K2, classL t[m] = K2 := ⟨_, rfl⟩
                      rw [hK2] at hcm
                      have HCM := Lib.hid hcm
                      have HK2 := Lib.hid hK2
                      clear hcm hK2
                      go_wp2_with fail
                      refine HCM.out.mono ?_
                      rintro e w4 ⟨rfl, rfl⟩
                      by_cases hq : K2 = 1
                      · have hq' : ((K2 : Int) == 1) = true := by rw [hq]; rfl
                        have hal2 : (t.take (m + 1)).all (fun d => classL d == classL c) = true := by
                          rw [List.take_succ_eq_append_getElem hmt, List.all_append, HALL.out]
                          simp [HK2.out, HK.out, hq]
                        have HAL2 := Lib.hid hal2
                        clear hq hal2
                        go_wp2
                        exact ⟨⟨m + 1, by omega, by go_num, HAL2.out⟩, by simp [intOf]; omega⟩
                      · have hq' : ((K2 : Int) == 1) = false := by simp; omega
                        have hrun := run_of (p := fun d => classL d == classL c) hm HALL.out (fun h => by simp [HK2.out, HK.out, hq])
                        have HRUN := Lib.hid hrun
                        clear hrun hq
                        have hgo2 : tokGo n acc (t.drop m) = r := by
                          have h1 := HGO.out
                          rw [if_neg (by rw [HK.out]; decide), HRUN.out.1, HRUN.out.2] at h1
                          rw [if_pos HK.out] at h1; exact h1
                        have HGO2 := Lib.hid hgo2
                        have hx2 : u.extract (m + 1) u.size = ⟨(t.drop m).toArray⟩ := by rw [extract_drop, HUD.out]; rfl
                        have hx1 : u.extract 0 (m + 1) = ⟨(c :: t.take m).toArray⟩ := by rw [extract_take, HUD.out]; rfl
                        have HX1 := Lib.hid hx1
                        have HX2 := Lib.hid hx2
                        clear hgo2 hx1 hx2
                        go_wp2
                        rw [HX2.out]
                        go_roundg n
                        case measure => omega
                        case rel => exact ⟨acc, t.drop m, rfl, HO.out, hb, by simp at hln ⊢; omega, by simp at hla ⊢; omega, HGO2.out⟩
                    · have hrun := run_of (p := fun d => classL d == classL c) hm HALL.out (fun h => absurd h hmt)
                      have HRUN := Lib.hid hrun
                      have b2 : ¬ ((m : Int) + 1 < (u.size : Int)) := by have hz0 : u.size = t.length + 1 := HSZ.out; omega
                      have b1 : ¬ (m + 1 < u.size) := by omega
                      have b3 : m + 1 ≤ u.size := by have hz0 : u.size = t.length + 1 := HSZ.out; omega
                      clear hrun hmt
                      have hgo2 : tokGo n acc (t.drop m) = r := by
                        have h1 := HGO.out
                        rw [if_neg (by rw [HK.out]; decide), HRUN.out.1, HRUN.out.2] at h1
                        rw [if_pos HK.out] at h1; exact h1
                      have HGO2 := Lib.hid hgo2
                      have hx2 : u.extract (m + 1) u.size = ⟨(t.drop m).toArray⟩ := by rw [extract_drop, HUD.out]; rfl
                      have hx1 : u.extract 0 (m + 1) = ⟨(c :: t.take m).toArray⟩ := by rw [extract_take, HUD.out]; rfl
                      have HX1 := Lib.hid hx1
                      have HX2 := Lib.hid hx2
                      clear hgo2 hx1 hx2
                      go_wp2
                      rw [HX2.out]
                      go_roundg n
                      case measure => omega
                      case rel => exact ⟨acc, t.drop m, rfl, HO.out, hb, by simp at hln ⊢; omega, by simp at hla ⊢; omega, HGO2.out⟩
                · skip
                  rw [hK] at HCLW
                  refine HCLW.mono ?_
                  rintro e w3 ⟨rfl, rfl⟩
                  have HK := Lib.hid hK
                  clear hK HCLW
                  go_wp2_with fail
                  go_loop [7] (fun v => ∃ m : Nat, m ≤ t.length ∧ v = .int .i64 ((m + 1 : Nat) : Int) ∧ (t.take m).all (fun d => classL d == classL c) = true) (fun v => t.length + 1 - (intOf v).toNat)
                  case atStart => exact ⟨0, Nat.zero_le _, rfl, rfl⟩
                  case round =>
                    obtain ⟨m, hm, rfl, hall⟩ := hrel
                    have HALL := Lib.hid hall
                    clear hall
                    by_cases hmt : m < t.length
                    · have b1 : m + 1 < u.size := by have hz0 : u.size = t.length + 1 := HSZ.out; omega
                      have hum := HUX.out m hmt b1
                      have b2 : (m : Int) + 1 < (u.size : Int) := by omega
                      have b3 : m + 1 ≤ u.size := by omega
                      have hcm := class_any t[m] wr
                      obtain ⟨K2, hK2⟩ : ∃ K2, classL t[m] = K2 := ⟨_, rfl⟩
                      rw [hK2] at hcm
                      have HCM := Lib.hid hcm
                      have HK2 := Lib.hid hK2
                      clear hcm hK2
                      go_wp2_with fail
                      refine HCM.out.mono ?_
                      rintro e w4 ⟨rfl, rfl⟩
                      by_cases hq : K2 = 2
                      · have hq' : ((K2 : Int) == 2) = true := by rw [hq]; rfl
                        have hal2 : (t.take (m + 1)).all (fun d => classL d == classL c) = true := by
                          rw [List.take_succ_eq_append_getElem hmt, List.all_append, HALL.out]
                          simp [HK2.out, HK.out, hq]
                        have HAL2 := Lib.hid hal2
                        clear hq hal2
                        go_wp2
                        exact ⟨⟨m + 1, by omega, by go_num, HAL2.out⟩, by simp [intOf]; omega⟩
                      · have hq' : ((K2 : Int) == 2) = false := by simp; omega
                        have hrun := run_of (p := fun d => classL d == classL c) hm HALL.out (fun h => by simp [HK2.out, HK.out, hq])
                        have HRUN := Lib.hid hrun
                        clear hrun hq
                        have hgo2 : tokGo n (acc ++ [c :: t.take m]) (t.drop m) = r := by
                          have h1 := HGO.out
                          rw [if_neg (by rw [HK.out]; decide), HRUN.out.1, HRUN.out.2] at h1
                          rw [if_neg (by rw [HK.out]; decide)] at h1; exact h1
                        have HGO2 := Lib.hid hgo2
                        have hx2 : u.extract (m + 1) u.size = ⟨(t.drop m).toArray⟩ := by rw [extract_drop, HUD.out]; rfl
                        have hx1 : u.extract 0 (m + 1) = ⟨(c :: t.take m).toArray⟩ := by rw [extract_take, HUD.out]; rfl
                        have HX1 := Lib.hid hx1
                        have HX2 := Lib.hid hx2
                        clear hgo2 hx1 hx2
                        go_wp2_with (at_builtin; refine app_own elem_strs rfl _ _ rfl w.heap.size _ _ _ rfl (HO.out.alloc _) ⟨wr.heap.size, 0, none⟩ 1 1 [.string (u.extract 0 (m + 1))] rfl rfl ?c1x2 ?c2x2 ?c3x2 ?c4x2 ?_)
                        try (case c1x2 => exact cells_one (cell_made _ _ _ _ _))
                        try (case c2x2 => first | rfl | (intro x hx; simp at hx; subst hx; rfl))
                        try (case c3x2 => omega)
                        try (case c4x2 => have := hb.size; simp; omega)
                        intro sv' w5 ho5 hg5
                        have hb5 : Below w.heap.size w w5 := (hb.alloc hb.size _).grown hg5 (by have := hb.size; simp; omega) (fun q hq => (HO.out.lt q hq).1)
                        obtain ⟨a5, c5, rfl⟩ := own_slice ho5
                        rw [HX1.out] at ho5
                        have HO5 := Lib.hid ho5
                        clear ho5 hg5
                        go_wp2
                        rw [HX2.out]
                        go_roundg n
                        case measure => omega
                        case rel => exact ⟨acc ++ [c :: t.take m], t.drop m, rfl, by simpa using HO5.out, hb5, by simp at hln ⊢; omega, by simp at hla; simp only [List.length_append, List.length_cons, List.length_nil, List.length_drop]; omega, HGO2.out⟩
                    · have hrun := run_of (p := fun d => classL d == classL c) hm HALL.out (fun h => absurd h hmt)
                      have HRUN := Lib.hid hrun
                      have b2 : ¬ ((m : Int) + 1 < (u.size : Int)) := by have hz0 : u.size = t.length + 1 := HSZ.out; omega
                      have b1 : ¬ (m + 1 < u.size) := by omega
                      have b3 : m + 1 ≤ u.size := by have hz0 : u.size = t.length + 1 := HSZ.out; omega
                      clear hrun hmt
                      have hgo2 : tokGo n (acc ++ [c :: t.take m]) (t.drop m) = r := by
                        have h1 := HGO.out
                        rw [if_neg (by rw [HK.out]; decide), HRUN.out.1, HRUN.out.2] at h1
                        rw [if_neg (by rw [HK.out]; decide)] at h1; exact h1
                      have HGO2 := Lib.hid hgo2
                      have hx2 : u.extract (m + 1) u.size = ⟨(t.drop m).toArray⟩ := by rw [extract_drop, HUD.out]; rfl
                      have hx1 : u.extract 0 (m + 1) = ⟨(c :: t.take m).toArray⟩ := by rw [extract_take, HUD.out]; rfl
                      have HX1 := Lib.hid hx1
                      have HX2 := Lib.hid hx2
                      clear hgo2 hx1 hx2
                      go_wp2_with (at_builtin; refine app_own elem_strs rfl _ _ rfl w.heap.size _ _ _ rfl (HO.out.alloc _) ⟨wr.heap.size, 0, none⟩ 1 1 [.string (u.extract 0 (m + 1))] rfl rfl ?c1x3 ?c2x3 ?c3x3 ?c4x3 ?_)
                      try (case c1x3 => exact cells_one (cell_made _ _ _ _ _))
                      try (case c2x3 => first | rfl | (intro x hx; simp at hx; subst hx; rfl))
                      try (case c3x3 => omega)
                      try (case c4x3 => have := hb.size; simp; omega)
                      intro sv' w5 ho5 hg5
                      have hb5 : Below w.heap.size w w5 := (hb.alloc hb.size _).grown hg5 (by have := hb.size; simp; omega) (fun q hq => (HO.out.lt q hq).1)
                      obtain ⟨a5, c5, rfl⟩ := own_slice ho5
                      rw [HX1.out] at ho5
                      have HO5 := Lib.hid ho5
                      clear ho5 hg5
                      go_wp2
                      rw [HX2.out]
                      go_roundg n
                      case measure => omega
                      case rel => exact ⟨acc ++ [c :: t.take m], t.drop m, rfl, by simpa using HO5.out, hb5, by simp at hln ⊢; omega, by simp at hla; simp only [List.length_append, List.length_cons, List.length_nil, List.length_drop]; omega, HGO2.out⟩
                · skip
                  rw [hK] at HCLW
                  refine HCLW.mono ?_
                  rintro e w3 ⟨rfl, rfl⟩
                  have HK := Lib.hid hK
                  clear hK HCLW
                  go_wp2_with fail
                  go_loop [7] (fun v => ∃ m : Nat, m ≤ t.length ∧ v = .int .i64 ((m + 1 : Nat) : Int) ∧ (t.take m).all (fun d => classL d == classL c) = true) (fun v => t.length + 1 - (intOf v).toNat)
                  case atStart => exact ⟨0, Nat.zero_le _, rfl, rfl⟩
                  case round =>
                    obtain ⟨m, hm, rfl, hall⟩ := hrel
                    have HALL := Lib.hid hall
                    clear hall
                    by_cases hmt : m < t.length
                    · have b1 : m + 1 < u.size := by have hz0 : u.size = t.length + 1 := HSZ.out; omega
                      have hum := HUX.out m hmt b1
                      have b2 : (m : Int) + 1 < (u.size : Int) := by omega
                      have b3 : m + 1 ≤ u.size := by omega
                      have hcm := class_any t[m] wr
                      obtain ⟨K2, hK2⟩ : ∃ K2, classL t[m] = K2 := ⟨_, rfl⟩
                      rw [hK2] at hcm
                      have HCM := Lib.hid hcm
                      have HK2 := Lib.hid hK2
                      clear hcm hK2
                      go_wp2_with fail
                      refine HCM.out.mono ?_
                      rintro e w4 ⟨rfl, rfl⟩
                      by_cases hq : K2 = 3
                      · have hq' : ((K2 : Int) == 3) = true := by rw [hq]; rfl
                        have hal2 : (t.take (m + 1)).all (fun d => classL d == classL c) = true := by
                          rw [List.take_succ_eq_append_getElem hmt, List.all_append, HALL.out]
                          simp [HK2.out, HK.out, hq]
                        have HAL2 := Lib.hid hal2
                        clear hq hal2
                        go_wp2
                        exact ⟨⟨m + 1, by omega, by go_num, HAL2.out⟩, by simp [intOf]; omega⟩
                      · have hq' : ((K2 : Int) == 3) = false := by simp; omega
                        have hrun := run_of (p := fun d => classL d == classL c) hm HALL.out (fun h => by simp [HK2.out, HK.out, hq])
                        have HRUN := Lib.hid hrun
                        clear hrun hq
                        have hgo2 : tokGo n (acc ++ [c :: t.take m]) (t.drop m) = r := by
                          have h1 := HGO.out
                          rw [if_neg (by rw [HK.out]; decide), HRUN.out.1, HRUN.out.2] at h1
                          rw [if_neg (by rw [HK.out]; decide)] at h1; exact h1
                        have HGO2 := Lib.hid hgo2
                        have hx2 : u.extract (m + 1) u.size = ⟨(t.drop m).toArray⟩ := by rw [extract_drop, HUD.out]; rfl
                        have hx1 : u.extract 0 (m + 1) = ⟨(c :: t.take m).toArray⟩ := by rw [extract_take, HUD.out]; rfl
                        have HX1 := Lib.hid hx1
                        have HX2 := Lib.hid hx2
                        clear hgo2 hx1 hx2
                        go_wp2_with (at_builtin; refine app_own elem_strs rfl _ _ rfl w.heap.size _ _ _ rfl (HO.out.alloc _) ⟨wr.heap.size, 0, none⟩ 1 1 [.string (u.extract 0 (m + 1))] rfl rfl ?c1x4 ?c2x4 ?c3x4 ?c4x4 ?_)
                        try (case c1x4 => exact cells_one (cell_made _ _ _ _ _))
                        try (case c2x4 => first | rfl | (intro x hx; simp at hx; subst hx; rfl))
                        try (case c3x4 => omega)
                        try (case c4x4 => have := hb.size; simp; omega)
                        intro sv' w5 ho5 hg5
                        have hb5 : Below w.heap.size w w5 := (hb.alloc hb.size _).grown hg5 (by have := hb.size; simp; omega) (fun q hq => (HO.out.lt q hq).1)
                        obtain ⟨a5, c5, rfl⟩ := own_slice ho5
                        rw [HX1.out] at ho5
                        have HO5 := Lib.hid ho5
                        clear ho5 hg5
                        go_wp2
                        rw [HX2.out]
                        go_roundg n
                        case measure => omega
                        case rel => exact ⟨acc ++ [c :: t.take m], t.drop m, rfl, by simpa using HO5.out, hb5, by simp at hln ⊢; omega, by simp at hla; simp only [List.length_append, List.length_cons, List.length_nil, List.length_drop]; omega, HGO2.out⟩
                    · have hrun := run_of (p := fun d => classL d == classL c) hm HALL.out (fun h => absurd h hmt)
                      have HRUN := Lib.hid hrun
                      have b2 : ¬ ((m : Int) + 1 < (u.size : Int)) := by have hz0 : u.size = t.length + 1 := HSZ.out; omega
                      have b1 : ¬ (m + 1 < u.size) := by omega
                      have b3 : m + 1 ≤ u.size := by have hz0 : u.size = t.length + 1 := HSZ.out; omega
                      clear hrun hmt
                      have hgo2 : tokGo n (acc ++ [c :: t.take m]) (t.drop m) = r := by
                        have h1 := HGO.out
                        rw [if_neg (by rw [HK.out]; decide), HRUN.out.1, HRUN.out.2] at h1
                        rw [if_neg (by rw [HK.out]; decide)] at h1; exact h1
                      have HGO2 := Lib.hid hgo2
                      have hx2 : u.extract (m + 1) u.size = ⟨(t.drop m).toArray⟩ := by rw [extract_drop, HUD.out]; rfl
                      have hx1 : u.extract 0 (m + 1) = ⟨(c :: t.take m).toArray⟩ := by rw [extract_take, HUD.out]; rfl
                      have HX1 := Lib.hid hx1
                      have HX2 := Lib.hid hx2
                      clear hgo2 hx1 hx2
                      go_wp2_with (at_builtin; refine app_own elem_strs rfl _ _ rfl w.heap.size _ _ _ rfl (HO.out.alloc _) ⟨wr.heap.size, 0, none⟩ 1 1 [.string (u.extract 0 (m + 1))] rfl rfl ?c1x5 ?c2x5 ?c3x5 ?c4x5 ?_)
                      try (case c1x5 => exact cells_one (cell_made _ _ _ _ _))
                      try (case c2x5 => first | rfl | (intro x hx; simp at hx; subst hx; rfl))
                      try (case c3x5 => omega)
                      try (case c4x5 => have := hb.size; simp; omega)
                      intro sv' w5 ho5 hg5
                      have hb5 : Below w.heap.size w w5 := (hb.alloc hb.size _).grown hg5 (by have := hb.size; simp; omega) (fun q hq => (HO.out.lt q hq).1)
                      obtain ⟨a5, c5, rfl⟩ := own_slice ho5
                      rw [HX1.out] at ho5
                      have HO5 := Lib.hid ho5
                      clear ho5 hg5
                      go_wp2
                      rw [HX2.out]
                      go_roundg n
                      case measure => omega
                      case rel => exact ⟨acc ++ [c :: t.take m], t.drop m, rfl, by simpa using HO5.out, hb5, by simp at hln ⊢; omega, by simp at hla; simp only [List.length_append, List.length_cons, List.length_nil, List.length_drop]; omega, HGO2.out⟩
              · skip
                obtain ⟨hsg, htr⟩ := sign_hit (by simp) q4
                rw [q4, htr] at P4
                have HP4 := Lib.hid P4
                have hgo := HG.out
                rw [tokGo, hsg] at hgo
                have HGO := Lib.hid hgo
                have hdl : ((c :: t).drop ([37] : List UInt8).length).length ≤ t.length := by simp
                have HDL := Lib.hid hdl
                clear q4 hsg htr hgo hdl P4 
                go_wp2_with fail
                refine wp_loop_rounds 6 ?_
                rw [rounds_succ]
                go_wp2_with fail
                refine (HP0.out _).mono ?_
                rintro e wz0 ⟨rfl, rfl⟩
                go_wp2_with fail
                rw [rounds_succ]
                go_wp2_with fail
                refine (HP1.out _).mono ?_
                rintro e wz1 ⟨rfl, rfl⟩
                go_wp2_with fail
                rw [rounds_succ]
                go_wp2_with fail
                refine (HP2.out _).mono ?_
                rintro e wz2 ⟨rfl, rfl⟩
                go_wp2_with fail
                rw [rounds_succ]
                go_wp2_with fail
                refine (HP3.out _).mono ?_
                rintro e wz3 ⟨rfl, rfl⟩
                go_wp2_with fail
                rw [rounds_succ]
                go_wp2_with fail
                refine (HP4.out _).mono ?_
                rintro e wz4 ⟨rfl, rfl⟩
                go_wp2_with (at_builtin; refine app_own elem_strs rfl _ _ rfl w.heap.size _ _ _ rfl (HO.out.alloc _) ⟨wr.heap.size, 0, none⟩ 1 1 [strv [37]] rfl rfl ?c1x6 ?c2x6 ?c3x6 ?c4x6 ?_)
                try (case c1x6 => exact cells_one (cell_made _ _ _ _ _))
                try (case c2x6 => first | rfl | (intro u hu; simp at hu; subst hu; rfl))
                try (case c3x6 => omega)
                try (case c4x6 => have := hb.size; simp; omega)
                intro sv' w5 ho5 hg5
                have hb5 : Below w.heap.size w w5 := (hb.alloc hb.size _).grown hg5 (by have := hb.size; simp; omega) (fun q hq => (HO.out.lt q hq).1)
                obtain ⟨a5, c5, rfl⟩ := own_slice ho5
                have HO5 := Lib.hid ho5
                clear ho5 hg5
                go_wp2
                go_roundg n
                case measure => omega
                case rel => exact ⟨acc ++ [[37]], _, rfl, by simpa using HO5.out, hb5, by first | (have := HDL.out; simp at hln; omega) | (simp at hln ⊢; omega) | (simp at hln ⊢; exact hln), by first | (have := HDL.out; simp at hla; simp only [List.length_append, List.length_cons, List.length_nil]; omega) | (simp at hla ⊢; omega), by first | exact HGO.out | simpa using HGO.out⟩
            · skip
              obtain ⟨hsg, htr⟩ := sign_hit (by simp) q3
              rw [q3, htr] at P3
              have HP3 := Lib.hid P3
              have hgo := HG.out
              rw [tokGo, hsg] at hgo
              have HGO := Lib.hid hgo
              have hdl : ((c :: t).drop ([44] : List UInt8).length).length ≤ t.length := by simp
              have HDL := Lib.hid hdl
              clear q3 hsg htr hgo hdl P3 P4
              go_wp2_with fail
              refine wp_loop_rounds 6 ?_
              rw [rounds_succ]
              go_wp2_with fail
              refine (HP0.out _).mono ?_
              rintro e wz0 ⟨rfl, rfl⟩
              go_wp2_with fail
              rw [rounds_succ]
              go_wp2_with fail
              refine (HP1.out _).mono ?_
              rintro e wz1 ⟨rfl, rfl⟩
              go_wp2_with fail
              rw [rounds_succ]
              go_wp2_with fail
              refine (HP2.out _).mono ?_
              rintro e wz2 ⟨rfl, rfl⟩
              go_wp2_with fail
              rw [rounds_succ]
              go_wp2_with fail
              refine (HP3.out _).mono ?_
              rintro e wz3 ⟨rfl, rfl⟩
              go_wp2_with (at_builtin; refine app_own elem_strs rfl _ _ rfl w.heap.size _ _ _ rfl (HO.out.alloc _) ⟨wr.heap.size, 0, none⟩ 1 1 [strv [44]] rfl rfl ?c1x7 ?c2x7 ?c3x7 ?c4x7 ?_)
              try (case c1x7 => exact cells_one (cell_made _ _ _ _ _))
              try (case c2x7 => first | rfl | (intro u hu; simp at hu; subst hu; rfl))
              try (case c3x7 => omega)
              try (case c4x7 => have := hb.size; simp; omega)
              intro sv' w5 ho5 hg5
              have hb5 : Below w.heap.size w w5 := (hb.alloc hb.size _).grown hg5 (by have := hb.size; simp; omega) (fun q hq => (HO.out.lt q hq).1)
              obtain ⟨a5, c5, rfl⟩ := own_slice ho5
              have HO5 := Lib.hid ho5
              clear ho5 hg5
              go_wp2
              go_roundg n
              case measure => omega
              case rel => exact ⟨acc ++ [[44]], _, rfl, by simpa using HO5.out, hb5, by first | (have := HDL.out; simp at hln; omega) | (simp at hln ⊢; omega) | (simp at hln ⊢; exact hln), by first | (have := HDL.out; simp at hla; simp only [List.length_append, List.length_cons, List.length_nil]; omega) | (simp at hla ⊢; omega), by first | exact HGO.out | simpa using HGO.out⟩
          · skip
            obtain ⟨hsg, htr⟩ := sign_hit (by simp) q2
            rw [q2, htr] at P2
            have HP2 := Lib.hid P2
            have hgo := HG.out
            rw [tokGo, hsg] at hgo
            have HGO := Lib.hid hgo
            have hdl : ((c :: t).drop ([61] : List UInt8).length).length ≤ t.length := by simp
            have HDL := Lib.hid hdl
            clear q2 hsg htr hgo hdl P2 P3 P4
            go_wp2_with fail
            refine wp_loop_rounds 6 ?_
            rw [rounds_succ]
            go_wp2_with fail
            refine (HP0.out _).mono ?_
            rintro e wz0 ⟨rfl, rfl⟩
            go_wp2_with fail
            rw [rounds_succ]
            go_wp2_with fail
            refine (HP1.out _).mono ?_
            rintro e wz1 ⟨rfl, rfl⟩
            go_wp2_with fail
            rw [rounds_succ]
            go_wp2_with fail
            refine (HP2.out _).mono ?_
            rintro e wz2 ⟨rfl, rfl⟩
            go_wp2_with (at_builtin; refine app_own elem_strs rfl _ _ rfl w.heap.size _ _ _ rfl (HO.out.alloc _) ⟨wr.heap.size, 0, none⟩ 1 1 [strv [61]] rfl rfl ?c1x8 ?c2x8 ?c3x8 ?c4x8 ?_)
            try (case c1x8 => exact cells_one (cell_made _ _ _ _ _))
            try (case c2x8 => first | rfl | (intro u hu; simp at hu; subst hu; rfl))
            try (case c3x8 => omega)
            try (case c4x8 => have := hb.size; simp; omega)
            intro sv' w5 ho5 hg5
            have hb5 : Below w.heap.size w w5 := (hb.alloc hb.size _).grown hg5 (by have := hb.size; simp; omega) (fun q hq => (HO.out.lt q hq).1)
            obtain ⟨a5, c5, rfl⟩ := own_slice ho5
            have HO5 := Lib.hid ho5
            clear ho5 hg5
            go_wp2
            go_roundg n
            case measure => omega
            case rel => exact ⟨acc ++ [[61]], _, rfl, by simpa using HO5.out, hb5, by first | (have := HDL.out; simp at hln; omega) | (simp at hln ⊢; omega) | (simp at hln ⊢; exact hln), by first | (have := HDL.out; simp at hla; simp only [List.length_append, List.length_cons, List.length_nil]; omega) | (simp at hla ⊢; omega), by first | exact HGO.out | simpa using HGO.out⟩
        · skip
          obtain ⟨hsg, htr⟩ := sign_hit (by simp) q1
          rw [q1, htr] at P1
          have HP1 := Lib.hid P1
          have hgo := HG.out
          rw [tokGo, hsg] at hgo
          have HGO := Lib.hid hgo
          have hdl : ((c :: t).drop ([46, 46] : List UInt8).length).length ≤ t.length := by simp
          have HDL := Lib.hid hdl
          clear q1 hsg htr hgo hdl P1 P2 P3 P4
          go_wp2_with fail
          refine wp_loop_rounds 6 ?_
          rw [rounds_succ]
          go_wp2_with fail
          refine (HP0.out _).mono ?_
          rintro e wz0 ⟨rfl, rfl⟩
          go_wp2_with fail
          rw [rounds_succ]
          go_wp2_with fail
          refine (HP1.out _).mono ?_
          rintro e wz1 ⟨rfl, rfl⟩
          go_wp2_with (at_builtin; refine app_own elem_strs rfl _ _ rfl w.heap.size _ _ _ rfl (HO.out.alloc _) ⟨wr.heap.size, 0, none⟩ 1 1 [strv [46, 46]] rfl rfl ?c1x9 ?c2x9 ?c3x9 ?c4x9 ?_)
          try (case c1x9 => exact cells_one (cell_made _ _ _ _ _))
          try (case c2x9 => first | rfl | (intro u hu; simp at hu; subst hu; rfl))
          try (case c3x9 => omega)
          try (case c4x9 => have := hb.size; simp; omega)
          intro sv' w5 ho5 hg5
          have hb5 : Below w.heap.size w w5 := (hb.alloc hb.size _).grown hg5 (by have := hb.size; simp; omega) (fun q hq => (HO.out.lt q hq).1)
          obtain ⟨a5, c5, rfl⟩ := own_slice ho5
          have HO5 := Lib.hid ho5
          clear ho5 hg5
          go_wp2
          go_roundg n
          case measure => omega
          case rel => exact ⟨acc ++ [[46, 46]], _, rfl, by simpa using HO5.out, hb5, by first | (have := HDL.out; simp at hln; omega) | (simp at hln ⊢; omega) | (simp at hln ⊢; exact hln), by first | (have := HDL.out; simp at hla; simp only [List.length_append, List.length_cons, List.length_nil]; omega) | (simp at hla ⊢; omega), by first | exact HGO.out | simpa using HGO.out⟩
      · skip
        obtain ⟨hsg, htr⟩ := sign_hit (by simp) q0
        rw [q0, htr] at P0
        have HP0 := Lib.hid P0
        have hgo := HG.out
        rw [tokGo, hsg] at hgo
        have HGO := Lib.hid hgo
        have hdl : ((c :: t).drop ([33, 61] : List UInt8).length).length ≤ t.length := by simp
        have HDL := Lib.hid hdl
        clear q0 hsg htr hgo hdl P0 P1 P2 P3 P4
        go_wp2_with fail
        refine wp_loop_rounds 6 ?_
        rw [rounds_succ]
        go_wp2_with fail
        refine (HP0.out _).mono ?_
        rintro e wz0 ⟨rfl, rfl⟩
        go_wp2_with (at_builtin; refine app_own elem_strs rfl _ _ rfl w.heap.size _ _ _ rfl (HO.out.alloc _) ⟨wr.heap.size, 0, none⟩ 1 1 [strv [33, 61]] rfl rfl ?c1x10 ?c2x10 ?c3x10 ?c4x10 ?_)
        try (case c1x10 => exact cells_one (cell_made _ _ _ _ _))
        try (case c2x10 => first | rfl | (intro u hu; simp at hu; subst hu; rfl))
        try (case c3x10 => omega)
        try (case c4x10 => have := hb.size; simp; omega)
        intro sv' w5 ho5 hg5
        have hb5 : Below w.heap.size w w5 := (hb.alloc hb.size _).grown hg5 (by have := hb.size; simp; omega) (fun q hq => (HO.out.lt q hq).1)
        obtain ⟨a5, c5, rfl⟩ := own_slice ho5
        have HO5 := Lib.hid ho5
        clear ho5 hg5
        go_wp2
        go_roundg n
        case measure => omega
        case rel => exact ⟨acc ++ [[33, 61]], _, rfl, by simpa using HO5.out, hb5, by first | (have := HDL.out; simp at hln; omega) | (simp at hln ⊢; omega) | (simp at hln ⊢; exact hln), by first | (have := HDL.out; simp at hla; simp only [List.length_append, List.length_cons, List.length_nil]; omega) | (simp at hla ⊢; omega), by first | exact HGO.out | simpa using HGO.out⟩
end Go.Proofs.YtpepgmccbkkaaaaGreatDoor

/- plural's condition: the test that a rule's text says; what its deferred function does. -/
namespace Go.Proofs.YtpepgmccbkkaaaaGreatDoor
open Go Go.RowKit
set_option maxRecDepth 10000

theorem assert_none (w : World) : (Instr.typeAssert (.iface 151 (.agg #[])) 20 151 true).run Tryz.prog w = .ok (.tuple #[.agg #[], .bool true]) w := by kernel_rfl

theorem catch_idle (B : Nat) (w : World) : CallsD Tryz.prog 67 #[.pointer (some ⟨B, 0, none⟩)] .returning w fun e u' w' => e = .returned (.tuple #[]) ∧ u' = .returning ∧ w' = w := by
  refine callsD_of_wpS Tryz.func67 rfl fun c₀ cs hu => ?_
  apply wpS_seq
  apply wpS_region
  simp [wpOpsS, go_sem, recoverD, hu, Tryz.ntmps67, Exit.thenS]
  refine wpS_of_wp ?_
  go_wp2
  cases c₀
  simp_all [bodyPostS, results, Tryz.results67]

set_option maxHeartbeats 4000000 in
theorem catch_none (B : Nat) (u : Value) (older : List PanicEntry) (w : World) (hc : w.cell? ⟨B, 0, none⟩ = some u) (hz : w.frozen? ⟨B, 0, none⟩ = false) :
    CallsD Tryz.prog 67 #[.pointer (some ⟨B, 0, none⟩)] (.panicking ({ v := .iface 151 (.agg #[]), recovered := false } :: older)) w fun e u' w' =>
      e = .returned (.tuple #[]) ∧ u' = .panicking ({ v := .iface 151 (.agg #[]), recovered := true } :: older) ∧ w' = (w.setCell ⟨B, 0, none⟩ .nilFunc).alloc (.cells #[] 151) := by
  have ha := assert_none
  refine callsD_of_wpS Tryz.func67 rfl fun c₀ cs hu => ?_
  apply wpS_seq
  apply wpS_region
  simp [wpOpsS, go_sem, recoverD, hu, Tryz.ntmps67, Exit.thenS]
  refine wpS_of_wp ?_
  simp only [Array.replicate, List.replicate, List.setIfInBounds_toArray, List.set_cons_zero, List.set_cons_succ, List.append_toArray, List.cons_append, List.nil_append, Act.put]
  have hlt : B < w.heap.size := World.block_lt_of_cell? w _ hc
  have hc' : (w.alloc (.cells #[] 151)).cell? ⟨B, 0, none⟩ = some u := (World.cell?_alloc_lt _ _ _ hlt).trans hc
  have hz' : (w.alloc (.cells #[] 151)).frozen? ⟨B, 0, none⟩ = false := (World.frozen?_of_block (Below.heap_alloc _ _ _ hlt)).trans hz
  go_wp2
  simp [bodyPostS, results, Tryz.results67]

/-! ### words -/
theorem sign_ok {l : List UInt8} {g : Wd} (h : signL l = some g) : WOk g ∧ 0 < g.length := by
  unfold signL at h
  split at h <;> cases h
  all_goals exact ⟨⟨by simp, by simp, .inr (by decide)⟩, by simp⟩

theorem tw_mem {p : UInt8 → Bool} : ∀ {t : List UInt8} {d : UInt8}, d ∈ t.takeWhile p → p d = true
  | [], _, h => by cases h
  | c :: t, d, h => by
    by_cases hc : p c = true
    · rw [List.takeWhile_cons_of_pos hc] at h
      rcases List.mem_cons.1 h with q | q
      · rw [q]; exact hc
      · exact tw_mem q
    · rw [List.takeWhile_cons_of_neg hc] at h; cases h

theorem class_dig_head {c : UInt8} {t : List UInt8} (h : classL c = 2 ∨ classL c = 3) : WOk (c :: t.takeWhile (fun d => classL d == classL c)) ∨ 1000 < (c :: t.takeWhile (fun d => classL d == classL c)).length := by
  by_cases hl : (c :: t.takeWhile (fun d => classL d == classL c)).length ≤ 1000
  · left
    refine ⟨by simp, hl, ?_⟩
    rcases h with h | h
    · left
      rw [List.all_cons, (class_dig c).1 h, Bool.true_and, List.all_eq_true]
      intro d hd
      have := tw_mem hd
      rw [h, beq_iff_eq] at this
      exact (class_dig d).1 this
    · right
      have : ¬ isDig c = true := fun e => by have := (class_dig c).2 e; omega
      simpa using this
  · right; omega

theorem takeWhile_len (p : UInt8 → Bool) (t : List UInt8) : (t.takeWhile p).length + (t.dropWhile p).length = t.length := by
  have := congrArg List.length (List.takeWhile_append_dropWhile (p := p) (l := t))
  rw [List.length_append] at this
  exact this

theorem tokGo_ok : ∀ (n : Nat) (acc : List Wd) (l : List UInt8) (ws : List Wd), tokGo n acc l = some ws → l.length ≤ 999 → (∀ x ∈ acc, WOk x) → (∀ x ∈ ws, WOk x) ∧ ws.length ≤ acc.length + l.length
  | n, acc, [], ws, h, _, ha => by
    rw [tokGo] at h
    cases h
    exact ⟨ha, by simp⟩
  | 0, acc, c :: t, ws, h, _, _ => by
    rw [tokGo] at h
    cases h
    all_goals (intro hh; cases hh)
  | n + 1, acc, c :: t, ws, h, hl, ha => by
    rw [tokGo] at h
    simp only [List.length_cons] at hl
    cases hs : signL (c :: t) with
    | some g =>
      rw [hs] at h
      dsimp only at h
      obtain ⟨hg, hg0⟩ := sign_ok hs
      have ih := tokGo_ok n (acc ++ [g]) ((c :: t).drop g.length) ws h (by simp; omega) (fun x hx => by
        rcases List.mem_append.1 hx with q | q
        · exact ha x q
        · simp at q; subst q; exact hg)
      refine ⟨ih.1, ?_⟩
      have := ih.2
      simp at this ⊢
      omega
    | none =>
      rw [hs] at h
      dsimp only at h
      by_cases h0 : classL c = 0
      · rw [if_pos h0] at h; cases h
      · rw [if_neg h0] at h
        have hk := class_le c
        have hlen := takeWhile_len (fun d => classL d == classL c) t
        have ih := tokGo_ok n _ (t.dropWhile (fun d => classL d == classL c)) ws h (by omega) (fun x hx => by
          by_cases h1 : classL c = 1
          · rw [if_pos h1] at hx; exact ha x hx
          · rw [if_neg h1] at hx
            rcases List.mem_append.1 hx with q | q
            · exact ha x q
            · simp only [List.mem_cons, List.not_mem_nil, or_false] at q
              subst q
              rcases class_dig_head (t := t) (c := c) (by omega) with w | w
              · exact w
              · simp only [List.length_cons] at w; omega)
        refine ⟨ih.1, ?_⟩
        have h2 := ih.2
        by_cases h1 : classL c = 1
        · rw [if_pos h1] at h2; simp; omega
        · rw [if_neg h1] at h2; simp at h2 ⊢; omega

theorem tokL_ok {l : List UInt8} {ws : List Wd} (h : tokL l = some ws) (hl : l.length ≤ 200) : (∀ x ∈ ws, WOk x) ∧ ws.length ≤ 200 := by
  unfold tokL at h
  have := tokGo_ok _ _ _ _ h (by simp; omega) (fun x hx => by cases hx)
  refine ⟨this.1, ?_⟩
  have h2 := this.2
  simp at h2
  omega

/-! ### putting together -/
theorem tog_some : TogR (.func (.func 70) #[] #[]) someT :=
  ⟨_, rfl, fun args w => enters_of Tryz.func70 (by kernel_rfl) rfl args w, fun Ts a c lo W h1 h2 h3 => some_any Ts a c lo W h1 h2 h3⟩
theorem tog_all : TogR (.func (.func 72) #[] #[]) allT :=
  ⟨_, rfl, fun args w => enters_of Tryz.func72 (by kernel_rfl) rfl args w, fun Ts a c lo W h1 h2 h3 => all_any Ts a c lo W h1 h2 h3⟩

theorem one_rel (p : Nat) (w : World) (hT : RT p w) : OneR p w (.func (.func 73) #[.pointer (some ⟨p, 0, none⟩)] #[]) pRel :=
  ⟨_, _, _, rfl, fun args w => enters_of Tryz.func73 (by kernel_rfl) rfl args w, fun W ws hb hp hx hl => relation_any p ws W hp hx (hT.but hb) hl⟩

theorem pMod_sub {of : Dg → Dg} {t u : List Wd} {F : Dg → Dg} (h : pMod of t = some (F, u)) : Sub u t := by
  unfold pMod at h
  by_cases hm : modW (t.headD []) = true
  · rw [if_pos hm] at h
    cases hn : pNum t.tail with
    | none => rw [hn] at h; cases h
    | some q =>
      obtain ⟨m, v⟩ := q
      rw [hn] at h
      dsimp only at h
      by_cases h0 : m = 0
      · rw [if_pos h0] at h; cases h
      · rw [if_neg h0] at h; cases h
        exact (pNum_sub hn).trans (Sub.tail t)
  · rw [if_neg hm] at h; cases h; exact Sub.refl _

theorem pMapL_sub {wi nt : Bool} {ws t : List Wd} {i : Tst × Bool} (h : ((pList wi ws).map fun q => ((q.1, nt), q.2)) = some (i, t)) : Sub t ws := by
  cases hl : pList wi ws with
  | none => rw [hl] at h; cases h
  | some q =>
    obtain ⟨T, u⟩ := q
    rw [hl] at h
    cases h
    exact pList_sub hl
theorem pMapN_sub {nt : Bool} {ws t : List Wd} {i : Tst × Bool} (h : ((pNum ws).map fun q => ((spanT q.1 q.1 false, nt), q.2)) = some (i, t)) : Sub t ws := by
  cases hl : pNum ws with
  | none => rw [hl] at h; cases h
  | some q =>
    obtain ⟨T, u⟩ := q
    rw [hl] at h
    cases h
    exact pNum_sub hl

theorem pManner_sub {ws t : List Wd} {i : Tst × Bool} (h : pManner ws = some (i, t)) : Sub t ws := by
  have s1 := Sub.tail ws
  have s2 := (Sub.tail ws.tail).trans s1
  unfold pManner at h
  split at h
  · exact (pMapL_sub h).trans s1
  split at h
  · exact (pMapL_sub h).trans s1
  split at h
  · split at h
    · exact (pMapN_sub h).trans s2
    · exact (pMapN_sub h).trans s1
  · dsimp only at h
    split at h
    · split at h
      · exact (pMapL_sub h).trans s2
      · split at h
        · exact (pMapL_sub h).trans s2
        · cases h
    · split at h
      · exact (pMapL_sub h).trans s1
      · split at h
        · exact (pMapL_sub h).trans s1
        · cases h

theorem pRel_sub {ws t : List Wd} {T : Tst} (h : pRel ws = some (T, t)) : Sub t ws := by
  cases ws with
  | nil => cases h
  | cons w u =>
    rw [pRel] at h
    cases ho : operandF w with
    | none => rw [ho] at h; cases h
    | some of =>
      rw [ho] at h
      dsimp only at h
      cases hm : pMod of u with
      | none => rw [hm] at h; cases h
      | some q =>
        obtain ⟨F, v⟩ := q
        rw [hm] at h
        dsimp only at h
        cases hn : pManner v with
        | none => rw [hn] at h; cases h
        | some q2 =>
          obtain ⟨⟨i, nt⟩, x⟩ := q2
          rw [hn] at h
          cases h
          exact ((pManner_sub hn).trans (pMod_sub hm)).trans ⟨fun y hy => by simp [hy], by simp⟩

theorem pRowGo_sub {word : Wd} {P : Parser} (hs : ∀ us T t, P us = some (T, t) → Sub t us) : ∀ {n : Nat} {acc ts : List Tst} {ws t : List Wd}, pRowGo word P n acc ws = some (ts, t) → Sub t ws
  | 0, _, _, _, _, h => by cases h
  | n + 1, acc, ts, ws, t, h => by
    rw [pRowGo] at h
    cases hi : P ws with
    | none => rw [hi] at h; cases h
    | some r =>
      obtain ⟨T, u⟩ := r
      rw [hi] at h
      dsimp only at h
      by_cases hc : isW word u = true
      · rw [if_pos hc] at h
        exact ((pRowGo_sub hs h).trans (Sub.tail u)).trans (hs _ _ _ hi)
      · rw [if_neg hc] at h
        cases h
        exact hs _ _ _ hi

theorem pAnd_sub {ws t : List Wd} {T : Tst} (h : pAnd ws = some (T, t)) : Sub t ws := by
  unfold pAnd pRow at h
  cases hg : pRowGo [97, 110, 100] pRel (ws.length + 1) [] ws with
  | none => rw [hg] at h; cases h
  | some r =>
    obtain ⟨ts, u⟩ := r
    rw [hg] at h
    cases h
    exact pRowGo_sub (fun us T t h => pRel_sub h) hg

set_option maxHeartbeats 1000000 in
theorem cond2_any (p pv : Nat) (ws : List Wd) (w : World) (hp : PAt w p ws) (hx : ∀ x ∈ ws, WOk x) (hT : RT p w) (hl : ws.length ≤ 1000) (hc : w.cell? ⟨pv, 0, none⟩ = some (.pointer (some ⟨p, 0, none⟩))) :
    Calls Tryz.prog 71 #[.pointer (some ⟨pv, 0, none⟩)] w (ParseQ p (pAnd ws) w) := by
  have hmf : ∀ (fn : Fn) (first cap : Array Value) (w : World), (Instr.makeFunc fn first cap).run Tryz.prog w = .ok (.func fn first cap) w := fun _ _ _ _ => rfl
  have hr := row_any p [97, 110, 100] allT pRel _ _ ws w hp hx hl tog_all (one_rel p w hT) (fun us T t h => pRel_sub h)
  have HR := Lib.hid hr
  clear hr hp hx hT
  go_enter Tryz.func71, Tryz.ntmps71
  go_wp2_with fail
  refine HR.out.mono ?_
  rintro e w1 ⟨hq, hb⟩
  have hpa : pAnd ws = pRow [97, 110, 100] allT pRel ws := rfl
  cases hn : pRow [97, 110, 100] allT pRel ws with
  | none =>
    rw [hn] at hq
    obtain rfl := hq
    have HN := Lib.hid (hpa.trans hn)
    clear hn hpa
    go_wp2
    refine ⟨rfl, ?_, hb⟩
    rw [HN.out]
  | some q =>
    obtain ⟨T, t⟩ := q
    rw [hn] at hq
    obtain ⟨⟨v, rfl, ht⟩, hp⟩ := hq
    have HN := Lib.hid (hpa.trans hn)
    have HTT := Lib.hid ht
    have HPP := Lib.hid hp
    clear hn ht hp hpa
    go_wp2
    go_ret
    refine ⟨?_, hb⟩
    rw [HN.out]
    exact ⟨⟨_, rfl, HTT.out⟩, HPP.out⟩
end Go.Proofs.YtpepgmccbkkaaaaGreatDoor

/- plural's condition. -/
namespace Go.Proofs.YtpepgmccbkkaaaaGreatDoor
open Go Go.RowKit
set_option maxRecDepth 10000

/-- strconv's errors are there -/
structure RT0 (w : World) : Prop where
  s : ∃ t v, w.cell? ⟨5, 0, none⟩ = some (.iface t v)
  r : ∃ t v, w.cell? ⟨6, 0, none⟩ = some (.iface t v)

theorem RT0.below {w w' : World} (h : RT0 w) (hb : Below w.heap.size w w') : RT0 w' := by
  obtain ⟨⟨t, v, hs⟩, ⟨t2, v2, hr⟩⟩ := h
  exact ⟨⟨t, v, (hb.cell (World.block_lt_of_cell? w _ hs)).trans hs⟩, ⟨t2, v2, (hb.cell (World.block_lt_of_cell? w _ hr)).trans hr⟩⟩
theorem RT0.at {w w' : World} {p : Nat} (h : RT0 w) (hb : Below w.heap.size w w') (hp : w.heap.size ≤ p) : RT p w' := by
  have h2 := h.below hb
  obtain ⟨⟨t, v, hs⟩, ⟨t2, v2, hr⟩⟩ := h
  have l1 := World.block_lt_of_cell? w _ hs
  have l2 := World.block_lt_of_cell? w _ hr
  dsimp only at l1 l2
  exact ⟨h2.s, h2.r, by omega, by omega⟩

def CondQ (r : Option Tst) (w : World) (e : Ending) (w' : World) : Prop :=
  (match r with | none => e = .returned .nilFunc | some T => ∃ v, e = .returned v ∧ TestR w.heap.size w'.heap.size w' v T) ∧ Below w.heap.size w w'

/-- the parser behind its making -/
theorem parser_made {w : World} {base : Nat} {v : Value} {ws : List Wd} (h : w.ownsRow base 9 1 v ws.length (ws.map strv)) (o : Obj) : PAt ((w.alloc (.cells #[v] 156)).alloc o) w.heap.size ws := by
  have hb : Below w.heap.size w ((w.alloc (.cells #[v] 156)).alloc o) := ((Below.refl _ _).alloc (Nat.le_refl _) _).alloc (by simp) _
  have hl1 : w.heap.size < (w.alloc (.cells #[v] 156)).heap.size := by simp
  have hc : ((w.alloc (.cells #[v] 156)).alloc o).cell? ⟨w.heap.size, 0, none⟩ = some v := by
    rw [World.cell?_alloc_lt _ _ _ hl1]; exact cell_made _ _ _ _ _
  have hz : ((w.alloc (.cells #[v] 156)).alloc o).frozen? ⟨w.heap.size, 0, none⟩ = false := by
    rw [World.frozen?_of_block (Below.heap_alloc _ _ _ hl1)]; simp
  have hlen : ws.length = ws.length := rfl
  rcases h.2 with ⟨hv, h0⟩ | ⟨g, cap, cur, hv, hg, hh, h1, h2, h3, ht⟩
  · subst hv
    have hw : ws = [] := List.eq_nil_of_length_eq_zero h0
    subst hw
    exact ⟨none, 0, hc, hz, Nat.le_refl _, Nat.zero_le _, fun j hj => absurd hj (Nat.not_lt_zero j)⟩
  · subst hv
    have hgl : g < w.heap.size := by
      rcases Nat.lt_or_ge g w.heap.size with q | q
      · exact q
      · rw [Array.getElem?_eq_none (by omega)] at hh; cases hh
    refine ⟨some ⟨g, 0, none⟩, cap, hc, hz, h1, h2, fun j hj => ⟨_, rfl, ⟨by show g ≠ w.heap.size; omega, cur, (0, 0), (hb.block g hgl).trans hh⟩, ?_⟩⟩
    rw [addr_add0, hb.cell (p := ⟨g, j, none⟩) hgl, h.cellAt j (by omega)]
    simp [hj]

theorem cond_one (p pv : Nat) (w : World) (hT : RT p w) (hc : CellV w pv (.pointer (some ⟨p, 0, none⟩))) (hne : pv ≠ p) : OneR p w (.func (.func 71) #[] #[.pointer (some ⟨pv, 0, none⟩)]) pAnd :=
  ⟨_, _, _, rfl, fun args w => enters_of Tryz.func71 (by kernel_rfl) rfl args w, fun W ws hb hp hx hl => cond2_any p pv ws W hp hx (hT.but hb) hl (hc.but hb hne).c⟩

set_option maxHeartbeats 4000000 in
theorem condition_any (s : ByteArray) (w : World) (hs : s.size ≤ 9223372036854775807) (hT : RT0 w) : Calls Tryz.prog 53 #[.string s] w (CondQ (condL s.data.toList) w) := by
  have hmf : ∀ (fn : Fn) (first cap : Array Value) (w : World), (Instr.makeFunc fn first cap).run Tryz.prog w = .ok (.func fn first cap) w := fun _ _ _ _ => rfl
  obtain ⟨r, hr⟩ : ∃ r, condL s.data.toList = r := ⟨_, rfl⟩
  rw [hr]
  unfold condL at hr
  rw [size_toList] at hr
  by_cases h200 : 200 < s.size
  · rw [if_pos h200] at hr
    subst hr
    have h1 : decide ((200 : Int) < (s.size : Int)) = true := by simp; omega
    go_enter_defers Tryz.func53, Tryz.ntmps53
    go_wp2
    refine leaves_cons (f := 67) (args := #[.pointer (some ⟨w.heap.size, 0, none⟩)]) (by simp) (by simp [go_sem]) ?_
    refine (catch_idle w.heap.size _).mono ?_
    rintro e u' w'' ⟨rfl, rfl, rfl⟩
    simp [Leaves, settle, results, Tryz.results53, go_sem]
    exact ⟨rfl, (Below.refl _ _).alloc (Nat.le_refl _) _⟩
  · rw [if_neg h200] at hr
    have h1 : decide ((200 : Int) < (s.size : Int)) = false := by simp; omega
    have htk := fun W => tokens_any s W (by omega)
    have HTK := Lib.hid htk
    have HR := Lib.hid hr
    have HT := Lib.hid hT
    clear htk hr hT
    go_enter_defers Tryz.func53, Tryz.ntmps53
    go_wp2_with fail
    have F1 : ∃ W, W = w.alloc (.cells #[.nilFunc] 118) ∧ Below w.heap.size w W ∧ CellV W w.heap.size .nilFunc ∧ W.heap.size = w.heap.size + 1 := ⟨_, rfl, (Below.refl _ _).alloc (Nat.le_refl _) _, CellV.made _ _ _ (by decide), by simp⟩
    obtain ⟨W, hW, hbW, cB, hsW⟩ := F1
    rw [← hW]
    clear hW
    refine (HTK.out W).mono ?_
    rintro e w2 ⟨hq, hb2⟩
    have hb02 : Below w.heap.size w w2 := hbW.trans (hb2.mono hbW.size)
    have cB2 : CellV w2 w.heap.size .nilFunc := cB.but (p := w2.heap.size) (But.of hb2) (by have := cB.lt; have := hb2.size; omega)
    cases hn : tokL s.data.toList with
    | none =>
      rw [hn] at hq
      obtain rfl := hq
      have hr0 : r = none := by rw [← HR.out, hn]
      have HR0 := Lib.hid hr0
      clear hn hr0
      refine leaves_cons (f := 67) (args := #[.pointer (some ⟨w.heap.size, 0, none⟩)]) (by simp) (by simp [go_sem]) ?_
      refine (catch_none w.heap.size _ [] _ cB2.c cB2.z).mono ?_
      rintro e u' w'' ⟨rfl, rfl, rfl⟩
      have hcell : ((w2.setCell ⟨w.heap.size, 0, none⟩ .nilFunc).alloc (.cells #[] 151)).cell? ⟨w.heap.size, 0, none⟩ = some .nilFunc := by
        rw [World.cell?_alloc_lt _ _ _ (by simpa [World.setCell] using cB2.lt), World.cell?_setCell_same (h := cB2.c)]
      simp [Leaves, settle, results, Tryz.results53, go_sem, hcell]
      refine ⟨?_, (hb02.setCell (Nat.le_refl _) _).alloc (by simpa [World.setCell] using hb02.size) _⟩
      rw [HR0.out]
    | some ws =>
      rw [hn] at hq
      obtain ⟨v, rfl, hown⟩ := hq
      obtain ⟨hxs, hlen⟩ := tokL_ok hn (by rw [size_toList]; omega)
      have HN := Lib.hid hn
      obtain ⟨a, cap, rfl⟩ := own_slice hown
      have F3 : ∃ W3, W3 = (w2.alloc (.cells #[.slice a ws.length cap] 156)).alloc (.cells #[.pointer (some ⟨w2.heap.size, 0, none⟩)] 153) ∧ Below w2.heap.size w2 W3 ∧ PAt W3 w2.heap.size ws ∧ CellV W3 (w2.heap.size + 1) (.pointer (some ⟨w2.heap.size, 0, none⟩)) ∧ W3.heap.size = w2.heap.size + 2 := by
        refine ⟨_, rfl, ((Below.refl _ _).alloc (Nat.le_refl _) _).alloc (by simp) _, parser_made hown _, ?_, by simp⟩
        have hs : (w2.alloc (.cells #[.slice a ws.length cap] 156)).heap.size = w2.heap.size + 1 := by simp
        rw [← hs]
        exact CellV.made _ _ _ (by decide)
      obtain ⟨W3, hW3, hb3, hp3, cP3, hs3⟩ := F3
      have hBlt := cB2.lt
      have cB3 : CellV W3 w.heap.size .nilFunc := cB2.but (p := W3.heap.size) (But.of hb3) (by omega)
      have hb03 : Below w.heap.size w W3 := hb02.trans (hb3.mono hb02.size)
      have hT3 : RT w2.heap.size W3 := HT.out.at hb03 hb02.size
      have hrow := row_any w2.heap.size [111, 114] someT pAnd _ _ ws W3 hp3 hxs (by omega) tog_some (cond_one w2.heap.size (w2.heap.size + 1) W3 hT3 cP3 (by omega)) (fun us T t h => pAnd_sub h)
      have HROW := Lib.hid hrow
      have HS3 := Lib.hid hs3
      have HP3 := Lib.hid hp3
      clear hn hown hrow hT3 hs3 hp3 hxs
      go_wp2_with fail
      rw [← hW3]
      clear hW3
      refine HROW.out.mono ?_
      rintro e w4 ⟨hq, hb4⟩
      have hPB : w.heap.size ≠ w2.heap.size := by omega
      have cB4 := cB3.but hb4 hPB
      have cP4 := cP3.but hb4 (by omega)
      have hb04 : Below w.heap.size w w4 := hb03.trans (hb4.low (by omega) hb03.size)
      cases hn : pRow [111, 114] someT pAnd ws with
      | none =>
        rw [hn] at hq
        obtain rfl := hq
        have hr0 : r = none := by rw [← HR.out, HN.out]; show (match pOr ws with | some (T, []) => some T | _ => none) = none; unfold pOr; rw [hn]
        have HR0 := Lib.hid hr0
        clear hn hr0
        refine leaves_cons (f := 67) (args := #[.pointer (some ⟨w.heap.size, 0, none⟩)]) (by simp) (by simp [go_sem]) ?_
        refine (catch_none w.heap.size _ [] _ cB4.c cB4.z).mono ?_
        rintro e u' w'' ⟨rfl, rfl, rfl⟩
        have hcell : ((w4.setCell ⟨w.heap.size, 0, none⟩ .nilFunc).alloc (.cells #[] 151)).cell? ⟨w.heap.size, 0, none⟩ = some .nilFunc := by
          rw [World.cell?_alloc_lt _ _ _ (by simpa [World.setCell] using cB4.lt), World.cell?_setCell_same (h := cB4.c)]
        simp [Leaves, settle, results, Tryz.results53, go_sem, hcell]
        refine ⟨?_, (hb04.setCell (Nat.le_refl _) _).alloc (by simpa [World.setCell] using hb04.size) _⟩
        rw [HR0.out]
      | some q =>
        obtain ⟨T, t⟩ := q
        rw [hn] at hq
        obtain ⟨⟨v, rfl, ht⟩, hp4⟩ := hq
        have hpo : pOr ws = some (T, t) := hn
        have HPO := Lib.hid hpo
        have HTT := Lib.hid ht
        have hp4l := hp4.lt
        obtain ⟨kf, cpf, rfl, _⟩ := ht
        obtain ⟨a4, c4, e1, e2, e3, e4, e5⟩ := hp4
        have yB := cB4.c
        have yBz := cB4.z
        have yP := cP4.c
        have hBt : w.heap.size < w4.heap.size := cB4.lt
        clear hn hpo e5
        cases t with
        | nil =>
          have hr0 : r = some T := by
            rw [← HR.out, HN.out]
            show (match pOr ws with | some (T, []) => some T | _ => none) = _
            rw [HPO.out]
          have HR0 := Lib.hid hr0
          clear hr0
          go_wp2
          refine leaves_cons (f := 67) (args := #[.pointer (some ⟨w.heap.size, 0, none⟩)]) (by simp) (by simp [go_sem]) ?_
          refine (catch_idle w.heap.size _).mono ?_
          rintro e u' w'' ⟨rfl, rfl, rfl⟩
          have cF := (cB4.same (.func (.func kf) #[] cpf)).same (.func (.func kf) #[] cpf)
          have hbF : Below w.heap.size w ((w4.setCell ⟨w.heap.size, 0, none⟩ (.func (.func kf) #[] cpf)).setCell ⟨w.heap.size, 0, none⟩ (.func (.func kf) #[] cpf)) := (hb04.setCell (Nat.le_refl _) _).setCell (Nat.le_refl _) _
          have hcell := cF.c
          simp [Leaves, settle, results, Tryz.results53, go_sem, hcell]
          refine ⟨?_, hbF⟩
          rw [HR0.out]
          have hsz : ((w4.setCell ⟨w.heap.size, 0, none⟩ (.func (.func kf) #[] cpf)).setCell ⟨w.heap.size, 0, none⟩ (.func (.func kf) #[] cpf)).heap.size = w4.heap.size := by simp [World.setCell]
          exact ⟨_, rfl, HTT.out.keep ⟨by rw [hsz]; exact Nat.le_refl _, fun k k1 k2 => by
            have hk : k ≠ w.heap.size := by have := HS3.out; omega
            rw [Below.heap_setCell _ _ _ _ hk, Below.heap_setCell _ _ _ _ hk]⟩ (by have := HS3.out; omega) (by rw [hsz]; exact Nat.le_refl _)⟩
        | cons x t' =>
          have hr0 : r = none := by
            rw [← HR.out, HN.out]
            show (match pOr ws with | some (T, []) => some T | _ => none) = _
            rw [HPO.out]
          have HR0 := Lib.hid hr0
          clear hr0
          go_wp2
          refine leaves_cons (f := 67) (args := #[.pointer (some ⟨w.heap.size, 0, none⟩)]) (by simp) (by simp [go_sem]) ?_
          refine (catch_idle w.heap.size _).mono ?_
          rintro e u' w'' ⟨rfl, rfl, rfl⟩
          have cF := (cB4.same (.func (.func kf) #[] cpf)).same .nilFunc
          have hbF : Below w.heap.size w ((w4.setCell ⟨w.heap.size, 0, none⟩ (.func (.func kf) #[] cpf)).setCell ⟨w.heap.size, 0, none⟩ .nilFunc) := (hb04.setCell (Nat.le_refl _) _).setCell (Nat.le_refl _) _
          have hcell := cF.c
          simp [Leaves, settle, results, Tryz.results53, go_sem, hcell]
          refine ⟨?_, hbF⟩
          rw [HR0.out]
end Go.Proofs.YtpepgmccbkkaaaaGreatDoor

/- plural's sets in memory. -/
namespace Go.Proofs.YtpepgmccbkkaaaaGreatDoor
open Go Go.RowKit
set_option maxRecDepth 10000

/-- a set in memory: categories' numbers and tests; it hangs on the blocks from lo to hi alone -/
def SetR (lo hi : Nat) (w : World) (a : Option Addr) (S : List (Nat × Tst)) : Prop :=
  ∀ j (h : j < S.length), ∃ g o v, a = some ⟨g, o, none⟩ ∧ w.cell? ⟨g, o + j * 2, none⟩ = some (.int .i64 S[j].1) ∧ w.cell? ⟨g, o + j * 2 + 1, none⟩ = some v ∧ lo ≤ g ∧ g < hi ∧ TestR lo hi w v S[j].2

theorem SetR.keep {lo hi lo' hi' : Nat} {w w' : World} {a : Option Addr} {S : List (Nat × Tst)} (h : SetR lo hi w a S) (hk : KeepR lo hi w w') (h1 : lo' ≤ lo) (h2 : hi ≤ hi') : SetR lo' hi' w' a S := fun j hj => by
  obtain ⟨g, o, v, e1, e2, e3, e4, e5, e6⟩ := h j hj
  exact ⟨g, o, v, e1, (hk.cell (p := ⟨g, _, none⟩) e4 e5).trans e2, (hk.cell (p := ⟨g, _, none⟩) e4 e5).trans e3, by omega, by omega, e6.keep hk h1 h2⟩

/-- the category of a number: the first test that holds -/
def ofL (S : List (Nat × Tst)) (x : Dg) : Nat := match S.find? (fun q => q.2 x) with | some q => q.1 | none => 5
end Go.Proofs.YtpepgmccbkkaaaaGreatDoor
