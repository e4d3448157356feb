import Derived.Test.YtpepgmccbkkaaaaGreatDoorJ21
import Derived.Laws.EntriesVeiled

/- plural's parser: rows. -/
namespace Go.Proofs.YtpepgmccbkkaaaaGreatDoor
open Go Go.RowKit
set_option maxRecDepth 10000

/-- a function value that parses -/
def OneR (p : Nat) (w : World) (v : Value) (P : Parser) : Prop :=
  ∃ k first cap, v = .func (.func k) first cap ∧ (∀ args w, (callFunc k args).run Tryz.prog w = .ok (.enter k args) w) ∧
    ∀ W ws, But p w W → PAt W p ws → (∀ x ∈ ws, WOk x) → ws.length ≤ 1000 → Calls Tryz.prog k (first ++ cap) W (ParseQ p (P ws) W)

/-- a function value that puts tests together -/
def TogR (v : Value) (tog : List Tst → Tst) : Prop :=
  ∃ k, v = .func (.func k) #[] #[] ∧ (∀ args w, (callFunc k args).run Tryz.prog w = .ok (.enter k args) w) ∧
    ∀ (Ts : List Tst) (a : Option Addr) (c lo : Nat) (W : World), Ts.length ≤ 1000000 → lo ≤ W.heap.size → TestsR lo W.heap.size W a Ts →
      Calls Tryz.prog k #[.slice a Ts.length c] W fun e w' => (∃ v, e = .returned v ∧ TestR lo w'.heap.size w' v (tog Ts)) ∧ Below W.heap.size W w'

/-- the loop's relation: 'is' stands next -/
def RowRel (p : Nat) (word : Wd) (P : Parser) (r : Option (List Tst × List Wd)) (n0 : Nat) (w : World) (sv : Value) (n : Nat) (wr : World) : Prop :=
  ∃ (Ts : List Tst) (us : List Wd), RowT w.heap.size wr sv Ts ∧ PAt wr p us ∧ But p w wr ∧ us.length + Ts.length ≤ n0 + 1 ∧ (∀ x ∈ us, WOk x) ∧ us.length ≤ n ∧ us.length ≤ n0 ∧
    (if isW word us then pRowGo word P n Ts us.tail else some (Ts, us)) = r

theorem row_lit {lo l0 h0 : Nat} {w : World} {u : Value} {T : Tst} (hT : TestR l0 h0 w u T) (hlo : lo ≤ l0) (hh : h0 ≤ w.heap.size) (hl : lo ≤ w.heap.size) :
    RowT lo (w.alloc (.cells #[u] 118)) (.slice (some ⟨w.heap.size, 0, none⟩) 1 1) [T] := by
  have hb : Below w.heap.size w (w.alloc (.cells #[u] 118)) := (Below.refl _ _).alloc (Nat.le_refl _) _
  refine ⟨[u], World.ownsRow_lit w #[u] 1 hl (by decide) rfl, fun j hj => ?_⟩
  have : j = 0 := by simp at hj; omega
  subst this
  exact ⟨u, l0, h0, rfl, hlo, Nat.le_trans hh hb.size, fun g hg => by cases hg; exact .inr hh, hT.keep (keep_below hb hh hh) (Nat.le_refl _) (Nat.le_refl _)⟩

set_option maxHeartbeats 2000000 in
theorem row_any (p : Nat) (word : Wd) (tog : List Tst → Tst) (P : Parser) (tv ov : Value) (ws : List Wd) (w : World) (hp : PAt w p ws) (hx : ∀ x ∈ ws, WOk x) (hl : ws.length ≤ 1000) (ht : TogR tv tog) (ho : OneR p w ov P) (hs : ∀ us T t, P us = some (T, t) → Sub t us) :
    Calls Tryz.prog 69 #[.pointer (some ⟨p, 0, none⟩), strv word, tv, ov] w (ParseQ p (pRow word tog P ws) w) := by
  obtain ⟨r, hr⟩ : ∃ r, pRowGo word P (ws.length + 1) [] ws = r := ⟨_, rfl⟩
  have hpr : pRow word tog P ws = r.map fun q => (tog q.1, q.2) := by unfold pRow; rw [hr]
  rw [hpr]
  have HR := Lib.hid hr
  have HX := Lib.hid hx
  have HP := Lib.hid hp
  have HS := Lib.hid hs
  have hlt := hp.lt
  obtain ⟨kt, rfl, het, htog⟩ := ht
  obtain ⟨ko, first, cap, rfl, heo, hone⟩ := ho
  have HTOG := Lib.hid htog
  have HONE := Lib.hid hone
  clear hr hpr hx hp hs htog hone
  go_enter Tryz.func69, Tryz.ntmps69
  go_wp2_with fail
  refine (HONE.out w ws (But.refl _ _) HP.out HX.out hl).mono ?_
  rintro e w1 ⟨hq, hb1⟩
  cases hn : P ws with
  | none =>
    rw [hn] at hq
    obtain rfl := hq
    have hr0 : r = none := by rw [← HR.out, pRowGo, hn]
    have HR0 := Lib.hid hr0
    clear hr0 hn
    go_wp2
    refine ⟨rfl, ?_, hb1⟩
    rw [HR0.out]
    rfl
  | some q =>
    obtain ⟨T1, t1⟩ := q
    rw [hn] at hq
    obtain ⟨⟨v, rfl, hT1⟩, hp1⟩ := hq
    have hsub1 := HS.out _ _ _ hn
    have hrl := row_lit hT1 (Nat.le_refl w.heap.size) (Nat.le_refl _) hb1.size
    have HRL := Lib.hid hrl
    obtain ⟨kv, cpv, rfl, _⟩ := hT1
    have hb1A : But p w (w1.alloc (.cells #[.func (.func kv) #[] cpv] 118)) := hb1.below ((Below.refl _ _).alloc (Nat.le_refl _) _)
    have hp1A : PAt (w1.alloc (.cells #[.func (.func kv) #[] cpv] 118)) p t1 := hp1.below ((Below.refl _ _).alloc (Nat.le_refl _) _)
    have HP1 := Lib.hid hp1A
    have hrr : (if isW word t1 then pRowGo word P ws.length [T1] t1.tail else some ([T1], t1)) = r := by rw [← HR.out, pRowGo, hn]; rfl
    have HRR := Lib.hid hrr
    have HX1 := Lib.hid (fun x hx => HX.out x (hsub1.mem x hx))
    have hln1 := hsub1.len
    clear hn hp1 hp1A hrl hrr hsub1
    go_wp2_with fail
    go_loopg [9] ws.length (fun n sv wr => RowRel p word P r ws.length w sv n wr)
    case atStart => exact ⟨[T1], t1, HRL.out, HP1.out, hb1A, by simp; omega, HX1.out, hln1, hln1, HRR.out⟩
    case round =>
      obtain ⟨Ts, us, hrow, hpa, hbut, hlen, hxs, hun, hu0, hgo⟩ := hrel
      have HROW := Lib.hid hrow
      have HPA := Lib.hid hpa
      have HXS := Lib.hid hxs
      have HGO := Lib.hid hgo
      obtain ⟨a, c, rfl⟩ := hrow.form
      clear hrow hpa hxs hgo
      go_wp2_with fail
      refine (is_lit p word us _ HPA.out).mono ?_
      rintro e w2 ⟨rfl, hp2, hb2⟩
      have hbut2 := hbut.trans hb2
      have HROW2 := Lib.hid (HROW.out.but hb2 hlt)
      have HP2 := Lib.hid hp2
      clear hp2
      cases hi : isW word us
      · have hgo := HGO.out
        rw [hi] at hgo
        have hp2 := HP2.out
        rw [hi] at hp2
        have HGO2 := Lib.hid hgo
        have HPZ := Lib.hid hp2
        have hsm := HTOG.out Ts a c w.heap.size w2 (by omega) hbut2.size HROW2.out.tests
        have HSM := Lib.hid hsm
        clear hi hgo hp2 hsm
        go_wp2_with fail
        refine HSM.out.mono ?_
        rintro e w3 ⟨⟨v, rfl, htt⟩, hb3⟩
        have HTT := Lib.hid htt
        clear htt
        go_wp2
        go_ret
        rw [← HGO2.out]
        exact ⟨⟨⟨_, rfl, HTT.out⟩, HPZ.out.below hb3⟩, hbut2.below hb3⟩
      · have hgo := HGO.out
        rw [hi] at hgo
        have hp2 := HP2.out
        rw [hi] at hp2
        have HPZ := Lib.hid hp2
        have hpos : 0 < us.length := by
          cases us with
          | nil => cases hi
          | cons x y => simp
        obtain ⟨m, rfl⟩ : ∃ m, gk = m + 1 := ⟨gk - 1, by omega⟩
        have HGO2 := Lib.hid hgo
        have hone := HONE.out w2 us.tail hbut2 hp2 (fun x hx => HXS.out x (List.mem_of_mem_tail hx)) (by simp; omega)
        have HON := Lib.hid hone
        clear hi hgo hp2 hone
        go_wp2_with fail
        refine HON.out.mono ?_
        rintro e w3 ⟨hq3, hb3⟩
        have hbut3 := hbut2.trans hb3
        cases hn3 : P us.tail with
        | none =>
          rw [hn3] at hq3
          obtain rfl := hq3
          have hr0 : r = none := by rw [← HGO2.out]; simp [pRowGo, hn3]
          have HR0 := Lib.hid hr0
          clear hr0 hn3
          go_wp2
          refine ⟨rfl, ?_, hbut3⟩
          rw [HR0.out]
          rfl
        | some q3 =>
          obtain ⟨T3, t3⟩ := q3
          rw [hn3] at hq3
          obtain ⟨⟨v, rfl, hT3⟩, hp3⟩ := hq3
          have hsub3 := HS.out _ _ _ hn3
          have hgo3 : (if isW word t3 then pRowGo word P m (Ts ++ [T3]) t3.tail else some (Ts ++ [T3], t3)) = r := by rw [← HGO2.out]; simp [pRowGo, hn3]
          have HGO3 := Lib.hid hgo3
          obtain ⟨vs, ho4, ht4⟩ := HROW2.out.but hb3 hlt
          have HFT := Lib.hid hT3
          have HP4 := Lib.hid hp3
          have HT4 := Lib.hid ht4
          have HO4 := Lib.hid ho4
          have HX3 := Lib.hid (fun x hx => HXS.out x (List.mem_of_mem_tail (hsub3.mem x hx)))
          have hl3 : t3.length + 1 ≤ us.length := by have := hsub3.len; simp at this; omega
          obtain ⟨kf, cpf, rfl, _⟩ := hT3
          clear hp3 ht4 ho4 hn3 hgo3 hsub3
          go_wp2_with (at_builtin; refine app_own_at elem_tests rfl _ _ rfl w.heap.size _ Ts.length vs rfl (HO4.out.alloc _) ⟨w3.heap.size, 0, none⟩ 1 1 [.func (.func kf) #[] cpf] rfl rfl ?c1 ?c2 ?c3 ?c4 ?_)
          case c1 => exact cells_one (cell_made _ _ _ _ _)
          case c2 => intro u hu; simp at hu; subst hu; rfl
          case c3 => omega
          case c4 => have := hbut3.size; simp; omega
          intro sv' w5 ho5 hg5 hat5
          have hbA : Below w3.heap.size w3 (w3.alloc (.cells #[.func (.func kf) #[] cpf] 118)) := (Below.refl _ _).alloc (Nat.le_refl _) _
          have hownb : ∀ g, (Value.slice a Ts.length c).ownBlock = some g → w.heap.size ≤ g ∧ g < w2.heap.size := fun g hg => by
            obtain ⟨_, ho3, _⟩ := HROW2.out
            exact ho3.lt g hg
          have hrow5 : RowT w.heap.size w5 sv' (Ts ++ [T3]) :=
            RowT.more HT4.out (by have := HO4.out.1; omega) HFT.out (by have := hbut2.size; omega) (Nat.le_refl _) (fun g hg => .inl (hownb g hg).2) hbA hg5 (by simpa using hat5) ho5
          have hp5 : PAt w5 p t3 := (HP4.out.below hbA).row (HO4.out.alloc _) hlt hg5
          have hbut5 : But p w w5 := (hbut3.below hbA).grown hg5 (fun k hk => (hownb k hk).1)
          obtain ⟨a5, c5, rfl⟩ := own_slice ho5
          have HROW5 := Lib.hid hrow5
          have HP5 := Lib.hid hp5
          clear hrow5 hp5 ho5 hg5 hat5 hbA hownb
          go_wp2
          go_roundg m
          case measure => omega
          case rel => exact ⟨Ts ++ [T3], t3, by simpa using HROW5.out, HP5.out, hbut5, by simp; omega, HX3.out, by omega, by omega, HGO3.out⟩
end Go.Proofs.YtpepgmccbkkaaaaGreatDoor
