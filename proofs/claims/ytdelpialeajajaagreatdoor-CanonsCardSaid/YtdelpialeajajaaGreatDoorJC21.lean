import Derived.Test.YtdelpialeajajaaGreatDoorJC20

/- check: an argument's kind; what is noted of an argument. -/
namespace Go.Proofs.YtdelpialeajajaaGreatDoor
open Go Go.RowKit
set_option maxRecDepth 10000

theorem bGo_end {cl : Nat} (seen : List Wd) (acc : List (Nat × Nat)) (n : Nat) : (if othW ∈ seen then acc else acc ++ [(6, cl)]).length ≤ acc.length + n + 1 := by
  split
  · omega
  · rw [List.length_append]
    show acc.length + 1 ≤ _
    omega

theorem bGo_len (cl : Nat) : ∀ (f : Fo) (seen : List Wd) (acc : List (Nat × Nat)), (bGo cl seen acc f).length ≤ acc.length + f.len + 1
  | .leg k a m r, seen, acc => by
    rw [bGo]
    refine Nat.le_trans (bGo_len cl r _ _) ?_
    split <;> simp [Fo.len] <;> omega
  | .nil, seen, acc => bGo_end seen acc _
  | .text _ _, seen, acc => bGo_end seen acc _
  | .hash _, seen, acc => bGo_end seen acc _
  | .put _ _ _, seen, acc => bGo_end seen acc _
  | .num _ _ _, seen, acc => bGo_end seen acc _
  | .br _ _ _ _ _ _ _, seen, acc => bGo_end seen acc _

/-- the kind that a node wants -/
def kindF : Fo → Nat
  | .num _ _ _ => 1
  | .br _ _ f _ _ _ _ => if f = 0 then 2 else 1
  | _ => 0

/-- what a node that is an argument looks like -/
theorem of_any {lo hi : Nat} {w0 : World} (x : Fo) (u : Value) (n : Wd) (a : Nat) (w : World) (hk : KeepR lo hi w0 w) (hnd : NodesV lo hi w0 [u] x) (hh : headF x = some (n, a)) :
    Calls Tryz.prog 80 #[u] w fun e w' => e = .returned (.int .i64 ((kindF x : Nat) : Int)) ∧ w' = w := by
  cases x with
  | nil => cases hh
  | text t r => cases hh
  | hash r => cases hh
  | leg k0 a0 m0 r0 => cases hh
  | put n0 a0 r =>
    obtain ⟨vt, b0, he, hb1, hb2, hc0, hc1, hnr⟩ := hnd
    cases he
    have e1 := as_put_num b0
    have e2 := as_put_br b0
    go_enter Tryz.func80, Tryz.ntmps80
    go_wp2
    go_ret
    exact ⟨rfl, rfl⟩
  | num n0 a0 r =>
    obtain ⟨vt, b0, he, hb1, hb2, hc0, hc1, hnr⟩ := hnd
    cases he
    have e1 := as_num_num b0
    go_enter Tryz.func80, Tryz.ntmps80
    go_wp2
    go_ret
    exact ⟨rfl, rfl⟩
  | br n0 a0 fo of cl bs r =>
    obtain ⟨vt, b0, ba, bc, ws, he, hb1, hb2, hc0, hc1, hc2, hc3, hc4, hc5, hrw, hbs, hnr⟩ := hnd
    cases he
    have e1 := as_br_num b0
    have e2 := as_br_br b0
    have c2 := keep_cell hk hc2 hb1 hb2
    by_cases hf : fo = 0
    · have HF := Lib.hid hf
      have j1 : ((fo : Int) == 0) = true := by simp [hf]
      clear hf
      go_enter Tryz.func80, Tryz.ntmps80
      go_wp2
      go_ret
      have hkf : kindF (.br n0 a0 fo of cl bs r) = 2 := if_pos HF.out
      rw [hkf]
      exact ⟨rfl, rfl⟩
    · have HF := Lib.hid hf
      have j1 : ((fo : Int) == 0) = false := by simp; omega
      clear hf
      go_enter Tryz.func80, Tryz.ntmps80
      go_wp2
      go_ret
      have hkf : kindF (.br n0 a0 fo of cl bs r) = 1 := if_neg HF.out
      rw [hkf]
      exact ⟨rfl, rfl⟩

abbrev KSt := (Wd → Option Nat) × List (Nat × Nat)

/-- the kind of an argument is noted, or its clash -/
def kindS (s : KSt) (n : Wd) (a k : Nat) : KSt :=
  if k ≠ 0 ∧ (s.1 n).isSome = true ∧ (s.1 n).getD 0 ≠ k then (s.1, s.2 ++ [(5, a)]) else if k ≠ 0 then (fun y => if n = y then some k else s.1 y, s.2) else s

def chkF (s : KSt) : Fo → Out KSt
  | .br n a f o cl bs r => .go true ((kindS s n a (kindF (.br n a f o cl bs r))).1, (kindS s n a (kindF (.br n a f o cl bs r))).2 ++ bGo cl [] [] bs)
  | .num n a _ => .go true (kindS s n a 1)
  | .put n a _ => .go true (kindS s n a 0)
  | _ => .go true s

theorem mapt_kind : MapT 181 182 := ⟨Tryz.underlying181, Tryz.underlying182, fun w => by simp [go_sem]⟩

/-- the state of the check, in memory: from block B on -/
structure ChkI (lo hi : Nat) (w0 : World) (B : Nat) (w : World) (s : KSt) (room : Nat) (W : World) : Prop where
  keep : KeepR lo hi w0 W
  hiB : hi ≤ B
  map : ∃ nm, MapG 182 W (B + 1) nm s.1 ∧ nm + room ≤ 1000000000
  row : ∃ v, W.cell? ⟨B, 0, none⟩ = some v ∧ FaultsR (B + 3) W v s.2
  kc : W.cell? ⟨B + 2, 0, none⟩ = some (.map (some (B + 1)))
  fz : W.frozen? ⟨B, 0, none⟩ = false
  few : s.2.length + room ≤ 1000000000
  bel : Below B w W

theorem ChkI.below {lo hi : Nat} {w0 : World} {B : Nat} {w : World} {s : KSt} {room : Nat} {W W' : World} (h : ChkI lo hi w0 B w s room W) (hb : Below W.heap.size W W') : ChkI lo hi w0 B w s room W' := by
  obtain ⟨h1, h2, ⟨nm, h3, h3'⟩, ⟨v, h4, h5⟩, h6, h7, h8, h9⟩ := h
  have l1 : B < W.heap.size := World.block_lt_of_cell? W _ h4
  have l2 : B + 2 < W.heap.size := World.block_lt_of_cell? W _ h6
  exact ⟨h1.below hb, h2, ⟨nm, h3.below hb, h3'⟩, ⟨v, (hb.cell (p := ⟨B, 0, none⟩) l1).trans h4, h5.keepB hb⟩, (hb.cell (p := ⟨B + 2, 0, none⟩) l2).trans h6, (hb.frozen (p := ⟨B, 0, none⟩) l1).trans h7, h8, h9.trans (hb.mono (by omega))⟩

theorem ChkI.less {lo hi : Nat} {w0 : World} {B : Nat} {w : World} {s : KSt} {room room' : Nat} {W : World} (h : ChkI lo hi w0 B w s room W) (hr : room' ≤ room) : ChkI lo hi w0 B w s room' W := by
  obtain ⟨h1, h2, ⟨nm, h3, h3'⟩, h4, h6, h7, h8, h9⟩ := h
  exact ⟨h1, h2, ⟨nm, h3, by omega⟩, h4, h6, h7, by omega, h9⟩

/-- a row of faults behind a row of the call's own, as one operation of a region -/
theorem op_faults {w : World} {o : Oper} {a : Act} {K : Act → World → Prop} {Q : Exit → Act → World → Prop}
    (s x : Operand) (ho : o.op = .call { callee := .builtin .append, args := #[s, x], argTypes := #[180, 180] })
    (base base2 : Nat) (v u : Value) (acc l : List (Nat × Nat)) (hs : a.eval s = v) (hF : FaultsR base w v acc) (hx : a.eval x = u) (hU : FaultsR base2 w u l) (h31 : acc.length + l.length ≤ 2147483648) (hbase : base ≤ w.heap.size)
    (h : ∀ v' w', FaultsR base w' v' (acc ++ l) → w.grownBy w' v.ownBlock → K (a.put o.dst v') w') : Oper.wp Tryz.prog o a w K Q := by
  obtain ⟨i, hi, hz, h2, h3⟩ := elem_fault.info
  have hU0 := hU
  rcases hU.2 with ⟨hu, hn⟩ | ⟨g, cap, cur, hu, hg, hh, hnc, hcm, hcs, ht⟩
  · have hl : l = [] := List.eq_nil_of_length_eq_zero hn
    subst hl
    have hr := run_append_owned_none (P := Tryz.prog) (w := w) base 180 o.type 90 i 2 elem_fault.under hi v acc.length (faultC acc) hF
    unfold Oper.wp execOp
    simp only [ho, resolve, invoke, builtin, Sem.run_bind, Sem.run_pure, Result.andThen_ok, List.map_toArray, List.map_cons, List.map_nil, hs, hx, hu, hr]
    exact h v w (by simpa using hF) (grown_refl w _)
  · obtain ⟨v', w', hr, k1, k2, _⟩ := run_append_own (P := Tryz.prog) w base 180 o.type 90 i _ 2 16 elem_fault.under hi hz h2 h3 elem_fault.zsize elem_fault.pos v acc.length (faultC acc) hF ⟨g, 0, none⟩ l.length cap (faultC l) (faultC_len l)
      (fun j x hx => by
        have hj : j < (faultC l).length := (List.getElem?_eq_some_iff.1 hx).1
        rw [addr_add0, ← hx]
        rw [faultC_len] at hj
        obtain ⟨g', cap', hv', _, _, hcell⟩ := own_some hU0 (by omega)
        rw [hu] at hv'
        cases hv'
        exact hcell j hj)
      (fun x hx => by
        simp only [faultC, List.mem_flatMap] at hx
        obtain ⟨y, _, hy⟩ := hx
        simp at hy
        rcases hy with rfl | rfl <;> rfl) (by unfold maxLen; omega) (by omega) hbase
    unfold Oper.wp execOp
    simp only [ho, resolve, invoke, builtin, Sem.run_bind, Sem.run_pure, Result.andThen_ok, List.map_toArray, List.map_cons, List.map_nil, hs, hx, hu, hr]
    exact h v' w' (by unfold FaultsR; rw [faultC_app, List.length_append]; exact k1) k2
end Go.Proofs.YtdelpialeajajaaGreatDoor

/- check: what the function that is handed to Each does. -/
namespace Go.Proofs.YtdelpialeajajaaGreatDoor
open Go Go.RowKit
set_option maxRecDepth 10000

theorem kindF_le (x : Fo) : kindF x ≤ 2 := by
  cases x <;> simp [kindF]
  split <;> decide

theorem kindS_few (s : KSt) (n : Wd) (a k : Nat) : (kindS s n a k).2.length ≤ s.2.length + 1 := by
  unfold kindS
  split
  · simp
  · split <;> simp

theorem KeepR.drewK {lo hi : Nat} {w W : World} (h : KeepR lo hi w W) : KeepR lo hi w W.drew := h

theorem chk_row {lo hi : Nat} {w0 : World} {B : Nat} {w : World} {s : KSt} {room room' : Nat} {W W' : World} {row : Option Nat} {v' : Value} {l : List (Nat × Nat)} (h : ChkI lo hi w0 B w s room W) (hg : W.grownBy W' row) (hown : ∀ k, row = some k → B + 3 ≤ k)
    (hf : FaultsR (B + 3) W' v' (s.2 ++ l)) (hr : room' + l.length ≤ room) : ChkI lo hi w0 B w (s.1, s.2 ++ l) room' (W'.setCell ⟨B, 0, none⟩ v') := by
  obtain ⟨h1, h2, ⟨nm, h3, h3'⟩, ⟨v, h4, h5⟩, h6, h7, h8, h9⟩ := h
  have hne : ∀ k, k < B + 3 → (some k : Option Nat) ≠ row := fun k q1 q2 => by have := hown k q2.symm; omega
  have l0 : B < W.heap.size := World.block_lt_of_cell? W _ h4
  have hb : ∀ k, k < W.heap.size → k < B + 3 → k ≠ B → (W'.setCell ⟨B, 0, none⟩ v').heap[k]? = W.heap[k]? := fun k q1 q2 q3 => (Below.heap_setCell _ _ _ _ q3).trans (hg.block k q1 (hne k q2))
  have l2 : B + 2 < W.heap.size := World.block_lt_of_cell? W _ h6
  have hsz : W.heap.size ≤ (W'.setCell ⟨B, 0, none⟩ v').heap.size := Nat.le_trans hg.size (by simp [World.setCell])
  have c0 : W'.cell? ⟨B, 0, none⟩ = some v := hg.cell h4 (hne B (by omega))
  refine ⟨⟨Nat.le_trans h1.1 hsz, fun k k1 k2 => (hb k (by have := h1.1; omega) (by omega) (by omega)).trans (h1.2 k k1 k2)⟩, h2, ⟨nm, h3.keep (hb (B + 1) h3.lt (by omega) (by omega)), by omega⟩, ⟨v', by rw [cellSet, if_pos rfl, c0]; rfl, ?_⟩,
    (World.cell?_of_block (a := ⟨B + 2, 0, none⟩) (hb (B + 2) l2 (by omega) (by omega))).trans h6, ?_, ?_, ?_⟩
  · exact ownsRow_setCell_below hf (a := ⟨B, 0, none⟩) (by show B < B + 3; omega) v'
  · rw [World.frozen?_setCell]
    exact (World.frozen?_of_block (a := ⟨B, 0, none⟩) (hg.block B l0 (hne B (by omega)))).trans h7
  · show (s.2 ++ l).length + room' ≤ _
    rw [List.length_append]
    omega
  · exact setc_below (h9.grown hg (by omega) (fun k q => by have := hown k q; omega)) (Nat.le_refl _)

theorem chk_put {lo hi : Nat} {w0 : World} {B : Nat} {w : World} {s : KSt} {room room' nm : Nat} {W W' : World} {f : Wd → Option Nat} (h : ChkI lo hi w0 B w s room W) (hm : MapG 182 W' (B + 1) (nm + 1) f) (hg : W.grownBy W' (some (B + 1)))
    (hn : nm + room ≤ 1000000000) (hr : room' + 1 ≤ room) : ChkI lo hi w0 B w (f, s.2) room' W' := by
  obtain ⟨h1, h2, _, ⟨v, h4, h5⟩, h6, h7, h8, h9⟩ := h
  have hne : ∀ k, k ≠ B + 1 → (some k : Option Nat) ≠ some (B + 1) := fun k q1 q2 => q1 (by cases q2; rfl)
  have l0 : B < W.heap.size := World.block_lt_of_cell? W _ h4
  refine ⟨⟨Nat.le_trans h1.1 hg.size, fun k k1 k2 => (hg.block k (by have := h1.1; omega) (hne k (by omega))).trans (h1.2 k k1 k2)⟩, h2, ⟨nm + 1, hm, by omega⟩, ⟨v, hg.cell h4 (hne B (by omega)), h5.keepG hg (by omega)⟩,
    hg.cell h6 (hne (B + 2) (by omega)), ?_, by show s.2.length + room' ≤ _; omega, h9.grown hg (by omega) (fun k q => by cases q; omega)⟩
  exact (World.frozen?_of_block (a := ⟨B, 0, none⟩) (hg.block B l0 (hne B (by omega)))).trans h7

set_option maxHeartbeats 8000000 in
theorem chk_any {lo hi : Nat} {w0 : World} {B : Nat} {w : World} (x : Fo) (u : Value) (n : Wd) (a : Nat) (s : KSt) (room : Nat) (W : World) (hI : ChkI lo hi w0 B w s (room + x.wt) W) (hnd : NodesV lo hi w0 [u] x) (hwf : x.wf 2000000 = true) (hh : headF x = some (n, a)) :
    Calls Tryz.prog 79 #[u, .agg #[strv n, .int .i64 (a : Nat)], .pointer (some ⟨B + 2, 0, none⟩), .pointer (some ⟨B, 0, none⟩)] W (OutQ (ChkI lo hi w0 B w) room (chkF s x)) := by
  have HI := Lib.hid hI
  have HND := Lib.hid hnd
  have HWF := Lib.hid hwf
  clear hI hwf
  cases x with
  | nil => cases hh
  | text t r => cases hh
  | hash r => cases hh
  | leg k0 a0 m0 r0 => cases hh
  | put n0 a0 r =>
    obtain ⟨vt, b0, he, hb1, hb2, hc0, hc1, hnr⟩ := hnd
    obtain ⟨rfl, rfl⟩ : n = n0 ∧ a = a0 := by cases hh; exact ⟨rfl, rfl⟩
    cases he
    have e1 := as_put_br b0
    have HI := Lib.hid (show ChkI lo hi w0 B w s (room + 1) W from HI.out)
    have hnl : n.length ≤ 4000001 := by have := HWF.out; simp [Fo.wf] at this; exact this.1
    obtain ⟨kv, hkv⟩ : ∃ kv, kindF (.put n a r) = kv := ⟨_, rfl⟩
    have HOF := Lib.hid (fun W' hk => of_any (.put n a r) (.iface 110 (.pointer (some ⟨b0, 0, none⟩))) n a W' hk HND.out rfl)
    have HKV := Lib.hid hkv
    rw [hkv] at HOF
    clear hkv
    go_enter Tryz.func79, Tryz.ntmps79
    go_wp2_with fail
    have hbA : Below W.heap.size W (W.alloc (.cells #[strv n, .int .i64 (a : Nat)] 84)) := (Below.refl _ _).alloc (Nat.le_refl _) _
    have hcA := fun i => cell_made W #[strv n, .int .i64 (a : Nat)] 84 (0, 0) i
    have hI1 := HI.out.below hbA
    obtain ⟨W1, hW1⟩ : ∃ W1, W.alloc (.cells #[strv n, .int .i64 (a : Nat)] 84) = W1 := ⟨_, rfl⟩
    rw [hW1] at hcA hI1 ⊢
    have hh0 := hcA 0
    have hh1 := hcA 1
    clear hW1 hcA hbA
    refine (HOF.out W1 hI1.keep).mono ?_
    rintro e W2 ⟨rfl, rfl⟩
    obtain ⟨nm, hmp, hnm⟩ := hI1.map
    obtain ⟨fv, hfc, hfr⟩ := hI1.row
    obtain ⟨fa, fc, rfl⟩ := own_slice hfr
    have hlk := hmp.look mapt_kind n (by omega)
    have hkc := hI1.kc
    have hfz := hI1.fz
    have hfew := hI1.few
    have HI1 := Lib.hid hI1
    have HMP := Lib.hid hmp
    have HFR := Lib.hid hfr
    have hB2 : B + 2 < W2.heap.size := World.block_lt_of_cell? W2 _ hkc
    clear hI1 hmp hfr
    obtain ⟨kk, hkk⟩ : ∃ kk, (s.1 n).getD 0 = kk := ⟨_, rfl⟩
    obtain ⟨bb, hbb⟩ : ∃ bb, (s.1 n).isSome = bb := ⟨_, rfl⟩
    rw [hkk, hbb] at hlk
    have HKK := Lib.hid hkk
    have HBB := Lib.hid hbb
    clear hkk hbb HOF
    have hk0 : kv = 0 := HKV.out.symm
    subst hk0
    have HF := Lib.hid (HI1.out.less (room' := room) (by omega))
    go_wp2
    go_ret
    have hch : chkF s (.put n a r) = .go true s := by show Out.go true (kindS s n a 0) = _; unfold kindS; simp
    rw [hch]
    exact ⟨rfl, HF.out⟩
  | num n0 a0 r =>
    obtain ⟨vt, b0, he, hb1, hb2, hc0, hc1, hnr⟩ := hnd
    obtain ⟨rfl, rfl⟩ : n = n0 ∧ a = a0 := by cases hh; exact ⟨rfl, rfl⟩
    cases he
    have e1 := as_num_br b0
    have HI := Lib.hid (show ChkI lo hi w0 B w s (room + 1) W from HI.out)
    have hnl : n.length ≤ 4000001 := by have := HWF.out; simp [Fo.wf] at this; exact this.1
    obtain ⟨kv, hkv⟩ : ∃ kv, kindF (.num n a r) = kv := ⟨_, rfl⟩
    have HOF := Lib.hid (fun W' hk => of_any (.num n a r) (.iface 113 (.pointer (some ⟨b0, 0, none⟩))) n a W' hk HND.out rfl)
    have HKV := Lib.hid hkv
    rw [hkv] at HOF
    clear hkv
    go_enter Tryz.func79, Tryz.ntmps79
    go_wp2_with fail
    have hbA : Below W.heap.size W (W.alloc (.cells #[strv n, .int .i64 (a : Nat)] 84)) := (Below.refl _ _).alloc (Nat.le_refl _) _
    have hcA := fun i => cell_made W #[strv n, .int .i64 (a : Nat)] 84 (0, 0) i
    have hI1 := HI.out.below hbA
    obtain ⟨W1, hW1⟩ : ∃ W1, W.alloc (.cells #[strv n, .int .i64 (a : Nat)] 84) = W1 := ⟨_, rfl⟩
    rw [hW1] at hcA hI1 ⊢
    have hh0 := hcA 0
    have hh1 := hcA 1
    clear hW1 hcA hbA
    refine (HOF.out W1 hI1.keep).mono ?_
    rintro e W2 ⟨rfl, rfl⟩
    obtain ⟨nm, hmp, hnm⟩ := hI1.map
    obtain ⟨fv, hfc, hfr⟩ := hI1.row
    obtain ⟨fa, fc, rfl⟩ := own_slice hfr
    have hlk := hmp.look mapt_kind n (by omega)
    have hkc := hI1.kc
    have hfz := hI1.fz
    have hfew := hI1.few
    have HI1 := Lib.hid hI1
    have HMP := Lib.hid hmp
    have HFR := Lib.hid hfr
    have hB2 : B + 2 < W2.heap.size := World.block_lt_of_cell? W2 _ hkc
    clear hI1 hmp hfr
    obtain ⟨kk, hkk⟩ : ∃ kk, (s.1 n).getD 0 = kk := ⟨_, rfl⟩
    obtain ⟨bb, hbb⟩ : ∃ bb, (s.1 n).isSome = bb := ⟨_, rfl⟩
    rw [hkk, hbb] at hlk
    have HKK := Lib.hid hkk
    have HBB := Lib.hid hbb
    clear hkk hbb HOF
    have hkv0 : kv ≠ 0 := by rw [← HKV.out]; exact Nat.one_ne_zero
    have hkv2 : kv ≤ 2 := by rw [← HKV.out]; exact kindF_le _
    have j1 : ((kv : Int) != 0) = true := by simp; omega
    have j1' : ((kv : Int) == 0) = false := by simp; omega
    have HK0 := Lib.hid hkv0
    cases bb with
    | false =>
      obtain ⟨W4, hup, hm4, hg4⟩ := HMP.out.put mapt_kind n (by omega) (kv : Int) kv rfl (by omega) (by omega)
      have HST := Lib.hid (show kindS s n a kv = (fun y => if n = y then some kv else s.1 y, s.2) by unfold kindS; rw [if_neg (fun e => by have := e.2.1; rw [HBB.out] at this; cases this), if_pos HK0.out])
      have HF := Lib.hid (chk_put HI1.out hm4 hg4 (room' := room) hnm (by omega))
      clear hm4 hg4
      go_wp2
      go_ret
      have hch : chkF s (.num n a r) = .go true ((fun y => if n = y then some kv else s.1 y, s.2) : KSt) := by show Out.go true (kindS s n a 1) = _; rw [show (1 : Nat) = kv from HKV.out, HST.out]
      rw [hch]
      exact ⟨rfl, HF.out⟩
    | true =>
      by_cases hsame : kk = kv
      · have j2 : ((kk : Int) != (kv : Int)) = false := by simp [hsame]
        have j3 : (kk != kv) = false := by simp [hsame]
        have HSAME := Lib.hid hsame
        clear hsame
        obtain ⟨W4, hup, hm4, hg4⟩ := HMP.out.put mapt_kind n (by omega) (kv : Int) kv rfl (by omega) (by omega)
        have HST := Lib.hid (show kindS s n a kv = (fun y => if n = y then some kv else s.1 y, s.2) by unfold kindS; rw [if_neg (fun e => e.2.2 (by rw [HKK.out]; exact HSAME.out)), if_pos HK0.out])
        have HF := Lib.hid (chk_put HI1.out hm4 hg4 (room' := room) hnm (by omega))
        clear hm4 hg4
        go_wp2
        go_ret
        have hch : chkF s (.num n a r) = .go true ((fun y => if n = y then some kv else s.1 y, s.2) : KSt) := by show Out.go true (kindS s n a 1) = _; rw [show (1 : Nat) = kv from HKV.out, HST.out]
        rw [hch]
        exact ⟨rfl, HF.out⟩
      · have j2 : ((kk : Int) != (kv : Int)) = true := by simp; omega
        have j3 : (kk != kv) = true := by simp [hsame]
        have HSAME := Lib.hid hsame
        clear hsame
        go_wp2_with (at_builtin; refine list_gen ?_)
        intro W3 hW3
        have hal : Below W2.heap.size W2 W3 := by rw [hW3]; exact (Below.refl _ _).alloc (Nat.le_refl _) _
        have hC3 := fun i => cell_made W2 #[.int .i64 5, .int .i64 (a : Nat)] 90 (0, 0) i
        rw [← hW3] at hC3
        have HI3 := Lib.hid (HI1.out.below hal)
        have q3 := (hal.cell (World.block_lt_of_cell? _ _ hfc)).trans hfc
        have HO3 := Lib.hid (HFR.out.keepB hal)
        have hsz3 := hal.size
        clear hW3
        refine app_own elem_fault rfl _ _ rfl (B + 3) _ s.2.length (faultC s.2) rfl HO3.out ⟨W2.heap.size, 0, none⟩ 1 1 [.int .i64 5, .int .i64 (a : Nat)] rfl rfl ?w5V1 ?w5V2 (by omega) (by omega) ?w5V3
        case w5V1 => exact cells_two (hC3 0) (hC3 1)
        case w5V2 =>
          intro u hu
          simp at hu
          rcases hu with rfl | rfl <;> rfl
        intro v4 w4 ho4 hg4
        have hf4 : FaultsR (B + 3) w4 v4 (s.2 ++ [(5, a)]) := by unfold FaultsR; rw [faultC_app, List.length_append]; exact ho4
        have hown : ∀ k, (Value.slice fa s.2.length fc).ownBlock = some k → B + 3 ≤ k := fun k hk => (HFR.out.lt k hk).1
        have hne : ∀ k, k < B + 3 → (some k : Option Nat) ≠ (Value.slice fa s.2.length fc).ownBlock := fun k h1 h2 => by have := hown k h2.symm; omega
        have q4 := hg4.cell q3 (hne B (by omega))
        have z4 : w4.frozen? ⟨B, 0, none⟩ = false := (World.frozen?_of_block (a := ⟨B, 0, none⟩) (hg4.block B (World.block_lt_of_cell? _ _ q3) (hne B (by omega)))).trans HI3.out.fz
        have HST := Lib.hid (show kindS s n a kv = (s.1, s.2 ++ [(5, a)]) by unfold kindS; rw [if_pos ⟨HK0.out, HBB.out, fun e => HSAME.out (HKK.out.symm.trans e)⟩])
        have HF := Lib.hid (chk_row (l := [(5, a)]) (room' := room) HI3.out hg4 hown hf4 (by simp <;> omega))
        obtain ⟨fa4, fc4, rfl⟩ := own_slice hf4
        obtain ⟨W4, hW4⟩ : ∃ W4, w4.setCell ⟨B, 0, none⟩ (.slice fa4 (s.2.length + 1) fc4) = W4 := ⟨_, rfl⟩
        have hlen4 : (s.2 ++ [(5, a)]).length = s.2.length + 1 := by simp
        rw [hlen4, hW4] at HF
        have HW4 := Lib.hid hW4
        clear ho4 hg4 hown hf4 hne q3 HO3 hlen4
        go_wp2
        go_ret
        have hch : chkF s (.num n a r) = .go true ((s.1, s.2 ++ [(5, a)]) : KSt) := by show Out.go true (kindS s n a 1) = _; rw [show (1 : Nat) = kv from HKV.out, HST.out]
        rw [hch]
        exact ⟨rfl, HF.out⟩
  | br n0 a0 fo of cl bs r =>
    obtain ⟨vt, b0, ba, bc, ws, he, hb1, hb2, hc0, hc1, hc2, hc3, hc4, hc5, hrw, hbs, hnr⟩ := hnd
    obtain ⟨rfl, rfl⟩ : n = n0 ∧ a = a0 := by cases hh; exact ⟨rfl, rfl⟩
    cases he
    have e1 := as_br_br b0
    have HI := Lib.hid (show ChkI lo hi w0 B w s (room + (2 + bs.len)) W from HI.out)
    have hnl : n.length ≤ 4000001 := by have := HWF.out; simp [Fo.wf] at this; exact this.1.1.1.1.1
    have HND2 := Lib.hid (show NodesV lo hi w0 [.iface 115 (.pointer (some ⟨b0, 0, none⟩))] (.br n a fo of cl bs .nil) from ⟨[], b0, ba, bc, ws, rfl, hb1, hb2, hc0, hc1, hc2, hc3, hc4, hc5, hrw, hbs, rfl⟩)
    have HWF2 := Lib.hid (show (Fo.br n a fo of cl bs .nil).wf 2000000 = true by have := HWF.out; simp [Fo.wf] at this ⊢; exact this.1)
    obtain ⟨kv, hkv⟩ : ∃ kv, kindF (.br n a fo of cl bs r) = kv := ⟨_, rfl⟩
    have HOF := Lib.hid (fun W' hk => of_any (.br n a fo of cl bs r) (.iface 115 (.pointer (some ⟨b0, 0, none⟩))) n a W' hk HND.out rfl)
    have HKV := Lib.hid hkv
    rw [hkv] at HOF
    clear hkv
    go_enter Tryz.func79, Tryz.ntmps79
    go_wp2_with fail
    have hbA : Below W.heap.size W (W.alloc (.cells #[strv n, .int .i64 (a : Nat)] 84)) := (Below.refl _ _).alloc (Nat.le_refl _) _
    have hcA := fun i => cell_made W #[strv n, .int .i64 (a : Nat)] 84 (0, 0) i
    have hI1 := HI.out.below hbA
    obtain ⟨W1, hW1⟩ : ∃ W1, W.alloc (.cells #[strv n, .int .i64 (a : Nat)] 84) = W1 := ⟨_, rfl⟩
    rw [hW1] at hcA hI1 ⊢
    have hh0 := hcA 0
    have hh1 := hcA 1
    clear hW1 hcA hbA
    refine (HOF.out W1 hI1.keep).mono ?_
    rintro e W2 ⟨rfl, rfl⟩
    obtain ⟨nm, hmp, hnm⟩ := hI1.map
    obtain ⟨fv, hfc, hfr⟩ := hI1.row
    obtain ⟨fa, fc, rfl⟩ := own_slice hfr
    have hlk := hmp.look mapt_kind n (by omega)
    have hkc := hI1.kc
    have hfz := hI1.fz
    have hfew := hI1.few
    have HI1 := Lib.hid hI1
    have HMP := Lib.hid hmp
    have HFR := Lib.hid hfr
    have hB2 : B + 2 < W2.heap.size := World.block_lt_of_cell? W2 _ hkc
    clear hI1 hmp hfr
    obtain ⟨kk, hkk⟩ : ∃ kk, (s.1 n).getD 0 = kk := ⟨_, rfl⟩
    obtain ⟨bb, hbb⟩ : ∃ bb, (s.1 n).isSome = bb := ⟨_, rfl⟩
    rw [hkk, hbb] at hlk
    have HKK := Lib.hid hkk
    have HBB := Lib.hid hbb
    clear hkk hbb HOF
    have hkv0 : kv ≠ 0 := by rw [← HKV.out]; by_cases h : fo = 0 <;> simp [kindF, h]
    have hkv2 : kv ≤ 2 := by rw [← HKV.out]; exact kindF_le _
    have j1 : ((kv : Int) != 0) = true := by simp; omega
    have j1' : ((kv : Int) == 0) = false := by simp; omega
    have HK0 := Lib.hid hkv0
    cases bb with
    | false =>
      obtain ⟨W4, hup, hm4, hg4⟩ := HMP.out.put mapt_kind n (by omega) (kv : Int) kv rfl (by omega) (by omega)
      have HST := Lib.hid (show kindS s n a kv = (fun y => if n = y then some kv else s.1 y, s.2) by unfold kindS; rw [if_neg (fun e => by have := e.2.1; rw [HBB.out] at this; cases this), if_pos HK0.out])
      have HF := Lib.hid (chk_put HI1.out hm4 hg4 (room' := (room + 1 + bs.len)) hnm (by omega))
      clear hm4 hg4
      obtain ⟨s1, hs1⟩ : ∃ s1 : KSt, ((fun y => if n = y then some kv else s.1 y, s.2) : KSt) = s1 := ⟨_, rfl⟩
      rw [hs1] at HST HF
      clear hs1
      go_wp2_with fail
      have q1 := HF.out.row
      obtain ⟨v1, q2, q3⟩ := q1
      obtain ⟨fa1, fc1, rfl⟩ := own_slice q3
      have HBR := Lib.hid (fun W' hk => syn_branches b0 n a fo of cl bs W' hk HND2.out HWF2.out)
      have HQ3 := Lib.hid q3
      refine wp_region_takesK (fun W' : World => W'.cell? ⟨B, 0, none⟩ = some (.slice fa1 (s1).2.length fc1)) 4 [0, 1] 3 (by intro _ _ d _ _ h; cases d <;> exact h) (by kernel_rfl) (by kernel_rfl) q2 ?_
      (iterate 2 (first | (refine takes_yes (v := ?_) rfl (by rfl) ?_ ?_; rotate_left; (focus ((intro w' hS'; (try dsimp only at hS'); go_simp; try (with_reducible rfl)); done)); (try simp only [Act.put, List.setIfInBounds_toArray, List.set_cons_zero, List.set_cons_succ])) | (refine takes_no rfl (by rfl) ?_; (try simp only [Act.put, List.setIfInBounds_toArray, List.set_cons_zero, List.set_cons_succ]))))
      refine takes_nil ?_
      refine wpAnyK_only 2 (by kernel_rfl) rfl (fun K hK => ?_)
      go_simp
      refine (HBR.out W4.drew HF.out.keep.drewK).mono ?_
      rintro e W5 ⟨⟨vb, rfl, hfb⟩, hb5⟩
      have hb5' : Below W4.heap.size W4 W5 := (Below.refl _ W4).drew.trans hb5
      have hI5 := HF.out.below hb5'
      have q5 : W5.cell? ⟨B, 0, none⟩ = some (.slice fa1 (s1).2.length fc1) := (hb5'.cell (World.block_lt_of_cell? _ _ q2)).trans q2
      have q6 := HQ3.out.keepB hb5'
      have z5 := hI5.fz
      have HI5 := Lib.hid hI5
      have HFB := Lib.hid hfb
      clear hI5 hfb
      refine hK.out _ _ q5 (fun _ => ?_)
      clear hK K
      refine wpAnyK_only 3 (by kernel_rfl) rfl (fun K hK => ?_)
      rw [if_pos (by rfl)]
      refine op_faults _ _ rfl (B + 3) _ _ vb (s1).2 (bGo cl [] [] bs) rfl q6 rfl HFB.out ?w8X1 ?w8X2 ?w8X3
      case w8X1 =>
        have := bGo_len cl bs [] []
        have := HF.out.few
        simp only [List.length_nil] at *
        omega
      case w8X2 => have h := World.block_lt_of_cell? _ _ HF.out.kc; have := hb5'.size; dsimp only at h; omega
      case w8X3 =>
        intro v6 W6 hf6 hg6
        have HF6 := Lib.hid hf6
        have hown : ∀ k, (Value.slice fa1 (s1).2.length fc1).ownBlock = some k → B + 3 ≤ k := fun k hk => (HQ3.out.lt k hk).1
        have hne : ∀ k, k < B + 3 → (some k : Option Nat) ≠ (Value.slice fa1 (s1).2.length fc1).ownBlock := fun k h1 h2 => by have := hown k h2.symm; omega
        have q7 := hg6.cell q5 (hne B (by omega))
        have q8 : W6.frozen? ⟨B, 0, none⟩ = false := (World.frozen?_of_block (a := ⟨B, 0, none⟩) (hg6.block B (World.block_lt_of_cell? _ _ q5) (hne B (by omega)))).trans z5
        have hI6 := chk_row (room' := room) HI5.out hg6 hown hf6 (by have := bGo_len cl bs [] []; simp only [List.length_nil] at this; omega)
        obtain ⟨fa6, fc6, rfl⟩ := own_slice hf6
        refine hK.out _ _ q7 (fun _ => ?_)
        clear hK K
        refine wpAnyK_last 4 (by kernel_rfl) (by kernel_rfl) rfl (fun K hK => ?_)
        go_simp
        refine hK.out _ _ ?_
        clear hK K
        refine wpAnyK_done (by kernel_rfl) ?_ _
        rw [List.length_append] at hI6
        have HI6 := Lib.hid hI6
        clear hI6
        go_wp2
        go_ret
        have hch : chkF s (.br n a fo of cl bs r) = .go true (s1.1, s1.2 ++ bGo cl [] [] bs) := by
          show Out.go true ((kindS s n a (kindF (.br n a fo of cl bs r))).1, (kindS s n a (kindF (.br n a fo of cl bs r))).2 ++ bGo cl [] [] bs) = _
          rw [HKV.out, HST.out]
        rw [hch]
        exact ⟨rfl, HI6.out⟩
    | true =>
      by_cases hsame : kk = kv
      · have j2 : ((kk : Int) != (kv : Int)) = false := by simp [hsame]
        have j3 : (kk != kv) = false := by simp [hsame]
        have HSAME := Lib.hid hsame
        clear hsame
        obtain ⟨W4, hup, hm4, hg4⟩ := HMP.out.put mapt_kind n (by omega) (kv : Int) kv rfl (by omega) (by omega)
        have HST := Lib.hid (show kindS s n a kv = (fun y => if n = y then some kv else s.1 y, s.2) by unfold kindS; rw [if_neg (fun e => e.2.2 (by rw [HKK.out]; exact HSAME.out)), if_pos HK0.out])
        have HF := Lib.hid (chk_put HI1.out hm4 hg4 (room' := (room + 1 + bs.len)) hnm (by omega))
        clear hm4 hg4
        obtain ⟨s1, hs1⟩ : ∃ s1 : KSt, ((fun y => if n = y then some kv else s.1 y, s.2) : KSt) = s1 := ⟨_, rfl⟩
        rw [hs1] at HST HF
        clear hs1
        go_wp2_with fail
        have q1 := HF.out.row
        obtain ⟨v1, q2, q3⟩ := q1
        obtain ⟨fa1, fc1, rfl⟩ := own_slice q3
        have HBR := Lib.hid (fun W' hk => syn_branches b0 n a fo of cl bs W' hk HND2.out HWF2.out)
        have HQ3 := Lib.hid q3
        refine wp_region_takesK (fun W' : World => W'.cell? ⟨B, 0, none⟩ = some (.slice fa1 (s1).2.length fc1)) 4 [0, 1] 3 (by intro _ _ d _ _ h; cases d <;> exact h) (by kernel_rfl) (by kernel_rfl) q2 ?_
        (iterate 2 (first | (refine takes_yes (v := ?_) rfl (by rfl) ?_ ?_; rotate_left; (focus ((intro w' hS'; (try dsimp only at hS'); go_simp; try (with_reducible rfl)); done)); (try simp only [Act.put, List.setIfInBounds_toArray, List.set_cons_zero, List.set_cons_succ])) | (refine takes_no rfl (by rfl) ?_; (try simp only [Act.put, List.setIfInBounds_toArray, List.set_cons_zero, List.set_cons_succ]))))
        refine takes_nil ?_
        refine wpAnyK_only 2 (by kernel_rfl) rfl (fun K hK => ?_)
        go_simp
        refine (HBR.out W4.drew HF.out.keep.drewK).mono ?_
        rintro e W5 ⟨⟨vb, rfl, hfb⟩, hb5⟩
        have hb5' : Below W4.heap.size W4 W5 := (Below.refl _ W4).drew.trans hb5
        have hI5 := HF.out.below hb5'
        have q5 : W5.cell? ⟨B, 0, none⟩ = some (.slice fa1 (s1).2.length fc1) := (hb5'.cell (World.block_lt_of_cell? _ _ q2)).trans q2
        have q6 := HQ3.out.keepB hb5'
        have z5 := hI5.fz
        have HI5 := Lib.hid hI5
        have HFB := Lib.hid hfb
        clear hI5 hfb
        refine hK.out _ _ q5 (fun _ => ?_)
        clear hK K
        refine wpAnyK_only 3 (by kernel_rfl) rfl (fun K hK => ?_)
        rw [if_pos (by rfl)]
        refine op_faults _ _ rfl (B + 3) _ _ vb (s1).2 (bGo cl [] [] bs) rfl q6 rfl HFB.out ?w9X1 ?w9X2 ?w9X3
        case w9X1 =>
          have := bGo_len cl bs [] []
          have := HF.out.few
          simp only [List.length_nil] at *
          omega
        case w9X2 => have h := World.block_lt_of_cell? _ _ HF.out.kc; have := hb5'.size; dsimp only at h; omega
        case w9X3 =>
          intro v6 W6 hf6 hg6
          have HF6 := Lib.hid hf6
          have hown : ∀ k, (Value.slice fa1 (s1).2.length fc1).ownBlock = some k → B + 3 ≤ k := fun k hk => (HQ3.out.lt k hk).1
          have hne : ∀ k, k < B + 3 → (some k : Option Nat) ≠ (Value.slice fa1 (s1).2.length fc1).ownBlock := fun k h1 h2 => by have := hown k h2.symm; omega
          have q7 := hg6.cell q5 (hne B (by omega))
          have q8 : W6.frozen? ⟨B, 0, none⟩ = false := (World.frozen?_of_block (a := ⟨B, 0, none⟩) (hg6.block B (World.block_lt_of_cell? _ _ q5) (hne B (by omega)))).trans z5
          have hI6 := chk_row (room' := room) HI5.out hg6 hown hf6 (by have := bGo_len cl bs [] []; simp only [List.length_nil] at this; omega)
          obtain ⟨fa6, fc6, rfl⟩ := own_slice hf6
          refine hK.out _ _ q7 (fun _ => ?_)
          clear hK K
          refine wpAnyK_last 4 (by kernel_rfl) (by kernel_rfl) rfl (fun K hK => ?_)
          go_simp
          refine hK.out _ _ ?_
          clear hK K
          refine wpAnyK_done (by kernel_rfl) ?_ _
          rw [List.length_append] at hI6
          have HI6 := Lib.hid hI6
          clear hI6
          go_wp2
          go_ret
          have hch : chkF s (.br n a fo of cl bs r) = .go true (s1.1, s1.2 ++ bGo cl [] [] bs) := by
            show Out.go true ((kindS s n a (kindF (.br n a fo of cl bs r))).1, (kindS s n a (kindF (.br n a fo of cl bs r))).2 ++ bGo cl [] [] bs) = _
            rw [HKV.out, HST.out]
          rw [hch]
          exact ⟨rfl, HI6.out⟩
      · have j2 : ((kk : Int) != (kv : Int)) = true := by simp; omega
        have j3 : (kk != kv) = true := by simp [hsame]
        have HSAME := Lib.hid hsame
        clear hsame
        go_wp2_with (at_builtin; refine list_gen ?_)
        intro W3 hW3
        have hal : Below W2.heap.size W2 W3 := by rw [hW3]; exact (Below.refl _ _).alloc (Nat.le_refl _) _
        have hC3 := fun i => cell_made W2 #[.int .i64 5, .int .i64 (a : Nat)] 90 (0, 0) i
        rw [← hW3] at hC3
        have HI3 := Lib.hid (HI1.out.below hal)
        have q3 := (hal.cell (World.block_lt_of_cell? _ _ hfc)).trans hfc
        have HO3 := Lib.hid (HFR.out.keepB hal)
        have hsz3 := hal.size
        clear hW3
        refine app_own elem_fault rfl _ _ rfl (B + 3) _ s.2.length (faultC s.2) rfl HO3.out ⟨W2.heap.size, 0, none⟩ 1 1 [.int .i64 5, .int .i64 (a : Nat)] rfl rfl ?w10V1 ?w10V2 (by omega) (by omega) ?w10V3
        case w10V1 => exact cells_two (hC3 0) (hC3 1)
        case w10V2 =>
          intro u hu
          simp at hu
          rcases hu with rfl | rfl <;> rfl
        intro v4 w4 ho4 hg4
        have hf4 : FaultsR (B + 3) w4 v4 (s.2 ++ [(5, a)]) := by unfold FaultsR; rw [faultC_app, List.length_append]; exact ho4
        have hown : ∀ k, (Value.slice fa s.2.length fc).ownBlock = some k → B + 3 ≤ k := fun k hk => (HFR.out.lt k hk).1
        have hne : ∀ k, k < B + 3 → (some k : Option Nat) ≠ (Value.slice fa s.2.length fc).ownBlock := fun k h1 h2 => by have := hown k h2.symm; omega
        have q4 := hg4.cell q3 (hne B (by omega))
        have z4 : w4.frozen? ⟨B, 0, none⟩ = false := (World.frozen?_of_block (a := ⟨B, 0, none⟩) (hg4.block B (World.block_lt_of_cell? _ _ q3) (hne B (by omega)))).trans HI3.out.fz
        have HST := Lib.hid (show kindS s n a kv = (s.1, s.2 ++ [(5, a)]) by unfold kindS; rw [if_pos ⟨HK0.out, HBB.out, fun e => HSAME.out (HKK.out.symm.trans e)⟩])
        have HF := Lib.hid (chk_row (l := [(5, a)]) (room' := (room + 1 + bs.len)) HI3.out hg4 hown hf4 (by simp <;> omega))
        obtain ⟨fa4, fc4, rfl⟩ := own_slice hf4
        obtain ⟨W4, hW4⟩ : ∃ W4, w4.setCell ⟨B, 0, none⟩ (.slice fa4 (s.2.length + 1) fc4) = W4 := ⟨_, rfl⟩
        have hlen4 : (s.2 ++ [(5, a)]).length = s.2.length + 1 := by simp
        rw [hlen4, hW4] at HF
        have HW4 := Lib.hid hW4
        clear ho4 hg4 hown hf4 hne q3 HO3 hlen4
        obtain ⟨s1, hs1⟩ : ∃ s1 : KSt, ((s.1, s.2 ++ [(5, a)]) : KSt) = s1 := ⟨_, rfl⟩
        rw [hs1] at HST HF
        clear hs1
        go_wp2_with fail
        clear hW4
        have q1 := HF.out.row
        obtain ⟨v1, q2, q3⟩ := q1
        obtain ⟨fa1, fc1, rfl⟩ := own_slice q3
        have HBR := Lib.hid (fun W' hk => syn_branches b0 n a fo of cl bs W' hk HND2.out HWF2.out)
        have HQ3 := Lib.hid q3
        refine wp_region_takesK (fun W' : World => W'.cell? ⟨B, 0, none⟩ = some (.slice fa1 (s1).2.length fc1)) 4 [0, 1] 3 (by intro _ _ d _ _ h; cases d <;> exact h) (by kernel_rfl) (by kernel_rfl) q2 ?_
        (iterate 2 (first | (refine takes_yes (v := ?_) rfl (by rfl) ?_ ?_; rotate_left; (focus ((intro w' hS'; (try dsimp only at hS'); go_simp; try (with_reducible rfl)); done)); (try simp only [Act.put, List.setIfInBounds_toArray, List.set_cons_zero, List.set_cons_succ])) | (refine takes_no rfl (by rfl) ?_; (try simp only [Act.put, List.setIfInBounds_toArray, List.set_cons_zero, List.set_cons_succ]))))
        refine takes_nil ?_
        refine wpAnyK_only 2 (by kernel_rfl) rfl (fun K hK => ?_)
        go_simp
        refine (HBR.out W4.drew HF.out.keep.drewK).mono ?_
        rintro e W5 ⟨⟨vb, rfl, hfb⟩, hb5⟩
        have hb5' : Below W4.heap.size W4 W5 := (Below.refl _ W4).drew.trans hb5
        have hI5 := HF.out.below hb5'
        have q5 : W5.cell? ⟨B, 0, none⟩ = some (.slice fa1 (s1).2.length fc1) := (hb5'.cell (World.block_lt_of_cell? _ _ q2)).trans q2
        have q6 := HQ3.out.keepB hb5'
        have z5 := hI5.fz
        have HI5 := Lib.hid hI5
        have HFB := Lib.hid hfb
        clear hI5 hfb
        refine hK.out _ _ q5 (fun _ => ?_)
        clear hK K
        refine wpAnyK_only 3 (by kernel_rfl) rfl (fun K hK => ?_)
        rw [if_pos (by rfl)]
        refine op_faults _ _ rfl (B + 3) _ _ vb (s1).2 (bGo cl [] [] bs) rfl q6 rfl HFB.out ?w10X1 ?w10X2 ?w10X3
        case w10X1 =>
          have := bGo_len cl bs [] []
          have := HF.out.few
          simp only [List.length_nil] at *
          omega
        case w10X2 => have h := World.block_lt_of_cell? _ _ HF.out.kc; have := hb5'.size; dsimp only at h; omega
        case w10X3 =>
          intro v6 W6 hf6 hg6
          have HF6 := Lib.hid hf6
          have hown : ∀ k, (Value.slice fa1 (s1).2.length fc1).ownBlock = some k → B + 3 ≤ k := fun k hk => (HQ3.out.lt k hk).1
          have hne : ∀ k, k < B + 3 → (some k : Option Nat) ≠ (Value.slice fa1 (s1).2.length fc1).ownBlock := fun k h1 h2 => by have := hown k h2.symm; omega
          have q7 := hg6.cell q5 (hne B (by omega))
          have q8 : W6.frozen? ⟨B, 0, none⟩ = false := (World.frozen?_of_block (a := ⟨B, 0, none⟩) (hg6.block B (World.block_lt_of_cell? _ _ q5) (hne B (by omega)))).trans z5
          have hI6 := chk_row (room' := room) HI5.out hg6 hown hf6 (by have := bGo_len cl bs [] []; simp only [List.length_nil] at this; omega)
          obtain ⟨fa6, fc6, rfl⟩ := own_slice hf6
          refine hK.out _ _ q7 (fun _ => ?_)
          clear hK K
          refine wpAnyK_last 4 (by kernel_rfl) (by kernel_rfl) rfl (fun K hK => ?_)
          go_simp
          refine hK.out _ _ ?_
          clear hK K
          refine wpAnyK_done (by kernel_rfl) ?_ _
          rw [List.length_append] at hI6
          have HI6 := Lib.hid hI6
          clear hI6
          go_wp2
          go_ret
          have hch : chkF s (.br n a fo of cl bs r) = .go true (s1.1, s1.2 ++ bGo cl [] [] bs) := by
            show Out.go true ((kindS s n a (kindF (.br n a fo of cl bs r))).1, (kindS s n a (kindF (.br n a fo of cl bs r))).2 ++ bGo cl [] [] bs) = _
            rw [HKV.out, HST.out]
          rw [hch]
          exact ⟨rfl, HI6.out⟩
end Go.Proofs.YtdelpialeajajaaGreatDoor

/- check: the first of the faults. -/
namespace Go.Proofs.YtdelpialeajajaaGreatDoor
open Go Go.RowKit
set_option maxRecDepth 10000

/-- the first of those with the least place -/
def minF (m : Nat × Nat) (l : List (Nat × Nat)) : Nat × Nat := l.foldl (fun m x => if x.2 < m.2 then x else m) m

abbrev faultV (x : Nat × Nat) : Value := .agg #[.int .i64 (x.1 : Nat), .int .i64 (x.2 : Nat)]

theorem cmp_faults (x y : Nat × Nat) (w : World) : Calls Tryz.prog 83 #[faultV x, faultV y] w fun e w' => e = .returned (.int .i64 (Lib.compareInt (x.2 : Nat) (y.2 : Nat))) ∧ Below w.heap.size w w' := by
  have HC := Lib.hid (fun W => Tryz.cmp_Compare_int (x.2 : Nat) (y.2 : Nat) W)
  go_enter Tryz.func83, Tryz.ntmps83
  go_wp2_with fail
  refine (HC.out _).mono ?_
  rintro e w' ⟨rfl, rfl⟩
  go_wp2
  go_ret
  exact ⟨rfl, ((Below.refl _ _).alloc (Nat.le_refl _) _).alloc (by simp) _⟩

theorem cmp_lt (a b : Nat) : decide (Lib.compareInt (a : Int) (b : Int) < 0) = decide (a < b) := by
  unfold Lib.compareInt
  by_cases h : (a : Int) < (b : Int)
  · rw [if_pos h]; simp; omega
  · rw [if_neg h]
    by_cases h2 : (b : Int) < (a : Int)
    · rw [if_pos h2]; simp; omega
    · rw [if_neg h2]; simp; omega
end Go.Proofs.YtdelpialeajajaaGreatDoor

/- slices.MinFunc of faults; check.Message. -/
namespace Go.Proofs.YtdelpialeajajaaGreatDoor
open Go Go.RowKit
set_option maxRecDepth 10000

theorem faultC_get (l : List (Nat × Nat)) (i : Nat) (h : i < l.length) : (faultC l)[i * 2]? = some (.int .i64 (l[i].1 : Nat)) ∧ (faultC l)[i * 2 + 1]? = some (.int .i64 (l[i].2 : Nat)) := by
  induction l generalizing i with
  | nil => simp at h
  | cons a t ih =>
    cases i with
    | zero => exact ⟨rfl, rfl⟩
    | succ i =>
      have := ih i (by simpa using h)
      have e1 : (i + 1) * 2 = i * 2 + 2 := by omega
      have e2 : faultC (a :: t) = .int .i64 (a.1 : Nat) :: .int .i64 (a.2 : Nat) :: faultC t := rfl
      rw [e1, e2]
      simpa using this

theorem minF_take (m : Nat × Nat) (l : List (Nat × Nat)) (i : Nat) (h : i < l.length) : minF m (l.take (i + 1)) = if l[i].2 < (minF m (l.take i)).2 then l[i] else minF m (l.take i) := by
  unfold minF
  rw [List.take_succ_eq_append_getElem h, List.foldl_append]
  rfl

set_option maxHeartbeats 4000000 in
theorem minfunc_any (x : Nat × Nat) (l : List (Nat × Nat)) (base : Nat) (v : Value) (w : World) (hl : l.length ≤ 2000000000) (hF : FaultsR base w v (x :: l)) :
    Calls Tryz.prog 82 #[v, .func (.func 83) #[] #[]] w fun e w' => e = .returned (faultV (minF x l)) ∧ Below w.heap.size w w' := by
  obtain ⟨g, cap, rfl, hg1, hg2, hcell⟩ := own_some hF (by simp)
  obtain ⟨n, hn⟩ : ∃ n, (x :: l).length = n := ⟨_, rfl⟩
  have hent := fun (args : Array Value) (w : World) => enters_of Tryz.func83 (by kernel_rfl) rfl args w
  have HCELL := Lib.hid (fun i (h : i < (x :: l).length) => And.intro ((hcell (i * 2) (by omega)).trans (faultC_get (x :: l) i h).1) ((hcell (i * 2 + 1) (by omega)).trans (faultC_get (x :: l) i h).2))
  have hc0 := (HCELL.out 0 (by simp)).1
  have hc1 := (HCELL.out 0 (by simp)).2
  simp only [Nat.zero_mul, Nat.zero_add, List.getElem_cons_zero] at hc0 hc1
  obtain ⟨x1, x2⟩ := x
  have hn1 : n = l.length + 1 := by rw [← hn]; simp
  have j1 : decide ((n : Int) < 1) = false := by simp; omega
  have HN := Lib.hid hn
  rw [hn]
  have HN1 := Lib.hid hn1
  have hz : 1 ≤ n := by omega
  have hz2 : n ≤ 2000000001 := by omega
  have hgw : g < w.heap.size := hg2
  clear hF hcell hn hn1
  have hb0 : Below w.heap.size w ((w.alloc (.cells #[.int .i64 0, .int .i64 0] 90)).alloc (.cells #[.int .i64 x1, .int .i64 x2] 90)) := ((Below.refl _ _).alloc (Nat.le_refl _) _).alloc (by simp) _
  have hm0 := fun i => cell_made (w.alloc (.cells #[.int .i64 0, .int .i64 0] 90)) #[.int .i64 x1, .int .i64 x2] 90 (0, 0) i
  have hr0 : ∀ i, ((w.alloc (.cells #[.int .i64 0, .int .i64 0] 90)).alloc (.cells #[.int .i64 x1, .int .i64 x2] 90)).cell? ⟨w.heap.size, i, none⟩ = (#[.int .i64 0, .int .i64 0] : Array Value)[i]? := fun i => by
    rw [World.cell?_alloc_lt _ _ _ (by show w.heap.size < _; simp)]
    exact cell_made w _ _ _ _
  rw [show (w.alloc (.cells #[.int .i64 0, .int .i64 0] 90)).heap.size = w.heap.size + 1 by simp] at hm0
  have hfz1 : ∀ i, ((w.alloc (.cells #[.int .i64 0, .int .i64 0] 90)).alloc (.cells #[.int .i64 x1, .int .i64 x2] 90)).frozen? ⟨w.heap.size + 1, i, none⟩ = false := fun i => by
    rw [show w.heap.size + 1 = (w.alloc (.cells #[.int .i64 0, .int .i64 0] 90)).heap.size by simp]
    simp
  have hfz0 : ∀ i, ((w.alloc (.cells #[.int .i64 0, .int .i64 0] 90)).alloc (.cells #[.int .i64 x1, .int .i64 x2] 90)).frozen? ⟨w.heap.size, i, none⟩ = false := fun i => by
    rw [World.frozen?_of_block (Below.heap_alloc _ _ _ (by show w.heap.size < _; simp))]
    simp
  obtain ⟨W0, hW0⟩ : ∃ W0, (w.alloc (.cells #[.int .i64 0, .int .i64 0] 90)).alloc (.cells #[.int .i64 x1, .int .i64 x2] 90) = W0 := ⟨_, rfl⟩
  rw [hW0] at hb0 hm0 hr0 hfz0 hfz1
  have HB0 := Lib.hid hb0
  have HW0 := Lib.hid hW0
  have HM0 := Lib.hid hm0
  have HR0 := Lib.hid hr0
  have HF0 := Lib.hid hfz0
  have HF1 := Lib.hid hfz1
  clear hb0 hm0 hr0 hfz0 hfz1 hW0
  go_enter Tryz.func82, Tryz.ntmps82
  go_wp2_with fail
  clear hc0 hc1
  go_loopw [6] (fun iv wr => ∃ (i : Nat) (m : Nat × Nat), iv = .int .i64 (i : Nat) ∧ 1 ≤ i ∧ i ≤ n ∧ minF (x1, x2) (l.take (i - 1)) = m ∧ wr.cell? ⟨w.heap.size + 1, 0, none⟩ = some (.int .i64 (m.1 : Nat)) ∧ wr.cell? ⟨w.heap.size + 1, 1, none⟩ = some (.int .i64 (m.2 : Nat)) ∧ (∀ i, wr.frozen? ⟨w.heap.size + 1, i, none⟩ = false) ∧
    (∃ u v, wr.cell? ⟨w.heap.size, 0, none⟩ = some u ∧ wr.cell? ⟨w.heap.size, 1, none⟩ = some v) ∧ (∀ i, wr.frozen? ⟨w.heap.size, i, none⟩ = false) ∧ Below w.heap.size w wr) (fun iv _ => n - (intOf iv).toNat)
  case atStart =>
    rw [HW0.out]
    exact ⟨1, (x1, x2), rfl, Nat.le_refl _, hz, rfl, HM0.out 0, HM0.out 1, HF1.out, ⟨_, _, HR0.out 0, HR0.out 1⟩, HF0.out, HB0.out⟩
  case round =>
    obtain ⟨i, m, rfl, hi1, hin, hm, hc0, hc1, hz1, ⟨u0, v0, hr0, hr1⟩, hz0, hbw⟩ := hrel
    obtain ⟨m1, m2⟩ := m
    dsimp only at hc0 hc1
    have HM := Lib.hid hm
    have HZ1 := Lib.hid hz1
    have HZ0 := Lib.hid hz0
    have HBW := Lib.hid hbw
    clear hm hbw
    by_cases hlt : i < n
    · have k2 : decide ((i : Int) < (n : Int)) = true := by simp; omega
      have hlen : i < ((x1, x2) :: l).length := by rw [HN.out]; exact hlt
      obtain ⟨d0, d1⟩ := HCELL.out i hlen
      have hli : ((x1, x2) :: l)[i] = l[i - 1]'(by have := HN1.out; omega) := by
        obtain ⟨k, rfl⟩ : ∃ k, i = k + 1 := ⟨i - 1, by omega⟩
        simp
      rw [hli] at d0 d1
      obtain ⟨y, hy⟩ : ∃ y, l[i - 1]'(by have := HN1.out; omega) = y := ⟨_, rfl⟩
      rw [hy] at d0 d1
      have HSTEP := Lib.hid (show minF (x1, x2) (l.take i) = if y.2 < m2 then y else (m1, m2) by
        have h := minF_take (x1, x2) l (i - 1) (by have := HN1.out; omega)
        rw [show i - 1 + 1 = i by omega, HM.out, hy] at h
        exact h)
      obtain ⟨y1, y2⟩ := y
      dsimp only at d0 d1 HSTEP
      have e0 := (HBW.out.cell (p := ⟨g, i * 2, none⟩) hgw).trans d0
      have e1 := (HBW.out.cell (p := ⟨g, i * 2 + 1, none⟩) hgw).trans d1
      have hCM := Lib.hid (fun W => cmp_faults (y1, y2) (m1, m2) W)
      have hS0 : wr.drew.cell? ⟨g, i * 2, none⟩ = some (.int .i64 (y1 : Nat)) ∧ wr.drew.cell? ⟨g, i * 2 + 1, none⟩ = some (.int .i64 (y2 : Nat)) ∧ wr.drew.cell? ⟨w.heap.size + 1, 0, none⟩ = some (.int .i64 (m1 : Nat)) ∧ wr.drew.cell? ⟨w.heap.size + 1, 1, none⟩ = some (.int .i64 (m2 : Nat)) := ⟨e0, e1, hc0, hc1⟩
      clear d0 d1 hy hli hlen
      go_wp2_with fail
      refine wp_region_takes (fun W' : World => W'.cell? ⟨g, i * 2, none⟩ = some (.int .i64 (y1 : Nat)) ∧ W'.cell? ⟨g, i * 2 + 1, none⟩ = some (.int .i64 (y2 : Nat)) ∧ W'.cell? ⟨w.heap.size + 1, 0, none⟩ = some (.int .i64 (m1 : Nat)) ∧ W'.cell? ⟨w.heap.size + 1, 1, none⟩ = some (.int .i64 (m2 : Nat))) [0, 1, 2, 3, 4, 5] 2 (by intro _ _ d _ _ h; cases d <;> exact h) (by kernel_rfl) (by kernel_rfl) hS0 ?_
      (iterate 6 (first | (refine takes_yes (v := ?_) rfl (by rfl) ?_ ?_; rotate_left; (focus ((intro w' hS'; (try dsimp only at hS'); go_simp; try (with_reducible rfl)); done)); (try simp only [Act.put, List.setIfInBounds_toArray, List.set_cons_zero, List.set_cons_succ])) | (refine takes_no rfl (by rfl) ?_; (try simp only [Act.put, List.setIfInBounds_toArray, List.set_cons_zero, List.set_cons_succ]))))
      refine takes_nil ?_
      refine wpAnyH_only 6 (by kernel_rfl) rfl (fun K hK => ?_)
      go_simp
      refine (hCM.out wr.drew).mono ?_
      rintro e w2 ⟨rfl, hb2⟩
      have hb2' : Below wr.heap.size wr w2 := (Below.refl _ wr).drew.trans hb2
      have hwr : w.heap.size + 1 < wr.heap.size := World.block_lt_of_cell? _ _ hc0
      have hcl : (y2 < m2 ∧ Lib.compareInt (y2 : Int) (m2 : Int) = -1) ∨ (¬ y2 < m2 ∧ Lib.compareInt (y2 : Int) (m2 : Int) = 0) ∨ (¬ y2 < m2 ∧ Lib.compareInt (y2 : Int) (m2 : Int) = 1) := by
        unfold Lib.compareInt
        by_cases h : (y2 : Int) < (m2 : Int)
        · exact .inl ⟨by omega, if_pos h⟩
        · by_cases h2 : (y2 : Int) > (m2 : Int)
          · exact .inr (.inr ⟨by omega, by rw [if_neg h, if_pos h2]⟩)
          · exact .inr (.inl ⟨by omega, by rw [if_neg h, if_neg h2]⟩)
      dsimp only
      have f0 := (hb2'.cell (p := ⟨w.heap.size + 1, 0, none⟩) hwr).trans hc0
      have f1 := (hb2'.cell (p := ⟨w.heap.size + 1, 1, none⟩) hwr).trans hc1
      have f2 := (hb2'.cell (p := ⟨g, i * 2, none⟩) (by show g < _; omega)).trans e0
      have f3 := (hb2'.cell (p := ⟨g, i * 2 + 1, none⟩) (by show g < _; omega)).trans e1
      have g0 := (hb2'.cell (p := ⟨w.heap.size, 0, none⟩) (by show w.heap.size < _; omega)).trans hr0
      have g1 := (hb2'.cell (p := ⟨w.heap.size, 1, none⟩) (by show w.heap.size < _; omega)).trans hr1
      have z1 : ∀ i, w2.frozen? ⟨w.heap.size + 1, i, none⟩ = false := fun i => (hb2'.frozen (p := ⟨w.heap.size + 1, i, none⟩) hwr).trans (HZ1.out i)
      have z0 : ∀ i, w2.frozen? ⟨w.heap.size, i, none⟩ = false := fun i => (hb2'.frozen (p := ⟨w.heap.size, i, none⟩) (by show w.heap.size < _; omega)).trans (HZ0.out i)
      have hbw2 := HBW.out.trans (hb2'.mono (by omega))
      have HZ1' := Lib.hid z1
      have HZ0' := Lib.hid z0
      have y0 := z1 0
      have y1' := z1 1
      clear z1 z0 hS0 e0 e1 hc0 hc1 hr0 hr1 hb2'
      rcases hcl with ⟨hy, hcl⟩ | ⟨hy, hcl⟩ | ⟨hy, hcl⟩
      · rw [hcl]
        have HS := Lib.hid (HSTEP.out.trans (if_pos hy))
        clear hcl hy
        refine hK.out _ _ ⟨f2, f3, f0, f1⟩ (fun _ => ?_)
        clear hK K
        refine wpAnyH_more [7] 0 rfl (by intro _ _ d _ _ h; cases d <;> exact h) (by kernel_rfl) (by kernel_rfl) ⟨f2, f3, f0, f1⟩ ?_
        (iterate 1 (first | (refine takes_yes (v := ?_) rfl (by rfl) ?_ ?_; rotate_left; (focus ((intro w' hS'; (try dsimp only at hS'); go_simp; try (with_reducible rfl)); done)); (try simp only [Act.put, List.setIfInBounds_toArray, List.set_cons_zero, List.set_cons_succ])) | (refine takes_no rfl (by rfl) ?_; (try simp only [Act.put, List.setIfInBounds_toArray, List.set_cons_zero, List.set_cons_succ]))))
        refine takes_nil ?_
        refine wpAnyH_done (by kernel_rfl) ?_ _
        go_wp2
        go_roundw
        case rel =>
          exact ⟨i + 1, (y1, y2), by simp, by omega, by omega, by rw [Nat.add_sub_cancel]; exact HS.out, by rw [cellSet, if_neg (by simp), cellSet, if_pos rfl, f0]; rfl, by rw [cellSet, if_pos rfl, cellSet, if_neg (by simp), f1]; rfl,
            fun j => by rw [World.frozen?_setCell, World.frozen?_setCell]; exact HZ1'.out j, ⟨_, _, (by rw [cellSet, if_neg (by simp), cellSet, if_neg (by simp)]; exact g0), (by rw [cellSet, if_neg (by simp), cellSet, if_neg (by simp)]; exact g1)⟩,
            fun j => by rw [World.frozen?_setCell, World.frozen?_setCell]; exact HZ0'.out j, setc_below (setc_below hbw2 (by omega)) (by omega)⟩
        case measure => simp only [intOf]; omega
      · rw [hcl]
        have HS := Lib.hid (HSTEP.out.trans (if_neg hy))
        clear hcl hy
        refine hK.out _ _ ⟨f2, f3, f0, f1⟩ (fun _ => ?_)
        clear hK K
        refine wpAnyH_more [7] 0 rfl (by intro _ _ d _ _ h; cases d <;> exact h) (by kernel_rfl) (by kernel_rfl) ⟨f2, f3, f0, f1⟩ ?_
        (iterate 1 (first | (refine takes_yes (v := ?_) rfl (by rfl) ?_ ?_; rotate_left; (focus ((intro w' hS'; (try dsimp only at hS'); go_simp; try (with_reducible rfl)); done)); (try simp only [Act.put, List.setIfInBounds_toArray, List.set_cons_zero, List.set_cons_succ])) | (refine takes_no rfl (by rfl) ?_; (try simp only [Act.put, List.setIfInBounds_toArray, List.set_cons_zero, List.set_cons_succ]))))
        refine takes_nil ?_
        refine wpAnyH_done (by kernel_rfl) ?_ _
        go_wp2
        go_roundw
        case rel =>
          exact ⟨i + 1, (m1, m2), by simp, by omega, by omega, by rw [Nat.add_sub_cancel]; exact HS.out, f0, f1, HZ1'.out, ⟨_, _, g0, g1⟩, HZ0'.out, hbw2⟩
        case measure => simp only [intOf]; omega
      · rw [hcl]
        have HS := Lib.hid (HSTEP.out.trans (if_neg hy))
        clear hcl hy
        refine hK.out _ _ ⟨f2, f3, f0, f1⟩ (fun _ => ?_)
        clear hK K
        refine wpAnyH_more [7] 0 rfl (by intro _ _ d _ _ h; cases d <;> exact h) (by kernel_rfl) (by kernel_rfl) ⟨f2, f3, f0, f1⟩ ?_
        (iterate 1 (first | (refine takes_yes (v := ?_) rfl (by rfl) ?_ ?_; rotate_left; (focus ((intro w' hS'; (try dsimp only at hS'); go_simp; try (with_reducible rfl)); done)); (try simp only [Act.put, List.setIfInBounds_toArray, List.set_cons_zero, List.set_cons_succ])) | (refine takes_no rfl (by rfl) ?_; (try simp only [Act.put, List.setIfInBounds_toArray, List.set_cons_zero, List.set_cons_succ]))))
        refine takes_nil ?_
        refine wpAnyH_done (by kernel_rfl) ?_ _
        go_wp2
        go_roundw
        case rel =>
          exact ⟨i + 1, (m1, m2), by simp, by omega, by omega, by rw [Nat.add_sub_cancel]; exact HS.out, f0, f1, HZ1'.out, ⟨_, _, g0, g1⟩, HZ0'.out, hbw2⟩
        case measure => simp only [intOf]; omega
    · have k2 : decide ((i : Int) < (n : Int)) = false := by simp; omega
      have hfin : minF (x1, x2) l = (m1, m2) := by
        rw [← HM.out, List.take_of_length_le (by have := HN1.out; omega)]
      have HFIN := Lib.hid hfin
      have z00 := hz0 0
      have z01 := hz0 1
      clear hfin hz0 hz1
      have k0 : ((wr.setCell ⟨w.heap.size, 0, none⟩ (.int .i64 (m1 : Nat))).setCell ⟨w.heap.size, 1, none⟩ (.int .i64 (m2 : Nat))).cell? ⟨w.heap.size, 0, none⟩ = some (.int .i64 (m1 : Nat)) := by rw [cellSet, if_neg (by simp), cellSet, if_pos rfl, hr0]; rfl
      have k1 : ((wr.setCell ⟨w.heap.size, 0, none⟩ (.int .i64 (m1 : Nat))).setCell ⟨w.heap.size, 1, none⟩ (.int .i64 (m2 : Nat))).cell? ⟨w.heap.size, 1, none⟩ = some (.int .i64 (m2 : Nat)) := by rw [cellSet, if_pos rfl, cellSet, if_neg (by simp), hr1]; rfl
      go_wp2
      refine bodyPost_ret (v := .agg #[.int .i64 (m1 : Nat), .int .i64 (m2 : Nat)]) ?_ rfl ?_
      · simp [results, Tryz.results82, go_sem, k0, k1]
      rw [HFIN.out]
      exact ⟨rfl, setc_below (setc_below HBW.out (Nat.le_refl _)) (Nat.le_refl _)⟩
end Go.Proofs.YtdelpialeajajaaGreatDoor

/- check.Message. -/
namespace Go.Proofs.YtdelpialeajajaaGreatDoor
open Go Go.RowKit
set_option maxRecDepth 10000

theorem chk_go (s : KSt) (x : Fo) : ∃ s', chkF s x = .go true s' := by
  cases x <;> exact ⟨_, rfl⟩

theorem each_go : ∀ (f : Fo) (s : KSt), ∃ s', eachF chkF f s = .go true s'
  | .nil, s => ⟨s, rfl⟩
  | .text _ r, s => each_go r s
  | .hash r, s => each_go r s
  | .put n a r, s => by
    obtain ⟨s1, h1⟩ := chk_go s (.put n a .nil)
    rw [eachF, h1]
    exact each_go r s1
  | .num n a r, s => by
    obtain ⟨s1, h1⟩ := chk_go s (.num n a .nil)
    rw [eachF, h1]
    exact each_go r s1
  | .br n a f o c bs r, s => by
    obtain ⟨s1, h1⟩ := chk_go s (.br n a f o c bs .nil)
    obtain ⟨s2, h2⟩ := each_go bs s1
    rw [eachF, h1]
    show ∃ s', (eachF chkF bs s1).then _ = _
    rw [h2]
    exact each_go r s2
  | .leg k a m r, s => by
    obtain ⟨s1, h1⟩ := each_go m s
    rw [eachF, h1]
    exact each_go r s1

/-- all faults of a message; the one that stands first -/
def faultsL (f : Fo) : List (Nat × Nat) := match eachF chkF f (fun _ => none, []) with | .go _ s => s.2 | .pan _ s => s.2
def chkL (f : Fo) : Option (Nat × Nat) := match faultsL f with | [] => none | x :: l => some (minF x l)

def ChkQ (r : Option (Nat × Nat)) (w : World) (e : Ending) (w' : World) : Prop :=
  (match r with
    | none => e = .returned .nilIface
    | some (n, a) => ∃ b, e = .returned (.iface 86 (.pointer (some ⟨b, 0, none⟩))) ∧ w'.cell? ⟨b, 0, none⟩ = some (.int .i64 n) ∧ w'.cell? ⟨b, 1, none⟩ = some (.int .i64 a)) ∧ Below w.heap.size w w'

set_option maxHeartbeats 4000000 in
theorem check_any {lo hi : Nat} (f : Fo) (a : Option Addr) (c : Nat) (vs : List Value) (w : World) (hm : f.isMsg = true) (hw : f.wf 2000000 = true) (hl : f.len ≤ 2000000) (hc : f.cnt ≤ 1000000000) (hrow : RowC lo hi w a vs) (hnod : NodesV lo hi w vs f) (hhi : hi ≤ w.heap.size) :
    Calls Tryz.prog 54 #[.slice a f.len c] w (ChkQ (chkL f) w) := by
  have hmm := @run_makeMap Tryz.prog
  have hmf : ∀ (fn : Fn) (first cap : Array Value) (w : World), (Instr.makeFunc fn first cap).run Tryz.prog w = .ok (.func fn first cap) w := fun _ _ _ _ => rfl
  obtain ⟨B, hB⟩ : ∃ B, w.heap.size = B := ⟨_, rfl⟩
  have HB := Lib.hid hB
  have hY : YieldR lo hi w (.func (.func 79) #[] #[.pointer (some ⟨B + 2, 0, none⟩), .pointer (some ⟨B, 0, none⟩)]) (ChkI lo hi w B w) chkF :=
    ⟨⟨_, _, rfl, fun args w => enters_of Tryz.func79 (by kernel_rfl) rfl args w, fun s room W x u n a hI hnd hwf hh => chk_any x u n a s room W hI hnd hwf hh⟩, fun s b W h => h.keep, fun s b W W' h hb => h.below hb, fun s b b' W h hb => h.less hb⟩
  have HE := Lib.hid (fun W hI => each_any hY (SizeOf.sizeOf f + 1) f (Nat.lt_succ_self _) hm hw hl ((fun _ => none), []) 0 W a c vs hI hrow hnod)
  obtain ⟨s, hs⟩ := each_go f ((fun _ => none), [])
  rw [hs] at HE
  have hfl : faultsL f = s.2 := by unfold faultsL; rw [hs]
  have HCL := Lib.hid (show chkL f = match s.2 with | [] => none | x :: l => some (minF x l) by unfold chkL; rw [hfl])
  have hsm : ∀ o1 o2 o3, ((w.alloc o1).alloc o2).alloc o3 = ((w.alloc o1).alloc o2).alloc o3 := fun _ _ _ => rfl
  have hI0 : ChkI lo hi w B w ((fun _ => none), []) (0 + f.cnt) (((w.alloc (.cells #[.slice none 0 0] 180)).alloc (.map #[] 0)).alloc (.cells #[.map (some (B + 1))] 181)) := by
    have h1 : (w.alloc (.cells #[.slice none 0 0] 180)).heap.size = B + 1 := by simp [hB]
    have h2 : ((w.alloc (.cells #[.slice none 0 0] 180)).alloc (.map #[] 0)).heap.size = B + 2 := by simp [hB]
    have b1 : Below w.heap.size w (w.alloc (.cells #[.slice none 0 0] 180)) := (Below.refl _ _).alloc (Nat.le_refl _) _
    have b2 := fun o => (Below.refl (w.alloc (.cells #[.slice none 0 0] 180)).heap.size (w.alloc (.cells #[.slice none 0 0] 180))).alloc (Nat.le_refl _) o
    have b3 := fun o => (Below.refl ((w.alloc (.cells #[.slice none 0 0] 180)).alloc (.map #[] 0)).heap.size ((w.alloc (.cells #[.slice none 0 0] 180)).alloc (.map #[] 0))).alloc (Nat.le_refl _) o
    have bb := (b1.trans ((b2 (.map #[] 0)).mono (by omega))).trans ((b3 (.cells #[.map (some (B + 1))] 181)).mono (by omega))
    have c1 := cell_made w #[.slice none 0 0] 180 (0, 0) 0
    rw [hB] at c1
    have hz1 : (w.alloc (.cells #[.slice none 0 0] 180)).frozen? ⟨B, 0, none⟩ = false := by rw [← hB]; simp
    have c2 := MapG.made 182 (w.alloc (.cells #[.slice none 0 0] 180))
    rw [h1] at c2
    have c3 := cell_made ((w.alloc (.cells #[.slice none 0 0] 180)).alloc (.map #[] 0)) #[.map (some (B + 1))] 181 (0, 0) 0
    rw [h2] at c3
    refine ⟨(keep_refl (by omega)).below bb, by omega, ⟨0, c2.below (b3 _), by omega⟩, ⟨.slice none 0 0, ?_, World.ownsRow_nil _ _ _ _⟩, c3, ?_, by simp; omega, by have h := bb; rw [hB] at h; exact h⟩
    · rw [(b3 _).cell (p := ⟨B, 0, none⟩) (by show B < _; omega), (b2 _).cell (p := ⟨B, 0, none⟩) (by show B < _; omega)]; exact c1
    · rw [(b3 _).frozen (p := ⟨B, 0, none⟩) (by show B < _; omega), (b2 _).frozen (p := ⟨B, 0, none⟩) (by show B < _; omega)]; exact hz1
  have HI0 := Lib.hid hI0
  clear hI0 hs hfl hY hsm hrow hnod
  go_enter Tryz.func54, Tryz.ntmps54
  go_wp2_with fail
  refine (HE.out _ HI0.out).mono ?_
  rintro e w2 ⟨rfl, hI2⟩
  obtain ⟨v, hc, hF⟩ := hI2.row
  obtain ⟨fa, fc, rfl⟩ := own_slice hF
  have HF := Lib.hid hF
  have hbel : Below w.heap.size w w2 := by rw [HB.out]; exact hI2.bel
  have hfew := hI2.few
  clear hI2 hF HE HI0
  obtain ⟨s1, l⟩ := s
  dsimp only at *
  cases l with
  | nil =>
    have HX := Lib.hid (show chkL f = none from HCL.out)
    go_wp2
    go_ret
    rw [HX.out]
    exact ⟨rfl, hbel⟩
  | cons x l =>
    have HX := Lib.hid (show chkL f = some (minF x l) from HCL.out)
    have hlen : (x :: l).length = l.length + 1 := rfl
    rw [hlen] at hc
    have j1 : (((l.length + 1 : Nat) : Int) == 0) = false := by simp; omega
    have HMI := Lib.hid (minfunc_any x l (B + 3) (.slice fa (l.length + 1) fc) w2 (by simp at hfew; omega) HF.out)
    clear hlen hfew
    go_wp2_with fail
    refine HMI.out.mono ?_
    rintro e w3 ⟨rfl, hb3⟩
    obtain ⟨m, hm0⟩ : ∃ m, minF x l = m := ⟨_, rfl⟩
    obtain ⟨m1, m2⟩ := m
    rw [hm0] at HX ⊢
    clear hm0
    have hbel3 := hbel.trans (hb3.mono hbel.size)
    have hal := (Below.refl w3.heap.size w3).alloc (Nat.le_refl _) (.cells #[.int .i64 m1, .int .i64 m2] 90)
    have hcm := fun i => cell_made w3 #[.int .i64 m1, .int .i64 m2] 90 (0, 0) i
    go_wp2
    go_ret
    rw [HX.out]
    exact ⟨⟨_, rfl, hcm 0, hcm 1⟩, hbel3.trans (hal.mono hbel3.size)⟩
end Go.Proofs.YtdelpialeajajaaGreatDoor

/- What the parser makes is in form, and no longer than the text. -/
namespace Go.Proofs.YtdelpialeajajaaGreatDoor
open Go Go.RowKit
set_option maxRecDepth 10000

theorem Fo.wf_app {N : Nat} : ∀ f g : Fo, f.wf N = true → g.wf N = true → (f.app g).wf N = true
  | .nil, g, _, h => h
  | .text t r, g, h, h2 => Fo.wf_app r g h h2
  | .hash r, g, h, h2 => Fo.wf_app r g h h2
  | .put n a r, g, h, h2 => by
    simp only [Fo.wf, Fo.app, Bool.and_eq_true] at h ⊢
    exact ⟨h.1, Fo.wf_app r g h.2 h2⟩
  | .num n a r, g, h, h2 => by
    simp only [Fo.wf, Fo.app, Bool.and_eq_true] at h ⊢
    exact ⟨h.1, Fo.wf_app r g h.2 h2⟩
  | .br n a f o c b r, g, h, h2 => by
    simp only [Fo.wf, Fo.app, Bool.and_eq_true] at h ⊢
    exact ⟨h.1, Fo.wf_app r g h.2 h2⟩
  | .leg k a m r, g, h, h2 => by
    simp only [Fo.wf, Fo.app, Bool.and_eq_true] at h ⊢
    exact ⟨h.1, Fo.wf_app r g h.2 h2⟩

theorem Fo.cnt_app : ∀ f g : Fo, (f.app g).cnt = f.cnt + g.cnt
  | .nil, g => by simp [Fo.app, Fo.cnt]
  | .text t r, g => Fo.cnt_app r g
  | .hash r, g => Fo.cnt_app r g
  | .put n a r, g => by simp only [Fo.app, Fo.cnt, Fo.cnt_app r g]; omega
  | .num n a r, g => by simp only [Fo.app, Fo.cnt, Fo.cnt_app r g]; omega
  | .br n a f o c b r, g => by simp only [Fo.app, Fo.cnt, Fo.cnt_app r g]; omega
  | .leg k a m r, g => by simp only [Fo.app, Fo.cnt, Fo.cnt_app r g]; omega

/-- in form, of so many at most -/
structure Good (f : Fo) (n : Nat) : Prop where
  msg : f.isMsg = true
  wf : f.wf 2000000 = true
  len : f.len ≤ n
  cnt : f.cnt ≤ n

theorem Good.nil : Good .nil 0 := ⟨rfl, rfl, Nat.le_refl _, Nat.le_refl _⟩
theorem Good.app {f g : Fo} {n m : Nat} (h : Good f n) (k : Good g m) : Good (f.app g) (n + m) :=
  ⟨Fo.isMsg_app _ _ h.msg k.msg, Fo.wf_app _ _ h.wf k.wf, by rw [Fo.len_app]; have := h.len; have := k.len; omega, by rw [Fo.cnt_app]; have := h.cnt; have := k.cnt; omega⟩
theorem Good.text (t : Wd) : Good (.text t .nil) 1 := ⟨rfl, rfl, Nat.le_refl _, Nat.zero_le _⟩
theorem Good.more {f : Fo} {n m : Nat} (h : Good f n) (k : n ≤ m) : Good f m := ⟨h.msg, h.wf, Nat.le_trans h.len k, Nat.le_trans h.cnt k⟩
theorem wf_pre {N : Nat} : ∀ (f g : Fo), (f.app g).wf N = true → f.wf N = true
  | .nil, g, _ => rfl
  | .text t r, g, h => wf_pre r g h
  | .hash r, g, h => wf_pre r g h
  | .put n a r, g, h => by
    simp only [Fo.wf, Fo.app, Bool.and_eq_true] at h ⊢
    exact ⟨h.1, wf_pre r g h.2⟩
  | .num n a r, g, h => by
    simp only [Fo.wf, Fo.app, Bool.and_eq_true] at h ⊢
    exact ⟨h.1, wf_pre r g h.2⟩
  | .br n a f o c b r, g, h => by
    simp only [Fo.wf, Fo.app, Bool.and_eq_true] at h ⊢
    exact ⟨h.1, wf_pre r g h.2⟩
  | .leg k a m r, g, h => by
    simp only [Fo.wf, Fo.app, Bool.and_eq_true] at h ⊢
    exact ⟨h.1, wf_pre r g h.2⟩

theorem Good.addText {f : Fo} {n : Nat} (h : Good f n) (t : Wd) : Good (f.addText t) (n + 1) := by
  cases hl : f.lastText with
  | none => rw [last_none f t hl]; exact h.app (Good.text t)
  | some s =>
    obtain ⟨pre, h1, h2, h3⟩ := last_some f s hl
    have hw := h.wf
    have hlen := h.len
    have hcnt := h.cnt
    rw [h1] at hw hlen hcnt
    rw [h3]
    refine ⟨Fo.isMsg_app _ _ (h2 h.msg) rfl, Fo.wf_app _ _ (wf_pre _ _ hw) rfl, ?_, ?_⟩
    · rw [Fo.len_app] at hlen ⊢
      simp only [Fo.len] at hlen ⊢
      omega
    · rw [Fo.cnt_app] at hcnt ⊢
      simp only [Fo.cnt] at hcnt ⊢
      omega

/-- branches, so many at most -/
structure GoodL (f : Fo) (n : Nat) : Prop where
  legs : f.isLegs = true
  wf : f.wf 2000000 = true
  cnt : f.cnt + f.len ≤ n

def MsgGood (rs : List Int) (m : MsgP) : Prop := ∀ num i f j, m num i = .ok (f, j) → i ≤ j ∧ Good f (j - i)

theorem next_lt {rs : List Int} {i : Nat} {r : Int} (h : nextL rs i = r) (hr : r ≠ -1) : i < rs.length := by
  apply Classical.byContradiction
  intro hc
  rw [next_end (by omega)] at h
  exact hr h.symm

section
variable {rs : List Int} (hrs : rs.length ≤ 1000000)
include hrs

theorem nameP_len {i j : Nat} {x : Wd} (h : nameP rs i = .ok (x, j)) : x.length ≤ 4000000 ∧ i < j := by
  refine ⟨?_, nameP_inv h⟩
  unfold nameP at h
  split at h
  · cases h
  · cases h
    have := pieceL_len rs i (nameN rs i)
    omega
theorem wholeP_len {i j : Nat} {x : Wd} (h : wholeP rs i = .ok (x, j)) : x.length ≤ 4000000 ∧ i < j := by
  refine ⟨?_, wholeP_inv h⟩
  unfold wholeP at h
  split at h
  · cases h
  · cases h
    have := pieceL_len rs i (wholeN rs i)
    omega
theorem keyP_len {num : Bool} {i j : Nat} {x : Wd} (h : keyP rs num i = .ok (x, j)) : x.length ≤ 4000001 ∧ i < j := by
  unfold keyP at h
  split at h
  · obtain ⟨a, q, h1, h2⟩ := then_inv h
    cases h2
    have := wholeP_len hrs h1
    simp
    omega
  · obtain ⟨a, q, h1, h2⟩ := then_inv h
    split at h2
    · cases h2
    · cases h2
      have := nameP_len hrs h1
      omega

theorem legP_good {msg : Option MsgP} {num : Bool} {i j : Nat} {f : Fo} (hm : ∀ m, msg = some m → MsgGood rs m) (h : legP rs msg num i = .ok (f, j)) : i < j ∧ GoodL f (j - i) ∧ f.len = 1 := by
  unfold legP at h
  obtain ⟨k, a, h1, h2⟩ := then_inv h
  obtain ⟨u, b, h3, h4⟩ := then_inv h2
  have e1 := keyP_len hrs h1
  have e2 := (wantP_inv h3).2
  have e3 := skipL_le rs a
  cases msg with
  | none => cases h4
  | some m =>
    obtain ⟨g, c, h5, h6⟩ := then_inv (show (m num b).then _ = _ from h4)
    obtain ⟨u2, z, h7, h8⟩ := then_inv h6
    obtain ⟨e4, hg⟩ := hm m rfl _ _ _ _ h5
    have e5 := wantP_inv h7
    have e6 := skipL_le rs z
    have e7 := next_lt e5.1 (by decide)
    cases h8
    have hl := hg.len
    have hc := hg.cnt
    refine ⟨by omega, ⟨rfl, ?_, ?_⟩, rfl⟩
    · have hml : g.len ≤ 2000000 := by omega
      simp only [Fo.wf, Bool.and_eq_true, decide_eq_true_eq]
      exact ⟨⟨⟨⟨by omega, hg.msg⟩, hml⟩, hg.wf⟩, trivial⟩
    · simp only [Fo.cnt, Fo.len]
      omega

theorem legsP_good {msg : Option MsgP} {num : Bool} (hm : ∀ m, msg = some m → MsgGood rs m) : ∀ (n : Nat) (acc : Fo) (i j b : Nat) (f : Fo), legsP rs msg num n acc i = .ok (f, j) → GoodL acc b → i ≤ j ∧ GoodL f (b + (j - i))
  | 0, acc, i, j, b, f, h, _ => by cases h
  | n + 1, acc, i, j, b, f, h, ha => by
    rw [legsP] at h
    split at h
    · cases h
      exact ⟨Nat.le_refl _, by simpa using ha⟩
    · obtain ⟨g, q, h1, h2⟩ := then_inv h
      obtain ⟨e1, hg, _⟩ := legP_good hrs hm h1
      have hag : GoodL (acc.app g) (b + (q - i)) := ⟨Fo.isLegs_app _ _ ha.legs hg.legs, Fo.wf_app _ _ ha.wf hg.wf, by rw [Fo.cnt_app, Fo.len_app]; have := ha.cnt; have := hg.cnt; omega⟩
      obtain ⟨e2, hf⟩ := legsP_good hm n _ _ _ _ _ h2 hag
      exact ⟨by omega, ⟨hf.legs, hf.wf, by have := hf.cnt; omega⟩⟩

theorem argP_good {msg : Option MsgP} {i j : Nat} {f : Fo} (hm : ∀ m, msg = some m → MsgGood rs m) (h : argP rs msg i = .ok (f, j)) : i < j ∧ Good f (j - i) := by
  unfold argP at h
  obtain ⟨u, a, h1, h2⟩ := then_inv h
  obtain ⟨nm, b, h3, h4⟩ := then_inv h2
  have e1 := (wantP_inv h1).2
  have e2 := skipL_le rs a
  have e3 := nameP_len hrs h3
  have e4 := skipL_le rs b
  clear h h1 h2 h3
  split at h4
  · obtain ⟨u, z, h5, h6⟩ := then_inv h4
    have := (wantP_inv h5).2
    cases h6
    refine ⟨by omega, rfl, ?_, by simp [Fo.len]; omega, by simp [Fo.cnt]; omega⟩
    simp only [Fo.wf, Bool.and_eq_true, decide_eq_true_eq]
    exact ⟨by omega, trivial⟩
  · obtain ⟨wd, c, h5, h6⟩ := then_inv h4
    have e5 := nameP_inv h5
    have e6 := skipL_le rs (skipL rs b + 1)
    have e7 := skipL_le rs c
    clear h4 h5
    split at h6
    · obtain ⟨u, z, h7, h8⟩ := then_inv h6
      have := (wantP_inv h7).2
      cases h8
      refine ⟨by omega, rfl, ?_, by simp [Fo.len]; omega, by simp [Fo.cnt]; omega⟩
      simp only [Fo.wf, Bool.and_eq_true, decide_eq_true_eq]
      exact ⟨by omega, trivial⟩
    · split at h6
      · cases h6
      · next form hform =>
        obtain ⟨u, d, h7, h8⟩ := then_inv h6
        obtain ⟨o, l, h9, h10⟩ := then_inv h8
        obtain ⟨bs, q, h11, h12⟩ := then_inv h10
        obtain ⟨u, z, h13, h14⟩ := then_inv h12
        have := (wantP_inv h7).2
        have := skipL_le rs d
        have := offP_le h9
        obtain ⟨e8, hb⟩ := legsP_good hrs hm _ _ _ _ 0 _ h11 ⟨rfl, rfl, Nat.le_refl _⟩
        have e9 := wantP_inv h13
        have e10 := next_lt e9.1 (by decide)
        have hbc := hb.cnt
        have hfo := formL_lt hform
        cases h14
        refine ⟨by omega, rfl, ?_, by simp [Fo.len]; omega, by simp [Fo.cnt]; omega⟩
        simp only [Fo.wf, Bool.and_eq_true, decide_eq_true_eq]
        exact ⟨⟨⟨⟨⟨by omega, hfo⟩, hb.legs⟩, by omega⟩, hb.wf⟩, trivial⟩

theorem msgGo_good {msg : Option MsgP} {num : Bool} (hm : ∀ m, msg = some m → MsgGood rs m) : ∀ (n : Nat) (acc : Fo) (i j b : Nat) (f : Fo), msgGo rs msg num n acc i = .ok (f, j) → Good acc b → i ≤ j ∧ Good f (b + (j - i))
  | 0, acc, i, j, b, f, h, _ => by cases h
  | n + 1, acc, i, j, b, f, h, ha => by
    rw [msgGo] at h
    split at h
    · cases h
      exact ⟨Nat.le_refl _, by simpa using ha⟩
    split at h
    · obtain ⟨g, q, h1, h2⟩ := then_inv h
      obtain ⟨e1, hg⟩ := argP_good hrs hm h1
      obtain ⟨e2, hf⟩ := msgGo_good hm n _ _ _ _ _ h2 (ha.app hg)
      exact ⟨by omega, hf.more (by omega)⟩
    split at h
    · obtain ⟨e2, hf⟩ := msgGo_good hm n _ _ _ _ _ h (ha.app (g := .hash .nil) (m := 1) ⟨rfl, rfl, Nat.le_refl _, Nat.zero_le _⟩)
      exact ⟨by omega, hf.more (by omega)⟩
    · have := textT_lt rs num i
      obtain ⟨e2, hf⟩ := msgGo_good hm n _ _ _ _ _ h (ha.addText _)
      exact ⟨by omega, hf.more (by omega)⟩

theorem msgP_good : ∀ n, MsgGood rs (msgP rs n)
  | 0, num, i, f, j, h => by
    rw [msgP] at h
    have := msgGo_good hrs (fun m e => by cases e) _ _ _ _ 0 _ h Good.nil
    simpa using this
  | n + 1, num, i, f, j, h => by
    rw [msgP] at h
    have := msgGo_good hrs (fun m e => by cases e; exact msgP_good n) _ _ _ _ 0 _ h Good.nil
    simpa using this
end

theorem msgGo_end {rs : List Int} {msg : Option MsgP} {num : Bool} : ∀ (n : Nat) (acc : Fo) (i j : Nat) (f : Fo), msgGo rs msg num n acc i = .ok (f, j) → i ≤ rs.length → j ≤ rs.length
  | 0, acc, i, j, f, h, _ => by cases h
  | n + 1, acc, i, j, f, h, hi => by
    rw [msgGo] at h
    split at h
    · cases h
      exact hi
    next h0 =>
    have hlt : i < rs.length := by
      apply Classical.byContradiction
      intro hc
      exact h0 (.inl (next_end (by omega)))
    split at h
    · obtain ⟨g, q, h1, h2⟩ := then_inv h
      exact msgGo_end n _ _ _ _ h2 (argP_last h1).2
    split at h
    · exact msgGo_end n _ _ _ _ h hlt
    · exact msgGo_end n _ _ _ _ h (text_end hlt).2

theorem parseR_good {l : List UInt8} {f : Fo} (h : parseR l = .ok f) : Good f 1000 := by
  unfold parseR at h
  split at h
  · cases h
  split at h
  · cases h
  next h1 _ =>
  have hrs := runes_len l
  have hr : (runesL l).length ≤ 1000 := by omega
  cases hp : parseL (runesL l) with
  | error e => rw [hp] at h; cases h
  | ok x =>
    rw [hp] at h
    cases h
    unfold parseL at hp
    obtain ⟨g, q, h2, h3⟩ := then_inv (show _ = Except.ok (x.1, x.2) from hp)
    have hg := (msgP_good (by omega) 5 _ _ _ _ h2).2
    have he : q ≤ (runesL l).length := msgGo_end _ _ _ _ _ h2 (Nat.zero_le _)
    split at h3
    · cases h3
      exact hg.more (by omega)
    · cases h3
end Go.Proofs.YtdelpialeajajaaGreatDoor

/- phrases.read: a pattern's message, checked. -/
namespace Go.Proofs.YtdelpialeajajaaGreatDoor
open Go Go.RowKit
set_option maxRecDepth 10000

/-- a message, or the first fault -/
def readP (l : List UInt8) : Except (Nat × Nat) Fo :=
  match parseR l with
  | .error e => .error e
  | .ok f => match chkL f with | none => .ok f | some e => .error e

def ReadQ (r : Except (Nat × Nat) Fo) (w : World) (e : Ending) (w' : World) : Prop :=
  (match r with
    | .error (n, a) => ∃ v b, e = .returned (.tuple #[v, .iface 86 (.pointer (some ⟨b, 0, none⟩))]) ∧ (∃ a n c, v = .slice a n c) ∧ w'.cell? ⟨b, 0, none⟩ = some (.int .i64 n) ∧ w'.cell? ⟨b, 1, none⟩ = some (.int .i64 a)
    | .ok f => (∃ a c vs, e = .returned (.tuple #[.slice a f.len c, .nilIface]) ∧ RowC w.heap.size w'.heap.size w' a vs ∧ NodesV w.heap.size w'.heap.size w' vs f) ∧ Good f 1000) ∧ Below w.heap.size w w'

set_option maxHeartbeats 2000000 in
theorem read_msg (s : ByteArray) (w : World) (hs : s.size ≤ 9223372036854775807) (hT : Lib.Utf8Tabs 2 3 w) (hN : NamesAt w) :
    Calls Tryz.prog 35 #[.string s] w (ReadQ (readP s.data.toList) w) := by
  have HP := Lib.hid (syn_parse s w hs hT hN)
  have HR := Lib.hid (show readP s.data.toList = match parseR s.data.toList with | .error e => .error e | .ok f => match chkL f with | none => .ok f | some e => .error e from rfl)
  have HG := Lib.hid (fun f => parseR_good (l := s.data.toList) (f := f))
  obtain ⟨r, hr⟩ : ∃ r, parseR s.data.toList = r := ⟨_, rfl⟩
  rw [hr] at HP HR HG
  clear hT hN hr
  go_enter Tryz.func35, Tryz.ntmps35
  go_wp2_with fail
  refine HP.out.mono ?_
  rintro e w1 ⟨hq, hb1⟩
  clear HP
  cases r with
  | error en =>
    obtain ⟨n, a⟩ := en
    obtain ⟨b, rfl, c0, c1⟩ := hq
    have HX := Lib.hid (show readP s.data.toList = .error (n, a) from HR.out)
    go_wp2
    go_ret2
    rw [HX.out]
    exact ⟨⟨_, b, rfl, ⟨_, _, _, rfl⟩, c0, c1⟩, hb1⟩
  | ok f =>
    obtain ⟨⟨a, c, vs, rfl, hrow, hnod⟩, hmsg⟩ := hq
    have hg := HG.out f rfl
    have HROW := Lib.hid hrow
    have HNOD := Lib.hid hnod
    have HGG := Lib.hid hg
    have HC := Lib.hid (check_any f a c vs w1 hg.msg hg.wf (by have := hg.len; omega) (by have := hg.cnt; omega) hrow hnod (Nat.le_refl _))
    have HX := Lib.hid (show readP s.data.toList = match chkL f with | none => .ok f | some e => .error e from HR.out)
    obtain ⟨q, hq⟩ : ∃ q, chkL f = q := ⟨_, rfl⟩
    rw [hq] at HC HX
    clear hrow hnod hmsg hg hq HR HG
    go_wp2_with fail
    refine HC.out.mono ?_
    rintro e w2 ⟨hq, hb2⟩
    clear HC
    have hb02 := hb1.trans (hb2.mono hb1.size)
    cases q with
    | none =>
      obtain rfl := hq
      have HY := Lib.hid (show readP s.data.toList = .ok f from HX.out)
      have hk : KeepR w.heap.size w1.heap.size w1 w2 := ⟨hb2.size, fun k _ hk => hb2.block k hk⟩
      go_wp2
      go_ret2
      rw [HY.out]
      exact ⟨⟨⟨a, c, vs, rfl, HROW.out.keep hk (Nat.le_refl _) hb2.size, NodesV.keep hk (Nat.le_refl _) hb2.size _ _ HNOD.out⟩, HGG.out⟩, hb02⟩
    | some e =>
      obtain ⟨n, p⟩ := e
      obtain ⟨b, rfl, c0, c1⟩ := hq
      have HY := Lib.hid (show readP s.data.toList = .error (n, p) from HX.out)
      go_wp2
      go_ret2
      rw [HY.out]
      exact ⟨⟨_, b, rfl, ⟨_, _, _, rfl⟩, c0, c1⟩, hb02⟩
end Go.Proofs.YtdelpialeajajaaGreatDoor
