import Derived.Test.YtpepgmccbkkaaaaGreatDoorJ14

/- The document's rules: how a relation is put. -/
namespace Go.Proofs.YtpepgmccbkkaaaaGreatDoor
open Go Go.RowKit
set_option maxRecDepth 10000

/-- is it denied; are broken numbers spoken of; must one number follow; how many words say so (0: none do) -/
def mannerL (a b : List UInt8) : Bool × Bool × Bool × Nat :=
  if a = [61] ∨ a = [105, 110] then (false, false, false, 1) else if a = [33, 61] then (true, false, false, 1) else if a = [119, 105, 116, 104, 105, 110] then (false, true, false, 1)
  else if a = [105, 115] ∧ b = [110, 111, 116] then (true, false, true, 2) else if a = [105, 115] then (false, false, true, 1)
  else if a = [110, 111, 116] ∧ b = [105, 110] then (true, false, false, 2) else if a = [110, 111, 116] ∧ b = [119, 105, 116, 104, 105, 110] then (true, true, false, 2) else (false, false, false, 0)

set_option maxHeartbeats 600000 in
theorem manner_two_eq_any (x : Addr) (n cap : Nat) (b : List UInt8) (w : World) (hn : 2 ≤ n) (hn2 : n ≤ 1000000) (h0 : w.cell? x = some (strv [61])) (h1 : w.cell? ⟨x.block, x.off + 1, none⟩ = some (strv b)) :
    Calls Tryz.prog 85 #[.slice (some x) n cap] w fun e w' => e = .returned (.tuple #[.bool (mannerL [61] b).1, .bool (mannerL [61] b).2.1, .bool (mannerL [61] b).2.2.1, .int .i64 (mannerL [61] b).2.2.2]) ∧ w = w' := by
  have hf : mannerL [61] b = (false, false, false, 1) := by simp [mannerL]
  have hg : decide ((1 : Int) < (n : Int)) = true := by simp; omega
  have p1 : (0 : Int) < (n : Int) := by omega
  have p2 : (1 : Int) < (n : Int) := by omega
  have HF := Lib.hid hf
  clear hf
  go_enter Tryz.func85, Tryz.ntmps85
  go_wp2
  refine bodyPost_ret (v := .tuple #[.bool false, .bool false, .bool false, .int .i64 1]) ?_ rfl ⟨by rw [HF.out]; rfl, rfl⟩
  simp [results, Tryz.results85, go_sem]

set_option maxHeartbeats 600000 in
theorem manner_two_in_any (x : Addr) (n cap : Nat) (b : List UInt8) (w : World) (hn : 2 ≤ n) (hn2 : n ≤ 1000000) (h0 : w.cell? x = some (strv [105, 110])) (h1 : w.cell? ⟨x.block, x.off + 1, none⟩ = some (strv b)) :
    Calls Tryz.prog 85 #[.slice (some x) n cap] w fun e w' => e = .returned (.tuple #[.bool (mannerL [105, 110] b).1, .bool (mannerL [105, 110] b).2.1, .bool (mannerL [105, 110] b).2.2.1, .int .i64 (mannerL [105, 110] b).2.2.2]) ∧ w = w' := by
  have hf : mannerL [105, 110] b = (false, false, false, 1) := by simp [mannerL]
  have hg : decide ((1 : Int) < (n : Int)) = true := by simp; omega
  have p1 : (0 : Int) < (n : Int) := by omega
  have p2 : (1 : Int) < (n : Int) := by omega
  have HF := Lib.hid hf
  clear hf
  go_enter Tryz.func85, Tryz.ntmps85
  go_wp2
  refine bodyPost_ret (v := .tuple #[.bool false, .bool false, .bool false, .int .i64 1]) ?_ rfl ⟨by rw [HF.out]; rfl, rfl⟩
  simp [results, Tryz.results85, go_sem]

set_option maxHeartbeats 600000 in
theorem manner_two_ne_any (x : Addr) (n cap : Nat) (b : List UInt8) (w : World) (hn : 2 ≤ n) (hn2 : n ≤ 1000000) (h0 : w.cell? x = some (strv [33, 61])) (h1 : w.cell? ⟨x.block, x.off + 1, none⟩ = some (strv b)) :
    Calls Tryz.prog 85 #[.slice (some x) n cap] w fun e w' => e = .returned (.tuple #[.bool (mannerL [33, 61] b).1, .bool (mannerL [33, 61] b).2.1, .bool (mannerL [33, 61] b).2.2.1, .int .i64 (mannerL [33, 61] b).2.2.2]) ∧ w = w' := by
  have hf : mannerL [33, 61] b = (true, false, false, 1) := by simp [mannerL]
  have hg : decide ((1 : Int) < (n : Int)) = true := by simp; omega
  have p1 : (0 : Int) < (n : Int) := by omega
  have p2 : (1 : Int) < (n : Int) := by omega
  have HF := Lib.hid hf
  clear hf
  go_enter Tryz.func85, Tryz.ntmps85
  go_wp2
  refine bodyPost_ret (v := .tuple #[.bool true, .bool false, .bool false, .int .i64 1]) ?_ rfl ⟨by rw [HF.out]; rfl, rfl⟩
  simp [results, Tryz.results85, go_sem]

set_option maxHeartbeats 600000 in
theorem manner_two_within_any (x : Addr) (n cap : Nat) (b : List UInt8) (w : World) (hn : 2 ≤ n) (hn2 : n ≤ 1000000) (h0 : w.cell? x = some (strv [119, 105, 116, 104, 105, 110])) (h1 : w.cell? ⟨x.block, x.off + 1, none⟩ = some (strv b)) :
    Calls Tryz.prog 85 #[.slice (some x) n cap] w fun e w' => e = .returned (.tuple #[.bool (mannerL [119, 105, 116, 104, 105, 110] b).1, .bool (mannerL [119, 105, 116, 104, 105, 110] b).2.1, .bool (mannerL [119, 105, 116, 104, 105, 110] b).2.2.1, .int .i64 (mannerL [119, 105, 116, 104, 105, 110] b).2.2.2]) ∧ w = w' := by
  have hf : mannerL [119, 105, 116, 104, 105, 110] b = (false, true, false, 1) := by simp [mannerL]
  have hg : decide ((1 : Int) < (n : Int)) = true := by simp; omega
  have p1 : (0 : Int) < (n : Int) := by omega
  have p2 : (1 : Int) < (n : Int) := by omega
  have HF := Lib.hid hf
  clear hf
  go_enter Tryz.func85, Tryz.ntmps85
  go_wp2
  refine bodyPost_ret (v := .tuple #[.bool false, .bool true, .bool false, .int .i64 1]) ?_ rfl ⟨by rw [HF.out]; rfl, rfl⟩
  simp [results, Tryz.results85, go_sem]

set_option maxHeartbeats 600000 in
theorem manner_two_is_not (x : Addr) (n cap : Nat) (w : World) (hn : 2 ≤ n) (hn2 : n ≤ 1000000) (h0 : w.cell? x = some (strv [105, 115])) (h1 : w.cell? ⟨x.block, x.off + 1, none⟩ = some (strv [110, 111, 116])) :
    Calls Tryz.prog 85 #[.slice (some x) n cap] w fun e w' => e = .returned (.tuple #[.bool (mannerL [105, 115] [110, 111, 116]).1, .bool (mannerL [105, 115] [110, 111, 116]).2.1, .bool (mannerL [105, 115] [110, 111, 116]).2.2.1, .int .i64 (mannerL [105, 115] [110, 111, 116]).2.2.2]) ∧ w = w' := by
  have hf : mannerL [105, 115] [110, 111, 116] = (true, false, true, 2) := by simp [mannerL]
  have hg : decide ((1 : Int) < (n : Int)) = true := by simp; omega
  have p1 : (0 : Int) < (n : Int) := by omega
  have p2 : (1 : Int) < (n : Int) := by omega
  have HF := Lib.hid hf
  clear hf
  go_enter Tryz.func85, Tryz.ntmps85
  go_wp2
  refine bodyPost_ret (v := .tuple #[.bool true, .bool false, .bool true, .int .i64 2]) ?_ rfl ⟨by rw [HF.out]; rfl, rfl⟩
  simp [results, Tryz.results85, go_sem]

set_option maxHeartbeats 600000 in
theorem manner_two_is_else (x : Addr) (n cap : Nat) (b : List UInt8) (w : World) (hn : 2 ≤ n) (hn2 : n ≤ 1000000) (h0 : w.cell? x = some (strv [105, 115])) (h1 : w.cell? ⟨x.block, x.off + 1, none⟩ = some (strv b)) (mnot : ¬ b = [110, 111, 116]) :
    Calls Tryz.prog 85 #[.slice (some x) n cap] w fun e w' => e = .returned (.tuple #[.bool (mannerL [105, 115] b).1, .bool (mannerL [105, 115] b).2.1, .bool (mannerL [105, 115] b).2.2.1, .int .i64 (mannerL [105, 115] b).2.2.2]) ∧ w = w' := by
  have hf : mannerL [105, 115] b = (false, false, true, 1) := by simp [mannerL, mnot]
  have rnot : (b == [110, 111, 116]) = false := by simpa using mnot
  clear mnot
  have hg : decide ((1 : Int) < (n : Int)) = true := by simp; omega
  have p1 : (0 : Int) < (n : Int) := by omega
  have p2 : (1 : Int) < (n : Int) := by omega
  have HF := Lib.hid hf
  clear hf
  go_enter Tryz.func85, Tryz.ntmps85
  go_wp2
  refine bodyPost_ret (v := .tuple #[.bool false, .bool false, .bool true, .int .i64 1]) ?_ rfl ⟨by rw [HF.out]; rfl, rfl⟩
  simp [results, Tryz.results85, go_sem]

set_option maxHeartbeats 600000 in
theorem manner_two_not_in (x : Addr) (n cap : Nat) (w : World) (hn : 2 ≤ n) (hn2 : n ≤ 1000000) (h0 : w.cell? x = some (strv [110, 111, 116])) (h1 : w.cell? ⟨x.block, x.off + 1, none⟩ = some (strv [105, 110])) :
    Calls Tryz.prog 85 #[.slice (some x) n cap] w fun e w' => e = .returned (.tuple #[.bool (mannerL [110, 111, 116] [105, 110]).1, .bool (mannerL [110, 111, 116] [105, 110]).2.1, .bool (mannerL [110, 111, 116] [105, 110]).2.2.1, .int .i64 (mannerL [110, 111, 116] [105, 110]).2.2.2]) ∧ w = w' := by
  have hf : mannerL [110, 111, 116] [105, 110] = (true, false, false, 2) := by simp [mannerL]
  have hg : decide ((1 : Int) < (n : Int)) = true := by simp; omega
  have p1 : (0 : Int) < (n : Int) := by omega
  have p2 : (1 : Int) < (n : Int) := by omega
  have HF := Lib.hid hf
  clear hf
  go_enter Tryz.func85, Tryz.ntmps85
  go_wp2
  refine bodyPost_ret (v := .tuple #[.bool true, .bool false, .bool false, .int .i64 2]) ?_ rfl ⟨by rw [HF.out]; rfl, rfl⟩
  simp [results, Tryz.results85, go_sem]

set_option maxHeartbeats 600000 in
theorem manner_two_not_within (x : Addr) (n cap : Nat) (w : World) (hn : 2 ≤ n) (hn2 : n ≤ 1000000) (h0 : w.cell? x = some (strv [110, 111, 116])) (h1 : w.cell? ⟨x.block, x.off + 1, none⟩ = some (strv [119, 105, 116, 104, 105, 110])) :
    Calls Tryz.prog 85 #[.slice (some x) n cap] w fun e w' => e = .returned (.tuple #[.bool (mannerL [110, 111, 116] [119, 105, 116, 104, 105, 110]).1, .bool (mannerL [110, 111, 116] [119, 105, 116, 104, 105, 110]).2.1, .bool (mannerL [110, 111, 116] [119, 105, 116, 104, 105, 110]).2.2.1, .int .i64 (mannerL [110, 111, 116] [119, 105, 116, 104, 105, 110]).2.2.2]) ∧ w = w' := by
  have hf : mannerL [110, 111, 116] [119, 105, 116, 104, 105, 110] = (true, true, false, 2) := by simp [mannerL]
  have hg : decide ((1 : Int) < (n : Int)) = true := by simp; omega
  have p1 : (0 : Int) < (n : Int) := by omega
  have p2 : (1 : Int) < (n : Int) := by omega
  have HF := Lib.hid hf
  clear hf
  go_enter Tryz.func85, Tryz.ntmps85
  go_wp2
  refine bodyPost_ret (v := .tuple #[.bool true, .bool true, .bool false, .int .i64 2]) ?_ rfl ⟨by rw [HF.out]; rfl, rfl⟩
  simp [results, Tryz.results85, go_sem]

set_option maxHeartbeats 600000 in
theorem manner_two_not_else (x : Addr) (n cap : Nat) (b : List UInt8) (w : World) (hn : 2 ≤ n) (hn2 : n ≤ 1000000) (h0 : w.cell? x = some (strv [110, 111, 116])) (h1 : w.cell? ⟨x.block, x.off + 1, none⟩ = some (strv b)) (min : ¬ b = [105, 110]) (mwithin : ¬ b = [119, 105, 116, 104, 105, 110]) :
    Calls Tryz.prog 85 #[.slice (some x) n cap] w fun e w' => e = .returned (.tuple #[.bool (mannerL [110, 111, 116] b).1, .bool (mannerL [110, 111, 116] b).2.1, .bool (mannerL [110, 111, 116] b).2.2.1, .int .i64 (mannerL [110, 111, 116] b).2.2.2]) ∧ w = w' := by
  have hf : mannerL [110, 111, 116] b = (false, false, false, 0) := by simp [mannerL, min, mwithin]
  have rin : (b == [105, 110]) = false := by simpa using min
  have rwithin : (b == [119, 105, 116, 104, 105, 110]) = false := by simpa using mwithin
  clear min mwithin
  have hg : decide ((1 : Int) < (n : Int)) = true := by simp; omega
  have p1 : (0 : Int) < (n : Int) := by omega
  have p2 : (1 : Int) < (n : Int) := by omega
  have HF := Lib.hid hf
  clear hf
  go_enter Tryz.func85, Tryz.ntmps85
  go_wp2
  refine bodyPost_ret (v := .tuple #[.bool false, .bool false, .bool false, .int .i64 0]) ?_ rfl ⟨by rw [HF.out]; rfl, rfl⟩
  simp [results, Tryz.results85, go_sem]

set_option maxHeartbeats 600000 in
theorem manner_two_other_any (x : Addr) (n cap : Nat) (a : List UInt8) (b : List UInt8) (w : World) (hn : 2 ≤ n) (hn2 : n ≤ 1000000) (h0 : w.cell? x = some (strv a)) (h1 : w.cell? ⟨x.block, x.off + 1, none⟩ = some (strv b)) (neq : ¬ a = [61]) (nin : ¬ a = [105, 110]) (nne : ¬ a = [33, 61]) (nwithin : ¬ a = [119, 105, 116, 104, 105, 110]) (nis : ¬ a = [105, 115]) (nnot : ¬ a = [110, 111, 116]) :
    Calls Tryz.prog 85 #[.slice (some x) n cap] w fun e w' => e = .returned (.tuple #[.bool (mannerL a b).1, .bool (mannerL a b).2.1, .bool (mannerL a b).2.2.1, .int .i64 (mannerL a b).2.2.2]) ∧ w = w' := by
  have hf : mannerL a b = (false, false, false, 0) := by simp [mannerL, neq, nin, nne, nwithin, nis, nnot]
  have qeq : (a == [61]) = false := by simpa using neq
  have qin : (a == [105, 110]) = false := by simpa using nin
  have qne : (a == [33, 61]) = false := by simpa using nne
  have qwithin : (a == [119, 105, 116, 104, 105, 110]) = false := by simpa using nwithin
  have qis : (a == [105, 115]) = false := by simpa using nis
  have qnot : (a == [110, 111, 116]) = false := by simpa using nnot
  clear neq nin nne nwithin nis nnot
  have hg : decide ((1 : Int) < (n : Int)) = true := by simp; omega
  have p1 : (0 : Int) < (n : Int) := by omega
  have p2 : (1 : Int) < (n : Int) := by omega
  have HF := Lib.hid hf
  clear hf
  go_enter Tryz.func85, Tryz.ntmps85
  go_wp2
  refine bodyPost_ret (v := .tuple #[.bool false, .bool false, .bool false, .int .i64 0]) ?_ rfl ⟨by rw [HF.out]; rfl, rfl⟩
  simp [results, Tryz.results85, go_sem]

set_option maxHeartbeats 600000 in
theorem manner_one_eq_any (x : Addr) (n cap : Nat) (w : World) (hn : n = 1) (h0 : w.cell? x = some (strv [61])) :
    Calls Tryz.prog 85 #[.slice (some x) n cap] w fun e w' => e = .returned (.tuple #[.bool (mannerL [61] []).1, .bool (mannerL [61] []).2.1, .bool (mannerL [61] []).2.2.1, .int .i64 (mannerL [61] []).2.2.2]) ∧ w = w' := by
  have hf : mannerL [61] [] = (false, false, false, 1) := by simp [mannerL]
  subst hn
  have HF := Lib.hid hf
  clear hf
  go_enter Tryz.func85, Tryz.ntmps85
  go_wp2
  refine bodyPost_ret (v := .tuple #[.bool false, .bool false, .bool false, .int .i64 1]) ?_ rfl ⟨by rw [HF.out]; rfl, rfl⟩
  simp [results, Tryz.results85, go_sem]

set_option maxHeartbeats 600000 in
theorem manner_one_in_any (x : Addr) (n cap : Nat) (w : World) (hn : n = 1) (h0 : w.cell? x = some (strv [105, 110])) :
    Calls Tryz.prog 85 #[.slice (some x) n cap] w fun e w' => e = .returned (.tuple #[.bool (mannerL [105, 110] []).1, .bool (mannerL [105, 110] []).2.1, .bool (mannerL [105, 110] []).2.2.1, .int .i64 (mannerL [105, 110] []).2.2.2]) ∧ w = w' := by
  have hf : mannerL [105, 110] [] = (false, false, false, 1) := by simp [mannerL]
  subst hn
  have HF := Lib.hid hf
  clear hf
  go_enter Tryz.func85, Tryz.ntmps85
  go_wp2
  refine bodyPost_ret (v := .tuple #[.bool false, .bool false, .bool false, .int .i64 1]) ?_ rfl ⟨by rw [HF.out]; rfl, rfl⟩
  simp [results, Tryz.results85, go_sem]

set_option maxHeartbeats 600000 in
theorem manner_one_ne_any (x : Addr) (n cap : Nat) (w : World) (hn : n = 1) (h0 : w.cell? x = some (strv [33, 61])) :
    Calls Tryz.prog 85 #[.slice (some x) n cap] w fun e w' => e = .returned (.tuple #[.bool (mannerL [33, 61] []).1, .bool (mannerL [33, 61] []).2.1, .bool (mannerL [33, 61] []).2.2.1, .int .i64 (mannerL [33, 61] []).2.2.2]) ∧ w = w' := by
  have hf : mannerL [33, 61] [] = (true, false, false, 1) := by simp [mannerL]
  subst hn
  have HF := Lib.hid hf
  clear hf
  go_enter Tryz.func85, Tryz.ntmps85
  go_wp2
  refine bodyPost_ret (v := .tuple #[.bool true, .bool false, .bool false, .int .i64 1]) ?_ rfl ⟨by rw [HF.out]; rfl, rfl⟩
  simp [results, Tryz.results85, go_sem]

set_option maxHeartbeats 600000 in
theorem manner_one_within_any (x : Addr) (n cap : Nat) (w : World) (hn : n = 1) (h0 : w.cell? x = some (strv [119, 105, 116, 104, 105, 110])) :
    Calls Tryz.prog 85 #[.slice (some x) n cap] w fun e w' => e = .returned (.tuple #[.bool (mannerL [119, 105, 116, 104, 105, 110] []).1, .bool (mannerL [119, 105, 116, 104, 105, 110] []).2.1, .bool (mannerL [119, 105, 116, 104, 105, 110] []).2.2.1, .int .i64 (mannerL [119, 105, 116, 104, 105, 110] []).2.2.2]) ∧ w = w' := by
  have hf : mannerL [119, 105, 116, 104, 105, 110] [] = (false, true, false, 1) := by simp [mannerL]
  subst hn
  have HF := Lib.hid hf
  clear hf
  go_enter Tryz.func85, Tryz.ntmps85
  go_wp2
  refine bodyPost_ret (v := .tuple #[.bool false, .bool true, .bool false, .int .i64 1]) ?_ rfl ⟨by rw [HF.out]; rfl, rfl⟩
  simp [results, Tryz.results85, go_sem]

set_option maxHeartbeats 600000 in
theorem manner_one_is_else (x : Addr) (n cap : Nat) (w : World) (hn : n = 1) (h0 : w.cell? x = some (strv [105, 115])) :
    Calls Tryz.prog 85 #[.slice (some x) n cap] w fun e w' => e = .returned (.tuple #[.bool (mannerL [105, 115] []).1, .bool (mannerL [105, 115] []).2.1, .bool (mannerL [105, 115] []).2.2.1, .int .i64 (mannerL [105, 115] []).2.2.2]) ∧ w = w' := by
  have hf : mannerL [105, 115] [] = (false, false, true, 1) := by simp [mannerL]
  subst hn
  have HF := Lib.hid hf
  clear hf
  go_enter Tryz.func85, Tryz.ntmps85
  go_wp2
  refine bodyPost_ret (v := .tuple #[.bool false, .bool false, .bool true, .int .i64 1]) ?_ rfl ⟨by rw [HF.out]; rfl, rfl⟩
  simp [results, Tryz.results85, go_sem]

set_option maxHeartbeats 600000 in
theorem manner_one_not_else (x : Addr) (n cap : Nat) (w : World) (hn : n = 1) (h0 : w.cell? x = some (strv [110, 111, 116])) :
    Calls Tryz.prog 85 #[.slice (some x) n cap] w fun e w' => e = .returned (.tuple #[.bool (mannerL [110, 111, 116] []).1, .bool (mannerL [110, 111, 116] []).2.1, .bool (mannerL [110, 111, 116] []).2.2.1, .int .i64 (mannerL [110, 111, 116] []).2.2.2]) ∧ w = w' := by
  have hf : mannerL [110, 111, 116] [] = (false, false, false, 0) := by simp [mannerL]
  subst hn
  have HF := Lib.hid hf
  clear hf
  go_enter Tryz.func85, Tryz.ntmps85
  go_wp2
  refine bodyPost_ret (v := .tuple #[.bool false, .bool false, .bool false, .int .i64 0]) ?_ rfl ⟨by rw [HF.out]; rfl, rfl⟩
  simp [results, Tryz.results85, go_sem]

set_option maxHeartbeats 600000 in
theorem manner_one_other_any (x : Addr) (n cap : Nat) (a : List UInt8) (w : World) (hn : n = 1) (h0 : w.cell? x = some (strv a)) (neq : ¬ a = [61]) (nin : ¬ a = [105, 110]) (nne : ¬ a = [33, 61]) (nwithin : ¬ a = [119, 105, 116, 104, 105, 110]) (nis : ¬ a = [105, 115]) (nnot : ¬ a = [110, 111, 116]) :
    Calls Tryz.prog 85 #[.slice (some x) n cap] w fun e w' => e = .returned (.tuple #[.bool (mannerL a []).1, .bool (mannerL a []).2.1, .bool (mannerL a []).2.2.1, .int .i64 (mannerL a []).2.2.2]) ∧ w = w' := by
  have hf : mannerL a [] = (false, false, false, 0) := by simp [mannerL, neq, nin, nne, nwithin, nis, nnot]
  have qeq : (a == [61]) = false := by simpa using neq
  have qin : (a == [105, 110]) = false := by simpa using nin
  have qne : (a == [33, 61]) = false := by simpa using nne
  have qwithin : (a == [119, 105, 116, 104, 105, 110]) = false := by simpa using nwithin
  have qis : (a == [105, 115]) = false := by simpa using nis
  have qnot : (a == [110, 111, 116]) = false := by simpa using nnot
  clear neq nin nne nwithin nis nnot
  subst hn
  have HF := Lib.hid hf
  clear hf
  go_enter Tryz.func85, Tryz.ntmps85
  go_wp2
  refine bodyPost_ret (v := .tuple #[.bool false, .bool false, .bool false, .int .i64 0]) ?_ rfl ⟨by rw [HF.out]; rfl, rfl⟩
  simp [results, Tryz.results85, go_sem]

end Go.Proofs.YtpepgmccbkkaaaaGreatDoor

/- The document's rules: how a relation is put, of whatever words. -/
namespace Go.Proofs.YtpepgmccbkkaaaaGreatDoor
open Go Go.RowKit
set_option maxRecDepth 10000

theorem manner_any (v : Value) (ws : List (List UInt8)) (w : World) (h : StrsAt w v ws) (hw : ws.length ≤ 1000000) (hne : ws ≠ []) :
    Calls Tryz.prog 85 #[v] w fun e w' =>
      e = .returned (.tuple #[.bool (mannerL (ws.getD 0 []) (ws.getD 1 [])).1, .bool (mannerL (ws.getD 0 []) (ws.getD 1 [])).2.1, .bool (mannerL (ws.getD 0 []) (ws.getD 1 [])).2.2.1, .int .i64 (mannerL (ws.getD 0 []) (ws.getD 1 [])).2.2.2]) ∧ w = w' := by
  obtain ⟨a, cap, rfl, hl, hm, h0, hc⟩ := h
  match ws, hne, hw, hl, hc with
  | [x], _, hw, hl, hc =>
    obtain ⟨y, rfl, c0⟩ := hc 0 (by simp)
    have c0' : w.cell? y = some (strv x) := by simpa [Addr.add] using c0
    show Calls _ _ _ _ (fun e w' => e = .returned (.tuple #[.bool (mannerL x []).1, .bool (mannerL x []).2.1, .bool (mannerL x []).2.2.1, .int .i64 (mannerL x []).2.2.2]) ∧ w = w')
    by_cases k1 : x = [61]
    · subst k1; exact manner_one_eq_any y _ cap w rfl c0'
    by_cases k2 : x = [105, 110]
    · subst k2; exact manner_one_in_any y _ cap w rfl c0'
    by_cases k3 : x = [33, 61]
    · subst k3; exact manner_one_ne_any y _ cap w rfl c0'
    by_cases k4 : x = [119, 105, 116, 104, 105, 110]
    · subst k4; exact manner_one_within_any y _ cap w rfl c0'
    by_cases k5 : x = [105, 115]
    · subst k5; exact manner_one_is_else y _ cap w rfl c0'
    by_cases k6 : x = [110, 111, 116]
    · subst k6; exact manner_one_not_else y _ cap w rfl c0'
    exact manner_one_other_any y _ cap x w rfl c0' k1 k2 k3 k4 k5 k6
  | x :: z :: t, _, hw, hl, hc =>
    obtain ⟨y, hy, c0⟩ := hc 0 (by simp)
    obtain ⟨y2, hy2, c1⟩ := hc 1 (by simp)
    subst hy
    obtain rfl := Option.some.inj hy2
    have c0' : w.cell? y = some (strv x) := by simpa [Addr.add] using c0
    have c1' : w.cell? ⟨y.block, y.off + 1, none⟩ = some (strv z) := by simpa [Addr.add] using c1
    have g2 : 2 ≤ (x :: z :: t).length := by simp
    show Calls _ _ _ _ (fun e w' => e = .returned (.tuple #[.bool (mannerL x z).1, .bool (mannerL x z).2.1, .bool (mannerL x z).2.2.1, .int .i64 (mannerL x z).2.2.2]) ∧ w = w')
    clear hc hl c0 c1
    generalize (x :: z :: t).length = n at *
    by_cases k1 : x = [61]
    · subst k1; exact manner_two_eq_any y n cap z w g2 hw c0' c1'
    by_cases k2 : x = [105, 110]
    · subst k2; exact manner_two_in_any y n cap z w g2 hw c0' c1'
    by_cases k3 : x = [33, 61]
    · subst k3; exact manner_two_ne_any y n cap z w g2 hw c0' c1'
    by_cases k4 : x = [119, 105, 116, 104, 105, 110]
    · subst k4; exact manner_two_within_any y n cap z w g2 hw c0' c1'
    by_cases k5 : x = [105, 115]
    · subst k5
      by_cases m1 : z = [110, 111, 116]
      · subst m1; exact manner_two_is_not y n cap w g2 hw c0' c1'
      · exact manner_two_is_else y n cap z w g2 hw c0' c1' m1
    by_cases k6 : x = [110, 111, 116]
    · subst k6
      by_cases m1 : z = [105, 110]
      · subst m1; exact manner_two_not_in y n cap w g2 hw c0' c1'
      by_cases m2 : z = [119, 105, 116, 104, 105, 110]
      · subst m2; exact manner_two_not_within y n cap w g2 hw c0' c1'
      · exact manner_two_not_else y n cap z w g2 hw c0' c1' m1 m2
    exact manner_two_other_any y n cap x z w g2 hw c0' c1' k1 k2 k3 k4 k5 k6
end Go.Proofs.YtpepgmccbkkaaaaGreatDoor

/- The plain law of rules, first part: what the document's rules say, and what the program's parser says, as plain functions. -/
namespace Go.Proofs.YtpepgmccbkkaaaaGreatDoor
open Go

/-- a word -/
abbrev Wd := List UInt8
/-- a number's digits: ahead of the point, and behind it -/
abbrev Dg := List UInt8 × List UInt8

/-! ## The document -/

/-- a range -/
def oneRange : List Wd → Option (Wd × Wd)
  | [x] => if figB x = true then some (x, x) else none
  | [x, d, y] => if d = [46, 46] ∧ figB x = true ∧ figB y = true ∧ ¬ 0 < cmpL x y then some (x, y) else none
  | _ => none

/-- does a range hold of a, with broken or none behind the point -/
def inB (within : Bool) (a : Wd) (broken : Bool) (lo hi : Wd) : Bool :=
  decide (0 ≤ cmpL a lo) && ((decide (cmpL a hi < 0) || (decide (cmpL a hi = 0) && !broken)) && (within || !broken))

/-- is there a digit but 0 -/
def brk (f : Wd) : Bool := f.any (· != 48)

def listedGo (within : Bool) (a : Wd) (broken : Bool) : List (List Wd) → Bool → Option Bool
  | [], b => some b
  | r :: rs, b => match oneRange r with
    | none => none
    | some q => listedGo within a broken rs (b || inB within a broken q.1 q.2)

/-- ranges between commas -/
def listedL (l : List Wd) (a f : Wd) (within one : Bool) : Option Bool :=
  if one = true ∧ ¬ ((partsL [44] l).length = 1 ∧ ((partsL [44] l).headD []).length = 1) then none
  else listedGo within a (brk f) (partsL [44] l) false

def modW (w : Wd) : Bool := w == [109, 111, 100] || w == [37]

/-- how, and a list -/
def relTail (l : List Wd) (a f : Wd) : Option Bool :=
  match mannerL (l.getD 0 []) (l.getD 1 []) with
  | (nt, wi, one, n) => if n = 0 then none else (listedL (l.drop n) a f wi one).map (fun b => b != nt)

/-- a relation -/
def relL (l : List Wd) (x : Dg) : Option Bool :=
  if l.length < 3 then none
  else match operandL x.1 x.2 (l.headD []) with
    | none => none
    | some (a, f) =>
      if modW (l.getD 1 []) then
        if figB (l.getD 2 []) = true ∧ l.getD 2 [] ≠ [48] ∧ 5 ≤ l.length then relTail (l.drop 3) (decL (leftL a (valL (l.getD 2 [])))) f else none
      else relTail (l.drop 1) a f

def andsGo (x : Dg) : List (List Wd) → Bool → Option Bool
  | [], b => some b
  | s :: t, b => match relL s x with
    | none => none
    | some h => andsGo x t (b && h)

def orsGo (x : Dg) : List (List Wd) → Bool → Option Bool
  | [], b => some b
  | o :: t, b => match andsGo x (partsL [97, 110, 100] o) true with
    | none => none
    | some h => orsGo x t (b || h)

/-- a rule -/
def holdsL (s : List UInt8) (x : Dg) : Option Bool :=
  if 200 < s.length then none else match wordsL s with
  | none => none
  | some ws => orsGo x (partsL [111, 114] ws) false

/-! ## The program -/

abbrev Tst := Dg → Bool

/-- does this word stand next -/
def isW (w : Wd) (ws : List Wd) : Bool := ws.head? == some w

def pNum : List Wd → Option (Nat × List Wd)
  | [] => none
  | w :: t => if figB w = true then some (valL w, t) else none

def cmpT (x : Dg) (v : Nat) : Int :=
  if cmpL x.1 (decL v) < 0 then -1 else if 0 < cmpL x.1 (decL v) ∨ brk x.2 = true then 1 else 0

def spanT (a b : Nat) (broken : Bool) : Tst := fun x => decide (0 ≤ cmpT x a) && (decide (cmpT x b ≤ 0) && (broken || !(brk x.2)))

def pItem (ws : List Wd) : Option ((Nat × Nat) × List Wd) :=
  match pNum ws with
  | none => none
  | some (a, t) =>
    if isW [46, 46] t then
      match pNum t.tail with
      | none => none
      | some (b, u) => if b < a then none else some ((a, b), u)
    else some ((a, a), t)

def pListGo (within : Bool) : Nat → List Tst → List Wd → Option (List Tst × List Wd)
  | 0, _, _ => none
  | n + 1, acc, ws => match pItem ws with
    | none => none
    | some (q, t) => if isW [44] t then pListGo within n (acc ++ [spanT q.1 q.2 within]) t.tail else some (acc ++ [spanT q.1 q.2 within], t)

def someT (l : List Tst) : Tst := fun x => l.any (fun t => t x)
def allT (l : List Tst) : Tst := fun x => l.all (fun t => t x)

abbrev Parser := List Wd → Option (Tst × List Wd)

def pList (within : Bool) : Parser := fun ws => (pListGo within (ws.length + 1) [] ws).map fun q => (someT q.1, q.2)

def pManner (ws : List Wd) : Option ((Tst × Bool) × List Wd) :=
  if isW [61] ws then (pList false ws.tail).map fun q => ((q.1, false), q.2)
  else if isW [33, 61] ws then (pList false ws.tail).map fun q => ((q.1, true), q.2)
  else if isW [105, 115] ws then
    (pNum (if isW [110, 111, 116] ws.tail then ws.tail.tail else ws.tail)).map fun q => ((spanT q.1 q.1 false, isW [110, 111, 116] ws.tail), q.2)
  else
    let nt := isW [110, 111, 116] ws
    let u := if nt then ws.tail else ws
    if isW [119, 105, 116, 104, 105, 110] u then (pList true u.tail).map fun q => ((q.1, nt), q.2)
    else if isW [105, 110] u then (pList false u.tail).map fun q => ((q.1, nt), q.2)
    else none

def operandF (c : Wd) : Option (Dg → Dg) :=
  if c = [110] then some (fun x => x) else if c = [105] then some (fun x => (plainL x.1, [])) else if c = [118] then some (fun x => (decL x.2.length, []))
  else if c = [119] then some (fun x => (decL (shortL x.2).length, [])) else if c = [102] then some (fun x => (plainL x.2, []))
  else if c = [116] then some (fun x => (plainL (shortL x.2), [])) else none

def modF (of : Dg → Dg) (m : Nat) : Dg → Dg := fun x => (decL (leftL (of x).1 m), (of x).2)

def pMod (of : Dg → Dg) (t : List Wd) : Option ((Dg → Dg) × List Wd) :=
  if modW (t.headD []) then
    match pNum t.tail with
    | none => none
    | some (m, u) => if m = 0 then none else some (modF of m, u)
  else some (of, t)

def pRel : Parser
  | [] => none
  | w :: t => match operandF w with
    | none => none
    | some of => match pMod of t with
      | none => none
      | some (of', u) => match pManner u with
        | none => none
        | some ((i, nt), v) => some ((fun x => i (of' x) != nt), v)

def pRowGo (word : Wd) (one : Parser) : Nat → List Tst → List Wd → Option (List Tst × List Wd)
  | 0, _, _ => none
  | n + 1, acc, ws => match one ws with
    | none => none
    | some (T, t) => if isW word t then pRowGo word one n (acc ++ [T]) t.tail else some (acc ++ [T], t)

def pRow (word : Wd) (tog : List Tst → Tst) (one : Parser) : Parser := fun ws => (pRowGo word one (ws.length + 1) [] ws).map fun q => (tog q.1, q.2)

def pAnd : Parser := pRow [97, 110, 100] allT pRel
def pOr : Parser := pRow [111, 114] someT pAnd

/-- a byte's class: 3 a letter, 2 a digit, 1 a blank, 0 any other -/
def classL (c : UInt8) : Nat := if 97 ≤ c.toNat ∧ c.toNat ≤ 122 then 3 else if 48 ≤ c.toNat ∧ c.toNat ≤ 57 then 2 else if c.toNat = 32 then 1 else 0

/-- a sign ahead -/
def signL : List UInt8 → Option Wd
  | 33 :: 61 :: _ => some [33, 61]
  | 46 :: 46 :: _ => some [46, 46]
  | 61 :: _ => some [61]
  | 44 :: _ => some [44]
  | 37 :: _ => some [37]
  | _ => none

def tokGo : Nat → List (Wd) → List UInt8 → Option (List Wd)
  | _, acc, [] => some acc
  | 0, _, _ :: _ => none
  | n + 1, acc, c :: t => match signL (c :: t) with
    | some g => tokGo n (acc ++ [g]) ((c :: t).drop g.length)
    | none =>
      if classL c = 0 then none
      else tokGo n (if classL c = 1 then acc else acc ++ [c :: t.takeWhile (fun d => classL d == classL c)]) (t.dropWhile (fun d => classL d == classL c))

def tokL (s : List UInt8) : Option (List Wd) := tokGo (s.length + 1) [] (s.take (s.idxOf 64))

/-- the test that a rule's text says -/
def condL (s : List UInt8) : Option Tst :=
  if 200 < s.length then none else match tokL s with
  | none => none
  | some ws => match pOr ws with
    | some (T, []) => some T
    | _ => none
end Go.Proofs.YtpepgmccbkkaaaaGreatDoor

/- The plain law of rules, second part: the program's words are the document's. -/
namespace Go.Proofs.YtpepgmccbkkaaaaGreatDoor
open Go

/-- the class that a kind goes with -/
def clsOf (k : Nat) : Nat := if k = 1 then 3 else if k = 2 then 2 else if k = 3 then 1 else 0

theorem class_kind (c : UInt8) : classL c = clsOf (kindL c) := by
  unfold classL kindL clsOf
  split
  · rfl
  split
  · rfl
  split
  · rfl
  · rfl

theorem cls_inj {a b : Nat} (ha : a ≤ 3) (hb : b ≤ 3) (h : clsOf a = clsOf b) : a = b := by
  unfold clsOf at h
  rcases (by omega : a = 0 ∨ a = 1 ∨ a = 2 ∨ a = 3) with rfl | rfl | rfl | rfl <;> rcases (by omega : b = 0 ∨ b = 1 ∨ b = 2 ∨ b = 3) with rfl | rfl | rfl | rfl <;> simp_all

theorem class_beq (d c : UInt8) : (classL d == classL c) = (kindL d == kindL c) := by
  rw [class_kind, class_kind, Bool.eq_iff_iff, beq_iff_eq, beq_iff_eq]
  exact ⟨cls_inj (kindL_le d) (kindL_le c), fun h => by rw [h]⟩

theorem words_blank : ∀ (t : List UInt8) (out : List Wd), wordsGo t out 3 = wordsGo (t.dropWhile (fun d => kindL d == 3)) out 3
  | [], _ => rfl
  | c :: t, out => by
    by_cases h : kindL c = 3
    · rw [go_blank h, words_blank t out, List.dropWhile_cons_of_pos (by simp [h])]
    · rw [List.dropWhile_cons_of_neg (by simp [h])]

theorem join_snoc (out : List Wd) (w : Wd) (c : UInt8) : joinL (out ++ [w]) c = out ++ [w ++ [c]] := by
  unfold joinL
  simp

theorem words_run {k : Nat} (h3 : k ≠ 3) (h0 : 0 < k) : ∀ (t : List UInt8) (out : List Wd) (w : Wd),
    wordsGo t (out ++ [w]) k = wordsGo (t.dropWhile (fun d => kindL d == k)) (out ++ [w ++ t.takeWhile (fun d => kindL d == k)]) k
  | [], _, _ => by simp
  | c :: t, out, w => by
    by_cases h : kindL c = k
    · rw [go_join (by rw [h]; exact h3) ⟨by rw [h]; exact h0, h⟩, join_snoc, h, words_run h3 h0 t out (w ++ [c]), List.dropWhile_cons_of_pos (by simp [h]), List.takeWhile_cons_of_pos (by simp [h])]
      simp
    · rw [List.dropWhile_cons_of_neg (by simp [h]), List.takeWhile_cons_of_neg (by simp [h])]
      simp

theorem drop_head {p : UInt8 → Bool} : ∀ {t u : List UInt8} {c : UInt8}, t.dropWhile p = c :: u → p c = false
  | [], _, _, h => by cases h
  | d :: t, u, c, h => by
    by_cases hd : p d = true
    · rw [List.dropWhile_cons_of_pos hd] at h; exact drop_head h
    · rw [List.dropWhile_cons_of_neg hd] at h
      cases h
      simpa using hd

theorem drop_len (p : UInt8 → Bool) (t : List UInt8) : (t.dropWhile p).length ≤ t.length := (List.dropWhile_sublist p).length_le

theorem sign_none {c : UInt8} {t : List UInt8} (h : signL (c :: t) = none) : ¬ (c = 61 ∨ c = 44 ∨ c = 37) ∧ ∀ d u, t = d :: u → ¬ ((c = 33 ∧ d = 61) ∨ (c = 46 ∧ d = 46)) := by
  constructor
  · rintro (rfl | rfl | rfl) <;> simp [signL] at h
  · rintro d u rfl (⟨rfl, rfl⟩ | ⟨rfl, rfl⟩) <;> simp [signL] at h

theorem kind_sign {c : UInt8} (h : c = 61 ∨ c = 44 ∨ c = 37 ∨ c = 33 ∨ c = 46) : kindL c = 0 := by
  rcases h with rfl | rfl | rfl | rfl | rfl <;> decide

theorem tok_words : ∀ (n : Nat) (l : List UInt8) (acc : List Wd) (last : Nat), l.length < n → (∀ c t, l = c :: t → kindL c = 1 ∨ kindL c = 2 → kindL c ≠ last) → tokGo n acc l = wordsGo l acc last
  | 0, _, _, _, h, _ => absurd h (Nat.not_lt_zero _)
  | n + 1, [], acc, last, _, _ => by rw [tokGo, wordsGo]
  | n + 1, c :: t, acc, last, hl, hk => by
    rw [List.length_cons] at hl
    cases hs : signL (c :: t) with
    | some g =>
      rw [tokGo, hs]
      dsimp only
      unfold signL at hs
      split at hs
      · rename_i u heq
        cases heq; cases hs
        rw [go_two (kind_sign (by simp)) (by decide) (by simp)]
        exact tok_words n u _ 0 (by simp at hl; omega) (fun c t _ h => by omega)
      · rename_i u heq
        cases heq; cases hs
        rw [go_two (kind_sign (by simp)) (by decide) (by simp)]
        exact tok_words n u _ 0 (by simp at hl; omega) (fun c t _ h => by omega)
      · rename_i u heq
        cases heq; cases hs
        have e := kind_sign (c := 61) (by simp)
        rw [go_one (by rw [e]; decide) (by rw [e]; omega) (by simp), e]
        exact tok_words n _ _ 0 (by simp; omega) (fun c t _ h => by omega)
      · rename_i u heq
        cases heq; cases hs
        have e := kind_sign (c := 44) (by simp)
        rw [go_one (by rw [e]; decide) (by rw [e]; omega) (by simp), e]
        exact tok_words n _ _ 0 (by simp; omega) (fun c t _ h => by omega)
      · rename_i u heq
        cases heq; cases hs
        have e := kind_sign (c := 37) (by simp)
        rw [go_one (by rw [e]; decide) (by rw [e]; omega) (by simp), e]
        exact tok_words n _ _ 0 (by simp; omega) (fun c t _ h => by omega)
      · cases hs
    | none =>
      obtain ⟨s1, s2⟩ := sign_none hs
      have hk3 := kindL_le c
      rw [tokGo, hs]
      dsimp only
      have hp : (fun d => classL d == classL c) = (fun d => kindL d == kindL c) := funext fun d => class_beq d c
      rw [hp, class_kind]
      rcases (by omega : kindL c = 0 ∨ kindL c = 1 ∨ kindL c = 2 ∨ kindL c = 3) with e | e | e | e
      · rw [e, if_pos (by decide)]
        cases t with
        | nil => rw [go_bad1 e s1]
        | cons d u => rw [go_bad e s1 (s2 d u rfl)]
      · rw [e, if_neg (by decide), if_neg (by decide)]
        have hne := hk c t rfl (by omega)
        rw [go_one (by omega) (fun q => hne q.2) (.inl (by omega)), e, words_run (by decide) (by decide)]
        exact tok_words n _ _ 1 (by have := drop_len (fun d => kindL d == 1) t; omega) (fun d u hd _ => by have := drop_head hd; simpa using this)
      · rw [e, if_neg (by decide), if_neg (by decide)]
        have hne := hk c t rfl (by omega)
        rw [go_one (by omega) (fun q => hne q.2) (.inl (by omega)), e, words_run (by decide) (by decide)]
        exact tok_words n _ _ 2 (by have := drop_len (fun d => kindL d == 2) t; omega) (fun d u hd _ => by have := drop_head hd; simpa using this)
      · rw [e, if_neg (by decide), if_pos (by decide), go_blank e, words_blank]
        exact tok_words n _ _ 3 (by have := drop_len (fun d => kindL d == 3) t; omega) (fun d u hd _ => by have := drop_head hd; simpa using this)

theorem tokL_eq (s : List UInt8) : tokL s = wordsL s := by
  unfold tokL wordsL
  refine tok_words _ _ _ _ (by simp; omega) (fun c t h h0 => ?_)
  omega
end Go.Proofs.YtpepgmccbkkaaaaGreatDoor

/- The plain law of rules, third part: numbers of a rule: their texts and their values. -/
namespace Go.Proofs.YtpepgmccbkkaaaaGreatDoor
open Go

theorem val_foldl (l : List UInt8) : ∀ a : Nat, l.foldl (fun v c => 10 * v + (c.toNat - 48)) a = a * 10 ^ l.length + valL l := by
  induction l with
  | nil => intro a; simp [valL]
  | cons c t ih =>
    intro a
    unfold valL
    rw [List.foldl_cons, List.foldl_cons, ih, ih, List.length_cons, Nat.pow_succ, Nat.mul_zero, Nat.zero_add, Nat.add_mul, Nat.add_assoc]
    congr 1
    rw [Nat.mul_comm 10 a, Nat.mul_assoc, Nat.mul_comm 10]

theorem valL_cons (c : UInt8) (t : List UInt8) : valL (c :: t) = (c.toNat - 48) * 10 ^ t.length + valL t := by
  show (c :: t).foldl (fun v c => 10 * v + (c.toNat - 48)) 0 = _
  rw [List.foldl_cons, val_foldl]
  simp

/-- digits, at least one, without a nought ahead -/
structure Fig (l : List UInt8) : Prop where
  dig : l.all isDig = true
  ne : l ≠ []
  lead : l.length = 1 ∨ l.headD 0 ≠ 48

theorem Fig.of {l : List UInt8} (h : figB l = true) : Fig l ∧ l.length ≤ 9 := by
  simp only [figB, numeralsL, Bool.and_eq_true, Bool.or_eq_true, decide_eq_true_eq, Bool.not_eq_true'] at h
  refine ⟨⟨h.1.1, fun e => ?_, h.2.2⟩, h.2.1⟩
  rw [e] at h
  exact absurd h.1.2 (by decide)

theorem valL_low {c : UInt8} {t : List UInt8} (hc : isDig c = true) (h : c ≠ 48) : 10 ^ t.length ≤ valL (c :: t) := by
  rw [valL_cons]
  have h1 := (isDig_iff c).1 hc
  have h2 : c.toNat ≠ 48 := fun e => h (UInt8.toNat_inj.1 (by rw [e]; rfl))
  have : 1 * 10 ^ t.length ≤ (c.toNat - 48) * 10 ^ t.length := Nat.mul_le_mul_right _ (by omega)
  omega

theorem dchar_of {c : UInt8} (hc : isDig c = true) : dchar (c.toNat - 48) = c := by
  have h1 := (isDig_iff c).1 hc
  unfold dchar
  apply UInt8.toNat_inj.1
  rw [UInt8.toNat_ofNat']
  omega

theorem decL_valL : ∀ (n : Nat) (l : List UInt8), l.length = n → Fig l → decL (valL l) = l := by
  intro n
  induction n with
  | zero => intro l hl h; exact absurd (List.eq_nil_of_length_eq_zero hl) h.ne
  | succ n ih =>
    intro l hl h
    obtain ⟨t, c, rfl⟩ : ∃ t c, l = t ++ [c] := ⟨l.dropLast, l.getLast h.ne, by rw [List.dropLast_concat_getLast]⟩
    have hd := h.dig
    rw [List.all_append, Bool.and_eq_true] at hd
    have hc : isDig c = true := by simpa using hd.2
    have h1 := (isDig_iff c).1 hc
    rw [valL_snoc]
    by_cases ht : t = []
    · subst ht
      have : (10 * valL [] + (c.toNat - 48)) = c.toNat - 48 := by simp [valL]
      rw [this, decL_small (by omega), dchar_of hc]
      rfl
    · have hlen : t.length = n := by simpa using hl
      have hlead : (t ++ [c]).headD 0 ≠ 48 := by
        rcases h.lead with q | q
        · exact absurd (List.eq_nil_of_length_eq_zero (by simpa using q)) ht
        · exact q
      obtain ⟨e, u, rfl⟩ : ∃ e u, t = e :: u := by cases t with | nil => exact absurd rfl ht | cons e u => exact ⟨e, u, rfl⟩
      have he : e ≠ 48 := by simpa using hlead
      have hde : isDig e = true := by have := hd.1; simp at this; exact this.1
      have hlow := valL_low (t := u) hde he
      have : 0 < 10 ^ u.length := Nat.pow_pos (by decide)
      rw [decL_big (by omega), show (10 * valL (e :: u) + (c.toNat - 48)) / 10 = valL (e :: u) by omega, show (10 * valL (e :: u) + (c.toNat - 48)) % 10 = c.toNat - 48 by omega, dchar_of hc,
        ih (e :: u) hlen ⟨hd.1, by simp, .inr (by simpa using he)⟩]

theorem Fig.val {l : List UInt8} (h : Fig l) : decL (valL l) = l := decL_valL _ l rfl h

theorem val_shorter {x y : List UInt8} (hx : Fig x) (hy : Fig y) (h : x.length < y.length) : valL x < valL y := by
  have h1 := valL_lt x hx.dig
  obtain ⟨c, t, rfl⟩ : ∃ c t, y = c :: t := by cases y with | nil => exact absurd rfl hy.ne | cons e u => exact ⟨e, u, rfl⟩
  have h0 : 0 < x.length := List.length_pos_iff.2 hx.ne
  have hc : c ≠ 48 := by
    rcases hy.lead with q | q
    · rw [q] at h; omega
    · simpa using q
  have hd := hy.dig
  simp only [List.all_cons, Bool.and_eq_true] at hd
  have h2 := valL_low (t := t) hd.1 hc
  have h3 : 10 ^ x.length ≤ 10 ^ t.length := Nat.pow_le_pow_right (by decide) (by simp at h; omega)
  omega

theorem bytesLess_val : ∀ (x y : List UInt8), x.length = y.length → x.all isDig = true → y.all isDig = true → (Op.bytesLess x y = true ↔ valL x < valL y)
  | [], [], _, _, _ => by simp [Op.bytesLess, valL]
  | c :: x, d :: y, hl, hx, hy => by
    simp only [List.all_cons, Bool.and_eq_true] at hx hy
    have hl' : x.length = y.length := by simpa using hl
    have ih := bytesLess_val x y hl' hx.2 hy.2
    have h1 := (isDig_iff c).1 hx.1
    have h2 := (isDig_iff d).1 hy.1
    have bx := valL_lt x hx.2
    have by' := valL_lt y hy.2
    rw [valL_cons, valL_cons, ← hl']
    rw [← hl'] at by'
    rw [Op.bytesLess, Bool.or_eq_true, decide_eq_true_eq, Bool.and_eq_true, beq_iff_eq, ih, UInt8.lt_iff_toNat_lt]
    generalize 10 ^ x.length = p at *
    constructor
    · rintro (q | ⟨rfl, q⟩)
      · have : (c.toNat - 48 + 1) * p ≤ (d.toNat - 48) * p := Nat.mul_le_mul_right _ (by omega)
        rw [Nat.add_mul] at this
        omega
      · omega
    · intro q
      by_cases hcd : c.toNat < d.toNat
      · exact .inl hcd
      · by_cases hde : c = d
        · subst hde; exact .inr ⟨rfl, by omega⟩
        · exfalso
          have hne : c.toNat ≠ d.toNat := fun e => hde (UInt8.toNat_inj.1 e)
          have : (d.toNat - 48 + 1) * p ≤ (c.toNat - 48) * p := Nat.mul_le_mul_right _ (by omega)
          rw [Nat.add_mul] at this
          omega

theorem cmp_val {x y : List UInt8} (hx : Fig x) (hy : Fig y) : 0 < cmpL x y ↔ valL y < valL x := by
  unfold cmpL
  by_cases h1 : x.length < y.length
  · rw [if_pos (.inl h1)]
    have := val_shorter hx hy h1
    constructor <;> intro q <;> omega
  · by_cases h2 : x.length = y.length
    · have hb := bytesLess_val x y h2 hx.dig hy.dig
      by_cases h3 : Op.bytesLess x y = true
      · rw [if_pos (.inr ⟨h2, h3⟩)]
        have := hb.1 h3
        constructor <;> intro q <;> omega
      · rw [if_neg (fun q => q.elim h1 (fun q => h3 q.2))]
        have hn : ¬ valL x < valL y := fun q => h3 (hb.2 q)
        by_cases h4 : x = y
        · rw [if_pos h4, h4]; simp
        · rw [if_neg h4]
          have : valL x ≠ valL y := fun e => h4 (by rw [← hx.val, ← hy.val, e])
          constructor <;> intro q <;> omega
    · have := val_shorter hy hx (by omega)
      rw [if_neg (fun q => q.elim h1 (fun q => h2 q.1)), if_neg (fun e => h2 (by rw [e]))]
      constructor <;> intro q <;> omega

theorem cmp_cases (x y : List UInt8) : cmpL x y = -1 ∨ cmpL x y = 0 ∨ cmpL x y = 1 := by
  unfold cmpL
  split
  · exact .inl rfl
  split
  · exact .inr (.inl rfl)
  · exact .inr (.inr rfl)

/-- a range of the document is a span of the program -/
theorem in_span (wi : Bool) (a f lo hi : List UInt8) (hl : Fig lo) (hh : Fig hi) : inB wi a (brk f) lo hi = spanT (valL lo) (valL hi) wi (a, f) := by
  unfold inB spanT cmpT
  dsimp only
  rw [hl.val, hh.val]
  cases brk f <;> cases wi <;> rcases cmp_cases a lo with q | q | q <;> rcases cmp_cases a hi with r | r | r <;> rw [q, r] <;> decide
end Go.Proofs.YtpepgmccbkkaaaaGreatDoor

/- The plain law of rules, fourth part: the program's parser against the document's parting. -/
namespace Go.Proofs.YtpepgmccbkkaaaaGreatDoor
open Go

abbrev wAnd : Wd := [97, 110, 100]
abbrev wOr : Wd := [111, 114]
abbrev wComma : Wd := [44]

/-- what a parser makes of seg ++ rest: it stops just ahead of rest (good), or it fails or stops within seg (bad) -/
def Out {α : Type} (R : Option (α × List Wd)) (seg rest : List Wd) (good : α → Prop) (bad : Prop) : Prop :=
  (∃ a, R = some (a, rest) ∧ good a) ∨ (bad ∧ (R = none ∨ ∃ a h t, h ∈ seg ∧ R = some (a, h :: (t ++ rest))))

theorem Out.imp {α : Type} {R : Option (α × List Wd)} {seg rest : List Wd} {g g' : α → Prop} {b b' : Prop} (h : Out R seg rest g b) (hg : ∀ a, g a → g' a) (hb : b → b') : Out R seg rest g' b' := by
  rcases h with ⟨a, r, q⟩ | ⟨q, r⟩
  · exact .inl ⟨a, r, hg a q⟩
  · exact .inr ⟨hb q, r⟩

theorem Out.wider {α : Type} {R : Option (α × List Wd)} {seg seg' rest : List Wd} {g : α → Prop} {b : Prop} (h : Out R seg rest g b) (hs : ∀ x ∈ seg, x ∈ seg') : Out R seg' rest g b := by
  rcases h with h | ⟨q, r | ⟨a, h, t, hm, r⟩⟩
  · exact .inl h
  · exact .inr ⟨q, .inl r⟩
  · exact .inr ⟨q, .inr ⟨a, h, t, hs h hm, r⟩⟩

theorem Out.map {α β : Type} {R : Option (α × List Wd)} {seg rest : List Wd} {g : α → Prop} {b : Prop} (f : α → β) {g' : β → Prop} (h : Out R seg rest g b) (hg : ∀ a, g a → g' (f a)) :
    Out (R.map fun q => (f q.1, q.2)) seg rest g' b := by
  rcases h with ⟨a, r, q⟩ | ⟨q, r | ⟨a, h, t, hm, r⟩⟩
  · exact .inl ⟨f a, by rw [r]; rfl, hg a q⟩
  · exact .inr ⟨q, .inl (by rw [r]; rfl)⟩
  · exact .inr ⟨q, .inr ⟨f a, h, t, hm, by rw [r]; rfl⟩⟩

/-- what may stand behind a segment -/
def Stop (rest : List Wd) : Prop := ∀ c, rest.head? = some c → c = wAnd ∨ c = wOr
/-- .. behind a range -/
def Stop3 (rest : List Wd) : Prop := ∀ c, rest.head? = some c → c = wComma ∨ c = wAnd ∨ c = wOr

theorem Stop.three {rest : List Wd} (h : Stop rest) : Stop3 rest := fun c hc => .inr (h c hc)

theorem isW_stop {w : Wd} {rest : List Wd} (h : Stop3 rest) (h1 : w ≠ wComma) (h2 : w ≠ wAnd) (h3 : w ≠ wOr) : isW w rest = false := by
  unfold isW
  cases rest with
  | nil => rfl
  | cons c t =>
    have := h c rfl
    simp only [List.head?_cons, beq_eq_false_iff_ne, ne_eq, Option.some.injEq]
    rintro rfl
    rcases this with q | q | q
    · exact h1 q
    · exact h2 q
    · exact h3 q

theorem isW_comma {rest : List Wd} (h : Stop rest) : isW wComma rest = false := by
  unfold isW
  cases rest with
  | nil => rfl
  | cons c t =>
    have := h c rfl
    simp only [List.head?_cons, beq_eq_false_iff_ne, ne_eq, Option.some.injEq]
    rintro rfl
    rcases this with q | q <;> exact absurd q (by decide)

theorem num_stop {rest : List Wd} (h : Stop3 rest) : pNum rest = none := by
  cases rest with
  | nil => rfl
  | cons c t =>
    have := h c rfl
    have : figB c = false := by rcases this with rfl | rfl | rfl <;> decide
    simp [pNum, this]

theorem isW_cons (w c : Wd) (t : List Wd) : isW w (c :: t) = (c == w) := by
  unfold isW
  rw [List.head?_cons, Bool.eq_iff_iff]
  simp

/-! ### parting -/
theorem parts_go_none {m : Wd} : ∀ (s cur : List Wd), m ∉ s → partsGo m cur s = [cur ++ s]
  | [], cur, _ => by simp [partsGo]
  | c :: t, cur, h => by
    have hc : ¬ c = m := fun e => h (by simp [e])
    rw [partsGo, if_neg hc, parts_go_none t _ (fun q => h (by simp [q]))]
    simp
theorem parts_go_cut {m : Wd} (r : List Wd) : ∀ (s cur : List Wd), m ∉ s → partsGo m cur (s ++ m :: r) = (cur ++ s) :: partsGo m [] r
  | [], cur, _ => by simp [partsGo]
  | c :: t, cur, h => by
    have hc : ¬ c = m := fun e => h (by simp [e])
    rw [List.cons_append, partsGo, if_neg hc, parts_go_cut r t _ (fun q => h (by simp [q]))]
    simp
theorem parts_none {m : Wd} {s : List Wd} (h : m ∉ s) : partsL m s = [s] := by
  unfold partsL
  rw [parts_go_none s [] h]
  rfl
theorem parts_cut {m : Wd} {s : List Wd} (r : List Wd) (h : m ∉ s) : partsL m (s ++ m :: r) = s :: partsL m r := by
  unfold partsL
  rw [parts_go_cut r s [] h]
  rfl

/-! ### ranges -/
theorem item_law (s rest : List Wd) (hs : wComma ∉ s) (hr : Stop3 rest) :
    Out (pItem (s ++ rest)) s rest (fun q => ∃ lo hi, oneRange s = some (lo, hi) ∧ Fig lo ∧ Fig hi ∧ q = (valL lo, valL hi)) (oneRange s = none) := by
  have hdots : isW [46, 46] rest = false := isW_stop hr (by decide) (by decide) (by decide)
  match s, hs with
  | [], _ => exact .inr ⟨rfl, .inl (by simp [pItem, num_stop hr])⟩
  | [x], _ =>
    by_cases hx : figB x = true
    · refine .inl ⟨(valL x, valL x), ?_, x, x, by simp [oneRange, hx], (Fig.of hx).1, (Fig.of hx).1, rfl⟩
      simp [pItem, pNum, hx, hdots]
    · exact .inr ⟨by simp [oneRange, hx], .inl (by simp [pItem, pNum, hx])⟩
  | x :: d :: u, hs =>
    by_cases hx : figB x = true
    · by_cases hd : d = [46, 46]
      · subst hd
        have hp : pItem (x :: [46, 46] :: u ++ rest) = match pNum (u ++ rest) with
            | none => none
            | some (b, u) => if b < valL x then none else some ((valL x, b), u) := by
          simp [pItem, pNum, hx, isW_cons] <;> rfl
        rw [hp]
        match u with
        | [] => exact .inr ⟨rfl, .inl (by simp [num_stop hr])⟩
        | [y] =>
          by_cases hy : figB y = true
          · have fx := (Fig.of hx).1
            have fy := (Fig.of hy).1
            have hc := cmp_val fx fy
            by_cases hlt : valL y < valL x
            · refine .inr ⟨?_, .inl (by simp [pNum, hy, hlt])⟩
              have h0 := hc.2 hlt
              simp only [oneRange]
              rw [if_neg (fun q => q.2.2.2 h0)]
            · refine .inl ⟨(valL x, valL y), by simp [pNum, hy, hlt], x, y, ?_, fx, fy, rfl⟩
              have h0 : cmpL x y ≤ 0 := by
                have : ¬ 0 < cmpL x y := fun q => hlt (hc.1 q)
                omega
              simp [oneRange, hx, hy, h0]
          · refine .inr ⟨?_, .inl (by simp [pNum, hy])⟩
            simp only [oneRange]
            rw [if_neg (fun q => hy q.2.2.1)]
        | y :: z :: v =>
          refine .inr ⟨by simp [oneRange], ?_⟩
          by_cases hy : figB y = true
          · by_cases hlt : valL y < valL x
            · exact .inl (by simp [pNum, hy, hlt])
            · exact .inr ⟨(valL x, valL y), z, v, by simp, by simp [pNum, hy, hlt]⟩
          · exact .inl (by simp [pNum, hy])
      · have hone : oneRange (x :: d :: u) = none := by
          match u with
          | [] => rfl
          | [y] => simp only [oneRange]; rw [if_neg (fun q => hd q.1)]
          | y :: z :: v => rfl
        refine .inr ⟨hone, .inr ⟨(valL x, valL x), d, u, by simp, ?_⟩⟩
        simp [pItem, pNum, hx, isW_cons, hd]
    · have hone : oneRange (x :: d :: u) = none := by
        match u with
        | [] => rfl
        | [y] => simp only [oneRange]; rw [if_neg (fun q => hx q.2.1)]
        | y :: z :: v => rfl
      exact .inr ⟨hone, .inl (by simp [pItem, pNum, hx])⟩

/-- a list cut at its first m, or without any -/
theorem first_cut (m : Wd) (l : List Wd) : m ∉ l ∨ ∃ s r, l = s ++ m :: r ∧ m ∉ s := by
  by_cases h : m ∈ l
  · obtain ⟨s, r, h1, h2⟩ := List.eq_append_cons_of_mem h
    exact .inr ⟨s, r, h1, h2⟩
  · exact .inl h

theorem list_law (wi : Bool) : ∀ (n : Nat) (l rest : List Wd) (acc : List Tst), l.length < n → Stop rest →
    Out (pListGo wi n acc (l ++ rest)) l rest (fun ts => ∃ new, ts = acc ++ new ∧ ∀ a f b, listedGo wi a (brk f) (partsL wComma l) b = some (b || new.any (fun t => t (a, f))))
      (∀ a f b, listedGo wi a (brk f) (partsL wComma l) b = none)
  | 0, _, _, _, h, _ => absurd h (Nat.not_lt_zero _)
  | n + 1, l, rest, acc, hl, hr => by
    rcases first_cut wComma l with hc | ⟨s, r, rfl, hs⟩
    · have hi := item_law l rest hc hr.three
      rw [parts_none hc]
      rcases hi with ⟨q, hq, lo, hi, h1, h2, h3, rfl⟩ | ⟨hb, hq | ⟨q, h, t, hm, hq⟩⟩
      · refine .inl ⟨acc ++ [spanT (valL lo) (valL hi) wi], ?_, [spanT (valL lo) (valL hi) wi], rfl, fun a f b => ?_⟩
        · rw [pListGo, hq]; simp [isW_comma hr]
        · simp [listedGo, h1, in_span wi a f lo hi h2 h3]
      · exact .inr ⟨fun a f b => by simp [listedGo, hb], .inl (by rw [pListGo, hq])⟩
      · refine .inr ⟨fun a f b => by simp [listedGo, hb], .inr ⟨acc ++ [spanT q.1 q.2 wi], h, t, hm, ?_⟩⟩
        have hne : ¬ h = wComma := fun e => hc (e ▸ hm)
        rw [pListGo, hq]
        simp [isW_cons, hne]
    · have hi := item_law s (wComma :: (r ++ rest)) hs (fun c hc => .inl (by simpa using hc.symm))
      rw [parts_cut r hs]
      have hap : s ++ wComma :: r ++ rest = s ++ (wComma :: (r ++ rest)) := by simp
      rw [hap]
      rcases hi with ⟨q, hq, lo, hi, h1, h2, h3, rfl⟩ | ⟨hb, hq | ⟨q, h, t, hm, hq⟩⟩
      · have ih := list_law wi n r rest (acc ++ [spanT (valL lo) (valL hi) wi]) (by simp at hl; omega) hr
        have hg : pListGo wi (n + 1) acc (s ++ wComma :: (r ++ rest)) = pListGo wi n (acc ++ [spanT (valL lo) (valL hi) wi]) (r ++ rest) := by
          rw [pListGo, hq]; simp [isW_cons]
        rw [hg]
        refine (ih.imp ?_ ?_).wider (fun x hx => by simp [hx])
        · rintro ts ⟨new, rfl, hn⟩
          refine ⟨spanT (valL lo) (valL hi) wi :: new, by simp, fun a f b => ?_⟩
          rw [listedGo, h1]
          dsimp only
          rw [hn, in_span wi a f lo hi h2 h3, List.any_cons, Bool.or_assoc]
        · intro hn a f b
          rw [listedGo, h1]
          dsimp only
          rw [hn]
      · exact .inr ⟨fun a f b => by rw [listedGo, hb], .inl (by rw [pListGo, hq])⟩
      · refine .inr ⟨fun a f b => by rw [listedGo, hb], .inr ⟨acc ++ [spanT q.1 q.2 wi], h, t ++ wComma :: r, by simp [hm], ?_⟩⟩
        have hne : ¬ h = wComma := fun e => hs (e ▸ hm)
        rw [pListGo, hq]
        simp [isW_cons, hne]

/-- a list behind 'in', '=' .. -/
theorem plist_law (wi : Bool) (l rest : List Wd) (hr : Stop rest) :
    Out (pList wi (l ++ rest)) l rest (fun T => ∀ a f, listedL l a f wi false = some (T (a, f))) (∀ a f, listedL l a f wi false = none) := by
  have h := list_law wi ((l ++ rest).length + 1) l rest [] (by simp; omega) hr
  unfold pList
  refine (h.map someT ?_).imp (fun _ q => q) ?_
  · rintro ts ⟨new, rfl, hn⟩ a f
    unfold listedL
    rw [if_neg (fun q => by cases q.1), hn]
    simp [someT]
  · intro hn a f
    unfold listedL
    rw [if_neg (fun q => by cases q.1), hn]

/-- one number behind 'is' -/
theorem one_law (l rest : List Wd) (hr : Stop rest) :
    Out (pNum (l ++ rest)) l rest (fun v => ∀ a f, listedL l a f false true = some (spanT v v false (a, f))) (∀ a f, listedL l a f false true = none) := by
  match l with
  | [] => exact .inr ⟨fun a f => by simp [listedL, partsL, partsGo], .inl (num_stop hr.three)⟩
  | [x] =>
    by_cases hx : figB x = true
    · have hc : wComma ∉ [x] := by
        intro e
        simp at e
        subst e
        exact absurd hx (by decide)
      refine .inl ⟨valL x, by simp [pNum, hx], fun a f => ?_⟩
      have fx := (Fig.of hx).1
      unfold listedL
      rw [parts_none hc, if_neg (by simp)]
      simp [listedGo, oneRange, hx, in_span false a f x x fx fx]
    · refine .inr ⟨fun a f => ?_, .inl (by simp [pNum, hx])⟩
      unfold listedL
      by_cases hc : wComma ∉ [x]
      · rw [parts_none hc, if_neg (by simp)]
        simp [listedGo, oneRange, hx]
      · have : x = wComma := by simpa [eq_comm] using hc
        subst this
        rw [if_pos ⟨rfl, by decide⟩]
  | x :: y :: u =>
    have hlong : ∀ a f, listedL (x :: y :: u) a f false true = none := by
      intro a f
      unfold listedL
      rw [if_pos]
      refine ⟨rfl, fun q => ?_⟩
      rcases first_cut wComma (x :: y :: u) with hc | ⟨s, r, e, hs⟩
      · rw [parts_none hc] at q
        simp at q
      · rw [e, parts_cut r hs] at q
        have : 0 < (partsL wComma r).length := by
          rcases first_cut wComma r with hc | ⟨s', r', e', hs'⟩
          · rw [parts_none hc]; simp
          · rw [e', parts_cut r' hs']; simp
        have q1 := q.1
        simp only [List.length_cons] at q1
        omega
    refine .inr ⟨hlong, ?_⟩
    by_cases hx : figB x = true
    · exact .inr ⟨valL x, y, u, by simp, by simp [pNum, hx]⟩
    · exact .inl (by simp [pNum, hx])
end Go.Proofs.YtpepgmccbkkaaaaGreatDoor

/- The plain law of rules, fifth part: relations, rows of them, a whole rule. -/
namespace Go.Proofs.YtpepgmccbkkaaaaGreatDoor
open Go

theorem rel_short (l : List Wd) (a f : Wd) (h : l.length < 2) : relTail l a f = none := by
  have hnil : ∀ a f wi one, listedL [] a f wi one = none := by
    intro a f wi one
    unfold listedL
    have : partsL [44] [] = [[]] := rfl
    rw [this]
    split
    · rfl
    · rfl
  match l, h with
  | [], _ => rfl
  | [k], _ =>
    unfold relTail
    have hq : ∀ n, n ≠ 0 → List.drop n [k] = ([] : List Wd) := fun n h => by
      cases n with
      | zero => exact absurd rfl h
      | succ m => simp
    cases hm : mannerL ([k].getD 0 []) ([k].getD 1 []) with
    | mk nt q => cases q with
      | mk wi q => cases q with
        | mk one n =>
          dsimp only
          by_cases h0 : n = 0
          · rw [if_pos h0]
          · rw [if_neg h0, hq n h0, hnil]; rfl

theorem tail_list (u : List Wd) (a f : Wd) (nt wi : Bool) (n : Nat) (hn : n ≠ 0) (one : Bool) (l : List Wd) (h : mannerL (u.getD 0 []) (u.getD 1 []) = (nt, wi, one, n)) (hl : u.drop n = l) :
    relTail u a f = (listedL l a f wi one).map (fun b => b != nt) := by
  unfold relTail
  rw [h]
  dsimp only
  rw [if_neg hn, hl]

/-- the list behind, with what stands ahead of it -/
theorem man_list {u seg rest : List Wd} {wi nt : Bool} {n : Nat} (hn : n ≠ 0) (hm : mannerL (u.getD 0 []) (u.getD 1 []) = (nt, wi, false, n)) (hd : u.drop n = seg) (hsub : ∀ x ∈ seg, x ∈ u) (hr : Stop rest) :
    Out ((pList wi (seg ++ rest)).map fun q => ((q.1, nt), q.2)) u rest (fun (i : Tst × Bool) => ∀ a f, relTail u a f = some (i.1 (a, f) != i.2)) (∀ a f, relTail u a f = none) := by
  refine (((plist_law wi seg rest hr).wider hsub).map (fun T => (T, nt)) ?_).imp (fun _ q => q) ?_
  · intro T hT a f
    rw [tail_list u a f nt wi n hn false seg hm hd, hT]
    rfl
  · intro hT a f
    rw [tail_list u a f nt wi n hn false seg hm hd, hT]
    rfl

theorem man_one {u seg rest : List Wd} {nt : Bool} {n : Nat} (hn : n ≠ 0) (hm : mannerL (u.getD 0 []) (u.getD 1 []) = (nt, false, true, n)) (hd : u.drop n = seg) (hsub : ∀ x ∈ seg, x ∈ u) (hr : Stop rest) :
    Out ((pNum (seg ++ rest)).map fun q => ((spanT q.1 q.1 false, nt), q.2)) u rest (fun (i : Tst × Bool) => ∀ a f, relTail u a f = some (i.1 (a, f) != i.2)) (∀ a f, relTail u a f = none) := by
  refine (((one_law seg rest hr).wider hsub).map (fun v => (spanT v v false, nt)) ?_).imp (fun _ q => q) ?_
  · intro T hT a f
    rw [tail_list u a f nt false n hn true seg hm hd, hT]
    rfl
  · intro hT a f
    rw [tail_list u a f nt false n hn true seg hm hd, hT]
    rfl

theorem man_none {u : List Wd} (h : (mannerL (u.getD 0 []) (u.getD 1 [])).2.2.2 = 0) (a f : Wd) : relTail u a f = none := by
  unfold relTail
  cases hm : mannerL (u.getD 0 []) (u.getD 1 []) with
  | mk nt q => cases q with
    | mk wi q => cases q with
      | mk one n =>
        rw [hm] at h
        dsimp only at h ⊢
        rw [if_pos h]

theorem manner_law (u rest : List Wd) (hr : Stop rest) :
    Out (pManner (u ++ rest)) u rest (fun (i : Tst × Bool) => ∀ a f, relTail u a f = some (i.1 (a, f) != i.2)) (∀ a f, relTail u a f = none) := by
  have s3 := hr.three
  have w1 := isW_stop (w := [61]) s3 (by decide) (by decide) (by decide)
  have w2 := isW_stop (w := [33, 61]) s3 (by decide) (by decide) (by decide)
  have w3 := isW_stop (w := [105, 115]) s3 (by decide) (by decide) (by decide)
  have w4 := isW_stop (w := [110, 111, 116]) s3 (by decide) (by decide) (by decide)
  have w5 := isW_stop (w := [119, 105, 116, 104, 105, 110]) s3 (by decide) (by decide) (by decide)
  have w6 := isW_stop (w := [105, 110]) s3 (by decide) (by decide) (by decide)
  match u with
  | [] =>
    refine .inr ⟨fun a f => man_none (by decide) a f, .inl ?_⟩
    simp [pManner, w1, w2, w3, w4, w5, w6]
  | k :: u' =>
    have g0 : (k :: u').getD 0 [] = k := rfl
    by_cases k1 : k = [61]
    · subst k1
      have e : pManner ([61] :: u' ++ rest) = (pList false (u' ++ rest)).map fun q => ((q.1, false), q.2) := by simp [pManner, isW_cons]
      rw [e]
      exact man_list (n := 1) (by decide) (by simp [mannerL]) (by simp) (fun x h => by simp [h]) hr
    by_cases k2 : k = [33, 61]
    · subst k2
      have e : pManner ([33, 61] :: u' ++ rest) = (pList false (u' ++ rest)).map fun q => ((q.1, true), q.2) := by simp [pManner, isW_cons]
      rw [e]
      exact man_list (n := 1) (by decide) (by simp [mannerL]) (by simp) (fun x h => by simp [h]) hr
    by_cases k3 : k = [105, 110]
    · subst k3
      have e : pManner ([105, 110] :: u' ++ rest) = (pList false (u' ++ rest)).map fun q => ((q.1, false), q.2) := by simp [pManner, isW_cons]
      rw [e]
      exact man_list (n := 1) (by decide) (by simp [mannerL]) (by simp) (fun x h => by simp [h]) hr
    by_cases k4 : k = [119, 105, 116, 104, 105, 110]
    · subst k4
      have e : pManner ([119, 105, 116, 104, 105, 110] :: u' ++ rest) = (pList true (u' ++ rest)).map fun q => ((q.1, false), q.2) := by simp [pManner, isW_cons]
      rw [e]
      exact man_list (n := 1) (by decide) (by simp [mannerL]) (by simp) (fun x h => by simp [h]) hr
    by_cases k5 : k = [105, 115]
    · subst k5
      match u' with
      | [] =>
        have e : pManner ([[105, 115]] ++ rest) = (pNum ([] ++ rest)).map fun q => ((spanT q.1 q.1 false, false), q.2) := by simp [pManner, isW_cons, w4]
        rw [e]
        exact man_one (n := 1) (by decide) (by simp [mannerL]) (by simp) (fun x h => by simp at h) hr
      | z :: v =>
        by_cases kz : z = [110, 111, 116]
        · subst kz
          have e : pManner ([105, 115] :: [110, 111, 116] :: v ++ rest) = (pNum (v ++ rest)).map fun q => ((spanT q.1 q.1 false, true), q.2) := by simp [pManner, isW_cons]
          rw [e]
          exact man_one (n := 2) (by decide) (by simp [mannerL]) (by simp) (fun x h => by simp [h]) hr
        · have kb : (z == [110, 111, 116]) = false := by simpa using kz
          have e : pManner ([105, 115] :: z :: v ++ rest) = (pNum ((z :: v) ++ rest)).map fun q => ((spanT q.1 q.1 false, false), q.2) := by simp [pManner, isW_cons, kb]
          rw [e]
          exact man_one (n := 1) (by decide) (by simp [mannerL, kz]) (by simp) (fun x h => by simp at h; simp [h]) hr
    by_cases k6 : k = [110, 111, 116]
    · subst k6
      match u' with
      | [] =>
        refine .inr ⟨fun a f => man_none (by decide) a f, .inl ?_⟩
        simp [pManner, isW_cons, w5, w6]
      | z :: v =>
        by_cases kz : z = [105, 110]
        · subst kz
          have e : pManner ([110, 111, 116] :: [105, 110] :: v ++ rest) = (pList false (v ++ rest)).map fun q => ((q.1, true), q.2) := by simp [pManner, isW_cons]
          rw [e]
          exact man_list (n := 2) (by decide) (by simp [mannerL]) (by simp) (fun x h => by simp [h]) hr
        by_cases kz2 : z = [119, 105, 116, 104, 105, 110]
        · subst kz2
          have e : pManner ([110, 111, 116] :: [119, 105, 116, 104, 105, 110] :: v ++ rest) = (pList true (v ++ rest)).map fun q => ((q.1, true), q.2) := by simp [pManner, isW_cons]
          rw [e]
          exact man_list (n := 2) (by decide) (by simp [mannerL]) (by simp) (fun x h => by simp [h]) hr
        · refine .inr ⟨fun a f => man_none (by simp [mannerL, kz, kz2]) a f, .inl ?_⟩
          simp [pManner, isW_cons, kz, kz2]
    · refine .inr ⟨fun a f => man_none (by simp [mannerL, k1, k2, k3, k4, k5, k6]) a f, .inl ?_⟩
      simp [pManner, isW_cons, k1, k2, k3, k4, k5, k6]

/-- a number without noughts ahead -/
def Good (x : Dg) : Prop := plainL x.1 = x.1

theorem operand_eq {x : Dg} (h : Good x) (c : Wd) : operandL x.1 x.2 c = (operandF c).map (fun f => f x) := by
  unfold operandL operandF
  split
  · rfl
  split
  · show some (x.1, []) = some (plainL x.1, [])
    rw [show plainL x.1 = x.1 from h]
  split
  · rfl
  split
  · rfl
  split
  · rfl
  split
  · rfl
  · rfl

theorem operand_none_eq {c : Wd} (h : operandF c = none) (x : Dg) : operandL x.1 x.2 c = none := by
  unfold operandF at h
  unfold operandL
  split at h
  · cases h
  split at h
  · cases h
  split at h
  · cases h
  split at h
  · cases h
  split at h
  · cases h
  split at h
  · cases h
  · rename_i h1 h2 h3 h4 h5 h6
    rw [if_neg h1, if_neg h2, if_neg h3, if_neg h4, if_neg h5, if_neg h6]

theorem rel_none_op {s : List Wd} (h : operandF (s.headD []) = none) (x : Dg) : relL s x = none := by
  unfold relL
  rw [operand_none_eq h x]
  split <;> rfl

theorem rel_plain {w : Wd} {t : List Wd} {of : Dg → Dg} (ho : operandF w = some of) (hm : modW (t.headD []) = false) {x : Dg} (hx : Good x) : relL (w :: t) x = relTail t (of x).1 (of x).2 := by
  unfold relL
  have hh : (w :: t).headD [] = w := rfl
  have h1 : (w :: t).getD 1 [] = t.headD [] := by cases t <;> rfl
  rw [hh, operand_eq hx, ho, h1, hm]
  by_cases hl : (w :: t).length < 3
  · rw [if_pos hl, rel_short t _ _ (by simp at hl; omega)]
  · rw [if_neg hl]
    simp

theorem rel_mod {w c m : Wd} {u : List Wd} {of : Dg → Dg} (ho : operandF w = some of) (hm : modW c = true) {x : Dg} (hx : Good x) (hf : figB m = true) (h0 : m ≠ [48]) :
    relL (w :: c :: m :: u) x = relTail u (decL (leftL (of x).1 (valL m))) (of x).2 := by
  unfold relL
  have hh : (w :: c :: m :: u).headD [] = w := rfl
  have h1 : (w :: c :: m :: u).getD 1 [] = c := rfl
  have h2 : (w :: c :: m :: u).getD 2 [] = m := rfl
  rw [hh, operand_eq hx, ho, h1, h2, hm, if_neg (by simp)]
  dsimp only [Option.map_some]
  rw [if_pos rfl]
  by_cases hl : 5 ≤ (w :: c :: m :: u).length
  · rw [if_pos ⟨hf, h0, hl⟩]
    rfl
  · rw [if_neg (fun q => hl q.2.2), rel_short u _ _ (by simp at hl; omega)]

theorem rel_mod_bad {w c : Wd} {t : List Wd} {of : Dg → Dg} (ho : operandF w = some of) (hm : modW c = true) {x : Dg} (hx : Good x) (hb : ¬ (figB (t.headD []) = true ∧ t.headD [] ≠ [48])) :
    relL (w :: c :: t) x = none := by
  unfold relL
  have hh : (w :: c :: t).headD [] = w := rfl
  have h1 : (w :: c :: t).getD 1 [] = c := rfl
  have h2 : (w :: c :: t).getD 2 [] = t.headD [] := by cases t <;> rfl
  rw [hh, operand_eq hx, ho, h1, h2, hm]
  split
  · rfl
  · dsimp only [Option.map_some]
    rw [if_pos rfl, if_neg (fun q => hb ⟨q.1, q.2.1⟩)]

theorem val_zero {m : Wd} (h : figB m = true) : valL m = 0 ↔ m = [48] := by
  have hf := (Fig.of h).1
  constructor
  · intro e
    have := hf.val
    rw [e] at this
    rw [← this, decL_small (by decide)]
    rfl
  · rintro rfl
    rfl

theorem modW_stop {rest : List Wd} (h : Stop rest) : modW (rest.headD []) = false := by
  cases rest with
  | nil => rfl
  | cons c t =>
    rcases h c rfl with rfl | rfl <;> rfl

/-- the end of a relation -/
theorem rel_done {u rest seg : List Wd} {of' : Dg → Dg} (hr : Stop rest) (hsub : ∀ x ∈ u, x ∈ seg) (hrel : ∀ x, Good x → relL seg x = relTail u (of' x).1 (of' x).2) :
    Out (match pManner (u ++ rest) with
        | none => none
        | some ((i, nt), v) => some ((fun x => i (of' x) != nt), v)) seg rest (fun T => ∀ x, Good x → relL seg x = some (T x)) (∀ x, Good x → relL seg x = none) := by
  rcases (manner_law u rest hr) with ⟨⟨i, nt⟩, hq, hg⟩ | ⟨hb, hq | ⟨⟨i, nt⟩, h, t, hm, hq⟩⟩
  · refine .inl ⟨_, by rw [hq], fun x hx => ?_⟩
    rw [hrel x hx, hg]
  · exact .inr ⟨fun x hx => by rw [hrel x hx, hb], .inl (by rw [hq])⟩
  · exact .inr ⟨fun x hx => by rw [hrel x hx, hb], .inr ⟨_, h, t, hsub h hm, by rw [hq]⟩⟩

theorem rel_law (s rest : List Wd) (hr : Stop rest) :
    Out (pRel (s ++ rest)) s rest (fun T => ∀ x, Good x → relL s x = some (T x)) (∀ x, Good x → relL s x = none) := by
  match s with
  | [] =>
    refine .inr ⟨fun x _ => rfl, .inl ?_⟩
    cases rest with
    | nil => rfl
    | cons c t =>
      have : operandF c = none := by rcases hr c rfl with rfl | rfl <;> decide
      simp [pRel, this]
  | w :: t =>
    cases ho : operandF w with
    | none => exact .inr ⟨fun x _ => rel_none_op (s := w :: t) ho x, .inl (by simp [pRel, ho])⟩
    | some of =>
      have hp : pRel (w :: t ++ rest) = match pMod of (t ++ rest) with
          | none => none
          | some (of', u) => match pManner u with
            | none => none
            | some ((i, nt), v) => some ((fun x => i (of' x) != nt), v) := by
        rw [List.cons_append, pRel, ho] <;> rfl
      rw [hp]
      match t with
      | [] =>
        have : pMod of ([] ++ rest) = some (of, [] ++ rest) := by unfold pMod; rw [List.nil_append, modW_stop hr]; rfl
        rw [this]
        exact rel_done hr (fun x h => by simp at h) (fun x hx => rel_plain ho rfl hx)
      | c :: t' =>
        by_cases hc : modW c = true
        · have hpm : pMod of (c :: t' ++ rest) = match pNum (t' ++ rest) with
              | none => none
              | some (m, u) => if m = 0 then none else some (modF of m, u) := by
            unfold pMod
            rw [show ((c :: t' ++ rest).headD []) = c from rfl, hc, if_pos rfl]
            rfl
          rw [hpm]
          match t' with
          | [] =>
            rw [List.nil_append, num_stop hr.three]
            exact .inr ⟨fun x hx => rel_mod_bad ho hc hx (by decide), .inl rfl⟩
          | m :: u =>
            by_cases hf : figB m = true
            · have hn : pNum (m :: u ++ rest) = some (valL m, u ++ rest) := by simp [pNum, hf]
              rw [hn]
              dsimp only
              by_cases h0 : m = [48]
              · rw [if_pos ((val_zero hf).2 h0)]
                exact .inr ⟨fun x hx => rel_mod_bad ho hc hx (fun q => q.2 h0), .inl rfl⟩
              · rw [if_neg (fun e => h0 ((val_zero hf).1 e))]
                exact rel_done hr (fun x h => by simp [h]) (fun x hx => rel_mod ho hc hx hf h0)
            · have hn : pNum (m :: u ++ rest) = none := by simp [pNum, hf]
              rw [hn]
              exact .inr ⟨fun x hx => rel_mod_bad ho hc hx (fun q => hf q.1), .inl rfl⟩
        · have hc' : modW c = false := by simpa using hc
          have hpm : pMod of (c :: t' ++ rest) = some (of, c :: t' ++ rest) := by
            unfold pMod
            rw [show ((c :: t' ++ rest).headD []) = c from rfl, hc']
            rfl
          rw [hpm]
          exact rel_done hr (fun x h => by simp at h; simp [h]) (fun x hx => rel_plain (t := c :: t') ho hc' hx)

/-! ### rows -/
def rowEv (c : Bool → Bool → Bool) (ev : List Wd → Dg → Option Bool) (x : Dg) : List (List Wd) → Bool → Option Bool
  | [], b => some b
  | s :: t, b => match ev s x with
    | none => none
    | some h => rowEv c ev x t (c b h)

theorem row_law (m : Wd) (stop : Wd → Prop) (one : Parser) (ev : List Wd → Dg → Option Bool) (c : Bool → Bool → Bool)
    (hone : ∀ s rest, m ∉ s → (∀ w ∈ s, ¬ stop w) → (∀ w, rest.head? = some w → w = m ∨ stop w) → Out (one (s ++ rest)) s rest (fun T => ∀ x, Good x → ev s x = some (T x)) (∀ x, Good x → ev s x = none)) (hm : ¬ stop m) :
    ∀ (n : Nat) (seg rest : List Wd) (acc : List Tst), seg.length < n → (∀ w ∈ seg, ¬ stop w) → (∀ w, rest.head? = some w → stop w) →
      Out (pRowGo m one n acc (seg ++ rest)) seg rest (fun ts => ∃ new, ts = acc ++ new ∧ ∀ x, Good x → ∀ b, rowEv c ev x (partsL m seg) b = some (new.foldl (fun b T => c b (T x)) b))
        (∀ x, Good x → ∀ b, rowEv c ev x (partsL m seg) b = none)
  | 0, _, _, _, h, _, _ => absurd h (Nat.not_lt_zero _)
  | n + 1, seg, rest, acc, hl, hs, hr => by
    have hrest : isW m rest = false := by
      cases rest with
      | nil => rfl
      | cons w t =>
        rw [isW_cons, beq_eq_false_iff_ne]
        rintro rfl
        exact hm (hr w rfl)
    rcases first_cut m seg with hc | ⟨s, r, rfl, hms⟩
    · rw [parts_none hc]
      rcases hone seg rest hc hs (fun w hw => .inr (hr w hw)) with ⟨T, hq, hg⟩ | ⟨hb, hq | ⟨T, h, t, hmem, hq⟩⟩
      · refine .inl ⟨acc ++ [T], by rw [pRowGo, hq]; simp [hrest], [T], rfl, fun x hx b => ?_⟩
        rw [rowEv, hg x hx]
        rfl
      · exact .inr ⟨fun x hx b => by rw [rowEv, hb x hx], .inl (by rw [pRowGo, hq])⟩
      · refine .inr ⟨fun x hx b => by rw [rowEv, hb x hx], .inr ⟨acc ++ [T], h, t, hmem, ?_⟩⟩
        have hne : ¬ h = m := fun e => hc (e ▸ hmem)
        rw [pRowGo, hq]
        simp [isW_cons, hne]
    · rw [parts_cut r hms]
      have hap : s ++ m :: r ++ rest = s ++ (m :: (r ++ rest)) := by simp
      rw [hap]
      rcases hone s (m :: (r ++ rest)) hms (fun w hw => hs w (by simp [hw])) (fun w hw => .inl (by simpa using hw.symm)) with ⟨T, hq, hg⟩ | ⟨hb, hq | ⟨T, h, t, hmem, hq⟩⟩
      · have ih := row_law m stop one ev c hone hm n r rest (acc ++ [T]) (by simp at hl; omega) (fun w hw => hs w (by simp [hw])) hr
        have hg2 : pRowGo m one (n + 1) acc (s ++ m :: (r ++ rest)) = pRowGo m one n (acc ++ [T]) (r ++ rest) := by
          rw [pRowGo, hq]; simp [isW_cons]
        rw [hg2]
        refine (ih.imp ?_ ?_).wider (fun x hx => by simp [hx])
        · rintro ts ⟨new, rfl, hn⟩
          refine ⟨T :: new, by simp, fun x hx b => ?_⟩
          rw [rowEv, hg x hx]
          dsimp only
          rw [hn x hx]
          rfl
        · intro hn x hx b
          rw [rowEv, hg x hx]
          dsimp only
          rw [hn x hx]
      · exact .inr ⟨fun x hx b => by rw [rowEv, hb x hx], .inl (by rw [pRowGo, hq])⟩
      · refine .inr ⟨fun x hx b => by rw [rowEv, hb x hx], .inr ⟨acc ++ [T], h, t ++ m :: r, by simp [hmem], ?_⟩⟩
        have hne : ¬ h = m := fun e => hms (e ▸ hmem)
        rw [pRowGo, hq]
        simp [isW_cons, hne]

theorem fold_and (x : Dg) : ∀ (l : List Tst) (b : Bool), l.foldl (fun b T => b && T x) b = (b && allT l x)
  | [], b => by simp [allT]
  | T :: l, b => by rw [List.foldl_cons, fold_and x l]; simp [allT, Bool.and_assoc]
theorem fold_or (x : Dg) : ∀ (l : List Tst) (b : Bool), l.foldl (fun b T => b || T x) b = (b || someT l x)
  | [], b => by simp [someT]
  | T :: l, b => by rw [List.foldl_cons, fold_or x l]; simp [someT, Bool.or_assoc]

theorem ands_row (x : Dg) : ∀ (l : List (List Wd)) (b : Bool), andsGo x l b = rowEv (fun a b => a && b) relL x l b
  | [], b => rfl
  | s :: t, b => by
    rw [andsGo, rowEv]
    cases relL s x with
    | none => rfl
    | some h => exact ands_row x t _
def andL (o : List Wd) (x : Dg) : Option Bool := andsGo x (partsL wAnd o) true
theorem ors_row (x : Dg) : ∀ (l : List (List Wd)) (b : Bool), orsGo x l b = rowEv (fun a b => a || b) andL x l b
  | [], b => rfl
  | s :: t, b => by
    rw [orsGo, rowEv]
    show _ = match andL s x with | none => none | some h => _
    unfold andL
    cases andsGo x (partsL [97, 110, 100] s) true with
    | none => rfl
    | some h => exact ors_row x t _

theorem and_law (o rest : List Wd) (hs : ∀ w ∈ o, ¬ w = wOr) (hr : ∀ w, rest.head? = some w → w = wOr) :
    Out (pAnd (o ++ rest)) o rest (fun T => ∀ x, Good x → andL o x = some (T x)) (∀ x, Good x → andL o x = none) := by
  have h := row_law wAnd (fun w => w = wOr) pRel relL (fun a b => a && b) (fun s rest _ _ h => rel_law s rest h) (by decide) ((o ++ rest).length + 1) o rest [] (by simp; omega) hs hr
  unfold pAnd pRow
  refine (h.map allT ?_).imp (fun _ q => q) ?_
  · rintro ts ⟨new, rfl, hn⟩ x hx
    unfold andL
    rw [ands_row, hn x hx, fold_and]
    simp
  · intro hn x hx
    unfold andL
    rw [ands_row, hn x hx]

theorem or_law (ws : List Wd) : Out (pOr ws) ws [] (fun T => ∀ x, Good x → orsGo x (partsL wOr ws) false = some (T x)) (∀ x, Good x → orsGo x (partsL wOr ws) false = none) := by
  have h := row_law wOr (fun _ => False) pAnd andL (fun a b => a || b) (fun s rest hm _ h => and_law s rest (fun w hw e => hm (e ▸ hw)) (fun w hw => (h w hw).elim id False.elim)) (fun q => q) (ws.length + 1) ws [] [] (by omega) (fun _ _ q => q) (fun w hw => by cases hw)
  rw [List.append_nil] at h
  unfold pOr pRow
  refine (h.map someT ?_).imp (fun _ q => q) ?_
  · rintro ts ⟨new, rfl, hn⟩ x hx
    rw [ors_row, hn x hx, fold_or]
    simp
  · intro hn x hx
    rw [ors_row, hn x hx]

/-- THE LAW: the test that the program makes of a rule's text says of each number what the document says; and it makes none just where the document has none -/
theorem cond_law (s : List UInt8) {x : Dg} (hx : Good x) : holdsL s x = (condL s).map (fun T => T x) := by
  unfold holdsL condL
  by_cases h : 200 < s.length
  · rw [if_pos h, if_pos h]; rfl
  · rw [if_neg h, if_neg h, tokL_eq]
    cases wordsL s with
    | none => rfl
    | some ws =>
      dsimp only
      rcases or_law ws with ⟨T, hq, hg⟩ | ⟨hb, hq | ⟨T, h, t, hm, hq⟩⟩
      · rw [hq, hg x hx]; rfl
      · rw [hq, hb x hx]; rfl
      · rw [hq, hb x hx]; rfl
end Go.Proofs.YtpepgmccbkkaaaaGreatDoor

/- The document's rules: the place of a word in a list. -/
namespace Go.Proofs.YtpepgmccbkkaaaaGreatDoor
open Go Go.RowKit
set_option maxRecDepth 10000

/-- the place of a word; -1: none -/
def placeL (l : List (List UInt8)) (x : List UInt8) : Int := if l.idxOf x < l.length then (l.idxOf x : Int) else -1

theorem place_here {l : List (List UInt8)} {x : List UInt8} {k : Nat} (hk : k < l.length) (h : x ∉ l.take k) (hx : l[k] = x) : placeL l x = k := by
  have e : l.idxOf x = k := by
    have hs : l = l.take k ++ l[k] :: l.drop (k + 1) := by rw [← List.drop_eq_getElem_cons hk, List.take_append_drop]
    have h2 := congrArg (List.idxOf x) hs
    rw [List.idxOf_append, if_neg h, List.idxOf_cons, hx] at h2
    rw [h2]
    simp
    omega
  unfold placeL
  rw [e, if_pos hk]

theorem place_none {l : List (List UInt8)} {x : List UInt8} (h : x ∉ l) : placeL l x = -1 := by
  unfold placeL
  rw [if_neg (by rw [List.idxOf_lt_length_iff]; exact h)]

theorem place_mem {l : List (List UInt8)} {x : List UInt8} : 0 ≤ placeL l x ↔ x ∈ l := by
  unfold placeL
  rw [← List.idxOf_lt_length_iff]
  split <;> simp_all

set_option maxHeartbeats 1000000 in
theorem place_any (v : Value) (ws : List (List UInt8)) (m : ByteArray) (w : World) (h : StrsAt w v ws) (hw : ws.length ≤ 1000000) :
    Calls Tryz.prog 31 #[v, .string m] w fun e w' => e = .returned (.int .i64 (placeL ws m.data.toList)) ∧ w = w' := by
  obtain ⟨a, cap, rfl, hl, hm, h0, hc⟩ := h
  have HC := Lib.hid hc
  clear hc
  obtain ⟨n, hn⟩ : ∃ n, ws.length = n := ⟨_, rfl⟩
  have HN := Lib.hid hn
  rw [hn] at hl hw ⊢
  clear hn
  obtain ⟨R, hR⟩ : ∃ R, placeL ws m.data.toList = R := ⟨_, rfl⟩
  rw [hR]
  have HR := Lib.hid hR
  clear hR
  go_enter Tryz.func31, Tryz.ntmps31
  go_wp2
  go_loop [5] (fun i => ∃ k : Nat, k ≤ n ∧ i = .int .i64 k ∧ m.data.toList ∉ ws.take k) (fun i => n - (intOf i).toNat)
  case atStart => exact ⟨0, Nat.zero_le _, rfl, by simp⟩
  case round =>
    obtain ⟨k, hk, rfl, hnot⟩ := hrel
    have HNOT := Lib.hid hnot
    clear hnot
    by_cases hlt : k < n
    · obtain ⟨y, rfl, hcy⟩ := HC.out k (by rw [HN.out]; exact hlt)
      by_cases hq : ws[k]'(by rw [HN.out]; exact hlt) = m.data.toList
      · have hq' : (ws[k]'(by rw [HN.out]; exact hlt) == m.toList) = true := by rw [toList_at, hq]; simp
        have HF := Lib.hid (show R = (k : Int) from HR.out ▸ place_here (by rw [HN.out]; exact hlt) HNOT.out hq)
        clear hq
        go_wp2
        go_ret
        exact ⟨by rw [HF.out]; rfl, rfl⟩
      · have hq' : (ws[k]'(by rw [HN.out]; exact hlt) == m.toList) = false := by rw [toList_at]; simpa using hq
        have HF := Lib.hid (show m.data.toList ∉ ws.take (k + 1) by
          rw [List.take_succ_eq_append_getElem (by rw [HN.out]; exact hlt), List.mem_append]
          rintro (q | q)
          · exact HNOT.out q
          · simp at q; exact hq q.symm)
        clear hq
        go_wp2
        go_round
        case rel => exact ⟨k + 1, by omega, by go_num, HF.out⟩
        case measure => simp [intOf]; omega
    · obtain rfl : k = n := by omega
      have hnn := HNOT.out
      rw [List.take_of_length_le (by rw [HN.out]; exact Nat.le_refl _)] at hnn
      have HF := Lib.hid (show R = -1 from HR.out ▸ place_none hnn)
      clear hnn
      go_wp2
      go_ret
      exact ⟨by rw [HF.out]; rfl, rfl⟩
end Go.Proofs.YtpepgmccbkkaaaaGreatDoor
