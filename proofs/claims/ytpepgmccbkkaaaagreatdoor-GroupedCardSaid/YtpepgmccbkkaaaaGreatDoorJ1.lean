import Derived.Test.YtpepgmccbkkaaaaGreatDoorProg
import Derived.WalkKit
import Derived.WalkLawsBesides
import Derived.WalkSpells
import Derived.Deep.QuietTactic
import Derived.BigQuiet
import Derived.Lib.Hide
import Derived.LaidEql
import Derived.Stop.Asserts
import Derived.RowKitTokens
import Derived.Laws.IdiomStrings
import Derived.OwnWalk
import Derived.Deep.RegionHeld
import Derived.Deep.DeepAppendRoom
import Derived.Test.YtpepgmccbkkaaaaGreatDoorShelf
import Derived.Deep.RegionHeld3

/- Base: what all my texts import, and small lemmas on bytes and lists. -/
namespace Go.Proofs.YtpepgmccbkkaaaaGreatDoor
open Go Go.RowKit

/-- a byte that is a digit -/
def isDig (c : UInt8) : Bool := 48 ≤ c && c ≤ 57

theorem ret_val {a b : Value} (h : a = b) : Ending.returned a = .returned b := by rw [h]

theorem getElem_toList (s : ByteArray) (k : Nat) (h : k < s.size) : s.data.toList[k]'(by simpa using h) = s[k] := by
  simp [ByteArray.getElem_eq_getElem_data]

theorem size_toList (s : ByteArray) : s.data.toList.length = s.size := by simp

theorem take_all (s : ByteArray) : s.data.toList.take s.size = s.data.toList := List.take_of_length_le (by simp)

theorem take_snoc (s : ByteArray) (k : Nat) (h : k < s.size) : s.data.toList.take (k + 1) = s.data.toList.take k ++ [s[k]] := by
  rw [List.take_succ_eq_append_getElem (by simpa using h), getElem_toList s k h]

theorem isDig_iff (c : UInt8) : isDig c = true ↔ (48 : Int) ≤ (c.toNat : Int) ∧ (c.toNat : Int) ≤ 57 := by
  simp [isDig, UInt8.le_iff_toNat_le]; omega

theorem isDig_false (c : UInt8) : isDig c = false ↔ ((c.toNat : Int) < 48 ∨ (57 : Int) < (c.toNat : Int)) := by
  rw [← Bool.not_eq_true, isDig_iff]; omega

theorem all_snoc {p : UInt8 → Bool} {l : List UInt8} {c : UInt8} (h : l.all p = true) (hc : p c = true) : (l ++ [c]).all p = true := by
  simp [List.all_append, h, hc]

theorem all_false_of {p : UInt8 → Bool} (s : ByteArray) (k : Nat) (hk : k < s.size) (hc : p s[k] = false) : s.data.toList.all p = false := by
  rw [List.all_eq_false]
  exact ⟨s[k], by rw [← getElem_toList s k hk]; exact List.getElem_mem _, by simp [hc]⟩

theorem isEmpty_toList (s : ByteArray) : s.data.toList.isEmpty = decide (s.size = 0) := by
  rw [Bool.eq_iff_iff, List.isEmpty_iff_length_eq_zero]; simp

/-- a piece of a text, as a list of bytes -/
theorem extract_eq (s : ByteArray) (a b : Nat) : s.extract a b = ⟨((s.data.toList.drop a).take (b - a)).toArray⟩ := by
  apply ByteArray.ext
  apply Array.ext'
  simp [ByteArray.data_extract]

theorem extract_take (s : ByteArray) (b : Nat) : s.extract 0 b = ⟨(s.data.toList.take b).toArray⟩ := by
  rw [extract_eq]; simp

theorem extract_drop (s : ByteArray) (a : Nat) : s.extract a s.size = ⟨(s.data.toList.drop a).toArray⟩ := by
  rw [extract_eq, List.take_of_length_le (by simp)]

theorem toNat_beq (a b : UInt8) : ((a.toNat : Int) == (b.toNat : Int)) = decide (a = b) := by
  rw [Bool.eq_iff_iff, beq_iff_eq, decide_eq_true_eq]
  constructor
  · intro h; exact UInt8.toNat_inj.1 (by omega)
  · intro h; rw [h]

/-- the digit of a number below ten -/
def dchar (d : Nat) : UInt8 := UInt8.ofNat (48 + d)

theorem digits_extract (d : Nat) (h : d < 10) : (ByteArray.mk #[48, 49, 50, 51, 52, 53, 54, 55, 56, 57]).extract d (d + 1) = ⟨[dchar d].toArray⟩ := by
  match d, h with
  | 0, _ => rfl
  | 1, _ => rfl
  | 2, _ => rfl
  | 3, _ => rfl
  | 4, _ => rfl
  | 5, _ => rfl
  | 6, _ => rfl
  | 7, _ => rfl
  | 8, _ => rfl
  | 9, _ => rfl

/-- a whole number's digits -/
def decL (n : Nat) : List UInt8 := if n < 10 then [dchar n] else decL (n / 10) ++ [dchar (n % 10)]
  termination_by n
  decreasing_by omega

theorem decL_small {n : Nat} (h : n < 10) : decL n = [dchar n] := by rw [decL, if_pos h]
theorem decL_big {n : Nat} (h : ¬ n < 10) : decL n = decL (n / 10) ++ [dchar (n % 10)] := by rw [decL, if_neg h]

theorem decL_length (n : Nat) : (decL n).length ≤ n + 1 := by
  induction n using Nat.strongRecOn with
  | _ n ih =>
    by_cases h : n < 10
    · rw [decL_small h]; simp
    · rw [decL_big h]; have := ih (n / 10) (by omega); simp; omega

theorem size_mk (l : List UInt8) : (ByteArray.mk l.toArray).size = l.length := by simp [ByteArray.size]
theorem mk_toList (s : ByteArray) : ByteArray.mk s.data.toList.toArray = s := by simp
theorem toList_mk (l : List UInt8) : (ByteArray.mk l.toArray).data.toList = l := by simp
theorem append_mk (a b : List UInt8) : ByteArray.mk a.toArray ++ ByteArray.mk b.toArray = ByteArray.mk (a ++ b).toArray := by
  apply ByteArray.ext; simp [ByteArray.data_append]
theorem mk_append (s : ByteArray) (b : List UInt8) : s ++ ByteArray.mk b.toArray = ByteArray.mk (s.data.toList ++ b).toArray := by
  apply ByteArray.ext; simp [ByteArray.data_append]
theorem append_eq (s t : ByteArray) : s ++ t = ByteArray.mk (s.data.toList ++ t.data.toList).toArray := by
  apply ByteArray.ext; simp [ByteArray.data_append]

/-- what the program's tables say of a slice type t over elements of type e -/
structure Elem (P : Program) (t e : TypeId) (z : Value) (size bytes : Nat) : Prop where
  under : P.underlying t = some (.slice e)
  info : ∃ i, P.info? e = some i ∧ i.zero = some z ∧ i.size = size ∧ i.bytes = bytes
  zsize : z.cells.size = size
  pos : 0 < size
  small : bytes ≤ 4096

/-- append of a row's cells behind a row of the call's own -/
theorem app_own {P : Program} {t e : TypeId} {z : Value} {size bytes : Nat} (E : Elem P t e z size bytes) {w : World} {ops : Array Oper} {rest : List Oper} {o : Oper} {a : Act} {Q : Exit → Act → World → Prop}
    (hgd : o.guard = none) (s x : Operand) (ho : o.op = .call { callee := .builtin .append, args := #[s, x], argTypes := #[t, t] })
    (base : Nat) (v : Value) (n : Nat) (xs : List Value) (hs : a.eval s = v) (hown : w.ownsRow base e size v n xs)
    (ad : Addr) (m c : Nat) (news : List Value) (hx : a.eval x = .slice (some ad) m c) (hl : news.length = m * size) (hnews : ∀ j u, news[j]? = some u → w.cell? (ad.add j) = some u) (h1 : ∀ u ∈ news, u.oneCell' = true)
    (h31 : n + m ≤ 2147483648) (hbase : base ≤ w.heap.size)
    (h : ∀ v' w', w'.ownsRow base e size v' (n + m) (xs ++ news) → w.grownBy w' v.ownBlock → wpList P ops Q rest (a.put o.dst v') w') : wpList P ops Q (o :: rest) a w := by
  obtain ⟨i, hi, hz, h2, h3⟩ := E.info
  have hs4 := E.small
  refine wpList_append_own w hgd s x t ho base e i z size bytes E.under hi hz h2 h3 E.zsize E.pos v n xs hs hown ad m c news hx hl hnews h1 (by unfold maxLen; omega) ?_ hbase (fun v' w' a b _ => h v' w' a b)
  exact Nat.le_trans (Nat.mul_le_mul h31 hs4) (by decide)

theorem cells_one {w : World} {b : Nat} {u : Value} (h : w.cell? ⟨b, 0, none⟩ = some u) : ∀ j x, [u][j]? = some x → w.cell? ((⟨b, 0, none⟩ : Addr).add j) = some x := by
  intro j x hx
  match j, hx with
  | 0, hx => simp at hx; subst hx; exact h

theorem elem_strs : Elem Tryz.prog 35 9 (.string ⟨#[]⟩) 1 16 :=
  ⟨Tryz.underlying35, info_parts (by kernel_rfl), rfl, by decide, by decide⟩

/-- a text as a cell -/
abbrev strv (l : List UInt8) : Value := .string ⟨l.toArray⟩

theorem grown_refl (w : World) (row : Option Nat) : w.grownBy w row := ⟨rfl, rfl, rfl, Nat.le_refl _, fun _ _ _ => rfl⟩

theorem own_slice {w : World} {base size n : Nat} {e : TypeId} {v : Value} {xs : List Value} (h : w.ownsRow base e size v n xs) : ∃ a cap, v = .slice a n cap := by
  rcases h.2 with ⟨hv, hn⟩ | ⟨g, cap, _, hv, _⟩
  · exact ⟨none, 0, by rw [hv, hn]⟩
  · exact ⟨_, cap, hv⟩

theorem own_some {w : World} {base size n : Nat} {e : TypeId} {v : Value} {xs : List Value} (h : w.ownsRow base e size v n xs) (hn : 0 < n) :
    ∃ g cap, v = .slice (some ⟨g, 0, none⟩) n cap ∧ base ≤ g ∧ g < w.heap.size ∧ ∀ j, j < n * size → w.cell? ⟨g, j, none⟩ = xs[j]? := by
  have hlt := h.lt
  rcases h.2 with ⟨_, h0⟩ | ⟨g, cap, cur, hv, hg, hh, _, _, _, ht⟩
  · omega
  · subst hv
    exact ⟨g, cap, rfl, hg, (hlt g rfl).2, fun j hj => h.cellAt j hj⟩
end Go.Proofs.YtpepgmccbkkaaaaGreatDoor

/- Base2: lemmas that give a goal's world a name, and facts on worlds. -/
namespace Go.Proofs.YtpepgmccbkkaaaaGreatDoor
open Go Go.RowKit

/-- the world of a goal under a name -/
theorem wp_gen {P : Program} {c : Code} {Q : Exit → Act → World → Prop} {a : Act} {w : World} (h : ∀ W, W = w → Code.wp P c Q a W) : Code.wp P c Q a w := h w rfl
theorem calls_gen {P : Program} {f : FuncId} {args : Array Value} {R : Ending → World → Prop} {w : World} (h : ∀ W, W = w → Calls P f args W R) : Calls P f args w R := h w rfl
theorem list_gen {P : Program} {ops : Array Oper} {Q : Exit → Act → World → Prop} {l : List Oper} {a : Act} {w : World} (h : ∀ W, W = w → wpList P ops Q l a W) : wpList P ops Q l a w := h w rfl

theorem body_id {P : Program} {fn : Func} {R : Ending → World → Prop} {e : Exit} {a : Act} {w : World} (h : bodyPost P fn R e a w) : bodyPost P fn R e a w := h

theorem below_drewN {B : Nat} {a w : World} (h : Below B a w) (n : Nat) : Below B a (w.drewN n) := ⟨h.os, h.tape, h.output, h.size, h.block⟩

/-- a cell behind a store: decided by the addresses alone -/
theorem cellSet (w : World) (a b : Addr) (v : Value) : (w.setCell a v).cell? b = if a = b then (w.cell? b).map (fun _ => v) else w.cell? b := by
  split
  next h =>
    subst h
    cases hc : w.cell? a with
    | some u =>
      rw [World.cell?_setCell_same (h := hc)]
      rfl
    | none =>
      cases hd : (w.setCell a v).cell? a with
      | none => rfl
      | some u =>
        exfalso
        unfold World.cell? World.setCell at hd
        unfold World.cell? at hc
        simp only [Array.getElem?_modify, if_true] at hd
        cases hh : w.heap[a.block]? with
        | none => simp [hh] at hd
        | some o =>
          simp only [hh] at hc
          simp only [hh, Option.map_some] at hd
          cases o <;> simp_all
  next h => exact World.cell?_setCell_other (h := h) ..

theorem addr_add (a : Addr) (j : Nat) : (a.add j).block = a.block := by
  unfold Addr.add
  split <;> rfl
theorem addr_add0 (g j : Nat) : (⟨g, 0, none⟩ : Addr).add j = ⟨g, j, none⟩ := by
  unfold Addr.add
  split
  · simp_all
  · simp
end Go.Proofs.YtpepgmccbkkaaaaGreatDoor

/- errors.As at the program's two kinds of errors, and at its two targets (after the kit's worked text ToyasAs). -/
namespace Go.Proofs.YtpepgmccbkkaaaaGreatDoor
open Go Go.RowKit Go.Extern.Stop Go.Stop Go.Extern
set_option maxRecDepth 10000

/-- a type's handle -/
abbrev hdl (t : Nat) : Value := .pointer (some ⟨10, t, none⟩)

theorem as_nil (t : Value) (w : World) : Calls Tryz.prog 29 #[.nilIface, t] w fun e w' => e = .returned (.bool false) ∧ w = w' := by
  go_enter Tryz.func29, Tryz.ntmps29
  go_wp2
  go_ret
  exact ⟨rfl, rfl⟩

theorem rlm (z : Sem Value) (f : TypeId → Addr → Nat → Nat → Sem Value) (v : Value) :
    ReflectliteValue.method z f #[v] = (do match ← ReflectliteValue.parts v with | none => z | some (t, a, fl) => f t a fl (fl % 32)) := rfl
theorem rls (v x : Value) : ReflectliteValue.set #[v, x] = (do
    let (some (dst, a, fl), some (src, b, _)) := (← ReflectliteValue.parts v, ← ReflectliteValue.parts x)
      | unsupported (.noEntry "extern/(internal/reflectlite.Value).Set.zeroValue")
    if fl / ReflectliteValue.flagAddr % 2 == 0 then unsupported (.noEntry "extern/(internal/reflectlite.Value).Set.unaddressable")
    let val ← loadVar src b
    if ← Rtype.directlyAssignable dst src then storeVar dst a val
    else if ← Rtype.implements dst src then
      if (← Rtype.kind src) == 20 then
        match val with
        | .nilIface => unsupported (.noEntry "extern/reflectlite: a nil value of one interface type handed on as a value of another")
        | _ => storeVar dst a val
      else storeVar dst a (.iface src val)
    else panicString ("reflectlite.Set: value of type " ++ (← Rtype.spelt src) ++ " is not assignable to type " ++ (← Rtype.spelt dst))
    pure (.tuple #[])) := rfl


theorem methodKind (h : Value) (w : World) : (Go.method 367 132 (.agg #[h]) "Kind").run Tryz.prog w = .ok (176, h) w := by kernel_rfl
theorem methodElem (h : Value) (w : World) : (Go.method 367 132 (.agg #[h]) "Elem").run Tryz.prog w = .ok (191, .agg #[h]) w := by kernel_rfl
theorem methodImplements (h : Value) (w : World) : (Go.method 367 132 (.agg #[h]) "Implements").run Tryz.prog w = .ok (192, .agg #[h]) w := by kernel_rfl
theorem methodAssignableTo (h : Value) (w : World) : (Go.method 367 132 (.agg #[h]) "AssignableTo").run Tryz.prog w = .ok (189, .agg #[h]) w := by kernel_rfl

theorem valueOf_f (t : Addr) (w : World) : (ReflectliteValue.unpack (.iface 71 (.pointer (some t)))).run Tryz.prog w
    = .ok (.agg #[hdl 71, .pointer (some ⟨w.heap.size, 0, none⟩), .int .u64 150]) (w.alloc (.cells #[.pointer (some t)] 71)) := by kernel_rfl
theorem type_f (a : Addr) (w : World) : (ReflectliteValue.methodAny (ReflectliteValue.valueError "reflectlite.Value.Type" 0) (fun t _ _ _ => ReflectliteType.toType t) #[.agg #[hdl 71, .pointer (some a), .int .u64 150]]).run Tryz.prog w
    = .ok (.iface 132 (.agg #[hdl 71])) w := by kernel_rfl
theorem kindP_f (w : World) : ((ReflectliteType.abiMethod fun t => (fun a : Nat => Value.int IntKind.u8 (a : Int)) <$> Rtype.kind t) #[hdl 71]).run Tryz.prog w = .ok (.int .u8 22) w := by kernel_rfl
theorem kindT_f (w : World) : ((ReflectliteType.abiMethod fun t => (fun a : Nat => Value.int IntKind.u8 (a : Int)) <$> Rtype.kind t) #[hdl 69]).run Tryz.prog w = .ok (.int .u8 22) w := by kernel_rfl
theorem parts_f (a : Addr) (w : World) : (ReflectliteValue.parts (.agg #[hdl 71, .pointer (some a), .int .u64 150])).run Tryz.prog w = .ok (some (71, a, 150)) w := by kernel_rfl
theorem isNil_f (a p : Addr) (W : World) (ha : W.cell? a = some (.pointer (some p))) :
    (ReflectliteValue.method (ReflectliteValue.valueError "reflectlite.Value.IsNil" 0) ReflectliteValue.isNil #[.agg #[hdl 71, .pointer (some a), .int .u64 150]]).run Tryz.prog W = .ok (.bool false) W := by
  rw [rlm]
  simp only [Sem.run_bind, parts_f, Result.andThen]
  simp [ReflectliteValue.isNil, loadVar, isAgg, underlying, Tryz.underlying71, ha, Result.andThen]
theorem elem_f (w : World) : (ReflectliteType.method ReflectliteType.elem #[.agg #[hdl 71]]).run Tryz.prog w = .ok (.iface 132 (.agg #[hdl 69])) w := by kernel_rfl
theorem impl_f (w : World) : (ReflectliteType.relation "Implements" ReflectliteType.implements_ #[.agg #[hdl 69], .iface 132 (.agg #[hdl 48])]).run Tryz.prog w = .ok (.bool true) w := by kernel_rfl
theorem elemOf_f (w : World) : (Rtype.elem? 71).run Tryz.prog w = .ok (some 69) w := by kernel_rfl
theorem mk_f (p : Addr) (w : World) : (ReflectliteValue.mk 69 p ReflectliteValue.flagAddr).run Tryz.prog w = .ok (.agg #[hdl 69, .pointer (some p), .int .u64 406]) w := by kernel_rfl
theorem elemV_f (a p : Addr) (W : World) (ha : W.cell? a = some (.pointer (some p))) :
    (ReflectliteValue.method (ReflectliteValue.valueError "reflectlite.Value.Elem" 0) ReflectliteValue.elem #[.agg #[hdl 71, .pointer (some a), .int .u64 150]]).run Tryz.prog W
      = .ok (.agg #[hdl 69, .pointer (some p), .int .u64 406]) W := by
  rw [rlm]
  simp only [Sem.run_bind, parts_f, Result.andThen]
  simp [ReflectliteValue.elem, loadVar, isAgg, underlying, Tryz.underlying71, ha, Result.andThen, elemOf_f, mk_f]
theorem partsT_f (a : Addr) (w : World) : (ReflectliteValue.parts (.agg #[hdl 69, .pointer (some a), .int .u64 406])).run Tryz.prog w = .ok (some (69, a, 406)) w := by kernel_rfl

theorem valueOf_n (t : Addr) (w : World) : (ReflectliteValue.unpack (.iface 74 (.pointer (some t)))).run Tryz.prog w
    = .ok (.agg #[hdl 74, .pointer (some ⟨w.heap.size, 0, none⟩), .int .u64 150]) (w.alloc (.cells #[.pointer (some t)] 74)) := by kernel_rfl
theorem type_n (a : Addr) (w : World) : (ReflectliteValue.methodAny (ReflectliteValue.valueError "reflectlite.Value.Type" 0) (fun t _ _ _ => ReflectliteType.toType t) #[.agg #[hdl 74, .pointer (some a), .int .u64 150]]).run Tryz.prog w
    = .ok (.iface 132 (.agg #[hdl 74])) w := by kernel_rfl
theorem kindP_n (w : World) : ((ReflectliteType.abiMethod fun t => (fun a : Nat => Value.int IntKind.u8 (a : Int)) <$> Rtype.kind t) #[hdl 74]).run Tryz.prog w = .ok (.int .u8 22) w := by kernel_rfl
theorem kindT_n (w : World) : ((ReflectliteType.abiMethod fun t => (fun a : Nat => Value.int IntKind.u8 (a : Int)) <$> Rtype.kind t) #[hdl 30]).run Tryz.prog w = .ok (.int .u8 2) w := by kernel_rfl
theorem parts_n (a : Addr) (w : World) : (ReflectliteValue.parts (.agg #[hdl 74, .pointer (some a), .int .u64 150])).run Tryz.prog w = .ok (some (74, a, 150)) w := by kernel_rfl
theorem isNil_n (a p : Addr) (W : World) (ha : W.cell? a = some (.pointer (some p))) :
    (ReflectliteValue.method (ReflectliteValue.valueError "reflectlite.Value.IsNil" 0) ReflectliteValue.isNil #[.agg #[hdl 74, .pointer (some a), .int .u64 150]]).run Tryz.prog W = .ok (.bool false) W := by
  rw [rlm]
  simp only [Sem.run_bind, parts_n, Result.andThen]
  simp [ReflectliteValue.isNil, loadVar, isAgg, underlying, Tryz.underlying74, ha, Result.andThen]
theorem elem_n (w : World) : (ReflectliteType.method ReflectliteType.elem #[.agg #[hdl 74]]).run Tryz.prog w = .ok (.iface 132 (.agg #[hdl 30])) w := by kernel_rfl
theorem impl_n (w : World) : (ReflectliteType.relation "Implements" ReflectliteType.implements_ #[.agg #[hdl 30], .iface 132 (.agg #[hdl 48])]).run Tryz.prog w = .ok (.bool true) w := by kernel_rfl
theorem elemOf_n (w : World) : (Rtype.elem? 74).run Tryz.prog w = .ok (some 30) w := by kernel_rfl
theorem mk_n (p : Addr) (w : World) : (ReflectliteValue.mk 30 p ReflectliteValue.flagAddr).run Tryz.prog w = .ok (.agg #[hdl 30, .pointer (some p), .int .u64 386]) w := by kernel_rfl
theorem elemV_n (a p : Addr) (W : World) (ha : W.cell? a = some (.pointer (some p))) :
    (ReflectliteValue.method (ReflectliteValue.valueError "reflectlite.Value.Elem" 0) ReflectliteValue.elem #[.agg #[hdl 74, .pointer (some a), .int .u64 150]]).run Tryz.prog W
      = .ok (.agg #[hdl 30, .pointer (some p), .int .u64 386]) W := by
  rw [rlm]
  simp only [Sem.run_bind, parts_n, Result.andThen]
  simp [ReflectliteValue.elem, loadVar, isAgg, underlying, Tryz.underlying74, ha, Result.andThen, elemOf_n, mk_n]
theorem partsT_n (a : Addr) (w : World) : (ReflectliteValue.parts (.agg #[hdl 30, .pointer (some a), .int .u64 386])).run Tryz.prog w = .ok (some (30, a, 386)) w := by kernel_rfl

theorem typeOf_f (v : Value) (w : World) : (ReflectliteType.typeOf #[.iface 69 v]).run Tryz.prog w = .ok (.iface 132 (.agg #[hdl 69])) w := by kernel_rfl
theorem assign_f (w : World) : (ReflectliteType.relation "AssignableTo" ReflectliteType.assignableTo #[.agg #[hdl 69], .iface 132 (.agg #[hdl 69])]).run Tryz.prog w = .ok (.bool true) w := by kernel_rfl
theorem valueOfT_f (e : Addr) (w : World) : (ReflectliteValue.unpack (.iface 69 (.pointer (some e)))).run Tryz.prog w
    = .ok (.agg #[hdl 69, .pointer (some ⟨w.heap.size, 0, none⟩), .int .u64 150]) (w.alloc (.cells #[.pointer (some e)] 69)) := by kernel_rfl
theorem partsV_f (a : Addr) (w : World) : (ReflectliteValue.parts (.agg #[hdl 69, .pointer (some a), .int .u64 150])).run Tryz.prog w = .ok (some (69, a, 150)) w := by kernel_rfl
theorem direct_f (w : World) : (Rtype.directlyAssignable 69 69).run Tryz.prog w = .ok true w := by kernel_rfl
theorem set_f (ta b : Addr) (e : Addr) (old : Value) (W : World) (hb : W.cell? b = some (.pointer (some e))) (ht : W.cell? ta = some old) (hf : W.frozen? ta = false) :
    (ReflectliteValue.set #[.agg #[hdl 69, .pointer (some ta), .int .u64 406], .agg #[hdl 69, .pointer (some b), .int .u64 150]]).run Tryz.prog W
      = .ok (.tuple #[]) (W.setCell ta (.pointer (some e))) := by
  rw [rls]
  simp only [Sem.run_bind, partsT_f, partsV_f, Result.andThen]
  simp [ReflectliteValue.flagAddr, loadVar, isAgg, underlying, Tryz.underlying69, hb, Result.andThen, direct_f, storeVar, Value.cells, storeCells, Addr.add]
  rw [run_store Tryz.prog W ta _ _ (by rfl)]
  simp [ht, hf]

theorem typeOf_n (v : Value) (w : World) : (ReflectliteType.typeOf #[.iface 30 v]).run Tryz.prog w = .ok (.iface 132 (.agg #[hdl 30])) w := by kernel_rfl
theorem assign_n (w : World) : (ReflectliteType.relation "AssignableTo" ReflectliteType.assignableTo #[.agg #[hdl 30], .iface 132 (.agg #[hdl 30])]).run Tryz.prog w = .ok (.bool true) w := by kernel_rfl
theorem valueOfT_n (e : Int) (w : World) : (ReflectliteValue.unpack (.iface 30 (.int .i64 e))).run Tryz.prog w
    = .ok (.agg #[hdl 30, .pointer (some ⟨w.heap.size, 0, none⟩), .int .u64 130]) (w.alloc (.cells #[.int .i64 e] 30)) := by kernel_rfl
theorem partsV_n (a : Addr) (w : World) : (ReflectliteValue.parts (.agg #[hdl 30, .pointer (some a), .int .u64 130])).run Tryz.prog w = .ok (some (30, a, 130)) w := by kernel_rfl
theorem direct_n (w : World) : (Rtype.directlyAssignable 30 30).run Tryz.prog w = .ok true w := by kernel_rfl
theorem set_n (ta b : Addr) (e : Int) (old : Value) (W : World) (hb : W.cell? b = some (.int .i64 e)) (ht : W.cell? ta = some old) (hf : W.frozen? ta = false) :
    (ReflectliteValue.set #[.agg #[hdl 30, .pointer (some ta), .int .u64 386], .agg #[hdl 30, .pointer (some b), .int .u64 130]]).run Tryz.prog W
      = .ok (.tuple #[]) (W.setCell ta (.int .i64 e)) := by
  rw [rls]
  simp only [Sem.run_bind, partsT_n, partsV_n, Result.andThen]
  simp [ReflectliteValue.flagAddr, loadVar, isAgg, underlying, Tryz.underlying30, hb, Result.andThen, direct_n, storeVar, Value.cells, storeCells, Addr.add]
  rw [run_store Tryz.prog W ta _ _ (by rfl)]
  simp [ht, hf]

/-- an Errno is no *Fault -/
theorem assign_miss (w : World) : (ReflectliteType.relation "AssignableTo" ReflectliteType.assignableTo #[.agg #[hdl 30], .iface 132 (.agg #[hdl 69])]).run Tryz.prog w = .ok (.bool false) w := by kernel_rfl
theorem noAs_n (v : Value) (xT : TypeId) (w : World) : (Instr.typeAssert (.iface 30 v) xT 137 true).run Tryz.prog w = .ok (.tuple #[.nilIface, .bool false]) w := run_typeAssert_lacksB Tryz.underlying137 (by kernel_rfl) (by kernel_rfl) v xT w
theorem noUnwrap_n (v : Value) (xT : TypeId) (w : World) : (Instr.typeAssert (.iface 30 v) xT 140 true).run Tryz.prog w = .ok (.tuple #[.nilIface, .bool false]) w := run_typeAssert_lacksB Tryz.underlying140 (by kernel_rfl) (by kernel_rfl) v xT w
theorem noUnwraps_n (v : Value) (xT : TypeId) (w : World) : (Instr.typeAssert (.iface 30 v) xT 142 true).run Tryz.prog w = .ok (.tuple #[.nilIface, .bool false]) w := run_typeAssert_lacksB Tryz.underlying142 (by kernel_rfl) (by kernel_rfl) v xT w

set_option maxHeartbeats 4000000 in
theorem as_hit_f (e t : Addr) (old : Value) (w : World) (hg : w.cell? ⟨0, 0, none⟩ = some (.iface 132 (.agg #[hdl 48]))) (ht0 : w.cell? t = some old) (hf0 : w.frozen? t = false) :
    Calls Tryz.prog 29 #[.iface 69 (.pointer (some e)), .iface 71 (.pointer (some t))] w fun ev w' => ev = .returned (.bool true) ∧ ∃ o1 o2 o3 o4 : Obj, w' = ((((w.alloc o1).alloc o2).alloc o3).alloc o4).setCell t (.pointer (some e)) := by
  have h0 := @run_callFunc_extern Tryz.prog 47 _ (fun args => ReflectliteValue.unpack (args.getD 0 (.tuple #[]))) Tryz.func47 (by kernel_rfl) (by kernel_rfl) (by kernel_rfl) (by kernel_rfl)
  have h1 := @run_callFunc_extern Tryz.prog 48 _ (ReflectliteValue.methodAny (ReflectliteValue.valueError "reflectlite.Value.Type" 0) (fun t _ _ _ => ReflectliteType.toType t)) Tryz.func48 (by kernel_rfl) (by kernel_rfl) (by kernel_rfl) (by kernel_rfl)
  have h2 := @run_callFunc_extern Tryz.prog 49 _ (ReflectliteValue.method (ReflectliteValue.valueError "reflectlite.Value.IsNil" 0) ReflectliteValue.isNil) Tryz.func49 (by kernel_rfl) (by kernel_rfl) (by kernel_rfl) (by kernel_rfl)
  have h3 := @run_callFunc_extern Tryz.prog 176 _ (ReflectliteType.abiMethod fun t => do pure (.int .u8 (← Rtype.kind t))) Tryz.func176 (by kernel_rfl) (by kernel_rfl) (by kernel_rfl) (by kernel_rfl)
  have h4 := @run_callFunc_extern Tryz.prog 191 _ (ReflectliteType.method ReflectliteType.elem) Tryz.func191 (by kernel_rfl) (by kernel_rfl) (by kernel_rfl) (by kernel_rfl)
  have h5 := @run_callFunc_extern Tryz.prog 192 _ (ReflectliteType.relation "Implements" ReflectliteType.implements_) Tryz.func192 (by kernel_rfl) (by kernel_rfl) (by kernel_rfl) (by kernel_rfl)
  have h6 := @run_callFunc_extern Tryz.prog 61 _ (ReflectliteType.typeOf) Tryz.func61 (by kernel_rfl) (by kernel_rfl) (by kernel_rfl) (by kernel_rfl)
  have h7 := @run_callFunc_extern Tryz.prog 189 _ (ReflectliteType.relation "AssignableTo" ReflectliteType.assignableTo) Tryz.func189 (by kernel_rfl) (by kernel_rfl) (by kernel_rfl) (by kernel_rfl)
  have h8 := @run_callFunc_extern Tryz.prog 62 _ (ReflectliteValue.method (ReflectliteValue.valueError "reflectlite.Value.Elem" 0) ReflectliteValue.elem) Tryz.func62 (by kernel_rfl) (by kernel_rfl) (by kernel_rfl) (by kernel_rfl)
  have h9 := @run_callFunc_extern Tryz.prog 63 _ (ReflectliteValue.set) Tryz.func63 (by kernel_rfl) (by kernel_rfl) (by kernel_rfl) (by kernel_rfl)
  have mK := methodKind
  have mE := methodElem
  have mI := methodImplements
  have mA := methodAssignableTo
  have f1 := valueOf_f
  have f2 := type_f
  have f3 := kindP_f
  have f4 := kindT_f
  have f5 := elem_f
  have f6 := impl_f
  have n8 := isNil_f ⟨w.heap.size, 0, none⟩ t ((w.alloc (.cells #[.pointer (some t)] 71)).alloc (.cells #[hdl 71, .pointer (some ⟨w.heap.size, 0, none⟩), .int .u64 150] 104)) (by simp)
  have hlt : 0 < w.heap.size := by
    rcases Nat.lt_or_ge 0 w.heap.size with h | h
    · exact h
    · exfalso
      rw [World.cell?, Array.getElem?_eq_none h] at hg
      cases hg
  have hg2 : ((w.alloc (.cells #[.pointer (some t)] 71)).alloc (.cells #[hdl 71, .pointer (some ⟨w.heap.size, 0, none⟩), .int .u64 150] 104)).cell? ⟨0, 0, none⟩ = some (.iface 132 (.agg #[hdl 48])) := by
    rw [World.cell?_alloc_lt _ _ ⟨0, 0, none⟩ (by simp <;> omega), World.cell?_alloc_lt _ _ ⟨0, 0, none⟩ hlt]; exact hg
  have htl : t.block < w.heap.size := by
    rcases Nat.lt_or_ge t.block w.heap.size with h | h
    · exact h
    · simp [World.cell?, Array.getElem?_eq_none h] at ht0
  have el := elemV_f ⟨w.heap.size, 0, none⟩ t (((w.alloc (.cells #[.pointer (some t)] 71)).alloc (.cells #[hdl 71, .pointer (some ⟨w.heap.size, 0, none⟩), .int .u64 150] 104)).alloc (.cells #[hdl 71, .pointer (some ⟨w.heap.size, 0, none⟩), .int .u64 150] 104)) (by rw [World.cell?_alloc_lt _ _ ⟨w.heap.size, 0, none⟩ (by simp; omega)]; simp)
  have tO := typeOf_f
  have aT := assign_f
  have vT := valueOfT_f
  have st := set_f t ⟨w.heap.size + 1 + 1 + 1, 0, none⟩ e old ((((w.alloc (.cells #[.pointer (some t)] 71)).alloc (.cells #[hdl 71, .pointer (some ⟨w.heap.size, 0, none⟩), .int .u64 150] 104)).alloc (.cells #[hdl 71, .pointer (some ⟨w.heap.size, 0, none⟩), .int .u64 150] 104)).alloc (.cells #[.pointer (some e)] 69))
    (by rw [World.cell?_alloc_at _ _ _ _ (by simp)]; rfl)
    (by rw [World.cell?_alloc_lt _ _ t (by simp; omega), World.cell?_alloc_lt _ _ t (by simp; omega), World.cell?_alloc_lt _ _ t (by simp; omega), World.cell?_alloc_lt _ _ t htl]; exact ht0)
    (by rw [World.frozen?_alloc_old _ _ t (by simp; omega), World.frozen?_alloc_old _ _ t (by simp; omega), World.frozen?_alloc_old _ _ t (by simp; omega), World.frozen?_alloc_old _ _ t (Nat.ne_of_lt htl)]; exact hf0)
  go_enter Tryz.func29, Tryz.ntmps29
  go_wp2
  refine wp_loop_rounds 1 ?_
  rw [rounds_succ]
  go_wp2
  go_ret
  exact ⟨rfl, _, _, _, _, rfl⟩

set_option maxHeartbeats 4000000 in
theorem as_hit_n (e : Int) (t : Addr) (old : Value) (w : World) (hg : w.cell? ⟨0, 0, none⟩ = some (.iface 132 (.agg #[hdl 48]))) (ht0 : w.cell? t = some old) (hf0 : w.frozen? t = false) :
    Calls Tryz.prog 29 #[.iface 30 (.int .i64 e), .iface 74 (.pointer (some t))] w fun ev w' => ev = .returned (.bool true) ∧ ∃ o1 o2 o3 o4 : Obj, w' = ((((w.alloc o1).alloc o2).alloc o3).alloc o4).setCell t (.int .i64 e) := by
  have h0 := @run_callFunc_extern Tryz.prog 47 _ (fun args => ReflectliteValue.unpack (args.getD 0 (.tuple #[]))) Tryz.func47 (by kernel_rfl) (by kernel_rfl) (by kernel_rfl) (by kernel_rfl)
  have h1 := @run_callFunc_extern Tryz.prog 48 _ (ReflectliteValue.methodAny (ReflectliteValue.valueError "reflectlite.Value.Type" 0) (fun t _ _ _ => ReflectliteType.toType t)) Tryz.func48 (by kernel_rfl) (by kernel_rfl) (by kernel_rfl) (by kernel_rfl)
  have h2 := @run_callFunc_extern Tryz.prog 49 _ (ReflectliteValue.method (ReflectliteValue.valueError "reflectlite.Value.IsNil" 0) ReflectliteValue.isNil) Tryz.func49 (by kernel_rfl) (by kernel_rfl) (by kernel_rfl) (by kernel_rfl)
  have h3 := @run_callFunc_extern Tryz.prog 176 _ (ReflectliteType.abiMethod fun t => do pure (.int .u8 (← Rtype.kind t))) Tryz.func176 (by kernel_rfl) (by kernel_rfl) (by kernel_rfl) (by kernel_rfl)
  have h4 := @run_callFunc_extern Tryz.prog 191 _ (ReflectliteType.method ReflectliteType.elem) Tryz.func191 (by kernel_rfl) (by kernel_rfl) (by kernel_rfl) (by kernel_rfl)
  have h5 := @run_callFunc_extern Tryz.prog 192 _ (ReflectliteType.relation "Implements" ReflectliteType.implements_) Tryz.func192 (by kernel_rfl) (by kernel_rfl) (by kernel_rfl) (by kernel_rfl)
  have h6 := @run_callFunc_extern Tryz.prog 61 _ (ReflectliteType.typeOf) Tryz.func61 (by kernel_rfl) (by kernel_rfl) (by kernel_rfl) (by kernel_rfl)
  have h7 := @run_callFunc_extern Tryz.prog 189 _ (ReflectliteType.relation "AssignableTo" ReflectliteType.assignableTo) Tryz.func189 (by kernel_rfl) (by kernel_rfl) (by kernel_rfl) (by kernel_rfl)
  have h8 := @run_callFunc_extern Tryz.prog 62 _ (ReflectliteValue.method (ReflectliteValue.valueError "reflectlite.Value.Elem" 0) ReflectliteValue.elem) Tryz.func62 (by kernel_rfl) (by kernel_rfl) (by kernel_rfl) (by kernel_rfl)
  have h9 := @run_callFunc_extern Tryz.prog 63 _ (ReflectliteValue.set) Tryz.func63 (by kernel_rfl) (by kernel_rfl) (by kernel_rfl) (by kernel_rfl)
  have mK := methodKind
  have mE := methodElem
  have mI := methodImplements
  have mA := methodAssignableTo
  have f1 := valueOf_n
  have f2 := type_n
  have f3 := kindP_n
  have f4 := kindT_n
  have f5 := elem_n
  have f6 := impl_n
  have n8 := isNil_n ⟨w.heap.size, 0, none⟩ t ((w.alloc (.cells #[.pointer (some t)] 74)).alloc (.cells #[hdl 74, .pointer (some ⟨w.heap.size, 0, none⟩), .int .u64 150] 104)) (by simp)
  have hlt : 0 < w.heap.size := by
    rcases Nat.lt_or_ge 0 w.heap.size with h | h
    · exact h
    · exfalso
      rw [World.cell?, Array.getElem?_eq_none h] at hg
      cases hg
  have hg2 : ((w.alloc (.cells #[.pointer (some t)] 74)).alloc (.cells #[hdl 74, .pointer (some ⟨w.heap.size, 0, none⟩), .int .u64 150] 104)).cell? ⟨0, 0, none⟩ = some (.iface 132 (.agg #[hdl 48])) := by
    rw [World.cell?_alloc_lt _ _ ⟨0, 0, none⟩ (by simp <;> omega), World.cell?_alloc_lt _ _ ⟨0, 0, none⟩ hlt]; exact hg
  have htl : t.block < w.heap.size := by
    rcases Nat.lt_or_ge t.block w.heap.size with h | h
    · exact h
    · simp [World.cell?, Array.getElem?_eq_none h] at ht0
  have el := elemV_n ⟨w.heap.size, 0, none⟩ t (((w.alloc (.cells #[.pointer (some t)] 74)).alloc (.cells #[hdl 74, .pointer (some ⟨w.heap.size, 0, none⟩), .int .u64 150] 104)).alloc (.cells #[hdl 74, .pointer (some ⟨w.heap.size, 0, none⟩), .int .u64 150] 104)) (by rw [World.cell?_alloc_lt _ _ ⟨w.heap.size, 0, none⟩ (by simp; omega)]; simp)
  have tO := typeOf_n
  have aT := assign_n
  have vT := valueOfT_n
  have st := set_n t ⟨w.heap.size + 1 + 1 + 1, 0, none⟩ e old ((((w.alloc (.cells #[.pointer (some t)] 74)).alloc (.cells #[hdl 74, .pointer (some ⟨w.heap.size, 0, none⟩), .int .u64 150] 104)).alloc (.cells #[hdl 74, .pointer (some ⟨w.heap.size, 0, none⟩), .int .u64 150] 104)).alloc (.cells #[.int .i64 e] 30))
    (by rw [World.cell?_alloc_at _ _ _ _ (by simp)]; rfl)
    (by rw [World.cell?_alloc_lt _ _ t (by simp; omega), World.cell?_alloc_lt _ _ t (by simp; omega), World.cell?_alloc_lt _ _ t (by simp; omega), World.cell?_alloc_lt _ _ t htl]; exact ht0)
    (by rw [World.frozen?_alloc_old _ _ t (by simp; omega), World.frozen?_alloc_old _ _ t (by simp; omega), World.frozen?_alloc_old _ _ t (by simp; omega), World.frozen?_alloc_old _ _ t (Nat.ne_of_lt htl)]; exact hf0)
  go_enter Tryz.func29, Tryz.ntmps29
  go_wp2
  refine wp_loop_rounds 1 ?_
  rw [rounds_succ]
  go_wp2
  go_ret
  exact ⟨rfl, _, _, _, _, rfl⟩

set_option maxHeartbeats 4000000 in
theorem as_miss (e : Int) (t : Addr) (old : Value) (w : World) (hg : w.cell? ⟨0, 0, none⟩ = some (.iface 132 (.agg #[hdl 48]))) (ht0 : w.cell? t = some old) (hf0 : w.frozen? t = false) :
    Calls Tryz.prog 29 #[.iface 30 (.int .i64 e), .iface 71 (.pointer (some t))] w fun ev w' => ev = .returned (.bool false) ∧ ∃ o1 o2 o3 : Obj, w' = ((w.alloc o1).alloc o2).alloc o3 := by
  have h0 := @run_callFunc_extern Tryz.prog 47 _ (fun args => ReflectliteValue.unpack (args.getD 0 (.tuple #[]))) Tryz.func47 (by kernel_rfl) (by kernel_rfl) (by kernel_rfl) (by kernel_rfl)
  have h1 := @run_callFunc_extern Tryz.prog 48 _ (ReflectliteValue.methodAny (ReflectliteValue.valueError "reflectlite.Value.Type" 0) (fun t _ _ _ => ReflectliteType.toType t)) Tryz.func48 (by kernel_rfl) (by kernel_rfl) (by kernel_rfl) (by kernel_rfl)
  have h2 := @run_callFunc_extern Tryz.prog 49 _ (ReflectliteValue.method (ReflectliteValue.valueError "reflectlite.Value.IsNil" 0) ReflectliteValue.isNil) Tryz.func49 (by kernel_rfl) (by kernel_rfl) (by kernel_rfl) (by kernel_rfl)
  have h3 := @run_callFunc_extern Tryz.prog 176 _ (ReflectliteType.abiMethod fun t => do pure (.int .u8 (← Rtype.kind t))) Tryz.func176 (by kernel_rfl) (by kernel_rfl) (by kernel_rfl) (by kernel_rfl)
  have h4 := @run_callFunc_extern Tryz.prog 191 _ (ReflectliteType.method ReflectliteType.elem) Tryz.func191 (by kernel_rfl) (by kernel_rfl) (by kernel_rfl) (by kernel_rfl)
  have h5 := @run_callFunc_extern Tryz.prog 192 _ (ReflectliteType.relation "Implements" ReflectliteType.implements_) Tryz.func192 (by kernel_rfl) (by kernel_rfl) (by kernel_rfl) (by kernel_rfl)
  have h6 := @run_callFunc_extern Tryz.prog 61 _ (ReflectliteType.typeOf) Tryz.func61 (by kernel_rfl) (by kernel_rfl) (by kernel_rfl) (by kernel_rfl)
  have h7 := @run_callFunc_extern Tryz.prog 189 _ (ReflectliteType.relation "AssignableTo" ReflectliteType.assignableTo) Tryz.func189 (by kernel_rfl) (by kernel_rfl) (by kernel_rfl) (by kernel_rfl)
  have h8 := @run_callFunc_extern Tryz.prog 62 _ (ReflectliteValue.method (ReflectliteValue.valueError "reflectlite.Value.Elem" 0) ReflectliteValue.elem) Tryz.func62 (by kernel_rfl) (by kernel_rfl) (by kernel_rfl) (by kernel_rfl)
  have h9 := @run_callFunc_extern Tryz.prog 63 _ (ReflectliteValue.set) Tryz.func63 (by kernel_rfl) (by kernel_rfl) (by kernel_rfl) (by kernel_rfl)
  have mK := methodKind
  have mE := methodElem
  have mI := methodImplements
  have mA := methodAssignableTo
  have f1 := valueOf_f
  have f2 := type_f
  have f3 := kindP_f
  have f4 := kindT_f
  have f5 := elem_f
  have f6 := impl_f
  have n8 := isNil_f ⟨w.heap.size, 0, none⟩ t ((w.alloc (.cells #[.pointer (some t)] 71)).alloc (.cells #[hdl 71, .pointer (some ⟨w.heap.size, 0, none⟩), .int .u64 150] 104)) (by simp)
  have hlt : 0 < w.heap.size := by
    rcases Nat.lt_or_ge 0 w.heap.size with h | h
    · exact h
    · exfalso
      rw [World.cell?, Array.getElem?_eq_none h] at hg
      cases hg
  have hg2 : ((w.alloc (.cells #[.pointer (some t)] 71)).alloc (.cells #[hdl 71, .pointer (some ⟨w.heap.size, 0, none⟩), .int .u64 150] 104)).cell? ⟨0, 0, none⟩ = some (.iface 132 (.agg #[hdl 48])) := by
    rw [World.cell?_alloc_lt _ _ ⟨0, 0, none⟩ (by simp <;> omega), World.cell?_alloc_lt _ _ ⟨0, 0, none⟩ hlt]; exact hg
  have htl : t.block < w.heap.size := by
    rcases Nat.lt_or_ge t.block w.heap.size with h | h
    · exact h
    · simp [World.cell?, Array.getElem?_eq_none h] at ht0
  have tO := typeOf_n
  have aT := assign_miss
  have n1 := noAs_n
  have n2 := noUnwrap_n
  have n3 := noUnwraps_n
  go_enter Tryz.func29, Tryz.ntmps29
  go_wp2
  refine wp_loop_rounds 1 ?_
  rw [rounds_succ]
  go_wp2
  go_ret
  exact ⟨rfl, _, _, _, rfl⟩
end Go.Proofs.YtpepgmccbkkaaaaGreatDoor

/- api.Tell: the number and the place of an error. -/
namespace Go.Proofs.YtpepgmccbkkaaaaGreatDoor
open Go Go.RowKit
set_option maxRecDepth 10000

/-- the library's variable errors.errorType holds the handle of the type error -/
def ErrT (w : World) : Prop := w.cell? ⟨0, 0, none⟩ = some (.iface 132 (.agg #[hdl 48]))

theorem ErrT.below {w w' : World} (h : ErrT w) (hb : Below w.heap.size w w') : ErrT w' := by
  have hlt := World.block_lt_of_cell? w _ h
  unfold ErrT
  rw [hb.cell (p := ⟨0, 0, none⟩) hlt]
  exact h

/-- an error by its number; 0: none -/
def errV (n : Int) : Value := if n = 0 then .nilIface else .iface 30 (.int .i64 n)

def TellPost (n at_ : Int) (w : World) (e : Ending) (w' : World) : Prop := e = .returned (.tuple #[.int .i64 n, .int .i64 at_]) ∧ Below w.heap.size w w'

set_option maxHeartbeats 1000000 in
theorem tell_nil (w : World) : Calls Tryz.prog 18 #[.nilIface] w (TellPost 0 0 w) := by
  go_enter Tryz.func18, Tryz.ntmps18
  go_wp2
  go_ret2
  exact ⟨rfl, ((Below.refl _ _).alloc (Nat.le_refl _) _).alloc (by simp) _⟩

set_option maxHeartbeats 2000000 in
theorem tell_n (n : Int) (w : World) (hE : ErrT w) : Calls Tryz.prog 18 #[.iface 30 (.int .i64 n)] w (TellPost n 0 w) := by
  have HE := Lib.hid hE
  clear hE
  go_enter Tryz.func18, Tryz.ntmps18
  go_wp2_with fail
  refine calls_gen ?_
  intro W hW
  have hb : Below w.heap.size w W := by rw [hW]; exact ((Below.refl _ _).alloc (Nat.le_refl _) _).alloc (by simp) _
  have hz : w.heap.size + 2 ≤ W.heap.size := by rw [hW]; simp
  have hA : W.cell? ⟨w.heap.size, 0, none⟩ = some (.pointer none) ∧ W.frozen? ⟨w.heap.size, 0, none⟩ = false := by rw [hW]; constructor <;> go_simp
  have hB : W.cell? ⟨w.heap.size + 1, 0, none⟩ = some (.int .i64 0) ∧ W.frozen? ⟨w.heap.size + 1, 0, none⟩ = false := by rw [hW]; constructor <;> go_simp
  clear hW
  refine (as_miss n ⟨w.heap.size, 0, none⟩ _ W (HE.out.below hb) hA.1 hA.2).mono ?_
  rintro e w1 ⟨rfl, o1, o2, o3, hw1⟩
  have hb1 : Below W.heap.size W w1 := by rw [hw1]; exact (((Below.refl _ _).alloc (Nat.le_refl _) _).alloc (by simp) _).alloc (by simp; omega) _
  have hB1 : w1.cell? ⟨w.heap.size + 1, 0, none⟩ = some (.int .i64 0) ∧ w1.frozen? ⟨w.heap.size + 1, 0, none⟩ = false :=
    ⟨by rw [hb1.cell (by simp; omega)]; exact hB.1, by rw [hb1.frozen (by simp; omega)]; exact hB.2⟩
  have hb01 := hb.trans (hb1.mono (by omega))
  have hz1 : w.heap.size + 2 ≤ w1.heap.size := by have := hb1.size; omega
  clear hw1 hA hB hb1 hz
  go_wp2_with fail
  refine (as_hit_n n ⟨w.heap.size + 1, 0, none⟩ _ w1 (HE.out.below hb01) hB1.1 hB1.2).mono ?_
  rintro e w2 ⟨rfl, p1, p2, p3, p4, hw2⟩
  have hb2 : Below (w.heap.size + 1) w1 w2 := by rw [hw2]; exact (((((Below.refl _ _).alloc (by omega) _).alloc (by simp; omega) _).alloc (by simp; omega) _).alloc (by simp; omega) _).setCell (by simp) _
  have hb02 := hb01.trans (hb2.mono (by omega))
  have hC : w2.cell? ⟨w.heap.size + 1, 0, none⟩ = some (.int .i64 n) := by
    rw [hw2, cellSet, if_pos rfl]
    rw [World.cell?_alloc_lt _ _ _ (by simp; omega), World.cell?_alloc_lt _ _ _ (by simp; omega), World.cell?_alloc_lt _ _ _ (by simp; omega), World.cell?_alloc_lt _ _ _ (by show w.heap.size + 1 < _; omega), hB1.1]
    rfl
  clear hw2 hb2 hB1
  go_wp2
  go_ret2
  exact ⟨rfl, hb02⟩

theorem tell_e (n : Int) (w : World) (hE : ErrT w) : Calls Tryz.prog 18 #[errV n] w (TellPost n 0 w) := by
  unfold errV
  by_cases h : n = 0
  · subst h; rw [if_pos rfl]; exact tell_nil w
  · rw [if_neg h]; exact tell_n n w hE
end Go.Proofs.YtpepgmccbkkaaaaGreatDoor

/- Walks of phrasesref's small functions on texts. -/
namespace Go.Proofs.YtpepgmccbkkaaaaGreatDoor
open Go Go.RowKit

def numeralsL (l : List UInt8) : Bool := l.all isDig && !l.isEmpty

set_option maxHeartbeats 400000 in
theorem numerals_any (s : ByteArray) (w : World) (hs : s.size ≤ 9223372036854775807) :
    Calls Tryz.prog 23 #[.string s] w fun e w' => e = .returned (.bool (numeralsL s.data.toList)) ∧ w = w' := by
  go_enter Tryz.func23, Tryz.ntmps23
  go_wp2
  go_loop [3] (fun i => ∃ k : Nat, k ≤ s.size ∧ i = .int .i64 k ∧ (s.data.toList.take k).all isDig = true) (fun i => s.size - (intOf i).toNat)
  case atStart => exact ⟨0, by omega, rfl, by simp⟩
  case round =>
    obtain ⟨k, hk, rfl, hH⟩ := hrel
    by_cases hlt : k < s.size
    · by_cases hd : isDig s[k] = true
      · have h2 := (isDig_iff _).1 hd
        have hts := all_snoc hH hd
        rw [← take_snoc s k hlt] at hts
        go_wp2
        go_round
        case rel => exact ⟨k + 1, by omega, by go_num, hts⟩
        case measure => simp [intOf]; omega
      · have hd' : isDig s[k] = false := by simpa using hd
        have h2 := (isDig_false _).1 hd'
        have hfin : numeralsL s.data.toList = false := by simp [numeralsL, all_false_of s k hlt hd']
        go_wp2
        all_goals (go_ret; exact ⟨rfl, rfl⟩)
    · have hk' : k = s.size := by omega
      subst hk'
      have hfin : numeralsL s.data.toList = decide (0 < s.size) := by
        rw [take_all] at hH
        rw [numeralsL, hH, isEmpty_toList, Bool.true_and]
        by_cases h0 : s.size = 0
        · simp [h0]
        · simp [h0]; omega
      go_wp2
      go_ret
      exact ⟨rfl, rfl⟩

set_option maxHeartbeats 400000 in
theorem nought_any (s : ByteArray) (w : World) (hs : s.size ≤ 9223372036854775807) :
    Calls Tryz.prog 24 #[.string s] w fun e w' => e = .returned (.bool (s.data.toList.all (· == 48))) ∧ w = w' := by
  go_enter Tryz.func24, Tryz.ntmps24
  go_wp2
  go_loop [3] (fun i => ∃ k : Nat, k ≤ s.size ∧ i = .int .i64 k ∧ (s.data.toList.take k).all (· == 48) = true) (fun i => s.size - (intOf i).toNat)
  case atStart => exact ⟨0, by omega, rfl, by simp⟩
  case round =>
    obtain ⟨k, hk, rfl, hH⟩ := hrel
    by_cases hlt : k < s.size
    · by_cases hd : s[k] = 48
      · have h2 : ((s[k].toNat : Int) != 48) = false := by simp [hd]
        have hts := all_snoc (c := s[k]) hH (by simp [hd])
        rw [← take_snoc s k hlt] at hts
        go_wp2
        go_round
        case rel => exact ⟨k + 1, by omega, by go_num, hts⟩
        case measure => simp [intOf]; omega
      · have hfin : s.data.toList.all (· == 48) = false := all_false_of s k hlt (by simpa using hd)
        have h2 : ((s[k].toNat : Int) != 48) = true := by
          rw [bne_iff_ne]; intro h; exact hd (UInt8.toNat_inj.1 (by show s[k].toNat = 48; omega))
        go_wp2
        all_goals (go_ret; exact ⟨rfl, rfl⟩)
    · have hk' : k = s.size := by omega
      subst hk'
      rw [take_all] at hH
      go_wp2
      go_ret
      exact ⟨rfl, rfl⟩

theorem idxOf_hit (s : ByteArray) (c : UInt8) (k : Nat) (hk : k < s.size) (hd : s[k] = c) (h : k ≤ s.data.toList.idxOf c) : s.data.toList.idxOf c = k := by
  refine Nat.le_antisymm (Nat.le_of_not_lt fun hlt => ?_) h
  have := List.not_of_lt_findIdx (p := (· == c)) (xs := s.data.toList) (i := k) hlt
  rw [getElem_toList s k hk, hd] at this
  simp at this
theorem idxOf_miss (s : ByteArray) (c : UInt8) (k : Nat) (hk : k < s.size) (hd : s[k] ≠ c) (h : k ≤ s.data.toList.idxOf c) : k + 1 ≤ s.data.toList.idxOf c := by
  refine Nat.succ_le_of_lt (Nat.lt_of_le_of_ne h fun he => ?_)
  have hl : s.data.toList.findIdx (· == c) < s.data.toList.length := by rw [size_toList]; show s.data.toList.idxOf c < s.size; omega
  have := List.findIdx_getElem (xs := s.data.toList) (p := (· == c)) (w := hl)
  apply hd
  have e2 : s.data.toList[s.data.toList.findIdx (· == c)]'hl = s[k] := by
    rw [← getElem_toList s k hk]; congr 1; exact he.symm
  rw [e2] at this
  simpa using this

set_option maxHeartbeats 400000 in
theorem cut_any (s : ByteArray) (c : UInt8) (w : World) (hs : s.size ≤ 2000000000) :
    Calls Tryz.prog 22 #[.string s, .int .u8 c.toNat] w fun e w' =>
      e = .returned (.tuple #[.string ⟨(s.data.toList.take (s.data.toList.idxOf c)).toArray⟩, .string ⟨(s.data.toList.drop (s.data.toList.idxOf c + 1)).toArray⟩, .bool (decide (s.data.toList.idxOf c < s.size))]) ∧ ∃ n, w' = w.drewN n := by
  go_enter Tryz.func22, Tryz.ntmps22
  go_wp2
  go_loop [7] (fun i => ∃ k : Nat, k ≤ s.size ∧ i = .int .i64 k ∧ k ≤ s.data.toList.idxOf c) (fun i => s.size - (intOf i).toNat)
  case atStart => exact ⟨0, by omega, rfl, by omega⟩
  case round =>
    obtain ⟨k, hk, rfl, hH⟩ := hrel
    by_cases hlt : k < s.size
    · by_cases hd : s[k] = c
      · have h2 : ((s[k].toNat : Int) == (c.toNat : Int)) = true := by rw [toNat_beq, hd]; simp
        have hi : s.data.toList.idxOf c = k := idxOf_hit s c k hlt hd hH
        have hr : (k + 1 : Nat) ≤ s.size := hlt
        have Hi := Lib.hid hi
        clear hi
        go_wp2_with fail
        go_quiet (fail)
        go_wp2
        go_ret3
        rw [Hi.out, extract_take, extract_drop]
        exact ⟨by simp [hlt], nq, rfl⟩
      · have h2 : ((s[k].toNat : Int) == (c.toNat : Int)) = false := by rw [toNat_beq]; simp [hd]
        have hi : k + 1 ≤ s.data.toList.idxOf c := idxOf_miss s c k hlt hd hH
        go_wp2
        go_round
        case rel => exact ⟨k + 1, by omega, by go_num, hi⟩
        case measure => simp [intOf]; omega
    · have hk' : k = s.size := by omega
      subst hk'
      have hi : s.data.toList.idxOf c = s.size := by have := List.idxOf_le_length (a := c) (l := s.data.toList); simp only [size_toList] at this; omega
      have Hi := Lib.hid hi
      clear hi
      go_wp2
      go_ret3
      rw [Hi.out, take_all, mk_toList, List.drop_of_length_le (by simp)]
      exact ⟨by simp, 0, rfl⟩

set_option maxHeartbeats 400000 in
theorem decimal_any (n : Nat) : ∀ (w : World), n ≤ 9223372036854775807 →
    Calls Tryz.prog 84 #[.int .i64 n] w fun e w' => e = .returned (.string ⟨(decL n).toArray⟩) ∧ w = w' := by
  induction n using Nat.strongRecOn with
  | _ n ih =>
    intro w hn
    by_cases hlt : n < 10
    · have hd := digits_extract (n % 10) (by omega)
      have hx : decL n = [dchar (n % 10)] := by rw [decL_small hlt, Nat.mod_eq_of_lt hlt]
      have Hx := Lib.hid hx
      clear hx ih
      go_enter Tryz.func84, Tryz.ntmps84
      go_wp2
      go_ret
      rw [Hx.out]
      exact ⟨ret_val (congrArg Value.string hd), rfl⟩
    · have hd := digits_extract (n % 10) (by omega)
      have hx := decL_big hlt
      have Hx := Lib.hid hx
      have hl := decL_length (n / 10)
      have IH := Lib.hid (ih (n / 10) (by omega) w (by omega))
      clear hx ih
      go_enter Tryz.func84, Tryz.ntmps84
      go_wp2_with fail
      rw [show ((n : Int) / 10) = ((n / 10 : Nat) : Int) from by omega]
      refine IH.out.mono ?_
      rintro e w' ⟨rfl, rfl⟩
      go_wp2
      go_ret
      rw [Hx.out]
      exact ⟨ret_val (congrArg Value.string (append_mk _ _)), rfl⟩
theorem headD_eq (s : ByteArray) (h : 0 < s.size) : s.data.toList.headD 0 = s[0] := by
  rw [← getElem_toList s 0 h, List.headD_eq_head?_getD, List.head?_eq_getElem?, List.getElem?_eq_getElem (by simpa using h)]
  rfl

end Go.Proofs.YtpepgmccbkkaaaaGreatDoor

/- Walks of package decimal: values, nonzero, Zero. -/
namespace Go.Proofs.YtpepgmccbkkaaaaGreatDoor
open Go Go.RowKit
set_option maxRecDepth 10000

theorem elem_bytes : Elem Tryz.prog 63 5 (.int .u8 0) 1 1 :=
  ⟨Tryz.underlying63, info_parts (by kernel_rfl), rfl, by decide, by decide⟩

/-- the values of digits as cells -/
def digs (l : List UInt8) : List Value := l.map fun c => .int .u8 ((c.toNat : Int) - 48)

def ValuesPost (l : List UInt8) (w : World) (e : Ending) (w' : World) : Prop :=
  (if l.all isDig then ∃ v, e = .returned (.tuple #[v, .bool true]) ∧ w'.ownsRow w.heap.size 5 1 v l.length (digs l) else e = .returned (.tuple #[.slice none 0 0, .bool false])) ∧ Below w.heap.size w w'

theorem cell_made (w : World) (c : Array Value) (t : TypeId) (fr : Nat × Nat) (i : Nat) : (w.alloc (.cells c t fr)).cell? ⟨w.heap.size, i, none⟩ = c[i]? := by
  show (match (w.heap.push (.cells c t fr))[w.heap.size]? with | some (.cells c _ _) => c[i]? | _ => none) = _
  simp

theorem digit_yes (c : UInt8) (h : isDig c = true) : IntKind.u8.wrap ((c.toNat : Int) - 48) = (c.toNat : Int) - 48 ∧ (c.toNat : Int) - 48 ≤ 9 := by
  have := (isDig_iff _).1 h
  refine ⟨?_, by omega⟩
  simp only [IntKind.wrap, IntKind.signed, IntKind.bits]
  simp
  omega
theorem digit_no (c : UInt8) (h : isDig c = false) : 9 < ((c.toNat : Int) - 48) % 256 := by
  have := (isDig_false _).1 h
  have := c.toNat_lt
  omega

set_option maxHeartbeats 800000 in
theorem values_any (s : ByteArray) (w : World) (hs : s.size ≤ 1000000) :
    Calls Tryz.prog 40 #[.string s] w (ValuesPost s.data.toList w) := by
  have hcv := fun w s => run_bytes_of_string (P := Tryz.prog) w 9 63 5 s Tryz.underlying9 Tryz.underlying63 Tryz.underlying5
  obtain ⟨i, hi, hz, h2, h3⟩ := elem_bytes.info
  go_enter Tryz.func40, Tryz.ntmps40
  go_wp2_with (refine wpList_make_own _ rfl _ _ _ rfl w.heap.size _ i _ 1 elem_bytes.under hi hz h2 .i64 .i64 _ s.size rfl rfl ?c1 ?c2 ?c3 ?c4 ?_)
  case c1 => first | rfl | simp
  case c2 => rw [h3]; omega
  case c3 => unfold maxLen; omega
  case c4 => simp
  intro w1 hown0 hg1
  go_wp2
  refine wp_gen ?_
  intro wc hwc
  have hsz : wc.heap.size = w1.heap.size + 1 := by rw [hwc]; simp
  have hb1 : Below w.heap.size w w1 := (Below.refl _ _).grown hg1 (Nat.le_refl _) (by simp)
  have hb0 : Below w.heap.size w wc := by rw [hwc]; exact (Below.drew hb1).alloc hb1.size _
  have hcell : ∀ j (hj : j < s.size), wc.cell? ⟨w1.heap.size, j, none⟩ = some (.int .u8 (s[j].toNat : Int)) := by
    intro j hj
    rw [hwc]
    have := bytesRow_at s (grownCap w1 s.size 0 5) j hj
    show (w1.alloc _).cell? _ = _
    rw [cell_made]
    exact this
  have hownc : wc.ownsRow w.heap.size 5 1 (Value.slice (some ⟨w.heap.size, 0, none⟩) 0 s.size) 0 [] := by rw [hwc]; exact (World.ownsRow.drew hown0).alloc _
  have hw1 := hb1.size
  have hlt1 := (hown0.lt w.heap.size rfl).2
  clear hwc hown0 hg1
  go_loopw [4, 14] (fun v i wr => ∃ k : Nat, k ≤ s.size ∧ i = .int .i64 k ∧ v = .slice (some ⟨w.heap.size, 0, none⟩) k s.size ∧ wr.ownsRow w.heap.size 5 1 v k (digs (s.data.toList.take k)) ∧ Below w.heap.size w wr ∧ (s.data.toList.take k).all isDig = true ∧ (w1.heap.size < wr.heap.size) ∧ ∀ j (hj : j < s.size), wr.cell? ⟨w1.heap.size, j, none⟩ = some (.int .u8 (s[j].toNat : Int))) (fun _ i _ => s.size - (intOf i).toNat)
  case atStart => exact ⟨0, by omega, rfl, rfl, by simpa [digs] using hownc, hb0, by simp, by omega, hcell⟩
  case round =>
    obtain ⟨k, hk, rfl, hv, hown, hb, hH, hws, hcell⟩ := hrel
    have HH := Lib.hid hH
    have HV := Lib.hid hv
    clear hH hv
    by_cases hlt : k < s.size
    · have hc := hcell k hlt
      by_cases hd : isDig s[k] = true
      · obtain ⟨hy, hy9⟩ := digit_yes _ hd
        have HD := Lib.hid hd
        clear hd
        have hown2 : wr.ownsRow w.heap.size 5 1 (.slice (some ⟨w.heap.size, 0, none⟩) k s.size) k (digs (s.data.toList.take k)) := by rw [← HV.out]; exact hown
        go_wp2_with (at_builtin; refine wpList_append_own_spare _ rfl _ _ _ rfl w.heap.size _ i 1 elem_bytes.under hi h2 w.heap.size k s.size (digs (s.data.toList.take k)) HV.out (hown2.alloc _) ⟨wr.heap.size, 0, none⟩ 1 1 [.int .u8 ((s[k].toNat : Int) - 48)] rfl rfl ?c1 ?c2 ?c3 ?_)
        case c1 => exact cells_one (by simp)
        case c2 => intro u hu; simp at hu; subst hu; rfl
        case c3 => omega
        intro w2 hown3 hgrow
        have hw2 := hgrow.size
        have hts := all_snoc HH.out HD.out
        rw [← take_snoc s k hlt] at hts
        have HT := Lib.hid hts
        clear hts
        go_wp2
        go_roundw
        case rel =>
          refine ⟨k + 1, by omega, by go_num, rfl, ?_, ((hb.alloc hb.size _).grown hgrow (by have := hb.size; simp; omega) (fun q hq => by cases hq; exact Nat.le_refl _)), HT.out, ?_, ?_⟩
          · rw [take_snoc s k hlt]
            simpa [digs] using hown3
          · simp at hw2; omega
          · intro j hj
            refine hgrow.cell ?_ (by simp; omega)
            rw [World.cell?_alloc_lt _ _ _ hws]
            exact hcell j hj
        case measure => simp [intOf]; omega
      · have hd' : isDig s[k] = false := by simpa using hd
        have hn := digit_no _ hd'
        have hfin : s.data.toList.all isDig = false := all_false_of s k hlt hd'
        have HF := Lib.hid hfin
        clear hfin hd hd'
        go_wp2
        go_ret2
        refine ⟨by rw [HF.out]; rfl, hb⟩
    · have hk' : k = s.size := by omega
      subst hk'
      have HA := HH.out
      rw [take_all] at HA
      rw [take_all] at hown
      have HF := Lib.hid HA
      clear HA HH
      go_wp2
      go_ret2
      refine ⟨?_, hb⟩
      rw [if_pos HF.out, size_toList]
      exact ⟨_, rfl, hown⟩

theorem nonzero_any (d : Int) (w : World) : Calls Tryz.prog 58 #[.int .u8 d] w fun e w' => e = .returned (.bool (d != 0)) ∧ w = w' := by
  go_enter Tryz.func58, Tryz.ntmps58
  go_wp2
  go_ret
  exact ⟨rfl, rfl⟩

theorem any_of {l : List Int} {k : Nat} (h : k < l.length) (hn : (l[k] != 0) = true) : l.any (· != 0) = true := List.any_eq_true.2 ⟨l[k], List.getElem_mem h, hn⟩
theorem any_snoc {l : List Int} {k : Nat} (h : k < l.length) (hz : (l.take k).any (· != 0) = false) (hn : (l[k] != 0) = false) : (l.take (k + 1)).any (· != 0) = false := by
  rw [List.take_succ_eq_append_getElem h, List.any_append, hz]
  simpa using hn

def BytesAt (w : World) (a : Option Addr) (l : List Int) : Prop := ∀ j (h : j < l.length), ∃ b, a = some b ∧ w.cell? (b.add j) = some (.int .u8 l[j])

theorem BytesAt.alloc {w : World} {a : Option Addr} {l : List Int} (h : BytesAt w a l) (o : Obj) : BytesAt (w.alloc o) a l := fun j hj => by
  obtain ⟨b, hb, hc⟩ := h j hj
  refine ⟨b, hb, ?_⟩
  rw [World.cell?_alloc_some _ _ _ (by rw [hc]; rfl)]
  exact hc

set_option maxHeartbeats 400000 in
theorem indexNZ_any (l : List Int) (a : Option Addr) (c : Nat) (w : World) (hl : l.length ≤ 1000000) (hc : BytesAt w a l) :
    Calls Tryz.prog 76 #[.slice a l.length c, .func (.func 58) #[] #[]] w fun e w' => (∃ n : Int, e = .returned (.int .i64 n) ∧ decide (0 ≤ n) = l.any (· != 0)) ∧ w = w' := by
  go_enter Tryz.func76, Tryz.ntmps76
  go_wp2
  go_loop [8] (fun i => ∃ k : Nat, k ≤ l.length ∧ i = .int .i64 k ∧ (l.take k).any (· != 0) = false) (fun i => l.length - (intOf i).toNat)
  case atStart => exact ⟨0, by omega, rfl, by simp⟩
  case round =>
    obtain ⟨k, hk, rfl, hz⟩ := hrel
    have HZ := Lib.hid hz
    clear hz
    by_cases hlt : k < l.length
    · obtain ⟨b, rfl, hcell⟩ := hc k hlt
      go_wp2_with fail
      refine (nonzero_any _ _).mono ?_
      rintro e w' ⟨rfl, rfl⟩
      by_cases hn : (l[k] != 0) = true
      · have HF := Lib.hid (any_of hlt hn)
        go_wp2
        go_ret
        exact ⟨⟨_, rfl, by rw [HF.out]; simp⟩, rfl⟩
      · have hn' : (l[k] != 0) = false := by simpa using hn
        have HF := Lib.hid (any_snoc hlt HZ.out hn')
        clear hn
        go_wp2
        go_round
        case rel => exact ⟨k + 1, by omega, by go_num, HF.out⟩
        case measure => simp [intOf]; omega
    · have hk' : k = l.length := by omega
      subst hk'
      have hz := HZ.out
      rw [List.take_length] at hz
      have HF := Lib.hid hz
      clear hz HZ
      go_wp2
      go_ret
      exact ⟨⟨_, rfl, by rw [HF.out]; rfl⟩, rfl⟩

theorem containsNZ_any (l : List Int) (a : Option Addr) (c : Nat) (w : World) (hl : l.length ≤ 1000000) (hc : BytesAt w a l) :
    Calls Tryz.prog 57 #[.slice a l.length c, .func (.func 58) #[] #[]] w fun e w' => e = .returned (.bool (l.any (· != 0))) ∧ w = w' := by
  go_enter Tryz.func57, Tryz.ntmps57
  go_wp2_with fail
  refine (indexNZ_any l a c w hl hc).mono ?_
  rintro e w' ⟨⟨n, rfl, hn⟩, rfl⟩
  go_wp2
  go_ret
  exact ⟨rfl, rfl⟩

theorem zero_any (l : List Int) (a : Option Addr) (c : Nat) (b : Bool) (sc : Int) (w : World) (hl : l.length ≤ 1000000) (hc : BytesAt w a l) :
    Calls Tryz.prog 41 #[.agg #[.bool b, .slice a l.length c, .int .i64 sc]] w fun e w' => e = .returned (.bool (!l.any (· != 0))) ∧ Below w.heap.size w w' := by
  go_enter Tryz.func41, Tryz.ntmps41
  go_wp2_with fail
  refine (containsNZ_any l a c _ hl (hc.alloc _)).mono ?_
  rintro e w' ⟨rfl, rfl⟩
  go_wp2
  go_ret
  exact ⟨rfl, (Below.refl _ _).alloc (Nat.le_refl _) _⟩
end Go.Proofs.YtpepgmccbkkaaaaGreatDoor

/- strings.Cut at one byte. -/
namespace Go.Proofs.YtpepgmccbkkaaaaGreatDoor
open Go Go.RowKit
set_option maxRecDepth 10000

theorem indexByte_eq (c : UInt8) : ∀ l : List UInt8, Lib.indexByte l c = if l.idxOf c < l.length then ((l.idxOf c : Nat) : Int) else -1
  | [] => rfl
  | b :: l => by
    have ih := indexByte_eq c l
    rw [Lib.indexByte, ih, List.idxOf_cons]
    by_cases h : b == c
    · simp [h]
    · simp only [h, cond_false, List.length_cons]
      by_cases h2 : l.idxOf c < l.length
      · rw [if_pos h2, if_pos (show l.idxOf c + 1 < l.length + 1 by omega)]
        have h3 : (((l.idxOf c : Nat) : Int) == -1) = false := by rw [beq_eq_false_iff_ne]; omega
        rw [h3]
        simp
      · rw [if_neg h2, if_neg (show ¬ (l.idxOf c + 1 < l.length + 1) by omega)]
        simp

set_option maxHeartbeats 800000 in
theorem liteCut_any (s : ByteArray) (c : UInt8) (w : World) (hs : s.size ≤ 1000000) :
    Calls Tryz.prog 56 #[.string s, .string ⟨#[c]⟩] w fun e w' =>
      e = .returned (.tuple #[.string ⟨(s.data.toList.take (s.data.toList.idxOf c)).toArray⟩, .string ⟨(s.data.toList.drop (s.data.toList.idxOf c + 1)).toArray⟩, .bool (decide (s.data.toList.idxOf c < s.size))]) ∧ ∃ n, w' = w.drewN n := by
  have hx := indexByte_eq c s.data.toList
  rw [size_toList] at hx
  have HX := Lib.hid hx
  clear hx
  go_enter Tryz.func56, Tryz.ntmps56
  go_wp2_with fail
  refine (Tryz.stringslite_Index_one s c _).mono ?_
  rw [HX.out]
  rintro e w' ⟨rfl, rfl⟩
  by_cases hlt : s.data.toList.idxOf c < s.size
  · rw [if_pos hlt]
    generalize hk : s.data.toList.idxOf c = k at hlt
    have HK := Lib.hid hk
    clear hk
    have hr : (k + 1 : Nat) ≤ s.size := hlt
    go_wp2_with fail
    go_quiet (fail)
    go_wp2
    go_ret3
    rw [extract_take, extract_drop, HK.out]
    exact ⟨by simp [hlt], nq, rfl⟩
  · rw [if_neg hlt]
    have hi : s.data.toList.idxOf c = s.size := by have := List.idxOf_le_length (a := c) (l := s.data.toList); simp only [size_toList] at this; omega
    have Hi := Lib.hid hi
    clear hi hlt
    go_wp2
    go_ret3
    rw [Hi.out, take_all, mk_toList, List.drop_of_length_le (by simp)]
    exact ⟨by simp, 0, rfl⟩
end Go.Proofs.YtpepgmccbkkaaaaGreatDoor

/- Regions that draw their order: what only reads is taken first, in an order that the prover names; what is left goes one by one. -/
namespace Go.Proofs.YtpepgmccbkkaaaaGreatDoor
open Go Go.RowKit

section
variable {P : Program} {ops : Array Oper} {Q : Exit → Act → World → Prop} {md : Region.Mode} {S : World → Prop}

/-- an operation of a list, so that it is laid bare by reckoning -/
def nthOp : List Oper → Nat → Option Oper
  | [], _ => none
  | o :: _, 0 => some o
  | _ :: l, n + 1 => nthOp l n

theorem nthOp_eq : ∀ (l : List Oper) (i : Nat), nthOp l i = l.toArray[i]?
  | [], i => by simp [nthOp]
  | o :: l, 0 => by simp [nthOp]
  | o :: l, n + 1 => by simpa [nthOp] using nthOp_eq l n

/-- the operations of a list are run one by one, each yields one value in every world that meets S -/
def takes (P : Program) (ops : Array Oper) (S : World → Prop) (K : Act → Prop) : List Nat → Act → Prop
  | [], a => K a
  | i :: is, a => ∃ o v, ops[i]? = some o ∧ YieldsIf P ops S o v a ∧ takes P ops S K is (a.put o.dst v)

/-- may they be taken so? -/
def takesB (md : Region.Mode) (ops : Array Oper) : List Nat → Array Bool → Bool
  | [], _ => true
  | i :: is, listed => Region.free md ops listed i && (Region.ready md ops listed).contains i && takesB md ops is (listed.setIfInBounds i true)

def markAll (listed : Array Bool) (is : List Nat) : Array Bool := is.foldl (fun l i => l.setIfInBounds i true) listed

theorem takes_yes {K : Act → Prop} {l : List Oper} {i : Nat} {is : List Nat} {a : Act} {o : Oper} {v : Value} (ho : nthOp l i = some o) (hw : Region.wanted o (yielded l.toArray a.tmps) = true)
    (hy : ∀ w, S w → (execOp a.eval o).run P w = .ok (.value v) w) (h : takes P l.toArray S K is (a.put o.dst v)) : takes P l.toArray S K (i :: is) a :=
  ⟨o, v, (nthOp_eq l i).symm.trans ho, .inl ⟨hw, hy⟩, h⟩

theorem takes_no {K : Act → Prop} {l : List Oper} {i : Nat} {is : List Nat} {a : Act} {o : Oper} (ho : nthOp l i = some o) (hw : Region.wanted o (yielded l.toArray a.tmps) = false)
    (h : takes P l.toArray S K is (a.put o.dst undef)) : takes P l.toArray S K (i :: is) a :=
  ⟨o, undef, (nthOp_eq l i).symm.trans ho, .inr ⟨hw, rfl⟩, h⟩

theorem takes_nil {K : Act → Prop} {a : Act} (h : K a) : takes P ops S K [] a := h

theorem wpAnyH_takes (hQ : ∀ c a d v w, Q (.panic c) (a.put d v) w → Q (.panic c) a w) (hs : Region.noSelect ops = true) {w : World} (hS : S w) {fuel : Nat} :
    ∀ (is : List Nat) (listed : Array Bool) (a : Act), takesB md ops is listed = true →
      takes P ops S (fun a' => wpAnyH P md ops Q S fuel (markAll listed is) a' w) is a → wpAnyH P md ops Q S (fuel + is.length) listed a w
  | [], _, _, _, h => h
  | i :: is, listed, a, hB, ⟨o, v, ho, hy, h⟩ => by
    simp only [takesB, Bool.and_eq_true] at hB
    rw [List.length_cons, ← Nat.add_assoc]
    exact wpAnyH_take ho hs hB.1.1 hB.1.2 (fun c a w => hQ c a o.dst v w) hy hS (wpAnyH_takes hQ hs hS is _ _ hB.2 h)

/-- the beginning: a region whose operations 'is' are taken first; 'fuel' are left -/
theorem wp_region_takes {id : Nat} {l : List Oper} {a : Act} {w : World} (S : World → Prop) (is : List Nat) (fuel : Nat) (hQ : ∀ c a d v w, Q (.panic c) (a.put d v) w → Q (.panic c) a w)
    (hm : P.follows .mixedOrders = true) (hn : (Region.noSelect l.toArray && decide (l.length = fuel + is.length) && takesB .any l.toArray is (Array.replicate l.toArray.size false)) = true) (hS : S w.drew)
    (h : takes P l.toArray S (fun a' => wpAnyH P .any l.toArray Q S fuel (markAll (Array.replicate l.toArray.size false) is) a' w.drew) is a) : (Code.region id l.toArray true).wp P Q a w := by
  simp only [Bool.and_eq_true, decide_eq_true_eq] at hn
  refine wp_region_held (S := S) hm ?_
  have h1 := wpAnyH_takes (Q := Q) (md := .any) (ops := l.toArray) hQ hn.1.1 hS is _ a hn.2 h
  have h2 : l.toArray.size = fuel + is.length := by simpa using hn.1.2
  rw [h2]
  rw [h2] at h1
  exact h1

/-- more are taken, behind an operation that was carried out -/
theorem wpAnyH_more {w : World} (is : List Nat) (fuel : Nat) {f : Nat} {listed : Array Bool} {a : Act} (hf : f = fuel + is.length) (hQ : ∀ c a d v w, Q (.panic c) (a.put d v) w → Q (.panic c) a w)
    (hs : Region.noSelect ops = true) (hB : takesB md ops is listed = true) (hS : S w)
    (h : takes P ops S (fun a' => wpAnyH P md ops Q S fuel (markAll listed is) a' w) is a) : wpAnyH P md ops Q S f listed a w := by
  subst hf
  exact wpAnyH_takes hQ hs hS is listed a hB h

/-- the only one that may come up now -/
theorem wpAnyH_only {l : List Oper} {w : World} (i : Nat) {fuel : Nat} {listed : Array Bool} {a : Act} {o : Oper} (hr : Region.ready md l.toArray listed = [i]) (ho : nthOp l i = some o)
    (h : ∀ K' : Act → World → Prop, Shut (∀ a w, S w → (S w → wpAnyH P md l.toArray Q S fuel (listed.setIfInBounds i true) a w) → K' a w) → if Region.wanted o (yielded l.toArray a.tmps) = true then Oper.wp P o a w K' Q else K' (a.put o.dst undef) w) :
    wpAnyH P md l.toArray Q S (fuel + 1) listed a w :=
  wpAnyH_ready hr (by simp) (AllReadyH.cons ((nthOp_eq l i).symm.trans ho) h AllReadyH.nil)
end
end Go.Proofs.YtpepgmccbkkaaaaGreatDoor

/- phrasesref.NumOf: the number that a text is. -/
namespace Go.Proofs.YtpepgmccbkkaaaaGreatDoor
open Go Go.RowKit
set_option maxRecDepth 10000

/-- a text behind its minus -/
def absL (l : List UInt8) : List UInt8 := if l.head? = some 45 then l.tail else l
def negL (l : List UInt8) : Bool := l.head? == some 45
def wholeL (l : List UInt8) : List UInt8 := (absL l).take ((absL l).idxOf 46)
def fracL (l : List UInt8) : List UInt8 := (absL l).drop ((absL l).idxOf 46 + 1)
def pointL (l : List UInt8) : Bool := decide ((absL l).idxOf 46 < (absL l).length)
/-- digits, a point with digits or none, not too many -/
def formL (l : List UInt8) : Bool := numeralsL (wholeL l) && (!(pointL l) || numeralsL (fracL l)) && decide ((wholeL l).length + (fracL l).length ≤ 30)
def isNumL (l : List UInt8) : Bool :=
  formL l && !(decide (1 < (wholeL l).length) && ((wholeL l).headD 0 == 48)) && !(negL l && (wholeL l ++ fracL l).all (· == 48))

def NumPost (l : List UInt8) (w : World) (e : Ending) (w' : World) : Prop :=
  e = .returned (.tuple #[.agg #[.bool (negL l), strv (wholeL l), strv (fracL l)], .bool (isNumL l)]) ∧ Below w.heap.size w w'

theorem notNum {l wh fr : List UInt8} {pt : Bool} (hW : wholeL l = wh) (hF : fracL l = fr) (hP : pointL l = pt) (h : ¬ (numeralsL wh = true ∧ (pt = true → numeralsL fr = true) ∧ wh.length + fr.length ≤ 30)) : isNumL l = false := by
  have hf : formL l = false := by
    rw [← Bool.not_eq_true]
    intro hf
    unfold formL at hf
    rw [hW, hF, hP] at hf
    simp only [Bool.and_eq_true, Bool.or_eq_true, Bool.not_eq_true', decide_eq_true_eq] at hf
    refine h ⟨hf.1.1, fun hp => ?_, hf.2⟩
    rcases hf.1.2 with h1 | h1
    · rw [h1] at hp; cases hp
    · exact h1
  simp [isNumL, hf]

theorem neg_cases (s : ByteArray) : (negL s.data.toList = true ∧ (0 < s.size ∧ ∀ h : 0 < s.size, ((s[0].toNat : Int) == 45) = true) ∧ (s.extract 1 s.size).data.toList = absL s.data.toList) ∨
      (negL s.data.toList = false ∧ (0 < s.size ∧ ∀ h : 0 < s.size, ((s[0].toNat : Int) == 45) = false) ∧ s.data.toList = absL s.data.toList) ∨
      (negL s.data.toList = false ∧ ¬ (0 < s.size) ∧ s.data.toList = absL s.data.toList) := by
  by_cases h0 : 0 < s.size
  · have h1 : s.data.toList.head? = some s[0] := by
      rw [List.head?_eq_getElem?, List.getElem?_eq_getElem (by simpa using h0), getElem_toList s 0 h0]
    have h2 := toNat_beq s[0] 45
    have h3 : ((45 : UInt8).toNat : Int) = 45 := rfl
    rw [h3] at h2
    by_cases h4 : s[0] = 45
    · refine .inl ⟨by simp [negL, h1, h4], ⟨h0, fun _ => by rw [h2]; simp [h4]⟩, ?_⟩
      rw [extract_drop]
      simp [absL, h1, h4]
    · refine .inr (.inl ⟨by simp [negL, h1, h4], ⟨h0, fun _ => by rw [h2]; simp [h4]⟩, ?_⟩)
      simp [absL, h1, h4]
  · have h1 : s.data.toList = [] := List.eq_nil_of_length_eq_zero (by rw [size_toList]; omega)
    exact .inr (.inr ⟨by simp [negL, h1], h0, by simp [absL, h1]⟩)

theorem isNum_of {l wh fr : List UInt8} {b : Bool} (hW : wholeL l = wh) (hF : fracL l = fr) (hB : negL l = b) (hfo : formL l = true) :
    isNumL l = (!(decide (1 < wh.length) && (wh.headD 0 == 48)) && !(b && (wh ++ fr).all (· == 48))) := by
  simp [isNumL, hfo, hW, hF, hB]

theorem head48 (wh : List UInt8) (h : 0 < (ByteArray.mk wh.toArray).size) : (wh.headD 0 == 48) = (((ByteArray.mk wh.toArray)[0].toNat : Int) == 48) := by
  have h1 := headD_eq ⟨wh.toArray⟩ h
  rw [toList_mk] at h1
  have h2 := toNat_beq (ByteArray.mk wh.toArray)[0] 48
  have h3 : ((48 : UInt8).toNat : Int) = 48 := rfl
  rw [h3] at h2
  rw [h1, h2]
  exact Bool.beq_eq_decide_eq _ _

theorem form_of {l wh fr : List UInt8} {pt : Bool} (hW : wholeL l = wh) (hF : fracL l = fr) (hP : pointL l = pt) (h1 : numeralsL wh = true) (h2 : pt = true → numeralsL fr = true) (h3 : ¬ ((30 : Int) < (wh.length : Int) + (fr.length : Int))) : formL l = true := by
  unfold formL
  rw [hW, hF, hP, h1]
  have h4 : wh.length + fr.length ≤ 30 := by omega
  cases pt
  · simp [h4]
  · simp [h4, h2 rfl]

theorem cut_list (s : ByteArray) (l : List UInt8) (hl : s.data.toList = l) (c : UInt8) (w : World) (hs : s.size ≤ 2000000000) :
    Calls Tryz.prog 22 #[.string s, .int .u8 c.toNat] w fun e w' =>
      e = .returned (.tuple #[strv (l.take (l.idxOf c)), strv (l.drop (l.idxOf c + 1)), .bool (decide (l.idxOf c < l.length))]) ∧ ∃ n, w' = w.drewN n := by
  subst hl
  have := cut_any s c w hs
  rw [← size_toList s] at this
  exact this

theorem numerals_list (l : List UInt8) (w : World) (hs : l.length ≤ 2000000000) :
    Calls Tryz.prog 23 #[strv l] w fun e w' => e = .returned (.bool (numeralsL l)) ∧ w = w' := by
  have := numerals_any ⟨l.toArray⟩ w (by rw [size_mk]; omega)
  rw [toList_mk] at this
  exact this

theorem nought_list (s : ByteArray) (l : List UInt8) (hl : s.data.toList = l) (w : World) (hs : s.size ≤ 2000000000) :
    Calls Tryz.prog 24 #[.string s] w fun e w' => e = .returned (.bool (l.all (· == 48))) ∧ w = w' := by
  subst hl
  exact nought_any s w (by omega)

set_option maxHeartbeats 4000000 in
theorem numOf_any (s : ByteArray) (w : World) (hs : s.size ≤ 1000000) :
    Calls Tryz.prog 15 #[.string s] w (NumPost s.data.toList w) := by
  have hlen : (absL s.data.toList).length ≤ s.size := by unfold absL; split <;> simp
  have hcase : (negL s.data.toList = true ∧ (0 < s.size ∧ ∀ h : 0 < s.size, ((s[0].toNat : Int) == 45) = true) ∧ (s.extract 1 s.size).data.toList = absL s.data.toList) ∨
      (negL s.data.toList = false ∧ (0 < s.size ∧ ∀ h : 0 < s.size, ((s[0].toNat : Int) == 45) = false) ∧ s.data.toList = absL s.data.toList) ∨
      (negL s.data.toList = false ∧ ¬ (0 < s.size) ∧ s.data.toList = absL s.data.toList) := neg_cases s
  generalize hal : absL s.data.toList = al at hcase hlen
  have Hal := Lib.hid hal
  clear hal
  rcases hcase with ⟨hneg, ⟨hp, h45⟩, htl⟩ | ⟨hneg, ⟨hp, h45⟩, htl⟩ | ⟨hneg, hp, htl⟩
  all_goals
    have Hneg := Lib.hid hneg
    have Htl := Lib.hid htl
    clear hneg htl
    go_enter Tryz.func15, Tryz.ntmps15
    go_wp2_with fail
    refine (cut_list _ al Htl.out 46 _ (by first | omega | (simp; omega))).mono ?_
    rintro e w' ⟨rfl, nq, rfl⟩
    have hwl : (al.take (al.idxOf 46)).length + (al.drop (al.idxOf 46 + 1)).length ≤ s.size := by simp; omega
    have hW : wholeL s.data.toList = al.take (al.idxOf 46) := by rw [wholeL, Hal.out]
    have hF : fracL s.data.toList = al.drop (al.idxOf 46 + 1) := by rw [fracL, Hal.out]
    have hP : pointL s.data.toList = decide (al.idxOf 46 < al.length) := by rw [pointL, Hal.out]
    generalize al.take (al.idxOf 46) = wh at hW hwl ⊢
    generalize al.drop (al.idxOf 46 + 1) = fr at hF hwl ⊢
    generalize decide (al.idxOf 46 < al.length) = pt at hP ⊢
    have HW := Lib.hid hW
    have HF := Lib.hid hF
    have HP := Lib.hid hP
    clear hW hF hP
    go_wp2_with fail
    refine (numerals_list wh _ (by omega)).mono ?_
    rintro e w' ⟨rfl, rfl⟩
    go_wp2_with fail
    refine (numerals_list fr _ (by omega)).mono ?_
    rintro e w' ⟨rfl, rfl⟩
    go_wp2_with fail
    refine (nought_list _ (wh ++ fr) (by rw [append_mk, toList_mk]) _ (by rw [append_mk, size_mk]; simp; omega)).mono ?_
    rintro e w' ⟨rfl, rfl⟩
    go_wp2_with fail
    all_goals try (with_reducible refine wp_gen ?_)
    all_goals first
      | intro W hW
      | (have hnn : ¬ (numeralsL wh = true ∧ (pt = true → numeralsL fr = true) ∧ wh.length + fr.length ≤ 30) := (by first | exact (fun h => absurd h.1 (by assumption)) | exact (fun h => absurd (h.2.1 (by assumption)) (by assumption)) | (intro h; have h3 : (30 : Int) < (wh.length : Int) + (fr.length : Int) := (by assumption); omega))
         refine bodyPost_ret (v := .tuple #[.agg #[.bool (negL s.data.toList), strv wh, strv fr], .bool false]) ?_ rfl ?_
         focus (simp [results, Tryz.results15, go_sem, Hneg.out])
         refine ⟨by rw [HW.out, HF.out, notNum HW.out HF.out HP.out hnn], ?_⟩
         (repeat (first | (with_reducible exact Below.refl _ _) | (with_reducible refine below_drewN ?_ _) | (with_reducible refine Below.drew ?_) | (with_reducible refine Below.alloc ?_ ?_ _; rotate_left; focus (first | (simp; done) | (simp; omega))) | (with_reducible refine Below.setCell ?_ ?_ _; rotate_left; focus (first | (simp; done) | (simp; omega)))))
         done)
    all_goals
      have hb : Below w.heap.size w W := by rw [hW]; (repeat (first | (with_reducible exact Below.refl _ _) | (with_reducible refine below_drewN ?_ _) | (with_reducible refine Below.drew ?_) | (with_reducible refine Below.alloc ?_ ?_ _; rotate_left; focus (first | (simp; done) | (simp; omega))) | (with_reducible refine Below.setCell ?_ ?_ _; rotate_left; focus (first | (simp; done) | (simp; omega)))))
      have hsz : W.heap.size = w.heap.size + 2 := by rw [hW]; simp
      have hx0 : W.cell? ⟨w.heap.size + 1, 0, none⟩ = some (.bool (negL s.data.toList)) := by rw [hW]; go_simp; simp [Hneg.out]
      have hx1 : W.cell? ⟨w.heap.size + 1, 1, none⟩ = some (strv wh) := by rw [hW]; go_simp
      have hx2 : W.cell? ⟨w.heap.size + 1, 2, none⟩ = some (strv fr) := by rw [hW]; go_simp
      have hr0 : W.cell? ⟨w.heap.size, 0, none⟩ = some (.bool false) := by rw [hW]; go_simp
      have hr1 : W.cell? ⟨w.heap.size, 1, none⟩ = some (strv []) := by rw [hW]; go_simp
      have hr2 : W.cell? ⟨w.heap.size, 2, none⟩ = some (strv []) := by rw [hW]; go_simp
      have hf0 : W.frozen? ⟨w.heap.size, 0, none⟩ = false := by rw [hW]; go_simp
      have hf1 : W.frozen? ⟨w.heap.size, 1, none⟩ = false := by rw [hW]; go_simp
      have hf2 : W.frozen? ⟨w.heap.size, 2, none⟩ = false := by rw [hW]; go_simp
      clear hW
      clear Hal Htl
      have hn1 : numeralsL wh = true := by assumption
      have hn2 : ¬ ((30 : Int) < (wh.length : Int) + (fr.length : Int)) := by omega
      have hpos : 0 < wh.length := by
        cases wh with
        | nil => simp [numeralsL] at hn1
        | cons x l => simp
      have hsz0 : 0 < (ByteArray.mk wh.toArray).size := by rw [size_mk]; exact hpos
      have hfo : formL s.data.toList = true := form_of HW.out HF.out HP.out hn1 (by first | exact fun _ => by assumption | exact fun h => absurd h (by assumption)) hn2
      have Hfo := Lib.hid hfo
      clear hfo
      have h48 := head48 wh hsz0
      have H48 := Lib.hid h48
      clear h48
      generalize hbq : negL s.data.toList = b at Hneg hx0
      have HB := Lib.hid hbq
      have hbv := Hneg.out
      clear hbq
      have hS0 : W.drew.cell? ⟨w.heap.size + 1, 0, none⟩ = some (.bool b) ∧ W.drew.cell? ⟨w.heap.size + 1, 1, none⟩ = some (strv wh) ∧ W.drew.cell? ⟨w.heap.size + 1, 2, none⟩ = some (strv fr) := ⟨hx0, hx1, hx2⟩
      by_cases c1 : (1 : Int) < (wh.length : Int)
      · by_cases c2 : (((ByteArray.mk wh.toArray)[0].toNat : Int) == 48) = true
        · have hfin : isNumL s.data.toList = false := by
            rw [isNum_of HW.out HF.out HB.out Hfo.out, H48.out, c2]; simp; omega
          have Hfin := Lib.hid hfin
          clear hfin
          refine wp_region_takes (fun W' : World => W'.cell? ⟨w.heap.size + 1, 0, none⟩ = some (.bool b) ∧ W'.cell? ⟨w.heap.size + 1, 1, none⟩ = some (strv wh) ∧ W'.cell? ⟨w.heap.size + 1, 2, none⟩ = some (strv fr))
            [0, 1, 2, 3, 4, 5, 6, 7, 8, 9, 10, 11, 12, 13, 14, 15, 16, 17] 2 (by intro _ _ d _ _ h; cases d <;> exact h) (by kernel_rfl) (by kernel_rfl) hS0 ?_
          (iterate 18 (first | (refine takes_yes (v := ?_) rfl (by rfl) ?_ ?_; rotate_left; (focus ((intro w' hS'; (try dsimp only at hS'); go_simp; try (with_reducible rfl)); done)); (try simp only [Act.put, List.setIfInBounds_toArray, List.set_cons_zero, List.set_cons_succ])) | (refine takes_no rfl (by rfl) ?_; (try simp only [Act.put, List.setIfInBounds_toArray, List.set_cons_zero, List.set_cons_succ]))))
          refine takes_nil ?_
          refine wpAnyH_only 18 (by kernel_rfl) rfl (fun K hK => ?_)
          go_simp
          refine hK.out _ _ ?_ (fun _ => ?_)
          · simp [*, World.cell?_setCell_far]
          clear hK K
          refine wpAnyH_only 19 (by kernel_rfl) rfl (fun K hK => ?_)
          go_simp
          refine hK.out _ _ ?_ (fun _ => ?_)
          · simp [*, World.cell?_setCell_far]
          clear hK K
          refine wpAnyH_done (by kernel_rfl) ?_ _
          go_wp2
          refine bodyPost_ret (v := .tuple #[.agg #[.bool b, strv wh, strv fr], .bool false]) ?_ rfl ?_
          · simp [results, Tryz.results15, go_sem, *]
          · refine ⟨by rw [HW.out, HF.out, HB.out, Hfin.out], ?_⟩
            refine hb.trans ?_
            (repeat (first | (with_reducible exact Below.refl _ _) | (with_reducible refine below_drewN ?_ _) | (with_reducible refine Below.drew ?_) | (with_reducible refine Below.alloc ?_ ?_ _; rotate_left; focus (first | (simp; done) | (simp; omega))) | (with_reducible refine Below.setCell ?_ ?_ _; rotate_left; focus (first | (simp; done) | (simp; omega)))))
        · have c2' : (((ByteArray.mk wh.toArray)[0].toNat : Int) == 48) = false := by simpa using c2
          have hfin : isNumL s.data.toList = !(b && (wh ++ fr).all (· == 48)) := by
            rw [isNum_of HW.out HF.out HB.out Hfo.out, H48.out, c2']; simp
          have Hfin := Lib.hid hfin
          clear hfin c2
          refine wp_region_takes (fun W' : World => W'.cell? ⟨w.heap.size + 1, 0, none⟩ = some (.bool b) ∧ W'.cell? ⟨w.heap.size + 1, 1, none⟩ = some (strv wh) ∧ W'.cell? ⟨w.heap.size + 1, 2, none⟩ = some (strv fr))
            [0, 1, 2, 3, 4, 5, 6, 7, 8, 9, 10, 11, 12, 13, 14, 15, 16, 17] 2 (by intro _ _ d _ _ h; cases d <;> exact h) (by kernel_rfl) (by kernel_rfl) hS0 ?_
          (iterate 18 (first | (refine takes_yes (v := ?_) rfl (by rfl) ?_ ?_; rotate_left; (focus ((intro w' hS'; (try dsimp only at hS'); go_simp; try (with_reducible rfl)); done)); (try simp only [Act.put, List.setIfInBounds_toArray, List.set_cons_zero, List.set_cons_succ])) | (refine takes_no rfl (by rfl) ?_; (try simp only [Act.put, List.setIfInBounds_toArray, List.set_cons_zero, List.set_cons_succ]))))
          refine takes_nil ?_
          refine wpAnyH_only 18 (by kernel_rfl) rfl (fun K hK => ?_)
          go_simp
          refine hK.out _ _ ?_ (fun _ => ?_)
          · simp [*, World.cell?_setCell_far]
          clear hK K
          refine wpAnyH_only 19 (by kernel_rfl) rfl (fun K hK => ?_)
          go_simp
          refine hK.out _ _ ?_ (fun _ => ?_)
          · simp [*, World.cell?_setCell_far]
          clear hK K
          refine wpAnyH_done (by kernel_rfl) ?_ _
          go_wp2
          refine bodyPost_ret (v := .tuple #[.agg #[.bool b, strv wh, strv fr], .bool (!(b && (wh ++ fr).all (· == 48)))]) ?_ rfl ?_
          · simp [results, Tryz.results15, go_sem, *]
          · refine ⟨by rw [HW.out, HF.out, HB.out, Hfin.out], ?_⟩
            refine hb.trans ?_
            (repeat (first | (with_reducible exact Below.refl _ _) | (with_reducible refine below_drewN ?_ _) | (with_reducible refine Below.drew ?_) | (with_reducible refine Below.alloc ?_ ?_ _; rotate_left; focus (first | (simp; done) | (simp; omega))) | (with_reducible refine Below.setCell ?_ ?_ _; rotate_left; focus (first | (simp; done) | (simp; omega)))))
      · have hfin : isNumL s.data.toList = !(b && (wh ++ fr).all (· == 48)) := by
          rw [isNum_of HW.out HF.out HB.out Hfo.out, decide_eq_false (by omega)]; simp
        have Hfin := Lib.hid hfin
        clear hfin
        refine wp_region_takes (fun W' : World => W'.cell? ⟨w.heap.size + 1, 0, none⟩ = some (.bool b) ∧ W'.cell? ⟨w.heap.size + 1, 1, none⟩ = some (strv wh) ∧ W'.cell? ⟨w.heap.size + 1, 2, none⟩ = some (strv fr))
          [0, 1, 2, 3, 4, 5, 6, 7, 8, 9, 10, 11, 12, 13, 14, 15, 16, 17] 2 (by intro _ _ d _ _ h; cases d <;> exact h) (by kernel_rfl) (by kernel_rfl) hS0 ?_
        (iterate 18 (first | (refine takes_yes (v := ?_) rfl (by rfl) ?_ ?_; rotate_left; (focus ((intro w' hS'; (try dsimp only at hS'); go_simp; try (with_reducible rfl)); done)); (try simp only [Act.put, List.setIfInBounds_toArray, List.set_cons_zero, List.set_cons_succ])) | (refine takes_no rfl (by rfl) ?_; (try simp only [Act.put, List.setIfInBounds_toArray, List.set_cons_zero, List.set_cons_succ]))))
        refine takes_nil ?_
        refine wpAnyH_only 18 (by kernel_rfl) rfl (fun K hK => ?_)
        go_simp
        refine hK.out _ _ ?_ (fun _ => ?_)
        · simp [*, World.cell?_setCell_far]
        clear hK K
        refine wpAnyH_only 19 (by kernel_rfl) rfl (fun K hK => ?_)
        go_simp
        refine hK.out _ _ ?_ (fun _ => ?_)
        · simp [*, World.cell?_setCell_far]
        clear hK K
        refine wpAnyH_done (by kernel_rfl) ?_ _
        go_wp2
        refine bodyPost_ret (v := .tuple #[.agg #[.bool b, strv wh, strv fr], .bool (!(b && (wh ++ fr).all (· == 48)))]) ?_ rfl ?_
        · simp [results, Tryz.results15, go_sem, *]
        · refine ⟨by rw [HW.out, HF.out, HB.out, Hfin.out], ?_⟩
          refine hb.trans ?_
          (repeat (first | (with_reducible exact Below.refl _ _) | (with_reducible refine below_drewN ?_ _) | (with_reducible refine Below.drew ?_) | (with_reducible refine Below.alloc ?_ ?_ _; rotate_left; focus (first | (simp; done) | (simp; omega))) | (with_reducible refine Below.setCell ?_ ?_ _; rotate_left; focus (first | (simp; done) | (simp; omega)))))
end Go.Proofs.YtpepgmccbkkaaaaGreatDoor
