import Derived.Test.YtpepgmccbkkaaaaGreatDoorJ2
import Derived.Laws.IdiomStrings
import Derived.OwnWalk
import Derived.Deep.RegionHeld
import Derived.Deep.DeepAppendRoom

/- Walks of package decimal: values, nonzero, Zero. -/
namespace Go.Proofs.YtpepgmccbkkaaaaGreatDoor
open Go Go.RowKit
set_option maxRecDepth 10000

theorem elem_bytes : Elem Tryz.prog 63 5 (.int .u8 0) 1 1 :=
  ⟨Tryz.underlying63, info_parts (by kernel_rfl), rfl, by decide, by decide⟩

/-- the values of digits as cells -/
def digs (l : List UInt8) : List Value := l.map fun c => .int .u8 ((c.toNat : Int) - 48)

def ValuesPost (l : List UInt8) (w : World) (e : Ending) (w' : World) : Prop :=
  (if l.all isDig then ∃ v, e = .returned (.tuple #[v, .bool true]) ∧ w'.ownsRow w.heap.size 5 1 v l.length (digs l) else e = .returned (.tuple #[.slice none 0 0, .bool false])) ∧ Below w.heap.size w w'

theorem cell_made (w : World) (c : Array Value) (t : TypeId) (fr : Nat × Nat) (i : Nat) : (w.alloc (.cells c t fr)).cell? ⟨w.heap.size, i, none⟩ = c[i]? := by
  show (match (w.heap.push (.cells c t fr))[w.heap.size]? with | some (.cells c _ _) => c[i]? | _ => none) = _
  simp

theorem digit_yes (c : UInt8) (h : isDig c = true) : IntKind.u8.wrap ((c.toNat : Int) - 48) = (c.toNat : Int) - 48 ∧ (c.toNat : Int) - 48 ≤ 9 := by
  have := (isDig_iff _).1 h
  refine ⟨?_, by omega⟩
  simp only [IntKind.wrap, IntKind.signed, IntKind.bits]
  simp
  omega
theorem digit_no (c : UInt8) (h : isDig c = false) : 9 < ((c.toNat : Int) - 48) % 256 := by
  have := (isDig_false _).1 h
  have := c.toNat_lt
  omega

set_option maxHeartbeats 800000 in
theorem values_any (s : ByteArray) (w : World) (hs : s.size ≤ 1000000) :
    Calls Tryz.prog 40 #[.string s] w (ValuesPost s.data.toList w) := by
  have hcv := fun w s => run_bytes_of_string (P := Tryz.prog) w 9 63 5 s Tryz.underlying9 Tryz.underlying63 Tryz.underlying5
  obtain ⟨i, hi, hz, h2, h3⟩ := elem_bytes.info
  go_enter Tryz.func40, Tryz.ntmps40
  go_wp2_with (refine wpList_make_own _ rfl _ _ _ rfl w.heap.size _ i _ 1 elem_bytes.under hi hz h2 .i64 .i64 _ s.size rfl rfl ?c1 ?c2 ?c3 ?c4 ?_)
  case c1 => first | rfl | simp
  case c2 => rw [h3]; omega
  case c3 => unfold maxLen; omega
  case c4 => simp
  intro w1 hown0 hg1
  go_wp2
  refine wp_gen ?_
  intro wc hwc
  have hsz : wc.heap.size = w1.heap.size + 1 := by rw [hwc]; simp
  have hb1 : Below w.heap.size w w1 := (Below.refl _ _).grown hg1 (Nat.le_refl _) (by simp)
  have hb0 : Below w.heap.size w wc := by rw [hwc]; exact (Below.drew hb1).alloc hb1.size _
  have hcell : ∀ j (hj : j < s.size), wc.cell? ⟨w1.heap.size, j, none⟩ = some (.int .u8 (s[j].toNat : Int)) := by
    intro j hj
    rw [hwc]
    have := bytesRow_at s (grownCap w1 s.size 0 5) j hj
    show (w1.alloc _).cell? _ = _
    rw [cell_made]
    exact this
  have hownc : wc.ownsRow w.heap.size 5 1 (Value.slice (some ⟨w.heap.size, 0, none⟩) 0 s.size) 0 [] := by rw [hwc]; exact (World.ownsRow.drew hown0).alloc _
  have hw1 := hb1.size
  have hlt1 := (hown0.lt w.heap.size rfl).2
  clear hwc hown0 hg1
  go_loopw [4, 14] (fun v i wr => ∃ k : Nat, k ≤ s.size ∧ i = .int .i64 k ∧ v = .slice (some ⟨w.heap.size, 0, none⟩) k s.size ∧ wr.ownsRow w.heap.size 5 1 v k (digs (s.data.toList.take k)) ∧ Below w.heap.size w wr ∧ (s.data.toList.take k).all isDig = true ∧ (w1.heap.size < wr.heap.size) ∧ ∀ j (hj : j < s.size), wr.cell? ⟨w1.heap.size, j, none⟩ = some (.int .u8 (s[j].toNat : Int))) (fun _ i _ => s.size - (intOf i).toNat)
  case atStart => exact ⟨0, by omega, rfl, rfl, by simpa [digs] using hownc, hb0, by simp, by omega, hcell⟩
  case round =>
    obtain ⟨k, hk, rfl, hv, hown, hb, hH, hws, hcell⟩ := hrel
    have HH := Lib.hid hH
    have HV := Lib.hid hv
    clear hH hv
    by_cases hlt : k < s.size
    · have hc := hcell k hlt
      by_cases hd : isDig s[k] = true
      · obtain ⟨hy, hy9⟩ := digit_yes _ hd
        have HD := Lib.hid hd
        clear hd
        have hown2 : wr.ownsRow w.heap.size 5 1 (.slice (some ⟨w.heap.size, 0, none⟩) k s.size) k (digs (s.data.toList.take k)) := by rw [← HV.out]; exact hown
        go_wp2_with (at_builtin; refine wpList_append_own_spare _ rfl _ _ _ rfl w.heap.size _ i 1 elem_bytes.under hi h2 w.heap.size k s.size (digs (s.data.toList.take k)) HV.out (hown2.alloc _) ⟨wr.heap.size, 0, none⟩ 1 1 [.int .u8 ((s[k].toNat : Int) - 48)] rfl rfl ?c1 ?c2 ?c3 ?_)
        case c1 => exact cells_one (by simp)
        case c2 => intro u hu; simp at hu; subst hu; rfl
        case c3 => omega
        intro w2 hown3 hgrow
        have hw2 := hgrow.size
        have hts := all_snoc HH.out HD.out
        rw [← take_snoc s k hlt] at hts
        have HT := Lib.hid hts
        clear hts
        go_wp2
        go_roundw
        case rel =>
          refine ⟨k + 1, by omega, by go_num, rfl, ?_, ((hb.alloc hb.size _).grown hgrow (by have := hb.size; simp; omega) (fun q hq => by cases hq; exact Nat.le_refl _)), HT.out, ?_, ?_⟩
          · rw [take_snoc s k hlt]
            simpa [digs] using hown3
          · simp at hw2; omega
          · intro j hj
            refine hgrow.cell ?_ (by simp; omega)
            rw [World.cell?_alloc_lt _ _ _ hws]
            exact hcell j hj
        case measure => simp [intOf]; omega
      · have hd' : isDig s[k] = false := by simpa using hd
        have hn := digit_no _ hd'
        have hfin : s.data.toList.all isDig = false := all_false_of s k hlt hd'
        have HF := Lib.hid hfin
        clear hfin hd hd'
        go_wp2
        go_ret2
        refine ⟨by rw [HF.out]; rfl, hb⟩
    · have hk' : k = s.size := by omega
      subst hk'
      have HA := HH.out
      rw [take_all] at HA
      rw [take_all] at hown
      have HF := Lib.hid HA
      clear HA HH
      go_wp2
      go_ret2
      refine ⟨?_, hb⟩
      rw [if_pos HF.out, size_toList]
      exact ⟨_, rfl, hown⟩

theorem nonzero_any (d : Int) (w : World) : Calls Tryz.prog 58 #[.int .u8 d] w fun e w' => e = .returned (.bool (d != 0)) ∧ w = w' := by
  go_enter Tryz.func58, Tryz.ntmps58
  go_wp2
  go_ret
  exact ⟨rfl, rfl⟩

theorem any_of {l : List Int} {k : Nat} (h : k < l.length) (hn : (l[k] != 0) = true) : l.any (· != 0) = true := List.any_eq_true.2 ⟨l[k], List.getElem_mem h, hn⟩
theorem any_snoc {l : List Int} {k : Nat} (h : k < l.length) (hz : (l.take k).any (· != 0) = false) (hn : (l[k] != 0) = false) : (l.take (k + 1)).any (· != 0) = false := by
  rw [List.take_succ_eq_append_getElem h, List.any_append, hz]
  simpa using hn

def BytesAt (w : World) (a : Option Addr) (l : List Int) : Prop := ∀ j (h : j < l.length), ∃ b, a = some b ∧ w.cell? (b.add j) = some (.int .u8 l[j])

theorem BytesAt.alloc {w : World} {a : Option Addr} {l : List Int} (h : BytesAt w a l) (o : Obj) : BytesAt (w.alloc o) a l := fun j hj => by
  obtain ⟨b, hb, hc⟩ := h j hj
  refine ⟨b, hb, ?_⟩
  rw [World.cell?_alloc_some _ _ _ (by rw [hc]; rfl)]
  exact hc

set_option maxHeartbeats 400000 in
theorem indexNZ_any (l : List Int) (a : Option Addr) (c : Nat) (w : World) (hl : l.length ≤ 1000000) (hc : BytesAt w a l) :
    Calls Tryz.prog 76 #[.slice a l.length c, .func (.func 58) #[] #[]] w fun e w' => (∃ n : Int, e = .returned (.int .i64 n) ∧ decide (0 ≤ n) = l.any (· != 0)) ∧ w = w' := by
  go_enter Tryz.func76, Tryz.ntmps76
  go_wp2
  go_loop [8] (fun i => ∃ k : Nat, k ≤ l.length ∧ i = .int .i64 k ∧ (l.take k).any (· != 0) = false) (fun i => l.length - (intOf i).toNat)
  case atStart => exact ⟨0, by omega, rfl, by simp⟩
  case round =>
    obtain ⟨k, hk, rfl, hz⟩ := hrel
    have HZ := Lib.hid hz
    clear hz
    by_cases hlt : k < l.length
    · obtain ⟨b, rfl, hcell⟩ := hc k hlt
      go_wp2_with fail
      refine (nonzero_any _ _).mono ?_
      rintro e w' ⟨rfl, rfl⟩
      by_cases hn : (l[k] != 0) = true
      · have HF := Lib.hid (any_of hlt hn)
        go_wp2
        go_ret
        exact ⟨⟨_, rfl, by rw [HF.out]; simp⟩, rfl⟩
      · have hn' : (l[k] != 0) = false := by simpa using hn
        have HF := Lib.hid (any_snoc hlt HZ.out hn')
        clear hn
        go_wp2
        go_round
        case rel => exact ⟨k + 1, by omega, by go_num, HF.out⟩
        case measure => simp [intOf]; omega
    · have hk' : k = l.length := by omega
      subst hk'
      have hz := HZ.out
      rw [List.take_length] at hz
      have HF := Lib.hid hz
      clear hz HZ
      go_wp2
      go_ret
      exact ⟨⟨_, rfl, by rw [HF.out]; rfl⟩, rfl⟩

theorem containsNZ_any (l : List Int) (a : Option Addr) (c : Nat) (w : World) (hl : l.length ≤ 1000000) (hc : BytesAt w a l) :
    Calls Tryz.prog 57 #[.slice a l.length c, .func (.func 58) #[] #[]] w fun e w' => e = .returned (.bool (l.any (· != 0))) ∧ w = w' := by
  go_enter Tryz.func57, Tryz.ntmps57
  go_wp2_with fail
  refine (indexNZ_any l a c w hl hc).mono ?_
  rintro e w' ⟨⟨n, rfl, hn⟩, rfl⟩
  go_wp2
  go_ret
  exact ⟨rfl, rfl⟩

theorem zero_any (l : List Int) (a : Option Addr) (c : Nat) (b : Bool) (sc : Int) (w : World) (hl : l.length ≤ 1000000) (hc : BytesAt w a l) :
    Calls Tryz.prog 41 #[.agg #[.bool b, .slice a l.length c, .int .i64 sc]] w fun e w' => e = .returned (.bool (!l.any (· != 0))) ∧ Below w.heap.size w w' := by
  go_enter Tryz.func41, Tryz.ntmps41
  go_wp2_with fail
  refine (containsNZ_any l a c _ hl (hc.alloc _)).mono ?_
  rintro e w' ⟨rfl, rfl⟩
  go_wp2
  go_ret
  exact ⟨rfl, (Below.refl _ _).alloc (Nat.le_refl _) _⟩
end Go.Proofs.YtpepgmccbkkaaaaGreatDoor
