/- The law Numbers: it returns true. -/
import Derived.Test.YtpepgmccbkkaaaaGreatDoorT4
namespace Go.Proofs.YtpepgmccbkkaaaaGreatDoor
open Go Go.RowKit
set_option maxRecDepth 10000

set_option maxHeartbeats 1000000 in
theorem copied_nil (mi po gr fi ne : Int) (dg : ByteArray) (w : World) :
    Calls Tryz.prog 13 #[locv (.slice none 0 0) (.slice none 0 0) mi po gr fi ne dg] w fun e w' => e = .returned (locv (.slice none 0 0) (.slice none 0 0) mi po gr fi ne dg) ∧ Below w.heap.size w w' := by
  have hi : ∃ i, Tryz.prog.info? 46 = some i := by
    cases h : Tryz.prog.info? 46 with
    | some i => exact ⟨i, rfl⟩
    | none => exact absurd (show (Tryz.prog.info? 46).isSome = true by kernel_rfl) (by rw [h]; decide)
  obtain ⟨i, hi⟩ := hi
  have HI := Lib.hid hi
  clear hi
  go_enter Tryz.func13, Tryz.ntmps13
  go_wp2_with (at_builtin; refine wpList_append_own_none rfl _ _ 23 rfl 0 46 _ 2 Tryz.underlying23 HI.out (.slice none 0 0) 0 [] rfl (World.ownsRow_nil _ _ _ _) rfl ?_)
  refine bodyPost_ret (v := locv (.slice none 0 0) (.slice none 0 0) mi po gr fi ne dg) ?_ rfl ⟨rfl, ?_⟩
  · simp [results, Tryz.results13, go_sem]
  · (repeat (first | (with_reducible exact Below.refl _ _) | (with_reducible refine Below.alloc ?_ ?_ _; rotate_left; focus (first | (simp; done) | (simp; omega))) | (with_reducible refine Below.setCell ?_ ?_ _; rotate_left; focus (first | (simp; done) | (simp; omega)))))

theorem written_l (l : List UInt8) (hn : isNumL l = true) (c o : Value) (mi po gr : Int) (fi ne : Nat) (dg : ByteArray) (w : World) (hd : dg.size ≤ 1000000) (hfi : fi ≤ 255) (hne : ne ≤ 255)
    (h10 : dg.data.toList = [] ∨ (ptsL dg.data.toList).1.length = 10) :
    Calls Tryz.prog 16 #[.agg #[.bool (negL l), strv (wholeL l), strv (fracL l)], locv c o mi po gr fi ne dg] w fun e w' =>
      e = .returned (strv (writtenL (negL l) (wholeL l) (fracL l) (ptsL dg.data.toList).1 mi po gr fi ne)) ∧ Below w.heap.size w w' := by
  obtain ⟨d1, d2, _, h30⟩ := num_parts hn
  have h := written_any (negL l) ⟨(wholeL l).toArray⟩ ⟨(fracL l).toArray⟩ c o mi po gr fi ne dg w (by rw [size_mk]; omega) (by rw [size_mk]; omega) hd hfi hne (by rw [toList_mk]; exact d1) (by rw [toList_mk]; exact d2)
    (h10.imp (fun q => by rw [q, ptsL_nil]) id)
  rw [toList_mk, toList_mk] at h
  exact h

set_option maxHeartbeats 2000000 in
theorem number_law (s : ByteArray) (mi po gr : Int) (fi ne : Nat) (dg : ByteArray) (w : World) (hs : s.size ≤ 1000000) (hd : dg.size ≤ 1000000) (hfi : fi ≤ 255) (hne : ne ≤ 255) (hT : Tabs w) :
    Calls Tryz.prog 6 #[.string s, locv (.slice none 0 0) (.slice none 0 0) mi po gr fi ne dg] w fun e w' => e = .returned (.bool true) ∧ Below w.heap.size w w' := by
  have hcall := fun W hW => pnumber_any s (.slice none 0 0) (.slice none 0 0) true true mi po gr fi ne dg _ _ W hs hd hfi hne (pread_nil W) (pread_nil W) ⟨⟨_, _, _, rfl⟩, _, _, _, rfl⟩ hW
  have hknown := fun W => known_any (.slice none 0 0) (.slice none 0 0) true true mi po gr fi ne dg W hd (ruled_nil W) (ruled_nil W)
  have hkn : ∃ kn, knownL true true mi po gr fi ne dg.data.toList = kn := ⟨_, rfl⟩
  obtain ⟨kn, hkn⟩ := hkn
  rw [hkn] at hcall hknown
  obtain ⟨tx, htx⟩ : ∃ tx, textL kn s.data.toList mi po gr fi ne dg.data.toList = tx := ⟨_, rfl⟩
  obtain ⟨cd, hcd⟩ : ∃ cd, codeL kn s.data.toList = cd := ⟨_, rfl⟩
  rw [htx, hcd] at hcall
  have HCALL := Lib.hid hcall
  have HKNOWN := Lib.hid hknown
  have HKN := Lib.hid hkn
  have HTX := Lib.hid htx
  have HCD := Lib.hid hcd
  have HT := Lib.hid hT
  clear hcall hknown hkn htx hcd hT
  go_enter Tryz.func6, Tryz.ntmps6
  go_wp2_with fail
  refine calls_gen ?_
  intro W hW
  have hb : Below w.heap.size w W := by rw [hW]; exact (Below.refl _ _).alloc (Nat.le_refl _) _
  have hL : LocAt W w.heap.size (.slice none 0 0) (.slice none 0 0) mi po gr fi ne dg := by
    rw [hW]
    refine ⟨?_, ?_, ?_, ?_, ?_, ?_, ?_, ?_⟩ <;> exact cell_made _ _ _ _ _
  have hz : W.heap.size = w.heap.size + 1 := by rw [hW]; simp
  clear hW
  refine (copied_nil mi po gr fi ne dg W).mono ?_
  rintro e w1 ⟨rfl, hb1⟩
  have hL1 := hL.below hb1 (by omega)
  have hb01 := hb.trans (hb1.mono hb.size)
  have hz1 : w.heap.size < w1.heap.size := by have := hb1.size; omega
  clear hb1 hL hz hb
  obtain ⟨c0, c1, c2, c3, c4, c5, c6, c7⟩ := hL1
  go_wp2_with fail
  refine calls_gen ?_
  intro W2 hW2
  have hb12 : Below w1.heap.size w1 W2 := by rw [hW2]; exact (Below.refl _ _).alloc (Nat.le_refl _) _
  have hL2 : LocAt W2 w1.heap.size (.slice none 0 0) (.slice none 0 0) mi po gr fi ne dg := by
    rw [hW2]
    refine ⟨?_, ?_, ?_, ?_, ?_, ?_, ?_, ?_⟩ <;> exact cell_made _ _ _ _ _
  have hz2 : W2.heap.size = w1.heap.size + 1 := by rw [hW2]; simp
  have hb02 := hb01.trans (hb12.mono hb01.size)
  clear hW2 hb12 c0 c1 c2 c3 c4 c5 c6 c7
  refine (HCALL.out W2 (HT.out.below hb02)).mono ?_
  rintro e w3 ⟨rfl, hb3⟩
  have hL3 := hL2.below hb3 (by omega)
  have hb03 := hb02.trans (hb3.mono hb02.size)
  have hz3 : w1.heap.size < w3.heap.size := by have := hb3.size; omega
  clear hb3 hL2 hz2 hb02
  obtain ⟨c0, c1, c2, c3, c4, c5, c6, c7⟩ := hL3
  go_wp2_with fail
  refine (HKNOWN.out _).mono ?_
  rintro e w4 ⟨rfl, hb4⟩
  have hL4 := LocAt.below ⟨c0, c1, c2, c3, c4, c5, c6, c7⟩ hb4 hz3
  have hb04 := hb03.trans (hb4.mono hb03.size)
  have hz4 : w1.heap.size < w4.heap.size := by have := hb4.size; omega
  clear hb4 c0 c1 c2 c3 c4 c5 c6 c7
  go_wp2_with fail
  refine (numOf_any s _ hs).mono ?_
  rintro e w5 ⟨rfl, hb5⟩
  have hL5 := hL4.below hb5 hz4
  have hb05 := hb04.trans (hb5.mono hb04.size)
  have hz5 : w1.heap.size < w5.heap.size := by have := hb5.size; omega
  clear hb5 hL4
  obtain ⟨c0, c1, c2, c3, c4, c5, c6, c7⟩ := hL5
  cases kn
  · have ht : tx = [] := by rw [← HTX.out]; rfl
    have hc : cd = 8 := by rw [← HCD.out]; rfl
    clear HTX HCD HCALL HKNOWN HKN
    subst ht hc
    go_wp2
    go_ret
    exact ⟨rfl, by (repeat (first | exact hb05 | (with_reducible refine Below.alloc ?_ ?_ _; rotate_left; focus (first | (simp; done) | exact hb05.size))))⟩
  · cases hn : isNumL s.data.toList
    · have ht : tx = [] := by rw [← HTX.out]; unfold textL; rw [hn]; rfl
      have hc : cd = 10 := by rw [← HCD.out]; unfold codeL; rw [hn]; rfl
      clear HTX HCD HCALL HKNOWN HKN hn
      subst ht hc
      go_wp2
      go_ret
      exact ⟨rfl, by (repeat (first | exact hb05 | (with_reducible refine Below.alloc ?_ ?_ _; rotate_left; focus (first | (simp; done) | exact hb05.size))))⟩
    · have ht : tx = writtenL (negL s.data.toList) (wholeL s.data.toList) (fracL s.data.toList) (ptsL dg.data.toList).1 mi po gr fi ne := by rw [← HTX.out]; unfold textL; rw [hn]; rfl
      have hc : cd = 0 := by rw [← HCD.out]; unfold codeL; rw [hn]; rfl
      have hwr := fun W => written_l s.data.toList hn (.slice none 0 0) (.slice none 0 0) mi po gr fi ne dg W hd hfi hne (known_parts HKN.out).2.2.2.1
      rw [← ht] at hwr
      have HWR := Lib.hid hwr
      clear HTX HCD HCALL HKNOWN HKN hn hwr ht
      subst hc
      go_wp2_with fail
      refine calls_gen ?_
      intro W6 hW6
      have hb56 : Below w5.heap.size w5 W6 := by rw [hW6]; exact (Below.refl _ _).alloc (Nat.le_refl _) _
      clear hW6
      refine (HWR.out _).mono ?_
      rintro e w7 ⟨rfl, hb67⟩
      have hb07 := (hb05.trans (hb56.mono hb05.size)).trans (hb67.mono (Nat.le_trans hb05.size hb56.size))
      clear hb56 hb67 c0 c1 c2 c3 c4 c5 c6 c7 HWR
      go_wp2
      go_ret
      exact ⟨rfl, hb07⟩

set_option maxHeartbeats 2000000 in
theorem numbers_law (s : ByteArray) (v : Value) (xs : List Int) (f n : Int) (dg : ByteArray) (w : World) (hs : s.size ≤ 9223372036854775807) (hd : dg.size ≤ 9223372036854775807) (hv : SignsAt w v xs) (hT : Tabs w) :
    Calls Tryz.prog 3 #[.string s, v, .int .i64 f, .int .i64 n, .string dg] w fun e w' => e = .returned (.bool true) ∧ Below w.heap.size w w' := by
  have HT := Lib.hid hT
  have HV := Lib.hid hv
  clear hT hv
  by_cases h1 : s.size ≤ 65536
  · have h1' : decide ((65536 : Int) < (s.size : Int)) = false := by simp; omega
    by_cases h2 : dg.size ≤ 65536
    · have h2' : decide ((65536 : Int) < (dg.size : Int)) = false := by simp; omega
      obtain ⟨fi, hfi, hfi2⟩ : ∃ k : Nat, IntKind.u8.wrap f = (k : Int) ∧ k ≤ 255 := ⟨(IntKind.u8.wrap f).toNat, by simp [IntKind.wrap, IntKind.signed, IntKind.bits]; omega, by simp [IntKind.wrap, IntKind.signed, IntKind.bits]; omega⟩
      obtain ⟨ne, hne, hne2⟩ : ∃ k : Nat, IntKind.u8.wrap n = (k : Int) ∧ k ≤ 255 := ⟨(IntKind.u8.wrap n).toNat, by simp [IntKind.wrap, IntKind.signed, IntKind.bits]; omega, by simp [IntKind.wrap, IntKind.signed, IntKind.bits]; omega⟩
      have hloc := fun W h => locale_nil v xs f n dg W h
      rw [hfi, hne] at hloc
      have HLOC := Lib.hid hloc
      clear hloc hfi hne
      go_enter Tryz.func3, Tryz.ntmps3
      go_wp2_with fail
      refine (HLOC.out w HV.out).mono ?_
      rintro e w1 ⟨rfl, hb1⟩
      go_wp2_with fail
      refine calls_gen ?_
      intro W2 hW2
      have hb2 : Below w.heap.size w W2 := by rw [hW2]; exact hb1.alloc hb1.size _
      clear hW2 hb1
      refine (number_law s _ _ _ fi ne dg W2 (by omega) (by omega) hfi2 hne2 (HT.out.below hb2)).mono ?_
      rintro e w3 ⟨rfl, hb3⟩
      have hb03 := hb2.trans (hb3.mono hb2.size)
      clear hb2 hb3
      go_wp2
      go_ret
      exact ⟨rfl, hb03⟩
    · have h2' : decide ((65536 : Int) < (dg.size : Int)) = true := by simp; omega
      have h2n : ¬ (dg.size : Int) ≤ 65536 := by omega
      go_enter Tryz.func3, Tryz.ntmps3
      go_wp2
      go_ret
      exact ⟨rfl, Below.refl _ _⟩
  · have h1' : decide ((65536 : Int) < (s.size : Int)) = true := by simp; omega
    go_enter Tryz.func3, Tryz.ntmps3
    go_wp2
    go_ret
    exact ⟨rfl, Below.refl _ _⟩
end Go.Proofs.YtpepgmccbkkaaaaGreatDoor
