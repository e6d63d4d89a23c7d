/- Age and Between of the document; the law DayAges. -/
import Derived.Test.YtolgljionpalkaaDoorDayL
set_option linter.unusedSimpArgs false
set_option linter.unusedVariables false
namespace Go.Proofs.YtolgljionpalkaaDoor
open Go.RowKit Go.BigFrame
set_option maxHeartbeats 2000000 in
theorem two_bad1 {y m d y' m' d' : Int} (ha : Hid (goodB y m d = false)) (w : World) : Calls Tryd.prog 60 #[.agg #[.int .i64 y, .int .i64 m, .int .i64 d], .agg #[.int .i64 y', .int .i64 m', .int .i64 d']] w fun e w' => e = .returned (.int .i64 70) ∧ Below w.heap.size w w' := by
  go_enter Tryd.func60, Tryd.ntmps60
  go_wp2_with fail
  refine (goodr_is ha _).mono ?_
  rintro e w1 ⟨rfl, hb⟩
  have hA := (((Blk.new_at (w := w) (g := w.heap.size) (by simp) 29 #[.int .i64 y, .int .i64 m, .int .i64 d])).alloc _).below hb; have kA := hA.cell; have lA := hA.lt; have fA := hA.froz
  have hB := ((Blk.new_at (w := (w.alloc (.cells #[.int .i64 y, .int .i64 m, .int .i64 d] 29))) (g := w.heap.size + 1) (by simp) 29 #[.int .i64 y', .int .i64 m', .int .i64 d'])).below hb; have kB := hB.cell; have lB := hB.lt; have fB := hB.froz
  have b1 := b_step (b_alloc (b_alloc (Below.refl w.heap.size w) _) _) hb; clear hb
  go_wp2
  go_ret
  exact ⟨rfl, b1⟩
set_option maxHeartbeats 2000000 in
theorem two_bad2 {y m d y' m' d' : Int} (ha : Hid (goodB y m d = true)) (hb' : Hid (goodB y' m' d' = false)) (w : World) : Calls Tryd.prog 60 #[.agg #[.int .i64 y, .int .i64 m, .int .i64 d], .agg #[.int .i64 y', .int .i64 m', .int .i64 d']] w fun e w' => e = .returned (.int .i64 70) ∧ Below w.heap.size w w' := by
  go_enter Tryd.func60, Tryd.ntmps60
  go_wp2_with fail
  refine (goodr_is ha _).mono ?_
  rintro e w1 ⟨rfl, hb⟩
  have hA := (((Blk.new_at (w := w) (g := w.heap.size) (by simp) 29 #[.int .i64 y, .int .i64 m, .int .i64 d])).alloc _).below hb; have kA := hA.cell; have lA := hA.lt; have fA := hA.froz
  have hB := ((Blk.new_at (w := (w.alloc (.cells #[.int .i64 y, .int .i64 m, .int .i64 d] 29))) (g := w.heap.size + 1) (by simp) 29 #[.int .i64 y', .int .i64 m', .int .i64 d'])).below hb; have kB := hB.cell; have lB := hB.lt; have fB := hB.froz
  have b1 := b_step (b_alloc (b_alloc (Below.refl w.heap.size w) _) _) hb; clear hb
  go_wp2_with fail
  refine (goodr_is hb' _).mono ?_
  rintro e w2 ⟨rfl, hb⟩
  have hA := (hA).below hb; clear kA lA fA; have kA := hA.cell; have lA := hA.lt; have fA := hA.froz
  have hB := (hB).below hb; clear kB lB fB; have kB := hB.cell; have lB := hB.lt; have fB := hB.froz
  have b2 := b_step (b1) hb; clear hb
  go_wp2
  go_ret
  exact ⟨rfl, b2⟩
set_option maxHeartbeats 2000000 in
theorem two_order {y m d y' m' d' : Int} (ha : Hid (goodB y m d = true)) (hb' : Hid (goodB y' m' d' = true)) (hn : numI y' m' d' < numI y m d) (w : World) : Calls Tryd.prog 60 #[.agg #[.int .i64 y, .int .i64 m, .int .i64 d], .agg #[.int .i64 y', .int .i64 m', .int .i64 d']] w fun e w' => e = .returned (.int .i64 1) ∧ Below w.heap.size w w' := by
  have c1 : decide (numI y' m' d' < numI y m d) = true := by simp; omega
  clear hn
  go_enter Tryd.func60, Tryd.ntmps60
  go_wp2_with fail
  refine (goodr_is ha _).mono ?_
  rintro e w1 ⟨rfl, hb⟩
  have hA := (((Blk.new_at (w := w) (g := w.heap.size) (by simp) 29 #[.int .i64 y, .int .i64 m, .int .i64 d])).alloc _).below hb; have kA := hA.cell; have lA := hA.lt; have fA := hA.froz
  have hB := ((Blk.new_at (w := (w.alloc (.cells #[.int .i64 y, .int .i64 m, .int .i64 d] 29))) (g := w.heap.size + 1) (by simp) 29 #[.int .i64 y', .int .i64 m', .int .i64 d'])).below hb; have kB := hB.cell; have lB := hB.lt; have fB := hB.froz
  have b1 := b_step (b_alloc (b_alloc (Below.refl w.heap.size w) _) _) hb; clear hb
  go_wp2_with fail
  refine (goodr_is hb' _).mono ?_
  rintro e w2 ⟨rfl, hb⟩
  have hA := (hA).below hb; clear kA lA fA; have kA := hA.cell; have lA := hA.lt; have fA := hA.froz
  have hB := (hB).below hb; clear kB lB fB; have kB := hB.cell; have lB := hB.lt; have fB := hB.froz
  have b2 := b_step (b1) hb; clear hb
  go_wp2_with fail
  skip
  clear kA lA fA; have qA := hA.lcell
  clear kB lB fB; have qB := hB.lcell
  refine wp_later 5 (by kernel_rfl) (by kernel_rfl) ?_
  simp only [List.take_succ_cons, List.take_zero, List.drop_succ_cons, List.drop_zero, List.take_nil, List.drop_nil]
  repeat (go_big_quiet_step (first | (go_at_call_of 27 d'; exact later_call (numberr_good hb' _)) | (go_at_call 27; exact later_call (numberr_good ha _))))
  refine wpQuiet_nil ?_
  rintro ⟨w3, hb⟩
  change wpList _ _ _ _ _ w3
  clear qA; have hA := hA.below hb; have kA := hA.cell; have lA := hA.lt; have fA := hA.froz
  clear qB; have hB := hB.below hb; have kB := hB.cell; have lB := hB.lt; have fB := hB.froz
  have b3 := b_step (b2) hb; clear hb
  go_wp2
  go_ret
  exact ⟨rfl, b3⟩
set_option maxHeartbeats 2000000 in
theorem two_good {y m d y' m' d' : Int} (ha : Hid (goodB y m d = true)) (hb' : Hid (goodB y' m' d' = true)) (hn : numI y m d ≤ numI y' m' d') (w : World) : Calls Tryd.prog 60 #[.agg #[.int .i64 y, .int .i64 m, .int .i64 d], .agg #[.int .i64 y', .int .i64 m', .int .i64 d']] w fun e w' => e = .returned (.int .i64 0) ∧ Below w.heap.size w w' := by
  have c1 : decide (numI y' m' d' < numI y m d) = false := by simp; omega
  clear hn
  go_enter Tryd.func60, Tryd.ntmps60
  go_wp2_with fail
  refine (goodr_is ha _).mono ?_
  rintro e w1 ⟨rfl, hb⟩
  have hA := (((Blk.new_at (w := w) (g := w.heap.size) (by simp) 29 #[.int .i64 y, .int .i64 m, .int .i64 d])).alloc _).below hb; have kA := hA.cell; have lA := hA.lt; have fA := hA.froz
  have hB := ((Blk.new_at (w := (w.alloc (.cells #[.int .i64 y, .int .i64 m, .int .i64 d] 29))) (g := w.heap.size + 1) (by simp) 29 #[.int .i64 y', .int .i64 m', .int .i64 d'])).below hb; have kB := hB.cell; have lB := hB.lt; have fB := hB.froz
  have b1 := b_step (b_alloc (b_alloc (Below.refl w.heap.size w) _) _) hb; clear hb
  go_wp2_with fail
  refine (goodr_is hb' _).mono ?_
  rintro e w2 ⟨rfl, hb⟩
  have hA := (hA).below hb; clear kA lA fA; have kA := hA.cell; have lA := hA.lt; have fA := hA.froz
  have hB := (hB).below hb; clear kB lB fB; have kB := hB.cell; have lB := hB.lt; have fB := hB.froz
  have b2 := b_step (b1) hb; clear hb
  go_wp2_with fail
  skip
  clear kA lA fA; have qA := hA.lcell
  clear kB lB fB; have qB := hB.lcell
  refine wp_later 5 (by kernel_rfl) (by kernel_rfl) ?_
  simp only [List.take_succ_cons, List.take_zero, List.drop_succ_cons, List.drop_zero, List.take_nil, List.drop_nil]
  repeat (go_big_quiet_step (first | (go_at_call_of 27 d'; exact later_call (numberr_good hb' _)) | (go_at_call 27; exact later_call (numberr_good ha _))))
  refine wpQuiet_nil ?_
  rintro ⟨w3, hb⟩
  change wpList _ _ _ _ _ w3
  clear qA; have hA := hA.below hb; have kA := hA.cell; have lA := hA.lt; have fA := hA.froz
  clear qB; have hB := hB.below hb; have kB := hB.cell; have lB := hB.lt; have fB := hB.froz
  have b3 := b_step (b2) hb; clear hb
  go_wp2
  go_ret
  exact ⟨rfl, b3⟩
set_option maxHeartbeats 2000000 in
theorem born_any {y m d y' m' d' : Int} (ha : Hid (goodB y m d = true)) (hb' : Hid (goodB y' m' d' = true)) (hn : numI y m d ≤ numI y' m' d') (w : World) : Calls Tryd.prog 61 #[.agg #[.int .i64 y, .int .i64 m, .int .i64 d], .agg #[.int .i64 y', .int .i64 m', .int .i64 d']] w fun e w' => e = .returned (.int .i64 (sinI y m d y' m' d' 12)) ∧ Below w.heap.size w w' := by
  have S := sinI_spec (s := 12) ha.out hb'.out (by omega) hn
  have ga := (goodB_iff _ _ _).1 ha.out
  have gb := (goodB_iff _ _ _).1 hb'.out
  have ht := tI_le ha.out hb'.out hn
  have hta : 12 ≤ tI y m ∧ tI y m ≤ 119999 := by unfold tI; omega
  have htd : tI y' m' - tI y m = 12 * (y' - y) + m' - m := by unfold tI; omega
  have hz := onF_zero ha.out
  have hr1 := onF_rng (k := 12 * (y' - y)) ha (by omega) (by omega)
  have hO1 := Lib.hid (fun W => onr_t (k := 12 * (y' - y)) ha (by omega) (by omega) W)
  have hN1 := Lib.hid (fun W => numberr_on (k := 12 * (y' - y)) ha (by omega) (by omega) W)
  have hrb := num_rng hb'.out
  by_cases hc : numI y' m' d' < onF y m d (12 * (y' - y))
  · have hy : 1 ≤ y' - y := by
      by_cases h1 : 1 ≤ y' - y
      · exact h1
      · exfalso
        rw [show 12 * (y' - y) = 0 by omega, hz] at hc
        omega
    have E : Hid (sinI y m d y' m' d' 12 = y' - y - 1) := Lib.hid (sin_unique (by omega) (by omega) (.inr rfl) S.1 (by omega) S.2.2.1 S.2.2.2 (Int.le_of_lt (onF_before ha.out hb'.out (by omega) (by omega))) (by rw [show (y' - y - 1 + 1) * 12 = 12 * (y' - y) by omega]; exact hc))
    rw [E.out]
    have c1 : decide (numI y' m' d' < onF y m d (12 * (y' - y))) = true := by simpa using hc
    clear S hc E htd hz
    go_enter Tryd.func61, Tryd.ntmps61
    go_wp2_with fail
    generalize hw1 : World.alloc (World.alloc w _) _ = w1
    have b1 : Below w.heap.size w w1 := by rw [← hw1]; exact b_alloc (b_alloc (Below.refl _ _) _) _
    have hA : Blk w1 w.heap.size #[.int .i64 y, .int .i64 m, .int .i64 d] := by rw [← hw1]; exact (Blk.new _ _ _).alloc _
    have hB : Blk w1 (w.heap.size + 1) #[.int .i64 y', .int .i64 m', .int .i64 d'] := by rw [← hw1]; exact Blk.new_at (by simp) _ _
    clear hw1
    have qA := hA.lcell
    have qB := hB.lcell
    refine wp_later 8 (by kernel_rfl) (by kernel_rfl) ?_
    simp only [List.take_succ_cons, List.take_zero, List.drop_succ_cons, List.drop_zero, List.take_nil, List.drop_nil]
    repeat (go_big_quiet_step (first | (go_at_call_of 27 d'; exact later_call (numberr_good hb' _)) | (go_at_call 57; exact later_call (hO1.out _)) | (go_at_call 27; exact later_call (hN1.out _))))
    refine wpQuiet_nil ?_
    rintro ⟨w2, hb⟩
    change wpList _ _ _ _ _ w2
    have b2 := b_step b1 hb
    clear qA qB
    go_wp2
    go_ret
    exact ⟨rfl, b2⟩
  · have E : Hid (sinI y m d y' m' d' 12 = y' - y) := Lib.hid (sin_unique (by omega) (by omega) (.inr rfl) S.1 (by omega) S.2.2.1 S.2.2.2 (by rw [show (y' - y) * 12 = 12 * (y' - y) by omega]; omega) (onF_behind ha.out hb'.out (by omega)))
    rw [E.out]
    have c1 : decide (numI y' m' d' < onF y m d (12 * (y' - y))) = false := by simpa using hc
    clear S hc E htd hz
    go_enter Tryd.func61, Tryd.ntmps61
    go_wp2_with fail
    generalize hw1 : World.alloc (World.alloc w _) _ = w1
    have b1 : Below w.heap.size w w1 := by rw [← hw1]; exact b_alloc (b_alloc (Below.refl _ _) _) _
    have hA : Blk w1 w.heap.size #[.int .i64 y, .int .i64 m, .int .i64 d] := by rw [← hw1]; exact (Blk.new _ _ _).alloc _
    have hB : Blk w1 (w.heap.size + 1) #[.int .i64 y', .int .i64 m', .int .i64 d'] := by rw [← hw1]; exact Blk.new_at (by simp) _ _
    clear hw1
    have qA := hA.lcell
    have qB := hB.lcell
    refine wp_later 8 (by kernel_rfl) (by kernel_rfl) ?_
    simp only [List.take_succ_cons, List.take_zero, List.drop_succ_cons, List.drop_zero, List.take_nil, List.drop_nil]
    repeat (go_big_quiet_step (first | (go_at_call_of 27 d'; exact later_call (numberr_good hb' _)) | (go_at_call 57; exact later_call (hO1.out _)) | (go_at_call 27; exact later_call (hN1.out _))))
    refine wpQuiet_nil ?_
    rintro ⟨w2, hb⟩
    change wpList _ _ _ _ _ w2
    have b2 := b_step b1 hb
    clear qA qB
    go_wp2
    go_ret
    exact ⟨rfl, b2⟩
set_option maxHeartbeats 2000000 in
theorem ager_bad1 {y m d y' m' d' : Int} (how : Int) (ha : Hid (goodB y m d = false)) (w : World) : Calls Tryd.prog 40 #[.agg #[.int .i64 y, .int .i64 m, .int .i64 d], .agg #[.int .i64 y', .int .i64 m', .int .i64 d'], .int .i64 how] w fun e w' => e = .returned (.tuple #[.int .i64 0, .int .i64 70]) ∧ Below w.heap.size w w' := by
  go_enter Tryd.func40, Tryd.ntmps40
  go_wp2_with fail
  refine (two_bad1 ha _).mono ?_
  rintro e w1 ⟨rfl, hb⟩
  have hA := (((Blk.new_at (w := w) (g := w.heap.size) (by simp) 29 #[.int .i64 y, .int .i64 m, .int .i64 d])).alloc _).below hb; have kA := hA.cell; have lA := hA.lt; have fA := hA.froz
  have hB := ((Blk.new_at (w := (w.alloc (.cells #[.int .i64 y, .int .i64 m, .int .i64 d] 29))) (g := w.heap.size + 1) (by simp) 29 #[.int .i64 y', .int .i64 m', .int .i64 d'])).below hb; have kB := hB.cell; have lB := hB.lt; have fB := hB.froz
  have b1 := b_step (b_alloc (b_alloc (Below.refl w.heap.size w) _) _) hb; clear hb
  go_wp2
  go_ret2
  exact ⟨rfl, b1⟩
set_option maxHeartbeats 2000000 in
theorem ager_bad2 {y m d y' m' d' : Int} (how : Int) (ha : Hid (goodB y m d = true)) (hb' : Hid (goodB y' m' d' = false)) (w : World) : Calls Tryd.prog 40 #[.agg #[.int .i64 y, .int .i64 m, .int .i64 d], .agg #[.int .i64 y', .int .i64 m', .int .i64 d'], .int .i64 how] w fun e w' => e = .returned (.tuple #[.int .i64 0, .int .i64 70]) ∧ Below w.heap.size w w' := by
  go_enter Tryd.func40, Tryd.ntmps40
  go_wp2_with fail
  refine (two_bad2 ha hb' _).mono ?_
  rintro e w1 ⟨rfl, hb⟩
  have hA := (((Blk.new_at (w := w) (g := w.heap.size) (by simp) 29 #[.int .i64 y, .int .i64 m, .int .i64 d])).alloc _).below hb; have kA := hA.cell; have lA := hA.lt; have fA := hA.froz
  have hB := ((Blk.new_at (w := (w.alloc (.cells #[.int .i64 y, .int .i64 m, .int .i64 d] 29))) (g := w.heap.size + 1) (by simp) 29 #[.int .i64 y', .int .i64 m', .int .i64 d'])).below hb; have kB := hB.cell; have lB := hB.lt; have fB := hB.froz
  have b1 := b_step (b_alloc (b_alloc (Below.refl w.heap.size w) _) _) hb; clear hb
  go_wp2
  go_ret2
  exact ⟨rfl, b1⟩
set_option maxHeartbeats 2000000 in
theorem ager_order {y m d y' m' d' : Int} (how : Int) (ha : Hid (goodB y m d = true)) (hb' : Hid (goodB y' m' d' = true)) (hn : numI y' m' d' < numI y m d) (w : World) : Calls Tryd.prog 40 #[.agg #[.int .i64 y, .int .i64 m, .int .i64 d], .agg #[.int .i64 y', .int .i64 m', .int .i64 d'], .int .i64 how] w fun e w' => e = .returned (.tuple #[.int .i64 0, .int .i64 1]) ∧ Below w.heap.size w w' := by
  go_enter Tryd.func40, Tryd.ntmps40
  go_wp2_with fail
  refine (two_order ha hb' hn _).mono ?_
  rintro e w1 ⟨rfl, hb⟩
  have hA := (((Blk.new_at (w := w) (g := w.heap.size) (by simp) 29 #[.int .i64 y, .int .i64 m, .int .i64 d])).alloc _).below hb; have kA := hA.cell; have lA := hA.lt; have fA := hA.froz
  have hB := ((Blk.new_at (w := (w.alloc (.cells #[.int .i64 y, .int .i64 m, .int .i64 d] 29))) (g := w.heap.size + 1) (by simp) 29 #[.int .i64 y', .int .i64 m', .int .i64 d'])).below hb; have kB := hB.cell; have lB := hB.lt; have fB := hB.froz
  have b1 := b_step (b_alloc (b_alloc (Below.refl w.heap.size w) _) _) hb; clear hb
  go_wp2
  go_ret2
  exact ⟨rfl, b1⟩
set_option maxHeartbeats 2000000 in
theorem ager_good {y m d y' m' d' : Int} (how : Int) (ha : Hid (goodB y m d = true)) (hb' : Hid (goodB y' m' d' = true)) (hn : numI y m d ≤ numI y' m' d') (w : World) : Calls Tryd.prog 40 #[.agg #[.int .i64 y, .int .i64 m, .int .i64 d], .agg #[.int .i64 y', .int .i64 m', .int .i64 d'], .int .i64 how] w fun e w' => e = .returned (.tuple #[.int .i64 (if 1 ≤ how ∧ how ≤ 3 then agI how (sinI y m d y' m' d' 12) (numI y' m' d' - onF y m d (12 * sinI y m d y' m' d' 12)) (onF y m d (12 * (sinI y m d y' m' d' 12 + 1)) - numI y' m' d') else 0), .int .i64 (if 1 ≤ how ∧ how ≤ 3 then 0 else 1)]) ∧ Below w.heap.size w w' := by
  have S := sinI_spec (s := 12) ha.out hb'.out (by omega) hn
  have ga := (goodB_iff _ _ _).1 ha.out
  have gb := (goodB_iff _ _ _).1 hb'.out
  have hta : 12 ≤ tI y m ∧ tI y m ≤ 119999 := by unfold tI; omega
  have htb : 12 ≤ tI y' m' ∧ tI y' m' ≤ 119999 := by unfold tI; omega
  have hra := num_rng ha.out
  have hrb := num_rng hb'.out
  have hS := Lib.hid (fun W => born_any ha hb' hn W)
  have hW := Lib.hid (fun W => two_good ha hb' hn W)
  generalize sinI y m d y' m' d' 12 = S0 at *
  obtain ⟨s1, s2, s3, s4⟩ := S
  have hr1 := onF_rng (k := 12 * S0) ha (by omega) (by omega)
  have hr2 := onF_rng (k := 12 * (S0 + 1)) ha (by omega) (by omega)
  have hO1 := Lib.hid (fun W => onr_t (k := 12 * S0) ha (by omega) (by omega) W)
  have hN1 := Lib.hid (fun W => numberr_on (k := 12 * S0) ha (by omega) (by omega) W)
  have hO2 := Lib.hid (fun W => onr_t (k := 12 * (S0 + 1)) ha (by omega) (by omega) W)
  have hN2 := Lib.hid (fun W => numberr_on (k := 12 * (S0 + 1)) ha (by omega) (by omega) W)
  rw [show S0 * 12 = 12 * S0 by omega] at s3
  rw [show (S0 + 1) * 12 = 12 * (S0 + 1) by omega] at s4
  have hk1 : Hid (12 * S0 = 12 * S0) := Lib.hid rfl
  clear hn
  by_cases h0 : 1 ≤ how ∧ how ≤ 3
  · rw [if_pos h0, if_pos h0]
    have h3 : how = 1 ∨ how = 2 ∨ how = 3 := by omega
    clear h0
    rcases h3 with rfl | rfl | rfl
    · rw [show agI 1 S0 (numI y' m' d' - onF y m d (12 * S0)) (onF y m d (12 * (S0 + 1)) - numI y' m' d') = S0 from rfl]
      clear s3 s4
      go_enter Tryd.func40, Tryd.ntmps40
      go_wp2_with fail
      refine (hW.out _).mono ?_
      rintro e w1 ⟨rfl, hb⟩
      have hA := (((Blk.new_at (w := w) (g := w.heap.size) (by simp) 29 #[.int .i64 y, .int .i64 m, .int .i64 d])).alloc _).below hb; have kA := hA.cell; have lA := hA.lt; have fA := hA.froz
      have hB := ((Blk.new_at (w := (w.alloc (.cells #[.int .i64 y, .int .i64 m, .int .i64 d] 29))) (g := w.heap.size + 1) (by simp) 29 #[.int .i64 y', .int .i64 m', .int .i64 d'])).below hb; have kB := hB.cell; have lB := hB.lt; have fB := hB.froz
      have b1 := b_step (b_alloc (b_alloc (Below.refl w.heap.size w) _) _) hb; clear hb
      go_wp2_with fail
      refine (hS.out _).mono ?_
      rintro e w2 ⟨rfl, hb⟩
      have hA := (hA).below hb; clear kA lA fA; have kA := hA.cell; have lA := hA.lt; have fA := hA.froz
      have hB := (hB).below hb; clear kB lB fB; have kB := hB.cell; have lB := hB.lt; have fB := hB.froz
      have b2 := b_step (b1) hb; clear hb
      go_wp2_with fail
      skip
      clear kA lA fA; have qA := hA.lcell
      clear kB lB fB; have qB := hB.lcell
      refine wp_later 13 (by kernel_rfl) (by kernel_rfl) ?_
      simp only [List.take_succ_cons, List.take_zero, List.drop_succ_cons, List.drop_zero, List.take_nil, List.drop_nil]
      repeat (go_big_quiet_step (first | (go_at_call 57; exact later_call (onr_t ha (by omega) (by omega) _)) | (go_at_call 27; exact later_call (numberr_on ha (by omega) (by omega) _))))
      refine wpQuiet_nil ?_
      rintro ⟨w3, hb⟩
      change wpList _ _ _ _ _ w3
      clear qA; have hA := hA.below hb; have kA := hA.cell; have lA := hA.lt; have fA := hA.froz
      clear qB; have hB := hB.below hb; have kB := hB.cell; have lB := hB.lt; have fB := hB.froz
      have b3 := b_step (b2) hb; clear hb
      go_wp2_with fail
      refine (numberr_good hb' _).mono ?_
      rintro e w4 ⟨rfl, hb⟩
      have hA := (hA).below hb; clear kA lA fA; have kA := hA.cell; have lA := hA.lt; have fA := hA.froz
      have hB := (hB).below hb; clear kB lB fB; have kB := hB.cell; have lB := hB.lt; have fB := hB.froz
      have b4 := b_step (b3) hb; clear hb
      go_wp2
      go_ret2
      exact ⟨rfl, b4⟩
    · by_cases hp : numI y' m' d' - onF y m d (12 * S0) = 0
      · rw [show agI 2 S0 (numI y' m' d' - onF y m d (12 * S0)) (onF y m d (12 * (S0 + 1)) - numI y' m' d') = S0 by unfold agI; rw [if_neg (by decide), if_pos rfl, if_pos hp]]
        have c2 : decide (onF y m d (12 * S0) < numI y' m' d') = false := by simp; omega
        clear hp s3 s4
        go_enter Tryd.func40, Tryd.ntmps40
        go_wp2_with fail
        refine (hW.out _).mono ?_
        rintro e w1 ⟨rfl, hb⟩
        have hA := (((Blk.new_at (w := w) (g := w.heap.size) (by simp) 29 #[.int .i64 y, .int .i64 m, .int .i64 d])).alloc _).below hb; have kA := hA.cell; have lA := hA.lt; have fA := hA.froz
        have hB := ((Blk.new_at (w := (w.alloc (.cells #[.int .i64 y, .int .i64 m, .int .i64 d] 29))) (g := w.heap.size + 1) (by simp) 29 #[.int .i64 y', .int .i64 m', .int .i64 d'])).below hb; have kB := hB.cell; have lB := hB.lt; have fB := hB.froz
        have b1 := b_step (b_alloc (b_alloc (Below.refl w.heap.size w) _) _) hb; clear hb
        go_wp2_with fail
        refine (hS.out _).mono ?_
        rintro e w2 ⟨rfl, hb⟩
        have hA := (hA).below hb; clear kA lA fA; have kA := hA.cell; have lA := hA.lt; have fA := hA.froz
        have hB := (hB).below hb; clear kB lB fB; have kB := hB.cell; have lB := hB.lt; have fB := hB.froz
        have b2 := b_step (b1) hb; clear hb
        go_wp2_with fail
        skip
        clear kA lA fA; have qA := hA.lcell
        clear kB lB fB; have qB := hB.lcell
        refine wp_later 13 (by kernel_rfl) (by kernel_rfl) ?_
        simp only [List.take_succ_cons, List.take_zero, List.drop_succ_cons, List.drop_zero, List.take_nil, List.drop_nil]
        repeat (go_big_quiet_step (first | (go_at_call 57; exact later_call (onr_t ha (by omega) (by omega) _)) | (go_at_call 27; exact later_call (numberr_on ha (by omega) (by omega) _))))
        refine wpQuiet_nil ?_
        rintro ⟨w3, hb⟩
        change wpList _ _ _ _ _ w3
        clear qA; have hA := hA.below hb; have kA := hA.cell; have lA := hA.lt; have fA := hA.froz
        clear qB; have hB := hB.below hb; have kB := hB.cell; have lB := hB.lt; have fB := hB.froz
        have b3 := b_step (b2) hb; clear hb
        go_wp2_with fail
        refine (numberr_good hb' _).mono ?_
        rintro e w4 ⟨rfl, hb⟩
        have hA := (hA).below hb; clear kA lA fA; have kA := hA.cell; have lA := hA.lt; have fA := hA.froz
        have hB := (hB).below hb; clear kB lB fB; have kB := hB.cell; have lB := hB.lt; have fB := hB.froz
        have b4 := b_step (b3) hb; clear hb
        go_wp2
        go_ret2
        exact ⟨rfl, b4⟩
      · rw [show agI 2 S0 (numI y' m' d' - onF y m d (12 * S0)) (onF y m d (12 * (S0 + 1)) - numI y' m' d') = S0 + 1 by unfold agI; rw [if_neg (by decide), if_pos rfl, if_neg hp]]
        have c2 : decide (onF y m d (12 * S0) < numI y' m' d') = true := by simp; omega
        clear hp s3 s4
        go_enter Tryd.func40, Tryd.ntmps40
        go_wp2_with fail
        refine (hW.out _).mono ?_
        rintro e w1 ⟨rfl, hb⟩
        have hA := (((Blk.new_at (w := w) (g := w.heap.size) (by simp) 29 #[.int .i64 y, .int .i64 m, .int .i64 d])).alloc _).below hb; have kA := hA.cell; have lA := hA.lt; have fA := hA.froz
        have hB := ((Blk.new_at (w := (w.alloc (.cells #[.int .i64 y, .int .i64 m, .int .i64 d] 29))) (g := w.heap.size + 1) (by simp) 29 #[.int .i64 y', .int .i64 m', .int .i64 d'])).below hb; have kB := hB.cell; have lB := hB.lt; have fB := hB.froz
        have b1 := b_step (b_alloc (b_alloc (Below.refl w.heap.size w) _) _) hb; clear hb
        go_wp2_with fail
        refine (hS.out _).mono ?_
        rintro e w2 ⟨rfl, hb⟩
        have hA := (hA).below hb; clear kA lA fA; have kA := hA.cell; have lA := hA.lt; have fA := hA.froz
        have hB := (hB).below hb; clear kB lB fB; have kB := hB.cell; have lB := hB.lt; have fB := hB.froz
        have b2 := b_step (b1) hb; clear hb
        go_wp2_with fail
        skip
        clear kA lA fA; have qA := hA.lcell
        clear kB lB fB; have qB := hB.lcell
        refine wp_later 13 (by kernel_rfl) (by kernel_rfl) ?_
        simp only [List.take_succ_cons, List.take_zero, List.drop_succ_cons, List.drop_zero, List.take_nil, List.drop_nil]
        repeat (go_big_quiet_step (first | (go_at_call 57; exact later_call (onr_t ha (by omega) (by omega) _)) | (go_at_call 27; exact later_call (numberr_on ha (by omega) (by omega) _))))
        refine wpQuiet_nil ?_
        rintro ⟨w3, hb⟩
        change wpList _ _ _ _ _ w3
        clear qA; have hA := hA.below hb; have kA := hA.cell; have lA := hA.lt; have fA := hA.froz
        clear qB; have hB := hB.below hb; have kB := hB.cell; have lB := hB.lt; have fB := hB.froz
        have b3 := b_step (b2) hb; clear hb
        go_wp2_with fail
        refine (numberr_good hb' _).mono ?_
        rintro e w4 ⟨rfl, hb⟩
        have hA := (hA).below hb; clear kA lA fA; have kA := hA.cell; have lA := hA.lt; have fA := hA.froz
        have hB := (hB).below hb; clear kB lB fB; have kB := hB.cell; have lB := hB.lt; have fB := hB.froz
        have b4 := b_step (b3) hb; clear hb
        go_wp2
        go_ret2
        exact ⟨rfl, b4⟩
    · by_cases hp : numI y' m' d' - onF y m d (12 * S0) < onF y m d (12 * (S0 + 1)) - numI y' m' d'
      · rw [show agI 3 S0 (numI y' m' d' - onF y m d (12 * S0)) (onF y m d (12 * (S0 + 1)) - numI y' m' d') = S0 by unfold agI; rw [if_neg (by decide), if_neg (by decide), if_pos hp]]
        have c2 : decide (onF y m d (12 * (S0 + 1)) - numI y' m' d' ≤ numI y' m' d' - onF y m d (12 * S0)) = false := by simp; omega
        clear hp s3 s4
        go_enter Tryd.func40, Tryd.ntmps40
        go_wp2_with fail
        refine (hW.out _).mono ?_
        rintro e w1 ⟨rfl, hb⟩
        have hA := (((Blk.new_at (w := w) (g := w.heap.size) (by simp) 29 #[.int .i64 y, .int .i64 m, .int .i64 d])).alloc _).below hb; have kA := hA.cell; have lA := hA.lt; have fA := hA.froz
        have hB := ((Blk.new_at (w := (w.alloc (.cells #[.int .i64 y, .int .i64 m, .int .i64 d] 29))) (g := w.heap.size + 1) (by simp) 29 #[.int .i64 y', .int .i64 m', .int .i64 d'])).below hb; have kB := hB.cell; have lB := hB.lt; have fB := hB.froz
        have b1 := b_step (b_alloc (b_alloc (Below.refl w.heap.size w) _) _) hb; clear hb
        go_wp2_with fail
        refine (hS.out _).mono ?_
        rintro e w2 ⟨rfl, hb⟩
        have hA := (hA).below hb; clear kA lA fA; have kA := hA.cell; have lA := hA.lt; have fA := hA.froz
        have hB := (hB).below hb; clear kB lB fB; have kB := hB.cell; have lB := hB.lt; have fB := hB.froz
        have b2 := b_step (b1) hb; clear hb
        go_wp2_with fail
        skip
        clear kA lA fA; have qA := hA.lcell
        clear kB lB fB; have qB := hB.lcell
        refine wp_later 13 (by kernel_rfl) (by kernel_rfl) ?_
        simp only [List.take_succ_cons, List.take_zero, List.drop_succ_cons, List.drop_zero, List.take_nil, List.drop_nil]
        repeat (go_big_quiet_step (first | (go_at_call 57; exact later_call (onr_t ha (by omega) (by omega) _)) | (go_at_call 27; exact later_call (numberr_on ha (by omega) (by omega) _))))
        refine wpQuiet_nil ?_
        rintro ⟨w3, hb⟩
        change wpList _ _ _ _ _ w3
        clear qA; have hA := hA.below hb; have kA := hA.cell; have lA := hA.lt; have fA := hA.froz
        clear qB; have hB := hB.below hb; have kB := hB.cell; have lB := hB.lt; have fB := hB.froz
        have b3 := b_step (b2) hb; clear hb
        go_wp2_with fail
        refine (numberr_good hb' _).mono ?_
        rintro e w4 ⟨rfl, hb⟩
        have hA := (hA).below hb; clear kA lA fA; have kA := hA.cell; have lA := hA.lt; have fA := hA.froz
        have hB := (hB).below hb; clear kB lB fB; have kB := hB.cell; have lB := hB.lt; have fB := hB.froz
        have b4 := b_step (b3) hb; clear hb
        go_wp2
        go_ret2
        exact ⟨rfl, b4⟩
      · rw [show agI 3 S0 (numI y' m' d' - onF y m d (12 * S0)) (onF y m d (12 * (S0 + 1)) - numI y' m' d') = S0 + 1 by unfold agI; rw [if_neg (by decide), if_neg (by decide), if_neg hp]]
        have c2 : decide (onF y m d (12 * (S0 + 1)) - numI y' m' d' ≤ numI y' m' d' - onF y m d (12 * S0)) = true := by simp; omega
        clear hp s3 s4
        go_enter Tryd.func40, Tryd.ntmps40
        go_wp2_with fail
        refine (hW.out _).mono ?_
        rintro e w1 ⟨rfl, hb⟩
        have hA := (((Blk.new_at (w := w) (g := w.heap.size) (by simp) 29 #[.int .i64 y, .int .i64 m, .int .i64 d])).alloc _).below hb; have kA := hA.cell; have lA := hA.lt; have fA := hA.froz
        have hB := ((Blk.new_at (w := (w.alloc (.cells #[.int .i64 y, .int .i64 m, .int .i64 d] 29))) (g := w.heap.size + 1) (by simp) 29 #[.int .i64 y', .int .i64 m', .int .i64 d'])).below hb; have kB := hB.cell; have lB := hB.lt; have fB := hB.froz
        have b1 := b_step (b_alloc (b_alloc (Below.refl w.heap.size w) _) _) hb; clear hb
        go_wp2_with fail
        refine (hS.out _).mono ?_
        rintro e w2 ⟨rfl, hb⟩
        have hA := (hA).below hb; clear kA lA fA; have kA := hA.cell; have lA := hA.lt; have fA := hA.froz
        have hB := (hB).below hb; clear kB lB fB; have kB := hB.cell; have lB := hB.lt; have fB := hB.froz
        have b2 := b_step (b1) hb; clear hb
        go_wp2_with fail
        skip
        clear kA lA fA; have qA := hA.lcell
        clear kB lB fB; have qB := hB.lcell
        refine wp_later 13 (by kernel_rfl) (by kernel_rfl) ?_
        simp only [List.take_succ_cons, List.take_zero, List.drop_succ_cons, List.drop_zero, List.take_nil, List.drop_nil]
        repeat (go_big_quiet_step (first | (go_at_call 57; exact later_call (onr_t ha (by omega) (by omega) _)) | (go_at_call 27; exact later_call (numberr_on ha (by omega) (by omega) _))))
        refine wpQuiet_nil ?_
        rintro ⟨w3, hb⟩
        change wpList _ _ _ _ _ w3
        clear qA; have hA := hA.below hb; have kA := hA.cell; have lA := hA.lt; have fA := hA.froz
        clear qB; have hB := hB.below hb; have kB := hB.cell; have lB := hB.lt; have fB := hB.froz
        have b3 := b_step (b2) hb; clear hb
        go_wp2_with fail
        refine (numberr_good hb' _).mono ?_
        rintro e w4 ⟨rfl, hb⟩
        have hA := (hA).below hb; clear kA lA fA; have kA := hA.cell; have lA := hA.lt; have fA := hA.froz
        have hB := (hB).below hb; clear kB lB fB; have kB := hB.cell; have lB := hB.lt; have fB := hB.froz
        have b4 := b_step (b3) hb; clear hb
        go_wp2
        go_ret2
        exact ⟨rfl, b4⟩
  · rw [if_neg h0, if_neg h0]
    by_cases h1 : how < 1
    · have c1 : decide (how < 1) = true := by simpa using h1
      clear h0 h1 s3 s4
      go_enter Tryd.func40, Tryd.ntmps40
      go_wp2_with fail
      refine (hW.out _).mono ?_
      rintro e w1 ⟨rfl, hb⟩
      have hA := (((Blk.new_at (w := w) (g := w.heap.size) (by simp) 29 #[.int .i64 y, .int .i64 m, .int .i64 d])).alloc _).below hb; have kA := hA.cell; have lA := hA.lt; have fA := hA.froz
      have hB := ((Blk.new_at (w := (w.alloc (.cells #[.int .i64 y, .int .i64 m, .int .i64 d] 29))) (g := w.heap.size + 1) (by simp) 29 #[.int .i64 y', .int .i64 m', .int .i64 d'])).below hb; have kB := hB.cell; have lB := hB.lt; have fB := hB.froz
      have b1 := b_step (b_alloc (b_alloc (Below.refl w.heap.size w) _) _) hb; clear hb
      go_wp2
      go_ret2
      exact ⟨rfl, b1⟩
    · have c1 : decide (how < 1) = false := by simpa using h1
      have c2 : decide (3 < how) = true := by simp; omega
      clear h0 h1 s3 s4
      go_enter Tryd.func40, Tryd.ntmps40
      go_wp2_with fail
      refine (hW.out _).mono ?_
      rintro e w1 ⟨rfl, hb⟩
      have hA := (((Blk.new_at (w := w) (g := w.heap.size) (by simp) 29 #[.int .i64 y, .int .i64 m, .int .i64 d])).alloc _).below hb; have kA := hA.cell; have lA := hA.lt; have fA := hA.froz
      have hB := ((Blk.new_at (w := (w.alloc (.cells #[.int .i64 y, .int .i64 m, .int .i64 d] 29))) (g := w.heap.size + 1) (by simp) 29 #[.int .i64 y', .int .i64 m', .int .i64 d'])).below hb; have kB := hB.cell; have lB := hB.lt; have fB := hB.froz
      have b1 := b_step (b_alloc (b_alloc (Below.refl w.heap.size w) _) _) hb; clear hb
      go_wp2
      go_ret2
      exact ⟨rfl, b1⟩
end Go.Proofs.YtolgljionpalkaaDoor
