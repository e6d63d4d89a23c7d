/- Age and Between of the program. -/
import Derived.Test.YtolgljionpalkaaDoorDayK
set_option linter.unusedSimpArgs false
set_option linter.unusedVariables false
namespace Go.Proofs.YtolgljionpalkaaDoor
open Go.RowKit Go.BigFrame
def agI (how n past nxt : Int) : Int := if how = 1 then n else if how = 2 then (if past = 0 then n else n + 1) else (if past < nxt then n else n + 1)
set_option maxHeartbeats 2000000 in
theorem age_bad1 {y m d y' m' d' : Int} (how : Int) (ha : Hid (goodB y m d = false)) (w : World) (hT : TabOk w) : Calls Tryd.prog 39 #[.agg #[.int .i64 y, .int .i64 m, .int .i64 d], .agg #[.int .i64 y', .int .i64 m', .int .i64 d'], .int .i64 how] w fun e w' => e = .returned (.tuple #[.int .i64 0, .int .i64 70]) ∧ Below w.heap.size w w' := by
  go_enter Tryd.func39, Tryd.ntmps39
  go_wp2_with fail
  refine (both_bad1 ha _ (hT.below (b_alloc (b_alloc (Below.refl w.heap.size w) _) _))).mono ?_
  rintro e w1 ⟨rfl, hb⟩
  have hA := (((Blk.new_at (w := w) (g := w.heap.size) (by simp) 29 #[.int .i64 y, .int .i64 m, .int .i64 d])).alloc _).below hb; have kA := hA.cell; have lA := hA.lt; have fA := hA.froz
  have hB := ((Blk.new_at (w := (w.alloc (.cells #[.int .i64 y, .int .i64 m, .int .i64 d] 29))) (g := w.heap.size + 1) (by simp) 29 #[.int .i64 y', .int .i64 m', .int .i64 d'])).below hb; have kB := hB.cell; have lB := hB.lt; have fB := hB.froz
  have b1 := b_step (b_alloc (b_alloc (Below.refl w.heap.size w) _) _) hb; clear hb
  go_wp2
  go_ret2
  exact ⟨rfl, b1⟩
set_option maxHeartbeats 2000000 in
theorem age_bad2 {y m d y' m' d' : Int} (how : Int) (ha : Hid (goodB y m d = true)) (hb' : Hid (goodB y' m' d' = false)) (w : World) (hT : TabOk w) : Calls Tryd.prog 39 #[.agg #[.int .i64 y, .int .i64 m, .int .i64 d], .agg #[.int .i64 y', .int .i64 m', .int .i64 d'], .int .i64 how] w fun e w' => e = .returned (.tuple #[.int .i64 0, .int .i64 70]) ∧ Below w.heap.size w w' := by
  go_enter Tryd.func39, Tryd.ntmps39
  go_wp2_with fail
  refine (both_bad2 ha hb' _ (hT.below (b_alloc (b_alloc (Below.refl w.heap.size w) _) _))).mono ?_
  rintro e w1 ⟨rfl, hb⟩
  have hA := (((Blk.new_at (w := w) (g := w.heap.size) (by simp) 29 #[.int .i64 y, .int .i64 m, .int .i64 d])).alloc _).below hb; have kA := hA.cell; have lA := hA.lt; have fA := hA.froz
  have hB := ((Blk.new_at (w := (w.alloc (.cells #[.int .i64 y, .int .i64 m, .int .i64 d] 29))) (g := w.heap.size + 1) (by simp) 29 #[.int .i64 y', .int .i64 m', .int .i64 d'])).below hb; have kB := hB.cell; have lB := hB.lt; have fB := hB.froz
  have b1 := b_step (b_alloc (b_alloc (Below.refl w.heap.size w) _) _) hb; clear hb
  go_wp2
  go_ret2
  exact ⟨rfl, b1⟩
set_option maxHeartbeats 2000000 in
theorem age_order {y m d y' m' d' : Int} (how : Int) (ha : Hid (goodB y m d = true)) (hb' : Hid (goodB y' m' d' = true)) (hn : numI y' m' d' < numI y m d) (w : World) (hT : TabOk w) : Calls Tryd.prog 39 #[.agg #[.int .i64 y, .int .i64 m, .int .i64 d], .agg #[.int .i64 y', .int .i64 m', .int .i64 d'], .int .i64 how] w fun e w' => e = .returned (.tuple #[.int .i64 0, .int .i64 1]) ∧ Below w.heap.size w w' := by
  have c1 : decide (numI y' m' d' < numI y m d) = true := by simpa using hn
  clear hn
  go_enter Tryd.func39, Tryd.ntmps39
  go_wp2_with fail
  refine (both_good ha hb' _ (hT.below (b_alloc (b_alloc (Below.refl w.heap.size w) _) _))).mono ?_
  rintro e w1 ⟨rfl, hb⟩
  have hA := (((Blk.new_at (w := w) (g := w.heap.size) (by simp) 29 #[.int .i64 y, .int .i64 m, .int .i64 d])).alloc _).below hb; have kA := hA.cell; have lA := hA.lt; have fA := hA.froz
  have hB := ((Blk.new_at (w := (w.alloc (.cells #[.int .i64 y, .int .i64 m, .int .i64 d] 29))) (g := w.heap.size + 1) (by simp) 29 #[.int .i64 y', .int .i64 m', .int .i64 d'])).below hb; have kB := hB.cell; have lB := hB.lt; have fB := hB.froz
  have b1 := b_step (b_alloc (b_alloc (Below.refl w.heap.size w) _) _) hb; clear hb
  go_wp2_with fail
  have hTr := hT.below (b1)
  clear kA lA fA; have qA := hA.lcell
  clear kB lB fB; have qB := hB.lcell
  refine wp_later 5 (by kernel_rfl) (by kernel_rfl) ?_
  simp only [List.take_succ_cons, List.take_zero, List.drop_succ_cons, List.drop_zero, List.take_nil, List.drop_nil]
  repeat (go_big_quiet_step (first | (go_at_call_of 50 d'; exact later_call (number_good hb' _ (hTr.later _))) | (go_at_call 50; exact later_call (number_good ha _ (hTr.later _)))))
  refine wpQuiet_nil ?_
  rintro ⟨w2, hb⟩
  change wpList _ _ _ _ _ w2
  clear qA; have hA := hA.below hb; have kA := hA.cell; have lA := hA.lt; have fA := hA.froz
  clear qB; have hB := hB.below hb; have kB := hB.cell; have lB := hB.lt; have fB := hB.froz
  clear hTr
  have b2 := b_step (b1) hb; clear hb
  go_wp2
  go_ret2
  exact ⟨rfl, b2⟩
set_option maxHeartbeats 2000000 in
theorem age_good {y m d y' m' d' : Int} (how : Int) (ha : Hid (goodB y m d = true)) (hb' : Hid (goodB y' m' d' = true)) (hn : numI y m d ≤ numI y' m' d') (w : World) (hT : TabOk w) : Calls Tryd.prog 39 #[.agg #[.int .i64 y, .int .i64 m, .int .i64 d], .agg #[.int .i64 y', .int .i64 m', .int .i64 d'], .int .i64 how] w fun e w' => e = .returned (.tuple #[.int .i64 (if 1 ≤ how ∧ how ≤ 3 then agI how (sinI y m d y' m' d' 12) (numI y' m' d' - onF y m d (12 * sinI y m d y' m' d' 12)) (onF y m d (12 * (sinI y m d y' m' d' 12 + 1)) - numI y' m' d') else 0), .int .i64 (if 1 ≤ how ∧ how ≤ 3 then 0 else 1)]) ∧ Below w.heap.size w w' := by
  have S := sinI_spec (s := 12) ha.out hb'.out (by omega) hn
  have ga := (goodB_iff _ _ _).1 ha.out
  have gb := (goodB_iff _ _ _).1 hb'.out
  have hta : 12 ≤ tI y m ∧ tI y m ≤ 119999 := by unfold tI; omega
  have htb : 12 ≤ tI y' m' ∧ tI y' m' ≤ 119999 := by unfold tI; omega
  have hra := num_rng ha.out
  have hrb := num_rng hb'.out
  have hS := Lib.hid (fun W (t : TabOk W) => since_12 ha hb' hn W t)
  have c1 : decide (numI y' m' d' < numI y m d) = false := by simp; omega
  generalize sinI y m d y' m' d' 12 = S0 at *
  obtain ⟨s1, s2, s3, s4⟩ := S
  have hr1 := onF_rng (k := 12 * S0) ha (by omega) (by omega)
  have hr2 := onF_rng (k := 12 * (S0 + 1)) ha (by omega) (by omega)
  have hO1 := Lib.hid (fun W (t : TabOk W) => on_t (k := 12 * S0) ha (by omega) (by omega) W t)
  have hN1 := Lib.hid (fun W (t : TabOk W) => number_on (k := 12 * S0) ha (by omega) (by omega) W t)
  have hO2 := Lib.hid (fun W (t : TabOk W) => on_t (k := 12 * (S0 + 1)) ha (by omega) (by omega) W t)
  have hN2 := Lib.hid (fun W (t : TabOk W) => number_on (k := 12 * (S0 + 1)) ha (by omega) (by omega) W t)
  clear s3 s4 hn
  by_cases h0 : 1 ≤ how ∧ how ≤ 3
  · rw [if_pos h0, if_pos h0]
    have h3 : how = 1 ∨ how = 2 ∨ how = 3 := by omega
    clear h0
    rcases h3 with rfl | rfl | rfl
    · rw [show agI 1 S0 (numI y' m' d' - onF y m d (12 * S0)) (onF y m d (12 * (S0 + 1)) - numI y' m' d') = S0 from rfl]
      go_enter Tryd.func39, Tryd.ntmps39
      go_wp2_with fail
      refine (both_good ha hb' _ (hT.below (b_alloc (b_alloc (Below.refl w.heap.size w) _) _))).mono ?_
      rintro e w1 ⟨rfl, hb⟩
      have hA := (((Blk.new_at (w := w) (g := w.heap.size) (by simp) 29 #[.int .i64 y, .int .i64 m, .int .i64 d])).alloc _).below hb; have kA := hA.cell; have lA := hA.lt; have fA := hA.froz
      have hB := ((Blk.new_at (w := (w.alloc (.cells #[.int .i64 y, .int .i64 m, .int .i64 d] 29))) (g := w.heap.size + 1) (by simp) 29 #[.int .i64 y', .int .i64 m', .int .i64 d'])).below hb; have kB := hB.cell; have lB := hB.lt; have fB := hB.froz
      have b1 := b_step (b_alloc (b_alloc (Below.refl w.heap.size w) _) _) hb; clear hb
      go_wp2_with fail
      have hTr := hT.below (b1)
      clear kA lA fA; have qA := hA.lcell
      clear kB lB fB; have qB := hB.lcell
      refine wp_later 5 (by kernel_rfl) (by kernel_rfl) ?_
      simp only [List.take_succ_cons, List.take_zero, List.drop_succ_cons, List.drop_zero, List.take_nil, List.drop_nil]
      repeat (go_big_quiet_step (first | (go_at_call_of 50 d'; exact later_call (number_good hb' _ (hTr.later _))) | (go_at_call 50; exact later_call (number_good ha _ (hTr.later _)))))
      refine wpQuiet_nil ?_
      rintro ⟨w2, hb⟩
      change wpList _ _ _ _ _ w2
      clear qA; have hA := hA.below hb; have kA := hA.cell; have lA := hA.lt; have fA := hA.froz
      clear qB; have hB := hB.below hb; have kB := hB.cell; have lB := hB.lt; have fB := hB.froz
      clear hTr
      have b2 := b_step (b1) hb; clear hb
      go_wp2_with fail
      refine (hS.out _ (hT.below (b2))).mono ?_
      rintro e w3 ⟨rfl, hb⟩
      have hA := (hA).below hb; clear kA lA fA; have kA := hA.cell; have lA := hA.lt; have fA := hA.froz
      have hB := (hB).below hb; clear kB lB fB; have kB := hB.cell; have lB := hB.lt; have fB := hB.froz
      have b3 := b_step (b2) hb; clear hb
      go_wp2_with fail
      have hTr := hT.below (b3)
      clear kA lA fA; have qA := hA.lcell
      clear kB lB fB; have qB := hB.lcell
      refine wp_later 8 (by kernel_rfl) (by kernel_rfl) ?_
      simp only [List.take_succ_cons, List.take_zero, List.drop_succ_cons, List.drop_zero, List.take_nil, List.drop_nil]
      repeat (go_big_quiet_step (first | (go_at_call_of 50 d'; exact later_call (number_good hb' _ (hTr.later _))) | (go_at_call 56; exact later_call (hO1.out _ (hTr.later _))) | (go_at_call 50; exact later_call (hN1.out _ (hTr.later _)))))
      refine wpQuiet_nil ?_
      rintro ⟨w4, hb⟩
      change wpList _ _ _ _ _ w4
      clear qA; have hA := hA.below hb; have kA := hA.cell; have lA := hA.lt; have fA := hA.froz
      clear qB; have hB := hB.below hb; have kB := hB.cell; have lB := hB.lt; have fB := hB.froz
      clear hTr
      have b4 := b_step (b3) hb; clear hb
      go_wp2_with fail
      have hTr := hT.below (b4)
      clear kA lA fA; have qA := hA.lcell
      clear kB lB fB; have qB := hB.lcell
      refine wp_later 9 (by kernel_rfl) (by kernel_rfl) ?_
      simp only [List.take_succ_cons, List.take_zero, List.drop_succ_cons, List.drop_zero, List.take_nil, List.drop_nil]
      repeat (go_big_quiet_step (first | (go_at_call_of 50 d'; exact later_call (number_good hb' _ (hTr.later _))) | (go_at_call 56; exact later_call (hO2.out _ (hTr.later _))) | (go_at_call 50; exact later_call (hN2.out _ (hTr.later _)))))
      refine wpQuiet_nil ?_
      rintro ⟨w5, hb⟩
      change wpList _ _ _ _ _ w5
      clear qA; have hA := hA.below hb; have kA := hA.cell; have lA := hA.lt; have fA := hA.froz
      clear qB; have hB := hB.below hb; have kB := hB.cell; have lB := hB.lt; have fB := hB.froz
      clear hTr
      have b5 := b_step (b4) hb; clear hb
      go_wp2
      go_ret2
      exact ⟨rfl, b5⟩
    · by_cases hp : numI y' m' d' - onF y m d (12 * S0) = 0
      · rw [show agI 2 S0 (numI y' m' d' - onF y m d (12 * S0)) (onF y m d (12 * (S0 + 1)) - numI y' m' d') = S0 by unfold agI; rw [if_neg (by decide), if_pos rfl, if_pos hp]]
        have c2 : (numI y' m' d' - onF y m d (12 * S0) == 0) = true := beq_iff_eq.2 hp
        clear hp
        go_enter Tryd.func39, Tryd.ntmps39
        go_wp2_with fail
        refine (both_good ha hb' _ (hT.below (b_alloc (b_alloc (Below.refl w.heap.size w) _) _))).mono ?_
        rintro e w1 ⟨rfl, hb⟩
        have hA := (((Blk.new_at (w := w) (g := w.heap.size) (by simp) 29 #[.int .i64 y, .int .i64 m, .int .i64 d])).alloc _).below hb; have kA := hA.cell; have lA := hA.lt; have fA := hA.froz
        have hB := ((Blk.new_at (w := (w.alloc (.cells #[.int .i64 y, .int .i64 m, .int .i64 d] 29))) (g := w.heap.size + 1) (by simp) 29 #[.int .i64 y', .int .i64 m', .int .i64 d'])).below hb; have kB := hB.cell; have lB := hB.lt; have fB := hB.froz
        have b1 := b_step (b_alloc (b_alloc (Below.refl w.heap.size w) _) _) hb; clear hb
        go_wp2_with fail
        have hTr := hT.below (b1)
        clear kA lA fA; have qA := hA.lcell
        clear kB lB fB; have qB := hB.lcell
        refine wp_later 5 (by kernel_rfl) (by kernel_rfl) ?_
        simp only [List.take_succ_cons, List.take_zero, List.drop_succ_cons, List.drop_zero, List.take_nil, List.drop_nil]
        repeat (go_big_quiet_step (first | (go_at_call_of 50 d'; exact later_call (number_good hb' _ (hTr.later _))) | (go_at_call 50; exact later_call (number_good ha _ (hTr.later _)))))
        refine wpQuiet_nil ?_
        rintro ⟨w2, hb⟩
        change wpList _ _ _ _ _ w2
        clear qA; have hA := hA.below hb; have kA := hA.cell; have lA := hA.lt; have fA := hA.froz
        clear qB; have hB := hB.below hb; have kB := hB.cell; have lB := hB.lt; have fB := hB.froz
        clear hTr
        have b2 := b_step (b1) hb; clear hb
        go_wp2_with fail
        refine (hS.out _ (hT.below (b2))).mono ?_
        rintro e w3 ⟨rfl, hb⟩
        have hA := (hA).below hb; clear kA lA fA; have kA := hA.cell; have lA := hA.lt; have fA := hA.froz
        have hB := (hB).below hb; clear kB lB fB; have kB := hB.cell; have lB := hB.lt; have fB := hB.froz
        have b3 := b_step (b2) hb; clear hb
        go_wp2_with fail
        have hTr := hT.below (b3)
        clear kA lA fA; have qA := hA.lcell
        clear kB lB fB; have qB := hB.lcell
        refine wp_later 8 (by kernel_rfl) (by kernel_rfl) ?_
        simp only [List.take_succ_cons, List.take_zero, List.drop_succ_cons, List.drop_zero, List.take_nil, List.drop_nil]
        repeat (go_big_quiet_step (first | (go_at_call_of 50 d'; exact later_call (number_good hb' _ (hTr.later _))) | (go_at_call 56; exact later_call (hO1.out _ (hTr.later _))) | (go_at_call 50; exact later_call (hN1.out _ (hTr.later _)))))
        refine wpQuiet_nil ?_
        rintro ⟨w4, hb⟩
        change wpList _ _ _ _ _ w4
        clear qA; have hA := hA.below hb; have kA := hA.cell; have lA := hA.lt; have fA := hA.froz
        clear qB; have hB := hB.below hb; have kB := hB.cell; have lB := hB.lt; have fB := hB.froz
        clear hTr
        have b4 := b_step (b3) hb; clear hb
        go_wp2_with fail
        have hTr := hT.below (b4)
        clear kA lA fA; have qA := hA.lcell
        clear kB lB fB; have qB := hB.lcell
        refine wp_later 9 (by kernel_rfl) (by kernel_rfl) ?_
        simp only [List.take_succ_cons, List.take_zero, List.drop_succ_cons, List.drop_zero, List.take_nil, List.drop_nil]
        repeat (go_big_quiet_step (first | (go_at_call_of 50 d'; exact later_call (number_good hb' _ (hTr.later _))) | (go_at_call 56; exact later_call (hO2.out _ (hTr.later _))) | (go_at_call 50; exact later_call (hN2.out _ (hTr.later _)))))
        refine wpQuiet_nil ?_
        rintro ⟨w5, hb⟩
        change wpList _ _ _ _ _ w5
        clear qA; have hA := hA.below hb; have kA := hA.cell; have lA := hA.lt; have fA := hA.froz
        clear qB; have hB := hB.below hb; have kB := hB.cell; have lB := hB.lt; have fB := hB.froz
        clear hTr
        have b5 := b_step (b4) hb; clear hb
        go_wp2
        go_ret2
        exact ⟨rfl, b5⟩
      · rw [show agI 2 S0 (numI y' m' d' - onF y m d (12 * S0)) (onF y m d (12 * (S0 + 1)) - numI y' m' d') = S0 + 1 by unfold agI; rw [if_neg (by decide), if_pos rfl, if_neg hp]]
        have c2 : (numI y' m' d' - onF y m d (12 * S0) == 0) = false := beq_eq_false_iff_ne.2 hp
        clear hp
        go_enter Tryd.func39, Tryd.ntmps39
        go_wp2_with fail
        refine (both_good ha hb' _ (hT.below (b_alloc (b_alloc (Below.refl w.heap.size w) _) _))).mono ?_
        rintro e w1 ⟨rfl, hb⟩
        have hA := (((Blk.new_at (w := w) (g := w.heap.size) (by simp) 29 #[.int .i64 y, .int .i64 m, .int .i64 d])).alloc _).below hb; have kA := hA.cell; have lA := hA.lt; have fA := hA.froz
        have hB := ((Blk.new_at (w := (w.alloc (.cells #[.int .i64 y, .int .i64 m, .int .i64 d] 29))) (g := w.heap.size + 1) (by simp) 29 #[.int .i64 y', .int .i64 m', .int .i64 d'])).below hb; have kB := hB.cell; have lB := hB.lt; have fB := hB.froz
        have b1 := b_step (b_alloc (b_alloc (Below.refl w.heap.size w) _) _) hb; clear hb
        go_wp2_with fail
        have hTr := hT.below (b1)
        clear kA lA fA; have qA := hA.lcell
        clear kB lB fB; have qB := hB.lcell
        refine wp_later 5 (by kernel_rfl) (by kernel_rfl) ?_
        simp only [List.take_succ_cons, List.take_zero, List.drop_succ_cons, List.drop_zero, List.take_nil, List.drop_nil]
        repeat (go_big_quiet_step (first | (go_at_call_of 50 d'; exact later_call (number_good hb' _ (hTr.later _))) | (go_at_call 50; exact later_call (number_good ha _ (hTr.later _)))))
        refine wpQuiet_nil ?_
        rintro ⟨w2, hb⟩
        change wpList _ _ _ _ _ w2
        clear qA; have hA := hA.below hb; have kA := hA.cell; have lA := hA.lt; have fA := hA.froz
        clear qB; have hB := hB.below hb; have kB := hB.cell; have lB := hB.lt; have fB := hB.froz
        clear hTr
        have b2 := b_step (b1) hb; clear hb
        go_wp2_with fail
        refine (hS.out _ (hT.below (b2))).mono ?_
        rintro e w3 ⟨rfl, hb⟩
        have hA := (hA).below hb; clear kA lA fA; have kA := hA.cell; have lA := hA.lt; have fA := hA.froz
        have hB := (hB).below hb; clear kB lB fB; have kB := hB.cell; have lB := hB.lt; have fB := hB.froz
        have b3 := b_step (b2) hb; clear hb
        go_wp2_with fail
        have hTr := hT.below (b3)
        clear kA lA fA; have qA := hA.lcell
        clear kB lB fB; have qB := hB.lcell
        refine wp_later 8 (by kernel_rfl) (by kernel_rfl) ?_
        simp only [List.take_succ_cons, List.take_zero, List.drop_succ_cons, List.drop_zero, List.take_nil, List.drop_nil]
        repeat (go_big_quiet_step (first | (go_at_call_of 50 d'; exact later_call (number_good hb' _ (hTr.later _))) | (go_at_call 56; exact later_call (hO1.out _ (hTr.later _))) | (go_at_call 50; exact later_call (hN1.out _ (hTr.later _)))))
        refine wpQuiet_nil ?_
        rintro ⟨w4, hb⟩
        change wpList _ _ _ _ _ w4
        clear qA; have hA := hA.below hb; have kA := hA.cell; have lA := hA.lt; have fA := hA.froz
        clear qB; have hB := hB.below hb; have kB := hB.cell; have lB := hB.lt; have fB := hB.froz
        clear hTr
        have b4 := b_step (b3) hb; clear hb
        go_wp2_with fail
        have hTr := hT.below (b4)
        clear kA lA fA; have qA := hA.lcell
        clear kB lB fB; have qB := hB.lcell
        refine wp_later 9 (by kernel_rfl) (by kernel_rfl) ?_
        simp only [List.take_succ_cons, List.take_zero, List.drop_succ_cons, List.drop_zero, List.take_nil, List.drop_nil]
        repeat (go_big_quiet_step (first | (go_at_call_of 50 d'; exact later_call (number_good hb' _ (hTr.later _))) | (go_at_call 56; exact later_call (hO2.out _ (hTr.later _))) | (go_at_call 50; exact later_call (hN2.out _ (hTr.later _)))))
        refine wpQuiet_nil ?_
        rintro ⟨w5, hb⟩
        change wpList _ _ _ _ _ w5
        clear qA; have hA := hA.below hb; have kA := hA.cell; have lA := hA.lt; have fA := hA.froz
        clear qB; have hB := hB.below hb; have kB := hB.cell; have lB := hB.lt; have fB := hB.froz
        clear hTr
        have b5 := b_step (b4) hb; clear hb
        go_wp2
        go_ret2
        exact ⟨rfl, b5⟩
    · by_cases hp : numI y' m' d' - onF y m d (12 * S0) < onF y m d (12 * (S0 + 1)) - numI y' m' d'
      · rw [show agI 3 S0 (numI y' m' d' - onF y m d (12 * S0)) (onF y m d (12 * (S0 + 1)) - numI y' m' d') = S0 by unfold agI; rw [if_neg (by decide), if_neg (by decide), if_pos hp]]
        have c2 : decide (numI y' m' d' - onF y m d (12 * S0) < onF y m d (12 * (S0 + 1)) - numI y' m' d') = true := by simpa using hp
        clear hp
        go_enter Tryd.func39, Tryd.ntmps39
        go_wp2_with fail
        refine (both_good ha hb' _ (hT.below (b_alloc (b_alloc (Below.refl w.heap.size w) _) _))).mono ?_
        rintro e w1 ⟨rfl, hb⟩
        have hA := (((Blk.new_at (w := w) (g := w.heap.size) (by simp) 29 #[.int .i64 y, .int .i64 m, .int .i64 d])).alloc _).below hb; have kA := hA.cell; have lA := hA.lt; have fA := hA.froz
        have hB := ((Blk.new_at (w := (w.alloc (.cells #[.int .i64 y, .int .i64 m, .int .i64 d] 29))) (g := w.heap.size + 1) (by simp) 29 #[.int .i64 y', .int .i64 m', .int .i64 d'])).below hb; have kB := hB.cell; have lB := hB.lt; have fB := hB.froz
        have b1 := b_step (b_alloc (b_alloc (Below.refl w.heap.size w) _) _) hb; clear hb
        go_wp2_with fail
        have hTr := hT.below (b1)
        clear kA lA fA; have qA := hA.lcell
        clear kB lB fB; have qB := hB.lcell
        refine wp_later 5 (by kernel_rfl) (by kernel_rfl) ?_
        simp only [List.take_succ_cons, List.take_zero, List.drop_succ_cons, List.drop_zero, List.take_nil, List.drop_nil]
        repeat (go_big_quiet_step (first | (go_at_call_of 50 d'; exact later_call (number_good hb' _ (hTr.later _))) | (go_at_call 50; exact later_call (number_good ha _ (hTr.later _)))))
        refine wpQuiet_nil ?_
        rintro ⟨w2, hb⟩
        change wpList _ _ _ _ _ w2
        clear qA; have hA := hA.below hb; have kA := hA.cell; have lA := hA.lt; have fA := hA.froz
        clear qB; have hB := hB.below hb; have kB := hB.cell; have lB := hB.lt; have fB := hB.froz
        clear hTr
        have b2 := b_step (b1) hb; clear hb
        go_wp2_with fail
        refine (hS.out _ (hT.below (b2))).mono ?_
        rintro e w3 ⟨rfl, hb⟩
        have hA := (hA).below hb; clear kA lA fA; have kA := hA.cell; have lA := hA.lt; have fA := hA.froz
        have hB := (hB).below hb; clear kB lB fB; have kB := hB.cell; have lB := hB.lt; have fB := hB.froz
        have b3 := b_step (b2) hb; clear hb
        go_wp2_with fail
        have hTr := hT.below (b3)
        clear kA lA fA; have qA := hA.lcell
        clear kB lB fB; have qB := hB.lcell
        refine wp_later 8 (by kernel_rfl) (by kernel_rfl) ?_
        simp only [List.take_succ_cons, List.take_zero, List.drop_succ_cons, List.drop_zero, List.take_nil, List.drop_nil]
        repeat (go_big_quiet_step (first | (go_at_call_of 50 d'; exact later_call (number_good hb' _ (hTr.later _))) | (go_at_call 56; exact later_call (hO1.out _ (hTr.later _))) | (go_at_call 50; exact later_call (hN1.out _ (hTr.later _)))))
        refine wpQuiet_nil ?_
        rintro ⟨w4, hb⟩
        change wpList _ _ _ _ _ w4
        clear qA; have hA := hA.below hb; have kA := hA.cell; have lA := hA.lt; have fA := hA.froz
        clear qB; have hB := hB.below hb; have kB := hB.cell; have lB := hB.lt; have fB := hB.froz
        clear hTr
        have b4 := b_step (b3) hb; clear hb
        go_wp2_with fail
        have hTr := hT.below (b4)
        clear kA lA fA; have qA := hA.lcell
        clear kB lB fB; have qB := hB.lcell
        refine wp_later 9 (by kernel_rfl) (by kernel_rfl) ?_
        simp only [List.take_succ_cons, List.take_zero, List.drop_succ_cons, List.drop_zero, List.take_nil, List.drop_nil]
        repeat (go_big_quiet_step (first | (go_at_call_of 50 d'; exact later_call (number_good hb' _ (hTr.later _))) | (go_at_call 56; exact later_call (hO2.out _ (hTr.later _))) | (go_at_call 50; exact later_call (hN2.out _ (hTr.later _)))))
        refine wpQuiet_nil ?_
        rintro ⟨w5, hb⟩
        change wpList _ _ _ _ _ w5
        clear qA; have hA := hA.below hb; have kA := hA.cell; have lA := hA.lt; have fA := hA.froz
        clear qB; have hB := hB.below hb; have kB := hB.cell; have lB := hB.lt; have fB := hB.froz
        clear hTr
        have b5 := b_step (b4) hb; clear hb
        go_wp2
        go_ret2
        exact ⟨rfl, b5⟩
      · rw [show agI 3 S0 (numI y' m' d' - onF y m d (12 * S0)) (onF y m d (12 * (S0 + 1)) - numI y' m' d') = S0 + 1 by unfold agI; rw [if_neg (by decide), if_neg (by decide), if_neg hp]]
        have c2 : decide (numI y' m' d' - onF y m d (12 * S0) < onF y m d (12 * (S0 + 1)) - numI y' m' d') = false := by simpa using hp
        clear hp
        go_enter Tryd.func39, Tryd.ntmps39
        go_wp2_with fail
        refine (both_good ha hb' _ (hT.below (b_alloc (b_alloc (Below.refl w.heap.size w) _) _))).mono ?_
        rintro e w1 ⟨rfl, hb⟩
        have hA := (((Blk.new_at (w := w) (g := w.heap.size) (by simp) 29 #[.int .i64 y, .int .i64 m, .int .i64 d])).alloc _).below hb; have kA := hA.cell; have lA := hA.lt; have fA := hA.froz
        have hB := ((Blk.new_at (w := (w.alloc (.cells #[.int .i64 y, .int .i64 m, .int .i64 d] 29))) (g := w.heap.size + 1) (by simp) 29 #[.int .i64 y', .int .i64 m', .int .i64 d'])).below hb; have kB := hB.cell; have lB := hB.lt; have fB := hB.froz
        have b1 := b_step (b_alloc (b_alloc (Below.refl w.heap.size w) _) _) hb; clear hb
        go_wp2_with fail
        have hTr := hT.below (b1)
        clear kA lA fA; have qA := hA.lcell
        clear kB lB fB; have qB := hB.lcell
        refine wp_later 5 (by kernel_rfl) (by kernel_rfl) ?_
        simp only [List.take_succ_cons, List.take_zero, List.drop_succ_cons, List.drop_zero, List.take_nil, List.drop_nil]
        repeat (go_big_quiet_step (first | (go_at_call_of 50 d'; exact later_call (number_good hb' _ (hTr.later _))) | (go_at_call 50; exact later_call (number_good ha _ (hTr.later _)))))
        refine wpQuiet_nil ?_
        rintro ⟨w2, hb⟩
        change wpList _ _ _ _ _ w2
        clear qA; have hA := hA.below hb; have kA := hA.cell; have lA := hA.lt; have fA := hA.froz
        clear qB; have hB := hB.below hb; have kB := hB.cell; have lB := hB.lt; have fB := hB.froz
        clear hTr
        have b2 := b_step (b1) hb; clear hb
        go_wp2_with fail
        refine (hS.out _ (hT.below (b2))).mono ?_
        rintro e w3 ⟨rfl, hb⟩
        have hA := (hA).below hb; clear kA lA fA; have kA := hA.cell; have lA := hA.lt; have fA := hA.froz
        have hB := (hB).below hb; clear kB lB fB; have kB := hB.cell; have lB := hB.lt; have fB := hB.froz
        have b3 := b_step (b2) hb; clear hb
        go_wp2_with fail
        have hTr := hT.below (b3)
        clear kA lA fA; have qA := hA.lcell
        clear kB lB fB; have qB := hB.lcell
        refine wp_later 8 (by kernel_rfl) (by kernel_rfl) ?_
        simp only [List.take_succ_cons, List.take_zero, List.drop_succ_cons, List.drop_zero, List.take_nil, List.drop_nil]
        repeat (go_big_quiet_step (first | (go_at_call_of 50 d'; exact later_call (number_good hb' _ (hTr.later _))) | (go_at_call 56; exact later_call (hO1.out _ (hTr.later _))) | (go_at_call 50; exact later_call (hN1.out _ (hTr.later _)))))
        refine wpQuiet_nil ?_
        rintro ⟨w4, hb⟩
        change wpList _ _ _ _ _ w4
        clear qA; have hA := hA.below hb; have kA := hA.cell; have lA := hA.lt; have fA := hA.froz
        clear qB; have hB := hB.below hb; have kB := hB.cell; have lB := hB.lt; have fB := hB.froz
        clear hTr
        have b4 := b_step (b3) hb; clear hb
        go_wp2_with fail
        have hTr := hT.below (b4)
        clear kA lA fA; have qA := hA.lcell
        clear kB lB fB; have qB := hB.lcell
        refine wp_later 9 (by kernel_rfl) (by kernel_rfl) ?_
        simp only [List.take_succ_cons, List.take_zero, List.drop_succ_cons, List.drop_zero, List.take_nil, List.drop_nil]
        repeat (go_big_quiet_step (first | (go_at_call_of 50 d'; exact later_call (number_good hb' _ (hTr.later _))) | (go_at_call 56; exact later_call (hO2.out _ (hTr.later _))) | (go_at_call 50; exact later_call (hN2.out _ (hTr.later _)))))
        refine wpQuiet_nil ?_
        rintro ⟨w5, hb⟩
        change wpList _ _ _ _ _ w5
        clear qA; have hA := hA.below hb; have kA := hA.cell; have lA := hA.lt; have fA := hA.froz
        clear qB; have hB := hB.below hb; have kB := hB.cell; have lB := hB.lt; have fB := hB.froz
        clear hTr
        have b5 := b_step (b4) hb; clear hb
        go_wp2
        go_ret2
        exact ⟨rfl, b5⟩
  · rw [if_neg h0, if_neg h0]
    have c2 : (how == 1) = false := beq_eq_false_iff_ne.2 (by omega)
    have c3 : (how == 2) = false := beq_eq_false_iff_ne.2 (by omega)
    have c4 : (how == 3) = false := beq_eq_false_iff_ne.2 (by omega)
    clear h0
    go_enter Tryd.func39, Tryd.ntmps39
    go_wp2_with fail
    refine (both_good ha hb' _ (hT.below (b_alloc (b_alloc (Below.refl w.heap.size w) _) _))).mono ?_
    rintro e w1 ⟨rfl, hb⟩
    have hA := (((Blk.new_at (w := w) (g := w.heap.size) (by simp) 29 #[.int .i64 y, .int .i64 m, .int .i64 d])).alloc _).below hb; have kA := hA.cell; have lA := hA.lt; have fA := hA.froz
    have hB := ((Blk.new_at (w := (w.alloc (.cells #[.int .i64 y, .int .i64 m, .int .i64 d] 29))) (g := w.heap.size + 1) (by simp) 29 #[.int .i64 y', .int .i64 m', .int .i64 d'])).below hb; have kB := hB.cell; have lB := hB.lt; have fB := hB.froz
    have b1 := b_step (b_alloc (b_alloc (Below.refl w.heap.size w) _) _) hb; clear hb
    go_wp2_with fail
    have hTr := hT.below (b1)
    clear kA lA fA; have qA := hA.lcell
    clear kB lB fB; have qB := hB.lcell
    refine wp_later 5 (by kernel_rfl) (by kernel_rfl) ?_
    simp only [List.take_succ_cons, List.take_zero, List.drop_succ_cons, List.drop_zero, List.take_nil, List.drop_nil]
    repeat (go_big_quiet_step (first | (go_at_call_of 50 d'; exact later_call (number_good hb' _ (hTr.later _))) | (go_at_call 50; exact later_call (number_good ha _ (hTr.later _)))))
    refine wpQuiet_nil ?_
    rintro ⟨w2, hb⟩
    change wpList _ _ _ _ _ w2
    clear qA; have hA := hA.below hb; have kA := hA.cell; have lA := hA.lt; have fA := hA.froz
    clear qB; have hB := hB.below hb; have kB := hB.cell; have lB := hB.lt; have fB := hB.froz
    clear hTr
    have b2 := b_step (b1) hb; clear hb
    go_wp2_with fail
    refine (hS.out _ (hT.below (b2))).mono ?_
    rintro e w3 ⟨rfl, hb⟩
    have hA := (hA).below hb; clear kA lA fA; have kA := hA.cell; have lA := hA.lt; have fA := hA.froz
    have hB := (hB).below hb; clear kB lB fB; have kB := hB.cell; have lB := hB.lt; have fB := hB.froz
    have b3 := b_step (b2) hb; clear hb
    go_wp2_with fail
    have hTr := hT.below (b3)
    clear kA lA fA; have qA := hA.lcell
    clear kB lB fB; have qB := hB.lcell
    refine wp_later 8 (by kernel_rfl) (by kernel_rfl) ?_
    simp only [List.take_succ_cons, List.take_zero, List.drop_succ_cons, List.drop_zero, List.take_nil, List.drop_nil]
    repeat (go_big_quiet_step (first | (go_at_call_of 50 d'; exact later_call (number_good hb' _ (hTr.later _))) | (go_at_call 56; exact later_call (hO1.out _ (hTr.later _))) | (go_at_call 50; exact later_call (hN1.out _ (hTr.later _)))))
    refine wpQuiet_nil ?_
    rintro ⟨w4, hb⟩
    change wpList _ _ _ _ _ w4
    clear qA; have hA := hA.below hb; have kA := hA.cell; have lA := hA.lt; have fA := hA.froz
    clear qB; have hB := hB.below hb; have kB := hB.cell; have lB := hB.lt; have fB := hB.froz
    clear hTr
    have b4 := b_step (b3) hb; clear hb
    go_wp2_with fail
    have hTr := hT.below (b4)
    clear kA lA fA; have qA := hA.lcell
    clear kB lB fB; have qB := hB.lcell
    refine wp_later 9 (by kernel_rfl) (by kernel_rfl) ?_
    simp only [List.take_succ_cons, List.take_zero, List.drop_succ_cons, List.drop_zero, List.take_nil, List.drop_nil]
    repeat (go_big_quiet_step (first | (go_at_call_of 50 d'; exact later_call (number_good hb' _ (hTr.later _))) | (go_at_call 56; exact later_call (hO2.out _ (hTr.later _))) | (go_at_call 50; exact later_call (hN2.out _ (hTr.later _)))))
    refine wpQuiet_nil ?_
    rintro ⟨w5, hb⟩
    change wpList _ _ _ _ _ w5
    clear qA; have hA := hA.below hb; have kA := hA.cell; have lA := hA.lt; have fA := hA.froz
    clear qB; have hB := hB.below hb; have kB := hB.cell; have lB := hB.lt; have fB := hB.froz
    clear hTr
    have b5 := b_step (b4) hb; clear hb
    go_wp2
    go_ret2
    exact ⟨rfl, b5⟩
set_option maxHeartbeats 2000000 in
theorem between_bad1 {y m d y' m' d' : Int} (ha : Hid (goodB y m d = false)) (w : World) (hT : TabOk w) : Calls Tryd.prog 41 #[.agg #[.int .i64 y, .int .i64 m, .int .i64 d], .agg #[.int .i64 y', .int .i64 m', .int .i64 d']] w fun e w' => e = .returned (.tuple #[.int .i64 0, .int .i64 0, .int .i64 0, .int .i64 70]) ∧ Below w.heap.size w w' := by
  go_enter Tryd.func41, Tryd.ntmps41
  go_wp2_with fail
  refine (both_bad1 ha _ (hT.below (b_alloc (b_alloc (Below.refl w.heap.size w) _) _))).mono ?_
  rintro e w1 ⟨rfl, hb⟩
  have hA := (((Blk.new_at (w := w) (g := w.heap.size) (by simp) 29 #[.int .i64 y, .int .i64 m, .int .i64 d])).alloc _).below hb; have kA := hA.cell; have lA := hA.lt; have fA := hA.froz
  have hB := ((Blk.new_at (w := (w.alloc (.cells #[.int .i64 y, .int .i64 m, .int .i64 d] 29))) (g := w.heap.size + 1) (by simp) 29 #[.int .i64 y', .int .i64 m', .int .i64 d'])).below hb; have kB := hB.cell; have lB := hB.lt; have fB := hB.froz
  have b1 := b_step (b_alloc (b_alloc (Below.refl w.heap.size w) _) _) hb; clear hb
  go_wp2
  exact bodyPost_ret (v := .tuple #[.int .i64 0, .int .i64 0, .int .i64 0, .int .i64 70]) (by simp [results, Tryd.results41, go_sem]) rfl ⟨rfl, b1⟩
set_option maxHeartbeats 2000000 in
theorem between_bad2 {y m d y' m' d' : Int} (ha : Hid (goodB y m d = true)) (hb' : Hid (goodB y' m' d' = false)) (w : World) (hT : TabOk w) : Calls Tryd.prog 41 #[.agg #[.int .i64 y, .int .i64 m, .int .i64 d], .agg #[.int .i64 y', .int .i64 m', .int .i64 d']] w fun e w' => e = .returned (.tuple #[.int .i64 0, .int .i64 0, .int .i64 0, .int .i64 70]) ∧ Below w.heap.size w w' := by
  go_enter Tryd.func41, Tryd.ntmps41
  go_wp2_with fail
  refine (both_bad2 ha hb' _ (hT.below (b_alloc (b_alloc (Below.refl w.heap.size w) _) _))).mono ?_
  rintro e w1 ⟨rfl, hb⟩
  have hA := (((Blk.new_at (w := w) (g := w.heap.size) (by simp) 29 #[.int .i64 y, .int .i64 m, .int .i64 d])).alloc _).below hb; have kA := hA.cell; have lA := hA.lt; have fA := hA.froz
  have hB := ((Blk.new_at (w := (w.alloc (.cells #[.int .i64 y, .int .i64 m, .int .i64 d] 29))) (g := w.heap.size + 1) (by simp) 29 #[.int .i64 y', .int .i64 m', .int .i64 d'])).below hb; have kB := hB.cell; have lB := hB.lt; have fB := hB.froz
  have b1 := b_step (b_alloc (b_alloc (Below.refl w.heap.size w) _) _) hb; clear hb
  go_wp2
  exact bodyPost_ret (v := .tuple #[.int .i64 0, .int .i64 0, .int .i64 0, .int .i64 70]) (by simp [results, Tryd.results41, go_sem]) rfl ⟨rfl, b1⟩
set_option maxHeartbeats 2000000 in
theorem between_order {y m d y' m' d' : Int} (ha : Hid (goodB y m d = true)) (hb' : Hid (goodB y' m' d' = true)) (hn : numI y' m' d' < numI y m d) (w : World) (hT : TabOk w) : Calls Tryd.prog 41 #[.agg #[.int .i64 y, .int .i64 m, .int .i64 d], .agg #[.int .i64 y', .int .i64 m', .int .i64 d']] w fun e w' => e = .returned (.tuple #[.int .i64 0, .int .i64 0, .int .i64 0, .int .i64 1]) ∧ Below w.heap.size w w' := by
  have c1 : decide (numI y' m' d' < numI y m d) = true := by simpa using hn
  clear hn
  go_enter Tryd.func41, Tryd.ntmps41
  go_wp2_with fail
  refine (both_good ha hb' _ (hT.below (b_alloc (b_alloc (Below.refl w.heap.size w) _) _))).mono ?_
  rintro e w1 ⟨rfl, hb⟩
  have hA := (((Blk.new_at (w := w) (g := w.heap.size) (by simp) 29 #[.int .i64 y, .int .i64 m, .int .i64 d])).alloc _).below hb; have kA := hA.cell; have lA := hA.lt; have fA := hA.froz
  have hB := ((Blk.new_at (w := (w.alloc (.cells #[.int .i64 y, .int .i64 m, .int .i64 d] 29))) (g := w.heap.size + 1) (by simp) 29 #[.int .i64 y', .int .i64 m', .int .i64 d'])).below hb; have kB := hB.cell; have lB := hB.lt; have fB := hB.froz
  have b1 := b_step (b_alloc (b_alloc (Below.refl w.heap.size w) _) _) hb; clear hb
  go_wp2_with fail
  have hTr := hT.below (b1)
  clear kA lA fA; have qA := hA.lcell
  clear kB lB fB; have qB := hB.lcell
  refine wp_later 5 (by kernel_rfl) (by kernel_rfl) ?_
  simp only [List.take_succ_cons, List.take_zero, List.drop_succ_cons, List.drop_zero, List.take_nil, List.drop_nil]
  repeat (go_big_quiet_step (first | (go_at_call_of 50 d'; exact later_call (number_good hb' _ (hTr.later _))) | (go_at_call 50; exact later_call (number_good ha _ (hTr.later _)))))
  refine wpQuiet_nil ?_
  rintro ⟨w2, hb⟩
  change wpList _ _ _ _ _ w2
  clear qA; have hA := hA.below hb; have kA := hA.cell; have lA := hA.lt; have fA := hA.froz
  clear qB; have hB := hB.below hb; have kB := hB.cell; have lB := hB.lt; have fB := hB.froz
  clear hTr
  have b2 := b_step (b1) hb; clear hb
  go_wp2
  exact bodyPost_ret (v := .tuple #[.int .i64 0, .int .i64 0, .int .i64 0, .int .i64 1]) (by simp [results, Tryd.results41, go_sem]) rfl ⟨rfl, b2⟩
set_option maxHeartbeats 2000000 in
theorem between_good {y m d y' m' d' : Int} (ha : Hid (goodB y m d = true)) (hb' : Hid (goodB y' m' d' = true)) (hn : numI y m d ≤ numI y' m' d') (w : World) (hT : TabOk w) : Calls Tryd.prog 41 #[.agg #[.int .i64 y, .int .i64 m, .int .i64 d], .agg #[.int .i64 y', .int .i64 m', .int .i64 d']] w fun e w' => e = .returned (.tuple #[.int .i64 (sinI y m d y' m' d' 12), .int .i64 (sinI y m d y' m' d' 1 - 12 * sinI y m d y' m' d' 12), .int .i64 (numI y' m' d' - onF y m d (sinI y m d y' m' d' 1)), .int .i64 0]) ∧ Below w.heap.size w w' := by
  have S := sinI_spec (s := 12) ha.out hb'.out (by omega) hn
  have ga := (goodB_iff _ _ _).1 ha.out
  have gb := (goodB_iff _ _ _).1 hb'.out
  have hta : 12 ≤ tI y m ∧ tI y m ≤ 119999 := by unfold tI; omega
  have htb : 12 ≤ tI y' m' ∧ tI y' m' ≤ 119999 := by unfold tI; omega
  have hra := num_rng ha.out
  have hrb := num_rng hb'.out
  have hS := Lib.hid (fun W (t : TabOk W) => since_12 ha hb' hn W t)
  have S' := sinI_spec (s := 1) ha.out hb'.out (by omega) hn
  have hS' := Lib.hid (fun W (t : TabOk W) => since_1 ha hb' hn W t)
  have c1 : decide (numI y' m' d' < numI y m d) = false := by simp; omega
  generalize sinI y m d y' m' d' 12 = S0 at *
  generalize sinI y m d y' m' d' 1 = S1 at *
  obtain ⟨s1, s2, s3, s4⟩ := S
  obtain ⟨t1, t2, t3, t4⟩ := S'
  have hr1 := onF_rng (k := S1) ha (by omega) (by omega)
  have hO1 := Lib.hid (fun W (t : TabOk W) => on_t (k := S1) ha (by omega) (by omega) W t)
  have hN1 := Lib.hid (fun W (t : TabOk W) => number_on (k := S1) ha (by omega) (by omega) W t)
  clear s3 s4 t3 t4 hn
  go_enter Tryd.func41, Tryd.ntmps41
  go_wp2_with fail
  refine (both_good ha hb' _ (hT.below (b_alloc (b_alloc (Below.refl w.heap.size w) _) _))).mono ?_
  rintro e w1 ⟨rfl, hb⟩
  have hA := (((Blk.new_at (w := w) (g := w.heap.size) (by simp) 29 #[.int .i64 y, .int .i64 m, .int .i64 d])).alloc _).below hb; have kA := hA.cell; have lA := hA.lt; have fA := hA.froz
  have hB := ((Blk.new_at (w := (w.alloc (.cells #[.int .i64 y, .int .i64 m, .int .i64 d] 29))) (g := w.heap.size + 1) (by simp) 29 #[.int .i64 y', .int .i64 m', .int .i64 d'])).below hb; have kB := hB.cell; have lB := hB.lt; have fB := hB.froz
  have b1 := b_step (b_alloc (b_alloc (Below.refl w.heap.size w) _) _) hb; clear hb
  go_wp2_with fail
  have hTr := hT.below (b1)
  clear kA lA fA; have qA := hA.lcell
  clear kB lB fB; have qB := hB.lcell
  refine wp_later 5 (by kernel_rfl) (by kernel_rfl) ?_
  simp only [List.take_succ_cons, List.take_zero, List.drop_succ_cons, List.drop_zero, List.take_nil, List.drop_nil]
  repeat (go_big_quiet_step (first | (go_at_call_of 50 d'; exact later_call (number_good hb' _ (hTr.later _))) | (go_at_call 50; exact later_call (number_good ha _ (hTr.later _)))))
  refine wpQuiet_nil ?_
  rintro ⟨w2, hb⟩
  change wpList _ _ _ _ _ w2
  clear qA; have hA := hA.below hb; have kA := hA.cell; have lA := hA.lt; have fA := hA.froz
  clear qB; have hB := hB.below hb; have kB := hB.cell; have lB := hB.lt; have fB := hB.froz
  clear hTr
  have b2 := b_step (b1) hb; clear hb
  go_wp2_with fail
  refine (hS.out _ (hT.below (b2))).mono ?_
  rintro e w3 ⟨rfl, hb⟩
  have hA := (hA).below hb; clear kA lA fA; have kA := hA.cell; have lA := hA.lt; have fA := hA.froz
  have hB := (hB).below hb; clear kB lB fB; have kB := hB.cell; have lB := hB.lt; have fB := hB.froz
  have b3 := b_step (b2) hb; clear hb
  go_wp2_with fail
  refine (hS'.out _ (hT.below (b3))).mono ?_
  rintro e w4 ⟨rfl, hb⟩
  have hA := (hA).below hb; clear kA lA fA; have kA := hA.cell; have lA := hA.lt; have fA := hA.froz
  have hB := (hB).below hb; clear kB lB fB; have kB := hB.cell; have lB := hB.lt; have fB := hB.froz
  have b4 := b_step (b3) hb; clear hb
  go_wp2_with fail
  have hTr := hT.below (b4)
  clear kA lA fA; have qA := hA.lcell
  clear kB lB fB; have qB := hB.lcell
  refine wp_later 16 (by kernel_rfl) (by kernel_rfl) ?_
  simp only [List.take_succ_cons, List.take_zero, List.drop_succ_cons, List.drop_zero, List.take_nil, List.drop_nil]
  repeat (go_big_quiet_step (first | (go_at_call_of 50 d'; exact later_call (number_good hb' _ (hTr.later _))) | (go_at_call 56; exact later_call (hO1.out _ (hTr.later _))) | (go_at_call 50; exact later_call (hN1.out _ (hTr.later _)))))
  refine wpQuiet_nil ?_
  rintro ⟨w5, hb⟩
  change wpList _ _ _ _ _ w5
  clear qA; have hA := hA.below hb; have kA := hA.cell; have lA := hA.lt; have fA := hA.froz
  clear qB; have hB := hB.below hb; have kB := hB.cell; have lB := hB.lt; have fB := hB.froz
  clear hTr
  have b5 := b_step (b4) hb; clear hb
  go_wp2
  exact bodyPost_ret (v := .tuple #[.int .i64 S0, .int .i64 (S1 - 12 * S0), .int .i64 (numI y' m' d' - onF y m d S1), .int .i64 0]) (by simp [results, Tryd.results41, go_sem]) rfl ⟨rfl, b5⟩
end Go.Proofs.YtolgljionpalkaaDoor
