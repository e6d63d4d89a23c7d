/- Between of the document; the law DayAges. -/
import Derived.Test.YtolgljionpalkaaDoorDayO
set_option linter.unusedSimpArgs false
set_option linter.unusedVariables false
namespace Go.Proofs.YtolgljionpalkaaDoor
open Go.RowKit Go.BigFrame
set_option maxHeartbeats 2000000 in
theorem betweenr_bad1 {y m d y' m' d' : Int} (ha : Hid (goodB y m d = false)) (w : World) : Calls Tryd.prog 42 #[.agg #[.int .i64 y, .int .i64 m, .int .i64 d], .agg #[.int .i64 y', .int .i64 m', .int .i64 d']] w fun e w' => e = .returned (.tuple #[.int .i64 0, .int .i64 0, .int .i64 0, .int .i64 70]) ∧ Below w.heap.size w w' := by
  go_enter Tryd.func42, Tryd.ntmps42
  go_wp2_with fail
  refine (two_bad1 ha _).mono ?_
  rintro e w1 ⟨rfl, hb⟩
  have hA := (((Blk.new_at (w := w) (g := w.heap.size) (by simp) 29 #[.int .i64 y, .int .i64 m, .int .i64 d])).alloc _).below hb; have kA := hA.cell; have lA := hA.lt; have fA := hA.froz
  have hB := ((Blk.new_at (w := (w.alloc (.cells #[.int .i64 y, .int .i64 m, .int .i64 d] 29))) (g := w.heap.size + 1) (by simp) 29 #[.int .i64 y', .int .i64 m', .int .i64 d'])).below hb; have kB := hB.cell; have lB := hB.lt; have fB := hB.froz
  have b1 := b_step (b_alloc (b_alloc (Below.refl w.heap.size w) _) _) hb; clear hb
  go_wp2
  exact bodyPost_ret (v := .tuple #[.int .i64 0, .int .i64 0, .int .i64 0, .int .i64 70]) (by simp [results, Tryd.results42, go_sem]) rfl ⟨rfl, b1⟩
set_option maxHeartbeats 2000000 in
theorem betweenr_bad2 {y m d y' m' d' : Int} (ha : Hid (goodB y m d = true)) (hb' : Hid (goodB y' m' d' = false)) (w : World) : Calls Tryd.prog 42 #[.agg #[.int .i64 y, .int .i64 m, .int .i64 d], .agg #[.int .i64 y', .int .i64 m', .int .i64 d']] w fun e w' => e = .returned (.tuple #[.int .i64 0, .int .i64 0, .int .i64 0, .int .i64 70]) ∧ Below w.heap.size w w' := by
  go_enter Tryd.func42, Tryd.ntmps42
  go_wp2_with fail
  refine (two_bad2 ha hb' _).mono ?_
  rintro e w1 ⟨rfl, hb⟩
  have hA := (((Blk.new_at (w := w) (g := w.heap.size) (by simp) 29 #[.int .i64 y, .int .i64 m, .int .i64 d])).alloc _).below hb; have kA := hA.cell; have lA := hA.lt; have fA := hA.froz
  have hB := ((Blk.new_at (w := (w.alloc (.cells #[.int .i64 y, .int .i64 m, .int .i64 d] 29))) (g := w.heap.size + 1) (by simp) 29 #[.int .i64 y', .int .i64 m', .int .i64 d'])).below hb; have kB := hB.cell; have lB := hB.lt; have fB := hB.froz
  have b1 := b_step (b_alloc (b_alloc (Below.refl w.heap.size w) _) _) hb; clear hb
  go_wp2
  exact bodyPost_ret (v := .tuple #[.int .i64 0, .int .i64 0, .int .i64 0, .int .i64 70]) (by simp [results, Tryd.results42, go_sem]) rfl ⟨rfl, b1⟩
set_option maxHeartbeats 2000000 in
theorem betweenr_order {y m d y' m' d' : Int} (ha : Hid (goodB y m d = true)) (hb' : Hid (goodB y' m' d' = true)) (hn : numI y' m' d' < numI y m d) (w : World) : Calls Tryd.prog 42 #[.agg #[.int .i64 y, .int .i64 m, .int .i64 d], .agg #[.int .i64 y', .int .i64 m', .int .i64 d']] w fun e w' => e = .returned (.tuple #[.int .i64 0, .int .i64 0, .int .i64 0, .int .i64 1]) ∧ Below w.heap.size w w' := by
  go_enter Tryd.func42, Tryd.ntmps42
  go_wp2_with fail
  refine (two_order ha hb' hn _).mono ?_
  rintro e w1 ⟨rfl, hb⟩
  have hA := (((Blk.new_at (w := w) (g := w.heap.size) (by simp) 29 #[.int .i64 y, .int .i64 m, .int .i64 d])).alloc _).below hb; have kA := hA.cell; have lA := hA.lt; have fA := hA.froz
  have hB := ((Blk.new_at (w := (w.alloc (.cells #[.int .i64 y, .int .i64 m, .int .i64 d] 29))) (g := w.heap.size + 1) (by simp) 29 #[.int .i64 y', .int .i64 m', .int .i64 d'])).below hb; have kB := hB.cell; have lB := hB.lt; have fB := hB.froz
  have b1 := b_step (b_alloc (b_alloc (Below.refl w.heap.size w) _) _) hb; clear hb
  go_wp2
  exact bodyPost_ret (v := .tuple #[.int .i64 0, .int .i64 0, .int .i64 0, .int .i64 1]) (by simp [results, Tryd.results42, go_sem]) rfl ⟨rfl, b1⟩
set_option maxHeartbeats 2000000 in
theorem betweenr_good {y m d y' m' d' : Int} (ha : Hid (goodB y m d = true)) (hb' : Hid (goodB y' m' d' = true)) (hn : numI y m d ≤ numI y' m' d') (w : World) : Calls Tryd.prog 42 #[.agg #[.int .i64 y, .int .i64 m, .int .i64 d], .agg #[.int .i64 y', .int .i64 m', .int .i64 d']] w fun e w' => e = .returned (.tuple #[.int .i64 (sinI y m d y' m' d' 12), .int .i64 (sinI y m d y' m' d' 1 - 12 * sinI y m d y' m' d' 12), .int .i64 (numI y' m' d' - onF y m d (sinI y m d y' m' d' 1)), .int .i64 0]) ∧ Below w.heap.size w w' := by
  have S := sinI_spec (s := 12) ha.out hb'.out (by omega) hn
  have S' := sinI_spec (s := 1) ha.out hb'.out (by omega) hn
  have ga := (goodB_iff _ _ _).1 ha.out
  have gb := (goodB_iff _ _ _).1 hb'.out
  have hta : 12 ≤ tI y m ∧ tI y m ≤ 119999 := by unfold tI; omega
  have htb : 12 ≤ tI y' m' ∧ tI y' m' ≤ 119999 := by unfold tI; omega
  have hrb := num_rng hb'.out
  have hS := Lib.hid (fun W => born_any ha hb' hn W)
  have hW := Lib.hid (fun W => two_good ha hb' hn W)
  generalize sinI y m d y' m' d' 12 = S0 at *
  generalize sinI y m d y' m' d' 1 = S1 at *
  obtain ⟨s1, s2, s3, s4⟩ := S
  obtain ⟨t1, t2, t3, t4⟩ := S'
  rw [Int.mul_one] at t2 t3 t4
  have hlo : 12 * S0 ≤ S1 := by
    by_cases h : 12 * S0 ≤ S1
    · exact h
    · exfalso
      rw [show S0 * 12 = 12 * S0 by omega] at s3
      by_cases e : S1 + 1 = 12 * S0
      · rw [e] at t4; omega
      · have := onF_lt y m d (S1 + 1) (12 * S0) (by omega) (by omega) (by omega)
        omega
  have hhi : S1 < 12 * S0 + 12 := by
    by_cases h : S1 < 12 * S0 + 12
    · exact h
    · exfalso
      rw [show (S0 + 1) * 12 = 12 * S0 + 12 by omega] at s4
      by_cases e : 12 * S0 + 12 = S1
      · rw [e] at s4; omega
      · have := onF_lt y m d (12 * S0 + 12) S1 (by omega) (by omega) (by omega)
        omega
  have hr1 := onF_rng (k := S1) ha (by omega) (by omega)
  have s3' := Lib.hid t3
  have s4' := Lib.hid t4
  clear s3 s4 t3 t4 hn
  go_enter Tryd.func42, Tryd.ntmps42
  go_wp2_with fail
  refine (hW.out _).mono ?_
  rintro e w1 ⟨rfl, hb⟩
  have hA := (((Blk.new_at (w := w) (g := w.heap.size) (by simp) 29 #[.int .i64 y, .int .i64 m, .int .i64 d])).alloc _).below hb; have kA := hA.cell; have lA := hA.lt; have fA := hA.froz
  have hB := ((Blk.new_at (w := (w.alloc (.cells #[.int .i64 y, .int .i64 m, .int .i64 d] 29))) (g := w.heap.size + 1) (by simp) 29 #[.int .i64 y', .int .i64 m', .int .i64 d'])).below hb; have kB := hB.cell; have lB := hB.lt; have fB := hB.froz
  have b1 := b_step (b_alloc (b_alloc (Below.refl w.heap.size w) _) _) hb; clear hb
  go_wp2_with fail
  refine (hS.out _).mono ?_
  rintro e w2 ⟨rfl, hb⟩
  have hA := (hA).below hb; clear kA lA fA; have kA := hA.cell; have lA := hA.lt; have fA := hA.froz
  have hB := (hB).below hb; clear kB lB fB; have kB := hB.cell; have lB := hB.lt; have fB := hB.froz
  have b2 := b_step (b1) hb; clear hb
  go_wp2
  go_loopg [10] 11 (fun k nn wr => ∃ n : Int, nn = .int .i64 n ∧ n ≤ 11 ∧ S1 - 12 * S0 ≤ n ∧ n ≤ k ∧ Blk wr w.heap.size #[.int .i64 y, .int .i64 m, .int .i64 d] ∧ Blk wr (w.heap.size + 1) #[.int .i64 y', .int .i64 m', .int .i64 d'] ∧ Below w.heap.size w wr)
  case atStart => exact ⟨11, rfl, by omega, by omega, by omega, hA, hB, b2⟩
  case round =>
    clear hA hB kA kB lA lB fA fB
    obtain ⟨n, rfl, hn1, hnS, hnk, hA, hB, br⟩ := hrel
    have hr2 := onF_rng (k := 12 * S0 + n) ha (by omega) (by omega)
    by_cases hc : n = S1 - 12 * S0
    · have c3 : decide (numI y' m' d' < onF y m d (12 * S0 + n)) = false := by have := s3'.out; rw [show S1 = 12 * S0 + n by omega] at this; simp; omega
      have hcE := Lib.hid hc
      have hSE : Hid (S1 = 12 * S0 + n) := Lib.hid (by omega)
      clear hc
      have qA := hA.lcell
      have qB := hB.lcell
      go_wp2_with fail
      refine wp_later 10 (by kernel_rfl) (by kernel_rfl) ?_
      simp only [List.take_succ_cons, List.take_zero, List.drop_succ_cons, List.drop_zero, List.take_nil, List.drop_nil]
      repeat (go_big_quiet_step (first | (go_at_call_of 27 d'; exact later_call (numberr_good hb' _)) | (go_at_call 57; exact later_call (onr_t ha (by omega) (by omega) _)) | (go_at_call 27; exact later_call (numberr_on ha (by omega) (by omega) _))))
      refine wpQuiet_nil ?_
      rintro ⟨w4, hb⟩
      change wpList _ _ _ _ _ w4
      have b4 := b_step br hb
      clear qA qB
      have hA := hA.below hb
      have hB := hB.below hb
      clear br hb
      have br := b4
      clear b4
      have qA := hA.lcell
      have qB := hB.lcell
      go_wp2_with fail
      refine wp_later 16 (by kernel_rfl) (by kernel_rfl) ?_
      simp only [List.take_succ_cons, List.take_zero, List.drop_succ_cons, List.drop_zero, List.take_nil, List.drop_nil]
      repeat (go_big_quiet_step (first | (go_at_call_of 27 d'; exact later_call (numberr_good hb' _)) | (go_at_call 57; exact later_call (onr_t ha (by omega) (by omega) _)) | (go_at_call 27; exact later_call (numberr_on ha (by omega) (by omega) _))))
      refine wpQuiet_nil ?_
      rintro ⟨w5, hb⟩
      change wpList _ _ _ _ _ w5
      have b5 := b_step br hb
      clear qA qB
      go_wp2
      exact bodyPost_ret (v := .tuple #[.int .i64 S0, .int .i64 n, .int .i64 (numI y' m' d' - onF y m d (12 * S0 + n)), .int .i64 0]) (by simp [results, Tryd.results42, go_sem]) rfl ⟨by rw [hcE.out]; rw [show 12 * S0 + (S1 - 12 * S0) = S1 by omega], b5⟩
    · have c3 : decide (numI y' m' d' < onF y m d (12 * S0 + n)) = true := by
        have := s4'.out
        by_cases e : S1 + 1 = 12 * S0 + n
        · rw [e] at this; simp; omega
        · have h2 := onF_lt y m d (S1 + 1) (12 * S0 + n) (by omega) (by omega) (by omega)
          simp; omega
      have qA := hA.lcell
      have qB := hB.lcell
      go_wp2_with fail
      refine wp_later 10 (by kernel_rfl) (by kernel_rfl) ?_
      simp only [List.take_succ_cons, List.take_zero, List.drop_succ_cons, List.drop_zero, List.take_nil, List.drop_nil]
      repeat (go_big_quiet_step (first | (go_at_call_of 27 d'; exact later_call (numberr_good hb' _)) | (go_at_call 57; exact later_call (onr_t ha (by omega) (by omega) _)) | (go_at_call 27; exact later_call (numberr_on ha (by omega) (by omega) _))))
      refine wpQuiet_nil ?_
      rintro ⟨w4, hb⟩
      change wpList _ _ _ _ _ w4
      have b4 := b_step br hb
      clear qA qB
      go_wp2
      go_roundg (gk - 1)
      case measure => omega
      case rel => exact ⟨n - 1, rfl, by omega, by omega, by omega, hA.below hb, hB.below hb, b4⟩
set_option maxHeartbeats 2000000 in
theorem ages_of (y m d y' m' d' how : Int) (w : World) (hT : TabOk w) (a1 a2 b1 b2 b3 b4 : Int)
    (h1 : Hid (∀ W, TabOk W → Calls Tryd.prog 39 #[.agg #[.int .i64 y, .int .i64 m, .int .i64 d], .agg #[.int .i64 y', .int .i64 m', .int .i64 d'], .int .i64 how] W fun e w' => e = .returned (.tuple #[.int .i64 a1, .int .i64 a2]) ∧ Below W.heap.size W w'))
    (h2 : Hid (∀ W, Calls Tryd.prog 40 #[.agg #[.int .i64 y, .int .i64 m, .int .i64 d], .agg #[.int .i64 y', .int .i64 m', .int .i64 d'], .int .i64 how] W fun e w' => e = .returned (.tuple #[.int .i64 a1, .int .i64 a2]) ∧ Below W.heap.size W w'))
    (h3 : Hid (∀ W, TabOk W → Calls Tryd.prog 41 #[.agg #[.int .i64 y, .int .i64 m, .int .i64 d], .agg #[.int .i64 y', .int .i64 m', .int .i64 d']] W fun e w' => e = .returned (.tuple #[.int .i64 b1, .int .i64 b2, .int .i64 b3, .int .i64 b4]) ∧ Below W.heap.size W w'))
    (h4 : Hid (∀ W, Calls Tryd.prog 42 #[.agg #[.int .i64 y, .int .i64 m, .int .i64 d], .agg #[.int .i64 y', .int .i64 m', .int .i64 d']] W fun e w' => e = .returned (.tuple #[.int .i64 b1, .int .i64 b2, .int .i64 b3, .int .i64 b4]) ∧ Below W.heap.size W w')) :
    Calls Tryd.prog 8 #[.agg #[.int .i64 y, .int .i64 m, .int .i64 d], .agg #[.int .i64 y', .int .i64 m', .int .i64 d'], .int .i64 how] w fun e w' => e = .returned (.bool true) ∧ Below w.heap.size w w' := by
  go_enter Tryd.func8, Tryd.ntmps8
  go_wp2_with fail
  refine (h1.out _ (hT.below (b_alloc (b_alloc (Below.refl w.heap.size w) _) _))).mono ?_
  rintro e w1 ⟨rfl, hb⟩
  have hA := (((Blk.new_at (w := w) (g := w.heap.size) (by simp) 29 #[.int .i64 y, .int .i64 m, .int .i64 d])).alloc _).below hb; have kA := hA.cell; have lA := hA.lt; have fA := hA.froz
  have hB := ((Blk.new_at (w := (w.alloc (.cells #[.int .i64 y, .int .i64 m, .int .i64 d] 29))) (g := w.heap.size + 1) (by simp) 29 #[.int .i64 y', .int .i64 m', .int .i64 d'])).below hb; have kB := hB.cell; have lB := hB.lt; have fB := hB.froz
  have b1 := b_step (b_alloc (b_alloc (Below.refl w.heap.size w) _) _) hb; clear hb
  go_wp2_with fail
  refine (h2.out _).mono ?_
  rintro e w2 ⟨rfl, hb⟩
  have hA := (hA).below hb; clear kA lA fA; have kA := hA.cell; have lA := hA.lt; have fA := hA.froz
  have hB := (hB).below hb; clear kB lB fB; have kB := hB.cell; have lB := hB.lt; have fB := hB.froz
  have b2 := b_step (b1) hb; clear hb
  go_wp2_with fail
  refine (h3.out _ (hT.below (b2))).mono ?_
  rintro e w3 ⟨rfl, hb⟩
  have hA := (hA).below hb; clear kA lA fA; have kA := hA.cell; have lA := hA.lt; have fA := hA.froz
  have hB := (hB).below hb; clear kB lB fB; have kB := hB.cell; have lB := hB.lt; have fB := hB.froz
  have b3 := b_step (b2) hb; clear hb
  go_wp2_with fail
  refine (h4.out _).mono ?_
  rintro e w4 ⟨rfl, hb⟩
  have hA := (hA).below hb; clear kA lA fA; have kA := hA.cell; have lA := hA.lt; have fA := hA.froz
  have hB := (hB).below hb; clear kB lB fB; have kB := hB.cell; have lB := hB.lt; have fB := hB.froz
  have b4 := b_step (b3) hb; clear hb
  go_wp2
  go_ret
  exact ⟨rfl, b4⟩
theorem dayAges_law (y m d y' m' d' how : Int) (w : World) (hT : TabOk w) (_ : (Lit.int .i64 y).wf = true ∧ (Lit.int .i64 m).wf = true ∧ (Lit.int .i64 d).wf = true) (_ : (Lit.int .i64 y').wf = true ∧ (Lit.int .i64 m').wf = true ∧ (Lit.int .i64 d').wf = true) (_ : (Lit.int .i64 how).wf = true) :
    Calls Tryd.prog 8 #[.agg #[.int .i64 y, .int .i64 m, .int .i64 d], .agg #[.int .i64 y', .int .i64 m', .int .i64 d'], .int .i64 how] w fun e w' => e = .returned (.bool true) ∧ Below w.heap.size w w' := by
  cases ha : goodB y m d with
  | false =>
    have ha := Lib.hid ha
    exact ages_of y m d y' m' d' how w hT _ _ _ _ _ _ (Lib.hid fun W t => age_bad1 how ha W t) (Lib.hid fun W => ager_bad1 how ha W) (Lib.hid fun W t => between_bad1 ha W t) (Lib.hid fun W => betweenr_bad1 ha W)
  | true =>
    have ha := Lib.hid ha
    cases hb : goodB y' m' d' with
    | false =>
      have hb := Lib.hid hb
      exact ages_of y m d y' m' d' how w hT _ _ _ _ _ _ (Lib.hid fun W t => age_bad2 how ha hb W t) (Lib.hid fun W => ager_bad2 how ha hb W) (Lib.hid fun W t => between_bad2 ha hb W t) (Lib.hid fun W => betweenr_bad2 ha hb W)
    | true =>
      have hb := Lib.hid hb
      by_cases hn : numI y m d ≤ numI y' m' d'
      · exact ages_of y m d y' m' d' how w hT _ _ _ _ _ _ (Lib.hid fun W t => age_good how ha hb hn W t) (Lib.hid fun W => ager_good how ha hb hn W) (Lib.hid fun W t => between_good ha hb hn W t) (Lib.hid fun W => betweenr_good ha hb hn W)
      · exact ages_of y m d y' m' d' how w hT _ _ _ _ _ _ (Lib.hid fun W t => age_order how ha hb (by omega) W t) (Lib.hid fun W => ager_order how ha hb (by omega) W) (Lib.hid fun W t => between_order ha hb (by omega) W t) (Lib.hid fun W => betweenr_order ha hb (by omega) W)
end Go.Proofs.YtolgljionpalkaaDoor
