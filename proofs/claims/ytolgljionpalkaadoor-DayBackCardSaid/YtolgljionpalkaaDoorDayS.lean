/- The law DayBetween. -/
import Derived.Test.YtolgljionpalkaaDoorDayQ
set_option linter.unusedSimpArgs false
set_option linter.unusedVariables false
namespace Go.Proofs.YtolgljionpalkaaDoor
open Go.RowKit Go.BigFrame
theorem onF_le (y m d k k' : Int) (hd : 1 ≤ d) (h : 12 ≤ tI y m + k) (hk : k ≤ k') : onF y m d k ≤ onF y m d k' := by
  by_cases e : k = k'
  · rw [e]; omega
  · have := onF_lt y m d k k' hd h (by omega); omega
theorem onF_step (y m d k : Int) (h : 12 ≤ tI y m + k) : onF y m d (k + 1) - onF y m d k ≤ 31 := by
  rw [onF_mF, onF_mF, show tI y m + (k + 1) = tI y m + k + 1 by omega, mF_succ _ h]
  have b := mL_bd (tI y m + k)
  have b' := mL_bd (tI y m + k + 1)
  have x := mnI_or d (mL (tI y m + k))
  have x' := mnI_or d (mL (tI y m + k + 1))
  omega
theorem between_facts {y m d y' m' d' : Int} (h : goodB y m d = true) (h' : goodB y' m' d' = true) (hn : numI y m d ≤ numI y' m' d') :
    0 ≤ sinI y m d y' m' d' 12 ∧ sinI y m d y' m' d' 12 ≤ 9999 ∧ 0 ≤ sinI y m d y' m' d' 1 - 12 * sinI y m d y' m' d' 12 ∧ sinI y m d y' m' d' 1 - 12 * sinI y m d y' m' d' 12 ≤ 11 ∧
    0 ≤ numI y' m' d' - onF y m d (sinI y m d y' m' d' 1) ∧ numI y' m' d' - onF y m d (sinI y m d y' m' d' 1) ≤ 31 ∧ moG y m d (sinI y m d y' m' d' 1) := by
  have S := sinI_spec (s := 12) h h' (by omega) hn
  have T := sinI_spec (s := 1) h h' (by omega) hn
  have ga := (goodB_iff _ _ _).1 h
  have gb := (goodB_iff _ _ _).1 h'
  have ha : 12 ≤ tI y m := by unfold tI; omega
  have hb : tI y' m' ≤ 119999 := by unfold tI; omega
  generalize sinI y m d y' m' d' 12 = Y at *
  generalize sinI y m d y' m' d' 1 = n at *
  rw [Int.mul_one, Int.mul_one] at T
  have h1 : 12 * Y ≤ n := by
    by_cases c : 12 * Y ≤ n
    · exact c
    · have := onF_le y m d (n + 1) (Y * 12) ga.2.2.2.2.1 (by omega) (by omega)
      omega
  have h2 : n ≤ 12 * Y + 11 := by
    by_cases c : n ≤ 12 * Y + 11
    · exact c
    · have := onF_le y m d ((Y + 1) * 12) n ga.2.2.2.2.1 (by omega) (by omega)
      omega
  have h3 := onF_step y m d n (by omega)
  refine ⟨by omega, by omega, by omega, by omega, by omega, by omega, ?_⟩
  unfold moG
  unfold tI at *
  omega
theorem days_to {y m d n y' m' d' : Int} (h : Hid (goodB y m d = true)) (h' : Hid (goodB y' m' d' = true)) (hn : numI y m d + n = numI y' m' d') (w : World) (hT : TabOk w) :
    Calls Tryd.prog 35 #[.agg #[.int .i64 y, .int .i64 m, .int .i64 d], .int .i64 n] w fun e w' => e = .returned (.tuple #[.agg #[.int .i64 y', .int .i64 m', .int .i64 d'], .int .i64 0]) ∧ Below w.heap.size w w' := by
  have r := num_rng h'.out
  have := days_any y m d n w hT
  rwa [(dyP_good h).1, (dyP_good h).2, hn, dateOf_eq h'.out rfl, if_pos r] at this
set_option maxHeartbeats 2000000 in
theorem betweenl_bad1 {y m d y' m' d' : Int} (ha : Hid (goodB y m d = false)) (w : World) (hT : TabOk w) :
    Calls Tryd.prog 12 #[.agg #[.int .i64 y, .int .i64 m, .int .i64 d], .agg #[.int .i64 y', .int .i64 m', .int .i64 d']] w fun e w' => e = .returned (.bool true) ∧ Below w.heap.size w w' := by
  have eqd := eq_date
  go_enter Tryd.func12, Tryd.ntmps12
  go_wp2_with fail
  refine (works_any _ (hT.below (b_alloc (b_alloc (Below.refl w.heap.size w) _) _))).mono ?_
  rintro e w1 ⟨rfl, hb⟩
  have hA := (((Blk.new_at (w := w) (g := w.heap.size) (by simp) 29 #[.int .i64 y, .int .i64 m, .int .i64 d])).alloc _).below hb; have kA := hA.cell; have lA := hA.lt; have fA := hA.froz
  have hB := ((Blk.new_at (w := (w.alloc (.cells #[.int .i64 y, .int .i64 m, .int .i64 d] 29))) (g := w.heap.size + 1) (by simp) 29 #[.int .i64 y', .int .i64 m', .int .i64 d'])).below hb; have kB := hB.cell; have lB := hB.lt; have fB := hB.froz
  have b1 := b_step (b_alloc (b_alloc (Below.refl w.heap.size w) _) _) hb; clear hb
  go_wp2_with fail
  refine (right_is ha _ (hT.below (b1))).mono ?_
  rintro e w2 ⟨rfl, hb⟩
  have hA := (hA).below hb; clear kA lA fA; have kA := hA.cell; have lA := hA.lt; have fA := hA.froz
  have hB := (hB).below hb; clear kB lB fB; have kB := hB.cell; have lB := hB.lt; have fB := hB.froz
  have b2 := b_step (b1) hb; clear hb
  go_wp2
  go_ret
  exact ⟨rfl, b2⟩
set_option maxHeartbeats 2000000 in
theorem betweenl_bad2 {y m d y' m' d' : Int} (ha : Hid (goodB y m d = true)) (hb' : Hid (goodB y' m' d' = false)) (w : World) (hT : TabOk w) :
    Calls Tryd.prog 12 #[.agg #[.int .i64 y, .int .i64 m, .int .i64 d], .agg #[.int .i64 y', .int .i64 m', .int .i64 d']] w fun e w' => e = .returned (.bool true) ∧ Below w.heap.size w w' := by
  have eqd := eq_date
  go_enter Tryd.func12, Tryd.ntmps12
  go_wp2_with fail
  refine (works_any _ (hT.below (b_alloc (b_alloc (Below.refl w.heap.size w) _) _))).mono ?_
  rintro e w1 ⟨rfl, hb⟩
  have hA := (((Blk.new_at (w := w) (g := w.heap.size) (by simp) 29 #[.int .i64 y, .int .i64 m, .int .i64 d])).alloc _).below hb; have kA := hA.cell; have lA := hA.lt; have fA := hA.froz
  have hB := ((Blk.new_at (w := (w.alloc (.cells #[.int .i64 y, .int .i64 m, .int .i64 d] 29))) (g := w.heap.size + 1) (by simp) 29 #[.int .i64 y', .int .i64 m', .int .i64 d'])).below hb; have kB := hB.cell; have lB := hB.lt; have fB := hB.froz
  have b1 := b_step (b_alloc (b_alloc (Below.refl w.heap.size w) _) _) hb; clear hb
  go_wp2_with fail
  refine (right_is ha _ (hT.below (b1))).mono ?_
  rintro e w2 ⟨rfl, hb⟩
  have hA := (hA).below hb; clear kA lA fA; have kA := hA.cell; have lA := hA.lt; have fA := hA.froz
  have hB := (hB).below hb; clear kB lB fB; have kB := hB.cell; have lB := hB.lt; have fB := hB.froz
  have b2 := b_step (b1) hb; clear hb
  go_wp2_with fail
  refine (right_is hb' _ (hT.below (b2))).mono ?_
  rintro e w3 ⟨rfl, hb⟩
  have hA := (hA).below hb; clear kA lA fA; have kA := hA.cell; have lA := hA.lt; have fA := hA.froz
  have hB := (hB).below hb; clear kB lB fB; have kB := hB.cell; have lB := hB.lt; have fB := hB.froz
  have b3 := b_step (b2) hb; clear hb
  go_wp2
  go_ret
  exact ⟨rfl, b3⟩
set_option maxHeartbeats 2000000 in
theorem betweenl_order {y m d y' m' d' : Int} (ha : Hid (goodB y m d = true)) (hb' : Hid (goodB y' m' d' = true)) (hn : numI y' m' d' < numI y m d) (w : World) (hT : TabOk w) :
    Calls Tryd.prog 12 #[.agg #[.int .i64 y, .int .i64 m, .int .i64 d], .agg #[.int .i64 y', .int .i64 m', .int .i64 d']] w fun e w' => e = .returned (.bool true) ∧ Below w.heap.size w w' := by
  have eqd := eq_date
  have c1 : decide (numI y' m' d' < numI y m d) = true := by simpa using hn
  go_enter Tryd.func12, Tryd.ntmps12
  go_wp2_with fail
  refine (works_any _ (hT.below (b_alloc (b_alloc (Below.refl w.heap.size w) _) _))).mono ?_
  rintro e w1 ⟨rfl, hb⟩
  have hA := (((Blk.new_at (w := w) (g := w.heap.size) (by simp) 29 #[.int .i64 y, .int .i64 m, .int .i64 d])).alloc _).below hb; have kA := hA.cell; have lA := hA.lt; have fA := hA.froz
  have hB := ((Blk.new_at (w := (w.alloc (.cells #[.int .i64 y, .int .i64 m, .int .i64 d] 29))) (g := w.heap.size + 1) (by simp) 29 #[.int .i64 y', .int .i64 m', .int .i64 d'])).below hb; have kB := hB.cell; have lB := hB.lt; have fB := hB.froz
  have b1 := b_step (b_alloc (b_alloc (Below.refl w.heap.size w) _) _) hb; clear hb
  go_wp2_with fail
  refine (right_is ha _ (hT.below (b1))).mono ?_
  rintro e w2 ⟨rfl, hb⟩
  have hA := (hA).below hb; clear kA lA fA; have kA := hA.cell; have lA := hA.lt; have fA := hA.froz
  have hB := (hB).below hb; clear kB lB fB; have kB := hB.cell; have lB := hB.lt; have fB := hB.froz
  have b2 := b_step (b1) hb; clear hb
  go_wp2_with fail
  refine (right_is hb' _ (hT.below (b2))).mono ?_
  rintro e w3 ⟨rfl, hb⟩
  have hA := (hA).below hb; clear kA lA fA; have kA := hA.cell; have lA := hA.lt; have fA := hA.froz
  have hB := (hB).below hb; clear kB lB fB; have kB := hB.cell; have lB := hB.lt; have fB := hB.froz
  have b3 := b_step (b2) hb; clear hb
  go_wp2_with fail
  refine (between_order ha hb' hn _ (hT.below (b3))).mono ?_
  rintro e w4 ⟨rfl, hb⟩
  have hA := (hA).below hb; clear kA lA fA; have kA := hA.cell; have lA := hA.lt; have fA := hA.froz
  have hB := (hB).below hb; clear kB lB fB; have kB := hB.cell; have lB := hB.lt; have fB := hB.froz
  have b4 := b_step (b3) hb; clear hb
  go_wp2_with fail
  refine (Number_good ha _ (hT.below (b4))).mono ?_
  rintro e w5 ⟨rfl, hb⟩
  have hA := (hA).below hb; clear kA lA fA; have kA := hA.cell; have lA := hA.lt; have fA := hA.froz
  have hB := (hB).below hb; clear kB lB fB; have kB := hB.cell; have lB := hB.lt; have fB := hB.froz
  have b5 := b_step (b4) hb; clear hb
  go_wp2_with fail
  refine (Number_good hb' _ (hT.below (b5))).mono ?_
  rintro e w6 ⟨rfl, hb⟩
  have hA := (hA).below hb; clear kA lA fA; have kA := hA.cell; have lA := hA.lt; have fA := hA.froz
  have hB := (hB).below hb; clear kB lB fB; have kB := hB.cell; have lB := hB.lt; have fB := hB.froz
  have b6 := b_step (b5) hb; clear hb
  go_wp2
  go_ret
  exact ⟨rfl, b6⟩
set_option maxHeartbeats 2000000 in
theorem betweenl_good {y m d y' m' d' : Int} (ha : Hid (goodB y m d = true)) (hb' : Hid (goodB y' m' d' = true)) (hn : numI y m d ≤ numI y' m' d') (w : World) (hT : TabOk w) :
    Calls Tryd.prog 12 #[.agg #[.int .i64 y, .int .i64 m, .int .i64 d], .agg #[.int .i64 y', .int .i64 m', .int .i64 d']] w fun e w' => e = .returned (.bool true) ∧ Below w.heap.size w w' := by
  have eqd := eq_date
  have F := between_facts ha.out hb'.out hn
  have c0 := Lib.hid (fun W (t : TabOk W) => between_good ha hb' hn W t)
  have mo := Lib.hid (fun W (t : TabOk W) => months_yes ha F.2.2.2.2.2.2 W t)
  have dy := Lib.hid (fun W (t : TabOk W) => days_to (n := numI y' m' d' - onF y m d (sinI y m d y' m' d' 1)) (Lib.hid (moD_good ha.out F.2.2.2.2.2.2)) hb' (by show onF y m d (sinI y m d y' m' d' 1) + _ = _; omega) W t)
  have c1 : decide (numI y' m' d' < numI y m d) = false := by simpa using hn
  generalize numI y' m' d' - onF y m d (sinI y m d y' m' d' 1) = D at *
  generalize sinI y m d y' m' d' 12 = Y at *
  generalize sinI y m d y' m' d' 1 = n at *
  obtain ⟨M, rfl⟩ : ∃ M, n = 12 * Y + M := ⟨n - 12 * Y, by omega⟩
  rw [show 12 * Y + M - 12 * Y = M by omega] at c0
  obtain ⟨f1, f2, f3, f4, f5, f6, -⟩ := F
  generalize moD y m d (12 * Y + M) = Z at *
  obtain ⟨Z1, Z2, Z3⟩ := Z
  have f3' : 0 ≤ M := by omega
  have f4' : M ≤ 11 := by omega
  have c2 : decide (Y < 0) = false := by simpa using f1
  have c3 : decide (9999 < Y) = false := by simpa using f2
  have c4 : decide (M < 0) = false := by simpa using f3'
  have c5 : decide (11 < M) = false := by simpa using f4'
  have c6 : decide (D < 0) = false := by simpa using f5
  have c7 : decide (31 < D) = false := by simpa using f6
  have wr1 : wrap64 (12 * Y) = 12 * Y := by unfold wrap64; omega
  have wr2 : wrap64 (12 * Y + M) = 12 * Y + M := by unfold wrap64; omega
  clear f1 f2 f3 f4 f5 f6 f3' f4' hn
  go_enter Tryd.func12, Tryd.ntmps12
  go_wp2_with fail
  refine (works_any _ (hT.below (b_alloc (b_alloc (Below.refl w.heap.size w) _) _))).mono ?_
  rintro e w1 ⟨rfl, hb⟩
  have hA := (((Blk.new_at (w := w) (g := w.heap.size) (by simp) 29 #[.int .i64 y, .int .i64 m, .int .i64 d])).alloc _).below hb; have kA := hA.cell; have lA := hA.lt; have fA := hA.froz
  have hB := ((Blk.new_at (w := (w.alloc (.cells #[.int .i64 y, .int .i64 m, .int .i64 d] 29))) (g := w.heap.size + 1) (by simp) 29 #[.int .i64 y', .int .i64 m', .int .i64 d'])).below hb; have kB := hB.cell; have lB := hB.lt; have fB := hB.froz
  have b1 := b_step (b_alloc (b_alloc (Below.refl w.heap.size w) _) _) hb; clear hb
  go_wp2_with fail
  refine (right_is ha _ (hT.below (b1))).mono ?_
  rintro e w2 ⟨rfl, hb⟩
  have hA := (hA).below hb; clear kA lA fA; have kA := hA.cell; have lA := hA.lt; have fA := hA.froz
  have hB := (hB).below hb; clear kB lB fB; have kB := hB.cell; have lB := hB.lt; have fB := hB.froz
  have b2 := b_step (b1) hb; clear hb
  go_wp2_with fail
  refine (right_is hb' _ (hT.below (b2))).mono ?_
  rintro e w3 ⟨rfl, hb⟩
  have hA := (hA).below hb; clear kA lA fA; have kA := hA.cell; have lA := hA.lt; have fA := hA.froz
  have hB := (hB).below hb; clear kB lB fB; have kB := hB.cell; have lB := hB.lt; have fB := hB.froz
  have b3 := b_step (b2) hb; clear hb
  go_wp2_with fail
  refine (c0.out _ (hT.below (b3))).mono ?_
  rintro e w4 ⟨rfl, hb⟩
  have hA := (hA).below hb; clear kA lA fA; have kA := hA.cell; have lA := hA.lt; have fA := hA.froz
  have hB := (hB).below hb; clear kB lB fB; have kB := hB.cell; have lB := hB.lt; have fB := hB.froz
  have b4 := b_step (b3) hb; clear hb
  go_wp2_with fail
  refine (Number_good ha _ (hT.below (b4))).mono ?_
  rintro e w5 ⟨rfl, hb⟩
  have hA := (hA).below hb; clear kA lA fA; have kA := hA.cell; have lA := hA.lt; have fA := hA.froz
  have hB := (hB).below hb; clear kB lB fB; have kB := hB.cell; have lB := hB.lt; have fB := hB.froz
  have b5 := b_step (b4) hb; clear hb
  go_wp2_with fail
  refine (Number_good hb' _ (hT.below (b5))).mono ?_
  rintro e w6 ⟨rfl, hb⟩
  have hA := (hA).below hb; clear kA lA fA; have kA := hA.cell; have lA := hA.lt; have fA := hA.froz
  have hB := (hB).below hb; clear kB lB fB; have kB := hB.cell; have lB := hB.lt; have fB := hB.froz
  have b6 := b_step (b5) hb; clear hb
  go_wp2_with fail
  refine (mo.out _ (hT.below (b6))).mono ?_
  rintro e w7 ⟨rfl, hb⟩
  have hA := (hA).below hb; clear kA lA fA; have kA := hA.cell; have lA := hA.lt; have fA := hA.froz
  have hB := (hB).below hb; clear kB lB fB; have kB := hB.cell; have lB := hB.lt; have fB := hB.froz
  have b7 := b_step (b6) hb; clear hb
  go_wp2_with fail
  refine (dy.out _ (hT.below (b_alloc (b7) _))).mono ?_
  rintro e w8 ⟨rfl, hb⟩
  have hA := ((hA).alloc _).below hb; clear kA lA fA; have kA := hA.cell; have lA := hA.lt; have fA := hA.froz
  have hB := ((hB).alloc _).below hb; clear kB lB fB; have kB := hB.cell; have lB := hB.lt; have fB := hB.froz
  have hX := ((Blk.new_at (w := w7) (g := w7.heap.size) (by simp) 29 #[.int .i64 Z1, .int .i64 Z2, .int .i64 Z3])).below hb; have kX := hX.cell; have lX := hX.lt; have fX := hX.froz
  have b8 := b_step (b_alloc (b7) _) hb; clear hb
  go_wp2
  go_ret
  exact ⟨rfl, b_alloc (b8) _⟩
theorem dayBetween_law (y m d y' m' d' : Int) (w : World) (hT : TabOk w) (_ : (Lit.int .i64 y).wf = true ∧ (Lit.int .i64 m).wf = true ∧ (Lit.int .i64 d).wf = true) (_ : (Lit.int .i64 y').wf = true ∧ (Lit.int .i64 m').wf = true ∧ (Lit.int .i64 d').wf = true) :
    Calls Tryd.prog 12 #[.agg #[.int .i64 y, .int .i64 m, .int .i64 d], .agg #[.int .i64 y', .int .i64 m', .int .i64 d']] w fun e w' => e = .returned (.bool true) ∧ Below w.heap.size w w' := by
  cases h : goodB y m d with
  | false => exact betweenl_bad1 (Lib.hid h) w hT
  | true =>
    cases h' : goodB y' m' d' with
    | false => exact betweenl_bad2 (Lib.hid h) (Lib.hid h') w hT
    | true =>
      by_cases hn : numI y' m' d' < numI y m d
      · exact betweenl_order (Lib.hid h) (Lib.hid h') hn w hT
      · exact betweenl_good (Lib.hid h) (Lib.hid h') (by omega) w hT
end Go.Proofs.YtolgljionpalkaaDoor
