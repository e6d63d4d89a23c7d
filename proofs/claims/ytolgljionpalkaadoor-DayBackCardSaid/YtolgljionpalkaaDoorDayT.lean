/- The law DayOlder. -/
import Derived.Test.YtolgljionpalkaaDoorDayS
set_option linter.unusedSimpArgs false
set_option linter.unusedVariables false
namespace Go.Proofs.YtolgljionpalkaaDoor
open Go.RowKit Go.BigFrame
theorem next_good {y m d : Int} (h : goodB y m d = true) (hl : numI y m d ≠ 3652059) : ∃ y' m' d', goodB y' m' d' = true ∧ numI y' m' d' = numI y m d + 1 := by
  obtain ⟨a1, a2, a3, a4, a5, a6⟩ := (goodB_iff _ _ _).1 h
  by_cases c1 : d < lenF y m
  · exact ⟨y, m, d + 1, (goodB_iff _ _ _).2 ⟨a1, a2, a3, a4, by omega, by omega⟩, by unfold numI; omega⟩
  · have e : d = lenF y m := by omega
    have s := cumI_succ y m a3
    by_cases c2 : m < 12
    · have l := lenF_lo y (m + 1) (by omega) (by omega)
      exact ⟨y, m + 1, 1, (goodB_iff _ _ _).2 ⟨a1, a2, by omega, by omega, by omega, by omega⟩, by unfold numI; omega⟩
    · obtain rfl : m = 12 := by omega
      have s13 := cumI_13 y
      rw [show (12 : Int) + 1 = 13 by omega] at s
      have yz := yb_succ y a1
      have hy : y < 9999 := by
        by_cases c : y < 9999
        · exact c
        · exfalso; obtain rfl : y = 9999 := by omega
          have l31 : lenF 9999 12 = 31 := by decide
          rw [l31] at e; subst e; exact hl num_last
      have l := lenF_lo (y + 1) 1 (by omega) (by omega)
      exact ⟨y + 1, 1, 1, (goodB_iff _ _ _).2 ⟨by omega, by omega, by omega, by omega, by omega, by omega⟩, by rw [num_jan]; unfold numI; omega⟩
def ageV (how y m d y' m' d' : Int) : Int := agI how (sinI y m d y' m' d' 12) (numI y' m' d' - onF y m d (12 * sinI y m d y' m' d' 12)) (onF y m d (12 * (sinI y m d y' m' d' 12 + 1)) - numI y' m' d')
theorem age_ok {y m d y' m' d' : Int} (how : Int) (h1 : 1 ≤ how) (h3 : how ≤ 3) (ha : Hid (goodB y m d = true)) (hb' : Hid (goodB y' m' d' = true)) (hn : numI y m d ≤ numI y' m' d') (w : World) (hT : TabOk w) :
    Calls Tryd.prog 39 #[.agg #[.int .i64 y, .int .i64 m, .int .i64 d], .agg #[.int .i64 y', .int .i64 m', .int .i64 d'], .int .i64 how] w fun e w' => e = .returned (.tuple #[.int .i64 (ageV how y m d y' m' d'), .int .i64 0]) ∧ Below w.heap.size w w' := by
  have := age_good how ha hb' hn w hT
  rwa [if_pos ⟨h1, h3⟩, if_pos ⟨h1, h3⟩] at this
theorem sin_facts {y m d y' m' d' : Int} (h : goodB y m d = true) (h' : goodB y' m' d' = true) (hn : numI y m d ≤ numI y' m' d') :
    0 ≤ sinI y m d y' m' d' 12 ∧ sinI y m d y' m' d' 12 ≤ 9999 ∧ moG y m d (12 * sinI y m d y' m' d' 12) ∧ onF y m d (12 * sinI y m d y' m' d' 12) ≤ numI y' m' d' ∧ numI y' m' d' < onF y m d (12 * (sinI y m d y' m' d' 12 + 1)) := by
  have S := sinI_spec (s := 12) h h' (by omega) hn
  have ga := (goodB_iff _ _ _).1 h
  have gb := (goodB_iff _ _ _).1 h'
  rw [Int.mul_comm 12, Int.mul_comm 12]
  refine ⟨S.1, ?_, ?_, S.2.2.1, S.2.2.2⟩
  · have := S.2.1; unfold tI at this; omega
  · have h1 := S.1; have := S.2.1; unfold tI at this; unfold moG; omega
theorem older_step {y m d y' m' d' y2 m2 d2 : Int} (how : Int) (h : goodB y m d = true) (h' : goodB y' m' d' = true) (h2 : goodB y2 m2 d2 = true) (hn : numI y m d ≤ numI y' m' d') (hl : numI y2 m2 d2 = numI y' m' d' + 1) :
    ageV how y m d y' m' d' ≤ ageV how y m d y2 m2 d2 ∧ ageV how y m d y2 m2 d2 ≤ ageV how y m d y' m' d' + 1 ∧ 0 ≤ ageV how y m d y' m' d' ∧ ageV how y m d y' m' d' ≤ 10000 := by
  have S := sin_facts h h' hn
  have T := sin_facts h h2 (by omega)
  have ga := (goodB_iff _ _ _).1 h
  have ha : 12 ≤ tI y m := by unfold tI; omega
  unfold ageV
  rw [hl] at T ⊢
  generalize sinI y m d y' m' d' 12 = n at *
  generalize sinI y m d y2 m2 d2 12 = n' at *
  generalize numI y' m' d' = N at *
  have key : n' = n ∧ N + 1 < onF y m d (12 * (n + 1)) ∨ n' = n + 1 ∧ N + 1 = onF y m d (12 * (n + 1)) := by
    by_cases c : N + 1 < onF y m d (12 * (n + 1))
    · exact .inl ⟨sin_unique ga.2.2.2.2.1 ha (.inr rfl) T.1 S.1 (by rw [Int.mul_comm]; exact T.2.2.2.1) (by rw [Int.mul_comm]; exact T.2.2.2.2) (by rw [Int.mul_comm]; omega) (by rw [Int.mul_comm]; exact c), c⟩
    · have lt := onF_lt y m d (12 * (n + 1)) (12 * (n + 1 + 1)) ga.2.2.2.2.1 (by omega) (by omega)
      exact .inr ⟨sin_unique ga.2.2.2.2.1 ha (.inr rfl) T.1 (by omega) (by rw [Int.mul_comm]; exact T.2.2.2.1) (by rw [Int.mul_comm]; exact T.2.2.2.2) (by rw [Int.mul_comm]; omega) (by rw [Int.mul_comm]; omega), by omega⟩
  obtain ⟨s1, s2, -, s4, s5⟩ := S
  obtain ⟨-, -, -, t4, t5⟩ := T
  clear h h' h2 hn hl ga ha
  rcases key with ⟨rfl, k⟩ | ⟨rfl, k⟩
  · unfold agI
    generalize onF y m d (12 * n') = Q at *
    generalize onF y m d (12 * (n' + 1)) = H at *
    (repeat' split) <;> omega
  · unfold agI
    rw [← k] at *
    generalize onF y m d (12 * n) = Q at *
    generalize onF y m d (12 * (n + 1 + 1)) = H at *
    (repeat' split) <;> omega
theorem age_facts {y m d y' m' d' : Int} (h : goodB y m d = true) (h' : goodB y' m' d' = true) (hn : numI y m d ≤ numI y' m' d') :
    ageV 1 y m d y' m' d' = sinI y m d y' m' d' 12 ∧ sinI y m d y' m' d' 12 ≤ ageV 2 y m d y' m' d' ∧ ageV 2 y m d y' m' d' ≤ sinI y m d y' m' d' 12 + 1 ∧
    (ageV 2 y m d y' m' d' = sinI y m d y' m' d' 12 ↔ onF y m d (12 * sinI y m d y' m' d' 12) = numI y' m' d') ∧ sinI y m d y' m' d' 12 ≤ ageV 3 y m d y' m' d' ∧ ageV 3 y m d y' m' d' ≤ sinI y m d y' m' d' 12 + 1 ∧
    (ageV 3 y m d y' m' d' = sinI y m d y' m' d' 12 ↔ numI y' m' d' - onF y m d (12 * sinI y m d y' m' d' 12) < onF y m d (12 * (sinI y m d y' m' d' 12 + 1)) - numI y' m' d') := by
  have S := sin_facts h h' hn
  obtain ⟨s1, s2, -, s4, s5⟩ := S
  unfold ageV agI
  generalize sinI y m d y' m' d' 12 = n at *
  generalize numI y' m' d' = N at *
  generalize onF y m d (12 * n) = Q at *
  generalize onF y m d (12 * (n + 1)) = H at *
  refine ⟨by simp, ?_, ?_, ?_, ?_, ?_, ?_⟩ <;> simp <;> first | omega | (split <;> omega)
theorem days_no {y m d : Int} (h : Hid (goodB y m d = true)) (hn : numI y m d = 3652059) (w : World) (hT : TabOk w) :
    Calls Tryd.prog 35 #[.agg #[.int .i64 y, .int .i64 m, .int .i64 d], .int .i64 1] w fun e w' => e = .returned (.tuple #[.agg #[.int .i64 0, .int .i64 0, .int .i64 0], .int .i64 1]) ∧ Below w.heap.size w w' := by
  have := days_any y m d 1 w hT
  rwa [(dyP_good h).1, (dyP_good h).2, hn, dateOf_none (by omega), if_neg (by omega)] at this
set_option maxHeartbeats 8000000 in
set_option maxRecDepth 20000 in
theorem older_bad1 {y m d y' m' d' : Int} (ha : Hid (goodB y m d = false)) (w : World) (hT : TabOk w) :
    Calls Tryd.prog 11 #[.agg #[.int .i64 y, .int .i64 m, .int .i64 d], .agg #[.int .i64 y', .int .i64 m', .int .i64 d']] w fun e w' => e = .returned (.bool true) ∧ Below w.heap.size w w' := by
  go_enter Tryd.func11, Tryd.ntmps11
  go_wp2_with fail
  refine (works_any _ (hT.below (b_alloc (b_alloc (Below.refl w.heap.size w) _) _))).mono ?_
  rintro e w1 ⟨rfl, hb⟩
  have hA := (((Blk.new_at (w := w) (g := w.heap.size) (by simp) 29 #[.int .i64 y, .int .i64 m, .int .i64 d])).alloc _).below hb; have kA := hA.cell; have lA := hA.lt; have fA := hA.froz
  have hB := ((Blk.new_at (w := (w.alloc (.cells #[.int .i64 y, .int .i64 m, .int .i64 d] 29))) (g := w.heap.size + 1) (by simp) 29 #[.int .i64 y', .int .i64 m', .int .i64 d'])).below hb; have kB := hB.cell; have lB := hB.lt; have fB := hB.froz
  have b1 := b_step (b_alloc (b_alloc (Below.refl w.heap.size w) _) _) hb; clear hb
  go_wp2_with fail
  refine (right_is ha _ (hT.below (b1))).mono ?_
  rintro e w2 ⟨rfl, hb⟩
  have hA := (hA).below hb; clear kA lA fA; have kA := hA.cell; have lA := hA.lt; have fA := hA.froz
  have hB := (hB).below hb; clear kB lB fB; have kB := hB.cell; have lB := hB.lt; have fB := hB.froz
  have b2 := b_step (b1) hb; clear hb
  go_wp2
  go_ret
  exact ⟨rfl, b2⟩
set_option maxHeartbeats 8000000 in
set_option maxRecDepth 20000 in
theorem older_bad2 {y m d y' m' d' : Int} (ha : Hid (goodB y m d = true)) (hb' : Hid (goodB y' m' d' = false)) (w : World) (hT : TabOk w) :
    Calls Tryd.prog 11 #[.agg #[.int .i64 y, .int .i64 m, .int .i64 d], .agg #[.int .i64 y', .int .i64 m', .int .i64 d']] w fun e w' => e = .returned (.bool true) ∧ Below w.heap.size w w' := by
  go_enter Tryd.func11, Tryd.ntmps11
  go_wp2_with fail
  refine (works_any _ (hT.below (b_alloc (b_alloc (Below.refl w.heap.size w) _) _))).mono ?_
  rintro e w1 ⟨rfl, hb⟩
  have hA := (((Blk.new_at (w := w) (g := w.heap.size) (by simp) 29 #[.int .i64 y, .int .i64 m, .int .i64 d])).alloc _).below hb; have kA := hA.cell; have lA := hA.lt; have fA := hA.froz
  have hB := ((Blk.new_at (w := (w.alloc (.cells #[.int .i64 y, .int .i64 m, .int .i64 d] 29))) (g := w.heap.size + 1) (by simp) 29 #[.int .i64 y', .int .i64 m', .int .i64 d'])).below hb; have kB := hB.cell; have lB := hB.lt; have fB := hB.froz
  have b1 := b_step (b_alloc (b_alloc (Below.refl w.heap.size w) _) _) hb; clear hb
  go_wp2_with fail
  refine (right_is ha _ (hT.below (b1))).mono ?_
  rintro e w2 ⟨rfl, hb⟩
  have hA := (hA).below hb; clear kA lA fA; have kA := hA.cell; have lA := hA.lt; have fA := hA.froz
  have hB := (hB).below hb; clear kB lB fB; have kB := hB.cell; have lB := hB.lt; have fB := hB.froz
  have b2 := b_step (b1) hb; clear hb
  go_wp2_with fail
  refine (right_is hb' _ (hT.below (b2))).mono ?_
  rintro e w3 ⟨rfl, hb⟩
  have hA := (hA).below hb; clear kA lA fA; have kA := hA.cell; have lA := hA.lt; have fA := hA.froz
  have hB := (hB).below hb; clear kB lB fB; have kB := hB.cell; have lB := hB.lt; have fB := hB.froz
  have b3 := b_step (b2) hb; clear hb
  go_wp2
  go_ret
  exact ⟨rfl, b3⟩
set_option maxHeartbeats 8000000 in
set_option maxRecDepth 20000 in
theorem older_order {y m d y' m' d' : Int} (ha : Hid (goodB y m d = true)) (hb' : Hid (goodB y' m' d' = true)) (hn : numI y' m' d' < numI y m d) (w : World) (hT : TabOk w) :
    Calls Tryd.prog 11 #[.agg #[.int .i64 y, .int .i64 m, .int .i64 d], .agg #[.int .i64 y', .int .i64 m', .int .i64 d']] w fun e w' => e = .returned (.bool true) ∧ Below w.heap.size w w' := by
  have c1 : decide (numI y' m' d' < numI y m d) = true := by simpa using hn
  go_enter Tryd.func11, Tryd.ntmps11
  go_wp2_with fail
  refine (works_any _ (hT.below (b_alloc (b_alloc (Below.refl w.heap.size w) _) _))).mono ?_
  rintro e w1 ⟨rfl, hb⟩
  have hA := (((Blk.new_at (w := w) (g := w.heap.size) (by simp) 29 #[.int .i64 y, .int .i64 m, .int .i64 d])).alloc _).below hb; have kA := hA.cell; have lA := hA.lt; have fA := hA.froz
  have hB := ((Blk.new_at (w := (w.alloc (.cells #[.int .i64 y, .int .i64 m, .int .i64 d] 29))) (g := w.heap.size + 1) (by simp) 29 #[.int .i64 y', .int .i64 m', .int .i64 d'])).below hb; have kB := hB.cell; have lB := hB.lt; have fB := hB.froz
  have b1 := b_step (b_alloc (b_alloc (Below.refl w.heap.size w) _) _) hb; clear hb
  go_wp2_with fail
  refine (right_is ha _ (hT.below (b1))).mono ?_
  rintro e w2 ⟨rfl, hb⟩
  have hA := (hA).below hb; clear kA lA fA; have kA := hA.cell; have lA := hA.lt; have fA := hA.froz
  have hB := (hB).below hb; clear kB lB fB; have kB := hB.cell; have lB := hB.lt; have fB := hB.froz
  have b2 := b_step (b1) hb; clear hb
  go_wp2_with fail
  refine (right_is hb' _ (hT.below (b2))).mono ?_
  rintro e w3 ⟨rfl, hb⟩
  have hA := (hA).below hb; clear kA lA fA; have kA := hA.cell; have lA := hA.lt; have fA := hA.froz
  have hB := (hB).below hb; clear kB lB fB; have kB := hB.cell; have lB := hB.lt; have fB := hB.froz
  have b3 := b_step (b2) hb; clear hb
  go_wp2_with fail
  refine (age_order 1 ha hb' hn _ (hT.below (b3))).mono ?_
  rintro e w4 ⟨rfl, hb⟩
  have hA := (hA).below hb; clear kA lA fA; have kA := hA.cell; have lA := hA.lt; have fA := hA.froz
  have hB := (hB).below hb; clear kB lB fB; have kB := hB.cell; have lB := hB.lt; have fB := hB.froz
  have b4 := b_step (b3) hb; clear hb
  go_wp2_with fail
  refine (age_order 2 ha hb' hn _ (hT.below (b4))).mono ?_
  rintro e w5 ⟨rfl, hb⟩
  have hA := (hA).below hb; clear kA lA fA; have kA := hA.cell; have lA := hA.lt; have fA := hA.froz
  have hB := (hB).below hb; clear kB lB fB; have kB := hB.cell; have lB := hB.lt; have fB := hB.froz
  have b5 := b_step (b4) hb; clear hb
  go_wp2_with fail
  refine (age_order 3 ha hb' hn _ (hT.below (b5))).mono ?_
  rintro e w6 ⟨rfl, hb⟩
  have hA := (hA).below hb; clear kA lA fA; have kA := hA.cell; have lA := hA.lt; have fA := hA.froz
  have hB := (hB).below hb; clear kB lB fB; have kB := hB.cell; have lB := hB.lt; have fB := hB.froz
  have b6 := b_step (b5) hb; clear hb
  go_wp2_with fail
  refine (Number_good ha _ (hT.below (b6))).mono ?_
  rintro e w7 ⟨rfl, hb⟩
  have hA := (hA).below hb; clear kA lA fA; have kA := hA.cell; have lA := hA.lt; have fA := hA.froz
  have hB := (hB).below hb; clear kB lB fB; have kB := hB.cell; have lB := hB.lt; have fB := hB.froz
  have b7 := b_step (b6) hb; clear hb
  go_wp2_with fail
  refine (Number_good hb' _ (hT.below (b7))).mono ?_
  rintro e w8 ⟨rfl, hb⟩
  have hA := (hA).below hb; clear kA lA fA; have kA := hA.cell; have lA := hA.lt; have fA := hA.froz
  have hB := (hB).below hb; clear kB lB fB; have kB := hB.cell; have lB := hB.lt; have fB := hB.froz
  have b8 := b_step (b7) hb; clear hb
  go_wp2
  go_ret
  exact ⟨rfl, b8⟩
set_option maxHeartbeats 8000000 in
set_option maxRecDepth 20000 in
theorem older_good {y m d y' m' d' : Int} (ha : Hid (goodB y m d = true)) (hb' : Hid (goodB y' m' d' = true)) (hn : numI y m d ≤ numI y' m' d') (w : World) (hT : TabOk w) :
    Calls Tryd.prog 11 #[.agg #[.int .i64 y, .int .i64 m, .int .i64 d], .agg #[.int .i64 y', .int .i64 m', .int .i64 d']] w fun e w' => e = .returned (.bool true) ∧ Below w.heap.size w w' := by
  have S := sin_facts ha.out hb'.out hn
  have F := age_facts ha.out hb'.out hn
  have a1 := Lib.hid (fun W (t : TabOk W) => age_ok 1 (by omega) (by omega) ha hb' hn W t)
  have a2 := Lib.hid (fun W (t : TabOk W) => age_ok 2 (by omega) (by omega) ha hb' hn W t)
  have a3 := Lib.hid (fun W (t : TabOk W) => age_ok 3 (by omega) (by omega) ha hb' hn W t)
  have hp := Lib.hid (fun how h1 h3 W (t : TabOk W) => age_ok how h1 h3 ha hb' hn W t)
  have st := Lib.hid (fun y2 m2 d2 (h2 : Hid (goodB y2 m2 d2 = true)) hl how => older_step how ha.out hb'.out h2.out hn hl)
  have hq := Lib.hid (fun y2 m2 d2 (h2 : Hid (goodB y2 m2 d2 = true)) (hl : numI y m d ≤ numI y2 m2 d2) how h1 h3 W (t : TabOk W) => age_ok how h1 h3 ha h2 hl W t)
  have mo := Lib.hid (fun W (t : TabOk W) => months_yes ha S.2.2.1 W t)
  have no : Hid (∀ W, TabOk W → _) := Lib.hid (fun W (t : TabOk W) => Number_good (Lib.hid (moD_good ha.out S.2.2.1)) W t)
  rw [show numI (moD y m d (12 * sinI y m d y' m' d' 12)).1 (moD y m d (12 * sinI y m d y' m' d' 12)).2.1 (moD y m d (12 * sinI y m d y' m' d' 12)).2.2 = onF y m d (12 * sinI y m d y' m' d' 12) from rfl] at no
  rw [F.1] at a1
  have r1 := onF_rng (k := 12 * sinI y m d y' m' d' 12) ha (by have := S.2.2.1; unfold moG at this; unfold tI; omega) (by omega)
  have r2 := onF_rng (k := 12 * (sinI y m d y' m' d' 12 + 1)) ha (by have := S.2.2.1; unfold moG at this; unfold tI; omega) (by omega)
  have r3 := num_rng hb'.out
  have c1 : decide (numI y' m' d' < numI y m d) = false := by simpa using hn
  have hn' := Lib.hid hn
  generalize ageV 2 y m d y' m' d' = K2 at *
  generalize ageV 3 y m d y' m' d' = K3 at *
  generalize sinI y m d y' m' d' 12 = n at *
  have hmy := Lib.hid (fun (h : moG y m d (12 * (n + 1))) W (t : TabOk W) => months_yes ha h W t)
  have hmn := Lib.hid (fun (h : ¬ moG y m d (12 * (n + 1))) W (t : TabOk W) => months_no ha h W t)
  have nh := Lib.hid (fun (h : moG y m d (12 * (n + 1))) W (t : TabOk W) => Number_good (Lib.hid (moD_good ha.out h)) W t)
  rw [show numI (moD y m d (12 * (n + 1))).1 (moD y m d (12 * (n + 1))).2.1 (moD y m d (12 * (n + 1))).2.2 = onF y m d (12 * (n + 1)) from rfl] at nh
  obtain ⟨s1, s2, -, s4, s5⟩ := S
  obtain ⟨-, f2, f3, f4, f5, f6, f7⟩ := F
  generalize onF y m d (12 * n) = Q at *
  generalize onF y m d (12 * (n + 1)) = H at *
  generalize moD y m d (12 * n) = Z at *
  generalize moD y m d (12 * (n + 1)) = Z' at *
  obtain ⟨Z1, Z2, Z3⟩ := Z
  obtain ⟨V1, V2, V3⟩ := Z'
  obtain ⟨e, he⟩ : ∃ e, (K2 == n) = e := ⟨_, rfl⟩
  have he' : (Q == numI y' m' d') = e := by rw [← he, Bool.eq_iff_iff]; simp only [beq_iff_eq]; exact f4.symm
  obtain ⟨f, hf⟩ : ∃ f, (K3 == n) = f := ⟨_, rfl⟩
  have hf' : decide (numI y' m' d' - Q < H - numI y' m' d') = f := by rw [← hf, Bool.eq_iff_iff]; simp only [beq_iff_eq, decide_eq_true_eq]; exact f7.symm
  have c2 : decide (n < 0) = false := by simpa using s1
  have c3 : decide (9999 < n) = false := by simpa using s2
  have c4 : decide (K2 < n) = false := by simpa using f2
  have c5 : decide (n + 1 < K2) = false := by simpa using f3
  have c6 : decide (K3 < n) = false := by simpa using f5
  have c7 : decide (n + 1 < K3) = false := by simpa using f6
  have c8 : decide (numI y' m' d' < Q) = false := by simpa using s4
  have c9 : decide (H ≤ numI y' m' d') = false := by simpa using s5
  have wr1 : wrap64 (12 * n) = 12 * n := by unfold wrap64; omega
  have wr2 : wrap64 (12 * (n + 1)) = 12 * (n + 1) := by unfold wrap64; omega
  have wr3 : wrap64 (n + 1) = n + 1 := by unfold wrap64; omega
  have wr4 : wrap64 (numI y' m' d' - Q) = numI y' m' d' - Q := by unfold wrap64; omega
  have wr5 : wrap64 (H - numI y' m' d') = H - numI y' m' d' := by unfold wrap64; omega
  clear f2 f3 f4 f5 f6 f7 s1 s2 s4 s5 r1 r2 r3 hn
  go_enter Tryd.func11, Tryd.ntmps11
  go_wp2_with fail
  refine (works_any _ (hT.below (b_alloc (b_alloc (Below.refl w.heap.size w) _) _))).mono ?_
  rintro e w1 ⟨rfl, hb⟩
  have hA := (((Blk.new_at (w := w) (g := w.heap.size) (by simp) 29 #[.int .i64 y, .int .i64 m, .int .i64 d])).alloc _).below hb; have kA := hA.cell; have lA := hA.lt; have fA := hA.froz
  have hB := ((Blk.new_at (w := (w.alloc (.cells #[.int .i64 y, .int .i64 m, .int .i64 d] 29))) (g := w.heap.size + 1) (by simp) 29 #[.int .i64 y', .int .i64 m', .int .i64 d'])).below hb; have kB := hB.cell; have lB := hB.lt; have fB := hB.froz
  have b1 := b_step (b_alloc (b_alloc (Below.refl w.heap.size w) _) _) hb; clear hb
  go_wp2_with fail
  refine (right_is ha _ (hT.below (b1))).mono ?_
  rintro e w2 ⟨rfl, hb⟩
  have hA := (hA).below hb; clear kA lA fA; have kA := hA.cell; have lA := hA.lt; have fA := hA.froz
  have hB := (hB).below hb; clear kB lB fB; have kB := hB.cell; have lB := hB.lt; have fB := hB.froz
  have b2 := b_step (b1) hb; clear hb
  go_wp2_with fail
  refine (right_is hb' _ (hT.below (b2))).mono ?_
  rintro e w3 ⟨rfl, hb⟩
  have hA := (hA).below hb; clear kA lA fA; have kA := hA.cell; have lA := hA.lt; have fA := hA.froz
  have hB := (hB).below hb; clear kB lB fB; have kB := hB.cell; have lB := hB.lt; have fB := hB.froz
  have b3 := b_step (b2) hb; clear hb
  go_wp2_with fail
  refine (a1.out _ (hT.below (b3))).mono ?_
  rintro e w4 ⟨rfl, hb⟩
  have hA := (hA).below hb; clear kA lA fA; have kA := hA.cell; have lA := hA.lt; have fA := hA.froz
  have hB := (hB).below hb; clear kB lB fB; have kB := hB.cell; have lB := hB.lt; have fB := hB.froz
  have b4 := b_step (b3) hb; clear hb
  go_wp2_with fail
  refine (a2.out _ (hT.below (b4))).mono ?_
  rintro e w5 ⟨rfl, hb⟩
  have hA := (hA).below hb; clear kA lA fA; have kA := hA.cell; have lA := hA.lt; have fA := hA.froz
  have hB := (hB).below hb; clear kB lB fB; have kB := hB.cell; have lB := hB.lt; have fB := hB.froz
  have b5 := b_step (b4) hb; clear hb
  go_wp2_with fail
  refine (a3.out _ (hT.below (b5))).mono ?_
  rintro e w6 ⟨rfl, hb⟩
  have hA := (hA).below hb; clear kA lA fA; have kA := hA.cell; have lA := hA.lt; have fA := hA.froz
  have hB := (hB).below hb; clear kB lB fB; have kB := hB.cell; have lB := hB.lt; have fB := hB.froz
  have b6 := b_step (b5) hb; clear hb
  go_wp2_with fail
  refine (Number_good ha _ (hT.below (b6))).mono ?_
  rintro e w7 ⟨rfl, hb⟩
  have hA := (hA).below hb; clear kA lA fA; have kA := hA.cell; have lA := hA.lt; have fA := hA.froz
  have hB := (hB).below hb; clear kB lB fB; have kB := hB.cell; have lB := hB.lt; have fB := hB.froz
  have b7 := b_step (b6) hb; clear hb
  go_wp2_with fail
  refine (Number_good hb' _ (hT.below (b7))).mono ?_
  rintro e w8 ⟨rfl, hb⟩
  have hA := (hA).below hb; clear kA lA fA; have kA := hA.cell; have lA := hA.lt; have fA := hA.froz
  have hB := (hB).below hb; clear kB lB fB; have kB := hB.cell; have lB := hB.lt; have fB := hB.froz
  have b8 := b_step (b7) hb; clear hb
  go_wp2_with fail
  refine (mo.out _ (hT.below (b8))).mono ?_
  rintro e w9 ⟨rfl, hb⟩
  have hA := (hA).below hb; clear kA lA fA; have kA := hA.cell; have lA := hA.lt; have fA := hA.froz
  have hB := (hB).below hb; clear kB lB fB; have kB := hB.cell; have lB := hB.lt; have fB := hB.froz
  have b9 := b_step (b8) hb; clear hb
  go_wp2_with fail
  refine (no.out _ (hT.below (b_alloc (b9) _))).mono ?_
  rintro e w10 ⟨rfl, hb⟩
  have hA := ((hA).alloc _).below hb; clear kA lA fA; have kA := hA.cell; have lA := hA.lt; have fA := hA.froz
  have hB := ((hB).alloc _).below hb; clear kB lB fB; have kB := hB.cell; have lB := hB.lt; have fB := hB.froz
  have hX := ((Blk.new_at (w := w9) (g := w9.heap.size) (by simp) 29 #[.int .i64 Z1, .int .i64 Z2, .int .i64 Z3])).below hb; have kX := hX.cell; have lX := hX.lt; have fX := hX.froz
  have b10 := b_step (b_alloc (b9) _) hb; clear hb
  clear c2 c3 c4 c5 c6 c7
  by_cases hm : moG y m d (12 * (n + 1))
  · go_wp2_with fail
    refine (hmy.out hm _ (hT.below (b10))).mono ?_
    rintro e w11 ⟨rfl, hb⟩
    have hA := (hA).below hb; clear kA lA fA; have kA := hA.cell; have lA := hA.lt; have fA := hA.froz
    have hB := (hB).below hb; clear kB lB fB; have kB := hB.cell; have lB := hB.lt; have fB := hB.froz
    have hX := (hX).below hb; clear kX lX fX; have kX := hX.cell; have lX := hX.lt; have fX := hX.froz
    have b11 := b_step (b10) hb; clear hb
    go_wp2_with fail
    refine (nh.out hm _ (hT.below (b_alloc (b11) _))).mono ?_
    rintro e w12 ⟨rfl, hb⟩
    have hA := ((hA).alloc _).below hb; clear kA lA fA; have kA := hA.cell; have lA := hA.lt; have fA := hA.froz
    have hB := ((hB).alloc _).below hb; clear kB lB fB; have kB := hB.cell; have lB := hB.lt; have fB := hB.froz
    have hX := ((hX).alloc _).below hb; clear kX lX fX; have kX := hX.cell; have lX := hX.lt; have fX := hX.froz
    have hY := ((Blk.new_at (w := w11) (g := w11.heap.size) (by simp) 29 #[.int .i64 V1, .int .i64 V2, .int .i64 V3])).below hb; have kY := hY.cell; have lY := hY.lt; have fY := hY.froz
    have b12 := b_step (b_alloc (b11) _) hb; clear hb
    clear kY lY fY hY
    clear hm
    clear kX lX fX hX
    by_cases hl : numI y' m' d' = 3652059
    · replace hl := Lib.hid hl
      go_wp2_with fail
      refine (days_no hb' hl.out _ (hT.below (b12))).mono ?_
      rintro e w13 ⟨rfl, hb⟩
      have hA := (hA).below hb; clear kA lA fA; have kA := hA.cell; have lA := hA.lt; have fA := hA.froz
      have hB := (hB).below hb; clear kB lB fB; have kB := hB.cell; have lB := hB.lt; have fB := hB.froz
      have b13 := b_step (b12) hb; clear hb
      go_wp2
      go_ret
      exact ⟨rfl, b_alloc (b13) _⟩
    · obtain ⟨y2, m2, d2, g2, e2⟩ := next_good hb'.out hl
      have st := Lib.hid (st.out y2 m2 d2 (Lib.hid g2) e2)
      have hq := Lib.hid (hq.out y2 m2 d2 (Lib.hid g2) (by have := hn'.out; omega))
      have hd := Lib.hid (fun W (t : TabOk W) => days_to (n := 1) hb' (Lib.hid g2) e2.symm W t)
      clear e2 hl g2
      go_wp2_with fail
      refine (hd.out _ (hT.below (b12))).mono ?_
      rintro e w13 ⟨rfl, hb⟩
      have hA := (hA).below hb; clear kA lA fA; have kA := hA.cell; have lA := hA.lt; have fA := hA.froz
      have hB := (hB).below hb; clear kB lB fB; have kB := hB.cell; have lB := hB.lt; have fB := hB.froz
      have b13 := b_step (b12) hb; clear hb
      go_wp2
      go_loopg [22] 3 (fun k nn wr => ∃ h : Int, nn = .int .i64 h ∧ 1 ≤ h ∧ h ≤ 4 ∧ 4 - h ≤ k ∧ Blk wr w.heap.size #[.int .i64 y, .int .i64 m, .int .i64 d] ∧ Blk wr (w.heap.size + 1) #[.int .i64 y', .int .i64 m', .int .i64 d'] ∧ Blk wr w13.heap.size #[.int .i64 y2, .int .i64 m2, .int .i64 d2] ∧ Below w.heap.size w wr)
      case atStart => exact ⟨1, rfl, by omega, by omega, by omega, hA.alloc _, hB.alloc _, Blk.new_at (w := w13) (g := w13.heap.size) (by simp) 29 #[.int .i64 y2, .int .i64 m2, .int .i64 d2], b_alloc (b13) _⟩
      case round =>
        clear hA hB kA kB lA lB fA fB
        obtain ⟨h, rfl, hh1, hh2, hk, hA, hB, hL, br⟩ := hrel
        have kA := hA.cell; have lA := hA.lt; have fA := hA.froz; have kB := hB.cell; have lB := hB.lt; have fB := hB.froz; have kL := hL.cell; have lL := hL.lt; have fL := hL.froz
        by_cases hc : h = 4
        · subst hc
          go_wp2
          go_ret
          exact ⟨rfl, br⟩
        · have hh3 : h ≤ 3 := by omega
          have c20 : decide (h ≤ 3) = true := by simpa using hh3
          obtain ⟨q1, q2, q3, q4⟩ := st.out h
          have hpp := Lib.hid (hp.out h hh1 hh3)
          have hqq := Lib.hid (hq.out h hh1 hh3)
          generalize ageV h y m d y' m' d' = P at *
          generalize ageV h y m d y2 m2 d2 = R at *
          have c21 : decide (R < P) = false := by simpa using q1
          have c22 : decide (P + 1 < R) = false := by simpa using q2
          have wr8 : wrap64 (P + 1) = P + 1 := by unfold wrap64; omega
          have wr9 : wrap64 (h + 1) = h + 1 := by unfold wrap64; omega
          clear q1 q2 q3 q4
          go_wp2_with fail
          refine (hpp.out _ (hT.below (br))).mono ?_
          rintro e w21 ⟨rfl, hb⟩
          have hA := (hA).below hb; clear kA lA fA; have kA := hA.cell; have lA := hA.lt; have fA := hA.froz
          have hB := (hB).below hb; clear kB lB fB; have kB := hB.cell; have lB := hB.lt; have fB := hB.froz
          have hL := (hL).below hb; clear kL lL fL; have kL := hL.cell; have lL := hL.lt; have fL := hL.froz
          have b21 := b_step (br) hb; clear hb
          go_wp2_with fail
          refine (hqq.out _ (hT.below (b21))).mono ?_
          rintro e w22 ⟨rfl, hb⟩
          have hA := (hA).below hb; clear kA lA fA; have kA := hA.cell; have lA := hA.lt; have fA := hA.froz
          have hB := (hB).below hb; clear kB lB fB; have kB := hB.cell; have lB := hB.lt; have fB := hB.froz
          have hL := (hL).below hb; clear kL lL fL; have kL := hL.cell; have lL := hL.lt; have fL := hL.froz
          have b22 := b_step (b21) hb; clear hb
          go_wp2
          go_roundg (gk - 1)
          case measure => omega
          case rel => exact ⟨h + 1, rfl, by omega, by omega, by omega, hA, hB, hL, b22⟩
  · go_wp2_with fail
    refine (hmn.out hm _ (hT.below (b10))).mono ?_
    rintro e w11 ⟨rfl, hb⟩
    have hA := (hA).below hb; clear kA lA fA; have kA := hA.cell; have lA := hA.lt; have fA := hA.froz
    have hB := (hB).below hb; clear kB lB fB; have kB := hB.cell; have lB := hB.lt; have fB := hB.froz
    have hX := (hX).below hb; clear kX lX fX; have kX := hX.cell; have lX := hX.lt; have fX := hX.froz
    have b11 := b_step (b10) hb; clear hb
    clear hm
    clear kX lX fX hX
    by_cases hl : numI y' m' d' = 3652059
    · replace hl := Lib.hid hl
      go_wp2_with fail
      refine (days_no hb' hl.out _ (hT.below (b_alloc (b11) _))).mono ?_
      rintro e w12 ⟨rfl, hb⟩
      have hA := ((hA).alloc _).below hb; clear kA lA fA; have kA := hA.cell; have lA := hA.lt; have fA := hA.froz
      have hB := ((hB).alloc _).below hb; clear kB lB fB; have kB := hB.cell; have lB := hB.lt; have fB := hB.froz
      have hY := ((Blk.new_at (w := w11) (g := w11.heap.size) (by simp) 29 #[.int .i64 0, .int .i64 0, .int .i64 0])).below hb; have kY := hY.cell; have lY := hY.lt; have fY := hY.froz
      have b12 := b_step (b_alloc (b11) _) hb; clear hb
      go_wp2
      go_ret
      exact ⟨rfl, b_alloc (b12) _⟩
    · obtain ⟨y2, m2, d2, g2, e2⟩ := next_good hb'.out hl
      have st := Lib.hid (st.out y2 m2 d2 (Lib.hid g2) e2)
      have hq := Lib.hid (hq.out y2 m2 d2 (Lib.hid g2) (by have := hn'.out; omega))
      have hd := Lib.hid (fun W (t : TabOk W) => days_to (n := 1) hb' (Lib.hid g2) e2.symm W t)
      clear e2 hl g2
      go_wp2_with fail
      refine (hd.out _ (hT.below (b_alloc (b11) _))).mono ?_
      rintro e w12 ⟨rfl, hb⟩
      have hA := ((hA).alloc _).below hb; clear kA lA fA; have kA := hA.cell; have lA := hA.lt; have fA := hA.froz
      have hB := ((hB).alloc _).below hb; clear kB lB fB; have kB := hB.cell; have lB := hB.lt; have fB := hB.froz
      have hY := ((Blk.new_at (w := w11) (g := w11.heap.size) (by simp) 29 #[.int .i64 0, .int .i64 0, .int .i64 0])).below hb; have kY := hY.cell; have lY := hY.lt; have fY := hY.froz
      have b12 := b_step (b_alloc (b11) _) hb; clear hb
      go_wp2
      go_loopg [22] 3 (fun k nn wr => ∃ h : Int, nn = .int .i64 h ∧ 1 ≤ h ∧ h ≤ 4 ∧ 4 - h ≤ k ∧ Blk wr w.heap.size #[.int .i64 y, .int .i64 m, .int .i64 d] ∧ Blk wr (w.heap.size + 1) #[.int .i64 y', .int .i64 m', .int .i64 d'] ∧ Blk wr w12.heap.size #[.int .i64 y2, .int .i64 m2, .int .i64 d2] ∧ Below w.heap.size w wr)
      case atStart => exact ⟨1, rfl, by omega, by omega, by omega, hA.alloc _, hB.alloc _, Blk.new_at (w := w12) (g := w12.heap.size) (by simp) 29 #[.int .i64 y2, .int .i64 m2, .int .i64 d2], b_alloc (b12) _⟩
      case round =>
        clear hA hB kA kB lA lB fA fB
        obtain ⟨h, rfl, hh1, hh2, hk, hA, hB, hL, br⟩ := hrel
        have kA := hA.cell; have lA := hA.lt; have fA := hA.froz; have kB := hB.cell; have lB := hB.lt; have fB := hB.froz; have kL := hL.cell; have lL := hL.lt; have fL := hL.froz
        by_cases hc : h = 4
        · subst hc
          go_wp2
          go_ret
          exact ⟨rfl, br⟩
        · have hh3 : h ≤ 3 := by omega
          have c20 : decide (h ≤ 3) = true := by simpa using hh3
          obtain ⟨q1, q2, q3, q4⟩ := st.out h
          have hpp := Lib.hid (hp.out h hh1 hh3)
          have hqq := Lib.hid (hq.out h hh1 hh3)
          generalize ageV h y m d y' m' d' = P at *
          generalize ageV h y m d y2 m2 d2 = R at *
          have c21 : decide (R < P) = false := by simpa using q1
          have c22 : decide (P + 1 < R) = false := by simpa using q2
          have wr8 : wrap64 (P + 1) = P + 1 := by unfold wrap64; omega
          have wr9 : wrap64 (h + 1) = h + 1 := by unfold wrap64; omega
          clear q1 q2 q3 q4
          go_wp2_with fail
          refine (hpp.out _ (hT.below (br))).mono ?_
          rintro e w21 ⟨rfl, hb⟩
          have hA := (hA).below hb; clear kA lA fA; have kA := hA.cell; have lA := hA.lt; have fA := hA.froz
          have hB := (hB).below hb; clear kB lB fB; have kB := hB.cell; have lB := hB.lt; have fB := hB.froz
          have hL := (hL).below hb; clear kL lL fL; have kL := hL.cell; have lL := hL.lt; have fL := hL.froz
          have b21 := b_step (br) hb; clear hb
          go_wp2_with fail
          refine (hqq.out _ (hT.below (b21))).mono ?_
          rintro e w22 ⟨rfl, hb⟩
          have hA := (hA).below hb; clear kA lA fA; have kA := hA.cell; have lA := hA.lt; have fA := hA.froz
          have hB := (hB).below hb; clear kB lB fB; have kB := hB.cell; have lB := hB.lt; have fB := hB.froz
          have hL := (hL).below hb; clear kL lL fL; have kL := hL.cell; have lL := hL.lt; have fL := hL.froz
          have b22 := b_step (b21) hb; clear hb
          go_wp2
          go_roundg (gk - 1)
          case measure => omega
          case rel => exact ⟨h + 1, rfl, by omega, by omega, by omega, hA, hB, hL, b22⟩
theorem dayOlder_law (y m d y' m' d' : Int) (w : World) (hT : TabOk w) (_ : (Lit.int .i64 y).wf = true ∧ (Lit.int .i64 m).wf = true ∧ (Lit.int .i64 d).wf = true) (_ : (Lit.int .i64 y').wf = true ∧ (Lit.int .i64 m').wf = true ∧ (Lit.int .i64 d').wf = true) :
    Calls Tryd.prog 11 #[.agg #[.int .i64 y, .int .i64 m, .int .i64 d], .agg #[.int .i64 y', .int .i64 m', .int .i64 d']] w fun e w' => e = .returned (.bool true) ∧ Below w.heap.size w w' := by
  cases h : goodB y m d with
  | false => exact older_bad1 (Lib.hid h) w hT
  | true =>
    cases h' : goodB y' m' d' with
    | false => exact older_bad2 (Lib.hid h) (Lib.hid h') w hT
    | true =>
      by_cases hn : numI y' m' d' < numI y m d
      · exact older_order (Lib.hid h) (Lib.hid h') hn w hT
      · exact older_good (Lib.hid h) (Lib.hid h') (by omega) w hT
end Go.Proofs.YtolgljionpalkaaDoor
