/- Days and Months: the program's and the document's; the law DayMoves. -/
import Derived.Test.YtolgljionpalkaaDoorDayH
import Derived.Test.YtolgljionpalkaaDoorDayB
set_option linter.unusedSimpArgs false
set_option linter.unusedVariables false
namespace Go.Proofs.YtolgljionpalkaaDoor
open Go.RowKit Go.BigFrame
/-- n days on: the date and the error. -/
noncomputable def dyP (y m d n : Int) : Int × Int × Int := if goodB y m d = true then dateOf (numI y m d + n) else (0, 0, 0)
def dyE (y m d n : Int) : Int := if goodB y m d = true then (if 1 ≤ numI y m d + n ∧ numI y m d + n ≤ 3652059 then 0 else 1) else 70
theorem dyP_bad {y m d n : Int} (h : Hid (goodB y m d = false)) : dyP y m d n = (0, 0, 0) ∧ dyE y m d n = 70 := by simp [dyP, dyE, h.out]
theorem dyP_good {y m d n : Int} (h : Hid (goodB y m d = true)) : dyP y m d n = dateOf (numI y m d + n) ∧ dyE y m d n = if 1 ≤ numI y m d + n ∧ numI y m d + n ≤ 3652059 then 0 else 1 := by simp [dyP, dyE, h.out]
theorem dyP_far {y m d n : Int} (h : Hid (goodB y m d = true)) (hn : n < -3652059 ∨ 3652059 < n) : dyP y m d n = (0, 0, 0) ∧ dyE y m d n = 1 := by
  have hr := num_rng h.out
  rw [(dyP_good h).1, (dyP_good h).2, dateOf_none (by omega), if_neg (by omega)]
  exact ⟨rfl, rfl⟩
set_option maxHeartbeats 1000000 in
theorem days_any (y m d n : Int) (w : World) (hT : TabOk w) : Calls Tryd.prog 35 #[.agg #[.int .i64 y, .int .i64 m, .int .i64 d], .int .i64 n] w fun e w' => e = .returned (.tuple #[.agg #[.int .i64 (dyP y m d n).1, .int .i64 (dyP y m d n).2.1, .int .i64 (dyP y m d n).2.2], .int .i64 (dyE y m d n)]) ∧ Below w.heap.size w w' := by
  cases hg : goodB y m d with
  | false =>
    have h := Lib.hid hg; clear hg
    rw [(dyP_bad h).1, (dyP_bad h).2]
    go_enter Tryd.func35, Tryd.ntmps35
    go_wp2_with fail
    refine (check_bad h _ (hT.below (b_alloc (b_alloc (Below.refl w.heap.size w) _) _))).mono ?_
    rintro e w1 ⟨rfl, hb⟩
    have hA := (((Blk.new_at (w := w) (g := w.heap.size) (by simp) 29 #[.int .i64 y, .int .i64 m, .int .i64 d])).alloc _).below hb; have kA := hA.cell; have lA := hA.lt; have fA := hA.froz
    have hR := ((Blk.new_at (w := (w.alloc (.cells #[.int .i64 y, .int .i64 m, .int .i64 d] 29))) (g := w.heap.size + 1) (by simp) 29 #[.int .i64 0, .int .i64 0, .int .i64 0])).below hb; have kR := hR.cell; have lR := hR.lt; have fR := hR.froz
    have b1 := b_step (b_alloc (b_alloc (Below.refl w.heap.size w) _) _) hb; clear hb
    go_wp2
    refine bodyPost_ret (v := .tuple #[.agg #[.int .i64 0, .int .i64 0, .int .i64 0], .int .i64 70]) (by simp [results, Tryd.results35, go_sem, kA, kR, lA, lR]) rfl ⟨rfl, ?_⟩
    repeat (first | exact b1 | refine b_set ?_ (by simp))
  | true =>
    have h := Lib.hid hg; clear hg
    have hr := num_rng h.out
    by_cases hn : n < -3652059
    · have c1 : decide (n < -3652059) = true := by simpa using hn
      rw [(dyP_far h (by omega)).1, (dyP_far h (by omega)).2]
      clear hn
      go_enter Tryd.func35, Tryd.ntmps35
      go_wp2_with fail
      refine (check_good h _ (hT.below (b_alloc (b_alloc (Below.refl w.heap.size w) _) _))).mono ?_
      rintro e w1 ⟨rfl, hb⟩
      have hA := (((Blk.new_at (w := w) (g := w.heap.size) (by simp) 29 #[.int .i64 y, .int .i64 m, .int .i64 d])).alloc _).below hb; have kA := hA.cell; have lA := hA.lt; have fA := hA.froz
      have hR := ((Blk.new_at (w := (w.alloc (.cells #[.int .i64 y, .int .i64 m, .int .i64 d] 29))) (g := w.heap.size + 1) (by simp) 29 #[.int .i64 0, .int .i64 0, .int .i64 0])).below hb; have kR := hR.cell; have lR := hR.lt; have fR := hR.froz
      have b1 := b_step (b_alloc (b_alloc (Below.refl w.heap.size w) _) _) hb; clear hb
      go_wp2
      refine bodyPost_ret (v := .tuple #[.agg #[.int .i64 0, .int .i64 0, .int .i64 0], .int .i64 1]) (by simp [results, Tryd.results35, go_sem, kA, kR, lA, lR]) rfl ⟨rfl, ?_⟩
      repeat (first | exact b1 | refine b_set ?_ (by simp))
    · have c1 : decide (n < -3652059) = false := by simpa using hn
      by_cases hn2 : 3652059 < n
      · have c2 : decide (3652059 < n) = true := by simpa using hn2
        rw [(dyP_far h (by omega)).1, (dyP_far h (by omega)).2]
        clear hn hn2
        go_enter Tryd.func35, Tryd.ntmps35
        go_wp2_with fail
        refine (check_good h _ (hT.below (b_alloc (b_alloc (Below.refl w.heap.size w) _) _))).mono ?_
        rintro e w1 ⟨rfl, hb⟩
        have hA := (((Blk.new_at (w := w) (g := w.heap.size) (by simp) 29 #[.int .i64 y, .int .i64 m, .int .i64 d])).alloc _).below hb; have kA := hA.cell; have lA := hA.lt; have fA := hA.froz
        have hR := ((Blk.new_at (w := (w.alloc (.cells #[.int .i64 y, .int .i64 m, .int .i64 d] 29))) (g := w.heap.size + 1) (by simp) 29 #[.int .i64 0, .int .i64 0, .int .i64 0])).below hb; have kR := hR.cell; have lR := hR.lt; have fR := hR.froz
        have b1 := b_step (b_alloc (b_alloc (Below.refl w.heap.size w) _) _) hb; clear hb
        go_wp2
        refine bodyPost_ret (v := .tuple #[.agg #[.int .i64 0, .int .i64 0, .int .i64 0], .int .i64 1]) (by simp [results, Tryd.results35, go_sem, kA, kR, lA, lR]) rfl ⟨rfl, ?_⟩
        repeat (first | exact b1 | refine b_set ?_ (by simp))
      · have c2 : decide (3652059 < n) = false := by simpa using hn2
        have hn1 : -4000000 ≤ n ∧ n ≤ 4000000 := by omega
        clear hn hn2
        rw [(dyP_good h).1, (dyP_good h).2]
        obtain ⟨P, hP⟩ : ∃ P : Int × Int × Int, P = dateOf (numI y m d + n) := ⟨_, rfl⟩
        have hF := Lib.hid (fromnumber_any (numI y m d + n))
        rw [← hP] at hF ⊢
        clear hP
        by_cases hq : 1 ≤ numI y m d + n ∧ numI y m d + n ≤ 3652059
        · rw [if_pos hq] at hF ⊢
          clear hq
          go_enter Tryd.func35, Tryd.ntmps35
          go_wp2_with fail
          refine (check_good h _ (hT.below (b_alloc (b_alloc (Below.refl w.heap.size w) _) _))).mono ?_
          rintro e w1 ⟨rfl, hb⟩
          have hA := (((Blk.new_at (w := w) (g := w.heap.size) (by simp) 29 #[.int .i64 y, .int .i64 m, .int .i64 d])).alloc _).below hb; have kA := hA.cell; have lA := hA.lt; have fA := hA.froz
          have hR := ((Blk.new_at (w := (w.alloc (.cells #[.int .i64 y, .int .i64 m, .int .i64 d] 29))) (g := w.heap.size + 1) (by simp) 29 #[.int .i64 0, .int .i64 0, .int .i64 0])).below hb; have kR := hR.cell; have lR := hR.lt; have fR := hR.froz
          have b1 := b_step (b_alloc (b_alloc (Below.refl w.heap.size w) _) _) hb; clear hb
          go_wp2_with fail
          refine (number_good h _ (hT.below (b1))).mono ?_
          rintro e w2 ⟨rfl, hb⟩
          have hA := (hA).below hb; clear kA lA fA; have kA := hA.cell; have lA := hA.lt; have fA := hA.froz
          have hR := (hR).below hb; clear kR lR fR; have kR := hR.cell; have lR := hR.lt; have fR := hR.froz
          have b2 := b_step (b1) hb; clear hb
          go_wp2_with fail
          refine (hF.out _ (hT.below (b2))).mono ?_
          rintro e w3 ⟨rfl, hb⟩
          have hA := (hA).below hb; clear kA lA fA; have kA := hA.cell; have lA := hA.lt; have fA := hA.froz
          have hR := (hR).below hb; clear kR lR fR; have kR := hR.cell; have lR := hR.lt; have fR := hR.froz
          have b3 := b_step (b2) hb; clear hb
          go_wp2
          refine bodyPost_ret (v := .tuple #[.agg #[.int .i64 P.1, .int .i64 P.2.1, .int .i64 P.2.2], .int .i64 0]) (by simp [results, Tryd.results35, go_sem, kA, kR, lA, lR]) rfl ⟨rfl, ?_⟩
          repeat (first | exact b3 | refine b_alloc ?_ _ | refine b_set ?_ (by simp))
        · rw [if_neg hq] at hF ⊢
          clear hq
          go_enter Tryd.func35, Tryd.ntmps35
          go_wp2_with fail
          refine (check_good h _ (hT.below (b_alloc (b_alloc (Below.refl w.heap.size w) _) _))).mono ?_
          rintro e w1 ⟨rfl, hb⟩
          have hA := (((Blk.new_at (w := w) (g := w.heap.size) (by simp) 29 #[.int .i64 y, .int .i64 m, .int .i64 d])).alloc _).below hb; have kA := hA.cell; have lA := hA.lt; have fA := hA.froz
          have hR := ((Blk.new_at (w := (w.alloc (.cells #[.int .i64 y, .int .i64 m, .int .i64 d] 29))) (g := w.heap.size + 1) (by simp) 29 #[.int .i64 0, .int .i64 0, .int .i64 0])).below hb; have kR := hR.cell; have lR := hR.lt; have fR := hR.froz
          have b1 := b_step (b_alloc (b_alloc (Below.refl w.heap.size w) _) _) hb; clear hb
          go_wp2_with fail
          refine (number_good h _ (hT.below (b1))).mono ?_
          rintro e w2 ⟨rfl, hb⟩
          have hA := (hA).below hb; clear kA lA fA; have kA := hA.cell; have lA := hA.lt; have fA := hA.froz
          have hR := (hR).below hb; clear kR lR fR; have kR := hR.cell; have lR := hR.lt; have fR := hR.froz
          have b2 := b_step (b1) hb; clear hb
          go_wp2_with fail
          refine (hF.out _ (hT.below (b2))).mono ?_
          rintro e w3 ⟨rfl, hb⟩
          have hA := (hA).below hb; clear kA lA fA; have kA := hA.cell; have lA := hA.lt; have fA := hA.froz
          have hR := (hR).below hb; clear kR lR fR; have kR := hR.cell; have lR := hR.lt; have fR := hR.froz
          have b3 := b_step (b2) hb; clear hb
          go_wp2
          refine bodyPost_ret (v := .tuple #[.agg #[.int .i64 P.1, .int .i64 P.2.1, .int .i64 P.2.2], .int .i64 1]) (by simp [results, Tryd.results35, go_sem, kA, kR, lA, lR]) rfl ⟨rfl, ?_⟩
          repeat (first | exact b3 | refine b_alloc ?_ _ | refine b_set ?_ (by simp))
def farB (n : Int) : Bool := decide (n < -4000000 ∨ 4000000 < n)
theorem far_is {n : Int} {b : Bool} (h : Hid (farB n = b)) (w : World) : Calls Tryd.prog 55 #[.int .i64 n] w fun e w' => e = .returned (.bool b) ∧ w = w' := by
  rw [← h.out]
  clear h
  by_cases h1 : n < -4000000
  · have c1 : decide (n < -4000000) = true := by simpa using h1
    have H := Lib.hid (show farB n = true by simp [farB, h1])
    clear h1
    go_enter Tryd.func55, Tryd.ntmps55
    go_wp2
    go_ret
    exact ⟨by rw [H.out]; rfl, rfl⟩
  · have c1 : decide (n < -4000000) = false := by simpa using h1
    have H := Lib.hid (show farB n = decide (4000000 < n) by simp [farB, h1])
    clear h1
    go_enter Tryd.func55, Tryd.ntmps55
    go_wp2
    go_ret
    exact ⟨by rw [H.out]; rfl, rfl⟩
set_option maxHeartbeats 1000000 in
theorem daysr_any (y m d n : Int) (w : World) : Calls Tryd.prog 36 #[.agg #[.int .i64 y, .int .i64 m, .int .i64 d], .int .i64 n] w fun e w' => e = .returned (.tuple #[.agg #[.int .i64 (dyP y m d n).1, .int .i64 (dyP y m d n).2.1, .int .i64 (dyP y m d n).2.2], .int .i64 (dyE y m d n)]) ∧ Below w.heap.size w w' := by
  cases hg : goodB y m d with
  | false =>
    have h := Lib.hid hg; clear hg
    rw [(dyP_bad h).1, (dyP_bad h).2]
    go_enter Tryd.func36, Tryd.ntmps36
    go_wp2_with fail
    refine (goodr_is h _).mono ?_
    rintro e w1 ⟨rfl, hb⟩
    have hA := (((Blk.new_at (w := w) (g := w.heap.size) (by simp) 29 #[.int .i64 y, .int .i64 m, .int .i64 d])).alloc _).below hb; have kA := hA.cell; have lA := hA.lt; have fA := hA.froz
    have hR := ((Blk.new_at (w := (w.alloc (.cells #[.int .i64 y, .int .i64 m, .int .i64 d] 29))) (g := w.heap.size + 1) (by simp) 29 #[.int .i64 0, .int .i64 0, .int .i64 0])).below hb; have kR := hR.cell; have lR := hR.lt; have fR := hR.froz
    have b1 := b_step (b_alloc (b_alloc (Below.refl w.heap.size w) _) _) hb; clear hb
    go_wp2
    refine bodyPost_ret (v := .tuple #[.agg #[.int .i64 0, .int .i64 0, .int .i64 0], .int .i64 70]) (by simp [results, Tryd.results36, go_sem, kA, kR, lA, lR]) rfl ⟨rfl, ?_⟩
    repeat (first | exact b1 | refine b_set ?_ (by simp))
  | true =>
    have h := Lib.hid hg; clear hg
    have hr := num_rng h.out
    by_cases hn : n < -4000000 ∨ 4000000 < n
    · have hfar : Hid (farB n = true) := Lib.hid (by simpa [farB] using hn)
      rw [(dyP_far h (by omega)).1, (dyP_far h (by omega)).2]
      clear hn
      go_enter Tryd.func36, Tryd.ntmps36
      go_wp2_with fail
      refine (goodr_is h _).mono ?_
      rintro e w1 ⟨rfl, hb⟩
      have hA := (((Blk.new_at (w := w) (g := w.heap.size) (by simp) 29 #[.int .i64 y, .int .i64 m, .int .i64 d])).alloc _).below hb; have kA := hA.cell; have lA := hA.lt; have fA := hA.froz
      have hR := ((Blk.new_at (w := (w.alloc (.cells #[.int .i64 y, .int .i64 m, .int .i64 d] 29))) (g := w.heap.size + 1) (by simp) 29 #[.int .i64 0, .int .i64 0, .int .i64 0])).below hb; have kR := hR.cell; have lR := hR.lt; have fR := hR.froz
      have b1 := b_step (b_alloc (b_alloc (Below.refl w.heap.size w) _) _) hb; clear hb
      go_wp2_with fail
      refine (far_is hfar _).mono ?_
      rintro e w' ⟨rfl, rfl⟩
      go_wp2
      refine bodyPost_ret (v := .tuple #[.agg #[.int .i64 0, .int .i64 0, .int .i64 0], .int .i64 1]) (by simp [results, Tryd.results36, go_sem, kA, kR, lA, lR]) rfl ⟨rfl, ?_⟩
      repeat (first | exact b1 | refine b_set ?_ (by simp))
    · have hfar : Hid (farB n = false) := Lib.hid (by simp only [farB]; exact decide_eq_false hn)
      have hn1 : -4000000 ≤ n ∧ n ≤ 4000000 := by omega
      clear hn
      rw [(dyP_good h).1, (dyP_good h).2]
      obtain ⟨P, hP⟩ : ∃ P : Int × Int × Int, P = dateOf (numI y m d + n) := ⟨_, rfl⟩
      have hF := Lib.hid (fromnumberr_any (numI y m d + n))
      rw [← hP] at hF ⊢
      have hP0 : ¬ (1 ≤ numI y m d + n ∧ numI y m d + n ≤ 3652059) → P = (0, 0, 0) := fun hq => hP.trans (dateOf_none (by omega))
      clear hP
      by_cases hq : 1 ≤ numI y m d + n ∧ numI y m d + n ≤ 3652059
      · clear hP0
        rw [decide_eq_true hq] at hF
        rw [if_pos hq]
        clear hq
        go_enter Tryd.func36, Tryd.ntmps36
        go_wp2_with fail
        refine (goodr_is h _).mono ?_
        rintro e w1 ⟨rfl, hb⟩
        have hA := (((Blk.new_at (w := w) (g := w.heap.size) (by simp) 29 #[.int .i64 y, .int .i64 m, .int .i64 d])).alloc _).below hb; have kA := hA.cell; have lA := hA.lt; have fA := hA.froz
        have hR := ((Blk.new_at (w := (w.alloc (.cells #[.int .i64 y, .int .i64 m, .int .i64 d] 29))) (g := w.heap.size + 1) (by simp) 29 #[.int .i64 0, .int .i64 0, .int .i64 0])).below hb; have kR := hR.cell; have lR := hR.lt; have fR := hR.froz
        have b1 := b_step (b_alloc (b_alloc (Below.refl w.heap.size w) _) _) hb; clear hb
        go_wp2_with fail
        refine (far_is hfar _).mono ?_
        rintro e w' ⟨rfl, rfl⟩
        go_wp2_with fail
        refine (numberr_good h _).mono ?_
        rintro e w2 ⟨rfl, hb⟩
        have hA := (hA).below hb; clear kA lA fA; have kA := hA.cell; have lA := hA.lt; have fA := hA.froz
        have hR := (hR).below hb; clear kR lR fR; have kR := hR.cell; have lR := hR.lt; have fR := hR.froz
        have b2 := b_step (b1) hb; clear hb
        go_wp2_with fail
        refine (hF.out _).mono ?_
        rintro e w3 ⟨rfl, hb⟩
        have hA := (hA).below hb; clear kA lA fA; have kA := hA.cell; have lA := hA.lt; have fA := hA.froz
        have hR := (hR).below hb; clear kR lR fR; have kR := hR.cell; have lR := hR.lt; have fR := hR.froz
        have b3 := b_step (b2) hb; clear hb
        go_wp2
        refine bodyPost_ret (v := .tuple #[.agg #[.int .i64 P.1, .int .i64 P.2.1, .int .i64 P.2.2], .int .i64 0]) (by simp [results, Tryd.results36, go_sem, kA, kR, lA, lR]) rfl ⟨rfl, ?_⟩
        repeat (first | exact b3 | refine b_alloc ?_ _ | refine b_set ?_ (by simp))
      · rw [decide_eq_false hq] at hF
        rw [if_neg hq]
        obtain rfl : P = (0, 0, 0) := hP0 hq
        clear hq hP0
        go_enter Tryd.func36, Tryd.ntmps36
        go_wp2_with fail
        refine (goodr_is h _).mono ?_
        rintro e w1 ⟨rfl, hb⟩
        have hA := (((Blk.new_at (w := w) (g := w.heap.size) (by simp) 29 #[.int .i64 y, .int .i64 m, .int .i64 d])).alloc _).below hb; have kA := hA.cell; have lA := hA.lt; have fA := hA.froz
        have hR := ((Blk.new_at (w := (w.alloc (.cells #[.int .i64 y, .int .i64 m, .int .i64 d] 29))) (g := w.heap.size + 1) (by simp) 29 #[.int .i64 0, .int .i64 0, .int .i64 0])).below hb; have kR := hR.cell; have lR := hR.lt; have fR := hR.froz
        have b1 := b_step (b_alloc (b_alloc (Below.refl w.heap.size w) _) _) hb; clear hb
        go_wp2_with fail
        refine (far_is hfar _).mono ?_
        rintro e w' ⟨rfl, rfl⟩
        go_wp2_with fail
        refine (numberr_good h _).mono ?_
        rintro e w2 ⟨rfl, hb⟩
        have hA := (hA).below hb; clear kA lA fA; have kA := hA.cell; have lA := hA.lt; have fA := hA.froz
        have hR := (hR).below hb; clear kR lR fR; have kR := hR.cell; have lR := hR.lt; have fR := hR.froz
        have b2 := b_step (b1) hb; clear hb
        go_wp2_with fail
        refine (hF.out _).mono ?_
        rintro e w3 ⟨rfl, hb⟩
        have hA := (hA).below hb; clear kA lA fA; have kA := hA.cell; have lA := hA.lt; have fA := hA.froz
        have hR := (hR).below hb; clear kR lR fR; have kR := hR.cell; have lR := hR.lt; have fR := hR.froz
        have b3 := b_step (b2) hb; clear hb
        go_wp2
        refine bodyPost_ret (v := .tuple #[.agg #[.int .i64 0, .int .i64 0, .int .i64 0], .int .i64 1]) (by simp [results, Tryd.results36, go_sem, kA, kR, lA, lR]) rfl ⟨rfl, ?_⟩
        repeat (first | exact b3 | refine b_alloc ?_ _ | refine b_set ?_ (by simp))
end Go.Proofs.YtolgljionpalkaaDoor
