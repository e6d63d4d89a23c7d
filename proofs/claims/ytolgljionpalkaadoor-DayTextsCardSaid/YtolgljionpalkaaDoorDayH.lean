/- Number, Weekday; the law DayNumbers. -/
import Derived.Test.YtolgljionpalkaaDoorDayG
set_option linter.unusedSimpArgs false
set_option linter.unusedVariables false
namespace Go.Proofs.YtolgljionpalkaaDoor
open Go.RowKit Go.BigFrame
theorem check_good {y m d : Int} (h : Hid (goodB y m d = true)) (w : World) (hT : TabOk w) :
    Calls Tryd.prog 26 #[.agg #[.int .i64 y, .int .i64 m, .int .i64 d]] w fun e w' => e = .returned (.int .i64 0) ∧ Below w.heap.size w w' := by
  have := check_any y m d w hT
  rwa [chk, if_pos h.out] at this
theorem check_bad {y m d : Int} (h : Hid (goodB y m d = false)) (w : World) (hT : TabOk w) :
    Calls Tryd.prog 26 #[.agg #[.int .i64 y, .int .i64 m, .int .i64 d]] w fun e w' => e = .returned (.int .i64 70) ∧ Below w.heap.size w w' := by
  have := check_any y m d w hT
  rwa [chk, if_neg (by rw [h.out]; decide)] at this
/-- number of a right date -/
theorem number_good {y m d : Int} (h : Hid (goodB y m d = true)) (w : World) (hT : TabOk w) :
    Calls Tryd.prog 50 #[.agg #[.int .i64 y, .int .i64 m, .int .i64 d]] w fun e w' => e = .returned (.int .i64 (numI y m d)) ∧ Below w.heap.size w w' := by
  obtain ⟨a1, a2, a3, a4, a5, a6⟩ := (goodB_iff _ _ _).1 h.out
  have := lenF_bd y m
  exact number_any y m d w hT a1 (by omega) a3 a4 (by omega) (by omega)
theorem numberr_good {y m d : Int} (h : Hid (goodB y m d = true)) (w : World) :
    Calls Tryd.prog 27 #[.agg #[.int .i64 y, .int .i64 m, .int .i64 d]] w fun e w' => e = .returned (.int .i64 (numI y m d)) ∧ Below w.heap.size w w' := by
  obtain ⟨a1, a2, a3, a4, a5, a6⟩ := (goodB_iff _ _ _).1 h.out
  have := lenF_bd y m
  exact numberr_any y m d w a1 (by omega) a3 a4 (by omega) (by omega)
set_option maxHeartbeats 400000 in
theorem Number_good {y m d : Int} (h : Hid (goodB y m d = true)) (w : World) (hT : TabOk w) :
    Calls Tryd.prog 21 #[.agg #[.int .i64 y, .int .i64 m, .int .i64 d]] w fun e w' => e = .returned (.tuple #[.int .i64 (numI y m d), .int .i64 0]) ∧ Below w.heap.size w w' := by
  have hA := Blk.new w 29 #[.int .i64 y, .int .i64 m, .int .i64 d]
  have b1 := b_alloc (Below.refl w.heap.size w) (.cells #[.int .i64 y, .int .i64 m, .int .i64 d] 29)
  have hT1 := hT.below b1
  go_enter Tryd.func21, Tryd.ntmps21
  go_wp2_with (first | (go_at_call 26; refine (check_good h _ hT1).mono ?_; rintro e w2 ⟨rfl, hb⟩; have kA := (hA.below hb).cell; have b2 := b_step b1 hb; have hT2 := hT.below b2) | (go_at_call 50; refine (number_good h _ hT2).mono ?_; rintro e w3 ⟨rfl, hb3⟩))
  go_ret2
  exact ⟨rfl, b_step b2 hb3⟩
set_option maxHeartbeats 400000 in
theorem Number_bad {y m d : Int} (h : Hid (goodB y m d = false)) (w : World) (hT : TabOk w) :
    Calls Tryd.prog 21 #[.agg #[.int .i64 y, .int .i64 m, .int .i64 d]] w fun e w' => e = .returned (.tuple #[.int .i64 0, .int .i64 70]) ∧ Below w.heap.size w w' := by
  have b1 := b_alloc (Below.refl w.heap.size w) (.cells #[.int .i64 y, .int .i64 m, .int .i64 d] 29)
  have hT1 := hT.below b1
  go_enter Tryd.func21, Tryd.ntmps21
  go_wp2_with (first | (go_at_call 26; refine (check_bad h _ hT1).mono ?_; rintro e w2 ⟨rfl, hb⟩))
  go_ret2
  exact ⟨rfl, b_step b1 hb⟩
set_option maxHeartbeats 400000 in
theorem Weekday_good {y m d : Int} (h : Hid (goodB y m d = true)) (w : World) (hT : TabOk w) :
    Calls Tryd.prog 22 #[.agg #[.int .i64 y, .int .i64 m, .int .i64 d]] w fun e w' => e = .returned (.tuple #[.int .i64 (wdF (numI y m d)), .int .i64 0]) ∧ Below w.heap.size w w' := by
  have hA := Blk.new w 29 #[.int .i64 y, .int .i64 m, .int .i64 d]
  have b1 := b_alloc (Below.refl w.heap.size w) (.cells #[.int .i64 y, .int .i64 m, .int .i64 d] 29)
  have hT1 := hT.below b1
  have hr := num_rng h.out
  go_enter Tryd.func22, Tryd.ntmps22
  go_wp2_with (first | (go_at_call 26; refine (check_good h _ hT1).mono ?_; rintro e w2 ⟨rfl, hb⟩; have kA := (hA.below hb).cell; have b2 := b_step b1 hb; have hT2 := hT.below b2) | (go_at_call 50; refine (number_good h _ hT2).mono ?_; rintro e w3 ⟨rfl, hb3⟩) | (go_at_call 51; refine (weekday_any _ _ (by omega) (by omega)).mono ?_; rintro e w4 ⟨rfl, rfl⟩))
  go_ret2
  exact ⟨rfl, b_step b2 hb3⟩
set_option maxHeartbeats 400000 in
theorem Weekday_bad {y m d : Int} (h : Hid (goodB y m d = false)) (w : World) (hT : TabOk w) :
    Calls Tryd.prog 22 #[.agg #[.int .i64 y, .int .i64 m, .int .i64 d]] w fun e w' => e = .returned (.tuple #[.int .i64 0, .int .i64 70]) ∧ Below w.heap.size w w' := by
  have b1 := b_alloc (Below.refl w.heap.size w) (.cells #[.int .i64 y, .int .i64 m, .int .i64 d] 29)
  have hT1 := hT.below b1
  go_enter Tryd.func22, Tryd.ntmps22
  go_wp2_with (first | (go_at_call 26; refine (check_bad h _ hT1).mono ?_; rintro e w2 ⟨rfl, hb⟩))
  go_ret2
  exact ⟨rfl, b_step b1 hb⟩
set_option maxHeartbeats 2000000 in
theorem numbers_bad (y m d n : Int) (w : World) (hT : TabOk w) (h : Hid (goodB y m d = false)) :
    Calls Tryd.prog 4 #[.agg #[.int .i64 y, .int .i64 m, .int .i64 d], .int .i64 n] w fun e w' => e = .returned (.bool true) ∧ Below w.heap.size w w' := by
  have nqd := neq_date
  have hF := Lib.hid (fromnumber_any n)
  have hR := Lib.hid (fromnumberr_any n)
  have hA := Blk.new w 29 #[.int .i64 y, .int .i64 m, .int .i64 d]
  have b1 := b_alloc (Below.refl w.heap.size w) (.cells #[.int .i64 y, .int .i64 m, .int .i64 d] 29)
  have hT1 := hT.below b1
  obtain ⟨P, hP⟩ : ∃ P : Int × Int × Int, P = dateOf n := ⟨_, rfl⟩
  rw [← hP] at hF hR
  clear hP
  by_cases hn : 1 ≤ n ∧ n ≤ 3652059
  · rw [if_pos hn] at hF
    rw [decide_eq_true hn] at hR
    clear hn
    go_enter Tryd.func4, Tryd.ntmps4
    go_wp2_with (first | (go_at_call 21; refine (Number_bad h _ hT1).mono ?_; rintro e w2 ⟨rfl, hb⟩; have hA2 := hA.below hb; have kA := hA2.cell; have b2 := b_step b1 hb; have hT2 := hT.below b2) | (go_at_call 22; refine (Weekday_bad h _ hT2).mono ?_; rintro e w3 ⟨rfl, hb⟩; have hA3 := hA2.below hb; clear kA; have kA := hA3.cell; have b3 := b_step b2 hb; have hT3 := hT.below b3) | (go_at_call 23; refine (hF.out _ hT3).mono ?_; rintro e w4 ⟨rfl, hb⟩; have hA4 := hA3.below hb; clear kA; have b4 := b_step b3 hb) | (go_at_call 24; refine (hR.out _).mono ?_; rintro e w5 ⟨rfl, hb⟩; have hA5 := (hA4.alloc _).below hb; have kA := hA5.cell; have hX5 := (Blk.new w4 29 _).below hb; have kX := hX5.cell; have ltX := hX5.lt; have ltA := hA5.lt; have b5 := b_step (b_alloc b4 _) hb) | (go_at_call 25; refine (goodr_is h _).mono ?_; rintro e w6 ⟨rfl, hb⟩; have hA6 := (hA5.alloc _).below hb; clear kA kX; have kA := hA6.cell; have b6 := b_step (b_alloc b5 _) hb; have hT6 := hT.below b6) | (go_at_call 26; refine (check_bad h _ hT6).mono ?_; rintro e w8 ⟨rfl, hb⟩; have b8 := b_step b6 hb))
    go_ret
    exact ⟨rfl, b8⟩
  · rw [if_neg hn] at hF
    rw [decide_eq_false hn] at hR
    clear hn
    go_enter Tryd.func4, Tryd.ntmps4
    go_wp2_with (first | (go_at_call 21; refine (Number_bad h _ hT1).mono ?_; rintro e w2 ⟨rfl, hb⟩; have hA2 := hA.below hb; have kA := hA2.cell; have b2 := b_step b1 hb; have hT2 := hT.below b2) | (go_at_call 22; refine (Weekday_bad h _ hT2).mono ?_; rintro e w3 ⟨rfl, hb⟩; have hA3 := hA2.below hb; clear kA; have kA := hA3.cell; have b3 := b_step b2 hb; have hT3 := hT.below b3) | (go_at_call 23; refine (hF.out _ hT3).mono ?_; rintro e w4 ⟨rfl, hb⟩; have hA4 := hA3.below hb; clear kA; have b4 := b_step b3 hb) | (go_at_call 24; refine (hR.out _).mono ?_; rintro e w5 ⟨rfl, hb⟩; have hA5 := (hA4.alloc _).below hb; have kA := hA5.cell; have hX5 := (Blk.new w4 29 _).below hb; have kX := hX5.cell; have ltX := hX5.lt; have ltA := hA5.lt; have b5 := b_step (b_alloc b4 _) hb) | (go_at_call 25; refine (goodr_is h _).mono ?_; rintro e w6 ⟨rfl, hb⟩; have hA6 := (hA5.alloc _).below hb; clear kA kX; have kA := hA6.cell; have b6 := b_step (b_alloc b5 _) hb; have hT6 := hT.below b6) | (go_at_call 26; refine (check_bad h _ hT6).mono ?_; rintro e w8 ⟨rfl, hb⟩; have b8 := b_step b6 hb))
    go_ret
    exact ⟨rfl, b8⟩
set_option maxHeartbeats 2000000 in
theorem numbers_good (y m d n : Int) (w : World) (hT : TabOk w) (h : Hid (goodB y m d = true)) :
    Calls Tryd.prog 4 #[.agg #[.int .i64 y, .int .i64 m, .int .i64 d], .int .i64 n] w fun e w' => e = .returned (.bool true) ∧ Below w.heap.size w w' := by
  have nqd := neq_date
  have hF := Lib.hid (fromnumber_any n)
  have hR := Lib.hid (fromnumberr_any n)
  have hA := Blk.new w 29 #[.int .i64 y, .int .i64 m, .int .i64 d]
  have b1 := b_alloc (Below.refl w.heap.size w) (.cells #[.int .i64 y, .int .i64 m, .int .i64 d] 29)
  have hT1 := hT.below b1
  have hr := num_rng h.out
  obtain ⟨P, hP⟩ : ∃ P : Int × Int × Int, P = dateOf n := ⟨_, rfl⟩
  rw [← hP] at hF hR
  clear hP
  by_cases hn : 1 ≤ n ∧ n ≤ 3652059
  · rw [if_pos hn] at hF
    rw [decide_eq_true hn] at hR
    clear hn
    go_enter Tryd.func4, Tryd.ntmps4
    go_wp2_with (first | (go_at_call 21; refine (Number_good h _ hT1).mono ?_; rintro e w2 ⟨rfl, hb⟩; have hA2 := hA.below hb; have kA := hA2.cell; have b2 := b_step b1 hb; have hT2 := hT.below b2) | (go_at_call 22; refine (Weekday_good h _ hT2).mono ?_; rintro e w3 ⟨rfl, hb⟩; have hA3 := hA2.below hb; clear kA; have kA := hA3.cell; have b3 := b_step b2 hb; have hT3 := hT.below b3) | (go_at_call 23; refine (hF.out _ hT3).mono ?_; rintro e w4 ⟨rfl, hb⟩; have hA4 := hA3.below hb; clear kA; have b4 := b_step b3 hb) | (go_at_call 24; refine (hR.out _).mono ?_; rintro e w5 ⟨rfl, hb⟩; have hA5 := (hA4.alloc _).below hb; have kA := hA5.cell; have hX5 := (Blk.new w4 29 _).below hb; have kX := hX5.cell; have ltX := hX5.lt; have ltA := hA5.lt; have b5 := b_step (b_alloc b4 _) hb) | (go_at_call 25; refine (goodr_is h _).mono ?_; rintro e w6 ⟨rfl, hb⟩; have hA6 := (hA5.alloc _).below hb; clear kA kX; have kA := hA6.cell; have b6 := b_step (b_alloc b5 _) hb; have hT6 := hT.below b6) | (go_at_call 26; refine (check_good h _ hT7).mono ?_; rintro e w8 ⟨rfl, hb⟩; have b8 := b_step b7 hb) | (go_at_call 27; refine (numberr_good h _).mono ?_; rintro e w7 ⟨rfl, hb⟩; have hA7 := hA6.below hb; clear kA; have kA := hA7.cell; have b7 := b_step b6 hb; have hT7 := hT.below b7) | (go_at_call 28; refine (weekdayr_any _ _ (by omega) (by omega)).mono ?_; rintro e w9 ⟨rfl, rfl⟩))
    go_ret
    exact ⟨rfl, b8⟩
  · rw [if_neg hn] at hF
    rw [decide_eq_false hn] at hR
    clear hn
    go_enter Tryd.func4, Tryd.ntmps4
    go_wp2_with (first | (go_at_call 21; refine (Number_good h _ hT1).mono ?_; rintro e w2 ⟨rfl, hb⟩; have hA2 := hA.below hb; have kA := hA2.cell; have b2 := b_step b1 hb; have hT2 := hT.below b2) | (go_at_call 22; refine (Weekday_good h _ hT2).mono ?_; rintro e w3 ⟨rfl, hb⟩; have hA3 := hA2.below hb; clear kA; have kA := hA3.cell; have b3 := b_step b2 hb; have hT3 := hT.below b3) | (go_at_call 23; refine (hF.out _ hT3).mono ?_; rintro e w4 ⟨rfl, hb⟩; have hA4 := hA3.below hb; clear kA; have b4 := b_step b3 hb) | (go_at_call 24; refine (hR.out _).mono ?_; rintro e w5 ⟨rfl, hb⟩; have hA5 := (hA4.alloc _).below hb; have kA := hA5.cell; have hX5 := (Blk.new w4 29 _).below hb; have kX := hX5.cell; have ltX := hX5.lt; have ltA := hA5.lt; have b5 := b_step (b_alloc b4 _) hb) | (go_at_call 25; refine (goodr_is h _).mono ?_; rintro e w6 ⟨rfl, hb⟩; have hA6 := (hA5.alloc _).below hb; clear kA kX; have kA := hA6.cell; have b6 := b_step (b_alloc b5 _) hb; have hT6 := hT.below b6) | (go_at_call 26; refine (check_good h _ hT7).mono ?_; rintro e w8 ⟨rfl, hb⟩; have b8 := b_step b7 hb) | (go_at_call 27; refine (numberr_good h _).mono ?_; rintro e w7 ⟨rfl, hb⟩; have hA7 := hA6.below hb; clear kA; have kA := hA7.cell; have b7 := b_step b6 hb; have hT7 := hT.below b7) | (go_at_call 28; refine (weekdayr_any _ _ (by omega) (by omega)).mono ?_; rintro e w9 ⟨rfl, rfl⟩))
    go_ret
    exact ⟨rfl, b8⟩
theorem dayNumbers_law (y m d n : Int) (w : World) (hT : TabOk w) (_ : (Lit.int .i64 y).wf = true ∧ (Lit.int .i64 m).wf = true ∧ (Lit.int .i64 d).wf = true) (_ : (Lit.int .i64 n).wf = true) :
    Calls Tryd.prog 4 #[.agg #[.int .i64 y, .int .i64 m, .int .i64 d], .int .i64 n] w fun e w' => e = .returned (.bool true) ∧ Below w.heap.size w w' := by
  cases h : goodB y m d with
  | true => exact numbers_good y m d n w hT (Lib.hid h)
  | false => exact numbers_bad y m d n w hT (Lib.hid h)
end Go.Proofs.YtolgljionpalkaaDoor
