/- FromNumber: the program's and the document's. -/
import Derived.Test.YtolgljionpalkaaDoorDayR
set_option linter.unusedSimpArgs false
set_option linter.unusedVariables false
namespace Go.Proofs.YtolgljionpalkaaDoor
open Go.RowKit Go.BigFrame
theorem fromnumber_no (n : Int) (w : World) (h : n < 1 ∨ 3652059 < n) :
    Calls Tryd.prog 23 #[.int .i64 n] w fun e w' => e = .returned (.tuple #[.agg #[.int .i64 0, .int .i64 0, .int .i64 0], .int .i64 1]) ∧ Below w.heap.size w w' := by
  by_cases h1 : n < 1
  · have c1 : decide (n < 1) = true := by simpa using h1
    clear h h1
    go_enter Tryd.func23, Tryd.ntmps23
    go_wp2
    exact bodyPost_ret (v := .tuple #[.agg #[.int .i64 0, .int .i64 0, .int .i64 0], .int .i64 1]) (by simp [results, Tryd.results23, go_sem]) rfl ⟨rfl, b_alloc (Below.refl _ _) _⟩
  · have c1 : decide (n < 1) = false := by simpa using h1
    have c2 : decide (3652059 < n) = true := by simp; omega
    clear h h1
    go_enter Tryd.func23, Tryd.ntmps23
    go_wp2
    exact bodyPost_ret (v := .tuple #[.agg #[.int .i64 0, .int .i64 0, .int .i64 0], .int .i64 1]) (by simp [results, Tryd.results23, go_sem]) rfl ⟨rfl, b_alloc (Below.refl _ _) _⟩
theorem num_jan (y d : Int) : numI y 1 d = yb y + d := by unfold numI; rw [cumI_one]; omega
theorem guess (n : Int) (h1 : 1 ≤ n) (h2 : n ≤ 3652059) (g : Int) (hg : g = n / 365 + 1 ∨ g = 9999) (hg2 : g = 9999 → 9999 ≤ n / 365 + 1) (hg3 : g ≤ 9999) : 1 ≤ g ∧ g ≤ 9999 ∧ n ≤ yb (g + 1) := by
  have : 365 * g ≤ yb (g + 1) ∨ g < 0 := by
    by_cases h : g < 0
    · exact .inr h
    · left; unfold yb; omega
  have e : yb 10000 = 3652059 := by decide
  rcases hg with rfl | rfl
  · omega
  · refine ⟨by omega, by omega, ?_⟩
    show n ≤ yb 10000
    omega
set_option maxHeartbeats 2000000 in
theorem fromnumber_yes (n : Int) (w : World) (hT : TabOk w) (h1 : 1 ≤ n) (h2 : n ≤ 3652059) :
    Calls Tryd.prog 23 #[.int .i64 n] w fun e w' => e = .returned (.tuple #[.agg #[.int .i64 (dateOf n).1, .int .i64 (dateOf n).2.1, .int .i64 (dateOf n).2.2], .int .i64 0]) ∧ Below w.heap.size w w' := by
  obtain ⟨P, hP⟩ : ∃ P : Int × Int × Int, P = dateOf n := ⟨_, rfl⟩
  rw [← hP]
  have HP := Lib.hid hP
  clear hP
  have c1 : decide (n < 1) = false := by simp; omega
  have c2 : decide (3652059 < n) = false := by simp; omega
  go_enter Tryd.func23, Tryd.ntmps23
  go_wp2
  all_goals
    have hg := guess n h1 h2
    go_loopg [] 9999 (fun k wr => ∃ y : Int, 1 ≤ y ∧ y ≤ 9999 ∧ y ≤ k ∧ n ≤ yb (y + 1) ∧ Blk wr (w.heap.size + 1) #[.int .i64 y, .int .i64 1, .int .i64 1] ∧ Blk wr w.heap.size #[.int .i64 0, .int .i64 0, .int .i64 0] ∧ Below w.heap.size w wr)
    case atStart =>
      first
        | exact ⟨n / 365 + 1, by omega, by omega, by omega, (hg (n / 365 + 1) (.inl rfl) (by omega) (by omega)).2.2, Blk.new_at (by simp) _ _, (Blk.new _ _ _).alloc _, b_alloc (b_alloc (Below.refl _ _) _) _⟩
        | exact ⟨9999, by omega, by omega, by omega, (hg 9999 (.inr rfl) (by omega) (by omega)).2.2, Blk.new_at (by simp) _ _, (Blk.new _ _ _).alloc _, b_alloc (b_alloc (Below.refl _ _) _) _⟩
    case round =>
      clear hg
      obtain ⟨y, hy1, hy2, hyk, hny, hA, hB, br⟩ := hrel
      have hTr := hT.below br
      have HJ := Lib.hid (num_jan y 1)
      have kA := hA.cell
      by_cases hc : n < yb y + 1
      · have c3 : decide (n < numI y 1 1) = true := by rw [HJ.out]; simpa using hc
        have hyb := yb_bd y hy1 (by omega)
        have hy3 : 1 < y := by
          by_cases h : 1 < y
          · exact h
          · obtain rfl : y = 1 := by omega
            have : yb 1 = 0 := by decide
            omega
        go_wp2_with (first | (go_at_call 50; refine (number_any _ _ _ _ hTr (by omega) (by omega) (by omega) (by omega) (by omega) (by omega)).mono ?_; rintro e w2 ⟨rfl, hb⟩; have kA2 := (hA.below hb).cell; have fA2 := (hA.below hb).froz))
        go_roundg (gk - 1)
        case measure => omega
        case rel => exact ⟨y - 1, by omega, by omega, by omega, by rw [show y - 1 + 1 = y by omega]; omega, (hA.below hb).set 0 _, (hB.below hb).far (by simp) _, b_set (b_step br hb) (by simp)⟩
      · have c3 : decide (n < numI y 1 1) = false := by rw [HJ.out]; simpa using hc
        go_wp2_with (first | (go_at_call 50; refine (number_any _ _ _ _ hTr (by omega) (by omega) (by omega) (by omega) (by omega) (by omega)).mono ?_; rintro e w2 ⟨rfl, hb⟩))
        have b2 := b_step br hb
        have hA2 := hA.below hb
        have hB2 := hB.below hb
        have hT2 := hT.below b2
        clear kA hA hB hTr br hb c3
        have hyb := yb_bd y hy1 (by omega)
        have hnb : 0 ≤ numI y 1 1 ∧ numI y 1 1 ≤ 40000001 := by rw [HJ.out]; omega
        have kA := hA2.lcell
        refine wp_later 7 (by kernel_rfl) (by kernel_rfl) ?_
        simp only [List.take_succ_cons, List.take_zero, List.drop_succ_cons, List.drop_zero]
        repeat (go_big_quiet_step (first | (go_at_call 50; exact later_call (number_any _ _ _ _ (hT2.later _) (by omega) (by omega) (by omega) (by omega) (by omega) (by omega)))))
        refine wpQuiet_nil ?_
        rintro ⟨w3, hb3⟩
        change wpList _ _ _ _ _ w3
        clear kA
        have b3 := b_step b2 hb3
        have hA3 := hA2.below hb3
        have hB3 := hB2.below hb3
        clear hA2 hB2 hT2 hb3 b2
        have kA := hA3.cell
        have fA := hA3.froz
        go_wp2
        have e0 : (1 : Int) + (n - numI y 1 1) = n - yb y := by rw [HJ.out]; omega
        have hA4 := hA3.set 2 (.int .i64 (1 + (n - numI y 1 1)))
        have hB4 := hB3.far (p := ⟨w.heap.size + 1, 2, none⟩) (by simp) (.int .i64 (1 + (n - numI y 1 1)))
        have b4 := b_set (p := ⟨w.heap.size + 1, 2, none⟩) (v := .int .i64 (1 + (n - numI y 1 1))) b3 (by simp)
        rw [e0] at hA4 hB4 b4
        have E0 := Lib.hid e0
        clear e0 hA3 hB3 b3 kA fA hnb
        go_loopg [] 12 (fun k wr => ∃ m d : Int, 1 ≤ m ∧ m ≤ 12 ∧ 1 ≤ d ∧ d ≤ 400 ∧ 12 - m ≤ k ∧ Hid (n = numI y m d) ∧ Blk wr (w.heap.size + 1) #[.int .i64 y, .int .i64 m, .int .i64 d] ∧ Blk wr w.heap.size #[.int .i64 0, .int .i64 0, .int .i64 0] ∧ Below w.heap.size w wr)
        case atStart =>
          have hs := yb_succ y hy1
          have hz := sizeF_bd y
          exact ⟨1, n - yb y, by omega, by omega, by omega, by omega, by omega, Lib.hid (by rw [num_jan]; omega), by rw [E0.out]; exact hA4, by rw [E0.out]; exact hB4, by rw [E0.out]; exact b4⟩
        case round =>
          clear hA4 hB4 b4 E0 HJ
          obtain ⟨m, d, hm1, hm2, hd1, hd2, hmk, HN, hA, hB, br⟩ := hrel
          have hTr := hT.below br
          have kA := hA.lcell
          have hlb := lenF_bd y m
          by_cases hc : lenF y m < d
          · have c3 : decide (lenF y m < d) = true := by simpa using hc
            have hm3 : m < 12 := by
              by_cases h : m < 12
              · exact h
              · exfalso
                obtain rfl : m = 12 := by omega
                have hs := yb_succ y hy1
                have h13 := cumI_13 y
                have h12 := cumI_succ y 12 (by omega)
                have hn := HN.out
                have h13' : cumI y (12 + 1) = cumI y 13 := rfl
                unfold numI at hn
                omega
            go_wp2_with fail
            refine wp_later 8 (by kernel_rfl) (by kernel_rfl) ?_
            simp only [List.take_succ_cons, List.take_zero, List.drop_succ_cons, List.drop_zero, List.take_nil, List.drop_nil]
            repeat (go_big_quiet_step (first | (go_at_call 49; exact later_same (length_any _ _ _ (hTr.later _) (by omega) (by omega)))))
            refine wpQuiet_nil ?_
            rintro ⟨w3, hb3⟩
            change wpList _ _ _ _ _ w3
            clear kA
            have b3 := b_step br hb3
            have hA3 := hA.below hb3
            have hB3 := hB.below hb3
            have hT3 := hT.below b3
            clear hA hB hTr br hb3
            have kA := hA3.lcell
            go_wp2_with fail
            refine wp_later 8 (by kernel_rfl) (by kernel_rfl) ?_
            simp only [List.take_succ_cons, List.take_zero, List.drop_succ_cons, List.drop_zero, List.take_nil, List.drop_nil]
            repeat (go_big_quiet_step (first | (go_at_call 49; exact later_same (length_any _ _ _ (hT3.later _) (by omega) (by omega)))))
            refine wpQuiet_nil ?_
            rintro ⟨w4, hb4⟩
            change wpList _ _ _ _ _ w4
            clear kA
            have b4 := b_step b3 hb4
            have hA4 := hA3.below hb4
            have hB4 := hB3.below hb4
            clear hA3 hB3 hT3 b3 hb4
            have kA := hA4.cell
            have fA := hA4.froz
            have HC := Lib.hid (cumI_succ y m hm1)
            go_wp2
            go_roundg (gk - 1)
            case measure => omega
            case rel => exact ⟨m + 1, d - lenF y m, by omega, by omega, by omega, by omega, by omega, Lib.hid (by have := HN.out; have := HC.out; unfold numI at *; omega), (hA4.set 2 _).set 1 _, (hB4.far (by simp) _).far (by simp) _, b_set (b_set b4 (by simp)) (by simp)⟩
          · have c3 : decide (lenF y m < d) = false := by simpa using hc
            go_wp2_with fail
            refine wp_later 8 (by kernel_rfl) (by kernel_rfl) ?_
            simp only [List.take_succ_cons, List.take_zero, List.drop_succ_cons, List.drop_zero, List.take_nil, List.drop_nil]
            repeat (go_big_quiet_step (first | (go_at_call 49; exact later_same (length_any _ _ _ (hTr.later _) (by omega) (by omega)))))
            refine wpQuiet_nil ?_
            rintro ⟨w3, hb3⟩
            change wpList _ _ _ _ _ w3
            clear kA
            have b3 := b_step br hb3
            have kA := (hA.below hb3).cell
            have fA := (hA.below hb3).froz
            have kB := (hB.below hb3).cell
            have fB := (hB.below hb3).froz
            have HG : Hid (P = (y, m, d)) := Lib.hid (HP.out.trans (dateOf_eq ((goodB_iff _ _ _).2 ⟨hy1, hy2, hm1, hm2, hd1, by omega⟩) HN.out.symm))
            clear hA hB hTr br hb3
            go_wp2
            refine bodyPost_ret (v := .tuple #[.agg #[.int .i64 y, .int .i64 m, .int .i64 d], .int .i64 0]) (by simp [results, Tryd.results23, go_sem, kA, fA, kB, fB]) rfl ⟨by rw [HG.out], ?_⟩
            exact b_set (b_set (b_set b3 (by simp)) (by simp)) (by simp)
theorem fromnumber_any (n : Int) (w : World) (hT : TabOk w) :
    Calls Tryd.prog 23 #[.int .i64 n] w fun e w' => e = .returned (.tuple #[.agg #[.int .i64 (dateOf n).1, .int .i64 (dateOf n).2.1, .int .i64 (dateOf n).2.2], .int .i64 (if 1 ≤ n ∧ n ≤ 3652059 then 0 else 1)]) ∧ Below w.heap.size w w' := by
  by_cases h : 1 ≤ n ∧ n ≤ 3652059
  · rw [if_pos h]; exact fromnumber_yes n w hT h.1 h.2
  · rw [if_neg h, dateOf_none (by omega)]; exact fromnumber_no n w (by omega)
end Go.Proofs.YtolgljionpalkaaDoor
