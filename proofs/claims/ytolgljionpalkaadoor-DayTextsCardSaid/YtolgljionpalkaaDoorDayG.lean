/- FromNumber of the document. -/
import Derived.Test.YtolgljionpalkaaDoorDayF
set_option linter.unusedSimpArgs false
set_option linter.unusedVariables false
namespace Go.Proofs.YtolgljionpalkaaDoor
open Go.RowKit Go.BigFrame
theorem numberr_last (w : World) : Calls Tryd.prog 27 #[.agg #[.int .i64 9999, .int .i64 12, .int .i64 31]] w fun e w' => e = .returned (.int .i64 3652059) ∧ Below w.heap.size w w' := by
  rw [← num_last]; exact numberr_any 9999 12 31 w (by omega) (by omega) (by omega) (by omega) (by omega) (by omega)
theorem fromnumberr_no (n : Int) (w : World) (h : n < 1 ∨ 3652059 < n) :
    Calls Tryd.prog 24 #[.int .i64 n] w fun e w' => e = .returned (.tuple #[.agg #[.int .i64 0, .int .i64 0, .int .i64 0], .bool false]) ∧ Below w.heap.size w w' := by
  by_cases h1 : n < 1
  · have c1 : decide (n < 1) = true := by simpa using h1
    clear h h1
    go_enter Tryd.func24, Tryd.ntmps24
    go_wp2
    exact bodyPost_ret (v := .tuple #[.agg #[.int .i64 0, .int .i64 0, .int .i64 0], .bool false]) (by simp [results, Tryd.results24, go_sem]) rfl ⟨rfl, b_alloc (Below.refl _ _) _⟩
  · have c1 : decide (n < 1) = false := by simpa using h1
    have c2 : decide (3652059 < n) = true := by simp; omega
    clear h h1
    go_enter Tryd.func24, Tryd.ntmps24
    go_wp2_with (first | (go_at_call 27; refine (numberr_last _).mono ?_; rintro e w2 ⟨rfl, hb⟩; have hB := (Blk.new w 29 #[.int .i64 0, .int .i64 0, .int .i64 0]).below hb; have kB := hB.cell; have fB := hB.froz))
    refine bodyPost_ret (v := .tuple #[.agg #[.int .i64 0, .int .i64 0, .int .i64 0], .bool false]) (by simp [results, Tryd.results24, go_sem, kB, fB]) rfl ⟨rfl, ?_⟩
    repeat (first | exact b_step (b_alloc (Below.refl _ _) _) hb | refine b_set ?_ (by simp))
theorem guessr (n : Int) (h1 : 1 ≤ n) (h2 : n ≤ 3652059) (g : Int) (hg : g = n / 366 ∨ g = 1) (hg3 : 1 ≤ g) : 1 ≤ g ∧ g ≤ 9999 ∧ yb g < n := by
  have e : yb 1 = 0 := by decide
  rcases hg with rfl | rfl
  · refine ⟨hg3, by omega, ?_⟩
    unfold yb; omega
  · omega
set_option maxHeartbeats 2000000 in
theorem fromnumberr_yes (n : Int) (w : World) (h1 : 1 ≤ n) (h2 : n ≤ 3652059) :
    Calls Tryd.prog 24 #[.int .i64 n] w fun e w' => e = .returned (.tuple #[.agg #[.int .i64 (dateOf n).1, .int .i64 (dateOf n).2.1, .int .i64 (dateOf n).2.2], .bool true]) ∧ Below w.heap.size w w' := by
  obtain ⟨P, hP⟩ : ∃ P : Int × Int × Int, P = dateOf n := ⟨_, rfl⟩
  rw [← hP]
  have HP := Lib.hid hP
  clear hP
  have c1 : decide (n < 1) = false := by simp; omega
  have c2 : decide (3652059 < n) = false := by simp; omega
  go_enter Tryd.func24, Tryd.ntmps24
  go_wp2_with (first | (go_at_call 27; refine (numberr_last _).mono ?_; rintro e w2 ⟨rfl, hb⟩; have hB := (Blk.new w 29 #[.int .i64 0, .int .i64 0, .int .i64 0]).below hb; have b2 := b_step (b_alloc (Below.refl w.heap.size w) _) hb; have hgt : w.heap.size < w2.heap.size := hB.lt; clear hb))
  all_goals
    have hg := guessr n h1 h2
    go_loopg [] 9999 (fun k wr => ∃ y : Int, 1 ≤ y ∧ y ≤ 9999 ∧ 9999 - y ≤ k ∧ yb y < n ∧ Blk wr w2.heap.size #[.int .i64 y, .int .i64 1, .int .i64 1] ∧ Blk wr w.heap.size #[.int .i64 0, .int .i64 0, .int .i64 0] ∧ Below w.heap.size w wr)
    case atStart =>
      first
        | exact ⟨n / 366, by omega, by omega, by omega, (hg (n / 366) (.inl rfl) (by omega)).2.2, Blk.new _ _ _, hB.alloc _, b_alloc b2 _⟩
        | exact ⟨1, by omega, by omega, by omega, (hg 1 (.inr rfl) (by omega)).2.2, Blk.new _ _ _, hB.alloc _, b_alloc b2 _⟩
    case round =>
      clear hg hB b2
      obtain ⟨y, hy1, hy2, hyk, hny, hA, hB, br⟩ := hrel
      have kA := hA.cell
      have fA := hA.froz
      have hne : w.heap.size ≠ w2.heap.size := by omega
      by_cases hc : yb (y + 1) < n
      · have c3 : decide (yb (y + 1) < n) = true := by simpa using hc
        have hy3 : y < 9999 := by
          by_cases h : y < 9999
          · exact h
          · exfalso
            obtain rfl : y = 9999 := by omega
            have e : yb (9999 + 1) = 3652059 := by decide
            omega
        go_wp2_with (first | (go_at_call 52; refine (aheadr_any _ _ (by omega) (by omega)).mono ?_; rintro e w3 ⟨rfl, rfl⟩))
        go_roundg (gk - 1)
        case measure => omega
        case rel => exact ⟨y + 1, by omega, by omega, by omega, by omega, hA.set 0 _, hB.far (by simpa using hne) _, b_set br (by simp; omega)⟩
      · have c3 : decide (yb (y + 1) < n) = false := by simpa using hc
        have hyb := yb_bd y hy1 (by omega)
        go_wp2_with (first | (go_at_call 52; refine (aheadr_any _ _ (by omega) (by omega)).mono ?_; rintro e w3 ⟨rfl, rfl⟩))
        clear kA fA c3
        go_loopg [0] 12 (fun k nn wr => ∃ m d : Int, 1 ≤ m ∧ m ≤ 12 ∧ 1 ≤ d ∧ d ≤ 400 ∧ 12 - m ≤ k ∧ nn = .int .i64 d ∧ Hid (n = numI y m d) ∧ Blk wr w2.heap.size #[.int .i64 y, .int .i64 m, .int .i64 1] ∧ Blk wr w.heap.size #[.int .i64 0, .int .i64 0, .int .i64 0] ∧ Below w.heap.size w wr)
        case atStart =>
          have hs := yb_succ y hy1
          have hz := sizeF_bd y
          exact ⟨1, n - yb y, by omega, by omega, by omega, by omega, by omega, rfl, Lib.hid (by unfold numI; rw [cumI_one]; omega), hA, hB, br⟩
        case round =>
          clear hA hB br
          obtain ⟨m, d, hm1, hm2, hd1, hd2, hmk, rfl, HN, hA, hB, br⟩ := hrel
          have kA := hA.cell
          have fA := hA.froz
          have hlb := lenF_bd y m
          by_cases hc : lenF y m < d
          · have c3 : decide (lenF y m < d) = true := by simpa using hc
            have hm3 : m < 12 := by
              by_cases h : m < 12
              · exact h
              · exfalso
                obtain rfl : m = 12 := by omega
                have hs := yb_succ y hy1
                have h13 := cumI_13 y
                have h12 := cumI_succ y 12 (by omega)
                have hn := HN.out
                have h13' : cumI y (12 + 1) = cumI y 13 := rfl
                unfold numI at hn
                omega
            have HC := Lib.hid (cumI_succ y m hm1)
            go_wp2_with (first | (go_at_call 20; refine (lengthr_any _ _ _ (by omega) (by omega)).mono ?_; rintro e w3 ⟨rfl, rfl⟩))
            go_roundg (gk - 1)
            case measure => omega
            case rel => exact ⟨m + 1, d - lenF y m, by omega, by omega, by omega, by omega, by omega, rfl, Lib.hid (by have := HN.out; have := HC.out; unfold numI at *; omega), hA.set 1 _, hB.far (by simpa using hne) _, b_set br (by simp; omega)⟩
          · have c3 : decide (lenF y m < d) = false := by simpa using hc
            have kB := hB.cell
            have fB := hB.froz
            have HG : Hid (P = (y, m, d)) := Lib.hid (HP.out.trans (dateOf_eq ((goodB_iff _ _ _).2 ⟨hy1, hy2, hm1, hm2, hd1, by omega⟩) HN.out.symm))
            go_wp2_with (first | (go_at_call 20; refine (lengthr_any _ _ _ (by omega) (by omega)).mono ?_; rintro e w3 ⟨rfl, rfl⟩))
            refine bodyPost_ret (v := .tuple #[.agg #[.int .i64 y, .int .i64 m, .int .i64 d], .bool true]) (by simp [results, Tryd.results24, go_sem, kA, fA, kB, fB]) rfl ⟨by rw [HG.out], ?_⟩
            exact b_set (b_set (b_set (b_set br (by simp; omega)) (by simp)) (by simp)) (by simp)
theorem fromnumberr_any (n : Int) (w : World) :
    Calls Tryd.prog 24 #[.int .i64 n] w fun e w' => e = .returned (.tuple #[.agg #[.int .i64 (dateOf n).1, .int .i64 (dateOf n).2.1, .int .i64 (dateOf n).2.2], .bool (decide (1 ≤ n ∧ n ≤ 3652059))]) ∧ Below w.heap.size w w' := by
  by_cases h : 1 ≤ n ∧ n ≤ 3652059
  · rw [decide_eq_true h]; exact fromnumberr_yes n w h.1 h.2
  · rw [decide_eq_false h, dateOf_none (by omega)]; exact fromnumberr_no n w (by omega)
end Go.Proofs.YtolgljionpalkaaDoor
