/- The document's calendar (tontineref07): size, ahead, Number, Good, Weekday. -/
import Derived.Test.YtolgljionpalkaaDoorDayM
import Derived.Test.YtolgljionpalkaaDoorDayC
set_option linter.unusedSimpArgs false
set_option linter.unusedVariables false
namespace Go.Proofs.YtolgljionpalkaaDoor
open Go.RowKit Go.BigFrame
theorem sizer_any (y : Int) (w : World) : Calls Tryd.prog 64 #[.int .i64 y] w fun e w' => e = .returned (.int .i64 (sizeF y)) ∧ w = w' := by
  cases hl : leapB y with
  | true =>
    have e : sizeF y = 366 := by simp [sizeF, hl]
    rw [e]; clear e
    have H := Lib.hid hl; clear hl
    go_enter Tryd.func64, Tryd.ntmps64
    go_wp2_with (go_at_call 18; refine (leapr_is H _).mono ?_; rintro e w' ⟨rfl, rfl⟩)
    go_ret
    exact ⟨rfl, rfl⟩
  | false =>
    have e : sizeF y = 365 := by simp [sizeF, hl]
    rw [e]; clear e
    have H := Lib.hid hl; clear hl
    go_enter Tryd.func64, Tryd.ntmps64
    go_wp2_with (go_at_call 18; refine (leapr_is H _).mono ?_; rintro e w' ⟨rfl, rfl⟩)
    go_ret
    exact ⟨rfl, rfl⟩
theorem yb_400 (y : Int) (h : 1 ≤ y) : yb ((y - 1) / 400 * 400 + 1) = (y - 1) / 400 * 146097 := by unfold yb; omega
set_option maxHeartbeats 400000 in
theorem aheadr_any (y : Int) (w : World) (h1 : 1 ≤ y) (h2 : y ≤ 100000) : Calls Tryd.prog 52 #[.int .i64 y] w fun e w' => e = .returned (.int .i64 (yb y)) ∧ w = w' := by
  have H4 := Lib.hid (yb_400 y h1)
  go_enter Tryd.func52, Tryd.ntmps52
  go_wp2
  go_loop [3, 4] (fun t i => ∃ k : Int, 1 ≤ k ∧ k ≤ y ∧ i = .int .i64 k ∧ t = .int .i64 (yb k)) (fun _ i => (y - intOf i).toNat)
  case atStart => exact ⟨(y - 1) / 400 * 400 + 1, by omega, by omega, rfl, by rw [H4.out]⟩
  case round =>
    obtain ⟨k, hk1, hk2, rfl, rfl⟩ := hrel
    have hyb := yb_bd k hk1 (by omega)
    have hsz := sizeF_bd k
    have HS := Lib.hid (yb_succ k hk1)
    by_cases hlt : k < y
    · go_wp2_with (go_at_call 64; refine (sizer_any _ _).mono ?_; rintro e w' ⟨rfl, rfl⟩)
      go_round
      case rel => exact ⟨k + 1, by omega, by omega, rfl, by rw [HS.out]⟩
      case measure => simp [intOf]; omega
    · have H : Hid (yb y = yb k) := Lib.hid (by rw [show k = y by omega])
      go_wp2
      go_ret
      exact ⟨by rw [H.out]; rfl, rfl⟩
set_option maxHeartbeats 400000 in
theorem numberr_any (y m d : Int) (w : World) (hy1 : 1 ≤ y) (hy2 : y ≤ 100000) (h1 : 1 ≤ m) (h2 : m ≤ 12) (hd1 : -1000 ≤ d) (hd2 : d ≤ 1000000000) :
    Calls Tryd.prog 27 #[.agg #[.int .i64 y, .int .i64 m, .int .i64 d]] w fun e w' => e = .returned (.int .i64 (numI y m d)) ∧ Below w.heap.size w w' := by
  have hyb := yb_bd y hy1 hy2
  go_enter Tryd.func27, Tryd.ntmps27
  go_wp2_with fail
  go_quiet (first | (go_at_call 52; exact quiet_left (aheadr_any _ _ hy1 hy2)))
  go_wp2
  go_loop [3, 4] (fun t i => ∃ k : Int, 1 ≤ k ∧ k ≤ m ∧ i = .int .i64 k ∧ t = .int .i64 (yb y + d + cumI y k)) (fun _ i => (m - intOf i).toNat)
  case atStart => exact ⟨1, by omega, by omega, rfl, by rw [cumI_one]; go_num⟩
  case round =>
    obtain ⟨k, hk1, hk2, rfl, rfl⟩ := hrel
    have hcb := cumI_bd y k hk1 (by omega)
    have hlb := lenF_bd y k
    have HS := Lib.hid (cumI_succ y k hk1)
    by_cases hlt : k < m
    · go_wp2_with (go_at_call 20; refine (lengthr_any _ _ _ (by omega) (by omega)).mono ?_; rintro e w' ⟨rfl, rfl⟩)
      go_round
      case rel => exact ⟨k + 1, by omega, by omega, rfl, by rw [HS.out]; go_num⟩
      case measure => simp [intOf]; omega
    · have H : Hid (numI y m d = yb y + d + cumI y k) := Lib.hid (by obtain rfl : k = m := by omega
                                                                     rfl)
      go_wp2
      go_ret
      exact ⟨by rw [H.out]; rfl, b_drewN (b_alloc (Below.refl _ _) _) _⟩
set_option maxHeartbeats 1000000 in
theorem goodr_any (y m d : Int) (w : World) :
    Calls Tryd.prog 25 #[.agg #[.int .i64 y, .int .i64 m, .int .i64 d]] w fun e w' => e = .returned (.bool (goodB y m d)) ∧ Below w.heap.size w w' := by
  by_cases h1 : 1 ≤ y
  · have c1 : decide (1 ≤ y) = true := by simpa using h1
    by_cases h2 : y ≤ 9999
    · have c2 : decide (y ≤ 9999) = true := by simpa using h2
      by_cases h3 : 1 ≤ m
      · have c3 : decide (1 ≤ m) = true := by simpa using h3
        by_cases h4 : m ≤ 12
        · have c4 : decide (m ≤ 12) = true := by simpa using h4
          by_cases h5 : 1 ≤ d
          · have c5 : decide (1 ≤ d) = true := by simpa using h5
            have E := Lib.hid (show goodB y m d = decide (d ≤ lenF y m) by simp [goodB, knownB, h1, h2, h3, h4, h5])
            have g3 := Lib.hid h3
            have g4 := Lib.hid h4
            clear h1 h2 h3 h4 h5
            go_enter Tryd.func25, Tryd.ntmps25
            go_wp2_with fail
            go_quiet (first | (go_at_call 20; exact quiet_left (lengthr_any _ _ _ g3.out g4.out)))
            go_wp2
            go_ret
            exact ⟨by rw [E.out]; rfl, b_drewN (b_alloc (Below.refl _ _) _) _⟩
          · have c5 : decide (1 ≤ d) = false := by simpa using h5
            have E := Lib.hid (show goodB y m d = false by simp [goodB, knownB, h1, h2, h3, h4, h5])
            clear h1 h2 h3 h4 h5
            go_enter Tryd.func25, Tryd.ntmps25
            go_wp2_with fail
            go_quiet (fail)
            go_wp2
            go_ret
            exact ⟨by rw [E.out]; rfl, b_drewN (b_alloc (Below.refl _ _) _) _⟩
        · have c4 : decide (m ≤ 12) = false := by simpa using h4
          have E := Lib.hid (show goodB y m d = false by simp [goodB, knownB, h1, h2, h3, h4])
          clear h1 h2 h3 h4
          go_enter Tryd.func25, Tryd.ntmps25
          go_wp2_with fail
          go_quiet (fail)
          go_wp2
          go_ret
          exact ⟨by rw [E.out]; rfl, b_drewN (b_alloc (Below.refl _ _) _) _⟩
      · have c3 : decide (1 ≤ m) = false := by simpa using h3
        have E := Lib.hid (show goodB y m d = false by simp [goodB, knownB, h1, h2, h3])
        clear h1 h2 h3
        go_enter Tryd.func25, Tryd.ntmps25
        go_wp2_with fail
        go_quiet (fail)
        go_wp2
        go_ret
        exact ⟨by rw [E.out]; rfl, b_drewN (b_alloc (Below.refl _ _) _) _⟩
    · have c2 : decide (y ≤ 9999) = false := by simpa using h2
      have E := Lib.hid (show goodB y m d = false by simp [goodB, knownB, h1, h2])
      clear h1 h2
      go_enter Tryd.func25, Tryd.ntmps25
      go_wp2_with fail
      go_quiet (fail)
      go_wp2
      go_ret
      exact ⟨by rw [E.out]; rfl, b_drewN (b_alloc (Below.refl _ _) _) _⟩
  · have c1 : decide (1 ≤ y) = false := by simpa using h1
    have E := Lib.hid (show goodB y m d = false by simp [goodB, knownB, h1])
    clear h1
    go_enter Tryd.func25, Tryd.ntmps25
    go_wp2_with fail
    go_quiet (fail)
    go_wp2
    go_ret
    exact ⟨by rw [E.out]; rfl, b_drewN (b_alloc (Below.refl _ _) _) _⟩
theorem goodr_is {y m d : Int} {b : Bool} (h : Hid (goodB y m d = b)) (w : World) :
    Calls Tryd.prog 25 #[.agg #[.int .i64 y, .int .i64 m, .int .i64 d]] w fun e w' => e = .returned (.bool b) ∧ Below w.heap.size w w' := by
  rw [← h.out]; exact goodr_any y m d w
def wdF (n : Int) : Int := (n - 1) % 7 + 1
theorem weekdayr_any (n : Int) (w : World) (h1 : 1 ≤ n) (h2 : n ≤ 1000000000) : Calls Tryd.prog 28 #[.int .i64 n] w fun e w' => e = .returned (.int .i64 (wdF n)) ∧ w = w' := by
  go_enter Tryd.func28, Tryd.ntmps28
  go_wp2
  go_ret
  exact ⟨rfl, rfl⟩
theorem weekday_any (n : Int) (w : World) (h1 : 1 ≤ n) (h2 : n ≤ 1000000000) : Calls Tryd.prog 51 #[.int .i64 n] w fun e w' => e = .returned (.int .i64 (wdF n)) ∧ w = w' := by
  go_enter Tryd.func51, Tryd.ntmps51
  go_wp2
  go_ret
  exact ⟨rfl, rfl⟩
end Go.Proofs.YtolgljionpalkaaDoor
