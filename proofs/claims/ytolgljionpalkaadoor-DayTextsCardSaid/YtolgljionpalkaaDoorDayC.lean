/- The calendar's contracts: Leap, Length, Easter, names. -/
import Derived.Test.YtolgljionpalkaaDoorDayA
import Derived.Laws.StructEq
set_option linter.unusedSimpArgs false
set_option linter.unusedVariables false
namespace Go.Proofs.YtolgljionpalkaaDoor
open Go.RowKit Go.BigFrame
theorem eqIn_date (d : Nat) (w : World) (a b c x y z : Int) :
    (Op.equalIn (d + 2) 29 (.agg #[.int .i64 a, .int .i64 b, .int .i64 c]) (.agg #[.int .i64 x, .int .i64 y, .int .i64 z])).run Tryd.prog w = .ok (a == x && (b == y && c == z)) w := by
  have hf : Tryd.prog.fieldsOf 29 = #[{ name := "Year", type := 3, offset := 0, embedded := false, tag := "", pkgPath := "", byteOffset := 0 }, { name := "Month", type := 3, offset := 1, embedded := false, tag := "", pkgPath := "", byteOffset := 8 }, { name := "Day", type := 3, offset := 2, embedded := false, tag := "", pkgPath := "", byteOffset := 16 }] := by kernel_rfl
  rw [run_equalIn_struct (P := Tryd.prog) w (d + 1) 29 _ _ (by rw [hf]; exact Tryd.underlying29) (by kernel_rfl), hf]
  by_cases h1 : a = x <;> by_cases h2 : b = y <;> by_cases h3 : c = z <;> simp [Op.eqFields, go_sem, h1, h2, h3]
theorem eq_date (w : World) (a b c x y z : Int) :
    (binOp .eql 29 (.agg #[.int .i64 a, .int .i64 b, .int .i64 c]) (.agg #[.int .i64 x, .int .i64 y, .int .i64 z])).run Tryd.prog w = .ok (.bool (a == x && (b == y && c == z))) w := by
  simp only [binOp]
  simp [Op.equal, Op.maxDepth, eqIn_date 9998]
theorem neq_date (w : World) (a b c x y z : Int) :
    (binOp .neq 29 (.agg #[.int .i64 a, .int .i64 b, .int .i64 c]) (.agg #[.int .i64 x, .int .i64 y, .int .i64 z])).run Tryd.prog w = .ok (.bool !(a == x && (b == y && c == z))) w := by
  simp only [binOp]
  simp [Op.equal, Op.maxDepth, eqIn_date 9998]
theorem names_any (w : World) : Calls Tryd.prog 14 #[] w fun e w' => e = .returned (.bool true) ∧ w = w' := by
  go_enter Tryd.func14, Tryd.ntmps14
  go_wp2
  go_ret
  exact ⟨rfl, rfl⟩
theorem Leap_any (y : Int) (w : World) : Calls Tryd.prog 15 #[.int .i64 y] w fun e w' => e = .returned (if knownB y = true then .tuple #[.bool (leapB y), .int .i64 0] else .tuple #[.bool false, .int .i64 1]) ∧ w = w' := by
  cases hk : knownB y with
  | true =>
    have K := Lib.hid hk; clear hk
    rw [if_pos rfl]
    go_enter Tryd.func15, Tryd.ntmps15
    go_wp2_with (first | (go_at_call 47; refine (known_is K _).mono ?_; rintro e w' ⟨rfl, rfl⟩) | (go_at_call 48; refine (leap_any _ _).mono ?_; rintro e w' ⟨rfl, rfl⟩))
    go_ret2
    exact ⟨rfl, rfl⟩
  | false =>
    have K := Lib.hid hk; clear hk
    rw [if_neg (by decide)]
    go_enter Tryd.func15, Tryd.ntmps15
    go_wp2_with (first | (go_at_call 47; refine (known_is K _).mono ?_; rintro e w' ⟨rfl, rfl⟩))
    go_ret2
    exact ⟨rfl, rfl⟩
theorem Length_no (y m : Int) (w : World) (h : ¬ (knownB y = true ∧ 1 ≤ m ∧ m ≤ 12)) : Calls Tryd.prog 16 #[.int .i64 y, .int .i64 m] w fun e w' => e = .returned (.tuple #[.int .i64 0, .int .i64 1]) ∧ ∃ n, w' = w.drewN n := by
  cases hk : knownB y with
  | true =>
    have K := Lib.hid hk
    by_cases h1 : 1 ≤ m
    · have h2 : ¬ m ≤ 12 := fun h2 => h ⟨hk, h1, h2⟩
      have c1 : decide (m < 1) = false := by simp; omega
      have c2 : decide (12 < m) = true := by simp; omega
      clear h h1 h2 hk
      go_enter Tryd.func16, Tryd.ntmps16
      go_wp2_with (first | (go_at_call 47; refine (known_is K _).mono ?_; rintro e w' ⟨rfl, rfl⟩))
      go_ret2
      exact ⟨rfl, 0, rfl⟩
    · have c1 : decide (m < 1) = true := by simp; omega
      clear h h1 hk
      go_enter Tryd.func16, Tryd.ntmps16
      go_wp2_with (first | (go_at_call 47; refine (known_is K _).mono ?_; rintro e w' ⟨rfl, rfl⟩))
      go_ret2
      exact ⟨rfl, 0, rfl⟩
  | false =>
    have K := Lib.hid hk
    clear h hk
    go_enter Tryd.func16, Tryd.ntmps16
    go_wp2_with (first | (go_at_call 47; refine (known_is K _).mono ?_; rintro e w' ⟨rfl, rfl⟩))
    go_ret2
    exact ⟨rfl, 0, rfl⟩
theorem Length_yes (y m : Int) (w : World) (hT : TabOk w) (hk : knownB y = true) (h1 : 1 ≤ m) (h2 : m ≤ 12) : Calls Tryd.prog 16 #[.int .i64 y, .int .i64 m] w fun e w' => e = .returned (.tuple #[.int .i64 (lenF y m), .int .i64 0]) ∧ ∃ n, w' = w.drewN n := by
  have K := Lib.hid hk
  have g1 := Lib.hid h1
  have g2 := Lib.hid h2
  have c1 : decide (m < 1) = false := by simp; omega
  have c2 : decide (12 < m) = false := by simp; omega
  clear h1 h2 hk
  go_enter Tryd.func16, Tryd.ntmps16
  go_wp2_with (first | (go_at_call 47; refine (known_is K _).mono ?_; rintro e w' ⟨rfl, rfl⟩) | (go_at_call 49; refine (length_any _ _ _ hT g1.out g2.out).mono ?_; rintro e w' ⟨rfl, rfl⟩))
  go_ret2
  exact ⟨rfl, 0, rfl⟩
def leapR (y : Int) : Bool := (decide (y.tmod 4 = 0) && decide (y.tmod 100 ≠ 0)) || decide (y.tmod 400 = 0)
theorem leapR_eq (y : Int) : leapR y = leapB y := by
  unfold leapR leapB
  by_cases h4 : y.tmod 4 = 0
  · simp [h4]
  · have h400 : y.tmod 400 ≠ 0 := by
      intro h
      apply h4
      have h' : (400 : Int) ∣ y := Int.dvd_of_tmod_eq_zero h
      exact Int.tmod_eq_zero_of_dvd (Int.dvd_trans (by decide) h')
    simp [h4, h400]
theorem leapr_any (y : Int) (w : World) : Calls Tryd.prog 18 #[.int .i64 y] w fun e w' => e = .returned (.bool (leapB y)) ∧ w = w' := by
  rw [← leapR_eq]
  by_cases h1 : y.tmod 4 = 0
  · have c1 : (y.tmod 4 == 0) = true := beq_iff_eq.2 h1
    by_cases h2 : y.tmod 100 = 0
    · have c2 : (y.tmod 100 != 0) = false := by simp [h2]
      have e : leapR y = (y.tmod 400 == 0) := by simp [leapR, h1, h2]; rfl
      rw [e]; clear e h1 h2
      go_enter Tryd.func18, Tryd.ntmps18
      go_wp2
      go_ret
      exact ⟨rfl, rfl⟩
    · have c2 : (y.tmod 100 != 0) = true := by simp [h2]
      have e : leapR y = true := by simp [leapR, h1, h2]
      rw [e]; clear e h1 h2
      go_enter Tryd.func18, Tryd.ntmps18
      go_wp2
      go_ret
      exact ⟨rfl, rfl⟩
  · have c1 : (y.tmod 4 == 0) = false := by simp [h1]
    have e : leapR y = (y.tmod 400 == 0) := by simp [leapR, h1]; rfl
    rw [e]; clear e h1
    go_enter Tryd.func18, Tryd.ntmps18
    go_wp2
    go_ret
    exact ⟨rfl, rfl⟩
theorem leapr_is {y : Int} {b : Bool} (h : Hid (leapB y = b)) (w : World) : Calls Tryd.prog 18 #[.int .i64 y] w fun e w' => e = .returned (.bool b) ∧ w = w' := by
  rw [← h.out]; exact leapr_any y w
set_option maxHeartbeats 400000 in
theorem lengthr_any (y m : Int) (w : World) (h1 : 1 ≤ m) (h2 : m ≤ 12) : Calls Tryd.prog 20 #[.int .i64 y, .int .i64 m] w fun e w' => e = .returned (.int .i64 (lenF y m)) ∧ w = w' := by
  have hm : m = 1 ∨ m = 2 ∨ m = 3 ∨ m = 4 ∨ m = 5 ∨ m = 6 ∨ m = 7 ∨ m = 8 ∨ m = 9 ∨ m = 10 ∨ m = 11 ∨ m = 12 := by omega
  clear h1 h2
  rcases hm with rfl | rfl | rfl | rfl | rfl | rfl | rfl | rfl | rfl | rfl | rfl | rfl
  rotate_left 1
  · cases hl : leapB y with
    | true =>
      have e : lenF y 2 = 29 := by simp [lenF, hl]
      rw [e]; clear e
      have H := Lib.hid hl; clear hl
      go_enter Tryd.func20, Tryd.ntmps20
      go_wp2_with (go_at_call 18; refine (leapr_is H _).mono ?_; rintro e w' ⟨rfl, rfl⟩)
      go_ret
      exact ⟨rfl, rfl⟩
    | false =>
      have e : lenF y 2 = 28 := by simp [lenF, hl]
      rw [e]; clear e
      have H := Lib.hid hl; clear hl
      go_enter Tryd.func20, Tryd.ntmps20
      go_wp2_with (go_at_call 18; refine (leapr_is H _).mono ?_; rintro e w' ⟨rfl, rfl⟩)
      go_ret
      exact ⟨rfl, rfl⟩
  all_goals
    go_enter Tryd.func20, Tryd.ntmps20
    go_wp2
    go_ret
    exact ⟨rfl, rfl⟩
end Go.Proofs.YtolgljionpalkaaDoor
