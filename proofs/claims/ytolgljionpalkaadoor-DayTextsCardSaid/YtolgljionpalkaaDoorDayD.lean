/- The calendar's contracts: Easter of both; the law DayYears. -/
import Derived.Test.YtolgljionpalkaaDoorDayC
import Derived.Test.YtolgljionpalkaaDoorDayM
set_option linter.unusedSimpArgs false
set_option linter.unusedVariables false
namespace Go.Proofs.YtolgljionpalkaaDoor
open Go.RowKit Go.BigFrame
theorem Easter_no (y : Int) (w : World) (h : knownB y = false) : Calls Tryd.prog 17 #[.int .i64 y] w fun e w' => e = .returned (.tuple #[.agg #[.int .i64 0, .int .i64 0, .int .i64 0], .int .i64 1]) ∧ Below w.heap.size w w' := by
  have K := Lib.hid h; clear h
  go_enter Tryd.func17, Tryd.ntmps17
  go_wp2_with (first | (go_at_call 47; refine (known_is K _).mono ?_; rintro e w' ⟨rfl, rfl⟩))
  exact bodyPost_ret (v := .tuple #[.agg #[.int .i64 0, .int .i64 0, .int .i64 0], .int .i64 1]) (by simp [results, Tryd.results17, go_sem]) rfl ⟨rfl, b_alloc (Below.refl _ _) _⟩
def eaB (y : Int) : Int := wrap64 (y.tdiv 100)
def eaG (y : Int) : Int := wrap64 ((wrap64 (wrap64 (eaB y - wrap64 ((wrap64 (eaB y + 8)).tdiv 25)) + 1)).tdiv 3)
def eaH (y : Int) : Int := (wrap64 (wrap64 (wrap64 (wrap64 (wrap64 (19 * y.tmod 19) + eaB y) - wrap64 ((eaB y).tdiv 4)) - eaG y) + 15)).tmod 30
def eaL (y : Int) : Int := (wrap64 (wrap64 (wrap64 (wrap64 (32 + wrap64 (2 * (eaB y).tmod 4)) + wrap64 (2 * wrap64 ((y.tmod 100).tdiv 4))) - eaH y) - (y.tmod 100).tmod 4)).tmod 7
def eaK (y : Int) : Int := wrap64 ((wrap64 (wrap64 (y.tmod 19 + wrap64 (11 * eaH y)) + wrap64 (22 * eaL y))).tdiv 451)
def eaN (y : Int) : Int := wrap64 (wrap64 (wrap64 (eaH y + eaL y) - wrap64 (7 * eaK y)) + 114)
def eaM (y : Int) : Int := wrap64 ((eaN y).tdiv 31)
def eaD (y : Int) : Int := wrap64 ((eaN y).tmod 31 + 1)
set_option maxHeartbeats 1000000 in
theorem Easter_yes (y : Int) (h : knownB y = true) (w : World) :
    Calls Tryd.prog 17 #[.int .i64 y] w fun e w' => e = .returned (.tuple #[.agg #[.int .i64 y, .int .i64 (eaM y), .int .i64 (eaD y)], .int .i64 0]) ∧ Below w.heap.size w w' := by
  have K := Lib.hid h; clear h
  go_enter Tryd.func17, Tryd.ntmps17
  go_wp2_with (first | (go_at_call 47; refine (known_is K _).mono ?_; rintro e w' ⟨rfl, rfl⟩))
  exact bodyPost_ret (v := .tuple #[.agg #[.int .i64 y, .int .i64 (eaM y), .int .i64 (eaD y)], .int .i64 0]) (by simp [results, Tryd.results17, go_sem, eaM, eaD, eaN, eaK, eaL, eaH, eaG, eaB]) rfl ⟨rfl, b_alloc (Below.refl _ _) _⟩
set_option maxHeartbeats 1000000 in
theorem Easterr_any (y : Int) (w : World) :
    Calls Tryd.prog 19 #[.int .i64 y] w fun e w' => e = .returned (.agg #[.int .i64 y, .int .i64 (eaM y), .int .i64 (eaD y)]) ∧ Below w.heap.size w w' := by
  go_enter Tryd.func19, Tryd.ntmps19
  go_wp2
  exact bodyPost_ret (v := .agg #[.int .i64 y, .int .i64 (eaM y), .int .i64 (eaD y)]) (by simp [results, Tryd.results19, go_sem, eaM, eaD, eaN, eaK, eaL, eaH, eaG, eaB]) rfl ⟨rfl, b_alloc (Below.refl _ _) _⟩
set_option maxHeartbeats 1000000 in
theorem years_no (y m : Int) (w : World) (hk : knownB y = false) :
    Calls Tryd.prog 3 #[.int .i64 y, .int .i64 m] w fun e w' => e = .returned (.bool true) ∧ Below w.heap.size w w' := by
  have eqd := eq_date
  have hL := Lib.hid (Leap_any y)
  rw [hk, if_neg (by decide)] at hL
  have hE := Lib.hid fun W => Easter_no y W hk
  have hN := Lib.hid fun W => Length_no y m W (by simp [hk])
  have hK : ¬ (1 ≤ y ∧ y ≤ 9999) := fun h => by rw [(knownB_iff y).2 h] at hk; cases hk
  clear hk
  by_cases h1 : 1 ≤ y
  · have c1 : decide (y < 1) = false := by simp; omega
    have c2 : decide (9999 < y) = true := by simp; omega
    clear hK h1
    go_enter Tryd.func3, Tryd.ntmps3
    go_wp2_with (first | (go_at_call 14; refine (names_any _).mono ?_; rintro e w' ⟨rfl, rfl⟩) | (go_at_call 15; refine (hL.out _).mono ?_; rintro e w' ⟨rfl, rfl⟩) | (go_at_call 16; refine (hN.out _).mono ?_; rintro e w' ⟨rfl, nn, rfl⟩) | (go_at_call 17; refine (hE.out _).mono ?_; rintro e w2 ⟨rfl, hb⟩))
    go_ret
    exact ⟨rfl, b_alloc (b_step (b_drewN (Below.refl _ _) _) hb) _⟩
  · have c1 : decide (y < 1) = true := by simp; omega
    have c2 := trivial
    clear hK h1
    go_enter Tryd.func3, Tryd.ntmps3
    go_wp2_with (first | (go_at_call 14; refine (names_any _).mono ?_; rintro e w' ⟨rfl, rfl⟩) | (go_at_call 15; refine (hL.out _).mono ?_; rintro e w' ⟨rfl, rfl⟩) | (go_at_call 16; refine (hN.out _).mono ?_; rintro e w' ⟨rfl, nn, rfl⟩) | (go_at_call 17; refine (hE.out _).mono ?_; rintro e w2 ⟨rfl, hb⟩))
    go_ret
    exact ⟨rfl, b_alloc (b_step (b_drewN (Below.refl _ _) _) hb) _⟩
set_option maxHeartbeats 1000000 in
theorem years_yes (y m : Int) (w : World) (hT : TabOk w) (hk : knownB y = true) :
    Calls Tryd.prog 3 #[.int .i64 y, .int .i64 m] w fun e w' => e = .returned (.bool true) ∧ Below w.heap.size w w' := by
  have nqd := neq_date
  have E := Easterr_any y
  have hL := Lib.hid (Leap_any y)
  rw [hk, if_pos rfl] at hL
  have hE := Lib.hid fun W => Easter_yes y hk W
  have hK := (knownB_iff y).1 hk
  have c1 : decide (y < 1) = false := by simp; omega
  have c2 : decide (9999 < y) = false := by simp; omega
  by_cases hm : 1 ≤ m ∧ m ≤ 12
  · have hN := Lib.hid fun W (hT : TabOk W) => Length_yes y m W hT hk hm.1 hm.2
    have hR := Lib.hid fun W => lengthr_any y m W hm.1 hm.2
    have c3 : decide (m < 1) = false := by simp; omega
    have c4 : decide (12 < m) = false := by simp; omega
    clear hm hk hK
    go_enter Tryd.func3, Tryd.ntmps3
    go_wp2_with (first | (go_at_call 14; refine (names_any _).mono ?_; rintro e w' ⟨rfl, rfl⟩) | (go_at_call 15; refine (hL.out _).mono ?_; rintro e w' ⟨rfl, rfl⟩) | (go_at_call 16; refine (hN.out _ hT).mono ?_; rintro e w' ⟨rfl, nn, rfl⟩) | (go_at_call 17; refine (hE.out _).mono ?_; rintro e w2 ⟨rfl, hb⟩))
    have b2 := b_step (b_drewN (Below.refl w.heap.size w) _) hb
    clear hb
    generalize hw3 : World.alloc w2 _ = w3
    have b3 : Below w.heap.size w w3 := by rw [← hw3]; exact b_alloc b2 _
    have hA : Blk w3 w2.heap.size #[.int .i64 y, .int .i64 (eaM y), .int .i64 (eaD y)] := by rw [← hw3]; exact Blk.new _ _ _
    clear hw3 b2
    have kA := hA.lcell
    refine wp_later 18 (by kernel_rfl) (by kernel_rfl) ?_
    simp only [List.take_succ_cons, List.take_zero, List.drop_succ_cons, List.drop_zero, List.take_nil, List.drop_nil]
    repeat (go_big_quiet_step (first | (go_at_call 18; exact later_same (leapr_any _ _)) | (go_at_call 19; exact later_call (E _))))
    refine wpQuiet_nil ?_
    rintro ⟨w4, hb⟩
    have b4 := b_step b3 hb
    change wpList _ _ _ _ _ w4
    go_wp2_with (first | (go_at_call 20; refine (hR.out _).mono ?_; rintro e w' ⟨rfl, rfl⟩))
    go_ret
    exact ⟨rfl, b4⟩
  · have hN := Lib.hid fun W (_ : TabOk W) => Length_no y m W (fun h => hm h.2)
    by_cases h1 : 1 ≤ m
    · have c3 : decide (m < 1) = false := by simp; omega
      have c4 : decide (12 < m) = true := by simp; omega
      clear hm h1 hk hK
      go_enter Tryd.func3, Tryd.ntmps3
      go_wp2_with (first | (go_at_call 14; refine (names_any _).mono ?_; rintro e w' ⟨rfl, rfl⟩) | (go_at_call 15; refine (hL.out _).mono ?_; rintro e w' ⟨rfl, rfl⟩) | (go_at_call 16; refine (hN.out _ hT).mono ?_; rintro e w' ⟨rfl, nn, rfl⟩) | (go_at_call 17; refine (hE.out _).mono ?_; rintro e w2 ⟨rfl, hb⟩))
      have b2 := b_step (b_drewN (Below.refl w.heap.size w) _) hb
      clear hb
      generalize hw3 : World.alloc w2 _ = w3
      have b3 : Below w.heap.size w w3 := by rw [← hw3]; exact b_alloc b2 _
      have hA : Blk w3 w2.heap.size #[.int .i64 y, .int .i64 (eaM y), .int .i64 (eaD y)] := by rw [← hw3]; exact Blk.new _ _ _
      clear hw3 b2
      have kA := hA.lcell
      refine wp_later 18 (by kernel_rfl) (by kernel_rfl) ?_
      simp only [List.take_succ_cons, List.take_zero, List.drop_succ_cons, List.drop_zero, List.take_nil, List.drop_nil]
      repeat (go_big_quiet_step (first | (go_at_call 18; exact later_same (leapr_any _ _)) | (go_at_call 19; exact later_call (E _))))
      refine wpQuiet_nil ?_
      rintro ⟨w4, hb⟩
      have b4 := b_step b3 hb
      change wpList _ _ _ _ _ w4
      go_wp2
      go_ret
      exact ⟨rfl, b4⟩
    · have c3 : decide (m < 1) = true := by simp; omega
      clear hm h1 hk hK
      go_enter Tryd.func3, Tryd.ntmps3
      go_wp2_with (first | (go_at_call 14; refine (names_any _).mono ?_; rintro e w' ⟨rfl, rfl⟩) | (go_at_call 15; refine (hL.out _).mono ?_; rintro e w' ⟨rfl, rfl⟩) | (go_at_call 16; refine (hN.out _ hT).mono ?_; rintro e w' ⟨rfl, nn, rfl⟩) | (go_at_call 17; refine (hE.out _).mono ?_; rintro e w2 ⟨rfl, hb⟩))
      have b2 := b_step (b_drewN (Below.refl w.heap.size w) _) hb
      clear hb
      generalize hw3 : World.alloc w2 _ = w3
      have b3 : Below w.heap.size w w3 := by rw [← hw3]; exact b_alloc b2 _
      have hA : Blk w3 w2.heap.size #[.int .i64 y, .int .i64 (eaM y), .int .i64 (eaD y)] := by rw [← hw3]; exact Blk.new _ _ _
      clear hw3 b2
      have kA := hA.lcell
      refine wp_later 18 (by kernel_rfl) (by kernel_rfl) ?_
      simp only [List.take_succ_cons, List.take_zero, List.drop_succ_cons, List.drop_zero, List.take_nil, List.drop_nil]
      repeat (go_big_quiet_step (first | (go_at_call 18; exact later_same (leapr_any _ _)) | (go_at_call 19; exact later_call (E _))))
      refine wpQuiet_nil ?_
      rintro ⟨w4, hb⟩
      have b4 := b_step b3 hb
      change wpList _ _ _ _ _ w4
      go_wp2
      go_ret
      exact ⟨rfl, b4⟩
theorem years_any (y m : Int) (w : World) (hT : TabOk w) :
    Calls Tryd.prog 3 #[.int .i64 y, .int .i64 m] w fun e w' => e = .returned (.bool true) ∧ Below w.heap.size w w' := by
  cases hk : knownB y with
  | true => exact years_yes y m w hT hk
  | false => exact years_no y m w hk
theorem dayYears_law (y m : Int) (w : World) (hT : TabOk w) (_ : (Lit.int .i64 y).wf = true) (_ : (Lit.int .i64 m).wf = true) :
    Calls Tryd.prog 3 #[.int .i64 y, .int .i64 m] w fun e w' => e = .returned (.bool true) ∧ Below w.heap.size w w' := years_any y m w hT
end Go.Proofs.YtolgljionpalkaaDoor
