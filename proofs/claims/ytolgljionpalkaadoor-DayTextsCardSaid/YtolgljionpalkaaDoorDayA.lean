/- The calendar's contracts: leap, length, number, known, Check of package day. -/
import Derived.Test.YtolgljionpalkaaDoorKit
import Derived.Test.YtolgljionpalkaaDoorRows
set_option linter.unusedSimpArgs false
set_option linter.unusedVariables false
namespace Go.Proofs.YtolgljionpalkaaDoor
open Go.RowKit

def tabL (i : Int) : Int := [(0 : Int), 31, 28, 31, 30, 31, 30, 31, 31, 30, 31, 30, 31].getD i.toNat 0
structure TabOk (w : World) : Prop where
  pos : 0 < w.heap.size
  tab : ∀ i : Nat, i < 13 → w.cell? ⟨0, i, none⟩ = some (.int .i64 (tabL i))
theorem TabOk.below {w W : World} (h : TabOk w) (hb : Below w.heap.size w W) : TabOk W :=
  ⟨Nat.lt_of_lt_of_le h.pos hb.size, fun i hi => (hb.cell (p := ⟨0, i, none⟩) h.pos).trans (h.tab i hi)⟩
theorem TabOk.drewN {w : World} (h : TabOk w) (n : Nat) : TabOk (w.drewN n) := ⟨h.pos, h.tab⟩
theorem TabOk.later {w : World} (h : TabOk w) (x : Later w) : TabOk x.W := h.below x.h
def leapB (y : Int) : Bool := decide (y.tmod 4 = 0) && (decide (y.tmod 100 ≠ 0) || decide (y.tmod 400 = 0))


theorem leap_any (y : Int) (w : World) : Calls Tryd.prog 48 #[.int .i64 y] w fun e w' => e = .returned (.bool (leapB y)) ∧ w = w' := by
  by_cases h1 : y.tmod 4 = 0
  · have c1 : (y.tmod 4 == 0) = true := beq_iff_eq.2 h1
    by_cases h2 : y.tmod 100 = 0
    · have c2 : (y.tmod 100 != 0) = false := by simp [h2]
      have e : leapB y = (y.tmod 400 == 0) := by simp [leapB, h1, h2]; rfl
      rw [e]; clear e h1 h2
      go_enter Tryd.func48, Tryd.ntmps48
      go_wp2
      go_ret
      exact ⟨rfl, rfl⟩
    · have c2 : (y.tmod 100 != 0) = true := by simp [h2]
      have e : leapB y = true := by simp [leapB, h1, h2]
      rw [e]; clear e h1 h2
      go_enter Tryd.func48, Tryd.ntmps48
      go_wp2
      go_ret
      exact ⟨rfl, rfl⟩
  · have c1 : (y.tmod 4 == 0) = false := by simp [h1]
    have e : leapB y = false := by simp [leapB, h1]
    rw [e]; clear e h1
    go_enter Tryd.func48, Tryd.ntmps48
    go_wp2
    go_ret
    exact ⟨rfl, rfl⟩

def lenF (y m : Int) : Int := if m = 2 then if leapB y = true then 29 else 28 else tabL m
set_option maxHeartbeats 400000 in
theorem length_any (y m : Int) (w : World) (hT : TabOk w) (h1 : 1 ≤ m) (h2 : m ≤ 12) :
    Calls Tryd.prog 49 #[.int .i64 y, .int .i64 m] w fun e w' => e = .returned (.int .i64 (lenF y m)) ∧ w = w' := by
  have hc : w.cell? ⟨0, m.toNat, none⟩ = some (.int .i64 (tabL m)) := by have := hT.tab m.toNat (by omega); rwa [Int.toNat_of_nonneg (by omega)] at this
  clear hT
  by_cases h : m = 2
  · subst h
    have hc2 : w.cell? ⟨0, 2, none⟩ = some (.int .i64 28) := hc
    clear hc
    cases hl : leapB y with
    | true =>
      have e : lenF y 2 = 29 := by simp [lenF, hl]
      rw [e]; clear e
      have H := Lib.hid hl; clear hl
      go_enter Tryd.func49, Tryd.ntmps49
      go_wp2_with (go_at_call 48; refine (leap_any _ _).mono ?_; rintro e w' ⟨rfl, rfl⟩; rw [H.out])
      go_ret
      exact ⟨rfl, rfl⟩
    | false =>
      have e : lenF y 2 = 28 := by simp [lenF, hl]
      rw [e]; clear e
      have H := Lib.hid hl; clear hl
      go_enter Tryd.func49, Tryd.ntmps49
      go_wp2_with (go_at_call 48; refine (leap_any _ _).mono ?_; rintro e w' ⟨rfl, rfl⟩; rw [H.out])
      go_ret
      exact ⟨rfl, rfl⟩
  · have c1 : (m == 2) = false := by simp [h]
    have e : lenF y m = tabL m := by simp [lenF, h]
    rw [e]; clear e
    go_enter Tryd.func49, Tryd.ntmps49
    go_wp2_with fail
    go_ret
    exact ⟨rfl, rfl⟩
/-- days of the months before m -/
def cumF (y : Int) : Nat → Int
  | 0 => 0
  | k + 1 => cumF y k + lenF y (k + 1)
theorem tabL_bd (m : Int) : 0 ≤ tabL m ∧ tabL m ≤ 31 := by
  unfold tabL
  generalize m.toNat = k
  match k with
  | 0 | 1 | 2 | 3 | 4 | 5 | 6 | 7 | 8 | 9 | 10 | 11 | 12 => decide
  | n + 13 => simp
theorem lenF_bd (y m : Int) : 0 ≤ lenF y m ∧ lenF y m ≤ 31 := by
  have := tabL_bd m
  unfold lenF; split <;> (try split) <;> omega
theorem cumF_bd (y : Int) : ∀ k : Nat, 0 ≤ cumF y k ∧ cumF y k ≤ 31 * k
  | 0 => by simp [cumF]
  | k + 1 => by have := cumF_bd y k; have := lenF_bd y (k + 1); simp only [cumF]; omega
/-- the days before year y -/
def yb (y : Int) : Int := 365 * (y - 1) + (y - 1) / 4 - (y - 1) / 100 + (y - 1) / 400
def numF (y m d : Int) : Int := yb y + d + cumF y (m - 1).toNat
theorem num_step (y m : Int) (h : 1 ≤ m) : cumF y ((m + 1) - 1).toNat = cumF y (m - 1).toNat + lenF y m := by
  obtain ⟨k, rfl⟩ : ∃ k : Nat, m = k + 1 := ⟨(m - 1).toNat, by omega⟩
  have e1 : ((k : Int) + 1 + 1 - 1).toNat = k + 1 := by omega
  have e2 : ((k : Int) + 1 - 1).toNat = k := by omega
  rw [e1, e2]; rfl
def cumI (y m : Int) : Int := cumF y (m - 1).toNat
theorem cumI_one (y : Int) : cumI y 1 = 0 := rfl
theorem cumI_succ (y m : Int) (h : 1 ≤ m) : cumI y (m + 1) = cumI y m + lenF y m := num_step y m h
theorem cumI_bd (y m : Int) (h1 : 1 ≤ m) (h2 : m ≤ 13) : 0 ≤ cumI y m ∧ cumI y m ≤ 372 := by
  have := cumF_bd y (m - 1).toNat; unfold cumI; omega
def numI (y m d : Int) : Int := yb y + d + cumI y m
theorem yb_bd (y : Int) (h1 : 1 ≤ y) (h2 : y ≤ 100000) : 0 ≤ yb y ∧ yb y ≤ 40000000 := by unfold yb; omega
theorem yb_eq (y : Int) : 365 * (y - 1) + (y - 1) / 4 - (y - 1) / 100 + (y - 1) / 400 = yb y := rfl
set_option maxHeartbeats 400000 in
theorem number_any (y m d : Int) (w : World) (hT : TabOk w) (hy1 : 1 ≤ y) (hy2 : y ≤ 100000) (h1 : 1 ≤ m) (h2 : m ≤ 12) (hd1 : -1000 ≤ d) (hd2 : d ≤ 1000000000) :
    Calls Tryd.prog 50 #[.agg #[.int .i64 y, .int .i64 m, .int .i64 d]] w fun e w' => e = .returned (.int .i64 (numI y m d)) ∧ Below w.heap.size w w' := by
  have hyb := yb_bd y hy1 hy2
  go_enter Tryd.func50, Tryd.ntmps50
  go_wp2
  go_loop [4, 5] (fun t i => ∃ k : Int, 1 ≤ k ∧ k ≤ m ∧ i = .int .i64 k ∧ t = .int .i64 (yb y + d + cumI y k)) (fun _ i => (m - intOf i).toNat)
  case atStart => exact ⟨1, by omega, by omega, rfl, by rw [cumI_one, ← yb_eq]; simp⟩
  case round =>
    obtain ⟨k, hk1, hk2, rfl, rfl⟩ := hrel
    have hcb := cumI_bd y k hk1 (by omega)
    have hlb := lenF_bd y k
    have HS := Lib.hid (cumI_succ y k hk1)
    by_cases hlt : k < m
    · go_wp2_with (go_at_call 49; refine (length_any _ _ _ ?_ (by omega) (by omega)).mono ?_; exact hT.below (b_alloc (Below.refl _ _) _); rintro e w' ⟨rfl, rfl⟩)
      go_round
      case rel => exact ⟨k + 1, by omega, by omega, rfl, by rw [HS.out]; go_num⟩
      case measure => simp [intOf]; omega
    · have H : Hid (numI y m d = yb y + d + cumI y k) := Lib.hid (by obtain rfl : k = m := by omega
                                                                     rfl)
      go_wp2
      go_ret
      exact ⟨by rw [H.out]; rfl, b_alloc (Below.refl _ _) _⟩

def knownB (y : Int) : Bool := decide (1 ≤ y ∧ y ≤ 9999)
theorem known_any (y : Int) (w : World) : Calls Tryd.prog 47 #[.int .i64 y] w fun e w' => e = .returned (.bool (knownB y)) ∧ w = w' := by
  by_cases h : 1 ≤ y
  · have H := Lib.hid (show knownB y = decide (y ≤ 9999) by simp [knownB, h])
    have h1 : decide (1 ≤ y) = true := by simpa using h
    go_enter Tryd.func47, Tryd.ntmps47
    go_wp2
    go_ret
    exact ⟨by rw [H.out]; rfl, rfl⟩
  · have H := Lib.hid (show knownB y = false by simp [knownB, h])
    have h1 : decide (1 ≤ y) = false := by simpa using h
    go_enter Tryd.func47, Tryd.ntmps47
    go_wp2
    go_ret
    exact ⟨by rw [H.out]; rfl, rfl⟩
def goodB (y m d : Int) : Bool := knownB y && (decide (1 ≤ m) && (decide (m ≤ 12) && (decide (1 ≤ d) && decide (d ≤ lenF y m))))
def chk (y m d : Int) : Int := if goodB y m d = true then 0 else 70
theorem known_is {y : Int} {b : Bool} (h : Hid (knownB y = b)) (w : World) : Calls Tryd.prog 47 #[.int .i64 y] w fun e w' => e = .returned (.bool b) ∧ w = w' := by
  rw [← h.out]; exact known_any y w
set_option maxHeartbeats 1000000 in
theorem check_any (y m d : Int) (w : World) (hT : TabOk w) :
    Calls Tryd.prog 26 #[.agg #[.int .i64 y, .int .i64 m, .int .i64 d]] w fun e w' => e = .returned (.int .i64 (chk y m d)) ∧ Below w.heap.size w w' := by
  have hT' := hT.below (b_alloc (Below.refl _ _) (.cells #[.int .i64 y, .int .i64 m, .int .i64 d] 29))
  clear hT
  cases hk : knownB y with
  | false =>
    have E := Lib.hid (show chk y m d = 70 by simp [chk, goodB, hk])
    have K := Lib.hid hk; clear hk
    go_enter Tryd.func26, Tryd.ntmps26
    go_wp2_with fail
    go_quiet (first | (go_at_call 47; exact quiet_left (known_is K _)))
    go_wp2
    go_ret
    exact ⟨ret_int E.out.symm, b_drewN (b_alloc (Below.refl _ _) _) _⟩
  | true =>
    have K := Lib.hid hk
    by_cases h1 : 1 ≤ m
    · by_cases h2 : m ≤ 12
      · by_cases h3 : 1 ≤ d
        · have L := lenF_bd y m
          by_cases h4 : d ≤ lenF y m
          · have E := Lib.hid (show chk y m d = 0 by simp [chk, goodB, hk, h1, h2, h3, h4])
            have c1 : decide (m < 1) = false := by simp; omega
            have c2 : decide (12 < m) = false := by simp; omega
            have c3 : decide (d < 1) = false := by simp; omega
            have c4 : decide (lenF y m < d) = false := by simp; omega
            have g1 := Lib.hid h1; have g2 := Lib.hid h2; clear hk h1 h2 h3 h4 L
            go_enter Tryd.func26, Tryd.ntmps26
            go_wp2_with fail
            go_quiet (first | (go_at_call 47; exact quiet_left (known_is K _)) | (go_at_call 49; exact quiet_left (length_any _ _ _ (hT'.drewN _) g1.out g2.out)))
            go_wp2
            go_ret
            exact ⟨ret_int E.out.symm, b_drewN (b_alloc (Below.refl _ _) _) _⟩
          · have E := Lib.hid (show chk y m d = 70 by simp [chk, goodB, hk, h1, h2, h3, h4])
            have c1 : decide (m < 1) = false := by simp; omega
            have c2 : decide (12 < m) = false := by simp; omega
            have c3 : decide (d < 1) = false := by simp; omega
            have c4 : decide (lenF y m < d) = true := by simp; omega
            have g1 := Lib.hid h1; have g2 := Lib.hid h2; clear hk h1 h2 h3 h4 L
            go_enter Tryd.func26, Tryd.ntmps26
            go_wp2_with fail
            go_quiet (first | (go_at_call 47; exact quiet_left (known_is K _)) | (go_at_call 49; exact quiet_left (length_any _ _ _ (hT'.drewN _) g1.out g2.out)))
            go_wp2
            go_ret
            exact ⟨ret_int E.out.symm, b_drewN (b_alloc (Below.refl _ _) _) _⟩
        · have E := Lib.hid (show chk y m d = 70 by simp [chk, goodB, hk, h1, h2, h3])
          have c1 : decide (m < 1) = false := by simp; omega
          have c2 : decide (12 < m) = false := by simp; omega
          have c3 : decide (d < 1) = true := by simp; omega
          clear hk h1 h2 h3
          go_enter Tryd.func26, Tryd.ntmps26
          go_wp2_with fail
          go_quiet (first | (go_at_call 47; exact quiet_left (known_is K _)))
          go_wp2
          go_ret
          exact ⟨ret_int E.out.symm, b_drewN (b_alloc (Below.refl _ _) _) _⟩
      · have E := Lib.hid (show chk y m d = 70 by simp [chk, goodB, hk, h1, h2])
        have c1 : decide (m < 1) = false := by simp; omega
        have c2 : decide (12 < m) = true := by simp; omega
        clear hk h1 h2
        go_enter Tryd.func26, Tryd.ntmps26
        go_wp2_with fail
        go_quiet (first | (go_at_call 47; exact quiet_left (known_is K _)))
        go_wp2
        go_ret
        exact ⟨ret_int E.out.symm, b_drewN (b_alloc (Below.refl _ _) _) _⟩
    · have E := Lib.hid (show chk y m d = 70 by simp [chk, goodB, hk, h1])
      have c1 : decide (m < 1) = true := by simp; omega
      clear hk h1
      go_enter Tryd.func26, Tryd.ntmps26
      go_wp2_with fail
      go_quiet (first | (go_at_call 47; exact quiet_left (known_is K _)))
      go_wp2
      go_ret
      exact ⟨ret_int E.out.symm, b_drewN (b_alloc (Below.refl _ _) _) _⟩
end Go.Proofs.YtolgljionpalkaaDoor
