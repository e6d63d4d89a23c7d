/- digits and Text, the reference's. -/
import Derived.Test.YtolgljionpalkaaDoorDayW
import Derived.Test.YtolgljionpalkaaDoorBigG
set_option linter.unusedSimpArgs false
set_option linter.unusedVariables false
namespace Go.Proofs.YtolgljionpalkaaDoor
open Go.RowKit Go.BigFrame
/-- the last j digits -/
def lastD (n : Nat) : Nat → List UInt8
  | 0 => []
  | j + 1 => UInt8.ofNat (48 + n / 10 ^ j % 10) :: lastD n j
theorem lastD_len (n : Nat) : ∀ j, (lastD n j).length = j
  | 0 => rfl
  | j + 1 => by simp [lastD, lastD_len n j]
theorem decS_last {n : Nat} (h : n ≤ 9999) : ∃ j, 1 ≤ j ∧ j ≤ 4 ∧ n < 10 ^ j ∧ (1 < j → 10 ^ (j - 1) ≤ n) ∧ decS n = ⟨(lastD n j).toArray⟩ := by
  by_cases h1 : n < 10
  · refine ⟨1, by omega, by omega, by omega, by omega, ?_⟩
    unfold decS; rw [decN_small h1]; simp [lastD]; (try congr 1); omega
  · by_cases h2 : n < 100
    · refine ⟨2, by omega, by omega, by omega, by omega, ?_⟩
      unfold decS; rw [decN_big (by omega), decN_small (by omega)]; simp [lastD]; congr <;> omega
    · by_cases h3 : n < 1000
      · refine ⟨3, by omega, by omega, by omega, by omega, ?_⟩
        unfold decS; rw [decN_big (by omega), decN_big (by omega), decN_small (by omega)]; simp [lastD]; congr <;> omega
      · refine ⟨4, by omega, by omega, by omega, by omega, ?_⟩
        have e1 : n / 10 / 10 / 10 = n / 1000 % 10 := by omega
        have e2 : n / 10 / 10 % 10 = n / 100 % 10 := by omega
        unfold decS; rw [decN_big (by omega), decN_big (by omega), decN_big (by omega), decN_small (by omega), e1, e2]; simp [lastD]
theorem lastD_zero {n j : Nat} (h : n < 10 ^ j) : (⟨#[48]⟩ : ByteArray) ++ ⟨(lastD n j).toArray⟩ = ⟨(lastD n (j + 1)).toArray⟩ := by
  rw [lastD, Nat.div_eq_of_lt h]
  exact ByteArray.mk_append_mk [48] (lastD n j)
set_option maxHeartbeats 4000000 in
theorem digits_any (n k : Nat) (hk : k ≤ 4) (hn : n < 10 ^ k) (h0 : 1 ≤ k) (w : World) :
    Calls Tryd.prog 54 #[.int .i64 (n : Nat), .int .i64 (k : Nat)] w fun e w' => e = .returned (.string ⟨(lastD n k).toArray⟩) ∧ Below w.heap.size w w' := by
  have hn4 : n ≤ 9999 := by
    have : 10 ^ k ≤ 10 ^ 4 := Nat.pow_le_pow_right (by decide) hk
    omega
  obtain ⟨j, j1, j4, hj, hj2, hs⟩ := decS_last hn4
  have hjk : j ≤ k := by
    rcases Nat.lt_or_ge 1 j with c | c
    · have := hj2 c
      have := (Nat.pow_lt_pow_iff_right (a := 10) (by decide)).1 (by omega : 10 ^ (j - 1) < 10 ^ k)
      omega
    · omega
  have hS : intS (n : Int) = ⟨(lastD n j).toArray⟩ := by unfold intS; rw [if_neg (by omega), Int.natAbs_natCast]; exact hs
  replace hj := Lib.hid hj
  clear hs hj2 hn
  go_enter Tryd.func54, Tryd.ntmps54
  go_wp2_with fail
  refine (whole_any n (by omega) (by omega) _).mono ?_
  rintro e w1 ⟨rfl, b1⟩
  rw [hS]
  clear hS
  go_wp2
  go_loopg [5] 4 (fun g s wr => wr = w1 ∧ ∃ i, s = .string ⟨(lastD n i).toArray⟩ ∧ i ≤ k ∧ k ≤ i + g ∧ Hid (n < 10 ^ i))
  case atStart => exact ⟨rfl, j, rfl, hjk, by omega, hj⟩
  case round =>
    obtain ⟨rfl, i, rfl, hi, hg, hlt⟩ := hrel
    have hl := lastD_len n i
    have hl2 : (ByteArray.mk (lastD n i).toArray).size = i := by show (lastD n i).toArray.size = i; rw [List.size_toArray, hl]
    have hz := Lib.hid (lastD_zero hlt.out)
    by_cases c : i < k
    · have c1 : decide (i < k) = true := by simpa using c
      go_wp2
      rw [hz.out]
      go_roundg (gk - 1)
      case measure => omega
      case rel => exact ⟨rfl, i + 1, rfl, by omega, by omega, Lib.hid (Nat.lt_of_lt_of_le hlt.out (Nat.pow_le_pow_right (by decide) (by omega)))⟩
    · obtain rfl : i = k := by omega
      go_wp2
      go_ret
      exact ⟨rfl, b1⟩
theorem lastD4 (n : Nat) : (lastD n 4) = [bt n 1000, bt n 100, bt n 10, bt n 1] := by
  simp only [lastD, bt, dI]
  congr 2 <;> omega
theorem lastD2 (n : Nat) : (lastD n 2) = [bt n 10, bt n 1] := by
  simp only [lastD, bt, dI]
  congr 2 <;> omega
end Go.Proofs.YtolgljionpalkaaDoor
