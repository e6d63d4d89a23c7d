/- tontinebase: Whole. -/
import Derived.Test.YtolgljionpalkaaDoorBigF
set_option linter.unusedSimpArgs false
set_option linter.unusedVariables false
namespace Go.Proofs.YtolgljionpalkaaDoor
open Go.RowKit Go.BigFrame
/-- a whole number's text -/
def intS (n : Int) : ByteArray := if n < 0 then ⟨#[45]⟩ ++ decS n.natAbs else decS n.natAbs
theorem bits_int {n : Nat} (h : n < 18446744073709551616) : bits n ≤ 64 := bits_le.2 h
theorem decS_int {n : Nat} (h : n < 18446744073709551616) : (decS n).size ≤ 65 := by
  have := decN_len n; have := bits_int h; rw [decS_size]; omega
set_option maxHeartbeats 8000000 in
set_option maxRecDepth 100000 in
theorem whole_any (n : Int) (h1 : -9223372036854775808 ≤ n) (h2 : n ≤ 9223372036854775807) (w : World) :
    Calls Tryd.prog 65 #[.int .i64 n] w fun e w' => e = .returned (.string (intS n)) ∧ Below w.heap.size w w' := by
  by_cases h0 : n < 0
  · have hS : Hid (⟨#[45]⟩ ++ decS n.natAbs = intS n) := Lib.hid (by rw [intS, if_pos h0])
    obtain ⟨m, rfl⟩ : ∃ m : Nat, n = -(m : Int) := ⟨n.natAbs, by omega⟩
    rw [Int.natAbs_neg, Int.natAbs_natCast] at hS
    have c1 : decide (0 < m) = true := by simp; omega
    have hz := decS_int (n := m) (by omega)
    go_enter Tryd.func65, Tryd.ntmps65
    go_wp2_with fail
    have e : IntKind.u64.wrap (-IntKind.u64.wrap (-(m : Int))) = (m : Int) := by rw [IntKind.wrap_u64, IntKind.wrap_u64]; omega
    rw [e]
    refine (natof64_any m (by omega) _).mono ?_
    rintro e w1 ⟨v, rfl, hv, b1⟩
    go_wp2_with fail
    refine (nat_text _ hv (Nat.le_trans (bits_int (by omega)) (by decide))).mono ?_
    rintro e w2 ⟨rfl, b2⟩
    go_wp2
    go_ret
    exact ⟨by rw [← hS.out]; rfl, b_step b1 b2⟩
  · obtain ⟨m, rfl⟩ : ∃ m : Nat, n = (m : Int) := ⟨n.toNat, by omega⟩
    have hS : Hid (decS m = intS (m : Int)) := Lib.hid (by rw [intS, if_neg h0, Int.natAbs_natCast])
    have c1 : decide ((m : Int) < 0) = false := by simp
    go_enter Tryd.func65, Tryd.ntmps65
    go_wp2_with fail
    refine (natof_any m (by omega) _).mono ?_
    rintro e w1 ⟨v, rfl, hv, b1⟩
    go_wp2_with fail
    refine (nat_text _ hv (Nat.le_trans (bits_int (by omega)) (by decide))).mono ?_
    rintro e w2 ⟨rfl, b2⟩
    go_wp2
    go_ret
    exact ⟨by rw [← hS.out]; rfl, b_step b1 b2⟩
end Go.Proofs.YtolgljionpalkaaDoor
