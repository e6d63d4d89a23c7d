/- tontinebase: norm. -/
import Derived.Test.YtolgljionpalkaaDoorBigB
set_option linter.unusedSimpArgs false
set_option linter.unusedVariables false
namespace Go.Proofs.YtolgljionpalkaaDoor
open Go.RowKit Go.BigFrame
set_option maxHeartbeats 4000000 in
theorem norm_any {e : TypeId} {A : Option Addr} {n c : Nat} {F : Nat → Nat} (w : World) (h : Rd w e .i64 A n F) (hn : n ≤ c) (hc : c ≤ maxLen) :
    Calls Tryd.prog 71 #[.slice A n c] w fun e w' => e = .returned (.slice A (nrm F n) c) ∧ Below w.heap.size w w' := by
  have hm : c ≤ 9223372036854775807 := by simpa [maxLen] using hc
  have hnl := nrm_le F n
  go_enter Tryd.func71, Tryd.ntmps71
  go_wp2
  go_loopg [3] n (fun g i wr => wr = w ∧ ∃ j : Nat, i = .int .i64 ((j : Nat) : Int) ∧ j ≤ n ∧ j ≤ g ∧ nrm F j = nrm F n)
  case atStart => exact ⟨rfl, n, rfl, Nat.le_refl _, Nat.le_refl _, rfl⟩
  case round =>
    obtain ⟨rfl, j, rfl, hj, hg, hr⟩ := hrel
    by_cases h0 : 0 < j
    · obtain ⟨m, rfl⟩ : ∃ m, j = m + 1 := ⟨j - 1, by omega⟩
      obtain ⟨g, o, rfl⟩ := h.some (by omega)
      have hcell := h.cell g o rfl m (by omega)
      by_cases hz : F m = 0
      · rw [hz] at hcell
        rw [nrm, if_pos hz] at hr
        clear hz hnl
        replace hr := Lib.hid hr
        go_wp2
        go_roundg (gk - 1)
        case measure => omega
        case rel => exact ⟨rfl, m, rfl, by omega, by omega, hr.out⟩
      · have hz2 : (((F m : Nat) : Int) == 0) = false := by simp; omega
        rw [nrm, if_neg hz] at hr
        clear hz hnl
        replace hr := Lib.hid hr
        go_wp2
        go_ret
        exact ⟨by rw [← hr.out]; rfl, Below.refl _ _⟩
    · obtain rfl : j = 0 := by omega
      clear hnl
      replace hr := Lib.hid hr
      go_wp2
      go_ret
      exact ⟨by rw [← hr.out]; rfl, Below.refl _ _⟩
end Go.Proofs.YtolgljionpalkaaDoor
