/- The calendar in numbers: plain laws, no program. -/
import Derived.Test.YtolgljionpalkaaDoorDayA
set_option linter.unusedSimpArgs false
set_option linter.unusedVariables false
namespace Go.Proofs.YtolgljionpalkaaDoor
open Go.RowKit
theorem knownB_iff (y : Int) : knownB y = true ↔ (1 ≤ y ∧ y ≤ 9999) := by simp [knownB]
theorem leapB_mod (y : Int) (h : 1 ≤ y) : leapB y = true ↔ (y % 4 = 0 ∧ (y % 100 ≠ 0 ∨ y % 400 = 0)) := by
  unfold leapB
  rw [Int.tmod_eq_emod_of_nonneg (by omega), Int.tmod_eq_emod_of_nonneg (by omega), Int.tmod_eq_emod_of_nonneg (by omega)]
  simp
def sizeF (y : Int) : Int := if leapB y = true then 366 else 365
theorem yb_succ (y : Int) (h : 1 ≤ y) : yb (y + 1) = yb y + sizeF y := by
  unfold sizeF
  have hl := leapB_mod y h
  by_cases c : leapB y = true
  · rw [if_pos c]
    have := hl.1 c
    unfold yb; omega
  · rw [if_neg c]
    have : ¬ (y % 4 = 0 ∧ (y % 100 ≠ 0 ∨ y % 400 = 0)) := fun h' => c (hl.2 h')
    unfold yb; omega
theorem sizeF_bd (y : Int) : 365 ≤ sizeF y ∧ sizeF y ≤ 366 := by unfold sizeF; split <;> omega
theorem yb_lt (y z : Int) (h : 1 ≤ y) (hz : y < z) : yb y + 365 ≤ yb z := by unfold yb; omega
theorem yb_mono (y z : Int) (hz : y ≤ z) : yb y ≤ yb z := by unfold yb; omega
theorem cumI_13 (y : Int) : cumI y 13 = sizeF y := by
  have e : cumI y 13 = lenF y 1 + lenF y 2 + lenF y 3 + lenF y 4 + lenF y 5 + lenF y 6 + lenF y 7 + lenF y 8 + lenF y 9 + lenF y 10 + lenF y 11 + lenF y 12 := by
    simp [cumI, cumF]
  rw [e]
  unfold sizeF
  by_cases c : leapB y = true
  · simp [lenF, c, tabL]
  · simp [lenF, c, tabL]
theorem lenF_lo (y m : Int) (h1 : 1 ≤ m) (h2 : m ≤ 12) : 28 ≤ lenF y m := by
  have hm : m = 1 ∨ m = 2 ∨ m = 3 ∨ m = 4 ∨ m = 5 ∨ m = 6 ∨ m = 7 ∨ m = 8 ∨ m = 9 ∨ m = 10 ∨ m = 11 ∨ m = 12 := by omega
  rcases hm with rfl | rfl | rfl | rfl | rfl | rfl | rfl | rfl | rfl | rfl | rfl | rfl <;> simp only [lenF] <;> (try split) <;> (try split) <;> simp_all [tabL]
theorem cumI_mono (y m k : Int) (h1 : 1 ≤ m) (h : m ≤ k) (h2 : k ≤ 13) : cumI y m ≤ cumI y k := by
  obtain ⟨d, hd⟩ : ∃ d : Nat, k = m + d := ⟨(k - m).toNat, by omega⟩
  subst hd
  clear h
  induction d with
  | zero => simp
  | succ d ih =>
    have := ih (by omega)
    have e := cumI_succ y (m + d) (by omega)
    have hl := lenF_bd y (m + d)
    have : cumI y (m + (d + 1 : Nat)) = cumI y (m + d + 1) := by rw [show m + ((d + 1 : Nat) : Int) = m + d + 1 by omega]
    omega
theorem goodB_iff (y m d : Int) : goodB y m d = true ↔ (1 ≤ y ∧ y ≤ 9999 ∧ 1 ≤ m ∧ m ≤ 12 ∧ 1 ≤ d ∧ d ≤ lenF y m) := by
  simp [goodB, knownB, and_assoc]
/-- the number lies in its year, and in its month -/
theorem num_in (y m d : Int) (h1 : 1 ≤ y) (hm1 : 1 ≤ m) (hm2 : m ≤ 12) (hd1 : 1 ≤ d) (hd2 : d ≤ lenF y m) :
    yb y < numI y m d ∧ numI y m d ≤ yb (y + 1) ∧ cumI y m < numI y m d - yb y ∧ numI y m d - yb y ≤ cumI y (m + 1) := by
  have a := cumI_bd y m hm1 (by omega)
  have b := cumI_succ y m hm1
  have c := cumI_mono y (m + 1) 13 (by omega) (by omega) (by omega)
  rw [cumI_13] at c
  have e := yb_succ y h1
  unfold numI
  omega
theorem num_inj (y m d y' m' d' : Int) (h : goodB y m d = true) (h' : goodB y' m' d' = true) (hn : numI y m d = numI y' m' d') : y = y' ∧ m = m' ∧ d = d' := by
  obtain ⟨a1, a2, a3, a4, a5, a6⟩ := (goodB_iff _ _ _).1 h
  obtain ⟨b1, b2, b3, b4, b5, b6⟩ := (goodB_iff _ _ _).1 h'
  have A := num_in y m d a1 a3 a4 a5 a6
  have B := num_in y' m' d' b1 b3 b4 b5 b6
  rw [hn] at A
  have ey : y = y' := by
    rcases Int.lt_trichotomy y y' with c | c | c
    · have := yb_mono (y + 1) y' (by omega); omega
    · exact c
    · have := yb_mono (y' + 1) y (by omega); omega
  subst ey
  have em : m = m' := by
    rcases Int.lt_trichotomy m m' with c | c | c
    · have := cumI_mono y (m + 1) m' (by omega) (by omega) (by omega); omega
    · exact c
    · have := cumI_mono y (m' + 1) m (by omega) (by omega) (by omega); omega
  subst em
  refine ⟨rfl, rfl, ?_⟩
  unfold numI at hn; omega
open Classical in
/-- the date of a number: noughts, where there is none -/
noncomputable def dateOf (n : Int) : Int × Int × Int := if h : ∃ p : Int × Int × Int, goodB p.1 p.2.1 p.2.2 = true ∧ numI p.1 p.2.1 p.2.2 = n then Classical.choose h else (0, 0, 0)
theorem dateOf_eq {y m d n : Int} (hg : goodB y m d = true) (hn : numI y m d = n) : dateOf n = (y, m, d) := by
  have hex : ∃ p : Int × Int × Int, goodB p.1 p.2.1 p.2.2 = true ∧ numI p.1 p.2.1 p.2.2 = n := ⟨(y, m, d), hg, hn⟩
  unfold dateOf
  rw [dif_pos hex]
  have hs := Classical.choose_spec hex
  have := num_inj _ _ _ _ _ _ hs.1 hg (hs.2.trans hn.symm)
  exact Prod.ext this.1 (Prod.ext this.2.1 this.2.2)
theorem num_last : numI 9999 12 31 = 3652059 := by decide
theorem num_rng {y m d : Int} (hg : goodB y m d = true) : 1 ≤ numI y m d ∧ numI y m d ≤ 3652059 := by
  obtain ⟨a1, a2, a3, a4, a5, a6⟩ := (goodB_iff _ _ _).1 hg
  have A := num_in y m d a1 a3 a4 a5 a6
  have b := yb_bd y a1 (by omega)
  have c := yb_mono (y + 1) 10000 (by omega)
  have e : yb 10000 = 3652059 := by decide
  omega
theorem dateOf_none {n : Int} (h : n < 1 ∨ 3652059 < n) : dateOf n = (0, 0, 0) := by
  unfold dateOf
  rw [dif_neg]
  rintro ⟨p, hg, hn⟩
  have := num_rng hg
  omega
end Go.Proofs.YtolgljionpalkaaDoor
