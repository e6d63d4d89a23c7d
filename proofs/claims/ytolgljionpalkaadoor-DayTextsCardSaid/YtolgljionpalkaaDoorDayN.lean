/- Months on, in numbers: plain laws, no program. -/
import Derived.Test.YtolgljionpalkaaDoorDayJ
set_option linter.unusedSimpArgs false
set_option linter.unusedVariables false
namespace Go.Proofs.YtolgljionpalkaaDoor
open Go.RowKit
/-- how many days lie ahead of the month t (12 a year, from 0) -/
def mF (t : Int) : Int := yb (t / 12) + cumI (t / 12) (t % 12 + 1)
def mL (t : Int) : Int := lenF (t / 12) (t % 12 + 1)
theorem mL_bd (t : Int) : 28 ≤ mL t ∧ mL t ≤ 31 := by
  unfold mL
  have a := lenF_lo (t / 12) (t % 12 + 1) (by omega) (by omega)
  have b := lenF_bd (t / 12) (t % 12 + 1)
  omega
theorem mF_succ (t : Int) (h : 12 ≤ t) : mF (t + 1) = mF t + mL t := by
  unfold mF mL
  by_cases c : t % 12 = 11
  · have e1 : (t + 1) / 12 = t / 12 + 1 := by omega
    have e2 : (t + 1) % 12 + 1 = 1 := by omega
    have e3 : t % 12 + 1 = 12 := by omega
    rw [e1, e2, e3, cumI_one, yb_succ _ (by omega)]
    have a := cumI_13 (t / 12)
    have b := cumI_succ (t / 12) 12 (by omega)
    have c' : cumI (t / 12) (12 + 1) = cumI (t / 12) 13 := rfl
    omega
  · have e1 : (t + 1) / 12 = t / 12 := by omega
    have e2 : (t + 1) % 12 + 1 = t % 12 + 1 + 1 := by omega
    rw [e1, e2, cumI_succ _ _ (by omega)]
    omega
theorem mF_mono (s t : Int) (h : 12 ≤ s) (hst : s < t) : mF s + mL s ≤ mF t := by
  obtain ⟨d, hd⟩ : ∃ d : Nat, t = s + 1 + d := ⟨(t - s - 1).toNat, by omega⟩
  subst hd
  clear hst
  induction d with
  | zero => rw [show s + 1 + ((0 : Nat) : Int) = s + 1 by omega, mF_succ s h]; omega
  | succ d ih =>
    have e := mF_succ (s + 1 + d) (by omega)
    have := mL_bd (s + 1 + d)
    rw [show s + 1 + ((d + 1 : Nat) : Int) = s + 1 + d + 1 by omega]
    omega
def tI (y m : Int) : Int := 12 * y + m - 1
theorem num_mF (y m d : Int) (h1 : 1 ≤ m) (h2 : m ≤ 12) : numI y m d = mF (tI y m) + d ∧ mL (tI y m) = lenF y m := by
  unfold mF mL numI tI
  have e1 : (12 * y + m - 1) / 12 = y := by omega
  have e2 : (12 * y + m - 1) % 12 + 1 = m := by omega
  rw [e1, e2]
  omega
/-- the number of the date k months on -/
def onF (y m d k : Int) : Int := numI (moD y m d k).1 (moD y m d k).2.1 (moD y m d k).2.2
theorem onF_mF (y m d k : Int) : onF y m d k = mF (tI y m + k) + mnI d (mL (tI y m + k)) := by
  unfold onF
  have e : 12 * (moD y m d k).1 + (moD y m d k).2.1 - 1 = tI y m + k := by unfold moD tI; simp only []; omega
  have h := num_mF (moD y m d k).1 (moD y m d k).2.1 (moD y m d k).2.2 (by unfold moD; simp only []; omega) (by unfold moD; simp only []; omega)
  unfold tI at h
  rw [e] at h
  rw [h.1]
  rfl
theorem mnI_bd (d l : Int) (h : 1 ≤ d) (hl : 1 ≤ l) : 1 ≤ mnI d l ∧ mnI d l ≤ d ∧ mnI d l ≤ l := by unfold mnI; split <;> omega
theorem onF_lt (y m d k k' : Int) (hd : 1 ≤ d) (h : 12 ≤ tI y m + k) (hk : k < k') : onF y m d k < onF y m d k' := by
  rw [onF_mF, onF_mF]
  have a := mF_mono (tI y m + k) (tI y m + k') h (by omega)
  have l := mL_bd (tI y m + k)
  have l' := mL_bd (tI y m + k')
  have b := mnI_bd d (mL (tI y m + k)) hd (by omega)
  have b' := mnI_bd d (mL (tI y m + k')) hd (by omega)
  omega
section
variable {y m d y' m' d' : Int}
theorem onF_before (h : goodB y m d = true) (h' : goodB y' m' d' = true) {k : Int} (hk : 12 ≤ tI y m + k) (hlt : k < tI y' m' - tI y m) : onF y m d k < numI y' m' d' := by
  obtain ⟨a1, a2, a3, a4, a5, a6⟩ := (goodB_iff _ _ _).1 h
  obtain ⟨b1, b2, b3, b4, b5, b6⟩ := (goodB_iff _ _ _).1 h'
  rw [onF_mF, (num_mF y' m' d' b3 b4).1]
  have a := mF_mono (tI y m + k) (tI y' m') hk (by omega)
  have l := mL_bd (tI y m + k)
  have b := mnI_bd d (mL (tI y m + k)) a5 (by omega)
  omega
theorem onF_behind (h : goodB y m d = true) (h' : goodB y' m' d' = true) {k : Int} (hlt : tI y' m' - tI y m < k) : numI y' m' d' < onF y m d k := by
  obtain ⟨a1, a2, a3, a4, a5, a6⟩ := (goodB_iff _ _ _).1 h
  obtain ⟨b1, b2, b3, b4, b5, b6⟩ := (goodB_iff _ _ _).1 h'
  have ht : 12 ≤ tI y' m' := by unfold tI; omega
  have a := mF_mono (tI y' m') (tI y m + k) ht (by omega)
  have l := mL_bd (tI y m + k)
  have b := mnI_bd d (mL (tI y m + k)) a5 (by omega)
  have c := num_mF y' m' d' b3 b4
  rw [onF_mF, c.1]
  omega
theorem onF_zero (h : goodB y m d = true) : onF y m d 0 = numI y m d := by
  obtain ⟨a1, a2, a3, a4, a5, a6⟩ := (goodB_iff _ _ _).1 h
  have c := num_mF y m d a3 a4
  rw [onF_mF, c.1, Int.add_zero, c.2]
  have : mnI d (lenF y m) = d := by unfold mnI; rw [if_neg (by omega)]
  rw [this]
theorem tI_le (h : goodB y m d = true) (h' : goodB y' m' d' = true) (hn : numI y m d ≤ numI y' m' d') : tI y m ≤ tI y' m' := by
  by_cases c : tI y m ≤ tI y' m'
  · exact c
  · exfalso
    have := onF_behind h h' (k := 0) (by omega)
    rw [onF_zero h] at this
    omega
end
/-- how often s months have gone by (s 1 or 12) -/
def sinI (y m d y' m' d' s : Int) : Int :=
  if onF y m d ((tI y' m' - tI y m) / s * s) ≤ numI y' m' d' then (tI y' m' - tI y m) / s else (tI y' m' - tI y m) / s - 1
/-- what it is -/
theorem sinI_spec {y m d y' m' d' s : Int} (h : goodB y m d = true) (h' : goodB y' m' d' = true) (hs : s = 1 ∨ s = 12) (hn : numI y m d ≤ numI y' m' d') :
    0 ≤ sinI y m d y' m' d' s ∧ sinI y m d y' m' d' s * s ≤ tI y' m' - tI y m ∧ onF y m d (sinI y m d y' m' d' s * s) ≤ numI y' m' d' ∧ numI y' m' d' < onF y m d ((sinI y m d y' m' d' s + 1) * s) := by
  have ht := tI_le h h' hn
  have ht0 : 12 ≤ tI y m := by obtain ⟨a1, a2, a3, a4, a5, a6⟩ := (goodB_iff _ _ _).1 h; unfold tI; omega
  have hz := onF_zero h
  unfold sinI
  by_cases c : onF y m d ((tI y' m' - tI y m) / s * s) ≤ numI y' m' d'
  · rw [if_pos c]
    refine ⟨?_, ?_, c, onF_behind h h' ?_⟩ <;> rcases hs with rfl | rfl <;> omega
  · rw [if_neg c]
    have hpos : 1 ≤ (tI y' m' - tI y m) / s := by
      by_cases h1 : 1 ≤ (tI y' m' - tI y m) / s
      · exact h1
      · exfalso
        have h0 : (tI y' m' - tI y m) / s = 0 := by rcases hs with rfl | rfl <;> omega
        rw [h0, Int.zero_mul, hz] at c
        omega
    refine ⟨by omega, ?_, ?_, ?_⟩
    · rcases hs with rfl | rfl <;> omega
    · have := onF_before h h' (k := ((tI y' m' - tI y m) / s - 1) * s) (by rcases hs with rfl | rfl <;> omega) (by rcases hs with rfl | rfl <;> omega)
      omega
    · rw [show (tI y' m' - tI y m) / s - 1 + 1 = (tI y' m' - tI y m) / s by omega]
      omega
/-- there is one such number alone -/
theorem sin_unique {y m d s n n' N : Int} (hd : 1 ≤ d) (ht : 12 ≤ tI y m) (hs : s = 1 ∨ s = 12) (h0 : 0 ≤ n) (h0' : 0 ≤ n') (h1 : onF y m d (n * s) ≤ N) (h2 : N < onF y m d ((n + 1) * s)) (h1' : onF y m d (n' * s) ≤ N) (h2' : N < onF y m d ((n' + 1) * s)) : n = n' := by
  rcases Int.lt_trichotomy n n' with c | c | c
  · exfalso
    by_cases e : n + 1 = n'
    · rw [e] at h2; omega
    · have := onF_lt y m d ((n + 1) * s) (n' * s) hd (by rcases hs with rfl | rfl <;> omega) (by rcases hs with rfl | rfl <;> omega)
      omega
  · exact c
  · exfalso
    by_cases e : n' + 1 = n
    · rw [e] at h2'; omega
    · have := onF_lt y m d ((n' + 1) * s) (n * s) hd (by rcases hs with rfl | rfl <;> omega) (by rcases hs with rfl | rfl <;> omega)
      omega
end Go.Proofs.YtolgljionpalkaaDoor
