/- Plain facts on numbers in limbs. -/
import Derived.Test.YtolgljionpalkaaDoorKit
set_option linter.unusedSimpArgs false
set_option linter.unusedVariables false
namespace Go.Proofs.YtolgljionpalkaaDoor
/-- the number of the limbs F 0 .. F (n - 1) to the base B, the lowest first -/
def vf (B : Nat) (F : Nat → Nat) : Nat → Nat
  | 0 => 0
  | n + 1 => vf B F n + F n * B ^ n
theorem vf_congr {B : Nat} {F G : Nat → Nat} : ∀ n, (∀ i, i < n → F i = G i) → vf B F n = vf B G n
  | 0, _ => rfl
  | n + 1, h => by rw [vf, vf, vf_congr n (fun i hi => h i (by omega)), h n (by omega)]
theorem vf_lt {B : Nat} {F : Nat → Nat} : ∀ n, (∀ i, i < n → F i < B) → vf B F n < B ^ n
  | 0, _ => by simp [vf]
  | n + 1, h => by
    have := vf_lt n (fun i hi => h i (by omega))
    have h2 := h n (by omega)
    have : (F n + 1) * B ^ n ≤ B * B ^ n := Nat.mul_le_mul_right _ h2
    rw [vf, Nat.pow_succ]
    grind
theorem vf_ge {B : Nat} {F : Nat → Nat} {n : Nat} (h0 : 0 < n) (h : F (n - 1) ≠ 0) : B ^ (n - 1) ≤ vf B F n := by
  obtain ⟨m, rfl⟩ : ∃ m, n = m + 1 := ⟨n - 1, by omega⟩
  simp only [Nat.add_sub_cancel] at h ⊢
  rw [vf]
  have : 1 * B ^ m ≤ F m * B ^ m := Nat.mul_le_mul_right _ (by omega)
  omega
/-- how many limbs stay, the noughts at the high end dropped -/
def nrm (F : Nat → Nat) : Nat → Nat
  | 0 => 0
  | n + 1 => if F n = 0 then nrm F n else n + 1
theorem nrm_le (F : Nat → Nat) : ∀ n, nrm F n ≤ n
  | 0 => Nat.le_refl _
  | n + 1 => by rw [nrm]; split; exact Nat.le_succ_of_le (nrm_le F n); exact Nat.le_refl _
theorem vf_nrm (B : Nat) (F : Nat → Nat) : ∀ n, vf B F (nrm F n) = vf B F n
  | 0 => rfl
  | n + 1 => by
    rw [nrm]
    split
    · rename_i h; rw [vf_nrm B F n, vf, h]; simp
    · rfl
theorem nrm_top (F : Nat → Nat) : ∀ n, 0 < nrm F n → F (nrm F n - 1) ≠ 0
  | 0, h => by simp [nrm] at h
  | n + 1, h => by
    rw [nrm] at h ⊢
    split
    · rename_i h0; rw [if_pos h0] at h; exact nrm_top F n h
    · rename_i h0; simpa using h0
theorem vf_shift (B : Nat) (F : Nat → Nat) (m : Nat) : ∀ n, vf B F (m + n) = vf B F m + B ^ m * vf B (fun i => F (m + i)) n
  | 0 => by simp [vf]
  | n + 1 => by
    rw [← Nat.add_assoc, vf, vf, vf_shift B F m n, Nat.pow_add]
    grind
/-- one limb set -/
def upd (F : Nat → Nat) (i x : Nat) : Nat → Nat := fun j => if j = i then x else F j
theorem upd_same (F : Nat → Nat) (i x : Nat) : upd F i x i = x := by simp [upd]
theorem upd_other {F : Nat → Nat} {i x j : Nat} (h : j ≠ i) : upd F i x j = F j := by simp [upd, h]
theorem vf_upd_ge {B : Nat} {F : Nat → Nat} {i x n : Nat} (h : n ≤ i) : vf B (upd F i x) n = vf B F n := vf_congr n fun j hj => upd_other (by omega)
theorem vf_upd_succ {B : Nat} {F : Nat → Nat} {i x : Nat} : vf B (upd F i x) (i + 1) = vf B F i + x * B ^ i := by rw [vf, upd_same, vf_upd_ge (Nat.le_refl _)]
theorem vf_zero (B : Nat) (F : Nat → Nat) : ∀ n, (∀ i, i < n → F i = 0) → vf B F n = 0
  | 0, _ => rfl
  | n + 1, h => by rw [vf, vf_zero B F n (fun i hi => h i (by omega)), h n (by omega)]; simp
/-- equal numbers have equal limbs -/
theorem vf_inj {B : Nat} {F G : Nat → Nat} : ∀ n, (∀ i, i < n → F i < B) → (∀ i, i < n → G i < B) → vf B F n = vf B G n → ∀ i, i < n → F i = G i
  | 0, _, _, _, i, hi => by omega
  | n + 1, hF, hG, h, i, hi => by
    rw [vf, vf] at h
    have a := vf_lt n (fun i hi => hF i (by omega))
    have b := vf_lt n (fun i hi => hG i (by omega))
    have e : F n = G n := by
      rcases Nat.lt_trichotomy (F n) (G n) with c | c | c
      · have : (F n + 1) * B ^ n ≤ G n * B ^ n := Nat.mul_le_mul_right _ c
        rw [Nat.add_mul] at this; omega
      · exact c
      · have : (G n + 1) * B ^ n ≤ F n * B ^ n := Nat.mul_le_mul_right _ c
        rw [Nat.add_mul] at this; omega
    by_cases c : i = n
    · rw [c]; exact e
    · exact vf_inj n (fun i hi => hF i (by omega)) (fun i hi => hG i (by omega)) (by rw [e] at h; omega) i (by omega)
theorem pow_len {B : Nat} (hB : 1 < B) {n m : Nat} (h : B ^ n < B ^ m) : n < m := (Nat.pow_lt_pow_iff_right hB).1 h
/-- one number has one length -/
theorem vf_len {B : Nat} (hB : 1 < B) {F G : Nat → Nat} {n m : Nat} (hF : ∀ i, i < n → F i < B) (hG : 0 < m → G (m - 1) ≠ 0) (h : vf B G m ≤ vf B F n) : m ≤ n := by
  rcases Nat.eq_zero_or_pos m with c | c
  · omega
  · have := vf_ge (B := B) c (hG c)
    have := vf_lt n hF
    have := pow_len hB (by omega : B ^ (m - 1) < B ^ n)
    omega
theorem vf_pos {B : Nat} (hB : 1 < B) {F : Nat → Nat} {n : Nat} (h0 : 0 < n) (h : F (n - 1) ≠ 0) : 0 < vf B F n := Nat.lt_of_lt_of_le (Nat.pow_pos (by omega)) (vf_ge h0 h)
end Go.Proofs.YtolgljionpalkaaDoor
