/- Plain facts: bits, decimal digits. -/
import Derived.Test.YtolgljionpalkaaDoorBigA
set_option linter.unusedSimpArgs false
set_option linter.unusedVariables false
namespace Go.Proofs.YtolgljionpalkaaDoor
/-- how many bits a number has -/
def bits (a : Nat) : Nat := if a = 0 then 0 else a.log2 + 1
theorem bits_le {a k : Nat} : bits a ≤ k ↔ a < 2 ^ k := by
  unfold bits
  split
  · rename_i h; subst h; simp [Nat.pow_pos]
  · rename_i h; rw [← Nat.log2_lt h]; omega
theorem lt_bits (a : Nat) : a < 2 ^ bits a := bits_le.1 (Nat.le_refl _)
theorem bits_mono {a b : Nat} (h : a ≤ b) : bits a ≤ bits b := bits_le.2 (Nat.lt_of_le_of_lt h (lt_bits b))
theorem bits_mul (a b : Nat) : bits (a * b) ≤ bits a + bits b := by
  rw [bits_le, Nat.pow_add]
  rcases Nat.eq_zero_or_pos b with h | h
  · subst h; rw [Nat.mul_zero]; exact Nat.mul_pos (Nat.pow_pos (by decide)) (Nat.pow_pos (by decide))
  · exact Nat.lt_of_lt_of_le (Nat.mul_lt_mul_of_pos_right (lt_bits a) h) (Nat.mul_le_mul_left _ (Nat.le_of_lt (lt_bits b)))
theorem bits_add (a b : Nat) : bits (a + b) ≤ max (bits a) (bits b) + 1 := by
  rw [bits_le, Nat.pow_succ]
  have h1 : 2 ^ bits a ≤ 2 ^ max (bits a) (bits b) := Nat.pow_le_pow_right (by decide) (by omega)
  have h2 : 2 ^ bits b ≤ 2 ^ max (bits a) (bits b) := Nat.pow_le_pow_right (by decide) (by omega)
  have := lt_bits a; have := lt_bits b; omega
theorem bits_pow_le {a k : Nat} (h : 2 ^ k ≤ a) : k < bits a := by
  rcases Nat.lt_or_ge k (bits a) with c | c
  · exact c
  · exact absurd (bits_le.1 c) (by omega)
theorem bits_zero : bits 0 = 0 := rfl
theorem bits_div (a b : Nat) : bits (a / b) ≤ bits a := bits_mono (Nat.div_le_self _ _)
theorem bits_mod (a b : Nat) : bits (a % b) ≤ bits a := bits_mono (Nat.mod_le _ _)
/-- the number of limbs (of s bits) by the number's bits -/
theorem len_bits {s : Nat} {F : Nat → Nat} {n : Nat} (h : 0 < n → F (n - 1) ≠ 0) : s * n ≤ bits (vf (2 ^ s) F n) + s := by
  rcases Nat.eq_zero_or_pos n with c | c
  · subst c; simp
  · have h1 := vf_ge (B := 2 ^ s) c (h c)
    rw [← Nat.pow_mul] at h1
    have h2 := bits_pow_le h1
    obtain ⟨m, rfl⟩ : ∃ m, n = m + 1 := ⟨n - 1, by omega⟩
    simp only [Nat.add_sub_cancel] at h2
    rw [Nat.mul_add]; omega
/-- the decimal digits, the highest first -/
def decN (n : Nat) : List Nat := if h : n < 10 then [n] else decN (n / 10) ++ [n % 10]
decreasing_by omega
theorem decN_small {n : Nat} (h : n < 10) : decN n = [n] := by rw [decN, dif_pos h]
theorem decN_big {n : Nat} (h : 10 ≤ n) : decN n = decN (n / 10) ++ [n % 10] := by rw [decN, dif_neg (by omega)]
theorem decN_ne (n : Nat) : decN n ≠ [] := by rw [decN]; split <;> simp
theorem decN_len_pos (n : Nat) : 0 < (decN n).length := List.length_pos_iff.2 (decN_ne n)
theorem decN_dig (n : Nat) : ∀ d ∈ decN n, d < 10 := by
  induction n using Nat.strongRecOn with
  | _ n ih =>
    intro d hd
    by_cases h : n < 10
    · rw [decN_small h] at hd; simp at hd; omega
    · rw [decN_big (by omega)] at hd
      rcases List.mem_append.1 hd with h1 | h1
      · exact ih _ (by omega) d h1
      · simp at h1; omega
theorem decN_len (n : Nat) : (decN n).length ≤ bits n + 1 := by
  induction n using Nat.strongRecOn with
  | _ n ih =>
    by_cases h : n < 10
    · rw [decN_small h]; simp
    · rw [decN_big (by omega), List.length_append, List.length_singleton]
      have h1 := ih (n / 10) (by omega)
      have h2 : bits (n / 10) + 1 ≤ bits n := by
        have := lt_bits n
        have h3 : n / 10 < 2 ^ (bits n - 1) := by
          have : 2 ^ bits n = 2 ^ (bits n - 1) * 2 := by
            rw [← Nat.pow_succ]; congr 1
            have := bits_pow_le (a := n) (k := 0) (by simp; omega)
            omega
          omega
        have := bits_le.2 h3
        have := bits_pow_le (a := n) (k := 0) (by simp; omega)
        omega
      omega
def decS (n : Nat) : ByteArray := ⟨((decN n).map fun d => UInt8.ofNat (48 + d)).toArray⟩
theorem decS_size (n : Nat) : (decS n).size = (decN n).length := by simp [decS, ByteArray.size]
/-- the number of the first n digits (as bytes), the highest first -/
def md (D : Nat → Nat) : Nat → Nat
  | 0 => 0
  | n + 1 => 10 * md D n + (D n - 48)
theorem md_congr {D E : Nat → Nat} : ∀ n, (∀ i, i < n → D i = E i) → md D n = md E n
  | 0, _ => rfl
  | n + 1, h => by rw [md, md, md_congr n (fun i hi => h i (by omega)), h n (by omega)]
theorem md_zero {D : Nat → Nat} : ∀ n, (∀ i, i < n → D i = 48) → md D n = 0
  | 0, _ => rfl
  | n + 1, h => by rw [md, md_zero n (fun i hi => h i (by omega)), h n (by omega)]
theorem md_dec {D : Nat → Nat} {k : Nat} (h0 : ∀ i, i < k → D i = 48) (hk : D k ≠ 48) : ∀ m, (∀ i, i < k + 1 + m → 48 ≤ D i ∧ D i ≤ 57) →
    0 < md D (k + 1 + m) ∧ decN (md D (k + 1 + m)) = (List.range (m + 1)).map fun i => D (k + i) - 48
  | 0, h => by
    have z := md_zero k h0
    have := h k (by omega)
    have e : md D (k + 1) = D k - 48 := by rw [md, z]; omega
    refine ⟨by show 0 < md D (k + 1); rw [e]; omega, ?_⟩
    show decN (md D (k + 1)) = _
    rw [e, decN_small (by omega)]
    simp
  | m + 1, h => by
    obtain ⟨p, q⟩ := md_dec h0 hk m (fun i hi => h i (by omega))
    have := h (k + 1 + m) (by omega)
    have e : md D (k + 1 + (m + 1)) = 10 * md D (k + 1 + m) + (D (k + 1 + m) - 48) := rfl
    refine ⟨by omega, ?_⟩
    rw [e, decN_big (by omega), List.range_succ, List.map_append, ← q]
    congr 1
    · congr 1; omega
    · simp; rw [show k + (m + 1) = k + 1 + m by omega]; omega
end Go.Proofs.YtolgljionpalkaaDoor
