/- tontinebase: small. -/
import Derived.Test.YtolgljionpalkaaDoorBigC
set_option linter.unusedSimpArgs false
set_option linter.unusedVariables false
namespace Go.Proofs.YtolgljionpalkaaDoor
open Go.RowKit Go.BigFrame
theorem infoInt : (Tryd.prog.info? 3).map (fun i => (i.zero, i.size, i.bytes)) = some (some (.int .i64 0), 1, 8) := by kernel_rfl
/-- one step of a long division, the limbs from above -/
theorem div_step {B d F G1 r H : Nat} (h : H = d * G1 + r) (hr : r < d) : F + B * H = d * ((r * B + F) / d + B * G1) + (r * B + F) % d := by
  have := Nat.div_add_mod (r * B + F) d
  subst h
  grind
theorem cast_div (R F d : Nat) : ((R : Int) * 1073741824 + (F : Int)) / (d : Int) = ((R * 1073741824 + F) / d : Nat) := by rw [Int.natCast_ediv, Int.natCast_add, Int.natCast_mul]; rfl
theorem cast_mod (R F d : Nat) : ((R : Int) * 1073741824 + (F : Int)) % (d : Int) = ((R * 1073741824 + F) % d : Nat) := by rw [Int.natCast_emod, Int.natCast_add, Int.natCast_mul]; rfl
theorem vf_cons (B : Nat) (F : Nat → Nat) (m k : Nat) : vf B (fun i => F (m + i)) (k + 1) = F m + B * vf B (fun i => F (m + 1 + i)) k := by
  rw [Nat.add_comm k 1, vf_shift]
  simp [vf, Nat.add_assoc]
set_option maxHeartbeats 8000000 in
theorem small_any {e : TypeId} {A : Option Addr} {n c : Nat} {F : Nat → Nat} (d : Nat) (hd : 0 < d) (hd2 : d ≤ 1073741824) (w : World) (h : Rd w e .i64 A n F) (hn : n ≤ c) (hc : c ≤ maxLen) (hF : ∀ i, i < n → F i < 1073741824) (hs : n ≤ 35184372088832) :
    Calls Tryd.prog 70 #[.slice A n c, .int .i64 (d : Nat)] w fun e w' => ∃ v, e = .returned (.tuple #[v, .int .i64 ((vf 1073741824 F n % d : Nat) : Int)]) ∧ Num w' 3 .i64 1073741824 v (vf 1073741824 F n / d) ∧ Fresh w.heap.size v ∧ Below w.heap.size w w' := by
  have hm : c ≤ 9223372036854775807 := by simpa [maxLen] using hc
  go_enter Tryd.func70, Tryd.ntmps70
  go_wp2_with (refine wpList_make_num _ rfl _ _ _ rfl w.heap.size 3 .i64 8 Tryd.underlying83 infoInt .i64 .i64 n n n rfl rfl rfl rfl (by omega) (by simp only [maxLen]; omega) (Nat.le_refl _) ?_; intro w1 ho b1)
  go_wp2
  go_loopg [7, 8] n (fun g r i wr => ∃ (m R : Nat) (G : Nat → Nat), i = .int .i64 ((m : Nat) - 1 : Int) ∧ r = .int .i64 (R : Nat) ∧ m ≤ n ∧ m ≤ g ∧ R < d ∧ (∀ i, i < n → G i < 1073741824) ∧
    Hid (vf 1073741824 (fun i => F (m + i)) (n - m) = d * vf 1073741824 (fun i => G (m + i)) (n - m) + R) ∧ Ow wr w.heap.size 3 .i64 (.slice (some ⟨w.heap.size, 0, none⟩) n n) n G ∧ Below w.heap.size w wr)
  case atStart => exact ⟨n, 0, _, rfl, rfl, Nat.le_refl _, Nat.le_refl _, hd, fun _ _ => by omega, Lib.hid (by rw [Nat.sub_self]; rfl), ho, b1⟩
  case round =>
    clear ho b1
    obtain ⟨m, R, G, rfl, rfl, hmn, hg, hR, hG, hI, ho, br⟩ := hrel
    by_cases h0 : 0 < m
    · obtain ⟨k, rfl⟩ : ∃ k, m = k + 1 := ⟨m - 1, by omega⟩
      obtain ⟨g, o, rfl⟩ := h.some (by omega)
      have hcell := (h.below br).cell g o rfl k (by omega)
      have hFk := hF k (by omega)
      have hoc := ho.at (i := k) (by omega)
      have hof := ho.froz k
      go_wp2
      go_roundg (gk - 1)
      case measure => omega
      case rel =>
        have hq : (R * 1073741824 + F k) / d < 1073741824 := (Nat.div_lt_iff_lt_mul hd).2 (by
          have : (R + 1) * 1073741824 ≤ d * 1073741824 := Nat.mul_le_mul_right _ hR
          omega)
        refine ⟨k, (R * 1073741824 + F k) % d, upd G k ((R * 1073741824 + F k) / d), rfl, by rw [← cast_mod], by omega, by omega, Nat.mod_lt _ hd, fun i hi => ?_, Lib.hid ?_, ?_, br.setCell (Nat.le_refl _) _⟩
        · unfold upd; split
          · exact hq
          · exact hG i hi
        · rw [show n - k = (n - (k + 1)) + 1 by omega, vf_cons, vf_cons, upd_same, vf_congr (F := fun i => upd G k _ (k + 1 + i)) (G := fun i => G (k + 1 + i)) _ (fun i hi => upd_other (by omega))]
          exact div_step hI.out hR
        · have := ho.set (i := k) (x := (R * 1073741824 + F k) / d)
          rw [← cast_div] at this
          exact this
    · obtain rfl : m = 0 := by omega
      have e0 : vf 1073741824 F n = d * vf 1073741824 G n + R := by have := hI.out; simpa using this
      clear hI
      have hq : vf 1073741824 F n / d = vf 1073741824 G n := by rw [e0, Nat.mul_add_div hd, Nat.div_eq_of_lt hR]; rfl
      have hr : R = vf 1073741824 F n % d := by rw [e0, Nat.mul_add_mod, Nat.mod_eq_of_lt hR]
      clear e0
      replace hq := Lib.hid hq
      replace hr := Lib.hid hr
      go_wp2_with fail
      refine (norm_any _ ho.rd (Nat.le_refl _) (by simp only [maxLen]; omega)).mono ?_
      rintro e w2 ⟨rfl, hb⟩
      go_wp2
      go_ret2
      exact ⟨_, by rw [← hr.out]; rfl, by rw [hq.out]; exact (ho.rd.num (Nat.le_refl _) (by simp only [maxLen]; omega) hG).below hb, fun g hg => by cases hg; exact Nat.le_refl _, b_step br hb⟩
end Go.Proofs.YtolgljionpalkaaDoor
