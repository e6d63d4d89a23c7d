/- tontinebase: NatOf, NatOf64, Text, Whole. -/
import Derived.Test.YtolgljionpalkaaDoorBigD
import Derived.Test.YtolgljionpalkaaDoorBigP
set_option linter.unusedSimpArgs false
set_option linter.unusedVariables false
namespace Go.Proofs.YtolgljionpalkaaDoor
open Go.RowKit Go.BigFrame
theorem infoByte : (Tryd.prog.info? 5).map (fun i => (i.zero, i.size, i.bytes)) = some (some (.int .u8 0), 1, 1) := by kernel_rfl
/-- how many limbs are done, and how great what is left may be -/
def lim (p : Nat) (j m : Nat) : Prop := (j = 0 ∧ m < 2 ^ p) ∨ (j = 1 ∧ m < 2 ^ (p - 30)) ∨ (j = 2 ∧ m < 2 ^ (p - 60)) ∨ (j = 3 ∧ m = 0)
theorem lim_step {p j m : Nat} (hp : p = 63 ∨ p = 64) (h : lim p j m) (h0 : 0 < m) : j ≤ 2 ∧ lim p (j + 1) (m / 1073741824) := by
  unfold lim at h ⊢
  rcases hp with rfl | rfl <;> omega
theorem limb_step (v m P : Nat) : v + m % 1073741824 * P + m / 1073741824 * (P * 1073741824) = v + m * P := by
  have := Nat.div_add_mod m 1073741824
  grind
set_option maxHeartbeats 8000000 in
set_option maxRecDepth 100000 in
theorem natof_any (n : Nat) (hn : n < 9223372036854775808) (w : World) :
    Calls Tryd.prog 69 #[.int .i64 (n : Nat)] w fun e w' => ∃ v, e = .returned v ∧ Num w' 3 .i64 1073741824 v n ∧ Below w.heap.size w w' := by
  go_enter Tryd.func69, Tryd.ntmps69
  go_wp2
  go_loopg [0, 3] n (fun g i v wr => ∃ (m j : Nat) (F : Nat → Nat), i = .int .i64 (m : Nat) ∧ m ≤ g ∧ m ≤ n ∧ Hid (lim 63 j m) ∧ Hid (vf 1073741824 F j + m * 1073741824 ^ j = n) ∧ Hid (∀ i, i < j → F i < 1073741824) ∧ Hid (m = 0 → 0 < j → F (j - 1) ≠ 0) ∧ Ow wr w.heap.size 3 .i64 v j F ∧ Below w.heap.size w wr)
  case atStart => exact ⟨n, 0, fun _ => 0, rfl, Nat.le_refl _, Nat.le_refl _, Lib.hid (.inl ⟨rfl, hn⟩), Lib.hid (by simp [vf]), Lib.hid (fun i hi => by omega), Lib.hid (fun _ h => by omega), World.ownsRow_nil _ _ _ _, Below.refl _ _⟩
  case round =>
    obtain ⟨m, j, F, rfl, hg, hm, hl, hI, hF, ht, ho, br⟩ := hrel
    by_cases h0 : 0 < m
    · have hj := (lim_step (.inl rfl) hl.out h0).1
      have bs := br.size
      go_wp2_with (at_builtin; refine wpList_append_num _ _ rfl _ _ 83 rfl w.heap.size 3 .i64 8 Tryd.underlying83 infoInt _ j F (m % 1073741824) ((m : Int) % 1073741824) (by rfl) (by rfl) (by rfl) ho (by omega) (by simp only [maxLen]; omega) br.size ?_; intro v' w1 ho' hb _)
      go_wp2
      go_roundg (gk - 1)
      case measure => omega
      case rel =>
        refine ⟨m / 1073741824, j + 1, upd F j (m % 1073741824), rfl, by omega, by omega, Lib.hid (lim_step (.inl rfl) hl.out h0).2, Lib.hid ?_, Lib.hid (fun i hi => ?_), Lib.hid (fun hz _ => ?_), ho', br.trans hb⟩
        · rw [vf_upd_succ, Nat.pow_succ, limb_step]; exact hI.out
        · unfold upd; split
          · exact Nat.mod_lt _ (by decide)
          · exact hF.out i (by omega)
        · rw [Nat.add_sub_cancel, upd_same]; omega
    · obtain rfl : m = 0 := by omega
      obtain ⟨A, c, rfl, h1, h2, h3⟩ := ho.form
      have ht2 := Lib.hid (ht.out rfl)
      clear ht
      go_wp2
      go_ret
      exact ⟨_, rfl, ⟨A, j, c, F, rfl, h1, h2, ho.rd, hF.out, ht2.out, by have := hI.out; simpa using this⟩, br⟩
set_option maxHeartbeats 8000000 in
set_option maxRecDepth 100000 in
theorem natof64_any (n : Nat) (hn : n < 18446744073709551616) (w : World) :
    Calls Tryd.prog 67 #[.int .u64 (n : Nat)] w fun e w' => ∃ v, e = .returned v ∧ Num w' 3 .i64 1073741824 v n ∧ Below w.heap.size w w' := by
  go_enter Tryd.func67, Tryd.ntmps67
  go_wp2
  go_loopg [0, 3] n (fun g i v wr => ∃ (m j : Nat) (F : Nat → Nat), i = .int .u64 (m : Nat) ∧ m ≤ g ∧ m ≤ n ∧ Hid (lim 64 j m) ∧ Hid (vf 1073741824 F j + m * 1073741824 ^ j = n) ∧ Hid (∀ i, i < j → F i < 1073741824) ∧ Hid (m = 0 → 0 < j → F (j - 1) ≠ 0) ∧ Ow wr w.heap.size 3 .i64 v j F ∧ Below w.heap.size w wr)
  case atStart => exact ⟨n, 0, fun _ => 0, rfl, Nat.le_refl _, Nat.le_refl _, Lib.hid (.inl ⟨rfl, hn⟩), Lib.hid (by simp [vf]), Lib.hid (fun i hi => by omega), Lib.hid (fun _ h => by omega), World.ownsRow_nil _ _ _ _, Below.refl _ _⟩
  case round =>
    obtain ⟨m, j, F, rfl, hg, hm, hl, hI, hF, ht, ho, br⟩ := hrel
    by_cases h0 : 0 < m
    · have hj := (lim_step (.inr rfl) hl.out h0).1
      have bs := br.size
      go_wp2_with (at_builtin; refine wpList_append_num _ _ rfl _ _ 83 rfl w.heap.size 3 .i64 8 Tryd.underlying83 infoInt _ j F (m % 1073741824) ((m : Int) % 1073741824) (by rfl) (by rfl) (by rfl) ho (by omega) (by simp only [maxLen]; omega) br.size ?_; intro v' w1 ho' hb _)
      go_wp2
      go_roundg (gk - 1)
      case measure => omega
      case rel =>
        refine ⟨m / 1073741824, j + 1, upd F j (m % 1073741824), rfl, by omega, by omega, Lib.hid (lim_step (.inr rfl) hl.out h0).2, Lib.hid ?_, Lib.hid (fun i hi => ?_), Lib.hid (fun hz _ => ?_), ho', br.trans hb⟩
        · rw [vf_upd_succ, Nat.pow_succ, limb_step]; exact hI.out
        · unfold upd; split
          · exact Nat.mod_lt _ (by decide)
          · exact hF.out i (by omega)
        · rw [Nat.add_sub_cancel, upd_same]; omega
    · obtain rfl : m = 0 := by omega
      obtain ⟨A, c, rfl, h1, h2, h3⟩ := ho.form
      have ht2 := Lib.hid (ht.out rfl)
      clear ht
      go_wp2
      go_ret
      exact ⟨_, rfl, ⟨A, j, c, F, rfl, h1, h2, ho.rd, hF.out, ht2.out, by have := hI.out; simpa using this⟩, br⟩
end Go.Proofs.YtolgljionpalkaaDoor
