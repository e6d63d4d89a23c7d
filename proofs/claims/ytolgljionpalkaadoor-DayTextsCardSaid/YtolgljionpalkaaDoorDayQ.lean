/- works, right; the law DayMonths. -/
import Derived.Test.YtolgljionpalkaaDoorDayP
import Derived.Test.YtolgljionpalkaaDoorDayD
set_option linter.unusedSimpArgs false
set_option linter.unusedVariables false
namespace Go.Proofs.YtolgljionpalkaaDoor
open Go.RowKit Go.BigFrame
theorem right_is {y m d : Int} {b : Bool} (h : Hid (goodB y m d = b)) (w : World) (hT : TabOk w) :
    Calls Tryd.prog 46 #[.agg #[.int .i64 y, .int .i64 m, .int .i64 d]] w fun e w' => e = .returned (.bool b) ∧ Below w.heap.size w w' := by
  cases b with
  | true =>
    go_enter Tryd.func46, Tryd.ntmps46
    go_wp2_with fail
    refine (check_good h _ (hT.below (b_alloc (Below.refl w.heap.size w) _))).mono ?_
    rintro e w1 ⟨rfl, hb⟩
    have hA := ((Blk.new_at (w := w) (g := w.heap.size) (by simp) 29 #[.int .i64 y, .int .i64 m, .int .i64 d])).below hb; have kA := hA.cell; have lA := hA.lt; have fA := hA.froz
    have b1 := b_step (b_alloc (Below.refl w.heap.size w) _) hb; clear hb
    go_wp2
    go_ret
    exact ⟨rfl, b1⟩
  | false =>
    go_enter Tryd.func46, Tryd.ntmps46
    go_wp2_with fail
    refine (check_bad h _ (hT.below (b_alloc (Below.refl w.heap.size w) _))).mono ?_
    rintro e w1 ⟨rfl, hb⟩
    have hA := ((Blk.new_at (w := w) (g := w.heap.size) (by simp) 29 #[.int .i64 y, .int .i64 m, .int .i64 d])).below hb; have kA := hA.cell; have lA := hA.lt; have fA := hA.froz
    have b1 := b_step (b_alloc (Below.refl w.heap.size w) _) hb; clear hb
    go_wp2
    go_ret
    exact ⟨rfl, b1⟩
theorem months_no {y m d n : Int} (h : Hid (goodB y m d = true)) (hn : ¬ moG y m d n) (w : World) (hT : TabOk w) :
    Calls Tryd.prog 37 #[.agg #[.int .i64 y, .int .i64 m, .int .i64 d], .int .i64 n] w fun e w' => e = .returned (.tuple #[.agg #[.int .i64 0, .int .i64 0, .int .i64 0], .int .i64 1]) ∧ Below w.heap.size w w' := by
  have := months_any y m d n w hT
  rwa [(moP_far h hn).1, (moP_far h hn).2] at this
theorem months_yes {y m d n : Int} (h : Hid (goodB y m d = true)) (hn : moG y m d n) (w : World) (hT : TabOk w) :
    Calls Tryd.prog 37 #[.agg #[.int .i64 y, .int .i64 m, .int .i64 d], .int .i64 n] w fun e w' => e = .returned (.tuple #[.agg #[.int .i64 (moD y m d n).1, .int .i64 (moD y m d n).2.1, .int .i64 (moD y m d n).2.2], .int .i64 0]) ∧ Below w.heap.size w w' := by
  have := months_any y m d n w hT
  rwa [(moP_yes h hn).1, (moP_yes h hn).2] at this
set_option maxHeartbeats 2000000 in
theorem works_any (w : World) (hT : TabOk w) : Calls Tryd.prog 45 #[] w fun e w' => e = .returned (.bool true) ∧ Below w.heap.size w w' := by
  have eqd := eq_date
  have h1 := Lib.hid (fun W (t : TabOk W) => Number_good (y := 1970) (m := 1) (d := 1) (Lib.hid (by decide)) W t)
  rw [show numI 1970 1 1 = 719163 by decide] at h1
  have h2 := Lib.hid (fun W (t : TabOk W) => months_yes (y := 2024) (m := 1) (d := 31) (n := 1) (Lib.hid (by decide)) (by decide) W t)
  rw [show moD 2024 1 31 1 = (2024, 2, 29) by decide] at h2
  have h3 := Lib.hid (fun W (t : TabOk W) => age_good (y := 2000) (m := 2) (d := 29) (y' := 2023) (m' := 2) (d' := 28) 1 (Lib.hid (by decide)) (Lib.hid (by decide)) (by decide) W t)
  rw [if_pos (by omega), if_pos (by omega), show agI 1 (sinI 2000 2 29 2023 2 28 12) (numI 2023 2 28 - onF 2000 2 29 (12 * sinI 2000 2 29 2023 2 28 12)) (onF 2000 2 29 (12 * (sinI 2000 2 29 2023 2 28 12 + 1)) - numI 2023 2 28) = 23 by decide] at h3
  have h4 := Lib.hid (fun W => Easter_yes 2024 (by decide) W)
  rw [show eaM 2024 = 3 by decide +kernel, show eaD 2024 = 31 by decide +kernel] at h4
  go_enter Tryd.func45, Tryd.ntmps45
  go_wp2_with fail
  refine (h1.out _ (hT.below (Below.refl w.heap.size w))).mono ?_
  rintro e w1 ⟨rfl, hb⟩
  have b1 := b_step (Below.refl w.heap.size w) hb; clear hb
  go_wp2_with fail
  refine (h2.out _ (hT.below (b1))).mono ?_
  rintro e w2 ⟨rfl, hb⟩
  have b2 := b_step (b1) hb; clear hb
  go_wp2_with fail
  refine (h3.out _ (hT.below (b_alloc (b2) _))).mono ?_
  rintro e w3 ⟨rfl, hb⟩
  have hX := ((Blk.new_at (w := w2) (g := w2.heap.size) (by simp) 29 #[.int .i64 2024, .int .i64 2, .int .i64 29])).below hb; have kX := hX.cell; have lX := hX.lt; have fX := hX.froz
  have b3 := b_step (b_alloc (b2) _) hb; clear hb
  go_wp2_with fail
  refine (h4.out _).mono ?_
  rintro e w4 ⟨rfl, hb⟩
  have hX := (hX).below hb; clear kX lX fX; have kX := hX.cell; have lX := hX.lt; have fX := hX.froz
  have b4 := b_step (b3) hb; clear hb
  go_wp2
  go_ret
  exact ⟨rfl, b_alloc (b4) _⟩
theorem modB (p : Int) : -2000 ≤ wrap64 (wrap64 ((IntKind.u64.wrap p).tmod 4000) - 2000) ∧ wrap64 (wrap64 ((IntKind.u64.wrap p).tmod 4000) - 2000) ≤ 1999 := by
  have h0 : 0 ≤ IntKind.u64.wrap p := by
    simp only [IntKind.wrap_u64]
    exact Int.emod_nonneg _ (by decide)
  have h1 := Int.tmod_nonneg 4000 h0
  have h2 := Int.tmod_lt_of_pos (IntKind.u64.wrap p) (show (0 : Int) < 4000 by decide)
  generalize (IntKind.u64.wrap p).tmod 4000 = x at *
  unfold wrap64; omega
theorem mnI_or (d l : Int) : (mnI d l = d ∧ d ≤ l) ∨ (mnI d l = l ∧ l < d) := by unfold mnI; split <;> omega
theorem moD_moD {y m d p n : Int} (h : goodB y m d = true) (hp : moG y m d p) (hn : moG y m d (p + n)) :
    (moD (moD y m d p).1 (moD y m d p).2.1 (moD y m d p).2.2 n).1 = (moD y m d (p + n)).1 ∧ (moD (moD y m d p).1 (moD y m d p).2.1 (moD y m d p).2.2 n).2.1 = (moD y m d (p + n)).2.1 ∧
    (moD (moD y m d p).1 (moD y m d p).2.1 (moD y m d p).2.2 n).2.2 ≤ (moD y m d (p + n)).2.2 ∧ ((moD y m d p).2.2 = d → (moD (moD y m d p).1 (moD y m d p).2.1 (moD y m d p).2.2 n).2.2 = (moD y m d (p + n)).2.2) ∧
    (moD y m d p).2.2 ≤ d ∧ (d ≤ 28 → (moD y m d p).2.2 = d) ∧ (d ≤ (moD y m d (p + n)).2.2 ∨ 28 ≤ (moD y m d (p + n)).2.2) := by
  obtain ⟨a1, a2, a3, a4, a5, a6⟩ := (goodB_iff _ _ _).1 h
  have e : 12 * (moD y m d p).1 + (moD y m d p).2.1 - 1 + n = 12 * y + m - 1 + (p + n) := by unfold moD; simp only []; omega
  have l1 := lenF_lo (moD y m d p).1 (moD y m d p).2.1 (by unfold moD; simp only []; omega) (by unfold moD; simp only []; omega)
  have l2 := lenF_lo (moD y m d (p + n)).1 (moD y m d (p + n)).2.1 (by unfold moD; simp only []; omega) (by unfold moD; simp only []; omega)
  have e1 : (moD y m d p).2.2 = mnI d (lenF (moD y m d p).1 (moD y m d p).2.1) := rfl
  have e2 : (moD y m d (p + n)).2.2 = mnI d (lenF (moD y m d (p + n)).1 (moD y m d (p + n)).2.1) := rfl
  have e3 : (moD (moD y m d p).1 (moD y m d p).2.1 (moD y m d p).2.2 n).1 = (moD y m d (p + n)).1 := by
    show (12 * (moD y m d p).1 + (moD y m d p).2.1 - 1 + n) / 12 = (12 * y + m - 1 + (p + n)) / 12
    rw [e]
  have e4 : (moD (moD y m d p).1 (moD y m d p).2.1 (moD y m d p).2.2 n).2.1 = (moD y m d (p + n)).2.1 := by
    show (12 * (moD y m d p).1 + (moD y m d p).2.1 - 1 + n) % 12 + 1 = (12 * y + m - 1 + (p + n)) % 12 + 1
    rw [e]
  have e5 : (moD (moD y m d p).1 (moD y m d p).2.1 (moD y m d p).2.2 n).2.2 = mnI (moD y m d p).2.2 (lenF (moD y m d (p + n)).1 (moD y m d (p + n)).2.1) := by
    rw [← e3, ← e4]; rfl
  refine ⟨e3, e4, ?_⟩
  rw [e5, e2]
  rw [e1]
  generalize lenF (moD y m d p).1 (moD y m d p).2.1 = L1 at *
  generalize lenF (moD y m d (p + n)).1 (moD y m d (p + n)).2.1 = L2 at *
  have A := mnI_or d L1
  have B := mnI_or d L2
  have C := mnI_or (mnI d L1) L2
  refine ⟨?_, ?_, ?_, ?_, ?_⟩
  · omega
  · intro hd; rw [hd]
  · omega
  · intro hd; omega
  · omega
set_option maxHeartbeats 2000000 in
theorem months_law_bad {y m d : Int} (p n : Int) (w : World) (hT : TabOk w) (hg : Hid (goodB y m d = false)) :
    Calls Tryd.prog 10 #[.agg #[.int .i64 y, .int .i64 m, .int .i64 d], .int .i64 p, .int .i64 n] w fun e w' => e = .returned (.bool true) ∧ Below w.heap.size w w' := by
  have eqd := eq_date
  go_enter Tryd.func10, Tryd.ntmps10
  go_wp2_with fail
  refine (works_any _ (hT.below (b_alloc (Below.refl w.heap.size w) _))).mono ?_
  rintro e w1 ⟨rfl, hb⟩
  have hA := ((Blk.new_at (w := w) (g := w.heap.size) (by simp) 29 #[.int .i64 y, .int .i64 m, .int .i64 d])).below hb; have kA := hA.cell; have lA := hA.lt; have fA := hA.froz
  have b1 := b_step (b_alloc (Below.refl w.heap.size w) _) hb; clear hb
  go_wp2_with fail
  generalize hX : wrap64 (wrap64 ((IntKind.u64.wrap p).tmod 4000) - 2000) = X
  generalize hY : wrap64 (wrap64 ((IntKind.u64.wrap n).tmod 4000) - 2000) = Y
  have hXb : -2000 ≤ X ∧ X ≤ 1999 := by rw [← hX]; exact modB p
  have hYb : -2000 ≤ Y ∧ Y ≤ 1999 := by rw [← hY]; exact modB n
  clear hX hY
  refine (right_is hg _ (hT.below (b1))).mono ?_
  rintro e w2 ⟨rfl, hb⟩
  have hA := (hA).below hb; clear kA lA fA; have kA := hA.cell; have lA := hA.lt; have fA := hA.froz
  have b2 := b_step (b1) hb; clear hb
  go_wp2
  go_ret
  exact ⟨rfl, b2⟩
set_option maxHeartbeats 2000000 in
theorem months_law_good {y m d : Int} (p n : Int) (w : World) (hT : TabOk w) (hg : Hid (goodB y m d = true)) :
    Calls Tryd.prog 10 #[.agg #[.int .i64 y, .int .i64 m, .int .i64 d], .int .i64 p, .int .i64 n] w fun e w' => e = .returned (.bool true) ∧ Below w.heap.size w w' := by
  have eqd := eq_date
  go_enter Tryd.func10, Tryd.ntmps10
  go_wp2_with fail
  refine (works_any _ (hT.below (b_alloc (Below.refl w.heap.size w) _))).mono ?_
  rintro e w1 ⟨rfl, hb⟩
  have hA := ((Blk.new_at (w := w) (g := w.heap.size) (by simp) 29 #[.int .i64 y, .int .i64 m, .int .i64 d])).below hb; have kA := hA.cell; have lA := hA.lt; have fA := hA.froz
  have b1 := b_step (b_alloc (Below.refl w.heap.size w) _) hb; clear hb
  go_wp2_with fail
  generalize hX : wrap64 (wrap64 ((IntKind.u64.wrap p).tmod 4000) - 2000) = X
  generalize hY : wrap64 (wrap64 ((IntKind.u64.wrap n).tmod 4000) - 2000) = Y
  have hXb : -2000 ≤ X ∧ X ≤ 1999 := by rw [← hX]; exact modB p
  have hYb : -2000 ≤ Y ∧ Y ≤ 1999 := by rw [← hY]; exact modB n
  clear hX hY
  refine (right_is hg _ (hT.below (b1))).mono ?_
  rintro e w2 ⟨rfl, hb⟩
  have hA := (hA).below hb; clear kA lA fA; have kA := hA.cell; have lA := hA.lt; have fA := hA.froz
  have b2 := b_step (b1) hb; clear hb
  by_cases hm : moG y m d X
  · have hG := Lib.hid (moD_good hg.out hm)
    go_wp2_with fail
    refine (months_yes hg hm _ (hT.below (b2))).mono ?_
    rintro e w3 ⟨rfl, hb⟩
    have hA := (hA).below hb; clear kA lA fA; have kA := hA.cell; have lA := hA.lt; have fA := hA.froz
    have b3 := b_step (b2) hb; clear hb
    have hmm : moG (moD y m d X).1 (moD y m d X).2.1 (moD y m d X).2.2 Y ↔ moG y m d (X + Y) := by unfold moG moD; simp only []; omega
    by_cases hn : moG y m d (X + Y)
    · have hM := moD_moD hg.out hm hn
      go_wp2_with fail
      refine (months_yes hG (hmm.2 hn) _ (hT.below (b_alloc (b3) _))).mono ?_
      rintro e w4 ⟨rfl, hb⟩
      have hA := ((hA).alloc _).below hb; clear kA lA fA; have kA := hA.cell; have lA := hA.lt; have fA := hA.froz
      have hX := ((Blk.new_at (w := w3) (g := w3.heap.size) (by simp) 29 #[.int .i64 (moD y m d X).1, .int .i64 (moD y m d X).2.1, .int .i64 (moD y m d X).2.2])).below hb; have kX := hX.cell; have lX := hX.lt; have fX := hX.froz
      have b4 := b_step (b_alloc (b3) _) hb; clear hb
      have hM2 := Lib.hid (fun W (t : TabOk W) => months_yes hg hn W t)
      clear hm hn hmm hG
      obtain ⟨m1, m2, m3, m4, m5, m6, m7⟩ := hM
      generalize moD (moD y m d X).1 (moD y m d X).2.1 (moD y m d X).2.2 Y = B at *
      generalize moD y m d (X + Y) = C at *
      generalize moD y m d X = Z at *
      obtain ⟨B1, B2, B3⟩ := B
      obtain ⟨C1, C2, C3⟩ := C
      simp only [] at m1 m2 m3 m4 m5 m6 m7
      subst m1 m2
      go_wp2_with fail
      refine (hM2.out _ (hT.below (b_alloc (b4) _))).mono ?_
      rintro e w5 ⟨rfl, hb⟩
      have hA := ((hA).alloc _).below hb; clear kA lA fA; have kA := hA.cell; have lA := hA.lt; have fA := hA.froz
      have hX := ((hX).alloc _).below hb; clear kX lX fX; have kX := hX.cell; have lX := hX.lt; have fX := hX.froz
      have hY := ((Blk.new_at (w := w4) (g := w4.heap.size) (by simp) 29 #[.int .i64 B1, .int .i64 B2, .int .i64 B3])).below hb; have kY := hY.cell; have lY := hY.lt; have fY := hY.froz
      have b5 := b_step (b_alloc (b4) _) hb; clear hb
      have c1 : decide (B3 ≤ C3) = true := by simpa using m3
      by_cases hd : Z.2.2 = d
      · obtain rfl := m4 hd
        have c2 : decide (Z.2.2 < d) = false := by simp; omega
        have m7a : d ≤ B3 ∨ 28 ≤ B3 := m7
        clear m4 m6 m7 hd
        by_cases h28 : 28 < d
        · have c3 : decide (28 < d) = true := by simpa using h28
          go_wp2
          all_goals
            go_ret
            exact ⟨by simp; omega, b_alloc (b5) _⟩
        · have c3 : decide (28 < d) = false := by simpa using h28
          go_wp2
          all_goals
            go_ret
            exact ⟨by simp; omega, b_alloc (b5) _⟩
      · have c2 : decide (Z.2.2 < d) = true := by simp; omega
        have h28 : 28 < d := by
          by_cases h : 28 < d
          · exact h
          · exact absurd (m6 (by omega)) hd
        have c3 : decide (28 < d) = true := by simpa using h28
        clear m4 m6 hd
        go_wp2
        all_goals
          go_ret
          exact ⟨by simp; omega, b_alloc (b5) _⟩
    · go_wp2_with fail
      refine (months_no hG (fun h => hn (hmm.1 h)) _ (hT.below (b_alloc (b3) _))).mono ?_
      rintro e w4 ⟨rfl, hb⟩
      have hA := ((hA).alloc _).below hb; clear kA lA fA; have kA := hA.cell; have lA := hA.lt; have fA := hA.froz
      have hX := ((Blk.new_at (w := w3) (g := w3.heap.size) (by simp) 29 #[.int .i64 (moD y m d X).1, .int .i64 (moD y m d X).2.1, .int .i64 (moD y m d X).2.2])).below hb; have kX := hX.cell; have lX := hX.lt; have fX := hX.froz
      have b4 := b_step (b_alloc (b3) _) hb; clear hb
      go_wp2_with fail
      refine (months_no hg hn _ (hT.below (b_alloc (b4) _))).mono ?_
      rintro e w5 ⟨rfl, hb⟩
      have hA := ((hA).alloc _).below hb; clear kA lA fA; have kA := hA.cell; have lA := hA.lt; have fA := hA.froz
      have hX := ((hX).alloc _).below hb; clear kX lX fX; have kX := hX.cell; have lX := hX.lt; have fX := hX.froz
      have hY := ((Blk.new_at (w := w4) (g := w4.heap.size) (by simp) 29 #[.int .i64 0, .int .i64 0, .int .i64 0])).below hb; have kY := hY.cell; have lY := hY.lt; have fY := hY.froz
      have b5 := b_step (b_alloc (b4) _) hb; clear hb
      go_wp2
      go_ret
      exact ⟨rfl, b_alloc (b5) _⟩
  · go_wp2_with fail
    refine (months_no hg hm _ (hT.below (b2))).mono ?_
    rintro e w3 ⟨rfl, hb⟩
    have hA := (hA).below hb; clear kA lA fA; have kA := hA.cell; have lA := hA.lt; have fA := hA.froz
    have b3 := b_step (b2) hb; clear hb
    go_wp2
    go_ret
    exact ⟨rfl, b_alloc (b3) _⟩
theorem dayMonths_law (y m d p n : Int) (w : World) (hT : TabOk w) (_ : (Lit.int .i64 y).wf = true ∧ (Lit.int .i64 m).wf = true ∧ (Lit.int .i64 d).wf = true) (_ : (Lit.int .i64 p).wf = true) (_ : (Lit.int .i64 n).wf = true) :
    Calls Tryd.prog 10 #[.agg #[.int .i64 y, .int .i64 m, .int .i64 d], .int .i64 p, .int .i64 n] w fun e w' => e = .returned (.bool true) ∧ Below w.heap.size w w' := by
  cases h : goodB y m d with
  | true => exact months_law_good p n w hT (Lib.hid h)
  | false => exact months_law_bad p n w hT (Lib.hid h)
end Go.Proofs.YtolgljionpalkaaDoor
