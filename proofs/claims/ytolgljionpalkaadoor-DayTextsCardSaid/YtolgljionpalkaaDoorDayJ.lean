/- Months: the program's and the document's; the law DayMoves. -/
import Derived.Test.YtolgljionpalkaaDoorDayI
set_option linter.unusedSimpArgs false
set_option linter.unusedVariables false
namespace Go.Proofs.YtolgljionpalkaaDoor
open Go.RowKit Go.BigFrame
/-- n months on: the date and the error. -/
def moG (y m d n : Int) : Prop := 12 ≤ 12 * y + m - 1 + n ∧ 12 * y + m - 1 + n < 120000
instance (y m d n : Int) : Decidable (moG y m d n) := by unfold moG; infer_instance
def moD (y m d n : Int) : Int × Int × Int := ((12 * y + m - 1 + n) / 12, (12 * y + m - 1 + n) % 12 + 1, mnI d (lenF ((12 * y + m - 1 + n) / 12) ((12 * y + m - 1 + n) % 12 + 1)))
def moP (y m d n : Int) : Int × Int × Int := if goodB y m d = true ∧ moG y m d n then moD y m d n else (0, 0, 0)
def moE (y m d n : Int) : Int := if goodB y m d = true then (if moG y m d n then 0 else 1) else 70
theorem moP_bad {y m d n : Int} (h : Hid (goodB y m d = false)) : moP y m d n = (0, 0, 0) ∧ moE y m d n = 70 := by simp [moP, moE, h.out]
theorem moP_far {y m d n : Int} (h : Hid (goodB y m d = true)) (hn : ¬ moG y m d n) : moP y m d n = (0, 0, 0) ∧ moE y m d n = 1 := by simp [moP, moE, h.out, hn]
theorem moP_yes {y m d n : Int} (h : Hid (goodB y m d = true)) (hn : moG y m d n) : moP y m d n = moD y m d n ∧ moE y m d n = 0 := by simp [moP, moE, h.out, hn]
theorem moD_good {y m d n : Int} (h : goodB y m d = true) (hn : moG y m d n) : goodB (moD y m d n).1 (moD y m d n).2.1 (moD y m d n).2.2 = true := by
  obtain ⟨a1, a2, a3, a4, a5, a6⟩ := (goodB_iff _ _ _).1 h
  unfold moG at hn
  unfold moD
  rw [goodB_iff]
  have := lenF_lo ((12 * y + m - 1 + n) / 12) ((12 * y + m - 1 + n) % 12 + 1) (by omega) (by omega)
  simp only []
  refine ⟨by omega, by omega, by omega, by omega, ?_, ?_⟩ <;> (unfold mnI; split <;> omega)
theorem on_good {y m d n : Int} (h : Hid (goodB y m d = true)) (hn : -200000 ≤ n ∧ n ≤ 200000 ∧ 12 ≤ 12 * y + m - 1 + n) (w : World) (hT : TabOk w) :
    Calls Tryd.prog 56 #[.agg #[.int .i64 y, .int .i64 m, .int .i64 d], .int .i64 n] w fun e w' => e = .returned (.agg #[.int .i64 (moD y m d n).1, .int .i64 (moD y m d n).2.1, .int .i64 (moD y m d n).2.2]) ∧ Below w.heap.size w w' := by
  obtain ⟨a1, a2, a3, a4, a5, a6⟩ := (goodB_iff _ _ _).1 h.out
  have := lenF_bd y m
  exact on_any y m d n w hT a1 (by omega) a3 a4 a5 (by omega) hn.1 hn.2.1 hn.2.2
theorem monthsr_no {y m d n : Int} (hy : 1 ≤ y ∧ y ≤ 100000) (hm : 1 ≤ m ∧ m ≤ 12) (hn : -1000000 ≤ n ∧ n ≤ 1000000) (hk : 12 * y + m - 1 + n < 12) (w : World) : Calls Tryd.prog 57 #[.agg #[.int .i64 y, .int .i64 m, .int .i64 d], .int .i64 n] w fun e w' => e = .returned (.agg #[.int .i64 0, .int .i64 0, .int .i64 0]) ∧ Below w.heap.size w w' := by
  have c1 : decide (y * 12 + m - 1 + n < 12) = true := by simp; omega
  clear hk
  go_enter Tryd.func57, Tryd.ntmps57
  go_wp2
  exact bodyPost_ret (v := .agg #[.int .i64 0, .int .i64 0, .int .i64 0]) (by simp [results, Tryd.results57, go_sem]) rfl ⟨rfl, b_alloc (b_alloc (Below.refl _ _) _) _⟩
set_option maxHeartbeats 1000000 in
theorem monthsr_yes {y m d n : Int} (hy : 1 ≤ y ∧ y ≤ 100000) (hm : 1 ≤ m ∧ m ≤ 12) (hn : -1000000 ≤ n ∧ n ≤ 1000000) (hk : 12 ≤ 12 * y + m - 1 + n) (hd1 : 1 ≤ d ∧ d ≤ 31) (w : World) :
    Calls Tryd.prog 57 #[.agg #[.int .i64 y, .int .i64 m, .int .i64 d], .int .i64 n] w fun e w' => e = .returned (.agg #[.int .i64 (moD y m d n).1, .int .i64 (moD y m d n).2.1, .int .i64 (moD y m d n).2.2]) ∧ Below w.heap.size w w' := by
  show Calls _ _ _ _ fun e w' => e = .returned (.agg #[.int .i64 ((12 * y + m - 1 + n) / 12), .int .i64 ((12 * y + m - 1 + n) % 12 + 1), .int .i64 (mnI d (lenF ((12 * y + m - 1 + n) / 12) ((12 * y + m - 1 + n) % 12 + 1)))]) ∧ Below w.heap.size w w'
  rw [show 12 * y + m - 1 + n = y * 12 + m - 1 + n by omega] at hk ⊢
  go_enter Tryd.func57, Tryd.ntmps57
  go_wp2_with fail
  generalize hY : (y * 12 + m - 1 + n) / 12 = Y
  generalize hM : (y * 12 + m - 1 + n) % 12 + 1 = M
  have hM1 : 1 ≤ M := by omega
  have hM2 : M ≤ 12 := by omega
  have HY := Lib.hid hY
  have HM := Lib.hid hM
  clear hn hk hY hM
  generalize hw1 : World.alloc (World.alloc (World.alloc w _) _) _ = w1
  have b1 : Below w.heap.size w w1 := by rw [← hw1]; exact b_alloc (b_alloc (b_alloc (Below.refl _ _) _) _) _
  have hA : Blk w1 w.heap.size #[.int .i64 y, .int .i64 m, .int .i64 d] := by rw [← hw1]; exact ((Blk.new _ _ _).alloc _).alloc _
  have hB : Blk w1 (w.heap.size + 1) #[.int .i64 0, .int .i64 0, .int .i64 0] := by rw [← hw1]; exact (Blk.new_at (by simp) _ _).alloc _
  have hX : Blk w1 (w.heap.size + 2) #[.int .i64 Y, .int .i64 M, .int .i64 0] := by rw [← hw1]; exact Blk.new_at (by simp) _ _
  clear hw1
  have kA := hA.lcell
  have kX := hX.lcell
  refine wp_later 8 (by kernel_rfl) (by kernel_rfl) ?_
  simp only [List.take_succ_cons, List.take_zero, List.drop_succ_cons, List.drop_zero]
  repeat (go_big_quiet_step (first | (go_at_call 20; exact later_same (lengthr_any Y M _ hM1 hM2))))
  refine wpQuiet_nil ?_
  rintro ⟨w2, hb⟩
  change wpList _ _ _ _ _ w2
  clear kA kX
  have kA := (hA.below hb).cell
  have fA := (hA.below hb).froz
  have kB := (hB.below hb).cell
  have fB := (hB.below hb).froz
  have kX := (hX.below hb).cell
  have fX := (hX.below hb).froz
  have bb := b_step b1 hb
  go_wp2
  · have E : mnI d (lenF Y M) = lenF Y M := by unfold mnI; rw [if_pos (by assumption)]
    refine bodyPost_ret (v := .agg #[.int .i64 Y, .int .i64 M, .int .i64 (lenF Y M)]) (by simp [results, Tryd.results57, go_sem, kA, fA, kB, fB, kX, fX]) rfl ⟨by rw [HY.out, HM.out, E], ?_⟩
    repeat (first | assumption | refine b_set ?_ (by first | (simp; done) | (simp; omega)))
  · have E : mnI d (lenF Y M) = d := by unfold mnI; rw [if_neg (by omega)]
    refine bodyPost_ret (v := .agg #[.int .i64 Y, .int .i64 M, .int .i64 d]) (by simp [results, Tryd.results57, go_sem, kA, fA, kB, fB, kX, fX]) rfl ⟨by rw [HY.out, HM.out, E], ?_⟩
    repeat (first | assumption | refine b_set ?_ (by first | (simp; done) | (simp; omega)))
set_option maxHeartbeats 1000000 in
theorem months_any (y m d n : Int) (w : World) (hT : TabOk w) : Calls Tryd.prog 37 #[.agg #[.int .i64 y, .int .i64 m, .int .i64 d], .int .i64 n] w fun e w' => e = .returned (.tuple #[.agg #[.int .i64 (moP y m d n).1, .int .i64 (moP y m d n).2.1, .int .i64 (moP y m d n).2.2], .int .i64 (moE y m d n)]) ∧ Below w.heap.size w w' := by
  cases hg : goodB y m d with
  | false =>
    have h := Lib.hid hg; clear hg
    rw [(moP_bad h).1, (moP_bad h).2]
    go_enter Tryd.func37, Tryd.ntmps37
    go_wp2_with fail
    refine (check_bad h _ (hT.below (b_alloc (b_alloc (Below.refl w.heap.size w) _) _))).mono ?_
    rintro e w1 ⟨rfl, hb⟩
    have hA := (((Blk.new_at (w := w) (g := w.heap.size) (by simp) 29 #[.int .i64 y, .int .i64 m, .int .i64 d])).alloc _).below hb; have kA := hA.cell; have lA := hA.lt; have fA := hA.froz
    have hR := ((Blk.new_at (w := (w.alloc (.cells #[.int .i64 y, .int .i64 m, .int .i64 d] 29))) (g := w.heap.size + 1) (by simp) 29 #[.int .i64 0, .int .i64 0, .int .i64 0])).below hb; have kR := hR.cell; have lR := hR.lt; have fR := hR.froz
    have b1 := b_step (b_alloc (b_alloc (Below.refl w.heap.size w) _) _) hb; clear hb
    go_wp2
    refine bodyPost_ret (v := .tuple #[.agg #[.int .i64 0, .int .i64 0, .int .i64 0], .int .i64 70]) (by simp [results, Tryd.results37, go_sem, kA, kR, lA, lR]) rfl ⟨rfl, ?_⟩
    repeat (first | exact b1 | refine b_alloc ?_ _ | refine b_set ?_ (by simp))
  | true =>
    have h := Lib.hid hg
    have hr := (goodB_iff _ _ _).1 hg
    clear hg
    by_cases hn1 : n < -119988
    · have c1 : decide (n < -119988) = true := by simpa using hn1
      have hf : ¬ moG y m d n := by unfold moG; omega
      rw [(moP_far h hf).1, (moP_far h hf).2]
      clear hn1 hf
      go_enter Tryd.func37, Tryd.ntmps37
      go_wp2_with fail
      refine (check_good h _ (hT.below (b_alloc (b_alloc (Below.refl w.heap.size w) _) _))).mono ?_
      rintro e w1 ⟨rfl, hb⟩
      have hA := (((Blk.new_at (w := w) (g := w.heap.size) (by simp) 29 #[.int .i64 y, .int .i64 m, .int .i64 d])).alloc _).below hb; have kA := hA.cell; have lA := hA.lt; have fA := hA.froz
      have hR := ((Blk.new_at (w := (w.alloc (.cells #[.int .i64 y, .int .i64 m, .int .i64 d] 29))) (g := w.heap.size + 1) (by simp) 29 #[.int .i64 0, .int .i64 0, .int .i64 0])).below hb; have kR := hR.cell; have lR := hR.lt; have fR := hR.froz
      have b1 := b_step (b_alloc (b_alloc (Below.refl w.heap.size w) _) _) hb; clear hb
      go_wp2
      refine bodyPost_ret (v := .tuple #[.agg #[.int .i64 0, .int .i64 0, .int .i64 0], .int .i64 1]) (by simp [results, Tryd.results37, go_sem, kA, kR, lA, lR]) rfl ⟨rfl, ?_⟩
      repeat (first | exact b1 | refine b_alloc ?_ _ | refine b_set ?_ (by simp))
    · have c1 : decide (n < -119988) = false := by simpa using hn1
      by_cases hn2 : 119988 < n
      · have c2 : decide (119988 < n) = true := by simpa using hn2
        have hf : ¬ moG y m d n := by unfold moG; omega
        rw [(moP_far h hf).1, (moP_far h hf).2]
        clear hn1 hn2 hf
        go_enter Tryd.func37, Tryd.ntmps37
        go_wp2_with fail
        refine (check_good h _ (hT.below (b_alloc (b_alloc (Below.refl w.heap.size w) _) _))).mono ?_
        rintro e w1 ⟨rfl, hb⟩
        have hA := (((Blk.new_at (w := w) (g := w.heap.size) (by simp) 29 #[.int .i64 y, .int .i64 m, .int .i64 d])).alloc _).below hb; have kA := hA.cell; have lA := hA.lt; have fA := hA.froz
        have hR := ((Blk.new_at (w := (w.alloc (.cells #[.int .i64 y, .int .i64 m, .int .i64 d] 29))) (g := w.heap.size + 1) (by simp) 29 #[.int .i64 0, .int .i64 0, .int .i64 0])).below hb; have kR := hR.cell; have lR := hR.lt; have fR := hR.froz
        have b1 := b_step (b_alloc (b_alloc (Below.refl w.heap.size w) _) _) hb; clear hb
        go_wp2
        refine bodyPost_ret (v := .tuple #[.agg #[.int .i64 0, .int .i64 0, .int .i64 0], .int .i64 1]) (by simp [results, Tryd.results37, go_sem, kA, kR, lA, lR]) rfl ⟨rfl, ?_⟩
        repeat (first | exact b1 | refine b_alloc ?_ _ | refine b_set ?_ (by simp))
      · have c2 : decide (119988 < n) = false := by simpa using hn2
        have hn : -119988 ≤ n ∧ n ≤ 119988 := by omega
        clear hn1 hn2
        by_cases hk : 12 * y + m - 1 + n < 12
        · have c3 : decide (12 * y + m - 1 + n < 12) = true := by simpa using hk
          have hf : ¬ moG y m d n := by unfold moG; omega
          rw [(moP_far h hf).1, (moP_far h hf).2]
          clear hk hf
          go_enter Tryd.func37, Tryd.ntmps37
          go_wp2_with fail
          refine (check_good h _ (hT.below (b_alloc (b_alloc (Below.refl w.heap.size w) _) _))).mono ?_
          rintro e w1 ⟨rfl, hb⟩
          have hA := (((Blk.new_at (w := w) (g := w.heap.size) (by simp) 29 #[.int .i64 y, .int .i64 m, .int .i64 d])).alloc _).below hb; have kA := hA.cell; have lA := hA.lt; have fA := hA.froz
          have hR := ((Blk.new_at (w := (w.alloc (.cells #[.int .i64 y, .int .i64 m, .int .i64 d] 29))) (g := w.heap.size + 1) (by simp) 29 #[.int .i64 0, .int .i64 0, .int .i64 0])).below hb; have kR := hR.cell; have lR := hR.lt; have fR := hR.froz
          have b1 := b_step (b_alloc (b_alloc (Below.refl w.heap.size w) _) _) hb; clear hb
          go_wp2
          refine bodyPost_ret (v := .tuple #[.agg #[.int .i64 0, .int .i64 0, .int .i64 0], .int .i64 1]) (by simp [results, Tryd.results37, go_sem, kA, kR, lA, lR]) rfl ⟨rfl, ?_⟩
          repeat (first | exact b1 | refine b_alloc ?_ _ | refine b_set ?_ (by simp))
        · have c3 : decide (12 * y + m - 1 + n < 12) = false := by simpa using hk
          have hO := Lib.hid (fun W (t : TabOk W) => on_good h ⟨by omega, by omega, by omega⟩ (n := n) W t)
          have hX : (moD y m d n).1 = (12 * y + m - 1 + n) / 12 := rfl
          by_cases hq : 12 * y + m - 1 + n < 120000
          · have hf : moG y m d n := ⟨by omega, hq⟩
            rw [(moP_yes h hf).1, (moP_yes h hf).2]
            have hK : Hid (knownB (moD y m d n).1 = true) := Lib.hid ((knownB_iff _).2 (by rw [hX]; omega))
            generalize moD y m d n = X at *
            clear hk hf hq hX
            go_enter Tryd.func37, Tryd.ntmps37
            go_wp2_with fail
            refine (check_good h _ (hT.below (b_alloc (b_alloc (Below.refl w.heap.size w) _) _))).mono ?_
            rintro e w1 ⟨rfl, hb⟩
            have hA := (((Blk.new_at (w := w) (g := w.heap.size) (by simp) 29 #[.int .i64 y, .int .i64 m, .int .i64 d])).alloc _).below hb; have kA := hA.cell; have lA := hA.lt; have fA := hA.froz
            have hR := ((Blk.new_at (w := (w.alloc (.cells #[.int .i64 y, .int .i64 m, .int .i64 d] 29))) (g := w.heap.size + 1) (by simp) 29 #[.int .i64 0, .int .i64 0, .int .i64 0])).below hb; have kR := hR.cell; have lR := hR.lt; have fR := hR.froz
            have b1 := b_step (b_alloc (b_alloc (Below.refl w.heap.size w) _) _) hb; clear hb
            go_wp2_with fail
            refine (hO.out _ (hT.below (b1))).mono ?_
            rintro e w2 ⟨rfl, hb⟩
            have hA := (hA).below hb; clear kA lA fA; have kA := hA.cell; have lA := hA.lt; have fA := hA.froz
            have hR := (hR).below hb; clear kR lR fR; have kR := hR.cell; have lR := hR.lt; have fR := hR.froz
            have b2 := b_step (b1) hb; clear hb
            go_wp2_with fail
            refine (known_is hK _).mono ?_
            rintro e w' ⟨rfl, rfl⟩
            go_wp2
            refine bodyPost_ret (v := .tuple #[.agg #[.int .i64 X.1, .int .i64 X.2.1, .int .i64 X.2.2], .int .i64 0]) (by simp [results, Tryd.results37, go_sem, kA, kR, lA, lR]) rfl ⟨rfl, ?_⟩
            repeat (first | exact b2 | refine b_alloc ?_ _ | refine b_set ?_ (by simp))
          · have hf : ¬ moG y m d n := by unfold moG; omega
            rw [(moP_far h hf).1, (moP_far h hf).2]
            have hK : Hid (knownB (moD y m d n).1 = false) := Lib.hid (by cases hb : knownB (moD y m d n).1 with
              | false => rfl
              | true => exfalso; have := (knownB_iff _).1 hb; rw [hX] at this; omega)
            generalize moD y m d n = X at *
            clear hk hf hq hX
            go_enter Tryd.func37, Tryd.ntmps37
            go_wp2_with fail
            refine (check_good h _ (hT.below (b_alloc (b_alloc (Below.refl w.heap.size w) _) _))).mono ?_
            rintro e w1 ⟨rfl, hb⟩
            have hA := (((Blk.new_at (w := w) (g := w.heap.size) (by simp) 29 #[.int .i64 y, .int .i64 m, .int .i64 d])).alloc _).below hb; have kA := hA.cell; have lA := hA.lt; have fA := hA.froz
            have hR := ((Blk.new_at (w := (w.alloc (.cells #[.int .i64 y, .int .i64 m, .int .i64 d] 29))) (g := w.heap.size + 1) (by simp) 29 #[.int .i64 0, .int .i64 0, .int .i64 0])).below hb; have kR := hR.cell; have lR := hR.lt; have fR := hR.froz
            have b1 := b_step (b_alloc (b_alloc (Below.refl w.heap.size w) _) _) hb; clear hb
            go_wp2_with fail
            refine (hO.out _ (hT.below (b1))).mono ?_
            rintro e w2 ⟨rfl, hb⟩
            have hA := (hA).below hb; clear kA lA fA; have kA := hA.cell; have lA := hA.lt; have fA := hA.froz
            have hR := (hR).below hb; clear kR lR fR; have kR := hR.cell; have lR := hR.lt; have fR := hR.froz
            have b2 := b_step (b1) hb; clear hb
            go_wp2_with fail
            refine (known_is hK _).mono ?_
            rintro e w' ⟨rfl, rfl⟩
            go_wp2
            refine bodyPost_ret (v := .tuple #[.agg #[.int .i64 0, .int .i64 0, .int .i64 0], .int .i64 1]) (by simp [results, Tryd.results37, go_sem, kA, kR, lA, lR]) rfl ⟨rfl, ?_⟩
            repeat (first | exact b2 | refine b_alloc ?_ _ | refine b_set ?_ (by simp))
set_option maxHeartbeats 1000000 in
theorem onr_any (y m d n : Int) (w : World) : Calls Tryd.prog 38 #[.agg #[.int .i64 y, .int .i64 m, .int .i64 d], .int .i64 n] w fun e w' => e = .returned (.tuple #[.agg #[.int .i64 (moP y m d n).1, .int .i64 (moP y m d n).2.1, .int .i64 (moP y m d n).2.2], .int .i64 (moE y m d n)]) ∧ Below w.heap.size w w' := by
  cases hg : goodB y m d with
  | false =>
    have h := Lib.hid hg; clear hg
    rw [(moP_bad h).1, (moP_bad h).2]
    go_enter Tryd.func38, Tryd.ntmps38
    go_wp2_with fail
    refine (goodr_is h _).mono ?_
    rintro e w1 ⟨rfl, hb⟩
    have hA := (((Blk.new_at (w := w) (g := w.heap.size) (by simp) 29 #[.int .i64 y, .int .i64 m, .int .i64 d])).alloc _).below hb; have kA := hA.cell; have lA := hA.lt; have fA := hA.froz
    have hR := ((Blk.new_at (w := (w.alloc (.cells #[.int .i64 y, .int .i64 m, .int .i64 d] 29))) (g := w.heap.size + 1) (by simp) 29 #[.int .i64 0, .int .i64 0, .int .i64 0])).below hb; have kR := hR.cell; have lR := hR.lt; have fR := hR.froz
    have b1 := b_step (b_alloc (b_alloc (Below.refl w.heap.size w) _) _) hb; clear hb
    go_wp2
    refine bodyPost_ret (v := .tuple #[.agg #[.int .i64 0, .int .i64 0, .int .i64 0], .int .i64 70]) (by simp [results, Tryd.results38, go_sem, kA, kR, lA, lR]) rfl ⟨rfl, ?_⟩
    repeat (first | exact b1 | refine b_alloc ?_ _ | refine b_set ?_ (by simp))
  | true =>
    have h := Lib.hid hg
    have hr := (goodB_iff _ _ _).1 hg
    have hl := lenF_bd y m
    by_cases hn1 : n < -200000
    · have c1 : decide (n < -200000) = true := by simpa using hn1
      have hf : ¬ moG y m d n := by unfold moG; omega
      rw [(moP_far h hf).1, (moP_far h hf).2]
      clear hn1 hf hg hr
      go_enter Tryd.func38, Tryd.ntmps38
      go_wp2_with fail
      refine (goodr_is h _).mono ?_
      rintro e w1 ⟨rfl, hb⟩
      have hA := (((Blk.new_at (w := w) (g := w.heap.size) (by simp) 29 #[.int .i64 y, .int .i64 m, .int .i64 d])).alloc _).below hb; have kA := hA.cell; have lA := hA.lt; have fA := hA.froz
      have hR := ((Blk.new_at (w := (w.alloc (.cells #[.int .i64 y, .int .i64 m, .int .i64 d] 29))) (g := w.heap.size + 1) (by simp) 29 #[.int .i64 0, .int .i64 0, .int .i64 0])).below hb; have kR := hR.cell; have lR := hR.lt; have fR := hR.froz
      have b1 := b_step (b_alloc (b_alloc (Below.refl w.heap.size w) _) _) hb; clear hb
      go_wp2
      refine bodyPost_ret (v := .tuple #[.agg #[.int .i64 0, .int .i64 0, .int .i64 0], .int .i64 1]) (by simp [results, Tryd.results38, go_sem, kA, kR, lA, lR]) rfl ⟨rfl, ?_⟩
      repeat (first | exact b1 | refine b_alloc ?_ _ | refine b_set ?_ (by simp))
    · have c1 : decide (n < -200000) = false := by simpa using hn1
      by_cases hn2 : 200000 < n
      · have c2 : decide (200000 < n) = true := by simpa using hn2
        have hf : ¬ moG y m d n := by unfold moG; omega
        rw [(moP_far h hf).1, (moP_far h hf).2]
        clear hn1 hn2 hf hg hr
        go_enter Tryd.func38, Tryd.ntmps38
        go_wp2_with fail
        refine (goodr_is h _).mono ?_
        rintro e w1 ⟨rfl, hb⟩
        have hA := (((Blk.new_at (w := w) (g := w.heap.size) (by simp) 29 #[.int .i64 y, .int .i64 m, .int .i64 d])).alloc _).below hb; have kA := hA.cell; have lA := hA.lt; have fA := hA.froz
        have hR := ((Blk.new_at (w := (w.alloc (.cells #[.int .i64 y, .int .i64 m, .int .i64 d] 29))) (g := w.heap.size + 1) (by simp) 29 #[.int .i64 0, .int .i64 0, .int .i64 0])).below hb; have kR := hR.cell; have lR := hR.lt; have fR := hR.froz
        have b1 := b_step (b_alloc (b_alloc (Below.refl w.heap.size w) _) _) hb; clear hb
        go_wp2
        refine bodyPost_ret (v := .tuple #[.agg #[.int .i64 0, .int .i64 0, .int .i64 0], .int .i64 1]) (by simp [results, Tryd.results38, go_sem, kA, kR, lA, lR]) rfl ⟨rfl, ?_⟩
        repeat (first | exact b1 | refine b_alloc ?_ _ | refine b_set ?_ (by simp))
      · have c2 : decide (200000 < n) = false := by simpa using hn2
        by_cases hk : 12 * y + m - 1 + n < 12
        · have hM := Lib.hid (fun W => monthsr_no (d := d) (n := n) ⟨hr.1, by omega⟩ ⟨hr.2.2.1, hr.2.2.2.1⟩ (by omega) hk W)
          have hG0 : Hid (goodB 0 0 0 = false) := Lib.hid (by decide)
          have hf : ¬ moG y m d n := by unfold moG; omega
          rw [(moP_far h hf).1, (moP_far h hf).2]
          clear hk hf hg hr hn1 hn2
          go_enter Tryd.func38, Tryd.ntmps38
          go_wp2_with fail
          refine (goodr_is h _).mono ?_
          rintro e w1 ⟨rfl, hb⟩
          have hA := (((Blk.new_at (w := w) (g := w.heap.size) (by simp) 29 #[.int .i64 y, .int .i64 m, .int .i64 d])).alloc _).below hb; have kA := hA.cell; have lA := hA.lt; have fA := hA.froz
          have hR := ((Blk.new_at (w := (w.alloc (.cells #[.int .i64 y, .int .i64 m, .int .i64 d] 29))) (g := w.heap.size + 1) (by simp) 29 #[.int .i64 0, .int .i64 0, .int .i64 0])).below hb; have kR := hR.cell; have lR := hR.lt; have fR := hR.froz
          have b1 := b_step (b_alloc (b_alloc (Below.refl w.heap.size w) _) _) hb; clear hb
          go_wp2_with fail
          refine (hM.out _).mono ?_
          rintro e w2 ⟨rfl, hb⟩
          have hA := (hA).below hb; clear kA lA fA; have kA := hA.cell; have lA := hA.lt; have fA := hA.froz
          have hR := (hR).below hb; clear kR lR fR; have kR := hR.cell; have lR := hR.lt; have fR := hR.froz
          have b2 := b_step (b1) hb; clear hb
          go_wp2_with fail
          refine (goodr_is hG0 _).mono ?_
          rintro e w3 ⟨rfl, hb⟩
          have hA := (hA).below hb; clear kA lA fA; have kA := hA.cell; have lA := hA.lt; have fA := hA.froz
          have hR := (hR).below hb; clear kR lR fR; have kR := hR.cell; have lR := hR.lt; have fR := hR.froz
          have b3 := b_step (b2) hb; clear hb
          go_wp2
          refine bodyPost_ret (v := .tuple #[.agg #[.int .i64 0, .int .i64 0, .int .i64 0], .int .i64 1]) (by simp [results, Tryd.results38, go_sem, kA, kR, lA, lR]) rfl ⟨rfl, ?_⟩
          repeat (first | exact b3 | refine b_alloc ?_ _ | refine b_set ?_ (by simp))
        · have hM := Lib.hid (fun W => monthsr_yes (d := d) (n := n) ⟨hr.1, by omega⟩ ⟨hr.2.2.1, hr.2.2.2.1⟩ (by omega) (by omega) ⟨by omega, by omega⟩ W)
          by_cases hq : 12 * y + m - 1 + n < 120000
          · have hf : moG y m d n := ⟨by omega, hq⟩
            have hG := Lib.hid (moD_good hg hf)
            rw [(moP_yes h hf).1, (moP_yes h hf).2]
            generalize moD y m d n = X at *
            clear hk hf hg hr hq hn1 hn2
            go_enter Tryd.func38, Tryd.ntmps38
            go_wp2_with fail
            refine (goodr_is h _).mono ?_
            rintro e w1 ⟨rfl, hb⟩
            have hA := (((Blk.new_at (w := w) (g := w.heap.size) (by simp) 29 #[.int .i64 y, .int .i64 m, .int .i64 d])).alloc _).below hb; have kA := hA.cell; have lA := hA.lt; have fA := hA.froz
            have hR := ((Blk.new_at (w := (w.alloc (.cells #[.int .i64 y, .int .i64 m, .int .i64 d] 29))) (g := w.heap.size + 1) (by simp) 29 #[.int .i64 0, .int .i64 0, .int .i64 0])).below hb; have kR := hR.cell; have lR := hR.lt; have fR := hR.froz
            have b1 := b_step (b_alloc (b_alloc (Below.refl w.heap.size w) _) _) hb; clear hb
            go_wp2_with fail
            refine (hM.out _).mono ?_
            rintro e w2 ⟨rfl, hb⟩
            have hA := (hA).below hb; clear kA lA fA; have kA := hA.cell; have lA := hA.lt; have fA := hA.froz
            have hR := (hR).below hb; clear kR lR fR; have kR := hR.cell; have lR := hR.lt; have fR := hR.froz
            have b2 := b_step (b1) hb; clear hb
            go_wp2_with fail
            refine (goodr_is hG _).mono ?_
            rintro e w3 ⟨rfl, hb⟩
            have hA := (hA).below hb; clear kA lA fA; have kA := hA.cell; have lA := hA.lt; have fA := hA.froz
            have hR := (hR).below hb; clear kR lR fR; have kR := hR.cell; have lR := hR.lt; have fR := hR.froz
            have b3 := b_step (b2) hb; clear hb
            go_wp2_with fail
            refine (hM.out _).mono ?_
            rintro e w4 ⟨rfl, hb⟩
            have hA := (hA).below hb; clear kA lA fA; have kA := hA.cell; have lA := hA.lt; have fA := hA.froz
            have hR := (hR).below hb; clear kR lR fR; have kR := hR.cell; have lR := hR.lt; have fR := hR.froz
            have b4 := b_step (b3) hb; clear hb
            go_wp2
            refine bodyPost_ret (v := .tuple #[.agg #[.int .i64 X.1, .int .i64 X.2.1, .int .i64 X.2.2], .int .i64 0]) (by simp [results, Tryd.results38, go_sem, kA, kR, lA, lR]) rfl ⟨rfl, ?_⟩
            repeat (first | exact b4 | refine b_alloc ?_ _ | refine b_set ?_ (by simp))
          · have hf : ¬ moG y m d n := by unfold moG; omega
            have hG : Hid (goodB (moD y m d n).1 (moD y m d n).2.1 (moD y m d n).2.2 = false) := Lib.hid (by
              cases hb : goodB (moD y m d n).1 (moD y m d n).2.1 (moD y m d n).2.2 with
              | false => rfl
              | true =>
                exfalso
                have := (goodB_iff _ _ _).1 hb
                have hX : (moD y m d n).1 = (12 * y + m - 1 + n) / 12 := rfl
                omega)
            rw [(moP_far h hf).1, (moP_far h hf).2]
            generalize moD y m d n = X at *
            clear hk hf hg hr hq hn1 hn2
            go_enter Tryd.func38, Tryd.ntmps38
            go_wp2_with fail
            refine (goodr_is h _).mono ?_
            rintro e w1 ⟨rfl, hb⟩
            have hA := (((Blk.new_at (w := w) (g := w.heap.size) (by simp) 29 #[.int .i64 y, .int .i64 m, .int .i64 d])).alloc _).below hb; have kA := hA.cell; have lA := hA.lt; have fA := hA.froz
            have hR := ((Blk.new_at (w := (w.alloc (.cells #[.int .i64 y, .int .i64 m, .int .i64 d] 29))) (g := w.heap.size + 1) (by simp) 29 #[.int .i64 0, .int .i64 0, .int .i64 0])).below hb; have kR := hR.cell; have lR := hR.lt; have fR := hR.froz
            have b1 := b_step (b_alloc (b_alloc (Below.refl w.heap.size w) _) _) hb; clear hb
            go_wp2_with fail
            refine (hM.out _).mono ?_
            rintro e w2 ⟨rfl, hb⟩
            have hA := (hA).below hb; clear kA lA fA; have kA := hA.cell; have lA := hA.lt; have fA := hA.froz
            have hR := (hR).below hb; clear kR lR fR; have kR := hR.cell; have lR := hR.lt; have fR := hR.froz
            have b2 := b_step (b1) hb; clear hb
            go_wp2_with fail
            refine (goodr_is hG _).mono ?_
            rintro e w3 ⟨rfl, hb⟩
            have hA := (hA).below hb; clear kA lA fA; have kA := hA.cell; have lA := hA.lt; have fA := hA.froz
            have hR := (hR).below hb; clear kR lR fR; have kR := hR.cell; have lR := hR.lt; have fR := hR.froz
            have b3 := b_step (b2) hb; clear hb
            go_wp2
            refine bodyPost_ret (v := .tuple #[.agg #[.int .i64 0, .int .i64 0, .int .i64 0], .int .i64 1]) (by simp [results, Tryd.results38, go_sem, kA, kR, lA, lR]) rfl ⟨rfl, ?_⟩
            repeat (first | exact b3 | refine b_alloc ?_ _ | refine b_set ?_ (by simp))
set_option maxHeartbeats 2000000 in
theorem dayMoves_law (y m d n : Int) (w : World) (hT : TabOk w) (_ : (Lit.int .i64 y).wf = true ∧ (Lit.int .i64 m).wf = true ∧ (Lit.int .i64 d).wf = true) (_ : (Lit.int .i64 n).wf = true) :
    Calls Tryd.prog 7 #[.agg #[.int .i64 y, .int .i64 m, .int .i64 d], .int .i64 n] w fun e w' => e = .returned (.bool true) ∧ Below w.heap.size w w' := by
  have eqd := eq_date
  have h1 := Lib.hid (fun W (t : TabOk W) => days_any y m d n W t)
  have h2 := Lib.hid (fun W => daysr_any y m d n W)
  have h3 := Lib.hid (fun W (t : TabOk W) => months_any y m d n W t)
  have h4 := Lib.hid (fun W => onr_any y m d n W)
  generalize dyP y m d n = P at *
  generalize dyE y m d n = E at *
  generalize moP y m d n = Q at *
  generalize moE y m d n = F at *
  go_enter Tryd.func7, Tryd.ntmps7
  go_wp2_with fail
  refine (h1.out _ (hT.below (b_alloc (Below.refl w.heap.size w) _))).mono ?_
  rintro e w1 ⟨rfl, hb⟩
  have hA := ((Blk.new_at (w := w) (g := w.heap.size) (by simp) 29 #[.int .i64 y, .int .i64 m, .int .i64 d])).below hb; have kA := hA.cell; have lA := hA.lt; have fA := hA.froz
  have b1 := b_step (b_alloc (Below.refl w.heap.size w) _) hb; clear hb
  go_wp2_with fail
  refine (h2.out _).mono ?_
  rintro e w2 ⟨rfl, hb⟩
  have hA := ((hA).alloc _).below hb; clear kA lA fA; have kA := hA.cell; have lA := hA.lt; have fA := hA.froz
  have hB := ((Blk.new_at (w := w1) (g := w1.heap.size) (by simp) 29 #[.int .i64 P.1, .int .i64 P.2.1, .int .i64 P.2.2])).below hb; have kB := hB.cell; have lB := hB.lt; have fB := hB.froz
  have b2 := b_step (b_alloc (b1) _) hb; clear hb
  go_wp2_with fail
  refine (h3.out _ (hT.below (b_alloc (b2) _))).mono ?_
  rintro e w3 ⟨rfl, hb⟩
  have hA := ((hA).alloc _).below hb; clear kA lA fA; have kA := hA.cell; have lA := hA.lt; have fA := hA.froz
  have hB := ((hB).alloc _).below hb; clear kB lB fB; have kB := hB.cell; have lB := hB.lt; have fB := hB.froz
  have hC := ((Blk.new_at (w := w2) (g := w2.heap.size) (by simp) 29 #[.int .i64 P.1, .int .i64 P.2.1, .int .i64 P.2.2])).below hb; have kC := hC.cell; have lC := hC.lt; have fC := hC.froz
  have b3 := b_step (b_alloc (b2) _) hb; clear hb
  go_wp2_with fail
  refine (h4.out _).mono ?_
  rintro e w4 ⟨rfl, hb⟩
  have hA := ((hA).alloc _).below hb; clear kA lA fA; have kA := hA.cell; have lA := hA.lt; have fA := hA.froz
  have hB := ((hB).alloc _).below hb; clear kB lB fB; have kB := hB.cell; have lB := hB.lt; have fB := hB.froz
  have hC := ((hC).alloc _).below hb; clear kC lC fC; have kC := hC.cell; have lC := hC.lt; have fC := hC.froz
  have hX := ((Blk.new_at (w := w3) (g := w3.heap.size) (by simp) 29 #[.int .i64 Q.1, .int .i64 Q.2.1, .int .i64 Q.2.2])).below hb; have kX := hX.cell; have lX := hX.lt; have fX := hX.froz
  have b4 := b_step (b_alloc (b3) _) hb; clear hb
  go_wp2
  go_ret
  exact ⟨rfl, b_alloc (b4) _⟩
end Go.Proofs.YtolgljionpalkaaDoor
