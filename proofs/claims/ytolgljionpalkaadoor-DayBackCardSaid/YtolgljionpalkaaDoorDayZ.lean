/- The law DayBack. -/
import Derived.Test.YtolgljionpalkaaDoorDayT
import Derived.Test.YtolgljionpalkaaDoorDayY
set_option linter.unusedSimpArgs false
set_option linter.unusedVariables false
namespace Go.Proofs.YtolgljionpalkaaDoor
open Go.RowKit Go.BigFrame
/-- the order of texts, digit by digit: the first that differs decides -/
theorem less_cons (a b : UInt8) (x y : List UInt8) : Op.bytesLess (a :: x) (b :: y) = (decide (a < b) || (a == b && Op.bytesLess x y)) := by
  simp [Op.bytesLess]
theorem bt_lt (n n' u : Int) : (bt n u < bt n' u) = (dI n u < dI n' u) := by
  rw [UInt8.lt_iff_toNat_lt, eq_iff_iff]
  have := bt_int n u; have := bt_int n' u
  omega
theorem order8 (a0 a1 a2 a3 a4 a5 a6 a7 b0 b1 b2 b3 b4 b5 b6 b7 : Int) (hb : 48 ≤ a0 ∧ a0 ≤ 57 ∧ 48 ≤ a1 ∧ a1 ≤ 57 ∧ 48 ≤ a2 ∧ a2 ≤ 57 ∧ 48 ≤ a3 ∧ a3 ≤ 57 ∧ 48 ≤ a4 ∧ a4 ≤ 57 ∧ 48 ≤ a5 ∧ a5 ≤ 57 ∧ 48 ≤ a6 ∧ a6 ≤ 57 ∧ 48 ≤ a7 ∧ a7 ≤ 57 ∧ 48 ≤ b0 ∧ b0 ≤ 57 ∧ 48 ≤ b1 ∧ b1 ≤ 57 ∧ 48 ≤ b2 ∧ b2 ≤ 57 ∧ 48 ≤ b3 ∧ b3 ≤ 57 ∧ 48 ≤ b4 ∧ b4 ≤ 57 ∧ 48 ≤ b5 ∧ b5 ≤ 57 ∧ 48 ≤ b6 ∧ b6 ≤ 57 ∧ 48 ≤ b7 ∧ b7 ≤ 57) (h : 10000000 * (a0 - 48) + 1000000 * (a1 - 48) + 100000 * (a2 - 48) + 10000 * (a3 - 48) + 1000 * (a4 - 48) + 100 * (a5 - 48) + 10 * (a6 - 48) + 1 * (a7 - 48) < 10000000 * (b0 - 48) + 1000000 * (b1 - 48) + 100000 * (b2 - 48) + 10000 * (b3 - 48) + 1000 * (b4 - 48) + 100 * (b5 - 48) + 10 * (b6 - 48) + 1 * (b7 - 48)) : (decide (b0 < a0) || (decide (b0 = a0) && (decide (b1 < a1) || (decide (b1 = a1) && (decide (b2 < a2) || (decide (b2 = a2) && (decide (b3 < a3) || (decide (b3 = a3) && (decide (b4 < a4) || (decide (b4 = a4) && (decide (b5 < a5) || (decide (b5 = a5) && (decide (b6 < a6) || (decide (b6 = a6) && (decide (b7 < a7) || (decide (b7 = a7) && false)))))))))))))))) = false ∧ ¬ (b0 = a0 ∧ b1 = a1 ∧ b2 = a2 ∧ b3 = a3 ∧ b4 = a4 ∧ b5 = a5 ∧ b6 = a6 ∧ b7 = a7) := by
  refine ⟨?_, by omega⟩
  simp only [Bool.or_eq_false_iff, Bool.and_eq_false_iff, decide_eq_false_iff_not, beq_eq_false_iff_ne, ne_eq]
  refine ⟨by omega, ?_⟩
  by_cases e0 : b0 = a0
  · right
    refine ⟨by omega, ?_⟩
    by_cases e1 : b1 = a1
    · right
      refine ⟨by omega, ?_⟩
      by_cases e2 : b2 = a2
      · right
        refine ⟨by omega, ?_⟩
        by_cases e3 : b3 = a3
        · right
          refine ⟨by omega, ?_⟩
          by_cases e4 : b4 = a4
          · right
            refine ⟨by omega, ?_⟩
            by_cases e5 : b5 = a5
            · right
              refine ⟨by omega, ?_⟩
              by_cases e6 : b6 = a6
              · right
                refine ⟨by omega, ?_⟩
                by_cases e7 : b7 = a7
                · exfalso; omega
                · left; exact e7
              · left; exact e6
            · left; exact e5
          · left; exact e4
        · left; exact e3
      · left; exact e2
    · left; exact e1
  · left; exact e0
theorem txt_order {y m d y' m' d' : Int} (h : goodB y m d = true) (h' : goodB y' m' d' = true) (hv : y * 10000 + m * 100 + d < y' * 10000 + m' * 100 + d') :
    (Op.bytesLess (txt y' m' d').toList (txt y m d).toList || (txt y' m' d').toList == (txt y m d).toList) = false := by
  have F := (txt_fm h).2
  have F' := (txt_fm h').2
  have O := order8 (dI y 1000) (dI y 100) (dI y 10) (dI y 1) (dI m 10) (dI m 1) (dI d 10) (dI d 1) (dI y' 1000) (dI y' 100) (dI y' 10) (dI y' 1) (dI m' 10) (dI m' 1) (dI d' 10) (dI d' 1) (by have := dI_bd y 1000; have := dI_bd y 100; have := dI_bd y 10; have := dI_bd y 1; have := dI_bd m 10; have := dI_bd m 1; have := dI_bd d 10; have := dI_bd d 1; have := dI_bd y' 1000; have := dI_bd y' 100; have := dI_bd y' 10; have := dI_bd y' 1; have := dI_bd m' 10; have := dI_bd m' 1; have := dI_bd d' 10; have := dI_bd d' 1; omega) (by unfold nOf at F F'; simp only [bt_int] at F F'; omega)
  have el : ∀ p q : UInt8, (p == q) = decide ((p.toNat : Int) = (q.toNat : Int)) := by
    intro p q
    rw [Bool.eq_iff_iff]; simp only [beq_iff_eq, decide_eq_true_eq]
    exact ⟨fun h => by rw [h], fun h => UInt8.toNat_inj.1 (by omega)⟩
  have e1 : ∀ y m d, (txt y m d).toList = bL y m d := fun y m d => by rw [ByteArray.toList_eq]; simp [txt]
  rw [e1, e1]
  unfold bL
  have nil : Op.bytesLess [] [] = false := by simp [Op.bytesLess]
  have d1 : decide ((45 : UInt8) < 45) = false := by decide
  have d2 : ((45 : UInt8) == 45) = true := by decide
  rw [Bool.or_eq_false_iff]
  refine ⟨?_, ?_⟩
  · simp only [less_cons, bt_lt, el, bt_int, nil, d1, d2, Bool.false_or, Bool.true_and]
    exact O.1
  · have q := O.2
    rw [beq_eq_false_iff_ne]
    intro hh
    simp only [List.cons.injEq] at hh
    have kk : ∀ n n' u, bt n u = bt n' u → dI n u = dI n' u := fun n n' u hq => by rw [← bt_int, ← bt_int, hq]
    exact q ⟨kk _ _ _ hh.1, kk _ _ _ hh.2.1, kk _ _ _ hh.2.2.1, kk _ _ _ hh.2.2.2.1, kk _ _ _ hh.2.2.2.2.2.1, kk _ _ _ hh.2.2.2.2.2.2.1, kk _ _ _ hh.2.2.2.2.2.2.2.2.1, kk _ _ _ hh.2.2.2.2.2.2.2.2.2.1⟩
theorem num_V {y m d y' m' d' : Int} (h : goodB y m d = true) (h' : goodB y' m' d' = true) (hn : numI y m d < numI y' m' d') : y * 10000 + m * 100 + d < y' * 10000 + m' * 100 + d' := by
  obtain ⟨a1, a2, a3, a4, a5, a6⟩ := (goodB_iff _ _ _).1 h
  obtain ⟨b1, b2, b3, b4, b5, b6⟩ := (goodB_iff _ _ _).1 h'
  have l31 := (lenF_bd y m).2
  have l31' := (lenF_bd y' m').2
  have e := num_mF y m d a3 a4
  have e' := num_mF y' m' d' b3 b4
  have t1 : 12 ≤ tI y' m' := by unfold tI; omega
  have le : tI y m ≤ tI y' m' := by
    by_cases c : tI y m ≤ tI y' m'
    · exact c
    · have := mF_mono (tI y' m') (tI y m) t1 (by omega)
      omega
  by_cases q : tI y m = tI y' m'
  · have : d < d' := by rw [q] at e; omega
    unfold tI at q
    omega
  · unfold tI at le q
    omega
theorem from_is {y m d : Int} (h : Hid (goodB y m d = true)) (w : World) (hT : TabOk w) :
    Calls Tryd.prog 23 #[.int .i64 (numI y m d)] w fun e w' => e = .returned (.tuple #[.agg #[.int .i64 y, .int .i64 m, .int .i64 d], .int .i64 0]) ∧ Below w.heap.size w w' := by
  have := fromnumber_any (numI y m d) w hT
  rwa [dateOf_eq h.out rfl, if_pos (num_rng h.out)] at this
theorem wd_facts (n : Int) : 1 ≤ wdF n ∧ wdF n ≤ 7 ∧ wdF (n + 1) = wdF n % 7 + 1 := by unfold wdF; omega
set_option maxHeartbeats 8000000 in
set_option maxRecDepth 20000 in
theorem back_bad {y m d : Int} (ha : Hid (goodB y m d = false)) (s : ByteArray) (hs : s.size ≤ 140737488351232) (w : World) (hT : TabOk w) :
    Calls Tryd.prog 13 #[.agg #[.int .i64 y, .int .i64 m, .int .i64 d], .string s] w fun e w' => e = .returned (.bool true) ∧ Below w.heap.size w w' := by
  have eqd := eq_date
  have neqd := neq_date
  go_enter Tryd.func13, Tryd.ntmps13
  go_wp2_with fail
  refine (works_any _ (hT.below (b_alloc (Below.refl w.heap.size w) _))).mono ?_
  rintro e w1 ⟨rfl, hb⟩
  have hA := ((Blk.new_at (w := w) (g := w.heap.size) (by simp) 29 #[.int .i64 y, .int .i64 m, .int .i64 d])).below hb; have kA := hA.cell; have lA := hA.lt; have fA := hA.froz
  have b1 := b_step (b_alloc (Below.refl w.heap.size w) _) hb; clear hb
  go_wp2_with fail
  refine (parse_any s hs _ (hT.below (b1))).mono ?_
  rintro e w2 ⟨hb, hP⟩
  have hA := (hA).below hb; clear kA lA fA; have kA := hA.cell; have lA := hA.lt; have fA := hA.froz
  have b2 := b_step (b1) hb; clear hb
  rcases hP with ⟨p, q, r, gx, rfl, rfl⟩ | ⟨c, hc, rfl⟩
  · have GX := Lib.hid gx; clear gx
    go_wp2_with fail
    refine (text_good GX _ (hT.below (b_alloc (b2) _))).mono ?_
    rintro e w3 ⟨rfl, hb⟩
    have hA := ((hA).alloc _).below hb; clear kA lA fA; have kA := hA.cell; have lA := hA.lt; have fA := hA.froz
    have hX := ((Blk.new_at (w := w2) (g := w2.heap.size) (by simp) 29 #[.int .i64 p, .int .i64 q, .int .i64 r])).below hb; have kX := hX.cell; have lX := hX.lt; have fX := hX.froz
    have b3 := b_step (b_alloc (b2) _) hb; clear hb
    go_wp2_with fail
    refine (right_is GX _ (hT.below (b3))).mono ?_
    rintro e w4 ⟨rfl, hb⟩
    have hA := (hA).below hb; clear kA lA fA; have kA := hA.cell; have lA := hA.lt; have fA := hA.froz
    have hX := (hX).below hb; clear kX lX fX; have kX := hX.cell; have lX := hX.lt; have fX := hX.froz
    have b4 := b_step (b3) hb; clear hb
    go_wp2_with fail
    refine (right_is ha _ (hT.below (b4))).mono ?_
    rintro e w5 ⟨rfl, hb⟩
    have hA := (hA).below hb; clear kA lA fA; have kA := hA.cell; have lA := hA.lt; have fA := hA.froz
    have hX := (hX).below hb; clear kX lX fX; have kX := hX.cell; have lX := hX.lt; have fX := hX.froz
    have b5 := b_step (b4) hb; clear hb
    go_wp2
    go_ret
    exact ⟨rfl, b5⟩
  · have hc2 : (c == 0) = false := by simpa using hc
    clear hc
    go_wp2_with fail
    refine (right_is ha _ (hT.below (b_alloc (b2) _))).mono ?_
    rintro e w3 ⟨rfl, hb⟩
    have hA := ((hA).alloc _).below hb; clear kA lA fA; have kA := hA.cell; have lA := hA.lt; have fA := hA.froz
    have hX := ((Blk.new_at (w := w2) (g := w2.heap.size) (by simp) 29 #[.int .i64 0, .int .i64 0, .int .i64 0])).below hb; have kX := hX.cell; have lX := hX.lt; have fX := hX.froz
    have b3 := b_step (b_alloc (b2) _) hb; clear hb
    go_wp2
    go_ret
    exact ⟨rfl, b3⟩
set_option maxHeartbeats 8000000 in
set_option maxRecDepth 20000 in
theorem back_good {y m d : Int} (ha : Hid (goodB y m d = true)) (s : ByteArray) (hs : s.size ≤ 140737488351232) (w : World) (hT : TabOk w) :
    Calls Tryd.prog 13 #[.agg #[.int .i64 y, .int .i64 m, .int .i64 d], .string s] w fun e w' => e = .returned (.bool true) ∧ Below w.heap.size w w' := by
  have eqd := eq_date
  have neqd := neq_date
  go_enter Tryd.func13, Tryd.ntmps13
  go_wp2_with fail
  refine (works_any _ (hT.below (b_alloc (Below.refl w.heap.size w) _))).mono ?_
  rintro e w1 ⟨rfl, hb⟩
  have hA := ((Blk.new_at (w := w) (g := w.heap.size) (by simp) 29 #[.int .i64 y, .int .i64 m, .int .i64 d])).below hb; have kA := hA.cell; have lA := hA.lt; have fA := hA.froz
  have b1 := b_step (b_alloc (Below.refl w.heap.size w) _) hb; clear hb
  go_wp2_with fail
  refine (parse_any s hs _ (hT.below (b1))).mono ?_
  rintro e w2 ⟨hb, hP⟩
  have hA := (hA).below hb; clear kA lA fA; have kA := hA.cell; have lA := hA.lt; have fA := hA.froz
  have b2 := b_step (b1) hb; clear hb
  rcases hP with ⟨p, q, r, gx, rfl, rfl⟩ | ⟨c, hc, rfl⟩
  · have GX := Lib.hid gx; clear gx
    go_wp2_with fail
    refine (text_good GX _ (hT.below (b_alloc (b2) _))).mono ?_
    rintro e w3 ⟨rfl, hb⟩
    have hA := ((hA).alloc _).below hb; clear kA lA fA; have kA := hA.cell; have lA := hA.lt; have fA := hA.froz
    have hX := ((Blk.new_at (w := w2) (g := w2.heap.size) (by simp) 29 #[.int .i64 p, .int .i64 q, .int .i64 r])).below hb; have kX := hX.cell; have lX := hX.lt; have fX := hX.froz
    have b3 := b_step (b_alloc (b2) _) hb; clear hb
    go_wp2_with fail
    refine (right_is GX _ (hT.below (b3))).mono ?_
    rintro e w4 ⟨rfl, hb⟩
    have hA := (hA).below hb; clear kA lA fA; have kA := hA.cell; have lA := hA.lt; have fA := hA.froz
    have hX := (hX).below hb; clear kX lX fX; have kX := hX.cell; have lX := hX.lt; have fX := hX.froz
    have b4 := b_step (b3) hb; clear hb
    go_wp2_with fail
    refine (right_is ha _ (hT.below (b4))).mono ?_
    rintro e w5 ⟨rfl, hb⟩
    have hA := (hA).below hb; clear kA lA fA; have kA := hA.cell; have lA := hA.lt; have fA := hA.froz
    have hX := (hX).below hb; clear kX lX fX; have kX := hX.cell; have lX := hX.lt; have fX := hX.froz
    have b5 := b_step (b4) hb; clear hb
    go_wp2_with fail
    refine (Number_good ha _ (hT.below (b5))).mono ?_
    rintro e w6 ⟨rfl, hb⟩
    have hA := (hA).below hb; clear kA lA fA; have kA := hA.cell; have lA := hA.lt; have fA := hA.froz
    have hX := (hX).below hb; clear kX lX fX; have kX := hX.cell; have lX := hX.lt; have fX := hX.froz
    have b6 := b_step (b5) hb; clear hb
    go_wp2_with fail
    refine (from_is ha _ (hT.below (b6))).mono ?_
    rintro e w7 ⟨rfl, hb⟩
    have hA := (hA).below hb; clear kA lA fA; have kA := hA.cell; have lA := hA.lt; have fA := hA.froz
    have hX := (hX).below hb; clear kX lX fX; have kX := hX.cell; have lX := hX.lt; have fX := hX.froz
    have b7 := b_step (b6) hb; clear hb
    go_wp2_with fail
    refine (text_good ha _ (hT.below (b_alloc (b7) _))).mono ?_
    rintro e w8 ⟨rfl, hb⟩
    have hA := ((hA).alloc _).below hb; clear kA lA fA; have kA := hA.cell; have lA := hA.lt; have fA := hA.froz
    have hX := ((hX).alloc _).below hb; clear kX lX fX; have kX := hX.cell; have lX := hX.lt; have fX := hX.froz
    have hF := ((Blk.new_at (w := w7) (g := w7.heap.size) (by simp) 29 #[.int .i64 y, .int .i64 m, .int .i64 d])).below hb; have kF := hF.cell; have lF := hF.lt; have fF := hF.froz
    have b8 := b_step (b_alloc (b7) _) hb; clear hb
    go_wp2_with fail
    refine (parse_is ha _ (hT.below (b8))).mono ?_
    rintro e w9 ⟨rfl, hb⟩
    have hA := (hA).below hb; clear kA lA fA; have kA := hA.cell; have lA := hA.lt; have fA := hA.froz
    have hX := (hX).below hb; clear kX lX fX; have kX := hX.cell; have lX := hX.lt; have fX := hX.froz
    have hF := (hF).below hb; clear kF lF fF; have kF := hF.cell; have lF := hF.lt; have fF := hF.froz
    have b9 := b_step (b8) hb; clear hb
    by_cases hl : numI y m d = 3652059
    · replace hl := Lib.hid hl
      obtain ⟨h1, h2, h3⟩ := num_inj y m d 9999 12 31 ha.out (by decide) (hl.out.trans num_last.symm)
      have k1 : (y == 9999) = true := by simpa using h1
      have k2 : (m == 12) = true := by simpa using h2
      have k3 : (d == 31) = true := by simpa using h3
      clear h1 h2 h3
      go_wp2_with fail
      refine (days_no ha hl.out _ (hT.below (b_alloc (b9) _))).mono ?_
      rintro e w10 ⟨rfl, hb⟩
      have hA := ((hA).alloc _).below hb; clear kA lA fA; have kA := hA.cell; have lA := hA.lt; have fA := hA.froz
      have hX := ((hX).alloc _).below hb; clear kX lX fX; have kX := hX.cell; have lX := hX.lt; have fX := hX.froz
      have hF := ((hF).alloc _).below hb; clear kF lF fF; have kF := hF.cell; have lF := hF.lt; have fF := hF.froz
      have hP := ((Blk.new_at (w := w9) (g := w9.heap.size) (by simp) 29 #[.int .i64 y, .int .i64 m, .int .i64 d])).below hb; have kP := hP.cell; have lP := hP.lt; have fP := hP.froz
      have b10 := b_step (b_alloc (b9) _) hb; clear hb
      go_wp2
      go_ret
      exact ⟨rfl, b_alloc (b10) _⟩
    · obtain ⟨y2, m2, d2, g2, e2⟩ := next_good ha.out hl
      have G2 := Lib.hid g2
      have ord := txt_order ha.out g2 (num_V ha.out g2 (by omega))
      have wf := wd_facts (numI y m d)
      rw [← e2] at wf
      have hd := Lib.hid (fun W (t : TabOk W) => days_to (n := 1) ha G2 e2.symm W t)
      have e3 := Lib.hid e2
      have rg := num_rng ha.out
      have w1' : decide (1 ≤ wdF (numI y m d)) = true := by simp; omega
      have w2' : decide (wdF (numI y m d) ≤ 7) = true := by simp; omega
      have w3' : (numI y2 m2 d2 == numI y m d + 1) = true := by simp; omega
      have w4' : (wdF (numI y2 m2 d2) == (wdF (numI y m d)).tmod 7 + 1) = true := by simp; rw [Int.tmod_eq_emod_of_nonneg (by omega)]; omega
      clear e2 hl g2
      go_wp2_with fail
      refine (hd.out _ (hT.below (b_alloc (b9) _))).mono ?_
      rintro e w10 ⟨rfl, hb⟩
      have hA := ((hA).alloc _).below hb; clear kA lA fA; have kA := hA.cell; have lA := hA.lt; have fA := hA.froz
      have hX := ((hX).alloc _).below hb; clear kX lX fX; have kX := hX.cell; have lX := hX.lt; have fX := hX.froz
      have hF := ((hF).alloc _).below hb; clear kF lF fF; have kF := hF.cell; have lF := hF.lt; have fF := hF.froz
      have hP := ((Blk.new_at (w := w9) (g := w9.heap.size) (by simp) 29 #[.int .i64 y, .int .i64 m, .int .i64 d])).below hb; have kP := hP.cell; have lP := hP.lt; have fP := hP.froz
      have b10 := b_step (b_alloc (b9) _) hb; clear hb
      go_wp2_with fail
      refine (Number_good G2 _ (hT.below (b_alloc (b10) _))).mono ?_
      rintro e w11 ⟨rfl, hb⟩
      have hA := ((hA).alloc _).below hb; clear kA lA fA; have kA := hA.cell; have lA := hA.lt; have fA := hA.froz
      have hX := ((hX).alloc _).below hb; clear kX lX fX; have kX := hX.cell; have lX := hX.lt; have fX := hX.froz
      have hF := ((hF).alloc _).below hb; clear kF lF fF; have kF := hF.cell; have lF := hF.lt; have fF := hF.froz
      have hP := ((hP).alloc _).below hb; clear kP lP fP; have kP := hP.cell; have lP := hP.lt; have fP := hP.froz
      have hN := ((Blk.new_at (w := w10) (g := w10.heap.size) (by simp) 29 #[.int .i64 y2, .int .i64 m2, .int .i64 d2])).below hb; have kN := hN.cell; have lN := hN.lt; have fN := hN.froz
      have b11 := b_step (b_alloc (b10) _) hb; clear hb
      go_wp2_with fail
      refine (text_good G2 _ (hT.below (b11))).mono ?_
      rintro e w12 ⟨rfl, hb⟩
      have hA := (hA).below hb; clear kA lA fA; have kA := hA.cell; have lA := hA.lt; have fA := hA.froz
      have hX := (hX).below hb; clear kX lX fX; have kX := hX.cell; have lX := hX.lt; have fX := hX.froz
      have hF := (hF).below hb; clear kF lF fF; have kF := hF.cell; have lF := hF.lt; have fF := hF.froz
      have hP := (hP).below hb; clear kP lP fP; have kP := hP.cell; have lP := hP.lt; have fP := hP.froz
      have hN := (hN).below hb; clear kN lN fN; have kN := hN.cell; have lN := hN.lt; have fN := hN.froz
      have b12 := b_step (b11) hb; clear hb
      go_wp2_with fail
      refine (Weekday_good ha _ (hT.below (b12))).mono ?_
      rintro e w13 ⟨rfl, hb⟩
      have hA := (hA).below hb; clear kA lA fA; have kA := hA.cell; have lA := hA.lt; have fA := hA.froz
      have hX := (hX).below hb; clear kX lX fX; have kX := hX.cell; have lX := hX.lt; have fX := hX.froz
      have hF := (hF).below hb; clear kF lF fF; have kF := hF.cell; have lF := hF.lt; have fF := hF.froz
      have hP := (hP).below hb; clear kP lP fP; have kP := hP.cell; have lP := hP.lt; have fP := hP.froz
      have hN := (hN).below hb; clear kN lN fN; have kN := hN.cell; have lN := hN.lt; have fN := hN.froz
      have b13 := b_step (b12) hb; clear hb
      go_wp2_with fail
      refine (Weekday_good G2 _ (hT.below (b13))).mono ?_
      rintro e w14 ⟨rfl, hb⟩
      have hA := (hA).below hb; clear kA lA fA; have kA := hA.cell; have lA := hA.lt; have fA := hA.froz
      have hX := (hX).below hb; clear kX lX fX; have kX := hX.cell; have lX := hX.lt; have fX := hX.froz
      have hF := (hF).below hb; clear kF lF fF; have kF := hF.cell; have lF := hF.lt; have fF := hF.froz
      have hP := (hP).below hb; clear kP lP fP; have kP := hP.cell; have lP := hP.lt; have fP := hP.froz
      have hN := (hN).below hb; clear kN lN fN; have kN := hN.cell; have lN := hN.lt; have fN := hN.froz
      have b14 := b_step (b13) hb; clear hb
      go_wp2
      go_ret
      exact ⟨rfl, b14⟩
  · have hc2 : (c == 0) = false := by simpa using hc
    clear hc
    go_wp2_with fail
    refine (right_is ha _ (hT.below (b_alloc (b2) _))).mono ?_
    rintro e w3 ⟨rfl, hb⟩
    have hA := ((hA).alloc _).below hb; clear kA lA fA; have kA := hA.cell; have lA := hA.lt; have fA := hA.froz
    have hX := ((Blk.new_at (w := w2) (g := w2.heap.size) (by simp) 29 #[.int .i64 0, .int .i64 0, .int .i64 0])).below hb; have kX := hX.cell; have lX := hX.lt; have fX := hX.froz
    have b3 := b_step (b_alloc (b2) _) hb; clear hb
    go_wp2_with fail
    refine (Number_good ha _ (hT.below (b3))).mono ?_
    rintro e w4 ⟨rfl, hb⟩
    have hA := (hA).below hb; clear kA lA fA; have kA := hA.cell; have lA := hA.lt; have fA := hA.froz
    have hX := (hX).below hb; clear kX lX fX; have kX := hX.cell; have lX := hX.lt; have fX := hX.froz
    have b4 := b_step (b3) hb; clear hb
    go_wp2_with fail
    refine (from_is ha _ (hT.below (b4))).mono ?_
    rintro e w5 ⟨rfl, hb⟩
    have hA := (hA).below hb; clear kA lA fA; have kA := hA.cell; have lA := hA.lt; have fA := hA.froz
    have hX := (hX).below hb; clear kX lX fX; have kX := hX.cell; have lX := hX.lt; have fX := hX.froz
    have b5 := b_step (b4) hb; clear hb
    go_wp2_with fail
    refine (text_good ha _ (hT.below (b_alloc (b5) _))).mono ?_
    rintro e w6 ⟨rfl, hb⟩
    have hA := ((hA).alloc _).below hb; clear kA lA fA; have kA := hA.cell; have lA := hA.lt; have fA := hA.froz
    have hX := ((hX).alloc _).below hb; clear kX lX fX; have kX := hX.cell; have lX := hX.lt; have fX := hX.froz
    have hF := ((Blk.new_at (w := w5) (g := w5.heap.size) (by simp) 29 #[.int .i64 y, .int .i64 m, .int .i64 d])).below hb; have kF := hF.cell; have lF := hF.lt; have fF := hF.froz
    have b6 := b_step (b_alloc (b5) _) hb; clear hb
    go_wp2_with fail
    refine (parse_is ha _ (hT.below (b6))).mono ?_
    rintro e w7 ⟨rfl, hb⟩
    have hA := (hA).below hb; clear kA lA fA; have kA := hA.cell; have lA := hA.lt; have fA := hA.froz
    have hX := (hX).below hb; clear kX lX fX; have kX := hX.cell; have lX := hX.lt; have fX := hX.froz
    have hF := (hF).below hb; clear kF lF fF; have kF := hF.cell; have lF := hF.lt; have fF := hF.froz
    have b7 := b_step (b6) hb; clear hb
    by_cases hl : numI y m d = 3652059
    · replace hl := Lib.hid hl
      obtain ⟨h1, h2, h3⟩ := num_inj y m d 9999 12 31 ha.out (by decide) (hl.out.trans num_last.symm)
      have k1 : (y == 9999) = true := by simpa using h1
      have k2 : (m == 12) = true := by simpa using h2
      have k3 : (d == 31) = true := by simpa using h3
      clear h1 h2 h3
      go_wp2_with fail
      refine (days_no ha hl.out _ (hT.below (b_alloc (b7) _))).mono ?_
      rintro e w8 ⟨rfl, hb⟩
      have hA := ((hA).alloc _).below hb; clear kA lA fA; have kA := hA.cell; have lA := hA.lt; have fA := hA.froz
      have hX := ((hX).alloc _).below hb; clear kX lX fX; have kX := hX.cell; have lX := hX.lt; have fX := hX.froz
      have hF := ((hF).alloc _).below hb; clear kF lF fF; have kF := hF.cell; have lF := hF.lt; have fF := hF.froz
      have hP := ((Blk.new_at (w := w7) (g := w7.heap.size) (by simp) 29 #[.int .i64 y, .int .i64 m, .int .i64 d])).below hb; have kP := hP.cell; have lP := hP.lt; have fP := hP.froz
      have b8 := b_step (b_alloc (b7) _) hb; clear hb
      go_wp2
      go_ret
      exact ⟨rfl, b_alloc (b8) _⟩
    · obtain ⟨y2, m2, d2, g2, e2⟩ := next_good ha.out hl
      have G2 := Lib.hid g2
      have ord := txt_order ha.out g2 (num_V ha.out g2 (by omega))
      have wf := wd_facts (numI y m d)
      rw [← e2] at wf
      have hd := Lib.hid (fun W (t : TabOk W) => days_to (n := 1) ha G2 e2.symm W t)
      have e3 := Lib.hid e2
      have rg := num_rng ha.out
      have w1' : decide (1 ≤ wdF (numI y m d)) = true := by simp; omega
      have w2' : decide (wdF (numI y m d) ≤ 7) = true := by simp; omega
      have w3' : (numI y2 m2 d2 == numI y m d + 1) = true := by simp; omega
      have w4' : (wdF (numI y2 m2 d2) == (wdF (numI y m d)).tmod 7 + 1) = true := by simp; rw [Int.tmod_eq_emod_of_nonneg (by omega)]; omega
      clear e2 hl g2
      go_wp2_with fail
      refine (hd.out _ (hT.below (b_alloc (b7) _))).mono ?_
      rintro e w8 ⟨rfl, hb⟩
      have hA := ((hA).alloc _).below hb; clear kA lA fA; have kA := hA.cell; have lA := hA.lt; have fA := hA.froz
      have hX := ((hX).alloc _).below hb; clear kX lX fX; have kX := hX.cell; have lX := hX.lt; have fX := hX.froz
      have hF := ((hF).alloc _).below hb; clear kF lF fF; have kF := hF.cell; have lF := hF.lt; have fF := hF.froz
      have hP := ((Blk.new_at (w := w7) (g := w7.heap.size) (by simp) 29 #[.int .i64 y, .int .i64 m, .int .i64 d])).below hb; have kP := hP.cell; have lP := hP.lt; have fP := hP.froz
      have b8 := b_step (b_alloc (b7) _) hb; clear hb
      go_wp2_with fail
      refine (Number_good G2 _ (hT.below (b_alloc (b8) _))).mono ?_
      rintro e w9 ⟨rfl, hb⟩
      have hA := ((hA).alloc _).below hb; clear kA lA fA; have kA := hA.cell; have lA := hA.lt; have fA := hA.froz
      have hX := ((hX).alloc _).below hb; clear kX lX fX; have kX := hX.cell; have lX := hX.lt; have fX := hX.froz
      have hF := ((hF).alloc _).below hb; clear kF lF fF; have kF := hF.cell; have lF := hF.lt; have fF := hF.froz
      have hP := ((hP).alloc _).below hb; clear kP lP fP; have kP := hP.cell; have lP := hP.lt; have fP := hP.froz
      have hN := ((Blk.new_at (w := w8) (g := w8.heap.size) (by simp) 29 #[.int .i64 y2, .int .i64 m2, .int .i64 d2])).below hb; have kN := hN.cell; have lN := hN.lt; have fN := hN.froz
      have b9 := b_step (b_alloc (b8) _) hb; clear hb
      go_wp2_with fail
      refine (text_good G2 _ (hT.below (b9))).mono ?_
      rintro e w10 ⟨rfl, hb⟩
      have hA := (hA).below hb; clear kA lA fA; have kA := hA.cell; have lA := hA.lt; have fA := hA.froz
      have hX := (hX).below hb; clear kX lX fX; have kX := hX.cell; have lX := hX.lt; have fX := hX.froz
      have hF := (hF).below hb; clear kF lF fF; have kF := hF.cell; have lF := hF.lt; have fF := hF.froz
      have hP := (hP).below hb; clear kP lP fP; have kP := hP.cell; have lP := hP.lt; have fP := hP.froz
      have hN := (hN).below hb; clear kN lN fN; have kN := hN.cell; have lN := hN.lt; have fN := hN.froz
      have b10 := b_step (b9) hb; clear hb
      go_wp2_with fail
      refine (Weekday_good ha _ (hT.below (b10))).mono ?_
      rintro e w11 ⟨rfl, hb⟩
      have hA := (hA).below hb; clear kA lA fA; have kA := hA.cell; have lA := hA.lt; have fA := hA.froz
      have hX := (hX).below hb; clear kX lX fX; have kX := hX.cell; have lX := hX.lt; have fX := hX.froz
      have hF := (hF).below hb; clear kF lF fF; have kF := hF.cell; have lF := hF.lt; have fF := hF.froz
      have hP := (hP).below hb; clear kP lP fP; have kP := hP.cell; have lP := hP.lt; have fP := hP.froz
      have hN := (hN).below hb; clear kN lN fN; have kN := hN.cell; have lN := hN.lt; have fN := hN.froz
      have b11 := b_step (b10) hb; clear hb
      go_wp2_with fail
      refine (Weekday_good G2 _ (hT.below (b11))).mono ?_
      rintro e w12 ⟨rfl, hb⟩
      have hA := (hA).below hb; clear kA lA fA; have kA := hA.cell; have lA := hA.lt; have fA := hA.froz
      have hX := (hX).below hb; clear kX lX fX; have kX := hX.cell; have lX := hX.lt; have fX := hX.froz
      have hF := (hF).below hb; clear kF lF fF; have kF := hF.cell; have lF := hF.lt; have fF := hF.froz
      have hP := (hP).below hb; clear kP lP fP; have kP := hP.cell; have lP := hP.lt; have fP := hP.froz
      have hN := (hN).below hb; clear kN lN fN; have kN := hN.cell; have lN := hN.lt; have fN := hN.froz
      have b12 := b_step (b11) hb; clear hb
      go_wp2
      go_ret
      exact ⟨rfl, b12⟩
theorem dayBack_law (y m d : Int) (s : ByteArray) (w : World) (hT : TabOk w) (_ : (Lit.int .i64 y).wf = true ∧ (Lit.int .i64 m).wf = true ∧ (Lit.int .i64 d).wf = true) (hs : s.size ≤ 140737488351232) :
    Calls Tryd.prog 13 #[.agg #[.int .i64 y, .int .i64 m, .int .i64 d], .string s] w fun e w' => e = .returned (.bool true) ∧ Below w.heap.size w w' := by
  cases h : goodB y m d with
  | false => exact back_bad (Lib.hid h) s hs w hT
  | true => exact back_good (Lib.hid h) s hs w hT
end Go.Proofs.YtolgljionpalkaaDoor
