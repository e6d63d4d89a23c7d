/- since, both, Age: the program's. -/
import Derived.Test.YtolgljionpalkaaDoorDayN
set_option linter.unusedSimpArgs false
set_option linter.unusedVariables false
namespace Go.Proofs.YtolgljionpalkaaDoor
open Go.RowKit Go.BigFrame
theorem number_on {y m d k : Int} (h : Hid (goodB y m d = true)) (h1 : 12 ≤ tI y m + k) (h2 : k ≤ 200000) (w : World) (hT : TabOk w) :
    Calls Tryd.prog 50 #[.agg #[.int .i64 (moD y m d k).1, .int .i64 (moD y m d k).2.1, .int .i64 (moD y m d k).2.2]] w fun e w' => e = .returned (.int .i64 (onF y m d k)) ∧ Below w.heap.size w w' := by
  obtain ⟨a1, a2, a3, a4, a5, a6⟩ := (goodB_iff _ _ _).1 h.out
  have := lenF_bd y m
  unfold tI at h1
  exact number_any _ _ _ w hT (by unfold moD; simp only []; omega) (by unfold moD; simp only []; omega) (by unfold moD; simp only []; omega) (by unfold moD; simp only []; omega) (by unfold moD mnI; simp only []; have := lenF_bd ((12 * y + m - 1 + k) / 12) ((12 * y + m - 1 + k) % 12 + 1); split <;> omega) (by unfold moD mnI; simp only []; have := lenF_bd ((12 * y + m - 1 + k) / 12) ((12 * y + m - 1 + k) % 12 + 1); split <;> omega)
theorem on_t {y m d k : Int} (h : Hid (goodB y m d = true)) (h1 : 12 ≤ tI y m + k) (h2 : k ≤ 200000) (w : World) (hT : TabOk w) :
    Calls Tryd.prog 56 #[.agg #[.int .i64 y, .int .i64 m, .int .i64 d], .int .i64 k] w fun e w' => e = .returned (.agg #[.int .i64 (moD y m d k).1, .int .i64 (moD y m d k).2.1, .int .i64 (moD y m d k).2.2]) ∧ Below w.heap.size w w' := by
  obtain ⟨a1, a2, a3, a4, a5, a6⟩ := (goodB_iff _ _ _).1 h.out
  unfold tI at h1
  exact on_good h ⟨by omega, h2, by omega⟩ w hT
theorem numberr_on {y m d k : Int} (h : Hid (goodB y m d = true)) (h1 : 12 ≤ tI y m + k) (h2 : k ≤ 200000) (w : World) :
    Calls Tryd.prog 27 #[.agg #[.int .i64 (moD y m d k).1, .int .i64 (moD y m d k).2.1, .int .i64 (moD y m d k).2.2]] w fun e w' => e = .returned (.int .i64 (onF y m d k)) ∧ Below w.heap.size w w' := by
  obtain ⟨a1, a2, a3, a4, a5, a6⟩ := (goodB_iff _ _ _).1 h.out
  have := lenF_bd y m
  unfold tI at h1
  exact numberr_any _ _ _ w (by unfold moD; simp only []; omega) (by unfold moD; simp only []; omega) (by unfold moD; simp only []; omega) (by unfold moD; simp only []; omega) (by unfold moD mnI; simp only []; have := lenF_bd ((12 * y + m - 1 + k) / 12) ((12 * y + m - 1 + k) % 12 + 1); split <;> omega) (by unfold moD mnI; simp only []; have := lenF_bd ((12 * y + m - 1 + k) / 12) ((12 * y + m - 1 + k) % 12 + 1); split <;> omega)
theorem onr_t {y m d k : Int} (h : Hid (goodB y m d = true)) (h1 : 12 ≤ tI y m + k) (h2 : k ≤ 200000) (w : World) :
    Calls Tryd.prog 57 #[.agg #[.int .i64 y, .int .i64 m, .int .i64 d], .int .i64 k] w fun e w' => e = .returned (.agg #[.int .i64 (moD y m d k).1, .int .i64 (moD y m d k).2.1, .int .i64 (moD y m d k).2.2]) ∧ Below w.heap.size w w' := by
  obtain ⟨a1, a2, a3, a4, a5, a6⟩ := (goodB_iff _ _ _).1 h.out
  have := lenF_bd y m
  unfold tI at h1
  exact monthsr_yes ⟨a1, by omega⟩ ⟨a3, a4⟩ ⟨by omega, by omega⟩ (by omega) ⟨a5, by omega⟩ w
theorem onF_rng {y m d k : Int} (h : Hid (goodB y m d = true)) (h1 : 12 ≤ tI y m + k) (h2 : k ≤ 200000) : 0 ≤ onF y m d k ∧ onF y m d k ≤ 50000000 := by
  obtain ⟨a1, a2, a3, a4, a5, a6⟩ := (goodB_iff _ _ _).1 h.out
  have hl := lenF_bd y m
  have l := mL_bd (tI y m + k)
  have b := mnI_bd d (mL (tI y m + k)) a5 (by omega)
  have c := yb_bd ((tI y m + k) / 12) (by omega) (by unfold tI; omega)
  have e := cumI_bd ((tI y m + k) / 12) ((tI y m + k) % 12 + 1) (by omega) (by omega)
  rw [onF_mF]
  unfold mF
  omega
def bothE (y m d y' m' d' : Int) : Int := if goodB y m d = true then (if goodB y' m' d' = true then 0 else 70) else 70
set_option maxHeartbeats 400000 in
theorem both_good {y m d y' m' d' : Int} (ha : Hid (goodB y m d = true)) (hb' : Hid (goodB y' m' d' = true)) (w : World) (hT : TabOk w) : Calls Tryd.prog 58 #[.agg #[.int .i64 y, .int .i64 m, .int .i64 d], .agg #[.int .i64 y', .int .i64 m', .int .i64 d']] w fun e w' => e = .returned (.int .i64 0) ∧ Below w.heap.size w w' := by
  go_enter Tryd.func58, Tryd.ntmps58
  go_wp2_with fail
  refine (check_good ha _ (hT.below (b_alloc (b_alloc (Below.refl w.heap.size w) _) _))).mono ?_
  rintro e w1 ⟨rfl, hb⟩
  have hA := (((Blk.new_at (w := w) (g := w.heap.size) (by simp) 29 #[.int .i64 y, .int .i64 m, .int .i64 d])).alloc _).below hb; have kA := hA.cell; have lA := hA.lt; have fA := hA.froz
  have hB := ((Blk.new_at (w := (w.alloc (.cells #[.int .i64 y, .int .i64 m, .int .i64 d] 29))) (g := w.heap.size + 1) (by simp) 29 #[.int .i64 y', .int .i64 m', .int .i64 d'])).below hb; have kB := hB.cell; have lB := hB.lt; have fB := hB.froz
  have b1 := b_step (b_alloc (b_alloc (Below.refl w.heap.size w) _) _) hb; clear hb
  go_wp2_with fail
  refine (check_good hb' _ (hT.below (b1))).mono ?_
  rintro e w2 ⟨rfl, hb⟩
  have hA := (hA).below hb; clear kA lA fA; have kA := hA.cell; have lA := hA.lt; have fA := hA.froz
  have hB := (hB).below hb; clear kB lB fB; have kB := hB.cell; have lB := hB.lt; have fB := hB.froz
  have b2 := b_step (b1) hb; clear hb
  go_wp2
  go_ret
  exact ⟨rfl, b2⟩
set_option maxHeartbeats 400000 in
theorem both_bad1 {y m d y' m' d' : Int} (ha : Hid (goodB y m d = false)) (w : World) (hT : TabOk w) : Calls Tryd.prog 58 #[.agg #[.int .i64 y, .int .i64 m, .int .i64 d], .agg #[.int .i64 y', .int .i64 m', .int .i64 d']] w fun e w' => e = .returned (.int .i64 70) ∧ Below w.heap.size w w' := by
  go_enter Tryd.func58, Tryd.ntmps58
  go_wp2_with fail
  refine (check_bad ha _ (hT.below (b_alloc (b_alloc (Below.refl w.heap.size w) _) _))).mono ?_
  rintro e w1 ⟨rfl, hb⟩
  have hA := (((Blk.new_at (w := w) (g := w.heap.size) (by simp) 29 #[.int .i64 y, .int .i64 m, .int .i64 d])).alloc _).below hb; have kA := hA.cell; have lA := hA.lt; have fA := hA.froz
  have hB := ((Blk.new_at (w := (w.alloc (.cells #[.int .i64 y, .int .i64 m, .int .i64 d] 29))) (g := w.heap.size + 1) (by simp) 29 #[.int .i64 y', .int .i64 m', .int .i64 d'])).below hb; have kB := hB.cell; have lB := hB.lt; have fB := hB.froz
  have b1 := b_step (b_alloc (b_alloc (Below.refl w.heap.size w) _) _) hb; clear hb
  go_wp2
  go_ret
  exact ⟨rfl, b1⟩
set_option maxHeartbeats 400000 in
theorem both_bad2 {y m d y' m' d' : Int} (ha : Hid (goodB y m d = true)) (hb' : Hid (goodB y' m' d' = false)) (w : World) (hT : TabOk w) : Calls Tryd.prog 58 #[.agg #[.int .i64 y, .int .i64 m, .int .i64 d], .agg #[.int .i64 y', .int .i64 m', .int .i64 d']] w fun e w' => e = .returned (.int .i64 70) ∧ Below w.heap.size w w' := by
  go_enter Tryd.func58, Tryd.ntmps58
  go_wp2_with fail
  refine (check_good ha _ (hT.below (b_alloc (b_alloc (Below.refl w.heap.size w) _) _))).mono ?_
  rintro e w1 ⟨rfl, hb⟩
  have hA := (((Blk.new_at (w := w) (g := w.heap.size) (by simp) 29 #[.int .i64 y, .int .i64 m, .int .i64 d])).alloc _).below hb; have kA := hA.cell; have lA := hA.lt; have fA := hA.froz
  have hB := ((Blk.new_at (w := (w.alloc (.cells #[.int .i64 y, .int .i64 m, .int .i64 d] 29))) (g := w.heap.size + 1) (by simp) 29 #[.int .i64 y', .int .i64 m', .int .i64 d'])).below hb; have kB := hB.cell; have lB := hB.lt; have fB := hB.froz
  have b1 := b_step (b_alloc (b_alloc (Below.refl w.heap.size w) _) _) hb; clear hb
  go_wp2_with fail
  refine (check_bad hb' _ (hT.below (b1))).mono ?_
  rintro e w2 ⟨rfl, hb⟩
  have hA := (hA).below hb; clear kA lA fA; have kA := hA.cell; have lA := hA.lt; have fA := hA.froz
  have hB := (hB).below hb; clear kB lB fB; have kB := hB.cell; have lB := hB.lt; have fB := hB.froz
  have b2 := b_step (b1) hb; clear hb
  go_wp2
  go_ret
  exact ⟨rfl, b2⟩
theorem sin_cases (y m d y' m' d' s : Int) : (tI y' m' - tI y m) / s = sinI y m d y' m' d' s ∨ (tI y' m' - tI y m) / s = sinI y m d y' m' d' s + 1 := by
  unfold sinI; split <;> omega
set_option maxHeartbeats 2000000 in
theorem since_12 {y m d y' m' d' : Int} (ha : Hid (goodB y m d = true)) (hb' : Hid (goodB y' m' d' = true)) (hn : numI y m d ≤ numI y' m' d') (w : World) (hT : TabOk w) :
    Calls Tryd.prog 59 #[.agg #[.int .i64 y, .int .i64 m, .int .i64 d], .agg #[.int .i64 y', .int .i64 m', .int .i64 d'], .int .i64 12] w fun e w' => e = .returned (.int .i64 (sinI y m d y' m' d' 12)) ∧ Below w.heap.size w w' := by
  have S := sinI_spec (s := 12) ha.out hb'.out (by omega) hn
  have SC := sin_cases y m d y' m' d' 12
  generalize hS : sinI y m d y' m' d' 12 = S0 at *
  have ga := (goodB_iff _ _ _).1 ha.out
  have gb := (goodB_iff _ _ _).1 hb'.out
  obtain ⟨s1, s2, s3, s4⟩ := S
  have s3' := Lib.hid s3
  have s4' := Lib.hid s4
  have ht := tI_le ha.out hb'.out hn
  have e1 : 12 * (y' - y) + m' - m = tI y' m' - tI y m := by unfold tI; omega
  have HE := Lib.hid e1
  have hta : 12 ≤ tI y m ∧ tI y m ≤ 119999 := by unfold tI; omega
  have htb : 12 ≤ tI y' m' ∧ tI y' m' ≤ 119999 := by unfold tI; omega
  have SC' := Lib.hid SC
  clear s3 s4 hS SC
  go_enter Tryd.func59, Tryd.ntmps59
  go_wp2
  go_loopg [7] 1 (fun k nn wr => ∃ n : Int, nn = .int .i64 n ∧ 0 ≤ n ∧ n * 12 ≤ tI y' m' - tI y m ∧ S0 ≤ n ∧ n ≤ S0 + 1 ∧ n ≤ S0 + k ∧ Blk wr w.heap.size #[.int .i64 y, .int .i64 m, .int .i64 d] ∧ Blk wr (w.heap.size + 1) #[.int .i64 y', .int .i64 m', .int .i64 d'] ∧ Below w.heap.size w wr)
  case atStart => exact ⟨(tI y' m' - tI y m) / 12, by rw [← HE.out] <;> simp, by omega, by omega, by have := SC'.out; omega, by have := SC'.out; omega, by have := SC'.out; omega, (Blk.new _ _ _).alloc _, Blk.new_at (by simp) _ _, b_alloc (b_alloc (Below.refl _ _) _) _⟩
  case round =>
    obtain ⟨n, rfl, hn0, hnt, hnS, hn1, hnk, hA, hB, br⟩ := hrel
    have hTr := hT.below br
    have hr := onF_rng (k := n * 12) ha (by omega) (by omega)
    have hO := Lib.hid (fun W (t : TabOk W) => on_t (k := n * 12) ha (by omega) (by omega) W t)
    have hN := Lib.hid (fun W (t : TabOk W) => number_on (k := n * 12) ha (by omega) (by omega) W t)
    have hNb := Lib.hid (fun W (t : TabOk W) => number_good hb' W t)
    have qA := hA.lcell
    have qB := hB.lcell
    skip
    by_cases hc : n = S0
    · have c3 : decide (numI y' m' d' < onF y m d (n * 12)) = false := by have := s3'.out; rw [← hc] at this; simp; omega
      skip
      have hc0 := Lib.hid hc
      clear hc
      go_wp2_with fail
      refine wp_later 9 (by kernel_rfl) (by kernel_rfl) ?_
      simp only [List.take_succ_cons, List.take_zero, List.drop_succ_cons, List.drop_zero, List.take_nil, List.drop_nil]
      repeat (go_big_quiet_step (first | (go_at_call 56; exact later_call (hO.out _ (hTr.later _))) | (go_at_call_of 50 d'; exact later_call (hNb.out _ (hTr.later _))) | (go_at_call 50; exact later_call (hN.out _ (hTr.later _)))))
      refine wpQuiet_nil ?_
      rintro ⟨w2, hb⟩
      change wpList _ _ _ _ _ w2
      have b2 := b_step br hb
      clear qA qB hTr hO hN hNb
      go_wp2
      go_ret
      exact ⟨by rw [← hc0.out]; rfl, b2⟩
    · have c3 : decide (numI y' m' d' < onF y m d (n * 12)) = true := by have := s4'.out; rw [show S0 + 1 = n by omega] at this; simp; omega
      skip
      go_wp2_with fail
      refine wp_later 9 (by kernel_rfl) (by kernel_rfl) ?_
      simp only [List.take_succ_cons, List.take_zero, List.drop_succ_cons, List.drop_zero, List.take_nil, List.drop_nil]
      repeat (go_big_quiet_step (first | (go_at_call 56; exact later_call (hO.out _ (hTr.later _))) | (go_at_call_of 50 d'; exact later_call (hNb.out _ (hTr.later _))) | (go_at_call 50; exact later_call (hN.out _ (hTr.later _)))))
      refine wpQuiet_nil ?_
      rintro ⟨w2, hb⟩
      change wpList _ _ _ _ _ w2
      have b2 := b_step br hb
      clear qA qB hTr hO hN hNb
      go_wp2
      go_roundg (gk - 1)
      case measure => omega
      case rel => exact ⟨n - 1, by first | rfl | simp, by omega, by omega, by omega, by omega, by omega, hA.below hb, hB.below hb, b2⟩
set_option maxHeartbeats 2000000 in
theorem since_1 {y m d y' m' d' : Int} (ha : Hid (goodB y m d = true)) (hb' : Hid (goodB y' m' d' = true)) (hn : numI y m d ≤ numI y' m' d') (w : World) (hT : TabOk w) :
    Calls Tryd.prog 59 #[.agg #[.int .i64 y, .int .i64 m, .int .i64 d], .agg #[.int .i64 y', .int .i64 m', .int .i64 d'], .int .i64 1] w fun e w' => e = .returned (.int .i64 (sinI y m d y' m' d' 1)) ∧ Below w.heap.size w w' := by
  have S := sinI_spec (s := 1) ha.out hb'.out (by omega) hn
  have SC := sin_cases y m d y' m' d' 1
  generalize hS : sinI y m d y' m' d' 1 = S0 at *
  have ga := (goodB_iff _ _ _).1 ha.out
  have gb := (goodB_iff _ _ _).1 hb'.out
  obtain ⟨s1, s2, s3, s4⟩ := S
  simp only [Int.mul_one] at s2 s3 s4
  have s3' := Lib.hid s3
  have s4' := Lib.hid s4
  have ht := tI_le ha.out hb'.out hn
  have e1 : 12 * (y' - y) + m' - m = tI y' m' - tI y m := by unfold tI; omega
  have HE := Lib.hid e1
  have hta : 12 ≤ tI y m ∧ tI y m ≤ 119999 := by unfold tI; omega
  have htb : 12 ≤ tI y' m' ∧ tI y' m' ≤ 119999 := by unfold tI; omega
  have SC' := Lib.hid SC
  clear s3 s4 hS SC
  go_enter Tryd.func59, Tryd.ntmps59
  go_wp2
  go_loopg [7] 1 (fun k nn wr => ∃ n : Int, nn = .int .i64 n ∧ 0 ≤ n ∧ n ≤ tI y' m' - tI y m ∧ S0 ≤ n ∧ n ≤ S0 + 1 ∧ n ≤ S0 + k ∧ Blk wr w.heap.size #[.int .i64 y, .int .i64 m, .int .i64 d] ∧ Blk wr (w.heap.size + 1) #[.int .i64 y', .int .i64 m', .int .i64 d'] ∧ Below w.heap.size w wr)
  case atStart => exact ⟨(tI y' m' - tI y m) / 1, by rw [← HE.out] <;> simp, by omega, by omega, by have := SC'.out; omega, by have := SC'.out; omega, by have := SC'.out; omega, (Blk.new _ _ _).alloc _, Blk.new_at (by simp) _ _, b_alloc (b_alloc (Below.refl _ _) _) _⟩
  case round =>
    obtain ⟨n, rfl, hn0, hnt, hnS, hn1, hnk, hA, hB, br⟩ := hrel
    have hTr := hT.below br
    have hr := onF_rng (k := n) ha (by omega) (by omega)
    have hO := Lib.hid (fun W (t : TabOk W) => on_t (k := n) ha (by omega) (by omega) W t)
    have hN := Lib.hid (fun W (t : TabOk W) => number_on (k := n) ha (by omega) (by omega) W t)
    have hNb := Lib.hid (fun W (t : TabOk W) => number_good hb' W t)
    have qA := hA.lcell
    have qB := hB.lcell
    skip
    by_cases hc : n = S0
    · have c3 : decide (numI y' m' d' < onF y m d (n)) = false := by have := s3'.out; rw [← hc] at this; simp; omega
      skip
      have hc0 := Lib.hid hc
      clear hc
      go_wp2_with fail
      refine wp_later 9 (by kernel_rfl) (by kernel_rfl) ?_
      simp only [List.take_succ_cons, List.take_zero, List.drop_succ_cons, List.drop_zero, List.take_nil, List.drop_nil]
      repeat (go_big_quiet_step (first | (go_at_call 56; exact later_call (hO.out _ (hTr.later _))) | (go_at_call_of 50 d'; exact later_call (hNb.out _ (hTr.later _))) | (go_at_call 50; exact later_call (hN.out _ (hTr.later _)))))
      refine wpQuiet_nil ?_
      rintro ⟨w2, hb⟩
      change wpList _ _ _ _ _ w2
      have b2 := b_step br hb
      clear qA qB hTr hO hN hNb
      go_wp2
      go_ret
      exact ⟨by rw [← hc0.out]; rfl, b2⟩
    · have c3 : decide (numI y' m' d' < onF y m d (n)) = true := by have := s4'.out; rw [show S0 + 1 = n by omega] at this; simp; omega
      skip
      go_wp2_with fail
      refine wp_later 9 (by kernel_rfl) (by kernel_rfl) ?_
      simp only [List.take_succ_cons, List.take_zero, List.drop_succ_cons, List.drop_zero, List.take_nil, List.drop_nil]
      repeat (go_big_quiet_step (first | (go_at_call 56; exact later_call (hO.out _ (hTr.later _))) | (go_at_call_of 50 d'; exact later_call (hNb.out _ (hTr.later _))) | (go_at_call 50; exact later_call (hN.out _ (hTr.later _)))))
      refine wpQuiet_nil ?_
      rintro ⟨w2, hb⟩
      change wpList _ _ _ _ _ w2
      have b2 := b_step br hb
      clear qA qB hTr hO hN hNb
      go_wp2
      go_roundg (gk - 1)
      case measure => omega
      case rel => exact ⟨n - 1, by first | rfl | simp, by omega, by omega, by omega, by omega, by omega, hA.below hb, hB.below hb, b2⟩
end Go.Proofs.YtolgljionpalkaaDoor
