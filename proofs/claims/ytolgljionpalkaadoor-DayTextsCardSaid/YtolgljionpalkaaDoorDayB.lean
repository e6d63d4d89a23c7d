/- The calendar's contracts: on, FromNumber of package day. -/
import Derived.Test.YtolgljionpalkaaDoorDayA
set_option linter.unusedSimpArgs false
set_option linter.unusedVariables false
namespace Go.Proofs.YtolgljionpalkaaDoor
open Go.RowKit Go.BigFrame
def mnI (a b : Int) : Int := if b < a then b else a
set_option maxHeartbeats 400000 in
theorem on_any (y m d n : Int) (w : World) (hT : TabOk w) (hy1 : 1 ≤ y) (hy2 : y ≤ 10000) (h1 : 1 ≤ m) (h2 : m ≤ 12) (hd1 : 1 ≤ d) (hd2 : d ≤ 31) (hn1 : -200000 ≤ n) (hn2 : n ≤ 200000) (hn3 : 12 ≤ 12 * y + m - 1 + n) :
    Calls Tryd.prog 56 #[.agg #[.int .i64 y, .int .i64 m, .int .i64 d], .int .i64 n] w fun e w' => e = .returned (.agg #[.int .i64 ((12 * y + m - 1 + n) / 12), .int .i64 ((12 * y + m - 1 + n) % 12 + 1),
      .int .i64 (mnI d (lenF ((12 * y + m - 1 + n) / 12) ((12 * y + m - 1 + n) % 12 + 1)))]) ∧ Below w.heap.size w w' := by
  go_enter Tryd.func56, Tryd.ntmps56
  go_wp2_with fail
  generalize hY : (12 * y + m - 1 + n) / 12 = Y
  generalize hM : (12 * y + m - 1 + n) % 12 + 1 = M
  have hM1 : 1 ≤ M := by omega
  have hM2 : M ≤ 12 := by omega
  have HY := Lib.hid hY
  have HM := Lib.hid hM
  clear hn1 hn2 hn3 hY hM
  generalize hw1 : World.alloc (World.alloc w _) _ = w1
  have b1 : Below w.heap.size w w1 := by rw [← hw1]; exact b_alloc (b_alloc (Below.refl _ _) _) _
  have hA : Blk w1 w.heap.size #[.int .i64 Y, .int .i64 M, .int .i64 d] := by rw [← hw1]; exact (Blk.new _ _ _).alloc _
  have hB : Blk w1 (w.heap.size + 1) #[.int .i64 0, .int .i64 0, .int .i64 0] := by rw [← hw1]; exact Blk.new_at (by simp) _ _
  have hT1 := hT.below b1
  clear hw1 hT
  have kA := hA.lcell
  refine wp_later 8 (by kernel_rfl) (by kernel_rfl) ?_
  simp only [List.take_succ_cons, List.take_zero, List.drop_succ_cons, List.drop_zero]
  repeat (go_big_quiet_step (first | (go_at_call 49; exact later_same (length_any Y M _ (hT1.later _) hM1 hM2))))
  refine wpQuiet_nil ?_
  rintro ⟨w2, hb⟩
  clear kA
  have kA := (hA.below hb).cell
  have fA := (hA.below hb).froz
  have kB := (hB.below hb).cell
  have fB := (hB.below hb).froz
  have bb := b_step b1 hb
  go_wp2
  · have E : mnI d (lenF Y M) = lenF Y M := by unfold mnI; rw [if_pos (by assumption)]
    refine bodyPost_ret (v := .agg #[.int .i64 Y, .int .i64 M, .int .i64 (lenF Y M)]) (by simp [results, Tryd.results56, go_sem, kA, fA, kB, fB]) rfl ⟨by rw [HY.out, HM.out, E], ?_⟩
    repeat (first | assumption | refine b_set ?_ (by simp))
  · have E : mnI d (lenF Y M) = d := by unfold mnI; rw [if_neg (by omega)]
    refine bodyPost_ret (v := .agg #[.int .i64 Y, .int .i64 M, .int .i64 d]) (by simp [results, Tryd.results56, go_sem, kA, fA, kB, fB]) rfl ⟨by rw [HY.out, HM.out, E], ?_⟩
    repeat (first | assumption | refine b_set ?_ (by simp))
end Go.Proofs.YtolgljionpalkaaDoor
