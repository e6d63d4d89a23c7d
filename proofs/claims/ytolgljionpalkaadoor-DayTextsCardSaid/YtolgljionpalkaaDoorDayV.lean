/- The law DayDues. -/
import Derived.Test.YtolgljionpalkaaDoorDayU
set_option linter.unusedSimpArgs false
set_option linter.unusedVariables false
namespace Go.Proofs.YtolgljionpalkaaDoor
open Go.RowKit Go.BigFrame
def duC (F : Nat → Int × Int × Int) : Nat → List Value
  | 0 => []
  | k + 1 => duC F k ++ dateC (F k)
theorem duL_eq (y m d e : Int) : ∀ k, duL y m d e k = duC (fun k => moD y m d ((k : Int) * e)) k
  | 0 => rfl
  | k + 1 => by rw [duL, duC, duL_eq y m d e k]
theorem duC_len (F : Nat → Int × Int × Int) : ∀ k, (duC F k).length = k * 3
  | 0 => rfl
  | k + 1 => by simp [duC, dateC, duC_len F k]; omega
theorem duC_get (F : Nat → Int × Int × Int) (j i : Nat) (hi : i < 3) : ∀ n, j < n → (duC F n)[j * 3 + i]? = (dateC (F j))[i]?
  | 0, h => by omega
  | n + 1, h => by
    have l := duC_len F n
    by_cases c : j < n
    · rw [duC, List.getElem?_append_left (by omega)]; exact duC_get F j i hi n c
    · obtain rfl : j = n := by omega
      rw [duC, List.getElem?_append_right (by omega), l]; congr 1; omega
theorem owns_form {w : World} {base e size n : Nat} {v : Value} {xs : List Value} (h : w.ownsRow base e size v n xs) :
    ∃ A cap, v = .slice A n cap ∧ (0 < n → ∃ g, A = some ⟨g, 0, none⟩ ∧ base ≤ g ∧ g < w.heap.size) := by
  rcases h.2 with ⟨h1, h2⟩ | ⟨g, cap, cur, h1, h2, h3, h4⟩
  · exact ⟨none, 0, by rw [h1, h2], by omega⟩
  · exact ⟨some ⟨g, 0, none⟩, cap, h1, fun _ => ⟨g, rfl, h2, (h.lt g (by rw [h1]; rfl)).2⟩⟩
theorem owns_at {w : World} {base e n cap g : Nat} {F : Nat → Int × Int × Int} {X : List Value} {s : Nat} (h : w.ownsRow base e 3 (.slice (some ⟨g, 0, none⟩) n cap) n X) (hX : ∀ k, s * 3 ≤ k → X[k]? = (duC F n)[k]?) (j : Nat) (hj : j < n) (hs : s ≤ j) :
    w.cell? ⟨g, j * 3, none⟩ = some (.int .i64 (F j).1) ∧ w.cell? ⟨g, j * 3 + 1, none⟩ = some (.int .i64 (F j).2.1) ∧ w.cell? ⟨g, j * 3 + 2, none⟩ = some (.int .i64 (F j).2.2) := by
  refine ⟨?_, ?_, ?_⟩
  · rw [h.cellAt _ (by omega), hX _ (by omega)]; exact duC_get F j 0 (by omega) n hj
  · rw [h.cellAt _ (by omega), hX _ (by omega)]; exact duC_get F j 1 (by omega) n hj
  · rw [h.cellAt _ (by omega), hX _ (by omega)]; exact duC_get F j 2 (by omega) n hj
theorem owns_set {w : World} {base e size n g k : Nat} {v u : Value} {xs : List Value} (h : w.ownsRow base e size v n xs) (hne : v.ownBlock ≠ some g) : (w.setCell ⟨g, k, none⟩ u).ownsRow base e size v n xs :=
  h.kept (row := some g) ⟨rfl, rfl, rfl, by simp, fun i _ hi => heap_setCell_other w ⟨g, k, none⟩ i u (fun e => hi (by simp [e]))⟩ (.inr hne)
/-- an element wiped: what the store's steps ask, and what stands then -/
theorem owns_wipe {w : World} {base e n cap g j : Nat} {F : Nat → Int × Int × Int} {X : List Value} (h : w.ownsRow base e 3 (.slice (some ⟨g, 0, none⟩) n cap) n X) (hX : ∀ k, j * 3 ≤ k → X[k]? = (duC F n)[k]?) (hj : j < n) :
    (∃ X', (((w.setCell ⟨g, j * 3, none⟩ (.int .i64 0)).setCell ⟨g, j * 3 + 1, none⟩ (.int .i64 0)).setCell ⟨g, j * 3 + 2, none⟩ (.int .i64 0)).ownsRow base e 3 (.slice (some ⟨g, 0, none⟩) n cap) n X' ∧ ∀ k, (j + 1) * 3 ≤ k → X'[k]? = (duC F n)[k]?) ∧
    w.cell? ⟨g, j * 3, none⟩ = some (.int .i64 (F j).1) ∧ (w.setCell ⟨g, j * 3, none⟩ (.int .i64 0)).cell? ⟨g, j * 3 + 1, none⟩ = some (.int .i64 (F j).2.1) ∧
    ((w.setCell ⟨g, j * 3, none⟩ (.int .i64 0)).setCell ⟨g, j * 3 + 1, none⟩ (.int .i64 0)).cell? ⟨g, j * 3 + 2, none⟩ = some (.int .i64 (F j).2.2) ∧
    w.frozen? ⟨g, j * 3, none⟩ = false ∧ (w.setCell ⟨g, j * 3, none⟩ (.int .i64 0)).frozen? ⟨g, j * 3 + 1, none⟩ = false ∧ ((w.setCell ⟨g, j * 3, none⟩ (.int .i64 0)).setCell ⟨g, j * 3 + 1, none⟩ (.int .i64 0)).frozen? ⟨g, j * 3 + 2, none⟩ = false := by
  have s1 := h.stored (j * 3) (.int .i64 0)
  have s2 := s1.1.stored (j * 3 + 1) (.int .i64 0)
  have s3 := s2.1.stored (j * 3 + 2) (.int .i64 0)
  refine ⟨⟨_, s3.1, fun k hk => ?_⟩, ?_, ?_, ?_, h.frozenAt _, s1.1.frozenAt _, s2.1.frozenAt _⟩
  · rw [List.getElem?_set_ne (by omega), List.getElem?_set_ne (by omega), List.getElem?_set_ne (by omega)]; exact hX k (by omega)
  · rw [h.cellAt _ (by omega), hX _ (by omega)]; exact duC_get F j 0 (by omega) n hj
  · rw [s1.1.cellAt _ (by omega), List.getElem?_set_ne (by omega), hX _ (by omega)]; exact duC_get F j 1 (by omega) n hj
  · rw [s2.1.cellAt _ (by omega), List.getElem?_set_ne (by omega), List.getElem?_set_ne (by omega), hX _ (by omega)]; exact duC_get F j 2 (by omega) n hj
set_option maxHeartbeats 4000000 in
theorem dues_of {y m d : Int} (e c f : Int) (n : Nat) (hn : n ≤ 4096) (F : Nat → Int × Int × Int) (w : World) (hT : TabOk w)
    (h1 : Hid (∀ W, TabOk W → Calls Tryd.prog 29 #[.agg #[.int .i64 y, .int .i64 m, .int .i64 d], .int .i64 e, .int .i64 c] W fun r w' => Below W.heap.size W w' ∧ ∃ v, r = .returned (.tuple #[v, .int .i64 f]) ∧ w'.ownsRow W.heap.size 29 3 v n (duC F n)))
    (h2 : Hid (∀ W, TabOk W → Calls Tryd.prog 30 #[.agg #[.int .i64 y, .int .i64 m, .int .i64 d], .int .i64 e, .int .i64 c] W fun r w' => Below W.heap.size W w' ∧ ∃ v, r = .returned (.tuple #[v, .int .i64 f]) ∧ w'.ownsRow W.heap.size 29 3 v n (duC F n))) :
    Calls Tryd.prog 5 #[.agg #[.int .i64 y, .int .i64 m, .int .i64 d], .int .i64 e, .int .i64 c] w fun r w' => r = .returned (.bool true) ∧ Below w.heap.size w w' := by
  have eqd := neq_date
  go_enter Tryd.func5, Tryd.ntmps5
  go_wp2_with fail
  refine (h1.out _ (hT.below (b_alloc (Below.refl w.heap.size w) _))).mono ?_
  rintro _ w1 ⟨hb, v1, rfl, ho1⟩
  obtain ⟨A1, p1, rfl, hf1⟩ := owns_form ho1
  have hA := ((Blk.new_at (w := w) (g := w.heap.size) (by simp) 29 #[.int .i64 y, .int .i64 m, .int .i64 d])).below hb; have kA := hA.cell; have lA := hA.lt; have fA := hA.froz
  have b1 := b_step (b_alloc (Below.refl w.heap.size w) _) hb; clear hb
  go_wp2_with fail
  refine (h1.out _ (hT.below (b1))).mono ?_
  rintro _ w2 ⟨hb, v2, rfl, ho2⟩
  obtain ⟨A2, p2, rfl, hf2⟩ := owns_form ho2
  have ho1 := owns_below ho1 hb
  have hA := (hA).below hb; clear kA lA fA; have kA := hA.cell; have lA := hA.lt; have fA := hA.froz
  have b2 := b_step (b1) hb; clear hb
  go_wp2_with fail
  refine (h2.out _ (hT.below (b2))).mono ?_
  rintro _ w3 ⟨hb, v3, rfl, ho3⟩
  obtain ⟨A3, p3, rfl, hf3⟩ := owns_form ho3
  have ho1 := owns_below ho1 hb
  have ho2 := owns_below ho2 hb
  have hA := (hA).below hb; clear kA lA fA; have kA := hA.cell; have lA := hA.lt; have fA := hA.froz
  have b3 := b_step (b2) hb; clear hb
  clear hA kA lA fA h1 h2
  by_cases hn0 : n = 0
  · subst hn0
    go_wp2
    go_loopg [13] 0 (fun g i wr => i = .int .i64 0 ∧ Below w.heap.size w wr)
    case atStart => exact ⟨rfl, b3⟩
    case round =>
      obtain ⟨rfl, br⟩ := hrel
      go_wp2
      go_loopg [14] 0 (fun g i wr2 => i = .int .i64 0 ∧ Below w.heap.size w wr2)
      case atStart => exact ⟨rfl, br⟩
      case round =>
        obtain ⟨rfl, br2⟩ := hrel
        go_wp2
        go_ret
        exact ⟨rfl, br2⟩
  · obtain ⟨g1, rfl, hg1, hs1⟩ := hf1 (Nat.pos_of_ne_zero hn0)
    obtain ⟨g2, rfl, hg2, hs2⟩ := hf2 (Nat.pos_of_ne_zero hn0)
    obtain ⟨g3, rfl, hg3, hs3⟩ := hf3 (Nat.pos_of_ne_zero hn0)
    have bs1 := b1.size; have bs2 := b2.size
    clear hf1 hf2 hf3
    go_wp2
    go_loopg [13] n (fun g i wr => ∃ j X, i = .int .i64 ((j : Nat) : Int) ∧ j ≤ n ∧ n - j ≤ g ∧ wr.ownsRow (w.heap.size + 1) 29 3 (.slice (some ⟨g1, 0, none⟩) n p1) n X ∧ (∀ k, j * 3 ≤ k → X[k]? = (duC F n)[k]?) ∧
      wr.ownsRow w1.heap.size 29 3 (.slice (some ⟨g2, 0, none⟩) n p2) n (duC F n) ∧ wr.ownsRow w2.heap.size 29 3 (.slice (some ⟨g3, 0, none⟩) n p3) n (duC F n) ∧ Below w.heap.size w wr)
    case atStart => exact ⟨0, duC F n, rfl, Nat.zero_le _, Nat.sub_le _ _, owns_mono ho1 (by simp), fun k _ => rfl, ho2, ho3, b3⟩
    case round =>
      clear ho1 ho2 ho3
      obtain ⟨j, X, rfl, hj, hg, ho1, hX, ho2, ho3, br⟩ := hrel
      by_cases hlt : j < n
      · have c1 : decide ((j : Int) < (n : Int)) = true := by simpa using hlt
        have q1 := fun x : Later wr => owns_at (owns_below ho1 x.h) hX j hlt (Nat.le_refl j)
        have q3 := fun x : Later wr => owns_at (owns_below ho3 x.h) (s := 0) (fun k _ => rfl) j hlt (Nat.zero_le j)
        have q11 := fun x => (q1 x).1; have q12 := fun x => (q1 x).2.1; have q13 := fun x => (q1 x).2.2
        have q31 := fun x => (q3 x).1; have q32 := fun x => (q3 x).2.1; have q33 := fun x => (q3 x).2.2
        clear q1 q3
        go_wp2_with fail
        refine wp_later 9 (by kernel_rfl) (by kernel_rfl) ?_
        simp only [List.take_succ_cons, List.take_zero, List.drop_succ_cons, List.drop_zero, List.take_nil, List.drop_nil]
        repeat (go_big_quiet_step (fail))
        refine wpQuiet_nil ?_
        rintro ⟨w4, hb⟩
        change wpList _ _ _ _ _ w4
        replace ho1 := owns_below ho1 hb
        replace ho2 := owns_below ho2 hb
        replace ho3 := owns_below ho3 hb
        replace br := b_step br hb
        clear q11 q12 q13 q31 q32 q33 hb
        obtain ⟨S, a0, a1, a2, b0, b1, b2⟩ := owns_wipe ho1 hX hlt
        go_wp2
        go_roundg (gk - 1)
        case measure => omega
        case rel =>
          obtain ⟨X', o1, o2⟩ := S
          exact ⟨j + 1, X', by simp, by omega, by omega, o1, o2, owns_set (owns_set (owns_set ho2 (by simp [Value.ownBlock]; omega)) (by simp [Value.ownBlock]; omega)) (by simp [Value.ownBlock]; omega), owns_set (owns_set (owns_set ho3 (by simp [Value.ownBlock]; omega)) (by simp [Value.ownBlock]; omega)) (by simp [Value.ownBlock]; omega), b_set (b_set (b_set br (by show w.heap.size ≤ g1; simp at hg1; omega)) (by show w.heap.size ≤ g1; simp at hg1; omega)) (by show w.heap.size ≤ g1; simp at hg1; omega)⟩
      · have c1 : decide ((j : Int) < (n : Int)) = false := by simpa using hlt
        clear hX ho1
        go_wp2
        go_loopg [14] n (fun g i wr => ∃ j : Nat, i = .int .i64 ((j : Nat) : Int) ∧ j ≤ n ∧ n - j ≤ g ∧
          wr.ownsRow w1.heap.size 29 3 (.slice (some ⟨g2, 0, none⟩) n p2) n (duC F n) ∧ wr.ownsRow w2.heap.size 29 3 (.slice (some ⟨g3, 0, none⟩) n p3) n (duC F n) ∧ Below w.heap.size w wr)
        case atStart => exact ⟨0, rfl, Nat.zero_le _, Nat.sub_le _ _, ho2, ho3, br⟩
        case round =>
          clear ho2 ho3 br c1 hlt hj
          rename_i wr2
          obtain ⟨j2, rfl, hj, hg, ho2, ho3, br⟩ := hrel
          by_cases hlt : j2 < n
          · have c1 : decide ((j2 : Int) < (n : Int)) = true := by simpa using hlt
            have q1 := fun x : Later _ => owns_at (owns_below ho2 x.h) (s := 0) (fun k _ => rfl) j2 hlt (Nat.zero_le j2)
            have q3 := fun x : Later _ => owns_at (owns_below ho3 x.h) (s := 0) (fun k _ => rfl) j2 hlt (Nat.zero_le j2)
            have q11 := fun x => (q1 x).1; have q12 := fun x => (q1 x).2.1; have q13 := fun x => (q1 x).2.2
            have q31 := fun x => (q3 x).1; have q32 := fun x => (q3 x).2.1; have q33 := fun x => (q3 x).2.2
            clear q1 q3
            go_wp2_with fail
            refine wp_later 9 (by kernel_rfl) (by kernel_rfl) ?_
            simp only [List.take_succ_cons, List.take_zero, List.drop_succ_cons, List.drop_zero, List.take_nil, List.drop_nil]
            repeat (go_big_quiet_step (fail))
            refine wpQuiet_nil ?_
            rintro ⟨w4, hb⟩
            change wpList _ _ _ _ _ w4
            replace ho2 := owns_below ho2 hb
            replace ho3 := owns_below ho3 hb
            replace br := b_step br hb
            clear q11 q12 q13 q31 q32 q33 hb
            go_wp2
            go_roundg (gk - 1)
            case measure => omega
            case rel => exact ⟨j2 + 1, by simp, by omega, by omega, ho2, ho3, br⟩
          · have c1 : decide ((j2 : Int) < (n : Int)) = false := by simpa using hlt
            go_wp2
            go_ret
            exact ⟨rfl, br⟩
theorem dues_bad {y m d : Int} (e c : Int) (ha : Hid (goodB y m d = false)) (w : World) (hT : TabOk w) :
    Calls Tryd.prog 29 #[.agg #[.int .i64 y, .int .i64 m, .int .i64 d], .int .i64 e, .int .i64 c] w fun r w' => Below w.heap.size w w' ∧ ∃ v, r = .returned (.tuple #[v, .int .i64 70]) ∧ w'.ownsRow w.heap.size 29 3 v 0 [] := by
  go_enter Tryd.func29, Tryd.ntmps29
  go_wp2_with fail
  refine (check_bad ha _ (hT.below (b_alloc (Below.refl w.heap.size w) _))).mono ?_
  rintro e w1 ⟨rfl, hb⟩
  have hA := ((Blk.new_at (w := w) (g := w.heap.size) (by simp) 29 #[.int .i64 y, .int .i64 m, .int .i64 d])).below hb; have kA := hA.cell; have lA := hA.lt; have fA := hA.froz
  have b1 := b_step (b_alloc (Below.refl w.heap.size w) _) hb; clear hb
  go_wp2
  go_ret2
  exact ⟨b1, _, rfl, World.ownsRow_nil _ _ _ _⟩
theorem dues_r1 {y m d : Int} (e c : Int) (ha : Hid (goodB y m d = true)) (h1 : e < 1) (w : World) (hT : TabOk w) :
    Calls Tryd.prog 29 #[.agg #[.int .i64 y, .int .i64 m, .int .i64 d], .int .i64 e, .int .i64 c] w fun r w' => Below w.heap.size w w' ∧ ∃ v, r = .returned (.tuple #[v, .int .i64 1]) ∧ w'.ownsRow w.heap.size 29 3 v 0 [] := by
  have c1 : decide (e < 1) = true := by simp; omega
  go_enter Tryd.func29, Tryd.ntmps29
  go_wp2_with fail
  refine (check_good ha _ (hT.below (b_alloc (Below.refl w.heap.size w) _))).mono ?_
  rintro e w1 ⟨rfl, hb⟩
  have hA := ((Blk.new_at (w := w) (g := w.heap.size) (by simp) 29 #[.int .i64 y, .int .i64 m, .int .i64 d])).below hb; have kA := hA.cell; have lA := hA.lt; have fA := hA.froz
  have b1 := b_step (b_alloc (Below.refl w.heap.size w) _) hb; clear hb
  go_wp2
  go_ret2
  exact ⟨b1, _, rfl, World.ownsRow_nil _ _ _ _⟩
theorem dues_r2 {y m d : Int} (e c : Int) (ha : Hid (goodB y m d = true)) (h1 : 1 ≤ e) (h2 : 1200 < e) (w : World) (hT : TabOk w) :
    Calls Tryd.prog 29 #[.agg #[.int .i64 y, .int .i64 m, .int .i64 d], .int .i64 e, .int .i64 c] w fun r w' => Below w.heap.size w w' ∧ ∃ v, r = .returned (.tuple #[v, .int .i64 1]) ∧ w'.ownsRow w.heap.size 29 3 v 0 [] := by
  have c1 : decide (e < 1) = false := by simp; omega
  have c2 : decide (1200 < e) = true := by simp; omega
  go_enter Tryd.func29, Tryd.ntmps29
  go_wp2_with fail
  refine (check_good ha _ (hT.below (b_alloc (Below.refl w.heap.size w) _))).mono ?_
  rintro e w1 ⟨rfl, hb⟩
  have hA := ((Blk.new_at (w := w) (g := w.heap.size) (by simp) 29 #[.int .i64 y, .int .i64 m, .int .i64 d])).below hb; have kA := hA.cell; have lA := hA.lt; have fA := hA.froz
  have b1 := b_step (b_alloc (Below.refl w.heap.size w) _) hb; clear hb
  go_wp2
  go_ret2
  exact ⟨b1, _, rfl, World.ownsRow_nil _ _ _ _⟩
theorem dues_r3 {y m d : Int} (e c : Int) (ha : Hid (goodB y m d = true)) (h1 : 1 ≤ e) (h2 : e ≤ 1200) (h3 : c < 0) (w : World) (hT : TabOk w) :
    Calls Tryd.prog 29 #[.agg #[.int .i64 y, .int .i64 m, .int .i64 d], .int .i64 e, .int .i64 c] w fun r w' => Below w.heap.size w w' ∧ ∃ v, r = .returned (.tuple #[v, .int .i64 1]) ∧ w'.ownsRow w.heap.size 29 3 v 0 [] := by
  have c1 : decide (e < 1) = false := by simp; omega
  have c2 : decide (1200 < e) = false := by simp; omega
  have c3 : decide (c < 0) = true := by simp; omega
  go_enter Tryd.func29, Tryd.ntmps29
  go_wp2_with fail
  refine (check_good ha _ (hT.below (b_alloc (Below.refl w.heap.size w) _))).mono ?_
  rintro e w1 ⟨rfl, hb⟩
  have hA := ((Blk.new_at (w := w) (g := w.heap.size) (by simp) 29 #[.int .i64 y, .int .i64 m, .int .i64 d])).below hb; have kA := hA.cell; have lA := hA.lt; have fA := hA.froz
  have b1 := b_step (b_alloc (Below.refl w.heap.size w) _) hb; clear hb
  go_wp2
  go_ret2
  exact ⟨b1, _, rfl, World.ownsRow_nil _ _ _ _⟩
theorem dues_r4 {y m d : Int} (e c : Int) (ha : Hid (goodB y m d = true)) (h1 : 1 ≤ e) (h2 : e ≤ 1200) (h3 : 0 ≤ c) (h4 : 4096 < c) (w : World) (hT : TabOk w) :
    Calls Tryd.prog 29 #[.agg #[.int .i64 y, .int .i64 m, .int .i64 d], .int .i64 e, .int .i64 c] w fun r w' => Below w.heap.size w w' ∧ ∃ v, r = .returned (.tuple #[v, .int .i64 1]) ∧ w'.ownsRow w.heap.size 29 3 v 0 [] := by
  have c1 : decide (e < 1) = false := by simp; omega
  have c2 : decide (1200 < e) = false := by simp; omega
  have c3 : decide (c < 0) = false := by simp; omega
  have c4 : decide (4096 < c) = true := by simp; omega
  go_enter Tryd.func29, Tryd.ntmps29
  go_wp2_with fail
  refine (check_good ha _ (hT.below (b_alloc (Below.refl w.heap.size w) _))).mono ?_
  rintro e w1 ⟨rfl, hb⟩
  have hA := ((Blk.new_at (w := w) (g := w.heap.size) (by simp) 29 #[.int .i64 y, .int .i64 m, .int .i64 d])).below hb; have kA := hA.cell; have lA := hA.lt; have fA := hA.froz
  have b1 := b_step (b_alloc (Below.refl w.heap.size w) _) hb; clear hb
  go_wp2
  go_ret2
  exact ⟨b1, _, rfl, World.ownsRow_nil _ _ _ _⟩
theorem duesr_bad {y m d : Int} (e c : Int) (ha : Hid (goodB y m d = false)) (w : World) (hT : TabOk w) :
    Calls Tryd.prog 30 #[.agg #[.int .i64 y, .int .i64 m, .int .i64 d], .int .i64 e, .int .i64 c] w fun r w' => Below w.heap.size w w' ∧ ∃ v, r = .returned (.tuple #[v, .int .i64 70]) ∧ w'.ownsRow w.heap.size 29 3 v 0 [] := by
  go_enter Tryd.func30, Tryd.ntmps30
  go_wp2_with fail
  refine (goodr_is ha _).mono ?_
  rintro e w1 ⟨rfl, hb⟩
  have hA := ((Blk.new_at (w := w) (g := w.heap.size) (by simp) 29 #[.int .i64 y, .int .i64 m, .int .i64 d])).below hb; have kA := hA.cell; have lA := hA.lt; have fA := hA.froz
  have b1 := b_step (b_alloc (Below.refl w.heap.size w) _) hb; clear hb
  go_wp2
  go_ret2
  exact ⟨b1, _, rfl, World.ownsRow_nil _ _ _ _⟩
theorem duesr_r1 {y m d : Int} (e c : Int) (ha : Hid (goodB y m d = true)) (h1 : e < 1) (w : World) (hT : TabOk w) :
    Calls Tryd.prog 30 #[.agg #[.int .i64 y, .int .i64 m, .int .i64 d], .int .i64 e, .int .i64 c] w fun r w' => Below w.heap.size w w' ∧ ∃ v, r = .returned (.tuple #[v, .int .i64 1]) ∧ w'.ownsRow w.heap.size 29 3 v 0 [] := by
  have c1 : decide (e < 1) = true := by simp; omega
  go_enter Tryd.func30, Tryd.ntmps30
  go_wp2_with fail
  refine (goodr_is ha _).mono ?_
  rintro e w1 ⟨rfl, hb⟩
  have hA := ((Blk.new_at (w := w) (g := w.heap.size) (by simp) 29 #[.int .i64 y, .int .i64 m, .int .i64 d])).below hb; have kA := hA.cell; have lA := hA.lt; have fA := hA.froz
  have b1 := b_step (b_alloc (Below.refl w.heap.size w) _) hb; clear hb
  go_wp2
  go_ret2
  exact ⟨b1, _, rfl, World.ownsRow_nil _ _ _ _⟩
theorem duesr_r2 {y m d : Int} (e c : Int) (ha : Hid (goodB y m d = true)) (h1 : 1 ≤ e) (h2 : 1200 < e) (w : World) (hT : TabOk w) :
    Calls Tryd.prog 30 #[.agg #[.int .i64 y, .int .i64 m, .int .i64 d], .int .i64 e, .int .i64 c] w fun r w' => Below w.heap.size w w' ∧ ∃ v, r = .returned (.tuple #[v, .int .i64 1]) ∧ w'.ownsRow w.heap.size 29 3 v 0 [] := by
  have c1 : decide (e < 1) = false := by simp; omega
  have c2 : decide (1200 < e) = true := by simp; omega
  go_enter Tryd.func30, Tryd.ntmps30
  go_wp2_with fail
  refine (goodr_is ha _).mono ?_
  rintro e w1 ⟨rfl, hb⟩
  have hA := ((Blk.new_at (w := w) (g := w.heap.size) (by simp) 29 #[.int .i64 y, .int .i64 m, .int .i64 d])).below hb; have kA := hA.cell; have lA := hA.lt; have fA := hA.froz
  have b1 := b_step (b_alloc (Below.refl w.heap.size w) _) hb; clear hb
  go_wp2
  go_ret2
  exact ⟨b1, _, rfl, World.ownsRow_nil _ _ _ _⟩
theorem duesr_r3 {y m d : Int} (e c : Int) (ha : Hid (goodB y m d = true)) (h1 : 1 ≤ e) (h2 : e ≤ 1200) (h3 : c < 0) (w : World) (hT : TabOk w) :
    Calls Tryd.prog 30 #[.agg #[.int .i64 y, .int .i64 m, .int .i64 d], .int .i64 e, .int .i64 c] w fun r w' => Below w.heap.size w w' ∧ ∃ v, r = .returned (.tuple #[v, .int .i64 1]) ∧ w'.ownsRow w.heap.size 29 3 v 0 [] := by
  have c1 : decide (e < 1) = false := by simp; omega
  have c2 : decide (1200 < e) = false := by simp; omega
  have c3 : decide (c < 0) = true := by simp; omega
  go_enter Tryd.func30, Tryd.ntmps30
  go_wp2_with fail
  refine (goodr_is ha _).mono ?_
  rintro e w1 ⟨rfl, hb⟩
  have hA := ((Blk.new_at (w := w) (g := w.heap.size) (by simp) 29 #[.int .i64 y, .int .i64 m, .int .i64 d])).below hb; have kA := hA.cell; have lA := hA.lt; have fA := hA.froz
  have b1 := b_step (b_alloc (Below.refl w.heap.size w) _) hb; clear hb
  go_wp2
  go_ret2
  exact ⟨b1, _, rfl, World.ownsRow_nil _ _ _ _⟩
theorem duesr_r4 {y m d : Int} (e c : Int) (ha : Hid (goodB y m d = true)) (h1 : 1 ≤ e) (h2 : e ≤ 1200) (h3 : 0 ≤ c) (h4 : 4096 < c) (w : World) (hT : TabOk w) :
    Calls Tryd.prog 30 #[.agg #[.int .i64 y, .int .i64 m, .int .i64 d], .int .i64 e, .int .i64 c] w fun r w' => Below w.heap.size w w' ∧ ∃ v, r = .returned (.tuple #[v, .int .i64 1]) ∧ w'.ownsRow w.heap.size 29 3 v 0 [] := by
  have c1 : decide (e < 1) = false := by simp; omega
  have c2 : decide (1200 < e) = false := by simp; omega
  have c3 : decide (c < 0) = false := by simp; omega
  have c4 : decide (4096 < c) = true := by simp; omega
  go_enter Tryd.func30, Tryd.ntmps30
  go_wp2_with fail
  refine (goodr_is ha _).mono ?_
  rintro e w1 ⟨rfl, hb⟩
  have hA := ((Blk.new_at (w := w) (g := w.heap.size) (by simp) 29 #[.int .i64 y, .int .i64 m, .int .i64 d])).below hb; have kA := hA.cell; have lA := hA.lt; have fA := hA.froz
  have b1 := b_step (b_alloc (Below.refl w.heap.size w) _) hb; clear hb
  go_wp2
  go_ret2
  exact ⟨b1, _, rfl, World.ownsRow_nil _ _ _ _⟩
theorem dayDues_law (y m d e c : Int) (w : World) (hT : TabOk w) (_ : (Lit.int .i64 y).wf = true ∧ (Lit.int .i64 m).wf = true ∧ (Lit.int .i64 d).wf = true) (_ : (Lit.int .i64 e).wf = true) (_ : (Lit.int .i64 c).wf = true) :
    Calls Tryd.prog 5 #[.agg #[.int .i64 y, .int .i64 m, .int .i64 d], .int .i64 e, .int .i64 c] w fun r w' => r = .returned (.bool true) ∧ Below w.heap.size w w' := by
  cases h : goodB y m d with
  | false =>
    exact dues_of e c 70 0 (by omega) (fun _ => (0, 0, 0)) w hT (Lib.hid fun W t => dues_bad e c (Lib.hid h) W t) (Lib.hid fun W t => duesr_bad e c (Lib.hid h) W t)
  | true =>
    have ha := Lib.hid h
    by_cases h1 : e < 1
    · exact dues_of e c 1 0 (by omega) (fun _ => (0, 0, 0)) w hT (Lib.hid fun W t => dues_r1 e c ha h1 W t) (Lib.hid fun W t => duesr_r1 e c ha h1 W t)
    · by_cases h2 : 1200 < e
      · exact dues_of e c 1 0 (by omega) (fun _ => (0, 0, 0)) w hT (Lib.hid fun W t => dues_r2 e c ha (by omega) h2 W t) (Lib.hid fun W t => duesr_r2 e c ha (by omega) h2 W t)
      · by_cases h3 : c < 0
        · exact dues_of e c 1 0 (by omega) (fun _ => (0, 0, 0)) w hT (Lib.hid fun W t => dues_r3 e c ha (by omega) (by omega) h3 W t) (Lib.hid fun W t => duesr_r3 e c ha (by omega) (by omega) h3 W t)
        · by_cases h4 : 4096 < c
          · exact dues_of e c 1 0 (by omega) (fun _ => (0, 0, 0)) w hT (Lib.hid fun W t => dues_r4 e c ha (by omega) (by omega) (by omega) h4 W t) (Lib.hid fun W t => duesr_r4 e c ha (by omega) (by omega) (by omega) h4 W t)
          · by_cases hk : duOk y m d e c
            · refine dues_of e c 0 c.toNat (by omega) (fun k => moD y m d ((k : Int) * e)) w hT (Lib.hid fun W t => (dues_any e c ha (by omega) (by omega) W t).mono ?_) (Lib.hid fun W t => (duesr_any e c ha (by omega) (by omega) W).mono ?_)
              · rintro r w' ⟨b, ⟨_, v, e1, e2⟩ | ⟨n, _⟩⟩
                · exact ⟨b, v, e1, by rw [← duL_eq]; exact e2⟩
                · exact absurd hk n
              · rintro r w' ⟨b, ⟨_, v, e1, e2⟩ | ⟨n, _⟩⟩
                · exact ⟨b, v, e1, by rw [← duL_eq]; exact e2⟩
                · exact absurd hk n
            · refine dues_of e c 1 0 (by omega) (fun _ => (0, 0, 0)) w hT (Lib.hid fun W t => (dues_any e c ha (by omega) (by omega) W t).mono ?_) (Lib.hid fun W t => (duesr_any e c ha (by omega) (by omega) W).mono ?_)
              · rintro r w' ⟨b, ⟨k, _⟩ | ⟨_, e1⟩⟩
                · exact absurd k hk
                · exact ⟨b, _, e1, World.ownsRow_nil _ _ _ _⟩
              · rintro r w' ⟨b, ⟨k, _⟩ | ⟨_, e1⟩⟩
                · exact absurd k hk
                · exact ⟨b, _, e1, World.ownsRow_nil _ _ _ _⟩
end Go.Proofs.YtolgljionpalkaaDoor
