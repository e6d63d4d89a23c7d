/- The law DayTexts. -/
import Derived.Test.YtolgljionpalkaaDoorDayTA
import Derived.Test.YtolgljionpalkaaDoorDayTB
set_option linter.unusedSimpArgs false
set_option linter.unusedVariables false
namespace Go.Proofs.YtolgljionpalkaaDoor
open Go.RowKit Go.BigFrame
theorem dig4 {n : Int} (h0 : 0 ≤ n) (h : n ≤ 9999) (w : World) : Calls Tryd.prog 54 #[.int .i64 n, .int .i64 4] w fun e w' => e = .returned (.string ⟨#[bt n 1000, bt n 100, bt n 10, bt n 1]⟩) ∧ Below w.heap.size w w' := by
  obtain ⟨m, rfl⟩ : ∃ m : Nat, n = m := ⟨n.toNat, by omega⟩
  have := digits_any m 4 (by decide) (by omega) (by decide) w
  rw [lastD4] at this
  exact this
theorem dig2 {n : Int} (h0 : 0 ≤ n) (h : n ≤ 99) (w : World) : Calls Tryd.prog 54 #[.int .i64 n, .int .i64 2] w fun e w' => e = .returned (.string ⟨#[bt n 10, bt n 1]⟩) ∧ Below w.heap.size w w' := by
  obtain ⟨m, rfl⟩ : ∃ m : Nat, n = m := ⟨n.toNat, by omega⟩
  have := digits_any m 2 (by decide) (by omega) (by decide) w
  rw [lastD2] at this
  exact this
theorem app (x y : List UInt8) : (ByteArray.mk x.toArray ++ ByteArray.mk y.toArray) = ByteArray.mk (x ++ y).toArray := ByteArray.mk_append_mk x y
set_option maxHeartbeats 4000000 in
theorem textr_of {y m d : Int} (S1 S2 S3 T : ByteArray) (z1 : S1.size = 4) (z2 : S2.size = 2) (z3 : S3.size = 2) (hS : Hid ((((S1 ++ ⟨#[45]⟩) ++ S2) ++ ⟨#[45]⟩) ++ S3 = T))
    (D1 : ∀ w, Calls Tryd.prog 54 #[.int .i64 y, .int .i64 4] w fun e w' => e = .returned (.string S1) ∧ Below w.heap.size w w')
    (D2 : ∀ w, Calls Tryd.prog 54 #[.int .i64 m, .int .i64 2] w fun e w' => e = .returned (.string S2) ∧ Below w.heap.size w w')
    (D3 : ∀ w, Calls Tryd.prog 54 #[.int .i64 d, .int .i64 2] w fun e w' => e = .returned (.string S3) ∧ Below w.heap.size w w') (w : World) :
    Calls Tryd.prog 34 #[.agg #[.int .i64 y, .int .i64 m, .int .i64 d]] w fun e w' => e = .returned (.string T) ∧ Below w.heap.size w w' := by
  have C1 := Lib.hid D1; have C2 := Lib.hid D2; have C3 := Lib.hid D3
  clear D1 D2 D3
  go_enter Tryd.func34, Tryd.ntmps34
  go_wp2_with fail
  have hA := (Blk.new_at (w := w) (g := w.heap.size) (by simp) 29 #[.int .i64 y, .int .i64 m, .int .i64 d])
  have qA := hA.lcell
  clear hA
  refine wp_later 13 (by kernel_rfl) (by kernel_rfl) ?_
  simp only [List.take_succ_cons, List.take_zero, List.drop_succ_cons, List.drop_zero, List.take_nil, List.drop_nil]
  iterate 4 (go_big_quiet_step (first | (go_at_call 54; exact later_call (C1.out _))))
  iterate 5 (go_big_quiet_step (first | (go_at_call 54; exact later_call (C2.out _))))
  repeat (go_big_quiet_step (first | (go_at_call 54; exact later_call (C3.out _))))
  refine wpQuiet_nil ?_
  rintro ⟨w4, hb⟩
  change wpList _ _ _ _ _ w4
  clear qA
  go_wp2
  go_ret
  exact ⟨by rw [← hS.out]; rfl, b_step (b_alloc (Below.refl _ _) _) hb⟩
theorem textr_good {y m d : Int} (ha : Hid (goodB y m d = true)) (w : World) :
    Calls Tryd.prog 34 #[.agg #[.int .i64 y, .int .i64 m, .int .i64 d]] w fun e w' => e = .returned (.string (txt y m d)) ∧ Below w.heap.size w w' := by
  obtain ⟨a1, a2, a3, a4, a5, a6⟩ := (goodB_iff _ _ _).1 ha.out
  have l31 := (lenF_bd y m).2
  refine textr_of ⟨#[bt y 1000, bt y 100, bt y 10, bt y 1]⟩ ⟨#[bt m 10, bt m 1]⟩ ⟨#[bt d 10, bt d 1]⟩ _ rfl rfl rfl (Lib.hid ?_) (dig4 (by omega) (by omega)) (dig2 (by omega) (by omega)) (dig2 (by omega) (by omega)) w
  have := app [bt y 1000, bt y 100, bt y 10, bt y 1] [45]
  have e1 := app ([bt y 1000, bt y 100, bt y 10, bt y 1] ++ [45]) [bt m 10, bt m 1]
  have e2 := app (([bt y 1000, bt y 100, bt y 10, bt y 1] ++ [45]) ++ [bt m 10, bt m 1]) [45]
  have e3 := app ((([bt y 1000, bt y 100, bt y 10, bt y 1] ++ [45]) ++ [bt m 10, bt m 1]) ++ [45]) [bt d 10, bt d 1]
  rw [this, e1, e2, e3]; rfl
/-- both readers say the same of any text -/
theorem parse_both (s : ByteArray) (hm : s.size ≤ 140737488351232) : ∃ p q r c : Int, (∀ w, TabOk w → Calls Tryd.prog 32 #[.string s] w fun e w' => e = .returned (.tuple #[.agg #[.int .i64 p, .int .i64 q, .int .i64 r], .int .i64 c]) ∧ Below w.heap.size w w') ∧
    (∀ w, Calls Tryd.prog 33 #[.string s] w fun e w' => e = .returned (.tuple #[.agg #[.int .i64 p, .int .i64 q, .int .i64 r], .int .i64 c]) ∧ Below w.heap.size w w') := by
  by_cases h1 : 65536 < s.size
  · exact ⟨0, 0, 0, 3, fun w _ => (parse_long s h1 hm w).mono fun e w' h => ⟨h.2, h.1⟩, fun w => (parser_long s h1 hm w).mono fun e w' h => ⟨h.2, h.1⟩⟩
  · by_cases h2 : s.size = 10
    · obtain ⟨c0, c1, c2, c3, c4, c5, c6, c7, c8, c9, rfl⟩ := ten s h2
      by_cases hf : fm c0 c1 c2 c3 c4 c5 c6 c7 c8 c9
      · cases hg : goodB (nOf c0 c1 c2 c3 c4 c5 c6 c7 c8 c9 / 10000) (nOf c0 c1 c2 c3 c4 c5 c6 c7 c8 c9 / 100 % 100) (nOf c0 c1 c2 c3 c4 c5 c6 c7 c8 c9 % 100) with
        | true =>
          refine ⟨nOf c0 c1 c2 c3 c4 c5 c6 c7 c8 c9 / 10000, nOf c0 c1 c2 c3 c4 c5 c6 c7 c8 c9 / 100 % 100, nOf c0 c1 c2 c3 c4 c5 c6 c7 c8 c9 % 100, 0, fun w hT => (parse_ten c0 c1 c2 c3 c4 c5 c6 c7 c8 c9 w hT).mono fun e w' h => ?_, fun w => (parser_ten c0 c1 c2 c3 c4 c5 c6 c7 c8 c9 w).mono fun e w' h => ?_⟩
          · rcases h with ⟨b, ⟨_, n, rfl, ⟨_, h⟩ | ⟨g, _⟩⟩ | ⟨nf, _⟩⟩
            · exact ⟨h, b⟩
            · rw [hg] at g; cases g
            · exact absurd hf nf
          · rcases h with ⟨b, ⟨_, n, rfl, ⟨_, h⟩ | ⟨g, _⟩⟩ | ⟨nf, _⟩⟩
            · exact ⟨h, b⟩
            · rw [hg] at g; cases g
            · exact absurd hf nf
        | false =>
          refine ⟨0, 0, 0, 70, fun w hT => (parse_ten c0 c1 c2 c3 c4 c5 c6 c7 c8 c9 w hT).mono fun e w' h => ?_, fun w => (parser_ten c0 c1 c2 c3 c4 c5 c6 c7 c8 c9 w).mono fun e w' h => ?_⟩
          · rcases h with ⟨b, ⟨_, n, rfl, ⟨g, _⟩ | ⟨_, h⟩⟩ | ⟨nf, _⟩⟩
            · rw [hg] at g; cases g
            · exact ⟨h, b⟩
            · exact absurd hf nf
          · rcases h with ⟨b, ⟨_, n, rfl, ⟨g, _⟩ | ⟨_, h⟩⟩ | ⟨nf, _⟩⟩
            · rw [hg] at g; cases g
            · exact ⟨h, b⟩
            · exact absurd hf nf
      · refine ⟨0, 0, 0, 2, fun w hT => (parse_ten c0 c1 c2 c3 c4 c5 c6 c7 c8 c9 w hT).mono fun e w' h => ?_, fun w => (parser_ten c0 c1 c2 c3 c4 c5 c6 c7 c8 c9 w).mono fun e w' h => ?_⟩
        · rcases h with ⟨b, ⟨f, _⟩ | ⟨_, h⟩⟩
          · exact absurd f hf
          · exact ⟨h, b⟩
        · rcases h with ⟨b, ⟨f, _⟩ | ⟨_, h⟩⟩
          · exact absurd f hf
          · exact ⟨h, b⟩
    · exact ⟨0, 0, 0, 2, fun w _ => (parse_short s (by omega) h2 w).mono fun e w' h => ⟨h.2, h.1⟩, fun w => (parser_short s (by omega) h2 w).mono fun e w' h => ⟨h.2, h.1⟩⟩
set_option maxHeartbeats 8000000 in
set_option maxRecDepth 20000 in
theorem texts_false {y m d : Int} (ha : Hid (goodB y m d = false)) (s : ByteArray) (hs : s.size ≤ 140737488351232) (w : World) (hT : TabOk w) :
    Calls Tryd.prog 6 #[.agg #[.int .i64 y, .int .i64 m, .int .i64 d], .string s] w fun e w' => e = .returned (.bool true) ∧ Below w.heap.size w w' := by
  have eqd := eq_date
  have neqd := neq_date
  obtain ⟨p, q, r, c, P1, P2⟩ := parse_both s hs
  replace P1 := Lib.hid P1; replace P2 := Lib.hid P2
  go_enter Tryd.func6, Tryd.ntmps6
  go_wp2_with fail
  refine (text_bad ha _ (hT.below (b_alloc (Below.refl w.heap.size w) _))).mono ?_
  rintro e w1 ⟨rfl, hb⟩
  have hA := ((Blk.new_at (w := w) (g := w.heap.size) (by simp) 29 #[.int .i64 y, .int .i64 m, .int .i64 d])).below hb; have kA := hA.cell; have lA := hA.lt; have fA := hA.froz
  have b1 := b_step (b_alloc (Below.refl w.heap.size w) _) hb; clear hb
  go_wp2_with fail
  refine (P1.out _ (hT.below (b1))).mono ?_
  rintro e w2 ⟨rfl, hb⟩
  have hA := (hA).below hb; clear kA lA fA; have kA := hA.cell; have lA := hA.lt; have fA := hA.froz
  have b2 := b_step (b1) hb; clear hb
  go_wp2_with fail
  refine (P2.out _).mono ?_
  rintro e w3 ⟨rfl, hb⟩
  have hA := ((hA).alloc _).below hb; clear kA lA fA; have kA := hA.cell; have lA := hA.lt; have fA := hA.froz
  have hX := ((Blk.new_at (w := w2) (g := w2.heap.size) (by simp) 29 #[.int .i64 p, .int .i64 q, .int .i64 r])).below hb; have kX := hX.cell; have lX := hX.lt; have fX := hX.froz
  have b3 := b_step (b_alloc (b2) _) hb; clear hb
  go_wp2_with fail
  refine (goodr_is ha _).mono ?_
  rintro e w4 ⟨rfl, hb⟩
  have hA := ((hA).alloc _).below hb; clear kA lA fA; have kA := hA.cell; have lA := hA.lt; have fA := hA.froz
  have hX := ((hX).alloc _).below hb; clear kX lX fX; have kX := hX.cell; have lX := hX.lt; have fX := hX.froz
  have hY := ((Blk.new_at (w := w3) (g := w3.heap.size) (by simp) 29 #[.int .i64 p, .int .i64 q, .int .i64 r])).below hb; have kY := hY.cell; have lY := hY.lt; have fY := hY.froz
  have b4 := b_step (b_alloc (b3) _) hb; clear hb
  go_wp2
  go_ret
  exact ⟨rfl, b4⟩
set_option maxHeartbeats 8000000 in
set_option maxRecDepth 20000 in
theorem texts_true {y m d : Int} (ha : Hid (goodB y m d = true)) (s : ByteArray) (hs : s.size ≤ 140737488351232) (w : World) (hT : TabOk w) :
    Calls Tryd.prog 6 #[.agg #[.int .i64 y, .int .i64 m, .int .i64 d], .string s] w fun e w' => e = .returned (.bool true) ∧ Below w.heap.size w w' := by
  have eqd := eq_date
  have neqd := neq_date
  obtain ⟨p, q, r, c, P1, P2⟩ := parse_both s hs
  replace P1 := Lib.hid P1; replace P2 := Lib.hid P2
  go_enter Tryd.func6, Tryd.ntmps6
  go_wp2_with fail
  refine (text_good ha _ (hT.below (b_alloc (Below.refl w.heap.size w) _))).mono ?_
  rintro e w1 ⟨rfl, hb⟩
  have hA := ((Blk.new_at (w := w) (g := w.heap.size) (by simp) 29 #[.int .i64 y, .int .i64 m, .int .i64 d])).below hb; have kA := hA.cell; have lA := hA.lt; have fA := hA.froz
  have b1 := b_step (b_alloc (Below.refl w.heap.size w) _) hb; clear hb
  go_wp2_with fail
  refine (P1.out _ (hT.below (b1))).mono ?_
  rintro e w2 ⟨rfl, hb⟩
  have hA := (hA).below hb; clear kA lA fA; have kA := hA.cell; have lA := hA.lt; have fA := hA.froz
  have b2 := b_step (b1) hb; clear hb
  go_wp2_with fail
  refine (P2.out _).mono ?_
  rintro e w3 ⟨rfl, hb⟩
  have hA := ((hA).alloc _).below hb; clear kA lA fA; have kA := hA.cell; have lA := hA.lt; have fA := hA.froz
  have hX := ((Blk.new_at (w := w2) (g := w2.heap.size) (by simp) 29 #[.int .i64 p, .int .i64 q, .int .i64 r])).below hb; have kX := hX.cell; have lX := hX.lt; have fX := hX.froz
  have b3 := b_step (b_alloc (b2) _) hb; clear hb
  go_wp2_with fail
  refine (goodr_is ha _).mono ?_
  rintro e w4 ⟨rfl, hb⟩
  have hA := ((hA).alloc _).below hb; clear kA lA fA; have kA := hA.cell; have lA := hA.lt; have fA := hA.froz
  have hX := ((hX).alloc _).below hb; clear kX lX fX; have kX := hX.cell; have lX := hX.lt; have fX := hX.froz
  have hY := ((Blk.new_at (w := w3) (g := w3.heap.size) (by simp) 29 #[.int .i64 p, .int .i64 q, .int .i64 r])).below hb; have kY := hY.cell; have lY := hY.lt; have fY := hY.froz
  have b4 := b_step (b_alloc (b3) _) hb; clear hb
  go_wp2_with fail
  refine (textr_good ha _).mono ?_
  rintro e w5 ⟨rfl, hb⟩
  have hA := (hA).below hb; clear kA lA fA; have kA := hA.cell; have lA := hA.lt; have fA := hA.froz
  have hX := (hX).below hb; clear kX lX fX; have kX := hX.cell; have lX := hX.lt; have fX := hX.froz
  have hY := (hY).below hb; clear kY lY fY; have kY := hY.cell; have lY := hY.lt; have fY := hY.froz
  have b5 := b_step (b4) hb; clear hb
  go_wp2
  go_ret
  exact ⟨rfl, b5⟩
theorem dayTexts_law (y m d : Int) (s : ByteArray) (w : World) (hT : TabOk w) (_ : (Lit.int .i64 y).wf = true ∧ (Lit.int .i64 m).wf = true ∧ (Lit.int .i64 d).wf = true) (hs : s.size ≤ 140737488351232) :
    Calls Tryd.prog 6 #[.agg #[.int .i64 y, .int .i64 m, .int .i64 d], .string s] w fun e w' => e = .returned (.bool true) ∧ Below w.heap.size w w' := by
  cases h : goodB y m d with
  | false => exact texts_false (Lib.hid h) s hs w hT
  | true => exact texts_true (Lib.hid h) s hs w hT
end Go.Proofs.YtolgljionpalkaaDoor
