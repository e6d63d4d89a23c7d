/- Parse of any text; what it says. -/
import Derived.Test.YtolgljionpalkaaDoorDayX
set_option linter.unusedSimpArgs false
set_option linter.unusedVariables false
namespace Go.Proofs.YtolgljionpalkaaDoor
open Go.RowKit Go.BigFrame
theorem parse_long (s : ByteArray) (hs : 65536 < s.size) (hm : s.size ≤ 140737488351232) (w : World) :
    Calls Tryd.prog 32 #[.string s] w fun e w' => Below w.heap.size w w' ∧ e = .returned (.tuple #[.agg #[.int .i64 0, .int .i64 0, .int .i64 0], .int .i64 3]) := by
  have c1 : decide (65536 < (s.size : Int)) = true := by simp; omega
  go_enter Tryd.func32, Tryd.ntmps32
  go_wp2
  refine bodyPost_ret (v := .tuple #[.agg #[.int .i64 0, .int .i64 0, .int .i64 0], .int .i64 3]) (by simp [results, Tryd.results32, go_sem]) rfl ⟨?_, rfl⟩
  repeat (first | exact Below.refl _ _ | refine b_alloc ?_ _ | refine b_set ?_ (by first | (simp; done) | (simp; omega)))
theorem parse_short (s : ByteArray) (hs : s.size ≤ 65536) (hm : s.size ≠ 10) (w : World) :
    Calls Tryd.prog 32 #[.string s] w fun e w' => Below w.heap.size w w' ∧ e = .returned (.tuple #[.agg #[.int .i64 0, .int .i64 0, .int .i64 0], .int .i64 2]) := by
  have c1 : decide (65536 < (s.size : Int)) = false := by simp; omega
  have c2 : ((s.size : Int) == 10) = false := by simp; omega
  go_enter Tryd.func32, Tryd.ntmps32
  go_wp2
  refine bodyPost_ret (v := .tuple #[.agg #[.int .i64 0, .int .i64 0, .int .i64 0], .int .i64 2]) (by simp [results, Tryd.results32, go_sem]) rfl ⟨?_, rfl⟩
  repeat (first | exact Below.refl _ _ | refine b_alloc ?_ _ | refine b_set ?_ (by first | (simp; done) | (simp; omega)))
theorem ten (s : ByteArray) (h : s.size = 10) : ∃ c0 c1 c2 c3 c4 c5 c6 c7 c8 c9 : UInt8, s = ⟨#[c0, c1, c2, c3, c4, c5, c6, c7, c8, c9]⟩ := by
  obtain ⟨⟨l⟩⟩ := s
  have h' : l.length = 10 := h
  match l, h' with
  | [c0, c1, c2, c3, c4, c5, c6, c7, c8, c9], _ => exact ⟨c0, c1, c2, c3, c4, c5, c6, c7, c8, c9, rfl⟩
theorem txt_fm {y m d : Int} (h : goodB y m d = true) : fm (bt y 1000) (bt y 100) (bt y 10) (bt y 1) 45 (bt m 10) (bt m 1) 45 (bt d 10) (bt d 1) ∧ nOf (bt y 1000) (bt y 100) (bt y 10) (bt y 1) 45 (bt m 10) (bt m 1) 45 (bt d 10) (bt d 1) = y * 10000 + m * 100 + d := by
  obtain ⟨a1, a2, a3, a4, a5, a6⟩ := (goodB_iff _ _ _).1 h
  have l31 := (lenF_bd y m).2
  unfold fm nOf
  simp only [bt_int]
  unfold dI
  have e45 : ((45 : UInt8).toNat : Int) = 45 := rfl
  rw [e45]
  refine ⟨⟨?_, ?_, ?_, ?_, ?_, ?_, ?_, ?_, ?_, ?_⟩, ?_⟩ <;> omega
theorem fm_txt (c0 c1 c2 c3 c4 c5 c6 c7 c8 c9 : UInt8) (h : fm c0 c1 c2 c3 c4 c5 c6 c7 c8 c9) : (⟨#[c0, c1, c2, c3, c4, c5, c6, c7, c8, c9]⟩ : ByteArray) = txt (nOf c0 c1 c2 c3 c4 c5 c6 c7 c8 c9 / 10000) (nOf c0 c1 c2 c3 c4 c5 c6 c7 c8 c9 / 100 % 100) (nOf c0 c1 c2 c3 c4 c5 c6 c7 c8 c9 % 100) := by
  unfold fm at h
  have key : ∀ (q : UInt8) (n u : Int), (q.toNat : Int) = 48 + n / u % 10 → q = bt n u := by
    intro q n u hq
    have hb := bt_int n u
    unfold dI at hb
    apply UInt8.toNat_inj.1
    omega
  have e4 : c4 = 45 := by apply UInt8.toNat_inj.1; show c4.toNat = 45; omega
  have e7 : c7 = 45 := by apply UInt8.toNat_inj.1; show c7.toNat = 45; omega
  unfold txt bL
  rw [← key c0 _ 1000 (by unfold nOf; omega), ← key c1 _ 100 (by unfold nOf; omega), ← key c2 (nOf c0 c1 c2 c3 c4 c5 c6 c7 c8 c9 / 10000) 10 (by unfold nOf; omega), ← key c3 (nOf c0 c1 c2 c3 c4 c5 c6 c7 c8 c9 / 10000) 1 (by unfold nOf; omega), ← key c5 (nOf c0 c1 c2 c3 c4 c5 c6 c7 c8 c9 / 100 % 100) 10 (by unfold nOf; omega), ← key c6 (nOf c0 c1 c2 c3 c4 c5 c6 c7 c8 c9 / 100 % 100) 1 (by unfold nOf; omega), ← key c8 (nOf c0 c1 c2 c3 c4 c5 c6 c7 c8 c9 % 100) 10 (by unfold nOf; omega), ← key c9 (nOf c0 c1 c2 c3 c4 c5 c6 c7 c8 c9 % 100) 1 (by unfold nOf; omega), e4, e7]
theorem parse_is {y m d : Int} (h : Hid (goodB y m d = true)) (w : World) (hT : TabOk w) :
    Calls Tryd.prog 32 #[.string (txt y m d)] w fun e w' => e = .returned (.tuple #[.agg #[.int .i64 y, .int .i64 m, .int .i64 d], .int .i64 0]) ∧ Below w.heap.size w w' := by
  have F := txt_fm h.out
  obtain ⟨a1, a2, a3, a4, a5, a6⟩ := (goodB_iff _ _ _).1 h.out
  have l31 := (lenF_bd y m).2
  refine (parse_ten _ _ _ _ _ _ _ _ _ _ w hT).mono ?_
  rintro e w' ⟨b, ⟨f, n, hn, g⟩ | ⟨nf, _⟩⟩
  · rw [F.2] at hn
    have e1 : n / 10000 = y := by omega
    have e2 : n / 100 % 100 = m := by omega
    have e3 : n % 100 = d := by omega
    rw [e1, e2, e3] at g
    rcases g with ⟨_, g⟩ | ⟨g, _⟩
    · exact ⟨g, b⟩
    · rw [h.out] at g; cases g
  · exact absurd F.1 nf
theorem parse_any (s : ByteArray) (hm : s.size ≤ 140737488351232) (w : World) (hT : TabOk w) :
    Calls Tryd.prog 32 #[.string s] w fun e w' => Below w.heap.size w w' ∧ ((∃ y m d, goodB y m d = true ∧ s = txt y m d ∧ e = .returned (.tuple #[.agg #[.int .i64 y, .int .i64 m, .int .i64 d], .int .i64 0])) ∨ (∃ c, c ≠ 0 ∧ e = .returned (.tuple #[.agg #[.int .i64 0, .int .i64 0, .int .i64 0], .int .i64 c]))) := by
  by_cases h1 : 65536 < s.size
  · exact (parse_long s h1 hm w).mono fun e w' ⟨b, h⟩ => ⟨b, .inr ⟨3, by decide, h⟩⟩
  · by_cases h2 : s.size = 10
    · obtain ⟨c0, c1, c2, c3, c4, c5, c6, c7, c8, c9, rfl⟩ := ten s h2
      refine (parse_ten c0 c1 c2 c3 c4 c5 c6 c7 c8 c9 w hT).mono ?_
      rintro e w' ⟨b, ⟨f, n, rfl, ⟨g, h⟩ | ⟨g, h⟩⟩ | ⟨nf, h⟩⟩
      · exact ⟨b, .inl ⟨_, _, _, g, fm_txt c0 c1 c2 c3 c4 c5 c6 c7 c8 c9 f, h⟩⟩
      · exact ⟨b, .inr ⟨70, by decide, h⟩⟩
      · exact ⟨b, .inr ⟨2, by decide, h⟩⟩
    · exact (parse_short s (by omega) h2 w).mono fun e w' ⟨b, h⟩ => ⟨b, .inr ⟨2, by decide, h⟩⟩
end Go.Proofs.YtolgljionpalkaaDoor
