/- Dues, the program's and the reference's. -/
import Derived.Test.YtolgljionpalkaaDoorDayQ
import Derived.Laws.OwnMore
import Derived.OwnWalk
set_option linter.unusedSimpArgs false
set_option linter.unusedVariables false
namespace Go.Proofs.YtolgljionpalkaaDoor
open Go.RowKit Go.BigFrame
def dateC (p : Int × Int × Int) : List Value := [.int .i64 p.1, .int .i64 p.2.1, .int .i64 p.2.2]
def duL (y m d e : Int) : Nat → List Value
  | 0 => []
  | k + 1 => duL y m d e k ++ dateC (moD y m d ((k : Int) * e))
theorem duL_len (y m d e : Int) : ∀ k, (duL y m d e k).length = k * 3
  | 0 => rfl
  | k + 1 => by simp [duL, dateC, duL_len y m d e k]; omega
def duOk (y m d e c : Int) : Prop := ∀ x : Int, 0 ≤ x → x < c → moG y m d (x * e)
theorem duOk_zero (y m d e : Int) : duOk y m d e 0 := fun x h1 h2 => by omega
theorem duOk_succ {y m d e j : Int} (h : duOk y m d e j) (hm : moG y m d (j * e)) : duOk y m d e (j + 1) := fun x h1 h2 => by
  by_cases c : x = j
  · rw [c]; exact hm
  · exact h x h1 (by omega)
theorem blk_grown {w w' : World} {row : Option Nat} {g : Nat} {cs : Array Value} (h : Blk w g cs) (hg : w.grownBy w' row) (hne : some g ≠ row) : Blk w' g cs := by
  have hl := h.lt
  obtain ⟨t, h⟩ := h; exact ⟨t, (hg.block g hl hne).trans h⟩
theorem owns_below {w w' : World} {base e size n : Nat} {v : Value} {xs : List Value} (h : w.ownsRow base e size v n xs) (hb : Below w.heap.size w w') : w'.ownsRow base e size v n xs :=
  h.kept (row := none) ⟨hb.os, hb.tape, hb.output, hb.size, fun i hi _ => hb.block i hi⟩ (by cases v.ownBlock <;> simp)
theorem owns_mono {w : World} {base base' e size n : Nat} {v : Value} {xs : List Value} (h : w.ownsRow base e size v n xs) (hb : base' ≤ base) : w.ownsRow base' e size v n xs :=
  ⟨h.1, h.2.imp id (fun ⟨g, cap, cur, a, b, c⟩ => ⟨g, cap, cur, a, Nat.le_trans hb b, c⟩)⟩
theorem infoDate : (Tryd.prog.info? 29).map (fun i => (i.zero, i.size, i.bytes)) = some (some (.agg #[.int .i64 0, .int .i64 0, .int .i64 0]), 3, 24) := by kernel_rfl
theorem onr_no {y m d n : Int} (h : Hid (goodB y m d = true)) (hn : ¬ moG y m d n) (w : World) :
    Calls Tryd.prog 38 #[.agg #[.int .i64 y, .int .i64 m, .int .i64 d], .int .i64 n] w fun e w' => e = .returned (.tuple #[.agg #[.int .i64 0, .int .i64 0, .int .i64 0], .int .i64 1]) ∧ Below w.heap.size w w' := by
  have := onr_any y m d n w
  rwa [(moP_far h hn).1, (moP_far h hn).2] at this
theorem onr_yes {y m d n : Int} (h : Hid (goodB y m d = true)) (hn : moG y m d n) (w : World) :
    Calls Tryd.prog 38 #[.agg #[.int .i64 y, .int .i64 m, .int .i64 d], .int .i64 n] w fun e w' => e = .returned (.tuple #[.agg #[.int .i64 (moD y m d n).1, .int .i64 (moD y m d n).2.1, .int .i64 (moD y m d n).2.2], .int .i64 0]) ∧ Below w.heap.size w w' := by
  have := onr_any y m d n w
  rwa [(moP_yes h hn).1, (moP_yes h hn).2] at this
set_option maxHeartbeats 4000000 in
theorem dues_any {y m d : Int} (e c : Int) (ha : Hid (goodB y m d = true)) (he : 1 ≤ e ∧ e ≤ 1200) (hc : 0 ≤ c ∧ c ≤ 4096) (w : World) (hT : TabOk w) :
    Calls Tryd.prog 29 #[.agg #[.int .i64 y, .int .i64 m, .int .i64 d], .int .i64 e, .int .i64 c] w fun r w' => Below w.heap.size w w' ∧
      ((duOk y m d e c ∧ ∃ v, r = .returned (.tuple #[v, .int .i64 0]) ∧ w'.ownsRow w.heap.size 29 3 v c.toNat (duL y m d e c.toNat)) ∨ (¬ duOk y m d e c ∧ r = .returned (.tuple #[.slice none 0 0, .int .i64 1]))) := by
  obtain ⟨i0, hi, hz0, hz1, hz2⟩ := info_parts infoDate
  have e1 : decide (e < 1) = false := by simp; omega
  have e2 : decide (1200 < e) = false := by simp; omega
  have e3 : decide (c < 0) = false := by simp; omega
  have e4 : decide (4096 < c) = false := by simp; omega
  go_enter Tryd.func29, Tryd.ntmps29
  go_wp2_with fail
  refine (check_good ha _ (hT.below (b_alloc (Below.refl w.heap.size w) _))).mono ?_
  rintro e w1 ⟨rfl, hb⟩
  have hA := ((Blk.new_at (w := w) (g := w.heap.size) (by simp) 29 #[.int .i64 y, .int .i64 m, .int .i64 d])).below hb; have kA := hA.cell; have lA := hA.lt; have fA := hA.froz
  have b1 := b_step (b_alloc (Below.refl w.heap.size w) _) hb; clear hb
  go_wp2
  go_loopg [9, 33] c.toNat (fun g v i wr => ∃ j : Int, i = .int .i64 j ∧ 0 ≤ j ∧ j ≤ c ∧ c.toNat - j.toNat ≤ g ∧ duOk y m d e j ∧ wr.ownsRow (w.heap.size + 1) 29 3 v j.toNat (duL y m d e j.toNat) ∧ Blk wr w.heap.size #[.int .i64 y, .int .i64 m, .int .i64 d] ∧ Below w.heap.size w wr)
  case atStart => exact ⟨0, rfl, by omega, by omega, by omega, duOk_zero y m d e, World.ownsRow_nil _ _ _ _, hA, b1⟩
  case round =>
    clear hA kA lA fA
    obtain ⟨j, rfl, hj0, hjc, hg, hok, hown, hA, br⟩ := hrel
    have kA := hA.cell; have lA := hA.lt; have fA := hA.froz
    by_cases hlt : j < c
    · have c1 : decide (j < c) = true := by simpa using hlt
      have m1 : j * e ≤ 4096 * 1200 := Int.mul_le_mul (by omega) (by omega) (by omega) (by omega)
      have m2 : 0 ≤ j * e := Int.mul_nonneg hj0 (by omega)
      have wr1 : wrap64 (j * e) = j * e := by unfold wrap64; omega
      have wr1c : wrap64 (e * j) = j * e := by rw [Int.mul_comm]; exact wr1
      have wr2 : wrap64 (j + 1) = j + 1 := by unfold wrap64; omega
      by_cases hm : moG y m d (j * e)
      · go_wp2_with fail
        refine (months_yes ha hm _ (hT.below (br))).mono ?_
        rintro e w21 ⟨rfl, hb⟩
        have ho2 := owns_below hown hb
        have hA := (hA).below hb; clear kA lA fA; have kA := hA.cell; have lA := hA.lt; have fA := hA.froz
        have b21 := b_step (br) hb; clear hb
        go_wp2_with (at_builtin; refine wpList_append_own _ rfl _ _ 44 rfl (w.heap.size + 1) 29 i0 (.agg #[.int .i64 0, .int .i64 0, .int .i64 0]) 3 24 Tryd.underlying44 hi hz0 hz1 hz2 rfl (by decide) _ _ _ rfl ((ho2.alloc _).alloc _) ⟨w21.heap.size + 1, 0, none⟩ 1 1 (dateC (moD y m d (j * e))) rfl rfl ?c1 ?c2 ?c3 ?c4 ?c5 ?_)
        case c1 =>
          intro k u hk
          match k, hk with
          | 0, hk => simp [dateC] at hk; subst hk; simp [Addr.add]
          | 1, hk => simp [dateC] at hk; subst hk; simp [Addr.add]
          | 2, hk => simp [dateC] at hk; subst hk; simp [Addr.add]
        case c2 => intro u hu; simp [dateC] at hu; rcases hu with rfl | rfl | rfl <;> rfl
        case c3 => unfold maxLen; omega
        case c4 => omega
        case c5 => have := b21.size; simp; omega
        intro v' w22 hown' hgrow _
        have hne : ∀ k, Value.ownBlock _ = some k → w.heap.size + 1 ≤ k := fun k hk => (ho2.lt k hk).1
        have hA2 := blk_grown ((hA.alloc _).alloc _) hgrow (fun h => absurd (hne _ h.symm) (by omega))
        have b22 := (b_alloc (b_alloc b21 _) _).grown hgrow (by have := b21.size; simp; omega) (fun k hk => by have := hne k hk; omega)
        clear hA kA lA fA ho2 hown hgrow hne br b21
        go_wp2
        go_roundg (gk - 1)
        case measure => omega
        case rel => exact ⟨j + 1, rfl, by omega, by omega, by omega, duOk_succ hok hm, by rw [show (j + 1).toNat = j.toNat + 1 by omega]; show World.ownsRow _ _ _ _ _ _ (duL y m d e j.toNat ++ dateC (moD y m d ((j.toNat : Int) * e))); rw [Int.toNat_of_nonneg hj0]; exact hown', hA2, b22⟩
      · go_wp2_with fail
        refine (months_no ha hm _ (hT.below (br))).mono ?_
        rintro e w21 ⟨rfl, hb⟩
        have hA := (hA).below hb; clear kA lA fA; have kA := hA.cell; have lA := hA.lt; have fA := hA.froz
        have b21 := b_step (br) hb; clear hb
        go_wp2
        go_ret2
        exact ⟨b_alloc b21 _, .inr ⟨fun h => hm (h j hj0 hlt), rfl⟩⟩
    · obtain rfl : j = c := by omega
      go_wp2
      go_ret2
      exact ⟨br, _, rfl, owns_mono hown (by omega)⟩
set_option maxHeartbeats 4000000 in
theorem duesr_any {y m d : Int} (e c : Int) (ha : Hid (goodB y m d = true)) (he : 1 ≤ e ∧ e ≤ 1200) (hc : 0 ≤ c ∧ c ≤ 4096) (w : World) :
    Calls Tryd.prog 30 #[.agg #[.int .i64 y, .int .i64 m, .int .i64 d], .int .i64 e, .int .i64 c] w fun r w' => Below w.heap.size w w' ∧
      ((duOk y m d e c ∧ ∃ v, r = .returned (.tuple #[v, .int .i64 0]) ∧ w'.ownsRow w.heap.size 29 3 v c.toNat (duL y m d e c.toNat)) ∨ (¬ duOk y m d e c ∧ r = .returned (.tuple #[.slice none 0 0, .int .i64 1]))) := by
  obtain ⟨i0, hi, hz0, hz1, hz2⟩ := info_parts infoDate
  have e1 : decide (e < 1) = false := by simp; omega
  have e2 : decide (1200 < e) = false := by simp; omega
  have e3 : decide (c < 0) = false := by simp; omega
  have e4 : decide (4096 < c) = false := by simp; omega
  go_enter Tryd.func30, Tryd.ntmps30
  go_wp2_with fail
  refine (goodr_is ha _).mono ?_
  rintro e w1 ⟨rfl, hb⟩
  have hA := ((Blk.new_at (w := w) (g := w.heap.size) (by simp) 29 #[.int .i64 y, .int .i64 m, .int .i64 d])).below hb; have kA := hA.cell; have lA := hA.lt; have fA := hA.froz
  have b1 := b_step (b_alloc (Below.refl w.heap.size w) _) hb; clear hb
  go_wp2
  go_loopg [8, 9] c.toNat (fun g v i wr => ∃ j : Int, i = .int .i64 j ∧ 0 ≤ j ∧ j ≤ c ∧ c.toNat - j.toNat ≤ g ∧ duOk y m d e j ∧ wr.ownsRow (w.heap.size + 1) 29 3 v j.toNat (duL y m d e j.toNat) ∧ Blk wr w.heap.size #[.int .i64 y, .int .i64 m, .int .i64 d] ∧ Below w.heap.size w wr)
  case atStart => exact ⟨0, rfl, by omega, by omega, by omega, duOk_zero y m d e, World.ownsRow_nil _ _ _ _, hA, b1⟩
  case round =>
    clear hA kA lA fA
    obtain ⟨j, rfl, hj0, hjc, hg, hok, hown, hA, br⟩ := hrel
    have kA := hA.cell; have lA := hA.lt; have fA := hA.froz
    by_cases hlt : j < c
    · have c1 : decide (j < c) = true := by simpa using hlt
      have m1 : j * e ≤ 4096 * 1200 := Int.mul_le_mul (by omega) (by omega) (by omega) (by omega)
      have m2 : 0 ≤ j * e := Int.mul_nonneg hj0 (by omega)
      have wr1 : wrap64 (j * e) = j * e := by unfold wrap64; omega
      have wr1c : wrap64 (e * j) = j * e := by rw [Int.mul_comm]; exact wr1
      have wr2 : wrap64 (j + 1) = j + 1 := by unfold wrap64; omega
      by_cases hm : moG y m d (j * e)
      · go_wp2_with fail
        refine (onr_yes ha hm _).mono ?_
        rintro e w21 ⟨rfl, hb⟩
        have ho2 := owns_below hown hb
        have hA := (hA).below hb; clear kA lA fA; have kA := hA.cell; have lA := hA.lt; have fA := hA.froz
        have b21 := b_step (br) hb; clear hb
        go_wp2_with (at_builtin; refine wpList_append_own _ rfl _ _ 44 rfl (w.heap.size + 1) 29 i0 (.agg #[.int .i64 0, .int .i64 0, .int .i64 0]) 3 24 Tryd.underlying44 hi hz0 hz1 hz2 rfl (by decide) _ _ _ rfl ((ho2.alloc _).alloc _) ⟨w21.heap.size + 1, 0, none⟩ 1 1 (dateC (moD y m d (j * e))) rfl rfl ?c1 ?c2 ?c3 ?c4 ?c5 ?_)
        case c1 =>
          intro k u hk
          match k, hk with
          | 0, hk => simp [dateC] at hk; subst hk; simp [Addr.add]
          | 1, hk => simp [dateC] at hk; subst hk; simp [Addr.add]
          | 2, hk => simp [dateC] at hk; subst hk; simp [Addr.add]
        case c2 => intro u hu; simp [dateC] at hu; rcases hu with rfl | rfl | rfl <;> rfl
        case c3 => unfold maxLen; omega
        case c4 => omega
        case c5 => have := b21.size; simp; omega
        intro v' w22 hown' hgrow _
        have hne : ∀ k, Value.ownBlock _ = some k → w.heap.size + 1 ≤ k := fun k hk => (ho2.lt k hk).1
        have hA2 := blk_grown ((hA.alloc _).alloc _) hgrow (fun h => absurd (hne _ h.symm) (by omega))
        have b22 := (b_alloc (b_alloc b21 _) _).grown hgrow (by have := b21.size; simp; omega) (fun k hk => by have := hne k hk; omega)
        clear hA kA lA fA ho2 hown hgrow hne br b21
        go_wp2
        go_roundg (gk - 1)
        case measure => omega
        case rel => exact ⟨j + 1, rfl, by omega, by omega, by omega, duOk_succ hok hm, by rw [show (j + 1).toNat = j.toNat + 1 by omega]; show World.ownsRow _ _ _ _ _ _ (duL y m d e j.toNat ++ dateC (moD y m d ((j.toNat : Int) * e))); rw [Int.toNat_of_nonneg hj0]; exact hown', hA2, b22⟩
      · go_wp2_with fail
        refine (onr_no ha hm _).mono ?_
        rintro e w21 ⟨rfl, hb⟩
        have hA := (hA).below hb; clear kA lA fA; have kA := hA.cell; have lA := hA.lt; have fA := hA.froz
        have b21 := b_step (br) hb; clear hb
        go_wp2
        go_ret2
        exact ⟨b_alloc b21 _, .inr ⟨fun h => hm (h j hj0 hlt), rfl⟩⟩
    · obtain rfl : j = c := by omega
      go_wp2
      go_ret2
      exact ⟨br, _, rfl, owns_mono hown (by omega)⟩
end Go.Proofs.YtolgljionpalkaaDoor
