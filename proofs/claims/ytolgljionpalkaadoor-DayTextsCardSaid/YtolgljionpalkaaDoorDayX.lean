/- Parse, the program's. -/
import Derived.Test.YtolgljionpalkaaDoorDayW
set_option linter.unusedSimpArgs false
set_option linter.unusedVariables false
namespace Go.Proofs.YtolgljionpalkaaDoor
open Go.RowKit Go.BigFrame
def fm (c0 c1 c2 c3 c4 c5 c6 c7 c8 c9 : UInt8) : Prop := (48 ≤ ((c0.toNat : Nat) : Int) ∧ ((c0.toNat : Nat) : Int) ≤ 57) ∧ (48 ≤ ((c1.toNat : Nat) : Int) ∧ ((c1.toNat : Nat) : Int) ≤ 57) ∧ (48 ≤ ((c2.toNat : Nat) : Int) ∧ ((c2.toNat : Nat) : Int) ≤ 57) ∧ (48 ≤ ((c3.toNat : Nat) : Int) ∧ ((c3.toNat : Nat) : Int) ≤ 57) ∧ ((c4.toNat : Nat) : Int) = 45 ∧ (48 ≤ ((c5.toNat : Nat) : Int) ∧ ((c5.toNat : Nat) : Int) ≤ 57) ∧ (48 ≤ ((c6.toNat : Nat) : Int) ∧ ((c6.toNat : Nat) : Int) ≤ 57) ∧ ((c7.toNat : Nat) : Int) = 45 ∧ (48 ≤ ((c8.toNat : Nat) : Int) ∧ ((c8.toNat : Nat) : Int) ≤ 57) ∧ (48 ≤ ((c9.toNat : Nat) : Int) ∧ ((c9.toNat : Nat) : Int) ≤ 57)
def nOf (c0 c1 c2 c3 c4 c5 c6 c7 c8 c9 : UInt8) : Int := 0 + 10000000 * (((c0.toNat : Nat) : Int) - 48) + 1000000 * (((c1.toNat : Nat) : Int) - 48) + 100000 * (((c2.toNat : Nat) : Int) - 48) + 10000 * (((c3.toNat : Nat) : Int) - 48) + 1000 * (((c5.toNat : Nat) : Int) - 48) + 100 * (((c6.toNat : Nat) : Int) - 48) + 10 * (((c8.toNat : Nat) : Int) - 48) + 1 * (((c9.toNat : Nat) : Int) - 48)
set_option maxHeartbeats 8000000 in
theorem parse_ten (c0 c1 c2 c3 c4 c5 c6 c7 c8 c9 : UInt8) (w : World) (hT : TabOk w) :
    Calls Tryd.prog 32 #[.string ⟨#[c0, c1, c2, c3, c4, c5, c6, c7, c8, c9]⟩] w fun e w' => Below w.heap.size w w' ∧
      ((fm c0 c1 c2 c3 c4 c5 c6 c7 c8 c9 ∧ ∃ n, n = nOf c0 c1 c2 c3 c4 c5 c6 c7 c8 c9 ∧ ((goodB (n / 10000) (n / 100 % 100) (n % 100) = true ∧ e = .returned (.tuple #[.agg #[.int .i64 (n / 10000), .int .i64 (n / 100 % 100), .int .i64 (n % 100)], .int .i64 0])) ∨ (goodB (n / 10000) (n / 100 % 100) (n % 100) = false ∧ e = .returned (.tuple #[.agg #[.int .i64 0, .int .i64 0, .int .i64 0], .int .i64 70])))) ∨
       (¬ fm c0 c1 c2 c3 c4 c5 c6 c7 c8 c9 ∧ e = .returned (.tuple #[.agg #[.int .i64 0, .int .i64 0, .int .i64 0], .int .i64 2]))) := by
  have g0 : ∀ h : 0 < (ByteArray.mk #[c0, c1, c2, c3, c4, c5, c6, c7, c8, c9]).size, (ByteArray.mk #[c0, c1, c2, c3, c4, c5, c6, c7, c8, c9])[0]'h = c0 := fun _ => rfl
  have g1 : ∀ h : 1 < (ByteArray.mk #[c0, c1, c2, c3, c4, c5, c6, c7, c8, c9]).size, (ByteArray.mk #[c0, c1, c2, c3, c4, c5, c6, c7, c8, c9])[1]'h = c1 := fun _ => rfl
  have g2 : ∀ h : 2 < (ByteArray.mk #[c0, c1, c2, c3, c4, c5, c6, c7, c8, c9]).size, (ByteArray.mk #[c0, c1, c2, c3, c4, c5, c6, c7, c8, c9])[2]'h = c2 := fun _ => rfl
  have g3 : ∀ h : 3 < (ByteArray.mk #[c0, c1, c2, c3, c4, c5, c6, c7, c8, c9]).size, (ByteArray.mk #[c0, c1, c2, c3, c4, c5, c6, c7, c8, c9])[3]'h = c3 := fun _ => rfl
  have g4 : ∀ h : 4 < (ByteArray.mk #[c0, c1, c2, c3, c4, c5, c6, c7, c8, c9]).size, (ByteArray.mk #[c0, c1, c2, c3, c4, c5, c6, c7, c8, c9])[4]'h = c4 := fun _ => rfl
  have g5 : ∀ h : 5 < (ByteArray.mk #[c0, c1, c2, c3, c4, c5, c6, c7, c8, c9]).size, (ByteArray.mk #[c0, c1, c2, c3, c4, c5, c6, c7, c8, c9])[5]'h = c5 := fun _ => rfl
  have g6 : ∀ h : 6 < (ByteArray.mk #[c0, c1, c2, c3, c4, c5, c6, c7, c8, c9]).size, (ByteArray.mk #[c0, c1, c2, c3, c4, c5, c6, c7, c8, c9])[6]'h = c6 := fun _ => rfl
  have g7 : ∀ h : 7 < (ByteArray.mk #[c0, c1, c2, c3, c4, c5, c6, c7, c8, c9]).size, (ByteArray.mk #[c0, c1, c2, c3, c4, c5, c6, c7, c8, c9])[7]'h = c7 := fun _ => rfl
  have g8 : ∀ h : 8 < (ByteArray.mk #[c0, c1, c2, c3, c4, c5, c6, c7, c8, c9]).size, (ByteArray.mk #[c0, c1, c2, c3, c4, c5, c6, c7, c8, c9])[8]'h = c8 := fun _ => rfl
  have g9 : ∀ h : 9 < (ByteArray.mk #[c0, c1, c2, c3, c4, c5, c6, c7, c8, c9]).size, (ByteArray.mk #[c0, c1, c2, c3, c4, c5, c6, c7, c8, c9])[9]'h = c9 := fun _ => rfl
  go_enter Tryd.func32, Tryd.ntmps32
  go_wp2
  go_loopg [4, 16] 10 (fun g t i wr => ∃ N : Int, t = .int .i64 N ∧ Blk wr w.heap.size #[.int .i64 0, .int .i64 0, .int .i64 0] ∧ Below w.heap.size w wr ∧ ((i = .int .i64 0 ∧ 10 ≤ g ∧ Hid (N = 0) ∧ Hid (True)) ∨ (i = .int .i64 1 ∧ 9 ≤ g ∧ Hid (N = 0 + 1 * (((c0.toNat : Nat) : Int) - 48)) ∧ Hid ((48 ≤ ((c0.toNat : Nat) : Int) ∧ ((c0.toNat : Nat) : Int) ≤ 57))) ∨ (i = .int .i64 2 ∧ 8 ≤ g ∧ Hid (N = 0 + 10 * (((c0.toNat : Nat) : Int) - 48) + 1 * (((c1.toNat : Nat) : Int) - 48)) ∧ Hid ((48 ≤ ((c0.toNat : Nat) : Int) ∧ ((c0.toNat : Nat) : Int) ≤ 57) ∧ (48 ≤ ((c1.toNat : Nat) : Int) ∧ ((c1.toNat : Nat) : Int) ≤ 57))) ∨ (i = .int .i64 3 ∧ 7 ≤ g ∧ Hid (N = 0 + 100 * (((c0.toNat : Nat) : Int) - 48) + 10 * (((c1.toNat : Nat) : Int) - 48) + 1 * (((c2.toNat : Nat) : Int) - 48)) ∧ Hid ((48 ≤ ((c0.toNat : Nat) : Int) ∧ ((c0.toNat : Nat) : Int) ≤ 57) ∧ (48 ≤ ((c1.toNat : Nat) : Int) ∧ ((c1.toNat : Nat) : Int) ≤ 57) ∧ (48 ≤ ((c2.toNat : Nat) : Int) ∧ ((c2.toNat : Nat) : Int) ≤ 57))) ∨ (i = .int .i64 4 ∧ 6 ≤ g ∧ Hid (N = 0 + 1000 * (((c0.toNat : Nat) : Int) - 48) + 100 * (((c1.toNat : Nat) : Int) - 48) + 10 * (((c2.toNat : Nat) : Int) - 48) + 1 * (((c3.toNat : Nat) : Int) - 48)) ∧ Hid ((48 ≤ ((c0.toNat : Nat) : Int) ∧ ((c0.toNat : Nat) : Int) ≤ 57) ∧ (48 ≤ ((c1.toNat : Nat) : Int) ∧ ((c1.toNat : Nat) : Int) ≤ 57) ∧ (48 ≤ ((c2.toNat : Nat) : Int) ∧ ((c2.toNat : Nat) : Int) ≤ 57) ∧ (48 ≤ ((c3.toNat : Nat) : Int) ∧ ((c3.toNat : Nat) : Int) ≤ 57))) ∨ (i = .int .i64 5 ∧ 5 ≤ g ∧ Hid (N = 0 + 1000 * (((c0.toNat : Nat) : Int) - 48) + 100 * (((c1.toNat : Nat) : Int) - 48) + 10 * (((c2.toNat : Nat) : Int) - 48) + 1 * (((c3.toNat : Nat) : Int) - 48)) ∧ Hid ((48 ≤ ((c0.toNat : Nat) : Int) ∧ ((c0.toNat : Nat) : Int) ≤ 57) ∧ (48 ≤ ((c1.toNat : Nat) : Int) ∧ ((c1.toNat : Nat) : Int) ≤ 57) ∧ (48 ≤ ((c2.toNat : Nat) : Int) ∧ ((c2.toNat : Nat) : Int) ≤ 57) ∧ (48 ≤ ((c3.toNat : Nat) : Int) ∧ ((c3.toNat : Nat) : Int) ≤ 57) ∧ ((c4.toNat : Nat) : Int) = 45)) ∨ (i = .int .i64 6 ∧ 4 ≤ g ∧ Hid (N = 0 + 10000 * (((c0.toNat : Nat) : Int) - 48) + 1000 * (((c1.toNat : Nat) : Int) - 48) + 100 * (((c2.toNat : Nat) : Int) - 48) + 10 * (((c3.toNat : Nat) : Int) - 48) + 1 * (((c5.toNat : Nat) : Int) - 48)) ∧ Hid ((48 ≤ ((c0.toNat : Nat) : Int) ∧ ((c0.toNat : Nat) : Int) ≤ 57) ∧ (48 ≤ ((c1.toNat : Nat) : Int) ∧ ((c1.toNat : Nat) : Int) ≤ 57) ∧ (48 ≤ ((c2.toNat : Nat) : Int) ∧ ((c2.toNat : Nat) : Int) ≤ 57) ∧ (48 ≤ ((c3.toNat : Nat) : Int) ∧ ((c3.toNat : Nat) : Int) ≤ 57) ∧ ((c4.toNat : Nat) : Int) = 45 ∧ (48 ≤ ((c5.toNat : Nat) : Int) ∧ ((c5.toNat : Nat) : Int) ≤ 57))) ∨ (i = .int .i64 7 ∧ 3 ≤ g ∧ Hid (N = 0 + 100000 * (((c0.toNat : Nat) : Int) - 48) + 10000 * (((c1.toNat : Nat) : Int) - 48) + 1000 * (((c2.toNat : Nat) : Int) - 48) + 100 * (((c3.toNat : Nat) : Int) - 48) + 10 * (((c5.toNat : Nat) : Int) - 48) + 1 * (((c6.toNat : Nat) : Int) - 48)) ∧ Hid ((48 ≤ ((c0.toNat : Nat) : Int) ∧ ((c0.toNat : Nat) : Int) ≤ 57) ∧ (48 ≤ ((c1.toNat : Nat) : Int) ∧ ((c1.toNat : Nat) : Int) ≤ 57) ∧ (48 ≤ ((c2.toNat : Nat) : Int) ∧ ((c2.toNat : Nat) : Int) ≤ 57) ∧ (48 ≤ ((c3.toNat : Nat) : Int) ∧ ((c3.toNat : Nat) : Int) ≤ 57) ∧ ((c4.toNat : Nat) : Int) = 45 ∧ (48 ≤ ((c5.toNat : Nat) : Int) ∧ ((c5.toNat : Nat) : Int) ≤ 57) ∧ (48 ≤ ((c6.toNat : Nat) : Int) ∧ ((c6.toNat : Nat) : Int) ≤ 57))) ∨ (i = .int .i64 8 ∧ 2 ≤ g ∧ Hid (N = 0 + 100000 * (((c0.toNat : Nat) : Int) - 48) + 10000 * (((c1.toNat : Nat) : Int) - 48) + 1000 * (((c2.toNat : Nat) : Int) - 48) + 100 * (((c3.toNat : Nat) : Int) - 48) + 10 * (((c5.toNat : Nat) : Int) - 48) + 1 * (((c6.toNat : Nat) : Int) - 48)) ∧ Hid ((48 ≤ ((c0.toNat : Nat) : Int) ∧ ((c0.toNat : Nat) : Int) ≤ 57) ∧ (48 ≤ ((c1.toNat : Nat) : Int) ∧ ((c1.toNat : Nat) : Int) ≤ 57) ∧ (48 ≤ ((c2.toNat : Nat) : Int) ∧ ((c2.toNat : Nat) : Int) ≤ 57) ∧ (48 ≤ ((c3.toNat : Nat) : Int) ∧ ((c3.toNat : Nat) : Int) ≤ 57) ∧ ((c4.toNat : Nat) : Int) = 45 ∧ (48 ≤ ((c5.toNat : Nat) : Int) ∧ ((c5.toNat : Nat) : Int) ≤ 57) ∧ (48 ≤ ((c6.toNat : Nat) : Int) ∧ ((c6.toNat : Nat) : Int) ≤ 57) ∧ ((c7.toNat : Nat) : Int) = 45)) ∨ (i = .int .i64 9 ∧ 1 ≤ g ∧ Hid (N = 0 + 1000000 * (((c0.toNat : Nat) : Int) - 48) + 100000 * (((c1.toNat : Nat) : Int) - 48) + 10000 * (((c2.toNat : Nat) : Int) - 48) + 1000 * (((c3.toNat : Nat) : Int) - 48) + 100 * (((c5.toNat : Nat) : Int) - 48) + 10 * (((c6.toNat : Nat) : Int) - 48) + 1 * (((c8.toNat : Nat) : Int) - 48)) ∧ Hid ((48 ≤ ((c0.toNat : Nat) : Int) ∧ ((c0.toNat : Nat) : Int) ≤ 57) ∧ (48 ≤ ((c1.toNat : Nat) : Int) ∧ ((c1.toNat : Nat) : Int) ≤ 57) ∧ (48 ≤ ((c2.toNat : Nat) : Int) ∧ ((c2.toNat : Nat) : Int) ≤ 57) ∧ (48 ≤ ((c3.toNat : Nat) : Int) ∧ ((c3.toNat : Nat) : Int) ≤ 57) ∧ ((c4.toNat : Nat) : Int) = 45 ∧ (48 ≤ ((c5.toNat : Nat) : Int) ∧ ((c5.toNat : Nat) : Int) ≤ 57) ∧ (48 ≤ ((c6.toNat : Nat) : Int) ∧ ((c6.toNat : Nat) : Int) ≤ 57) ∧ ((c7.toNat : Nat) : Int) = 45 ∧ (48 ≤ ((c8.toNat : Nat) : Int) ∧ ((c8.toNat : Nat) : Int) ≤ 57))) ∨ (i = .int .i64 10 ∧ 0 ≤ g ∧ Hid (N = 0 + 10000000 * (((c0.toNat : Nat) : Int) - 48) + 1000000 * (((c1.toNat : Nat) : Int) - 48) + 100000 * (((c2.toNat : Nat) : Int) - 48) + 10000 * (((c3.toNat : Nat) : Int) - 48) + 1000 * (((c5.toNat : Nat) : Int) - 48) + 100 * (((c6.toNat : Nat) : Int) - 48) + 10 * (((c8.toNat : Nat) : Int) - 48) + 1 * (((c9.toNat : Nat) : Int) - 48)) ∧ Hid ((48 ≤ ((c0.toNat : Nat) : Int) ∧ ((c0.toNat : Nat) : Int) ≤ 57) ∧ (48 ≤ ((c1.toNat : Nat) : Int) ∧ ((c1.toNat : Nat) : Int) ≤ 57) ∧ (48 ≤ ((c2.toNat : Nat) : Int) ∧ ((c2.toNat : Nat) : Int) ≤ 57) ∧ (48 ≤ ((c3.toNat : Nat) : Int) ∧ ((c3.toNat : Nat) : Int) ≤ 57) ∧ ((c4.toNat : Nat) : Int) = 45 ∧ (48 ≤ ((c5.toNat : Nat) : Int) ∧ ((c5.toNat : Nat) : Int) ≤ 57) ∧ (48 ≤ ((c6.toNat : Nat) : Int) ∧ ((c6.toNat : Nat) : Int) ≤ 57) ∧ ((c7.toNat : Nat) : Int) = 45 ∧ (48 ≤ ((c8.toNat : Nat) : Int) ∧ ((c8.toNat : Nat) : Int) ≤ 57) ∧ (48 ≤ ((c9.toNat : Nat) : Int) ∧ ((c9.toNat : Nat) : Int) ≤ 57)))))
  case atStart => exact ⟨0, rfl, Blk.new_at (by simp) 29 _, b_alloc (Below.refl w.heap.size w) _, .inl ⟨rfl, by omega, Lib.hid rfl, Lib.hid trivial⟩⟩
  case round =>
    obtain ⟨N, rfl, hA, br, ⟨rfl, hg, hN, hok⟩ | ⟨rfl, hg, hN, hok⟩ | ⟨rfl, hg, hN, hok⟩ | ⟨rfl, hg, hN, hok⟩ | ⟨rfl, hg, hN, hok⟩ | ⟨rfl, hg, hN, hok⟩ | ⟨rfl, hg, hN, hok⟩ | ⟨rfl, hg, hN, hok⟩ | ⟨rfl, hg, hN, hok⟩ | ⟨rfl, hg, hN, hok⟩ | ⟨rfl, hg, hN, hok⟩⟩ := hrel
    · have kA := hA.cell; have lA := hA.lt; have fA := hA.froz
      by_cases h : 48 ≤ ((c0.toNat : Nat) : Int)
      · have f1 : decide (((c0.toNat : Nat) : Int) < 48) = false := by simp; omega
        by_cases h2 : ((c0.toNat : Nat) : Int) ≤ 57
        · have f2 : decide (57 < ((c0.toNat : Nat) : Int)) = false := by simp; omega
          have f3 : IntKind.u8.wrap (((c0.toNat : Nat) : Int) - 48) = ((c0.toNat : Nat) : Int) - 48 := by rw [IntKind.wrap_u8]; omega
          have f4 : 0 ≤ N := by have := hN.out; have := hok.out; omega
          have f5 : N ≤ 9999999 := by have := hN.out; have := hok.out; omega
          go_wp2
          go_roundg (gk - 1)
          case measure => omega
          case rel => exact ⟨10 * N + (((c0.toNat : Nat) : Int) - 48), rfl, hA, br, (.inr (.inl ⟨rfl, by omega, Lib.hid (by have := hN.out; omega), Lib.hid (by have := hok.out; omega)⟩))⟩
        · have f2 : decide (57 < ((c0.toNat : Nat) : Int)) = true := by simp; omega
          go_wp2
          refine bodyPost_ret (v := .tuple #[.agg #[.int .i64 0, .int .i64 0, .int .i64 0], .int .i64 2]) (by simp [results, Tryd.results32, go_sem, kA, lA]) rfl ⟨?_, .inr ⟨fun hf => by unfold fm at hf; omega, rfl⟩⟩
          repeat (first | exact br | refine b_alloc ?_ _ | refine b_set ?_ (by first | (simp; done) | (simp; omega)))
      · have f1 : decide (((c0.toNat : Nat) : Int) < 48) = true := by simp; omega
        go_wp2
        refine bodyPost_ret (v := .tuple #[.agg #[.int .i64 0, .int .i64 0, .int .i64 0], .int .i64 2]) (by simp [results, Tryd.results32, go_sem, kA, lA]) rfl ⟨?_, .inr ⟨fun hf => by unfold fm at hf; omega, rfl⟩⟩
        repeat (first | exact br | refine b_alloc ?_ _ | refine b_set ?_ (by first | (simp; done) | (simp; omega)))
    · have kA := hA.cell; have lA := hA.lt; have fA := hA.froz
      by_cases h : 48 ≤ ((c1.toNat : Nat) : Int)
      · have f1 : decide (((c1.toNat : Nat) : Int) < 48) = false := by simp; omega
        by_cases h2 : ((c1.toNat : Nat) : Int) ≤ 57
        · have f2 : decide (57 < ((c1.toNat : Nat) : Int)) = false := by simp; omega
          have f3 : IntKind.u8.wrap (((c1.toNat : Nat) : Int) - 48) = ((c1.toNat : Nat) : Int) - 48 := by rw [IntKind.wrap_u8]; omega
          have f4 : 0 ≤ N := by have := hN.out; have := hok.out; omega
          have f5 : N ≤ 9999999 := by have := hN.out; have := hok.out; omega
          go_wp2
          go_roundg (gk - 1)
          case measure => omega
          case rel => exact ⟨10 * N + (((c1.toNat : Nat) : Int) - 48), rfl, hA, br, (.inr (.inr (.inl ⟨rfl, by omega, Lib.hid (by have := hN.out; omega), Lib.hid (by have := hok.out; omega)⟩)))⟩
        · have f2 : decide (57 < ((c1.toNat : Nat) : Int)) = true := by simp; omega
          go_wp2
          refine bodyPost_ret (v := .tuple #[.agg #[.int .i64 0, .int .i64 0, .int .i64 0], .int .i64 2]) (by simp [results, Tryd.results32, go_sem, kA, lA]) rfl ⟨?_, .inr ⟨fun hf => by unfold fm at hf; omega, rfl⟩⟩
          repeat (first | exact br | refine b_alloc ?_ _ | refine b_set ?_ (by first | (simp; done) | (simp; omega)))
      · have f1 : decide (((c1.toNat : Nat) : Int) < 48) = true := by simp; omega
        go_wp2
        refine bodyPost_ret (v := .tuple #[.agg #[.int .i64 0, .int .i64 0, .int .i64 0], .int .i64 2]) (by simp [results, Tryd.results32, go_sem, kA, lA]) rfl ⟨?_, .inr ⟨fun hf => by unfold fm at hf; omega, rfl⟩⟩
        repeat (first | exact br | refine b_alloc ?_ _ | refine b_set ?_ (by first | (simp; done) | (simp; omega)))
    · have kA := hA.cell; have lA := hA.lt; have fA := hA.froz
      by_cases h : 48 ≤ ((c2.toNat : Nat) : Int)
      · have f1 : decide (((c2.toNat : Nat) : Int) < 48) = false := by simp; omega
        by_cases h2 : ((c2.toNat : Nat) : Int) ≤ 57
        · have f2 : decide (57 < ((c2.toNat : Nat) : Int)) = false := by simp; omega
          have f3 : IntKind.u8.wrap (((c2.toNat : Nat) : Int) - 48) = ((c2.toNat : Nat) : Int) - 48 := by rw [IntKind.wrap_u8]; omega
          have f4 : 0 ≤ N := by have := hN.out; have := hok.out; omega
          have f5 : N ≤ 9999999 := by have := hN.out; have := hok.out; omega
          go_wp2
          go_roundg (gk - 1)
          case measure => omega
          case rel => exact ⟨10 * N + (((c2.toNat : Nat) : Int) - 48), rfl, hA, br, (.inr (.inr (.inr (.inl ⟨rfl, by omega, Lib.hid (by have := hN.out; omega), Lib.hid (by have := hok.out; omega)⟩))))⟩
        · have f2 : decide (57 < ((c2.toNat : Nat) : Int)) = true := by simp; omega
          go_wp2
          refine bodyPost_ret (v := .tuple #[.agg #[.int .i64 0, .int .i64 0, .int .i64 0], .int .i64 2]) (by simp [results, Tryd.results32, go_sem, kA, lA]) rfl ⟨?_, .inr ⟨fun hf => by unfold fm at hf; omega, rfl⟩⟩
          repeat (first | exact br | refine b_alloc ?_ _ | refine b_set ?_ (by first | (simp; done) | (simp; omega)))
      · have f1 : decide (((c2.toNat : Nat) : Int) < 48) = true := by simp; omega
        go_wp2
        refine bodyPost_ret (v := .tuple #[.agg #[.int .i64 0, .int .i64 0, .int .i64 0], .int .i64 2]) (by simp [results, Tryd.results32, go_sem, kA, lA]) rfl ⟨?_, .inr ⟨fun hf => by unfold fm at hf; omega, rfl⟩⟩
        repeat (first | exact br | refine b_alloc ?_ _ | refine b_set ?_ (by first | (simp; done) | (simp; omega)))
    · have kA := hA.cell; have lA := hA.lt; have fA := hA.froz
      by_cases h : 48 ≤ ((c3.toNat : Nat) : Int)
      · have f1 : decide (((c3.toNat : Nat) : Int) < 48) = false := by simp; omega
        by_cases h2 : ((c3.toNat : Nat) : Int) ≤ 57
        · have f2 : decide (57 < ((c3.toNat : Nat) : Int)) = false := by simp; omega
          have f3 : IntKind.u8.wrap (((c3.toNat : Nat) : Int) - 48) = ((c3.toNat : Nat) : Int) - 48 := by rw [IntKind.wrap_u8]; omega
          have f4 : 0 ≤ N := by have := hN.out; have := hok.out; omega
          have f5 : N ≤ 9999999 := by have := hN.out; have := hok.out; omega
          go_wp2
          go_roundg (gk - 1)
          case measure => omega
          case rel => exact ⟨10 * N + (((c3.toNat : Nat) : Int) - 48), rfl, hA, br, (.inr (.inr (.inr (.inr (.inl ⟨rfl, by omega, Lib.hid (by have := hN.out; omega), Lib.hid (by have := hok.out; omega)⟩)))))⟩
        · have f2 : decide (57 < ((c3.toNat : Nat) : Int)) = true := by simp; omega
          go_wp2
          refine bodyPost_ret (v := .tuple #[.agg #[.int .i64 0, .int .i64 0, .int .i64 0], .int .i64 2]) (by simp [results, Tryd.results32, go_sem, kA, lA]) rfl ⟨?_, .inr ⟨fun hf => by unfold fm at hf; omega, rfl⟩⟩
          repeat (first | exact br | refine b_alloc ?_ _ | refine b_set ?_ (by first | (simp; done) | (simp; omega)))
      · have f1 : decide (((c3.toNat : Nat) : Int) < 48) = true := by simp; omega
        go_wp2
        refine bodyPost_ret (v := .tuple #[.agg #[.int .i64 0, .int .i64 0, .int .i64 0], .int .i64 2]) (by simp [results, Tryd.results32, go_sem, kA, lA]) rfl ⟨?_, .inr ⟨fun hf => by unfold fm at hf; omega, rfl⟩⟩
        repeat (first | exact br | refine b_alloc ?_ _ | refine b_set ?_ (by first | (simp; done) | (simp; omega)))
    · have kA := hA.cell; have lA := hA.lt; have fA := hA.froz
      by_cases h : ((c4.toNat : Nat) : Int) = 45
      · have f1 : (((c4.toNat : Nat) : Int) == 45) = true := by simpa using h
        go_wp2
        go_roundg (gk - 1)
        case measure => omega
        case rel => exact ⟨N, rfl, hA, br, (.inr (.inr (.inr (.inr (.inr (.inl ⟨rfl, by omega, hN, Lib.hid (by have := hok.out; omega)⟩))))))⟩
      · have f1 : (((c4.toNat : Nat) : Int) == 45) = false := by simpa using h
        go_wp2
        refine bodyPost_ret (v := .tuple #[.agg #[.int .i64 0, .int .i64 0, .int .i64 0], .int .i64 2]) (by simp [results, Tryd.results32, go_sem, kA, lA]) rfl ⟨?_, .inr ⟨fun hf => by unfold fm at hf; omega, rfl⟩⟩
        repeat (first | exact br | refine b_alloc ?_ _ | refine b_set ?_ (by first | (simp; done) | (simp; omega)))
    · have kA := hA.cell; have lA := hA.lt; have fA := hA.froz
      by_cases h : 48 ≤ ((c5.toNat : Nat) : Int)
      · have f1 : decide (((c5.toNat : Nat) : Int) < 48) = false := by simp; omega
        by_cases h2 : ((c5.toNat : Nat) : Int) ≤ 57
        · have f2 : decide (57 < ((c5.toNat : Nat) : Int)) = false := by simp; omega
          have f3 : IntKind.u8.wrap (((c5.toNat : Nat) : Int) - 48) = ((c5.toNat : Nat) : Int) - 48 := by rw [IntKind.wrap_u8]; omega
          have f4 : 0 ≤ N := by have := hN.out; have := hok.out; omega
          have f5 : N ≤ 9999999 := by have := hN.out; have := hok.out; omega
          go_wp2
          go_roundg (gk - 1)
          case measure => omega
          case rel => exact ⟨10 * N + (((c5.toNat : Nat) : Int) - 48), rfl, hA, br, (.inr (.inr (.inr (.inr (.inr (.inr (.inl ⟨rfl, by omega, Lib.hid (by have := hN.out; omega), Lib.hid (by have := hok.out; omega)⟩)))))))⟩
        · have f2 : decide (57 < ((c5.toNat : Nat) : Int)) = true := by simp; omega
          go_wp2
          refine bodyPost_ret (v := .tuple #[.agg #[.int .i64 0, .int .i64 0, .int .i64 0], .int .i64 2]) (by simp [results, Tryd.results32, go_sem, kA, lA]) rfl ⟨?_, .inr ⟨fun hf => by unfold fm at hf; omega, rfl⟩⟩
          repeat (first | exact br | refine b_alloc ?_ _ | refine b_set ?_ (by first | (simp; done) | (simp; omega)))
      · have f1 : decide (((c5.toNat : Nat) : Int) < 48) = true := by simp; omega
        go_wp2
        refine bodyPost_ret (v := .tuple #[.agg #[.int .i64 0, .int .i64 0, .int .i64 0], .int .i64 2]) (by simp [results, Tryd.results32, go_sem, kA, lA]) rfl ⟨?_, .inr ⟨fun hf => by unfold fm at hf; omega, rfl⟩⟩
        repeat (first | exact br | refine b_alloc ?_ _ | refine b_set ?_ (by first | (simp; done) | (simp; omega)))
    · have kA := hA.cell; have lA := hA.lt; have fA := hA.froz
      by_cases h : 48 ≤ ((c6.toNat : Nat) : Int)
      · have f1 : decide (((c6.toNat : Nat) : Int) < 48) = false := by simp; omega
        by_cases h2 : ((c6.toNat : Nat) : Int) ≤ 57
        · have f2 : decide (57 < ((c6.toNat : Nat) : Int)) = false := by simp; omega
          have f3 : IntKind.u8.wrap (((c6.toNat : Nat) : Int) - 48) = ((c6.toNat : Nat) : Int) - 48 := by rw [IntKind.wrap_u8]; omega
          have f4 : 0 ≤ N := by have := hN.out; have := hok.out; omega
          have f5 : N ≤ 9999999 := by have := hN.out; have := hok.out; omega
          go_wp2
          go_roundg (gk - 1)
          case measure => omega
          case rel => exact ⟨10 * N + (((c6.toNat : Nat) : Int) - 48), rfl, hA, br, (.inr (.inr (.inr (.inr (.inr (.inr (.inr (.inl ⟨rfl, by omega, Lib.hid (by have := hN.out; omega), Lib.hid (by have := hok.out; omega)⟩))))))))⟩
        · have f2 : decide (57 < ((c6.toNat : Nat) : Int)) = true := by simp; omega
          go_wp2
          refine bodyPost_ret (v := .tuple #[.agg #[.int .i64 0, .int .i64 0, .int .i64 0], .int .i64 2]) (by simp [results, Tryd.results32, go_sem, kA, lA]) rfl ⟨?_, .inr ⟨fun hf => by unfold fm at hf; omega, rfl⟩⟩
          repeat (first | exact br | refine b_alloc ?_ _ | refine b_set ?_ (by first | (simp; done) | (simp; omega)))
      · have f1 : decide (((c6.toNat : Nat) : Int) < 48) = true := by simp; omega
        go_wp2
        refine bodyPost_ret (v := .tuple #[.agg #[.int .i64 0, .int .i64 0, .int .i64 0], .int .i64 2]) (by simp [results, Tryd.results32, go_sem, kA, lA]) rfl ⟨?_, .inr ⟨fun hf => by unfold fm at hf; omega, rfl⟩⟩
        repeat (first | exact br | refine b_alloc ?_ _ | refine b_set ?_ (by first | (simp; done) | (simp; omega)))
    · have kA := hA.cell; have lA := hA.lt; have fA := hA.froz
      by_cases h : ((c7.toNat : Nat) : Int) = 45
      · have f1 : (((c7.toNat : Nat) : Int) == 45) = true := by simpa using h
        go_wp2
        go_roundg (gk - 1)
        case measure => omega
        case rel => exact ⟨N, rfl, hA, br, (.inr (.inr (.inr (.inr (.inr (.inr (.inr (.inr (.inl ⟨rfl, by omega, hN, Lib.hid (by have := hok.out; omega)⟩)))))))))⟩
      · have f1 : (((c7.toNat : Nat) : Int) == 45) = false := by simpa using h
        go_wp2
        refine bodyPost_ret (v := .tuple #[.agg #[.int .i64 0, .int .i64 0, .int .i64 0], .int .i64 2]) (by simp [results, Tryd.results32, go_sem, kA, lA]) rfl ⟨?_, .inr ⟨fun hf => by unfold fm at hf; omega, rfl⟩⟩
        repeat (first | exact br | refine b_alloc ?_ _ | refine b_set ?_ (by first | (simp; done) | (simp; omega)))
    · have kA := hA.cell; have lA := hA.lt; have fA := hA.froz
      by_cases h : 48 ≤ ((c8.toNat : Nat) : Int)
      · have f1 : decide (((c8.toNat : Nat) : Int) < 48) = false := by simp; omega
        by_cases h2 : ((c8.toNat : Nat) : Int) ≤ 57
        · have f2 : decide (57 < ((c8.toNat : Nat) : Int)) = false := by simp; omega
          have f3 : IntKind.u8.wrap (((c8.toNat : Nat) : Int) - 48) = ((c8.toNat : Nat) : Int) - 48 := by rw [IntKind.wrap_u8]; omega
          have f4 : 0 ≤ N := by have := hN.out; have := hok.out; omega
          have f5 : N ≤ 9999999 := by have := hN.out; have := hok.out; omega
          go_wp2
          go_roundg (gk - 1)
          case measure => omega
          case rel => exact ⟨10 * N + (((c8.toNat : Nat) : Int) - 48), rfl, hA, br, (.inr (.inr (.inr (.inr (.inr (.inr (.inr (.inr (.inr (.inl ⟨rfl, by omega, Lib.hid (by have := hN.out; omega), Lib.hid (by have := hok.out; omega)⟩))))))))))⟩
        · have f2 : decide (57 < ((c8.toNat : Nat) : Int)) = true := by simp; omega
          go_wp2
          refine bodyPost_ret (v := .tuple #[.agg #[.int .i64 0, .int .i64 0, .int .i64 0], .int .i64 2]) (by simp [results, Tryd.results32, go_sem, kA, lA]) rfl ⟨?_, .inr ⟨fun hf => by unfold fm at hf; omega, rfl⟩⟩
          repeat (first | exact br | refine b_alloc ?_ _ | refine b_set ?_ (by first | (simp; done) | (simp; omega)))
      · have f1 : decide (((c8.toNat : Nat) : Int) < 48) = true := by simp; omega
        go_wp2
        refine bodyPost_ret (v := .tuple #[.agg #[.int .i64 0, .int .i64 0, .int .i64 0], .int .i64 2]) (by simp [results, Tryd.results32, go_sem, kA, lA]) rfl ⟨?_, .inr ⟨fun hf => by unfold fm at hf; omega, rfl⟩⟩
        repeat (first | exact br | refine b_alloc ?_ _ | refine b_set ?_ (by first | (simp; done) | (simp; omega)))
    · have kA := hA.cell; have lA := hA.lt; have fA := hA.froz
      by_cases h : 48 ≤ ((c9.toNat : Nat) : Int)
      · have f1 : decide (((c9.toNat : Nat) : Int) < 48) = false := by simp; omega
        by_cases h2 : ((c9.toNat : Nat) : Int) ≤ 57
        · have f2 : decide (57 < ((c9.toNat : Nat) : Int)) = false := by simp; omega
          have f3 : IntKind.u8.wrap (((c9.toNat : Nat) : Int) - 48) = ((c9.toNat : Nat) : Int) - 48 := by rw [IntKind.wrap_u8]; omega
          have f4 : 0 ≤ N := by have := hN.out; have := hok.out; omega
          have f5 : N ≤ 9999999 := by have := hN.out; have := hok.out; omega
          go_wp2
          go_roundg (gk - 1)
          case measure => omega
          case rel => exact ⟨10 * N + (((c9.toNat : Nat) : Int) - 48), rfl, hA, br, (.inr (.inr (.inr (.inr (.inr (.inr (.inr (.inr (.inr (.inr ⟨rfl, by omega, Lib.hid (by have := hN.out; omega), Lib.hid (by have := hok.out; omega)⟩))))))))))⟩
        · have f2 : decide (57 < ((c9.toNat : Nat) : Int)) = true := by simp; omega
          go_wp2
          refine bodyPost_ret (v := .tuple #[.agg #[.int .i64 0, .int .i64 0, .int .i64 0], .int .i64 2]) (by simp [results, Tryd.results32, go_sem, kA, lA]) rfl ⟨?_, .inr ⟨fun hf => by unfold fm at hf; omega, rfl⟩⟩
          repeat (first | exact br | refine b_alloc ?_ _ | refine b_set ?_ (by first | (simp; done) | (simp; omega)))
      · have f1 : decide (((c9.toNat : Nat) : Int) < 48) = true := by simp; omega
        go_wp2
        refine bodyPost_ret (v := .tuple #[.agg #[.int .i64 0, .int .i64 0, .int .i64 0], .int .i64 2]) (by simp [results, Tryd.results32, go_sem, kA, lA]) rfl ⟨?_, .inr ⟨fun hf => by unfold fm at hf; omega, rfl⟩⟩
        repeat (first | exact br | refine b_alloc ?_ _ | refine b_set ?_ (by first | (simp; done) | (simp; omega)))
    · have kA := hA.cell; have lA := hA.lt; have fA := hA.froz
      have hNe : Hid (N = nOf c0 c1 c2 c3 c4 c5 c6 c7 c8 c9) := Lib.hid (by have := hN.out; unfold nOf; omega)
      have hf : fm c0 c1 c2 c3 c4 c5 c6 c7 c8 c9 := by have := hok.out; unfold fm; omega
      have hn : 0 ≤ N ∧ N ≤ 99999999 := by have := hok.out; have := hN.out; omega
      have hn0 := hn.1
      clear hN hok
      cases hg2 : goodB (N / 10000) (N / 100 % 100) (N % 100) with
      | true =>
        have hG := Lib.hid hg2; clear hg2
        go_wp2_with fail
        refine (check_good hG _ (hT.below (b_alloc br _))).mono ?_
        rintro e w2 ⟨rfl, hb⟩
        have hX := ((Blk.new_at (w := wr) (g := wr.heap.size) (by simp) 29 #[.int .i64 (N / 10000), .int .i64 (N / 100 % 100), .int .i64 (N % 100)])).below hb; have kX := hX.cell; have lX := hX.lt; have fX := hX.froz
        have hA := (hA.alloc _).below hb; clear kA lA fA; have kA := hA.cell; have lA := hA.lt; have fA := hA.froz
        have b2 := b_step (b_alloc br _) hb; clear hb
        go_wp2
        refine bodyPost_ret (v := .tuple #[.agg #[.int .i64 (N / 10000), .int .i64 (N / 100 % 100), .int .i64 (N % 100)], .int .i64 0]) (by simp [results, Tryd.results32, go_sem, kA, lA]) rfl ⟨?_, .inl ⟨hf, N, hNe.out, .inl ⟨hG.out, rfl⟩⟩⟩
        repeat (first | exact b2 | refine b_alloc ?_ _ | refine b_set ?_ (by first | (simp; done) | (simp; omega)))
      | false =>
        have hG := Lib.hid hg2; clear hg2
        go_wp2_with fail
        refine (check_bad hG _ (hT.below (b_alloc br _))).mono ?_
        rintro e w2 ⟨rfl, hb⟩
        have hX := ((Blk.new_at (w := wr) (g := wr.heap.size) (by simp) 29 #[.int .i64 (N / 10000), .int .i64 (N / 100 % 100), .int .i64 (N % 100)])).below hb; have kX := hX.cell; have lX := hX.lt; have fX := hX.froz
        have hA := (hA.alloc _).below hb; clear kA lA fA; have kA := hA.cell; have lA := hA.lt; have fA := hA.froz
        have b2 := b_step (b_alloc br _) hb; clear hb
        go_wp2
        refine bodyPost_ret (v := .tuple #[.agg #[.int .i64 0, .int .i64 0, .int .i64 0], .int .i64 70]) (by simp [results, Tryd.results32, go_sem, kA, lA]) rfl ⟨?_, .inl ⟨hf, N, hNe.out, .inr ⟨hG.out, rfl⟩⟩⟩
        repeat (first | exact b2 | refine b_alloc ?_ _ | refine b_set ?_ (by first | (simp; done) | (simp; omega)))
end Go.Proofs.YtolgljionpalkaaDoor
