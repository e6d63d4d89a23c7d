/- Parse, the reference's. -/
import Derived.Test.YtolgljionpalkaaDoorDayY
set_option linter.unusedSimpArgs false
set_option linter.unusedVariables false
namespace Go.Proofs.YtolgljionpalkaaDoor
open Go.RowKit Go.BigFrame
theorem parser_long (s : ByteArray) (hs : 65536 < s.size) (hm : s.size ≤ 140737488351232) (w : World) :
    Calls Tryd.prog 33 #[.string s] w fun e w' => Below w.heap.size w w' ∧ e = .returned (.tuple #[.agg #[.int .i64 0, .int .i64 0, .int .i64 0], .int .i64 3]) := by
  have c1 : decide (65536 < (s.size : Int)) = true := by simp; omega
  go_enter Tryd.func33, Tryd.ntmps33
  go_wp2
  refine bodyPost_ret (v := .tuple #[.agg #[.int .i64 0, .int .i64 0, .int .i64 0], .int .i64 3]) (by simp [results, Tryd.results33, go_sem]) rfl ⟨?_, rfl⟩
  repeat (first | exact Below.refl _ _ | refine b_alloc ?_ _ | refine b_set ?_ (by first | (simp; done) | (simp; omega)))
theorem parser_short (s : ByteArray) (hs : s.size ≤ 65536) (hm : s.size ≠ 10) (w : World) :
    Calls Tryd.prog 33 #[.string s] w fun e w' => Below w.heap.size w w' ∧ e = .returned (.tuple #[.agg #[.int .i64 0, .int .i64 0, .int .i64 0], .int .i64 2]) := by
  have c1 : decide (65536 < (s.size : Int)) = false := by simp; omega
  have c2 : ((s.size : Int) == 10) = false := by simp; omega
  go_enter Tryd.func33, Tryd.ntmps33
  go_wp2
  refine bodyPost_ret (v := .tuple #[.agg #[.int .i64 0, .int .i64 0, .int .i64 0], .int .i64 2]) (by simp [results, Tryd.results33, go_sem]) rfl ⟨?_, rfl⟩
  repeat (first | exact Below.refl _ _ | refine b_alloc ?_ _ | refine b_set ?_ (by first | (simp; done) | (simp; omega)))
set_option maxHeartbeats 8000000 in
theorem parser_ten (c0 c1 c2 c3 c4 c5 c6 c7 c8 c9 : UInt8) (w : World) :
    Calls Tryd.prog 33 #[.string ⟨#[c0, c1, c2, c3, c4, c5, c6, c7, c8, c9]⟩] w fun e w' => Below w.heap.size w w' ∧
      ((fm c0 c1 c2 c3 c4 c5 c6 c7 c8 c9 ∧ ∃ n, n = nOf c0 c1 c2 c3 c4 c5 c6 c7 c8 c9 ∧ ((goodB (n / 10000) (n / 100 % 100) (n % 100) = true ∧ e = .returned (.tuple #[.agg #[.int .i64 (n / 10000), .int .i64 (n / 100 % 100), .int .i64 (n % 100)], .int .i64 0])) ∨ (goodB (n / 10000) (n / 100 % 100) (n % 100) = false ∧ e = .returned (.tuple #[.agg #[.int .i64 0, .int .i64 0, .int .i64 0], .int .i64 70])))) ∨
       (¬ fm c0 c1 c2 c3 c4 c5 c6 c7 c8 c9 ∧ e = .returned (.tuple #[.agg #[.int .i64 0, .int .i64 0, .int .i64 0], .int .i64 2]))) := by
  have g0 : ∀ h : 0 < (ByteArray.mk #[c0, c1, c2, c3, c4, c5, c6, c7, c8, c9]).size, (ByteArray.mk #[c0, c1, c2, c3, c4, c5, c6, c7, c8, c9])[0]'h = c0 := fun _ => rfl
  have g1 : ∀ h : 1 < (ByteArray.mk #[c0, c1, c2, c3, c4, c5, c6, c7, c8, c9]).size, (ByteArray.mk #[c0, c1, c2, c3, c4, c5, c6, c7, c8, c9])[1]'h = c1 := fun _ => rfl
  have g2 : ∀ h : 2 < (ByteArray.mk #[c0, c1, c2, c3, c4, c5, c6, c7, c8, c9]).size, (ByteArray.mk #[c0, c1, c2, c3, c4, c5, c6, c7, c8, c9])[2]'h = c2 := fun _ => rfl
  have g3 : ∀ h : 3 < (ByteArray.mk #[c0, c1, c2, c3, c4, c5, c6, c7, c8, c9]).size, (ByteArray.mk #[c0, c1, c2, c3, c4, c5, c6, c7, c8, c9])[3]'h = c3 := fun _ => rfl
  have g4 : ∀ h : 4 < (ByteArray.mk #[c0, c1, c2, c3, c4, c5, c6, c7, c8, c9]).size, (ByteArray.mk #[c0, c1, c2, c3, c4, c5, c6, c7, c8, c9])[4]'h = c4 := fun _ => rfl
  have g5 : ∀ h : 5 < (ByteArray.mk #[c0, c1, c2, c3, c4, c5, c6, c7, c8, c9]).size, (ByteArray.mk #[c0, c1, c2, c3, c4, c5, c6, c7, c8, c9])[5]'h = c5 := fun _ => rfl
  have g6 : ∀ h : 6 < (ByteArray.mk #[c0, c1, c2, c3, c4, c5, c6, c7, c8, c9]).size, (ByteArray.mk #[c0, c1, c2, c3, c4, c5, c6, c7, c8, c9])[6]'h = c6 := fun _ => rfl
  have g7 : ∀ h : 7 < (ByteArray.mk #[c0, c1, c2, c3, c4, c5, c6, c7, c8, c9]).size, (ByteArray.mk #[c0, c1, c2, c3, c4, c5, c6, c7, c8, c9])[7]'h = c7 := fun _ => rfl
  have g8 : ∀ h : 8 < (ByteArray.mk #[c0, c1, c2, c3, c4, c5, c6, c7, c8, c9]).size, (ByteArray.mk #[c0, c1, c2, c3, c4, c5, c6, c7, c8, c9])[8]'h = c8 := fun _ => rfl
  have g9 : ∀ h : 9 < (ByteArray.mk #[c0, c1, c2, c3, c4, c5, c6, c7, c8, c9]).size, (ByteArray.mk #[c0, c1, c2, c3, c4, c5, c6, c7, c8, c9])[9]'h = c9 := fun _ => rfl
  go_enter Tryd.func33, Tryd.ntmps33
  go_wp2
  go_loopg [5, 6] 10 (fun g kk i wr => ∃ N0 N1 N2 : Int, Blk wr w.heap.size #[.int .i64 0, .int .i64 0, .int .i64 0] ∧ Blk wr (w.heap.size + 1) #[.int .i64 N0, .int .i64 N1, .int .i64 N2] ∧ Below w.heap.size w wr ∧ ((i = .int .i64 0 ∧ kk = .int .i64 0 ∧ 10 ≤ g ∧ Hid (N0 = 0 ∧ N1 = 0 ∧ N2 = 0) ∧ Hid (True)) ∨ (i = .int .i64 1 ∧ kk = .int .i64 0 ∧ 9 ≤ g ∧ Hid (N0 = 0 + 1 * (((c0.toNat : Nat) : Int) - 48) ∧ N1 = 0 ∧ N2 = 0) ∧ Hid ((48 ≤ ((c0.toNat : Nat) : Int) ∧ ((c0.toNat : Nat) : Int) ≤ 57))) ∨ (i = .int .i64 2 ∧ kk = .int .i64 0 ∧ 8 ≤ g ∧ Hid (N0 = 0 + 10 * (((c0.toNat : Nat) : Int) - 48) + 1 * (((c1.toNat : Nat) : Int) - 48) ∧ N1 = 0 ∧ N2 = 0) ∧ Hid ((48 ≤ ((c0.toNat : Nat) : Int) ∧ ((c0.toNat : Nat) : Int) ≤ 57) ∧ (48 ≤ ((c1.toNat : Nat) : Int) ∧ ((c1.toNat : Nat) : Int) ≤ 57))) ∨ (i = .int .i64 3 ∧ kk = .int .i64 0 ∧ 7 ≤ g ∧ Hid (N0 = 0 + 100 * (((c0.toNat : Nat) : Int) - 48) + 10 * (((c1.toNat : Nat) : Int) - 48) + 1 * (((c2.toNat : Nat) : Int) - 48) ∧ N1 = 0 ∧ N2 = 0) ∧ Hid ((48 ≤ ((c0.toNat : Nat) : Int) ∧ ((c0.toNat : Nat) : Int) ≤ 57) ∧ (48 ≤ ((c1.toNat : Nat) : Int) ∧ ((c1.toNat : Nat) : Int) ≤ 57) ∧ (48 ≤ ((c2.toNat : Nat) : Int) ∧ ((c2.toNat : Nat) : Int) ≤ 57))) ∨ (i = .int .i64 4 ∧ kk = .int .i64 0 ∧ 6 ≤ g ∧ Hid (N0 = 0 + 1000 * (((c0.toNat : Nat) : Int) - 48) + 100 * (((c1.toNat : Nat) : Int) - 48) + 10 * (((c2.toNat : Nat) : Int) - 48) + 1 * (((c3.toNat : Nat) : Int) - 48) ∧ N1 = 0 ∧ N2 = 0) ∧ Hid ((48 ≤ ((c0.toNat : Nat) : Int) ∧ ((c0.toNat : Nat) : Int) ≤ 57) ∧ (48 ≤ ((c1.toNat : Nat) : Int) ∧ ((c1.toNat : Nat) : Int) ≤ 57) ∧ (48 ≤ ((c2.toNat : Nat) : Int) ∧ ((c2.toNat : Nat) : Int) ≤ 57) ∧ (48 ≤ ((c3.toNat : Nat) : Int) ∧ ((c3.toNat : Nat) : Int) ≤ 57))) ∨ (i = .int .i64 5 ∧ kk = .int .i64 1 ∧ 5 ≤ g ∧ Hid (N0 = 0 + 1000 * (((c0.toNat : Nat) : Int) - 48) + 100 * (((c1.toNat : Nat) : Int) - 48) + 10 * (((c2.toNat : Nat) : Int) - 48) + 1 * (((c3.toNat : Nat) : Int) - 48) ∧ N1 = 0 ∧ N2 = 0) ∧ Hid ((48 ≤ ((c0.toNat : Nat) : Int) ∧ ((c0.toNat : Nat) : Int) ≤ 57) ∧ (48 ≤ ((c1.toNat : Nat) : Int) ∧ ((c1.toNat : Nat) : Int) ≤ 57) ∧ (48 ≤ ((c2.toNat : Nat) : Int) ∧ ((c2.toNat : Nat) : Int) ≤ 57) ∧ (48 ≤ ((c3.toNat : Nat) : Int) ∧ ((c3.toNat : Nat) : Int) ≤ 57) ∧ ((c4.toNat : Nat) : Int) = 45)) ∨ (i = .int .i64 6 ∧ kk = .int .i64 1 ∧ 4 ≤ g ∧ Hid (N0 = 0 + 1000 * (((c0.toNat : Nat) : Int) - 48) + 100 * (((c1.toNat : Nat) : Int) - 48) + 10 * (((c2.toNat : Nat) : Int) - 48) + 1 * (((c3.toNat : Nat) : Int) - 48) ∧ N1 = 0 + 1 * (((c5.toNat : Nat) : Int) - 48) ∧ N2 = 0) ∧ Hid ((48 ≤ ((c0.toNat : Nat) : Int) ∧ ((c0.toNat : Nat) : Int) ≤ 57) ∧ (48 ≤ ((c1.toNat : Nat) : Int) ∧ ((c1.toNat : Nat) : Int) ≤ 57) ∧ (48 ≤ ((c2.toNat : Nat) : Int) ∧ ((c2.toNat : Nat) : Int) ≤ 57) ∧ (48 ≤ ((c3.toNat : Nat) : Int) ∧ ((c3.toNat : Nat) : Int) ≤ 57) ∧ ((c4.toNat : Nat) : Int) = 45 ∧ (48 ≤ ((c5.toNat : Nat) : Int) ∧ ((c5.toNat : Nat) : Int) ≤ 57))) ∨ (i = .int .i64 7 ∧ kk = .int .i64 1 ∧ 3 ≤ g ∧ Hid (N0 = 0 + 1000 * (((c0.toNat : Nat) : Int) - 48) + 100 * (((c1.toNat : Nat) : Int) - 48) + 10 * (((c2.toNat : Nat) : Int) - 48) + 1 * (((c3.toNat : Nat) : Int) - 48) ∧ N1 = 0 + 10 * (((c5.toNat : Nat) : Int) - 48) + 1 * (((c6.toNat : Nat) : Int) - 48) ∧ N2 = 0) ∧ Hid ((48 ≤ ((c0.toNat : Nat) : Int) ∧ ((c0.toNat : Nat) : Int) ≤ 57) ∧ (48 ≤ ((c1.toNat : Nat) : Int) ∧ ((c1.toNat : Nat) : Int) ≤ 57) ∧ (48 ≤ ((c2.toNat : Nat) : Int) ∧ ((c2.toNat : Nat) : Int) ≤ 57) ∧ (48 ≤ ((c3.toNat : Nat) : Int) ∧ ((c3.toNat : Nat) : Int) ≤ 57) ∧ ((c4.toNat : Nat) : Int) = 45 ∧ (48 ≤ ((c5.toNat : Nat) : Int) ∧ ((c5.toNat : Nat) : Int) ≤ 57) ∧ (48 ≤ ((c6.toNat : Nat) : Int) ∧ ((c6.toNat : Nat) : Int) ≤ 57))) ∨ (i = .int .i64 8 ∧ kk = .int .i64 2 ∧ 2 ≤ g ∧ Hid (N0 = 0 + 1000 * (((c0.toNat : Nat) : Int) - 48) + 100 * (((c1.toNat : Nat) : Int) - 48) + 10 * (((c2.toNat : Nat) : Int) - 48) + 1 * (((c3.toNat : Nat) : Int) - 48) ∧ N1 = 0 + 10 * (((c5.toNat : Nat) : Int) - 48) + 1 * (((c6.toNat : Nat) : Int) - 48) ∧ N2 = 0) ∧ Hid ((48 ≤ ((c0.toNat : Nat) : Int) ∧ ((c0.toNat : Nat) : Int) ≤ 57) ∧ (48 ≤ ((c1.toNat : Nat) : Int) ∧ ((c1.toNat : Nat) : Int) ≤ 57) ∧ (48 ≤ ((c2.toNat : Nat) : Int) ∧ ((c2.toNat : Nat) : Int) ≤ 57) ∧ (48 ≤ ((c3.toNat : Nat) : Int) ∧ ((c3.toNat : Nat) : Int) ≤ 57) ∧ ((c4.toNat : Nat) : Int) = 45 ∧ (48 ≤ ((c5.toNat : Nat) : Int) ∧ ((c5.toNat : Nat) : Int) ≤ 57) ∧ (48 ≤ ((c6.toNat : Nat) : Int) ∧ ((c6.toNat : Nat) : Int) ≤ 57) ∧ ((c7.toNat : Nat) : Int) = 45)) ∨ (i = .int .i64 9 ∧ kk = .int .i64 2 ∧ 1 ≤ g ∧ Hid (N0 = 0 + 1000 * (((c0.toNat : Nat) : Int) - 48) + 100 * (((c1.toNat : Nat) : Int) - 48) + 10 * (((c2.toNat : Nat) : Int) - 48) + 1 * (((c3.toNat : Nat) : Int) - 48) ∧ N1 = 0 + 10 * (((c5.toNat : Nat) : Int) - 48) + 1 * (((c6.toNat : Nat) : Int) - 48) ∧ N2 = 0 + 1 * (((c8.toNat : Nat) : Int) - 48)) ∧ Hid ((48 ≤ ((c0.toNat : Nat) : Int) ∧ ((c0.toNat : Nat) : Int) ≤ 57) ∧ (48 ≤ ((c1.toNat : Nat) : Int) ∧ ((c1.toNat : Nat) : Int) ≤ 57) ∧ (48 ≤ ((c2.toNat : Nat) : Int) ∧ ((c2.toNat : Nat) : Int) ≤ 57) ∧ (48 ≤ ((c3.toNat : Nat) : Int) ∧ ((c3.toNat : Nat) : Int) ≤ 57) ∧ ((c4.toNat : Nat) : Int) = 45 ∧ (48 ≤ ((c5.toNat : Nat) : Int) ∧ ((c5.toNat : Nat) : Int) ≤ 57) ∧ (48 ≤ ((c6.toNat : Nat) : Int) ∧ ((c6.toNat : Nat) : Int) ≤ 57) ∧ ((c7.toNat : Nat) : Int) = 45 ∧ (48 ≤ ((c8.toNat : Nat) : Int) ∧ ((c8.toNat : Nat) : Int) ≤ 57))) ∨ (i = .int .i64 10 ∧ kk = .int .i64 2 ∧ 0 ≤ g ∧ Hid (N0 = 0 + 1000 * (((c0.toNat : Nat) : Int) - 48) + 100 * (((c1.toNat : Nat) : Int) - 48) + 10 * (((c2.toNat : Nat) : Int) - 48) + 1 * (((c3.toNat : Nat) : Int) - 48) ∧ N1 = 0 + 10 * (((c5.toNat : Nat) : Int) - 48) + 1 * (((c6.toNat : Nat) : Int) - 48) ∧ N2 = 0 + 10 * (((c8.toNat : Nat) : Int) - 48) + 1 * (((c9.toNat : Nat) : Int) - 48)) ∧ Hid ((48 ≤ ((c0.toNat : Nat) : Int) ∧ ((c0.toNat : Nat) : Int) ≤ 57) ∧ (48 ≤ ((c1.toNat : Nat) : Int) ∧ ((c1.toNat : Nat) : Int) ≤ 57) ∧ (48 ≤ ((c2.toNat : Nat) : Int) ∧ ((c2.toNat : Nat) : Int) ≤ 57) ∧ (48 ≤ ((c3.toNat : Nat) : Int) ∧ ((c3.toNat : Nat) : Int) ≤ 57) ∧ ((c4.toNat : Nat) : Int) = 45 ∧ (48 ≤ ((c5.toNat : Nat) : Int) ∧ ((c5.toNat : Nat) : Int) ≤ 57) ∧ (48 ≤ ((c6.toNat : Nat) : Int) ∧ ((c6.toNat : Nat) : Int) ≤ 57) ∧ ((c7.toNat : Nat) : Int) = 45 ∧ (48 ≤ ((c8.toNat : Nat) : Int) ∧ ((c8.toNat : Nat) : Int) ≤ 57) ∧ (48 ≤ ((c9.toNat : Nat) : Int) ∧ ((c9.toNat : Nat) : Int) ≤ 57)))))
  case atStart => exact ⟨0, 0, 0, Blk.alloc (Blk.new_at (by simp) 29 _) _, Blk.new_at (by simp) 74 _, b_alloc (b_alloc (Below.refl w.heap.size w) _) _, .inl ⟨rfl, rfl, by omega, Lib.hid ⟨rfl, rfl, rfl⟩, Lib.hid trivial⟩⟩
  case round =>
    obtain ⟨N0, N1, N2, hA, hN, br, ⟨rfl, rfl, hg, hE, hok⟩ | ⟨rfl, rfl, hg, hE, hok⟩ | ⟨rfl, rfl, hg, hE, hok⟩ | ⟨rfl, rfl, hg, hE, hok⟩ | ⟨rfl, rfl, hg, hE, hok⟩ | ⟨rfl, rfl, hg, hE, hok⟩ | ⟨rfl, rfl, hg, hE, hok⟩ | ⟨rfl, rfl, hg, hE, hok⟩ | ⟨rfl, rfl, hg, hE, hok⟩ | ⟨rfl, rfl, hg, hE, hok⟩ | ⟨rfl, rfl, hg, hE, hok⟩⟩ := hrel
    · have kA := hA.cell; have lA := hA.lt; have fA := hA.froz
      by_cases h : 48 ≤ ((c0.toNat : Nat) : Int)
      · have f1 : decide (((c0.toNat : Nat) : Int) < 48) = false := by simp; omega
        by_cases h2 : ((c0.toNat : Nat) : Int) ≤ 57
        · have f2 : decide (57 < ((c0.toNat : Nat) : Int)) = false := by simp; omega
          have f3 : IntKind.u8.wrap (((c0.toNat : Nat) : Int) - 48) = ((c0.toNat : Nat) : Int) - 48 := by rw [IntKind.wrap_u8]; omega
          have f4 : 0 ≤ N0 := by have := hE.out; have := hok.out; omega
          have f5 : N0 ≤ 9999 := by have := hE.out; have := hok.out; omega
          clear kA lA fA
          have qN := hN.lcell
          go_wp2_with fail
          refine wp_later 12 (by kernel_rfl) (by kernel_rfl) ?_
          simp only [List.take_succ_cons, List.take_zero, List.drop_succ_cons, List.drop_zero, List.take_nil, List.drop_nil]
          repeat (go_big_quiet_step (fail))
          refine wpQuiet_nil ?_
          rintro ⟨w4, hb⟩
          change wpList _ _ _ _ _ w4
          clear qN
          have hN2 := hN.below hb
          have hA2 := hA.below hb
          have br2 := b_step br hb
          clear hN hA br hb
          have kN := hN2.cell; have fN := hN2.froz
          go_wp2
          clear kN fN
          go_roundg (gk - 1)
          case measure => omega
          case rel => exact ⟨(N0 * 10 + (((c0.toNat : Nat) : Int) - 48)), N1, N2, hA2.far (by simp) _, by simpa using hN2.set 0 (.int .i64 ((N0 * 10 + (((c0.toNat : Nat) : Int) - 48)))), b_set br2 (by simp), (.inr (.inl ⟨rfl, rfl, by omega, Lib.hid (by have := hE.out; omega), Lib.hid (by have := hok.out; omega)⟩))⟩
        · have f2 : decide (57 < ((c0.toNat : Nat) : Int)) = true := by simp; omega
          go_wp2
          refine bodyPost_ret (v := .tuple #[.agg #[.int .i64 0, .int .i64 0, .int .i64 0], .int .i64 2]) (by simp [results, Tryd.results33, go_sem, kA, lA]) rfl ⟨?_, .inr ⟨fun hf => by unfold fm at hf; omega, rfl⟩⟩
          repeat (first | exact br | refine b_alloc ?_ _ | refine b_set ?_ (by first | (simp; done) | (simp; omega)))
      · have f1 : decide (((c0.toNat : Nat) : Int) < 48) = true := by simp; omega
        go_wp2
        refine bodyPost_ret (v := .tuple #[.agg #[.int .i64 0, .int .i64 0, .int .i64 0], .int .i64 2]) (by simp [results, Tryd.results33, go_sem, kA, lA]) rfl ⟨?_, .inr ⟨fun hf => by unfold fm at hf; omega, rfl⟩⟩
        repeat (first | exact br | refine b_alloc ?_ _ | refine b_set ?_ (by first | (simp; done) | (simp; omega)))
    · have kA := hA.cell; have lA := hA.lt; have fA := hA.froz
      by_cases h : 48 ≤ ((c1.toNat : Nat) : Int)
      · have f1 : decide (((c1.toNat : Nat) : Int) < 48) = false := by simp; omega
        by_cases h2 : ((c1.toNat : Nat) : Int) ≤ 57
        · have f2 : decide (57 < ((c1.toNat : Nat) : Int)) = false := by simp; omega
          have f3 : IntKind.u8.wrap (((c1.toNat : Nat) : Int) - 48) = ((c1.toNat : Nat) : Int) - 48 := by rw [IntKind.wrap_u8]; omega
          have f4 : 0 ≤ N0 := by have := hE.out; have := hok.out; omega
          have f5 : N0 ≤ 9999 := by have := hE.out; have := hok.out; omega
          clear kA lA fA
          have qN := hN.lcell
          go_wp2_with fail
          refine wp_later 12 (by kernel_rfl) (by kernel_rfl) ?_
          simp only [List.take_succ_cons, List.take_zero, List.drop_succ_cons, List.drop_zero, List.take_nil, List.drop_nil]
          repeat (go_big_quiet_step (fail))
          refine wpQuiet_nil ?_
          rintro ⟨w4, hb⟩
          change wpList _ _ _ _ _ w4
          clear qN
          have hN2 := hN.below hb
          have hA2 := hA.below hb
          have br2 := b_step br hb
          clear hN hA br hb
          have kN := hN2.cell; have fN := hN2.froz
          go_wp2
          clear kN fN
          go_roundg (gk - 1)
          case measure => omega
          case rel => exact ⟨(N0 * 10 + (((c1.toNat : Nat) : Int) - 48)), N1, N2, hA2.far (by simp) _, by simpa using hN2.set 0 (.int .i64 ((N0 * 10 + (((c1.toNat : Nat) : Int) - 48)))), b_set br2 (by simp), (.inr (.inr (.inl ⟨rfl, rfl, by omega, Lib.hid (by have := hE.out; omega), Lib.hid (by have := hok.out; omega)⟩)))⟩
        · have f2 : decide (57 < ((c1.toNat : Nat) : Int)) = true := by simp; omega
          go_wp2
          refine bodyPost_ret (v := .tuple #[.agg #[.int .i64 0, .int .i64 0, .int .i64 0], .int .i64 2]) (by simp [results, Tryd.results33, go_sem, kA, lA]) rfl ⟨?_, .inr ⟨fun hf => by unfold fm at hf; omega, rfl⟩⟩
          repeat (first | exact br | refine b_alloc ?_ _ | refine b_set ?_ (by first | (simp; done) | (simp; omega)))
      · have f1 : decide (((c1.toNat : Nat) : Int) < 48) = true := by simp; omega
        go_wp2
        refine bodyPost_ret (v := .tuple #[.agg #[.int .i64 0, .int .i64 0, .int .i64 0], .int .i64 2]) (by simp [results, Tryd.results33, go_sem, kA, lA]) rfl ⟨?_, .inr ⟨fun hf => by unfold fm at hf; omega, rfl⟩⟩
        repeat (first | exact br | refine b_alloc ?_ _ | refine b_set ?_ (by first | (simp; done) | (simp; omega)))
    · have kA := hA.cell; have lA := hA.lt; have fA := hA.froz
      by_cases h : 48 ≤ ((c2.toNat : Nat) : Int)
      · have f1 : decide (((c2.toNat : Nat) : Int) < 48) = false := by simp; omega
        by_cases h2 : ((c2.toNat : Nat) : Int) ≤ 57
        · have f2 : decide (57 < ((c2.toNat : Nat) : Int)) = false := by simp; omega
          have f3 : IntKind.u8.wrap (((c2.toNat : Nat) : Int) - 48) = ((c2.toNat : Nat) : Int) - 48 := by rw [IntKind.wrap_u8]; omega
          have f4 : 0 ≤ N0 := by have := hE.out; have := hok.out; omega
          have f5 : N0 ≤ 9999 := by have := hE.out; have := hok.out; omega
          clear kA lA fA
          have qN := hN.lcell
          go_wp2_with fail
          refine wp_later 12 (by kernel_rfl) (by kernel_rfl) ?_
          simp only [List.take_succ_cons, List.take_zero, List.drop_succ_cons, List.drop_zero, List.take_nil, List.drop_nil]
          repeat (go_big_quiet_step (fail))
          refine wpQuiet_nil ?_
          rintro ⟨w4, hb⟩
          change wpList _ _ _ _ _ w4
          clear qN
          have hN2 := hN.below hb
          have hA2 := hA.below hb
          have br2 := b_step br hb
          clear hN hA br hb
          have kN := hN2.cell; have fN := hN2.froz
          go_wp2
          clear kN fN
          go_roundg (gk - 1)
          case measure => omega
          case rel => exact ⟨(N0 * 10 + (((c2.toNat : Nat) : Int) - 48)), N1, N2, hA2.far (by simp) _, by simpa using hN2.set 0 (.int .i64 ((N0 * 10 + (((c2.toNat : Nat) : Int) - 48)))), b_set br2 (by simp), (.inr (.inr (.inr (.inl ⟨rfl, rfl, by omega, Lib.hid (by have := hE.out; omega), Lib.hid (by have := hok.out; omega)⟩))))⟩
        · have f2 : decide (57 < ((c2.toNat : Nat) : Int)) = true := by simp; omega
          go_wp2
          refine bodyPost_ret (v := .tuple #[.agg #[.int .i64 0, .int .i64 0, .int .i64 0], .int .i64 2]) (by simp [results, Tryd.results33, go_sem, kA, lA]) rfl ⟨?_, .inr ⟨fun hf => by unfold fm at hf; omega, rfl⟩⟩
          repeat (first | exact br | refine b_alloc ?_ _ | refine b_set ?_ (by first | (simp; done) | (simp; omega)))
      · have f1 : decide (((c2.toNat : Nat) : Int) < 48) = true := by simp; omega
        go_wp2
        refine bodyPost_ret (v := .tuple #[.agg #[.int .i64 0, .int .i64 0, .int .i64 0], .int .i64 2]) (by simp [results, Tryd.results33, go_sem, kA, lA]) rfl ⟨?_, .inr ⟨fun hf => by unfold fm at hf; omega, rfl⟩⟩
        repeat (first | exact br | refine b_alloc ?_ _ | refine b_set ?_ (by first | (simp; done) | (simp; omega)))
    · have kA := hA.cell; have lA := hA.lt; have fA := hA.froz
      by_cases h : 48 ≤ ((c3.toNat : Nat) : Int)
      · have f1 : decide (((c3.toNat : Nat) : Int) < 48) = false := by simp; omega
        by_cases h2 : ((c3.toNat : Nat) : Int) ≤ 57
        · have f2 : decide (57 < ((c3.toNat : Nat) : Int)) = false := by simp; omega
          have f3 : IntKind.u8.wrap (((c3.toNat : Nat) : Int) - 48) = ((c3.toNat : Nat) : Int) - 48 := by rw [IntKind.wrap_u8]; omega
          have f4 : 0 ≤ N0 := by have := hE.out; have := hok.out; omega
          have f5 : N0 ≤ 9999 := by have := hE.out; have := hok.out; omega
          clear kA lA fA
          have qN := hN.lcell
          go_wp2_with fail
          refine wp_later 12 (by kernel_rfl) (by kernel_rfl) ?_
          simp only [List.take_succ_cons, List.take_zero, List.drop_succ_cons, List.drop_zero, List.take_nil, List.drop_nil]
          repeat (go_big_quiet_step (fail))
          refine wpQuiet_nil ?_
          rintro ⟨w4, hb⟩
          change wpList _ _ _ _ _ w4
          clear qN
          have hN2 := hN.below hb
          have hA2 := hA.below hb
          have br2 := b_step br hb
          clear hN hA br hb
          have kN := hN2.cell; have fN := hN2.froz
          go_wp2
          clear kN fN
          go_roundg (gk - 1)
          case measure => omega
          case rel => exact ⟨(N0 * 10 + (((c3.toNat : Nat) : Int) - 48)), N1, N2, hA2.far (by simp) _, by simpa using hN2.set 0 (.int .i64 ((N0 * 10 + (((c3.toNat : Nat) : Int) - 48)))), b_set br2 (by simp), (.inr (.inr (.inr (.inr (.inl ⟨rfl, rfl, by omega, Lib.hid (by have := hE.out; omega), Lib.hid (by have := hok.out; omega)⟩)))))⟩
        · have f2 : decide (57 < ((c3.toNat : Nat) : Int)) = true := by simp; omega
          go_wp2
          refine bodyPost_ret (v := .tuple #[.agg #[.int .i64 0, .int .i64 0, .int .i64 0], .int .i64 2]) (by simp [results, Tryd.results33, go_sem, kA, lA]) rfl ⟨?_, .inr ⟨fun hf => by unfold fm at hf; omega, rfl⟩⟩
          repeat (first | exact br | refine b_alloc ?_ _ | refine b_set ?_ (by first | (simp; done) | (simp; omega)))
      · have f1 : decide (((c3.toNat : Nat) : Int) < 48) = true := by simp; omega
        go_wp2
        refine bodyPost_ret (v := .tuple #[.agg #[.int .i64 0, .int .i64 0, .int .i64 0], .int .i64 2]) (by simp [results, Tryd.results33, go_sem, kA, lA]) rfl ⟨?_, .inr ⟨fun hf => by unfold fm at hf; omega, rfl⟩⟩
        repeat (first | exact br | refine b_alloc ?_ _ | refine b_set ?_ (by first | (simp; done) | (simp; omega)))
    · have kA := hA.cell; have lA := hA.lt; have fA := hA.froz
      by_cases h : ((c4.toNat : Nat) : Int) = 45
      · have f1 : (((c4.toNat : Nat) : Int) == 45) = true := by simpa using h
        go_wp2
        go_roundg (gk - 1)
        case measure => omega
        case rel => exact ⟨N0, N1, N2, hA, hN, br, (.inr (.inr (.inr (.inr (.inr (.inl ⟨rfl, rfl, by omega, hE, Lib.hid (by have := hok.out; omega)⟩))))))⟩
      · have f1 : (((c4.toNat : Nat) : Int) == 45) = false := by simpa using h
        go_wp2
        refine bodyPost_ret (v := .tuple #[.agg #[.int .i64 0, .int .i64 0, .int .i64 0], .int .i64 2]) (by simp [results, Tryd.results33, go_sem, kA, lA]) rfl ⟨?_, .inr ⟨fun hf => by unfold fm at hf; omega, rfl⟩⟩
        repeat (first | exact br | refine b_alloc ?_ _ | refine b_set ?_ (by first | (simp; done) | (simp; omega)))
    · have kA := hA.cell; have lA := hA.lt; have fA := hA.froz
      by_cases h : 48 ≤ ((c5.toNat : Nat) : Int)
      · have f1 : decide (((c5.toNat : Nat) : Int) < 48) = false := by simp; omega
        by_cases h2 : ((c5.toNat : Nat) : Int) ≤ 57
        · have f2 : decide (57 < ((c5.toNat : Nat) : Int)) = false := by simp; omega
          have f3 : IntKind.u8.wrap (((c5.toNat : Nat) : Int) - 48) = ((c5.toNat : Nat) : Int) - 48 := by rw [IntKind.wrap_u8]; omega
          have f4 : 0 ≤ N1 := by have := hE.out; have := hok.out; omega
          have f5 : N1 ≤ 9999 := by have := hE.out; have := hok.out; omega
          clear kA lA fA
          have qN := hN.lcell
          go_wp2_with fail
          refine wp_later 12 (by kernel_rfl) (by kernel_rfl) ?_
          simp only [List.take_succ_cons, List.take_zero, List.drop_succ_cons, List.drop_zero, List.take_nil, List.drop_nil]
          repeat (go_big_quiet_step (fail))
          refine wpQuiet_nil ?_
          rintro ⟨w4, hb⟩
          change wpList _ _ _ _ _ w4
          clear qN
          have hN2 := hN.below hb
          have hA2 := hA.below hb
          have br2 := b_step br hb
          clear hN hA br hb
          have kN := hN2.cell; have fN := hN2.froz
          go_wp2
          clear kN fN
          go_roundg (gk - 1)
          case measure => omega
          case rel => exact ⟨N0, (N1 * 10 + (((c5.toNat : Nat) : Int) - 48)), N2, hA2.far (by simp) _, by simpa using hN2.set 1 (.int .i64 ((N1 * 10 + (((c5.toNat : Nat) : Int) - 48)))), b_set br2 (by simp), (.inr (.inr (.inr (.inr (.inr (.inr (.inl ⟨rfl, rfl, by omega, Lib.hid (by have := hE.out; omega), Lib.hid (by have := hok.out; omega)⟩)))))))⟩
        · have f2 : decide (57 < ((c5.toNat : Nat) : Int)) = true := by simp; omega
          go_wp2
          refine bodyPost_ret (v := .tuple #[.agg #[.int .i64 0, .int .i64 0, .int .i64 0], .int .i64 2]) (by simp [results, Tryd.results33, go_sem, kA, lA]) rfl ⟨?_, .inr ⟨fun hf => by unfold fm at hf; omega, rfl⟩⟩
          repeat (first | exact br | refine b_alloc ?_ _ | refine b_set ?_ (by first | (simp; done) | (simp; omega)))
      · have f1 : decide (((c5.toNat : Nat) : Int) < 48) = true := by simp; omega
        go_wp2
        refine bodyPost_ret (v := .tuple #[.agg #[.int .i64 0, .int .i64 0, .int .i64 0], .int .i64 2]) (by simp [results, Tryd.results33, go_sem, kA, lA]) rfl ⟨?_, .inr ⟨fun hf => by unfold fm at hf; omega, rfl⟩⟩
        repeat (first | exact br | refine b_alloc ?_ _ | refine b_set ?_ (by first | (simp; done) | (simp; omega)))
    · have kA := hA.cell; have lA := hA.lt; have fA := hA.froz
      by_cases h : 48 ≤ ((c6.toNat : Nat) : Int)
      · have f1 : decide (((c6.toNat : Nat) : Int) < 48) = false := by simp; omega
        by_cases h2 : ((c6.toNat : Nat) : Int) ≤ 57
        · have f2 : decide (57 < ((c6.toNat : Nat) : Int)) = false := by simp; omega
          have f3 : IntKind.u8.wrap (((c6.toNat : Nat) : Int) - 48) = ((c6.toNat : Nat) : Int) - 48 := by rw [IntKind.wrap_u8]; omega
          have f4 : 0 ≤ N1 := by have := hE.out; have := hok.out; omega
          have f5 : N1 ≤ 9999 := by have := hE.out; have := hok.out; omega
          clear kA lA fA
          have qN := hN.lcell
          go_wp2_with fail
          refine wp_later 12 (by kernel_rfl) (by kernel_rfl) ?_
          simp only [List.take_succ_cons, List.take_zero, List.drop_succ_cons, List.drop_zero, List.take_nil, List.drop_nil]
          repeat (go_big_quiet_step (fail))
          refine wpQuiet_nil ?_
          rintro ⟨w4, hb⟩
          change wpList _ _ _ _ _ w4
          clear qN
          have hN2 := hN.below hb
          have hA2 := hA.below hb
          have br2 := b_step br hb
          clear hN hA br hb
          have kN := hN2.cell; have fN := hN2.froz
          go_wp2
          clear kN fN
          go_roundg (gk - 1)
          case measure => omega
          case rel => exact ⟨N0, (N1 * 10 + (((c6.toNat : Nat) : Int) - 48)), N2, hA2.far (by simp) _, by simpa using hN2.set 1 (.int .i64 ((N1 * 10 + (((c6.toNat : Nat) : Int) - 48)))), b_set br2 (by simp), (.inr (.inr (.inr (.inr (.inr (.inr (.inr (.inl ⟨rfl, rfl, by omega, Lib.hid (by have := hE.out; omega), Lib.hid (by have := hok.out; omega)⟩))))))))⟩
        · have f2 : decide (57 < ((c6.toNat : Nat) : Int)) = true := by simp; omega
          go_wp2
          refine bodyPost_ret (v := .tuple #[.agg #[.int .i64 0, .int .i64 0, .int .i64 0], .int .i64 2]) (by simp [results, Tryd.results33, go_sem, kA, lA]) rfl ⟨?_, .inr ⟨fun hf => by unfold fm at hf; omega, rfl⟩⟩
          repeat (first | exact br | refine b_alloc ?_ _ | refine b_set ?_ (by first | (simp; done) | (simp; omega)))
      · have f1 : decide (((c6.toNat : Nat) : Int) < 48) = true := by simp; omega
        go_wp2
        refine bodyPost_ret (v := .tuple #[.agg #[.int .i64 0, .int .i64 0, .int .i64 0], .int .i64 2]) (by simp [results, Tryd.results33, go_sem, kA, lA]) rfl ⟨?_, .inr ⟨fun hf => by unfold fm at hf; omega, rfl⟩⟩
        repeat (first | exact br | refine b_alloc ?_ _ | refine b_set ?_ (by first | (simp; done) | (simp; omega)))
    · have kA := hA.cell; have lA := hA.lt; have fA := hA.froz
      by_cases h : ((c7.toNat : Nat) : Int) = 45
      · have f1 : (((c7.toNat : Nat) : Int) == 45) = true := by simpa using h
        go_wp2
        go_roundg (gk - 1)
        case measure => omega
        case rel => exact ⟨N0, N1, N2, hA, hN, br, (.inr (.inr (.inr (.inr (.inr (.inr (.inr (.inr (.inl ⟨rfl, rfl, by omega, hE, Lib.hid (by have := hok.out; omega)⟩)))))))))⟩
      · have f1 : (((c7.toNat : Nat) : Int) == 45) = false := by simpa using h
        go_wp2
        refine bodyPost_ret (v := .tuple #[.agg #[.int .i64 0, .int .i64 0, .int .i64 0], .int .i64 2]) (by simp [results, Tryd.results33, go_sem, kA, lA]) rfl ⟨?_, .inr ⟨fun hf => by unfold fm at hf; omega, rfl⟩⟩
        repeat (first | exact br | refine b_alloc ?_ _ | refine b_set ?_ (by first | (simp; done) | (simp; omega)))
    · have kA := hA.cell; have lA := hA.lt; have fA := hA.froz
      by_cases h : 48 ≤ ((c8.toNat : Nat) : Int)
      · have f1 : decide (((c8.toNat : Nat) : Int) < 48) = false := by simp; omega
        by_cases h2 : ((c8.toNat : Nat) : Int) ≤ 57
        · have f2 : decide (57 < ((c8.toNat : Nat) : Int)) = false := by simp; omega
          have f3 : IntKind.u8.wrap (((c8.toNat : Nat) : Int) - 48) = ((c8.toNat : Nat) : Int) - 48 := by rw [IntKind.wrap_u8]; omega
          have f4 : 0 ≤ N2 := by have := hE.out; have := hok.out; omega
          have f5 : N2 ≤ 9999 := by have := hE.out; have := hok.out; omega
          clear kA lA fA
          have qN := hN.lcell
          go_wp2_with fail
          refine wp_later 12 (by kernel_rfl) (by kernel_rfl) ?_
          simp only [List.take_succ_cons, List.take_zero, List.drop_succ_cons, List.drop_zero, List.take_nil, List.drop_nil]
          repeat (go_big_quiet_step (fail))
          refine wpQuiet_nil ?_
          rintro ⟨w4, hb⟩
          change wpList _ _ _ _ _ w4
          clear qN
          have hN2 := hN.below hb
          have hA2 := hA.below hb
          have br2 := b_step br hb
          clear hN hA br hb
          have kN := hN2.cell; have fN := hN2.froz
          go_wp2
          clear kN fN
          go_roundg (gk - 1)
          case measure => omega
          case rel => exact ⟨N0, N1, (N2 * 10 + (((c8.toNat : Nat) : Int) - 48)), hA2.far (by simp) _, by simpa using hN2.set 2 (.int .i64 ((N2 * 10 + (((c8.toNat : Nat) : Int) - 48)))), b_set br2 (by simp), (.inr (.inr (.inr (.inr (.inr (.inr (.inr (.inr (.inr (.inl ⟨rfl, rfl, by omega, Lib.hid (by have := hE.out; omega), Lib.hid (by have := hok.out; omega)⟩))))))))))⟩
        · have f2 : decide (57 < ((c8.toNat : Nat) : Int)) = true := by simp; omega
          go_wp2
          refine bodyPost_ret (v := .tuple #[.agg #[.int .i64 0, .int .i64 0, .int .i64 0], .int .i64 2]) (by simp [results, Tryd.results33, go_sem, kA, lA]) rfl ⟨?_, .inr ⟨fun hf => by unfold fm at hf; omega, rfl⟩⟩
          repeat (first | exact br | refine b_alloc ?_ _ | refine b_set ?_ (by first | (simp; done) | (simp; omega)))
      · have f1 : decide (((c8.toNat : Nat) : Int) < 48) = true := by simp; omega
        go_wp2
        refine bodyPost_ret (v := .tuple #[.agg #[.int .i64 0, .int .i64 0, .int .i64 0], .int .i64 2]) (by simp [results, Tryd.results33, go_sem, kA, lA]) rfl ⟨?_, .inr ⟨fun hf => by unfold fm at hf; omega, rfl⟩⟩
        repeat (first | exact br | refine b_alloc ?_ _ | refine b_set ?_ (by first | (simp; done) | (simp; omega)))
    · have kA := hA.cell; have lA := hA.lt; have fA := hA.froz
      by_cases h : 48 ≤ ((c9.toNat : Nat) : Int)
      · have f1 : decide (((c9.toNat : Nat) : Int) < 48) = false := by simp; omega
        by_cases h2 : ((c9.toNat : Nat) : Int) ≤ 57
        · have f2 : decide (57 < ((c9.toNat : Nat) : Int)) = false := by simp; omega
          have f3 : IntKind.u8.wrap (((c9.toNat : Nat) : Int) - 48) = ((c9.toNat : Nat) : Int) - 48 := by rw [IntKind.wrap_u8]; omega
          have f4 : 0 ≤ N2 := by have := hE.out; have := hok.out; omega
          have f5 : N2 ≤ 9999 := by have := hE.out; have := hok.out; omega
          clear kA lA fA
          have qN := hN.lcell
          go_wp2_with fail
          refine wp_later 12 (by kernel_rfl) (by kernel_rfl) ?_
          simp only [List.take_succ_cons, List.take_zero, List.drop_succ_cons, List.drop_zero, List.take_nil, List.drop_nil]
          repeat (go_big_quiet_step (fail))
          refine wpQuiet_nil ?_
          rintro ⟨w4, hb⟩
          change wpList _ _ _ _ _ w4
          clear qN
          have hN2 := hN.below hb
          have hA2 := hA.below hb
          have br2 := b_step br hb
          clear hN hA br hb
          have kN := hN2.cell; have fN := hN2.froz
          go_wp2
          clear kN fN
          go_roundg (gk - 1)
          case measure => omega
          case rel => exact ⟨N0, N1, (N2 * 10 + (((c9.toNat : Nat) : Int) - 48)), hA2.far (by simp) _, by simpa using hN2.set 2 (.int .i64 ((N2 * 10 + (((c9.toNat : Nat) : Int) - 48)))), b_set br2 (by simp), (.inr (.inr (.inr (.inr (.inr (.inr (.inr (.inr (.inr (.inr ⟨rfl, rfl, by omega, Lib.hid (by have := hE.out; omega), Lib.hid (by have := hok.out; omega)⟩))))))))))⟩
        · have f2 : decide (57 < ((c9.toNat : Nat) : Int)) = true := by simp; omega
          go_wp2
          refine bodyPost_ret (v := .tuple #[.agg #[.int .i64 0, .int .i64 0, .int .i64 0], .int .i64 2]) (by simp [results, Tryd.results33, go_sem, kA, lA]) rfl ⟨?_, .inr ⟨fun hf => by unfold fm at hf; omega, rfl⟩⟩
          repeat (first | exact br | refine b_alloc ?_ _ | refine b_set ?_ (by first | (simp; done) | (simp; omega)))
      · have f1 : decide (((c9.toNat : Nat) : Int) < 48) = true := by simp; omega
        go_wp2
        refine bodyPost_ret (v := .tuple #[.agg #[.int .i64 0, .int .i64 0, .int .i64 0], .int .i64 2]) (by simp [results, Tryd.results33, go_sem, kA, lA]) rfl ⟨?_, .inr ⟨fun hf => by unfold fm at hf; omega, rfl⟩⟩
        repeat (first | exact br | refine b_alloc ?_ _ | refine b_set ?_ (by first | (simp; done) | (simp; omega)))
    · have e0 : nOf c0 c1 c2 c3 c4 c5 c6 c7 c8 c9 / 10000 = N0 := by have := hE.out; have := hok.out; unfold nOf; omega
      have e1 : nOf c0 c1 c2 c3 c4 c5 c6 c7 c8 c9 / 100 % 100 = N1 := by have := hE.out; have := hok.out; unfold nOf; omega
      have e2 : nOf c0 c1 c2 c3 c4 c5 c6 c7 c8 c9 % 100 = N2 := by have := hE.out; have := hok.out; unfold nOf; omega
      have hf : fm c0 c1 c2 c3 c4 c5 c6 c7 c8 c9 := by have := hok.out; unfold fm; omega
      clear hE hok
      have kN := hN.cell; have lN := hN.lt
      have kA := hA.cell; have lA := hA.lt; have fA := hA.froz
      have EE : ∀ b, goodB N0 N1 N2 = b → goodB (nOf c0 c1 c2 c3 c4 c5 c6 c7 c8 c9 / 10000) (nOf c0 c1 c2 c3 c4 c5 c6 c7 c8 c9 / 100 % 100) (nOf c0 c1 c2 c3 c4 c5 c6 c7 c8 c9 % 100) = b := by rw [e0, e1, e2]; exact fun _ h => h
      replace e0 := Lib.hid e0; replace e1 := Lib.hid e1; replace e2 := Lib.hid e2
      cases hg2 : goodB N0 N1 N2 with
      | true =>
        have hG := Lib.hid hg2; clear hg2
        go_wp2_with fail
        refine (goodr_is hG _).mono ?_
        rintro e w2 ⟨rfl, hb⟩
        have hX := ((Blk.new_at (w := wr) (g := wr.heap.size) (by simp) 29 #[.int .i64 N0, .int .i64 N1, .int .i64 N2])).below hb; have kX := hX.cell; have lX := hX.lt; have fX := hX.froz
        have hA := (hA.alloc _).below hb; clear kA lA fA kN lN; have kA := hA.cell; have lA := hA.lt; have fA := hA.froz
        have b2 := b_step (b_alloc br _) hb; clear hb
        go_wp2
        refine bodyPost_ret (v := .tuple #[.agg #[.int .i64 N0, .int .i64 N1, .int .i64 N2], .int .i64 0]) (by simp [results, Tryd.results33, go_sem, kA, lA]) rfl ⟨?_, .inl ⟨hf, _, rfl, .inl ⟨EE _ hG.out, by rw [e0.out, e1.out, e2.out]⟩⟩⟩
        repeat (first | exact b2 | refine b_alloc ?_ _ | refine b_set ?_ (by first | (simp; done) | (simp; omega)))
      | false =>
        have hG := Lib.hid hg2; clear hg2
        go_wp2_with fail
        refine (goodr_is hG _).mono ?_
        rintro e w2 ⟨rfl, hb⟩
        have hX := ((Blk.new_at (w := wr) (g := wr.heap.size) (by simp) 29 #[.int .i64 N0, .int .i64 N1, .int .i64 N2])).below hb; have kX := hX.cell; have lX := hX.lt; have fX := hX.froz
        have hA := (hA.alloc _).below hb; clear kA lA fA kN lN; have kA := hA.cell; have lA := hA.lt; have fA := hA.froz
        have b2 := b_step (b_alloc br _) hb; clear hb
        go_wp2
        refine bodyPost_ret (v := .tuple #[.agg #[.int .i64 0, .int .i64 0, .int .i64 0], .int .i64 70]) (by simp [results, Tryd.results33, go_sem, kA, lA]) rfl ⟨?_, .inl ⟨hf, _, rfl, .inr ⟨EE _ hG.out, rfl⟩⟩⟩
        repeat (first | exact b2 | refine b_alloc ?_ _ | refine b_set ?_ (by first | (simp; done) | (simp; omega)))
end Go.Proofs.YtolgljionpalkaaDoor
