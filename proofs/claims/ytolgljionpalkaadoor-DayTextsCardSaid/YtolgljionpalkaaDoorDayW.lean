/- put, Text. -/
import Derived.Test.YtolgljionpalkaaDoorDayV
set_option linter.unusedSimpArgs false
set_option linter.unusedVariables false
namespace Go.Proofs.YtolgljionpalkaaDoor
open Go.RowKit Go.BigFrame
/-- a digit's byte, as a number -/
def dI (n u : Int) : Int := 48 + n / u % 10
theorem dI_bd (n u : Int) : 48 ≤ dI n u ∧ dI n u ≤ 57 := by unfold dI; omega
theorem infoU8 : (Tryd.prog.info? 5).map (fun i => (i.zero, i.size, i.bytes)) = some (some (.int .u8 0), 1, 1) := by kernel_rfl
theorem tdiv_u (n u : Int) (h : 0 ≤ n) : n.tdiv u = n / u := Int.tdiv_eq_ediv_of_nonneg h
set_option maxHeartbeats 4000000 in
theorem put4 {B l : Nat} {v : Value} {xs : List Value} (n : Int) (hn : 0 ≤ n ∧ n ≤ 9999) (hl : l ≤ 1000) (w : World) (hB : B ≤ w.heap.size) (hown : w.ownsRow B 5 1 v l xs) :
    Calls Tryd.prog 53 #[v, .int .i64 n, .int .i64 4] w fun e w' => ∃ v', e = .returned v' ∧ w'.ownsRow B 5 1 v' (l + 4) (xs ++ [.int .u8 (dI n 1000), .int .u8 (dI n 100), .int .u8 (dI n 10), .int .u8 (dI n 1)]) ∧ Below B w w' := by
  obtain ⟨i0, hi, hz0, hz1, hz2⟩ := info_parts infoU8
  have d1000 : IntKind.u8.wrap (48 + (n / 1000).tmod 10) = dI n 1000 := by unfold dI; rw [Int.tmod_eq_emod_of_nonneg (by omega), IntKind.wrap_u8]; omega
  have d100 : IntKind.u8.wrap (48 + (n / 100).tmod 10) = dI n 100 := by unfold dI; rw [Int.tmod_eq_emod_of_nonneg (by omega), IntKind.wrap_u8]; omega
  have d10 : IntKind.u8.wrap (48 + (n / 10).tmod 10) = dI n 10 := by unfold dI; rw [Int.tmod_eq_emod_of_nonneg (by omega), IntKind.wrap_u8]; omega
  have d1 : IntKind.u8.wrap (48 + (n / 1).tmod 10) = dI n 1 := by unfold dI; rw [Int.tmod_eq_emod_of_nonneg (by omega), IntKind.wrap_u8]; omega
  have hn0 : 0 ≤ n := hn.1
  have tdv := fun u => tdiv_u n u hn0
  go_enter Tryd.func53, Tryd.ntmps53
  go_wp2
  go_loopg [0, 7] 4 (fun g v i wr => Below B w wr ∧ ((i = .int .i64 1000 ∧ 4 ≤ g ∧ wr.ownsRow B 5 1 v (l + 0) (xs ++ [])) ∨ (i = .int .i64 100 ∧ 3 ≤ g ∧ wr.ownsRow B 5 1 v (l + 1) (xs ++ [.int .u8 (dI n 1000)])) ∨ (i = .int .i64 10 ∧ 2 ≤ g ∧ wr.ownsRow B 5 1 v (l + 2) (xs ++ [.int .u8 (dI n 1000), .int .u8 (dI n 100)])) ∨ (i = .int .i64 1 ∧ 1 ≤ g ∧ wr.ownsRow B 5 1 v (l + 3) (xs ++ [.int .u8 (dI n 1000), .int .u8 (dI n 100), .int .u8 (dI n 10)])) ∨ (i = .int .i64 0 ∧ 0 ≤ g ∧ wr.ownsRow B 5 1 v (l + 4) (xs ++ [.int .u8 (dI n 1000), .int .u8 (dI n 100), .int .u8 (dI n 10), .int .u8 (dI n 1)]))))
  case atStart => exact ⟨(Below.refl B w).alloc hB _, .inl ⟨rfl, by omega, by simpa using hown.alloc _⟩⟩
  case round =>
    clear hown
    obtain ⟨br, ⟨rfl, hg, hown⟩ | ⟨rfl, hg, hown⟩ | ⟨rfl, hg, hown⟩ | ⟨rfl, hg, hown⟩ | ⟨rfl, hg, hown⟩⟩ := hrel
    · have bs := br.size
      go_wp2_with (at_builtin; refine wpList_append_own _ rfl _ _ 72 rfl B 5 i0 (.int .u8 0) 1 1 Tryd.underlying72 hi hz0 hz1 hz2 rfl (by decide) _ _ _ rfl (hown.alloc _) ⟨World.heap _ |>.size, 0, none⟩ 1 1 [.int .u8 (dI n 1000)] rfl rfl ?c1 ?c2 ?c3 ?c4 ?c5 ?_)
      case c1 =>
        intro j u hj
        match j, hj with
        | 0, hj => simp at hj; subst hj; simp [Addr.add, dI]
      case c2 => intro u hu; simp at hu; subst hu; rfl
      case c3 => unfold maxLen; omega
      case c4 => omega
      case c5 => simp; omega
      intro v' w22 hown' hgrow _
      have br2 := (br.alloc (by omega) _).grown hgrow (by simp; omega) (fun k hk => (hown.lt k hk).1)
      clear hown hgrow br
      go_wp2
      go_roundg (gk - 1)
      case measure => omega
      case rel => exact ⟨br2, (.inr (.inl ⟨rfl, by omega, by simpa [List.append_assoc, Nat.add_assoc] using hown'⟩))⟩
    · have bs := br.size
      go_wp2_with (at_builtin; refine wpList_append_own _ rfl _ _ 72 rfl B 5 i0 (.int .u8 0) 1 1 Tryd.underlying72 hi hz0 hz1 hz2 rfl (by decide) _ _ _ rfl (hown.alloc _) ⟨World.heap _ |>.size, 0, none⟩ 1 1 [.int .u8 (dI n 100)] rfl rfl ?c1 ?c2 ?c3 ?c4 ?c5 ?_)
      case c1 =>
        intro j u hj
        match j, hj with
        | 0, hj => simp at hj; subst hj; simp [Addr.add, dI]
      case c2 => intro u hu; simp at hu; subst hu; rfl
      case c3 => unfold maxLen; omega
      case c4 => omega
      case c5 => simp; omega
      intro v' w22 hown' hgrow _
      have br2 := (br.alloc (by omega) _).grown hgrow (by simp; omega) (fun k hk => (hown.lt k hk).1)
      clear hown hgrow br
      go_wp2
      go_roundg (gk - 1)
      case measure => omega
      case rel => exact ⟨br2, (.inr (.inr (.inl ⟨rfl, by omega, by simpa [List.append_assoc, Nat.add_assoc] using hown'⟩)))⟩
    · have bs := br.size
      go_wp2_with (at_builtin; refine wpList_append_own _ rfl _ _ 72 rfl B 5 i0 (.int .u8 0) 1 1 Tryd.underlying72 hi hz0 hz1 hz2 rfl (by decide) _ _ _ rfl (hown.alloc _) ⟨World.heap _ |>.size, 0, none⟩ 1 1 [.int .u8 (dI n 10)] rfl rfl ?c1 ?c2 ?c3 ?c4 ?c5 ?_)
      case c1 =>
        intro j u hj
        match j, hj with
        | 0, hj => simp at hj; subst hj; simp [Addr.add, dI]
      case c2 => intro u hu; simp at hu; subst hu; rfl
      case c3 => unfold maxLen; omega
      case c4 => omega
      case c5 => simp; omega
      intro v' w22 hown' hgrow _
      have br2 := (br.alloc (by omega) _).grown hgrow (by simp; omega) (fun k hk => (hown.lt k hk).1)
      clear hown hgrow br
      go_wp2
      go_roundg (gk - 1)
      case measure => omega
      case rel => exact ⟨br2, (.inr (.inr (.inr (.inl ⟨rfl, by omega, by simpa [List.append_assoc, Nat.add_assoc] using hown'⟩))))⟩
    · have bs := br.size
      go_wp2_with (at_builtin; refine wpList_append_own _ rfl _ _ 72 rfl B 5 i0 (.int .u8 0) 1 1 Tryd.underlying72 hi hz0 hz1 hz2 rfl (by decide) _ _ _ rfl (hown.alloc _) ⟨World.heap _ |>.size, 0, none⟩ 1 1 [.int .u8 (dI n 1)] rfl rfl ?c1 ?c2 ?c3 ?c4 ?c5 ?_)
      case c1 =>
        intro j u hj
        match j, hj with
        | 0, hj => simp at hj; subst hj; simp [Addr.add, dI]
      case c2 => intro u hu; simp at hu; subst hu; rfl
      case c3 => unfold maxLen; omega
      case c4 => omega
      case c5 => simp; omega
      intro v' w22 hown' hgrow _
      have br2 := (br.alloc (by omega) _).grown hgrow (by simp; omega) (fun k hk => (hown.lt k hk).1)
      clear hown hgrow br
      go_wp2
      go_roundg (gk - 1)
      case measure => omega
      case rel => exact ⟨br2, (.inr (.inr (.inr (.inr ⟨rfl, by omega, by simpa [List.append_assoc, Nat.add_assoc] using hown'⟩))))⟩
    · go_wp2
      go_ret
      exact ⟨_, rfl, hown, br⟩
set_option maxHeartbeats 4000000 in
theorem put2 {B l : Nat} {v : Value} {xs : List Value} (n : Int) (hn : 0 ≤ n ∧ n ≤ 9999) (hl : l ≤ 1000) (w : World) (hB : B ≤ w.heap.size) (hown : w.ownsRow B 5 1 v l xs) :
    Calls Tryd.prog 53 #[v, .int .i64 n, .int .i64 2] w fun e w' => ∃ v', e = .returned v' ∧ w'.ownsRow B 5 1 v' (l + 2) (xs ++ [.int .u8 (dI n 10), .int .u8 (dI n 1)]) ∧ Below B w w' := by
  obtain ⟨i0, hi, hz0, hz1, hz2⟩ := info_parts infoU8
  have d10 : IntKind.u8.wrap (48 + (n / 10).tmod 10) = dI n 10 := by unfold dI; rw [Int.tmod_eq_emod_of_nonneg (by omega), IntKind.wrap_u8]; omega
  have d1 : IntKind.u8.wrap (48 + (n / 1).tmod 10) = dI n 1 := by unfold dI; rw [Int.tmod_eq_emod_of_nonneg (by omega), IntKind.wrap_u8]; omega
  have hn0 : 0 ≤ n := hn.1
  have tdv := fun u => tdiv_u n u hn0
  go_enter Tryd.func53, Tryd.ntmps53
  go_wp2
  go_loopg [0, 7] 2 (fun g v i wr => Below B w wr ∧ ((i = .int .i64 10 ∧ 2 ≤ g ∧ wr.ownsRow B 5 1 v (l + 0) (xs ++ [])) ∨ (i = .int .i64 1 ∧ 1 ≤ g ∧ wr.ownsRow B 5 1 v (l + 1) (xs ++ [.int .u8 (dI n 10)])) ∨ (i = .int .i64 0 ∧ 0 ≤ g ∧ wr.ownsRow B 5 1 v (l + 2) (xs ++ [.int .u8 (dI n 10), .int .u8 (dI n 1)]))))
  case atStart => exact ⟨(Below.refl B w).alloc hB _, .inl ⟨rfl, by omega, by simpa using hown.alloc _⟩⟩
  case round =>
    clear hown
    obtain ⟨br, ⟨rfl, hg, hown⟩ | ⟨rfl, hg, hown⟩ | ⟨rfl, hg, hown⟩⟩ := hrel
    · have bs := br.size
      go_wp2_with (at_builtin; refine wpList_append_own _ rfl _ _ 72 rfl B 5 i0 (.int .u8 0) 1 1 Tryd.underlying72 hi hz0 hz1 hz2 rfl (by decide) _ _ _ rfl (hown.alloc _) ⟨World.heap _ |>.size, 0, none⟩ 1 1 [.int .u8 (dI n 10)] rfl rfl ?c1 ?c2 ?c3 ?c4 ?c5 ?_)
      case c1 =>
        intro j u hj
        match j, hj with
        | 0, hj => simp at hj; subst hj; simp [Addr.add, dI]
      case c2 => intro u hu; simp at hu; subst hu; rfl
      case c3 => unfold maxLen; omega
      case c4 => omega
      case c5 => simp; omega
      intro v' w22 hown' hgrow _
      have br2 := (br.alloc (by omega) _).grown hgrow (by simp; omega) (fun k hk => (hown.lt k hk).1)
      clear hown hgrow br
      go_wp2
      go_roundg (gk - 1)
      case measure => omega
      case rel => exact ⟨br2, (.inr (.inl ⟨rfl, by omega, by simpa [List.append_assoc, Nat.add_assoc] using hown'⟩))⟩
    · have bs := br.size
      go_wp2_with (at_builtin; refine wpList_append_own _ rfl _ _ 72 rfl B 5 i0 (.int .u8 0) 1 1 Tryd.underlying72 hi hz0 hz1 hz2 rfl (by decide) _ _ _ rfl (hown.alloc _) ⟨World.heap _ |>.size, 0, none⟩ 1 1 [.int .u8 (dI n 1)] rfl rfl ?c1 ?c2 ?c3 ?c4 ?c5 ?_)
      case c1 =>
        intro j u hj
        match j, hj with
        | 0, hj => simp at hj; subst hj; simp [Addr.add, dI]
      case c2 => intro u hu; simp at hu; subst hu; rfl
      case c3 => unfold maxLen; omega
      case c4 => omega
      case c5 => simp; omega
      intro v' w22 hown' hgrow _
      have br2 := (br.alloc (by omega) _).grown hgrow (by simp; omega) (fun k hk => (hown.lt k hk).1)
      clear hown hgrow br
      go_wp2
      go_roundg (gk - 1)
      case measure => omega
      case rel => exact ⟨br2, (.inr (.inr ⟨rfl, by omega, by simpa [List.append_assoc, Nat.add_assoc] using hown'⟩))⟩
    · go_wp2
      go_ret
      exact ⟨_, rfl, hown, br⟩
def bt (n u : Int) : UInt8 := UInt8.ofNat (dI n u).toNat
theorem bt_int (n u : Int) : ((bt n u).toNat : Int) = dI n u := by
  have := dI_bd n u
  unfold bt; rw [UInt8.toNat_ofNat']; omega
def bL (y m d : Int) : List UInt8 := [bt y 1000, bt y 100, bt y 10, bt y 1, 45, bt m 10, bt m 1, 45, bt d 10, bt d 1]
def txt (y m d : Int) : ByteArray := ⟨(bL y m d).toArray⟩
theorem below_mono {B B' : Nat} {w w' : World} (h : Below B w w') (hb : B' ≤ B) : Below B' w w' := ⟨h.os, h.tape, h.output, h.size, fun i hi => h.block i (by omega)⟩
theorem blk_below {w w' : World} {B g : Nat} {cs : Array Value} (h : Blk w g cs) (hb : Below B w w') (hg : g < B) : Blk w' g cs := by
  obtain ⟨t, h⟩ := h; exact ⟨t, (hb.block g hg).trans h⟩
theorem text_bad {y m d : Int} (ha : Hid (goodB y m d = false)) (w : World) (hT : TabOk w) :
    Calls Tryd.prog 31 #[.agg #[.int .i64 y, .int .i64 m, .int .i64 d]] w fun e w' => e = .returned (.tuple #[.string ⟨#[]⟩, .int .i64 70]) ∧ Below w.heap.size w w' := by
  go_enter Tryd.func31, Tryd.ntmps31
  go_wp2_with fail
  refine (check_bad ha _ (hT.below (b_alloc (Below.refl w.heap.size w) _))).mono ?_
  rintro e w1 ⟨rfl, hb⟩
  have hA := ((Blk.new_at (w := w) (g := w.heap.size) (by simp) 29 #[.int .i64 y, .int .i64 m, .int .i64 d])).below hb; have kA := hA.cell; have lA := hA.lt; have fA := hA.froz
  have b1 := b_step (b_alloc (Below.refl w.heap.size w) _) hb; clear hb
  go_wp2
  go_ret2
  exact ⟨rfl, b1⟩
set_option maxHeartbeats 4000000 in
theorem text_good {y m d : Int} (ha : Hid (goodB y m d = true)) (w : World) (hT : TabOk w) :
    Calls Tryd.prog 31 #[.agg #[.int .i64 y, .int .i64 m, .int .i64 d]] w fun e w' => e = .returned (.tuple #[.string (txt y m d), .int .i64 0]) ∧ Below w.heap.size w w' := by
  obtain ⟨i0, hi, hz0, hz1, hz2⟩ := info_parts infoU8
  obtain ⟨a1, a2, a3, a4, a5, a6⟩ := (goodB_iff _ _ _).1 ha.out
  have l31 := (lenF_bd y m).2
  go_enter Tryd.func31, Tryd.ntmps31
  go_wp2_with fail
  refine (check_good ha _ (hT.below (b_alloc (Below.refl w.heap.size w) _))).mono ?_
  rintro e w1 ⟨rfl, hb⟩
  have hA := ((Blk.new_at (w := w) (g := w.heap.size) (by simp) 29 #[.int .i64 y, .int .i64 m, .int .i64 d])).below hb; have kA := hA.cell; have lA := hA.lt; have fA := hA.froz
  have b1 := b_step (b_alloc (Below.refl w.heap.size w) _) hb; clear hb
  go_wp2_with fail
  refine (put4 (B := w.heap.size + 1) y (by omega) (by omega) _ (by have := lA; omega) (World.ownsRow_nil _ _ _ _)).mono ?_
  rintro e w2 ⟨v2, rfl, ho2, hb⟩
  have hA := blk_below hA hb (by omega); clear kA lA fA; have kA := hA.cell; have lA := hA.lt; have fA := hA.froz
  have b2 := b1.trans (below_mono hb (by omega))
  clear hb
  go_wp2_with (at_builtin; refine wpList_append_own _ rfl _ _ 72 rfl (w.heap.size + 1) 5 i0 (.int .u8 0) 1 1 Tryd.underlying72 hi hz0 hz1 hz2 rfl (by decide) _ _ _ rfl (ho2.alloc _) ⟨w2.heap.size, 0, none⟩ 1 1 [.int .u8 45] rfl rfl ?c1 ?c2 ?c3 ?c4 ?c5 ?_)
  case c1 =>
    intro j u hj
    match j, hj with
    | 0, hj => simp at hj; subst hj; simp [Addr.add]
  case c2 => intro u hu; simp at hu; subst hu; rfl
  case c3 => unfold maxLen; omega
  case c4 => omega
  case c5 => have := b2.size; have := lA; simp; omega
  intro v3 w3 ho3 hgrow _
  have hb := ((Below.refl (w.heap.size + 1) w2).alloc (by have := lA; omega) _).grown hgrow (by have := lA; simp; omega) (fun k hk => (ho2.lt k hk).1)
  have hA := blk_below hA hb (by omega); clear kA lA fA; have kA := hA.cell; have lA := hA.lt; have fA := hA.froz
  have b3 := b2.trans (below_mono hb (by omega))
  clear ho2 hgrow hb
  go_wp2_with fail
  refine (put2 (B := w.heap.size + 1) m (by omega) (by omega) _ (by have := lA; omega) ho3).mono ?_
  rintro e w4 ⟨v4, rfl, ho4, hb⟩
  have hA := blk_below hA hb (by omega); clear kA lA fA; have kA := hA.cell; have lA := hA.lt; have fA := hA.froz
  have b4 := b3.trans (below_mono hb (by omega))
  clear hb
  clear ho3
  go_wp2_with (at_builtin; refine wpList_append_own _ rfl _ _ 72 rfl (w.heap.size + 1) 5 i0 (.int .u8 0) 1 1 Tryd.underlying72 hi hz0 hz1 hz2 rfl (by decide) _ _ _ rfl (ho4.alloc _) ⟨w4.heap.size, 0, none⟩ 1 1 [.int .u8 45] rfl rfl ?c1 ?c2 ?c3 ?c4 ?c5 ?_)
  case c1 =>
    intro j u hj
    match j, hj with
    | 0, hj => simp at hj; subst hj; simp [Addr.add]
  case c2 => intro u hu; simp at hu; subst hu; rfl
  case c3 => unfold maxLen; omega
  case c4 => omega
  case c5 => have := b4.size; have := lA; simp; omega
  intro v5 w5 ho5 hgrow _
  have hb := ((Below.refl (w.heap.size + 1) w4).alloc (by have := lA; omega) _).grown hgrow (by have := lA; simp; omega) (fun k hk => (ho4.lt k hk).1)
  have hA := blk_below hA hb (by omega); clear kA lA fA; have kA := hA.cell; have lA := hA.lt; have fA := hA.froz
  have b5 := b4.trans (below_mono hb (by omega))
  clear ho4 hgrow hb
  go_wp2_with fail
  refine (put2 (B := w.heap.size + 1) d (by omega) (by omega) _ (by have := lA; omega) ho5).mono ?_
  rintro e w6 ⟨v6, rfl, ho6, hb⟩
  have hA := blk_below hA hb (by omega); clear kA lA fA; have kA := hA.cell; have lA := hA.lt; have fA := hA.froz
  have b6 := b5.trans (below_mono hb (by omega))
  clear hb
  clear ho5
  obtain ⟨A, cap, rfl, hf⟩ := owns_form ho6
  obtain ⟨g, rfl, hg1, hg2⟩ := hf (by omega)
  have hcv : (convert 72 9 (.slice (some ⟨g, 0, none⟩) 10 cap)).run Tryd.prog w6 = .ok (.string (txt y m d)) w6 := by
    refine run_convert_bytes_back (P := Tryd.prog) w6 72 9 5 ⟨g, 0, none⟩ cap (bL y m d) Tryd.underlying72 Tryd.underlying5 Tryd.underlying9 ?_
    intro j hj
    have hj' : j < 10 := hj
    have hc := ho6.cellAt j (by omega)
    rw [show (⟨g, 0, none⟩ : Addr).add j = ⟨g, j, none⟩ by simp [Addr.add]; intro h; exact h.symm, hc]
    match j, hj' with
    | 0, _ | 1, _ | 2, _ | 3, _ | 4, _ | 5, _ | 6, _ | 7, _ | 8, _ | 9, _ => simp [bL, bt_int]
  clear ho6
  go_wp2
  go_ret2
  exact ⟨rfl, b6⟩
end Go.Proofs.YtolgljionpalkaaDoor
