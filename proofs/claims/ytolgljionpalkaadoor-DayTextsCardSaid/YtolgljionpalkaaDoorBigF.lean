/- tontinebase: Text. -/
import Derived.Test.YtolgljionpalkaaDoorBigE
set_option linter.unusedSimpArgs false
set_option linter.unusedVariables false
namespace Go.Proofs.YtolgljionpalkaaDoor
open Go.RowKit Go.BigFrame
theorem part_step (v x P : Nat) : v + x % 1000000000 * P + x / 1000000000 * (P * 1000000000) = v + x * P := by
  have := Nat.div_add_mod x 1000000000
  grind
theorem part_len {v x j a : Nat} (h : v + x * 1000000000 ^ j = a) (h0 : 0 < x) : j < bits a ∧ x ≤ a := by
  have h1 : 2 ^ j ≤ 1000000000 ^ j := Nat.pow_le_pow_left (by decide) j
  have h2 : 1 * 1000000000 ^ j ≤ x * 1000000000 ^ j := Nat.mul_le_mul_right _ h0
  have h3 : x * 1 ≤ x * 1000000000 ^ j := Nat.mul_le_mul_left _ (Nat.pow_pos (by decide))
  exact ⟨bits_pow_le (by omega), by omega⟩
theorem unit_div (t : Nat) : 10 ^ (t + 1) / 10 = 10 ^ t := by rw [Nat.pow_succ, Nat.mul_div_cancel _ (by decide)]
theorem unit_le {t : Nat} (h : t ≤ 8) : 10 ^ t ≤ 100000000 := Nat.pow_le_pow_right (n := 10) (by decide) h
/-- one digit more of a part -/
theorem dig_step {H p t s md : Nat} (h : md = H * 10 ^ s + p / 10 ^ (t + 1)) : 10 * md + p / 10 ^ t % 10 = H * 10 ^ (s + 1) + p / 10 ^ t := by
  have h1 : p / 10 ^ (t + 1) = p / 10 ^ t / 10 := by rw [Nat.pow_succ, Nat.div_div_eq_div_mul]
  have h2 := Nat.div_add_mod (p / 10 ^ t) 10
  rw [h, h1, Nat.pow_succ]
  grind
/-- where the digits of a part stand: t: the unit is 10 to the t; t = 0 and u = 0: all are there -/
def dig (H p u md : Nat) (l : Nat) : Prop := (∃ t, t ≤ 8 ∧ u = 10 ^ t ∧ l = 8 - t ∧ md = H * 10 ^ l + p / 10 ^ (t + 1)) ∨ (u = 0 ∧ l = 9 ∧ md = H * 1000000000 + p)
theorem dig_next {H p u md l : Nat} (h : dig H p u md l) (h0 : 0 < u) : l ≤ 8 ∧ dig H p (u / 10) (10 * md + p / u % 10) (l + 1) := by
  rcases h with ⟨t, ht, hu, hl, hm⟩ | ⟨hu, _⟩
  · refine ⟨by omega, ?_⟩
    have := dig_step hm
    rw [← hu] at this
    cases t with
    | zero => exact .inr ⟨by rw [hu], by omega, by rw [this, hl, hu]; simp⟩
    | succ t => exact .inl ⟨t, by omega, by rw [hu, unit_div], by omega, by rw [this, hu]⟩
  · omega
theorem dig_end {H p md l : Nat} (h : dig H p 0 md l) : l = 9 ∧ md = H * 1000000000 + p := by
  rcases h with ⟨t, ht, hu, hl, hm⟩ | ⟨_, h⟩
  · have : 0 < 10 ^ t := Nat.pow_pos (by decide); omega
  · exact h
theorem dig_start (H p : Nat) (hp : p < 1000000000) : dig H p 100000000 H 0 := .inl ⟨8, by decide, rfl, rfl, by rw [Nat.div_eq_of_lt hp]; simp⟩
theorem md_upd {D : Nat → Nat} {l x : Nat} : md (upd D l (48 + x)) (l + 1) = 10 * md D l + x := by
  rw [md, upd_same, md_congr (E := D) l (fun i hi => upd_other (by omega))]; omega
/-- a text of digits' bytes -/
theorem decS_of {D : Nat → Nat} {L k : Nat} (hL : k < L) (h0 : ∀ i, i < k → D i = 48) (hk : D k ≠ 48) (hD : ∀ i, i < L → 48 ≤ D i ∧ D i ≤ 57) : decS (md D L) = ⟨((List.range (L - k)).map fun i => UInt8.ofNat (D (k + i))).toArray⟩ := by
  have h := (md_dec h0 hk (L - k - 1) (fun i hi => hD i (by omega))).2
  rw [show k + 1 + (L - k - 1) = L by omega, show L - k - 1 + 1 = L - k by omega] at h
  unfold decS
  rw [h, List.map_map]
  congr 2
  apply List.map_congr_left
  intro i hi
  have := hD (k + i) (by have := List.mem_range.1 hi; omega)
  simp only [Function.comp]
  congr 1; omega
theorem digit_cell (p u : Nat) (hp : p < 1000000000) : wrap64 (48 + (wrap64 ((p : Int) / (u : Int))).tmod 10) % 256 = ((48 + p / u % 10 : Nat) : Int) := by
  have h1 : (p : Int) / (u : Int) = ((p / u : Nat) : Int) := (Int.natCast_ediv p u).symm
  have h2 := Nat.div_le_self p u
  rw [h1]
  generalize p / u = q at h2
  have h3 : wrap64 (q : Int) = q := by unfold wrap64; omega
  rw [h3, Int.tmod_eq_emod_of_nonneg (by omega)]
  unfold wrap64; omega
/-- bytes from k on, as a text -/
theorem conv_bytes {w : World} {e : TypeId} {g k n cap : Nat} {D : Nat → Nat} (h : Rd w e .u8 (some ⟨g, 0, none⟩) n D) (hD : ∀ i, i < n → D i < 256) (hk : k ≤ n) :
    (convert 72 9 (.slice (some ⟨g, k, none⟩) (n - k) cap)).run Tryd.prog w = .ok (.string ⟨((List.range (n - k)).map fun i => UInt8.ofNat (D (k + i))).toArray⟩) w := by
  have hl : (((List.range (n - k)).map fun i => UInt8.ofNat (D (k + i))) : List UInt8).length = n - k := by simp
  have := run_convert_bytes_back (P := Tryd.prog) w 72 9 5 ⟨g, k, none⟩ cap ((List.range (n - k)).map fun i => UInt8.ofNat (D (k + i))) Tryd.underlying72 Tryd.underlying5 Tryd.underlying9 (fun j hj => by
    have hj' : j < n - k := by rw [hl] at hj; exact hj
    have hc := h.cell g 0 rfl (k + j) (by omega)
    have ha : (⟨g, k, none⟩ : Addr).add j = ⟨g, k + j, none⟩ := by unfold Addr.add; split <;> simp_all
    rw [ha]
    rw [Nat.zero_add] at hc
    rw [hc]
    have := hD (k + j) (by omega)
    simp [Nat.mod_eq_of_lt this])
  rw [hl] at this
  exact this
set_option maxHeartbeats 8000000 in
set_option maxRecDepth 100000 in
theorem nat_text {v : Value} {a : Nat} (w : World) (h : Num w 3 .i64 1073741824 v a) (hb : bits a ≤ 1099511627776) :
    Calls Tryd.prog 68 #[v] w fun e w' => e = .returned (.string (decS a)) ∧ Below w.heap.size w w' := by
  obtain ⟨A, n, c, F, rfl, hn, hc, hr, hF, ht, rfl⟩ := h
  have hm : c ≤ 9223372036854775807 := by simpa [maxLen] using hc
  by_cases h0 : n = 0
  · subst h0
    go_enter Tryd.func68, Tryd.ntmps68
    go_wp2
    go_ret
    exact ⟨by rw [vf, decS, decN_small (by decide)]; rfl, Below.refl _ _⟩
  · have hn0 : ((n : Int) == 0) = false := by simp; omega
    have hapos := vf_pos (B := 1073741824) (by decide) (Nat.pos_of_ne_zero h0) (ht (Nat.pos_of_ne_zero h0))
    have hnum : Num w 3 .i64 1073741824 (.slice A n c) (vf 1073741824 F n) := ⟨A, n, c, F, rfl, hn, hc, hr, hF, ht, rfl⟩
    generalize vf 1073741824 F n = a at hb hapos hnum ⊢
    clear hr hF ht
    go_enter Tryd.func68, Tryd.ntmps68
    go_wp2
    go_loopg [0, 3] a (fun g va vp wr => ∃ (x j : Nat) (P : Nat → Nat), Num wr 3 .i64 1073741824 va x ∧ x ≤ g ∧ j ≤ bits a ∧ Hid (vf 1000000000 P j + x * 1000000000 ^ j = a) ∧ (∀ i, i < j → P i < 1000000000) ∧ Ow wr w.heap.size 3 .i64 vp j P ∧ Below w.heap.size w wr)
    case atStart => exact ⟨a, 0, fun _ => 0, hnum, Nat.le_refl _, Nat.zero_le _, Lib.hid (by simp [vf]), fun i hi => by omega, World.ownsRow_nil _ _ _ _, Below.refl _ _⟩
    case round =>
      clear hnum hn hc hm hn0 h0
      rename World => wa
      obtain ⟨x, j, P, hx, hg, hjb, hI, hP, ho, br⟩ := hrel
      obtain ⟨A, n, c, F, rfl, hn, hc, hr, hF, ht, hxe⟩ := hx
      have hm : c ≤ 9223372036854775807 := by simpa [maxLen] using hc
      have hl : 30 * n ≤ bits x + 30 := hxe ▸ len_bits (s := 30) ht
      by_cases h0 : 0 < n
      · have hx0 : 0 < x := hxe ▸ vf_pos (B := 1073741824) (by decide) h0 (ht h0)
        obtain ⟨hj, hxa⟩ := part_len hI.out hx0
        have hxb := bits_mono hxa
        replace hxe := Lib.hid hxe
        go_wp2_with fail
        refine (small_any 1000000000 (by decide) (by decide) _ hr hn hc hF (by omega)).mono ?_
        rintro e w1 ⟨vq, rfl, hq, hfr, hb1⟩
        rw [hxe.out] at hq ⊢
        have ho1 := ho.below hb1
        have ho1' := ho
        have br1 := b_step br hb1
        have bs := br1.size
        clear hr ho hF ht
        go_wp2_with (at_builtin; refine wpList_append_num _ _ rfl _ _ 83 rfl w.heap.size 3 .i64 8 Tryd.underlying83 infoInt _ j P (x % 1000000000) (((x % 1000000000 : Nat)) : Int) (by rfl) (by rfl) (by rfl) ho1 (by omega) (by simp only [maxLen]; omega) br1.size ?_; intro v' w2 ho' hb2 hgr)
        go_wp2
        go_roundg (gk - 1)
        case measure => omega
        case rel =>
          have hq2 := hq.fresh hgr hfr (fun g hg => (World.ownsRow.lt ho1' g hg).2)
          refine ⟨x / 1000000000, j + 1, upd P j (x % 1000000000), hq2, by omega, by omega, Lib.hid ?_, fun i hi => ?_, ho', br1.trans hb2⟩
          · rw [vf_upd_succ, Nat.pow_succ, part_step]; exact hI.out
          · unfold upd; split
            · exact Nat.mod_lt _ (by decide)
            · exact hP i (by omega)
      · obtain rfl : n = 0 := by omega
        obtain rfl : x = 0 := hxe.symm
        have hPa : Hid (vf 1000000000 P j = a) := Lib.hid (by have := hI.out; simpa using this)
        have hj : j ≤ 1099511627776 := by omega
        clear hI hr hF ht hxe
        obtain ⟨Ap, cp, rfl, hjp, hcp, hpf⟩ := ho.form
        have hpr := ho.rd
        have bs := br.size
        have hmp : cp ≤ 9223372036854775807 := by simpa [maxLen] using hcp
        go_wp2
        go_loopg [6, 7] j (fun g vb vi wr2 => ∃ (m L : Nat) (D : Nat → Nat), vi = .int .i64 ((m : Nat) - 1 : Int) ∧ m ≤ g ∧ m ≤ j ∧ L = 9 * (j - m) ∧ (∀ i, i < L → 48 ≤ D i ∧ D i ≤ 57) ∧ Hid (md D L = vf 1000000000 (fun i => P (m + i)) (j - m)) ∧ Ow wr2 wa.heap.size 5 .u8 vb L D ∧ Below wa.heap.size wa wr2)
        case atStart => exact ⟨j, 0, fun _ => 48, rfl, Nat.le_refl _, Nat.le_refl _, by omega, fun i hi => by omega, Lib.hid (by rw [Nat.sub_self]; rfl), World.ownsRow_nil _ _ _ _, Below.refl _ _⟩
        case round =>
          rename World => wb
          clear ho
          obtain ⟨m, L, D, rfl, hg, hmj, rfl, hD, hI, ho, br2⟩ := hrel
          by_cases h1 : 0 < m
          · have c1 : decide (1 ≤ (m : Int)) = true := by simp; omega
            go_wp2
            go_loopg [6, 8] 10 (fun g vb vu wr3 => ∃ (u l : Nat) (E : Nat → Nat), vu = .int .i64 (u : Nat) ∧ 9 ≤ l + g ∧ u ≤ 100000000 ∧ Hid (dig (vf 1000000000 (fun i => P (m + i)) (j - m)) (P (m - 1)) u (md E (9 * (j - m) + l)) l) ∧ (∀ i, i < 9 * (j - m) + l → 48 ≤ E i ∧ E i ≤ 57) ∧ Ow wr3 wa.heap.size 5 .u8 vb (9 * (j - m) + l) E ∧ Below wa.heap.size wa wr3)
            case atStart => exact ⟨100000000, 0, D, rfl, by omega, by omega, Lib.hid (by show dig _ _ _ (md D (9 * (j - m))) 0; rw [hI.out]; exact dig_start _ _ (hP (m - 1) (by omega))), hD, ho, br2⟩
            case round =>
              clear ho br2 hI hD
              rename World => wc
              obtain ⟨u, l, E, rfl, hg3, hu8, hdg, hE, ho, br3⟩ := hrel
              by_cases hu : 0 < u
              · obtain ⟨hl8, hdg2⟩ := dig_next hdg.out hu
                obtain ⟨gp, op, rfl⟩ := hpr.some (by omega)
                have hcell := (hpr.below br3).cell gp op rfl (m - 1) (by omega)
                have hPk := hP (m - 1) (by omega)
                have bs3 := br3.size
                go_wp2_with (at_builtin; refine wpList_append_num _ _ rfl _ _ 72 rfl wa.heap.size 5 .u8 1 Tryd.underlying72 infoByte _ (9 * (j - m) + l) E (48 + P (m - 1) / u % 10) _ (digit_cell (P (m - 1)) u hPk) (by rfl) (by rfl) ho (by omega) (by simp only [maxLen]; omega) br3.size ?_; intro v' w4 ho' hb4 _)
                go_wp2
                have hme : 9 ≤ l + 1 + (gk - 1) := by omega
                have hue : u / 10 ≤ 100000000 := by omega
                go_roundg (gk - 1)
                case measure => omega
                case rel =>
                  refine ⟨u / 10, l + 1, upd E (9 * (j - m) + l) (48 + P (m - 1) / u % 10), rfl, hme, hue, Lib.hid ?_, fun i hi => ?_, ho', br3.trans hb4⟩
                  · rw [← Nat.add_assoc, md_upd]; exact hdg2
                  · unfold upd; split
                    · omega
                    · exact hE i (by omega)
              · obtain rfl : u = 0 := by omega
                obtain ⟨rfl, hmd⟩ := dig_end hdg.out
                replace hmd := Lib.hid hmd
                clear hdg
                go_wp2
                go_roundg (m - 1)
                case measure => omega
                case rel =>
                  obtain ⟨k, rfl⟩ : ∃ k, m = k + 1 := ⟨m - 1, by omega⟩
                  refine ⟨k, _, E, by simp, by omega, by omega, rfl, ?_, Lib.hid ?_, ?_, br3⟩
                  · intro i hi; exact hE i (by omega)
                  · rw [show 9 * (j - k) = 9 * (j - (k + 1)) + 9 by omega, hmd.out, show j - k = (j - (k + 1)) + 1 by omega, vf_cons, Nat.mul_comm, Nat.add_comm]; rfl
                  · rw [show 9 * (j - k) = 9 * (j - (k + 1)) + 9 by omega]; exact ho
          · obtain rfl : m = 0 := by omega
            have hmd : Hid (md D (9 * j) = a) := Lib.hid (by have := hI.out; simpa [hPa.out] using this)
            clear hI
            rw [Nat.sub_zero] at hD ho
            have hL : 0 < 9 * j := by
              rcases Nat.eq_zero_or_pos j with c | c
              · subst c; have := hmd.out; simp [md] at this; omega
              · omega
            obtain ⟨B, cb, rfl, hbl, hbc, hbf⟩ := ho.form
            obtain ⟨gb, rfl, hgb, hgs⟩ := hbf hL
            have hmb : cb ≤ 9223372036854775807 := by simpa [maxLen] using hbc
            clear hbf
            go_wp2
            go_loopg [9] (9 * j) (fun g vk wr4 => wr4 = wb ∧ ∃ k : Nat, vk = .int .i64 ((k : Nat) : Int) ∧ k < 9 * j ∧ 9 * j - k ≤ g ∧ Hid (∀ i, i < k → D i = 48))
            case atStart => exact ⟨rfl, 0, rfl, hL, Nat.le_refl _, Lib.hid fun i hi => by omega⟩
            case round =>
              obtain ⟨rfl, k, rfl, hk, hg4, hz⟩ := hrel
              have hcell := ho.at hk
              by_cases h48 : D k = 48
              · have hlt : k + 1 < 9 * j := by
                  rcases Nat.lt_or_ge (k + 1) (9 * j) with c | c
                  · exact c
                  · have := md_zero (D := D) (9 * j) (fun i hi => by
                      by_cases q : i = k
                      · rw [q]; exact h48
                      · exact hz.out i (by omega))
                    have := hmd.out; omega
                rw [h48] at hcell
                go_wp2
                go_roundg (gk - 1)
                case measure => omega
                case rel => exact ⟨rfl, k + 1, rfl, hlt, by omega, Lib.hid fun i hi => by
                    by_cases q : i = k
                    · rw [q]; exact h48
                    · exact hz.out i (by omega)⟩
              · have c48 : (((D k : Nat) : Int) == 48) = false := by simp; omega
                have hcv : (convert 72 9 (.slice (some ⟨gb, k, none⟩) (9 * j - k) (cb - k))).run Tryd.prog wr = .ok (.string (decS a)) wr := by
                  rw [← hmd.out, decS_of hk hz.out h48 hD]
                  exact conv_bytes ho.rd (fun i hi => by have := hD i hi; omega) (by omega)
                go_wp2
                go_ret
                exact ⟨rfl, b_step br br2⟩
end Go.Proofs.YtolgljionpalkaaDoor
