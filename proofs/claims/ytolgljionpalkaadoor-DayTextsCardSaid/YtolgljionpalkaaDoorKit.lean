import Derived.Deep.Quiet
import Derived.StillTail
import Derived.Below
import Derived.WalkKit
import Derived.WalkSpells
import Derived.WalkLawsBesides
import Derived.Deep.QuietTactic
import Derived.BigQuiet
import Derived.Lib.Hide
import Derived.Deep.LoopGhost
import Derived.Deep.RegionHeld3
import Derived.Deep.DeepCutAuto
import Derived.ProofKit
set_option linter.unusedSimpArgs false
set_option linter.unusedVariables false
namespace Go.Proofs.YtolgljionpalkaaDoor

section
variable {P : Program} {ops : Array Oper} {C : World → Prop}

/-- the frame behind the first i operations, in the order of the text -/
def fr (l : List Oper) (V : Nat → Value) (a : Act) : Nat → Act
  | 0 => a
  | i + 1 => match l[i]? with
    | some o => (fr l V a i).put o.dst (V i)
    | none => fr l V a i

theorem fr_congr {l : List Oper} {V V' : Nat → Value} {a : Act} : ∀ k, (∀ i, i < k → V i = V' i) → fr l V a k = fr l V' a k
  | 0, _ => rfl
  | k + 1, h => by
    simp only [fr]
    rw [fr_congr k (fun i hi => h i (by omega)), h k (by omega)]

theorem quiet_vals {l : List Oper} {Q : Act → Prop} {a : Act} (h : wpQuiet P ops C Q l a) :
    ∀ k, k ≤ l.length → ∃ V : Nat → Value, (∀ i o, i < k → l[i]? = some o → YieldsIn P ops C o (V i) (fr l V a i)) ∧ wpQuiet P ops C Q (l.drop k) (fr l V a k)
  | 0, _ => ⟨fun _ => undef, fun i o hi => by omega, by simpa [fr] using h⟩
  | k + 1, hk => by
    obtain ⟨V, hV, hw⟩ := quiet_vals h k (by omega)
    have hlt : k < l.length := by omega
    rw [List.drop_eq_getElem_cons hlt] at hw
    have ho : l[k]? = some l[k] := List.getElem?_eq_getElem hlt
    simp only [wpQuiet] at hw
    have fin : ∀ v, YieldsIn P ops C l[k] v (fr l V a k) → wpQuiet P ops C Q (l.drop (k + 1)) ((fr l V a k).put l[k].dst v) →
        ∃ V : Nat → Value, (∀ i o, i < k + 1 → l[i]? = some o → YieldsIn P ops C o (V i) (fr l V a i)) ∧ wpQuiet P ops C Q (l.drop (k + 1)) (fr l V a (k + 1)) := by
      intro v hy hn
      have e : ∀ i, i ≤ k → fr l (fun j => if j = k then v else V j) a i = fr l V a i := fun i hi => fr_congr i (fun j hj => by show (if j = k then v else V j) = V j; rw [if_neg (by omega)])
      refine ⟨fun j => if j = k then v else V j, fun i o hi hio => ?_, ?_⟩
      · rw [e i (by omega)]
        by_cases hik : i = k
        · subst hik
          rw [ho] at hio
          cases hio
          simpa using hy
        · simp only [hik, if_false]
          exact hV i o (by omega) hio
      · simp only [fr, ho]
        rw [e k (Nat.le_refl _)]
        simpa using hn
    by_cases hwt : Region.wanted l[k] (yielded ops (fr l V a k).tmps) = true
    · rw [if_pos hwt] at hw
      obtain ⟨v, h1, h2⟩ := hw
      exact fin v (.inl ⟨hwt, h1⟩) h2
    · rw [if_neg hwt] at hw
      exact fin undef (.inr ⟨by simpa using hwt, rfl⟩) hw

/-- operation i waits for operation j -/
def waits (l : List Oper) (i j : Nat) : Bool := match l[i]? with
  | some o => o.after.any fun e => Region.binds .any e && e.on == j
  | none => false
def isSelect : Oper → Bool
  | { op := .select _ _, .. } => true
  | _ => false
/-- THE HEAD's n OPERATIONS, IN WHATEVER ORDER, LEAVE ONE FRAME; the rest comes behind them, in a row. -/
def headB (l : List Oper) (n : Nat) : Bool :=
  ((List.range n).all fun i => match l[i]? with
    | some o => !isSelect o && o.after.all (fun e => !Region.binds .any e || decide (e.on < i)) &&
        (o.looksAt l.toArray).all (fun t => (List.range n).all fun j => match l[j]? with
          | some oj => !(oj.dst == some t) || (decide (j < i) && waits l i j) || (decide (i < j) && waits l j i)
          | none => true) &&
        (List.range i).all (fun j => match l[j]? with
          | some oj => oj.dst == none || !(oj.dst == o.dst)
          | none => true)
    | none => false) &&
  ((List.range l.length).all fun t => decide (t < n) || (List.range n).all (fun i => waits l t i) || (List.range t).any (fun t' => decide (n ≤ t') && waits l t t')) &&
  decide (n ≤ l.length) &&
  Region.seqB .any l.toArray (l.length - n) n ((List.range l.length).map (fun i => decide (i < n))).toArray

theorem waits_spec {l : List Oper} {i j : Nat} (h : waits l i j = true) : ∃ o, l[i]? = some o ∧ ∃ e ∈ o.after, Region.binds .any e = true ∧ e.on = j := by
  unfold waits at h
  split at h
  · rename_i o ho
    obtain ⟨e, he, hb⟩ := Array.any_eq_true'.1 h
    simp only [Bool.and_eq_true, beq_iff_eq] at hb
    exact ⟨o, ho, e, he, hb.1, hb.2⟩
  · cases h

def cnt (L : Array Bool) : Nat → Nat
  | 0 => 0
  | k + 1 => cnt L k + if L.getD k true = true then 0 else 1
theorem cnt_same {L L' : Array Bool} : ∀ k, (∀ i, i < k → L'.getD i true = L.getD i true) → cnt L' k = cnt L k
  | 0, _ => rfl
  | k + 1, h => by simp only [cnt]; rw [cnt_same k (fun i hi => h i (by omega)), h k (by omega)]
theorem cnt_set {L : Array Bool} {i : Nat} (hu : L.getD i true = false) : ∀ k, i < k → cnt (L.setIfInBounds i true) k + 1 = cnt L k
  | 0, h => by omega
  | k + 1, h => by
    have hsz : i < L.size := by
      rcases Nat.lt_or_ge i L.size with h' | h'
      · exact h'
      · simp [Array.getElem?_eq_none h'] at hu
    simp only [cnt]
    by_cases hik : i = k
    · subst hik
      rw [cnt_same i (fun j hj => getD_set_ne true (by omega)), hu]
      have : (L.setIfInBounds i true).getD i true = true := by simp [hsz]
      rw [this]; simp
    · have := cnt_set hu k (by omega)
      rw [getD_set_ne true (by omega : i ≠ k)]
      omega
theorem cnt_zero {L : Array Bool} : ∀ k, cnt L k = 0 → ∀ i, i < k → L.getD i true = true
  | 0, _, i, hi => by omega
  | k + 1, h, i, hi => by
    simp only [cnt] at h
    have h1 : cnt L k = 0 := by omega
    by_cases hik : i = k
    · subst hik
      cases hh : L.getD i true with
      | true => rfl
      | false => rw [hh] at h; simp at h
    · exact cnt_zero k h1 i (by omega)
theorem cnt_pos {L : Array Bool} : ∀ k, 0 < cnt L k → ∃ i, i < k ∧ L.getD i true = false ∧ ∀ j, j < i → L.getD j true = true
  | 0, h => by simp [cnt] at h
  | k + 1, h => by
    simp only [cnt] at h
    by_cases hc : 0 < cnt L k
    · obtain ⟨i, hi, h1, h2⟩ := cnt_pos k hc
      exact ⟨i, by omega, h1, h2⟩
    · have h0 : cnt L k = 0 := by omega
      refine ⟨k, by omega, ?_, fun j hj => cnt_zero k h0 j hj⟩
      cases hh : L.getD k true with
      | false => rfl
      | true => rw [hh, h0] at h; simp at h

/-- what is known of the frame when the listed operations of the head have been carried out -/
structure FInv (l : List Oper) (V : Nat → Value) (a0 : Act) (n : Nat) (L : Array Bool) (a : Act) : Prop where
  size : L.size = l.length
  tail : ∀ t, n ≤ t → t < l.length → L.getD t true = false
  defers : a.defers = a0.defers
  tmps : a.tmps.size = a0.tmps.size
  done : ∀ i o d, i < n → l[i]? = some o → L.getD i false = true → o.dst = some d → a.tmps[d]? = if d < a0.tmps.size then some (V i) else none
  closed : ∀ j o, l[j]? = some o → L.getD j false = true → ∀ e ∈ o.after, Region.binds .any e = true → L.getD e.on false = true
  else_ : ∀ d, (∀ i o, i < n → l[i]? = some o → L.getD i false = true → o.dst ≠ some d) → a.tmps[d]? = a0.tmps[d]?

theorem put_tmps (a : Act) (x : Option Tmp) (v : Value) (d : Nat) : (a.put x v).tmps[d]? = if x = some d then (if d < a.tmps.size then some v else none) else a.tmps[d]? := by
  cases x with
  | none => simp [Act.put]
  | some e =>
    by_cases h : e = d
    · subst h
      simp [Act.put, Array.getElem?_setIfInBounds_self]
    · simp [Act.put, Array.getElem?_setIfInBounds_ne h, h]
theorem put_size (a : Act) (x : Option Tmp) (v : Value) : (a.put x v).tmps.size = a.tmps.size := by cases x <;> simp [Act.put]
theorem put_defers' (a : Act) (x : Option Tmp) (v : Value) : (a.put x v).defers = a.defers := by cases x <;> simp [Act.put]

theorem fr_size {l : List Oper} {V : Nat → Value} {a0 : Act} : ∀ k, (fr l V a0 k).tmps.size = a0.tmps.size ∧ (fr l V a0 k).defers = a0.defers
  | 0 => ⟨rfl, rfl⟩
  | k + 1 => by
    simp only [fr]
    have := fr_size (l := l) (V := V) (a0 := a0) k
    split
    · rw [put_size, put_defers']; exact this
    · exact this
/-- the slots of the lexical frame -/
theorem fr_slot {l : List Oper} {V : Nat → Value} {a0 : Act} (d : Nat) : ∀ k, (∀ i j oi oj, i < k → j < i → l[i]? = some oi → l[j]? = some oj → oi.dst = some d → oj.dst ≠ some d) →
    (∀ i o, i < k → l[i]? = some o → o.dst = some d → (fr l V a0 k).tmps[d]? = if d < a0.tmps.size then some (V i) else none) ∧
    ((∀ i o, i < k → l[i]? = some o → o.dst ≠ some d) → (fr l V a0 k).tmps[d]? = a0.tmps[d]?)
  | 0, _ => ⟨fun i o hi => by omega, fun _ => rfl⟩
  | k + 1, hu => by
    have ih := fr_slot (l := l) (V := V) (a0 := a0) d k (fun i j oi oj hi hj => hu i j oi oj (by omega) hj)
    have hs := (fr_size (l := l) (V := V) (a0 := a0) k).1
    simp only [fr]
    cases hk : l[k]? with
    | none =>
      refine ⟨fun i o hi hio hd => ?_, fun h => ih.2 (fun i o hi => h i o (by omega))⟩
      by_cases hik : i = k
      · subst hik; rw [hk] at hio; cases hio
      · exact ih.1 i o (by omega) hio hd
    | some ok =>
      simp only []
      refine ⟨fun i o hi hio hd => ?_, fun h => ?_⟩
      · rw [put_tmps, hs]
        by_cases hik : i = k
        · subst hik
          rw [hk] at hio
          cases hio
          rw [if_pos hd]
        · have : ok.dst ≠ some d := fun e => hu k i ok o (by omega) (by omega) hk hio e hd
          rw [if_neg this]
          exact ih.1 i o (by omega) hio hd
      · rw [put_tmps, if_neg (h k ok (by omega) hk)]
        exact ih.2 (fun i o hi => h i o (by omega))

theorem headB_dst {l : List Oper} {n : Nat} (hB : headB l n = true) : ∀ i j oi oj d, i < n → j < i → l[i]? = some oi → l[j]? = some oj → oi.dst = some d → oj.dst ≠ some d := by
  intro i j oi oj d hi hj hoi hoj hd hd'
  simp only [headB, Bool.and_eq_true] at hB
  have h1 := List.all_eq_true.1 hB.1.1.1 i (List.mem_range.2 hi)
  rw [hoi] at h1
  simp only [Bool.and_eq_true] at h1
  have h2 := List.all_eq_true.1 h1.2 j (List.mem_range.2 hj)
  rw [hoj] at h2
  simp [hd, hd'] at h2

theorem headB_look {l : List Oper} {n : Nat} (hB : headB l n = true) {i : Nat} {oi : Oper} (hi : i < n) (hoi : l[i]? = some oi) {t : Tmp} (ht : t ∈ oi.looksAt l.toArray) {j : Nat} {oj : Oper} (hj : j < n) (hoj : l[j]? = some oj) (hd : oj.dst = some t) : (j < i ∧ waits l i j = true) ∨ (i < j ∧ waits l j i = true) := by
  simp only [headB, Bool.and_eq_true] at hB
  have h1 := List.all_eq_true.1 hB.1.1.1 i (List.mem_range.2 hi)
  rw [hoi] at h1
  simp only [Bool.and_eq_true] at h1
  have h2 := List.all_eq_true.1 h1.1.2 t ht
  have h3 := List.all_eq_true.1 h2 j (List.mem_range.2 hj)
  rw [hoj] at h3
  simp [hd] at h3
  exact h3

theorem headB_sel {l : List Oper} {n : Nat} (hB : headB l n = true) {i : Nat} {oi : Oper} (hi : i < n) (hoi : l[i]? = some oi) : (∀ cs b, oi.op ≠ .select cs b) ∧ ∀ e ∈ oi.after, Region.binds .any e = true → e.on < i := by
  simp only [headB, Bool.and_eq_true] at hB
  have h1 := List.all_eq_true.1 hB.1.1.1 i (List.mem_range.2 hi)
  rw [hoi] at h1
  simp only [Bool.and_eq_true] at h1
  refine ⟨fun cs b he => ?_, fun e he hb => ?_⟩
  · have := h1.1.1.1
    obtain ⟨dst, op, ty, pos, af, g⟩ := oi
    simp only at he
    subst he
    simp [isSelect] at this
  · have h2 := (Array.all_eq_true_iff_forall_mem.1 h1.1.1.2) e he
    simpa [hb] using h2

theorem slot_same {l : List Oper} {V : Nat → Value} {a0 a : Act} {n : Nat} {L : Array Bool} (hB : headB l n = true) (inv : FInv l V a0 n L a) {i : Nat} {oi : Oper} (hi : i < n) (hoi : l[i]? = some oi)
    (hun : L.getD i true = false) (hall : ∀ e ∈ oi.after, Region.binds .any e = true → L.getD e.on false = true) {t : Tmp} (ht : t ∈ oi.looksAt l.toArray) : a.tmps[t]? = (fr l V a0 i).tmps[t]? := by
  have hu : ∀ p q op oq, p < i → q < p → l[p]? = some op → l[q]? = some oq → op.dst = some t → oq.dst ≠ some t := fun p q op oq hp hq => headB_dst hB p q op oq t (by omega) hq
  have hf := fr_slot (l := l) (V := V) (a0 := a0) t i hu
  by_cases hex : ∃ (j : Nat) (oj : Oper), j < n ∧ l[j]? = some oj ∧ oj.dst = some t
  · obtain ⟨j, oj, hj, hoj, hd⟩ := hex
    rcases headB_look hB hi hoi ht hj hoj hd with ⟨hji, hw⟩ | ⟨hij, hw⟩
    · obtain ⟨o', ho', e, he, hb, hon⟩ := waits_spec hw
      have : o' = oi := Option.some.inj (ho'.symm.trans hoi)
      subst this
      have hl := hall e he hb
      rw [hon] at hl
      rw [inv.done j oj t (by omega) hoj hl hd, hf.1 j oj hji hoj hd]
    · obtain ⟨o', ho', e, he, hb, hon⟩ := waits_spec hw
      have : o' = oj := Option.some.inj (ho'.symm.trans hoj)
      subst this
      have hnl : L.getD j false = false := by
        cases hl : L.getD j false with
        | false => rfl
        | true =>
          have h2 := inv.closed j o' hoj hl e he hb
          rw [hon, getD_both hun] at h2
          cases h2
      have huq : ∀ (p : Nat) (op : Oper), p < n → p ≠ j → l[p]? = some op → op.dst ≠ some t := by
        intro p op hp hpj hop hpd
        rcases Nat.lt_or_gt_of_ne hpj with h | h
        · exact headB_dst hB j p o' op t hj h hoj hop hd hpd
        · exact headB_dst hB p j op o' t hp h hop hoj hpd hd
      rw [inv.else_ t (fun p op hp hop hl hpd => by
        by_cases hpj : p = j
        · subst hpj; rw [hnl] at hl; cases hl
        · exact huq p op hp hpj hop hpd), hf.2 (fun p op hp hop hpd => by
        by_cases hpj : p = j
        · omega
        · exact huq p op (by omega) hpj hop hpd)]
  · rw [inv.else_ t (fun j oj hj hoj _ hd => hex ⟨j, oj, hj, hoj, hd⟩), hf.2 (fun j oj hj hoj hd => hex ⟨j, oj, by omega, hoj, hd⟩)]

theorem yields_at {l : List Oper} {V : Nat → Value} {a0 a : Act} {n : Nat} {L : Array Bool} (hB : headB l n = true) (inv : FInv l V a0 n L a) {i : Nat} {oi : Oper} (hi : i < n) (hoi : l[i]? = some oi)
    (hun : L.getD i true = false) (hall : ∀ e ∈ oi.after, Region.binds .any e = true → L.getD e.on false = true) {v : Value} (hy : YieldsIn P l.toArray C oi v (fr l V a0 i)) : YieldsIn P l.toArray C oi v a := by
  have hs : ∀ t ∈ oi.looksAt l.toArray, a.tmps[t]? = (fr l V a0 i).tmps[t]? := fun t ht => slot_same hB inv hi hoi hun hall ht
  refine hy.of_same (execOp_congr oi (headB_sel hB hi hoi).1 fun x hx => ?_) ?_
  · cases x with
    | tmp t =>
      have := hs t (List.mem_append_left _ (List.mem_filterMap.2 ⟨.tmp t, by simpa using hx, rfl⟩))
      simp [Act.eval, this]
    | _ => rfl
  · unfold Region.wanted
    cases hg : oi.guard with
    | none => rfl
    | some gw =>
      obtain ⟨g, want⟩ := gw
      have hyl : yielded l.toArray a.tmps g = yielded l.toArray (fr l V a0 i).tmps g := by
        unfold yielded
        cases ht : (l.toArray[g]?).bind (·.dst) with
        | none => rfl
        | some t =>
          have := hs t (by rw [Oper.looksAt, hg]; simp only [ht]; exact List.mem_append_right _ (by simp))
          simp [this]
      simp only [hyl]

theorem FInv.step {l : List Oper} {V : Nat → Value} {a0 a : Act} {n : Nat} {L : Array Bool} (hB : headB l n = true) (inv : FInv l V a0 n L a) {i : Nat} {oi : Oper} (hi : i < n) (hoi : l[i]? = some oi) (hun : L.getD i true = false) (hall : ∀ e ∈ oi.after, Region.binds .any e = true → L.getD e.on false = true) :
    FInv l V a0 n (L.setIfInBounds i true) (a.put oi.dst (V i)) := by
  have hil : i < l.length := by
    rcases Nat.lt_or_ge i l.length with h | h
    · exact h
    · rw [List.getElem?_eq_none h] at hoi; cases hoi
  have hset : ∀ j, j ≠ i → (L.setIfInBounds i true).getD j false = L.getD j false := fun j hj => getD_set_ne false (Ne.symm hj)
  have dd : ∀ p q op oq d, p < n → q < n → p ≠ q → l[p]? = some op → l[q]? = some oq → op.dst = some d → oq.dst ≠ some d := by
    intro p q op oq d hp hq hne hop hoq hd hd'
    rcases Nat.lt_or_gt_of_ne hne with h | h
    · exact headB_dst hB q p oq op d hq h hoq hop hd' hd
    · exact headB_dst hB p q op oq d hp h hop hoq hd hd'
  refine ⟨by simp [inv.size], fun t ht ht' => by rw [getD_set_ne true (by omega)]; exact inv.tail t ht ht', by rw [put_defers', inv.defers], by rw [put_size, inv.tmps], ?_, ?_, ?_⟩
  · intro j oj d hj hoj hl hd
    rw [put_tmps, inv.tmps]
    by_cases hji : j = i
    · subst hji
      rw [hoi] at hoj
      cases hoj
      rw [if_pos hd]
    · rw [hset j hji] at hl
      rw [if_neg (dd j i oj oi d hj hi hji hoj hoi hd)]
      exact inv.done j oj d hj hoj hl hd
  · intro j oj hoj hl e he hb
    by_cases hji : j = i
    · subst hji
      rw [hoi] at hoj
      cases hoj
      exact getD_set_true (hall e he hb)
    · rw [hset j hji] at hl
      exact getD_set_true (inv.closed j oj hoj hl e he hb)
  · intro d hno
    rw [put_tmps]
    have h1 : oi.dst ≠ some d := hno i oi hi hoi (by simp [inv.size, hil])
    rw [if_neg h1]
    exact inv.else_ d (fun j oj hj hoj hl => hno j oj hj hoj (getD_set_true hl))

theorem tail_notReady {l : List Oper} {V : Nat → Value} {a0 a : Act} {n : Nat} {L : Array Bool} (hB : headB l n = true) (inv : FInv l V a0 n L a) {i : Nat} (hi : i < n) (hun : L.getD i true = false) : ∀ t, n ≤ t → t ∉ Region.ready .any l.toArray L := by
  intro t
  induction t using Nat.strongRecOn with
  | _ t ih =>
    intro ht hr
    obtain ⟨_, ot, hot, hall⟩ := mem_ready.1 hr
    have hot' : l[t]? = some ot := by simpa using hot
    have htl : t < l.length := by
      rcases Nat.lt_or_ge t l.length with h | h
      · exact h
      · rw [List.getElem?_eq_none h] at hot'; cases hot'
    have hB' := hB
    simp only [headB, Bool.and_eq_true] at hB'
    have h1 := List.all_eq_true.1 hB'.1.1.2 t (List.mem_range.2 htl)
    simp only [Bool.or_eq_true, decide_eq_true_eq] at h1
    rcases h1 with (h1 | h1) | h1
    · omega
    · have h2 := List.all_eq_true.1 h1 i (List.mem_range.2 hi)
      obtain ⟨o', ho', e, he, hb, hon⟩ := waits_spec h2
      have : o' = ot := Option.some.inj (ho'.symm.trans hot')
      subst this
      have h3 := hall e he hb
      rw [hon, getD_both hun] at h3
      cases h3
    · obtain ⟨t', ht', h2⟩ := List.any_eq_true.1 h1
      simp only [Bool.and_eq_true, decide_eq_true_eq] at h2
      obtain ⟨o', ho', e, he, hb, hon⟩ := waits_spec h2.2
      have : o' = ot := Option.some.inj (ho'.symm.trans hot')
      subst this
      have h3 := hall e he hb
      have ht'' := List.mem_range.1 ht'
      rw [hon, getD_both (inv.tail t' h2.1 (by omega))] at h3
      cases h3

theorem any_of_head {l : List Oper} {V : Nat → Value} {a0 : Act} {n : Nat} {Q : Exit → Act → World → Prop} (hB : headB l n = true)
    (hV : ∀ i o, i < n → l[i]? = some o → YieldsIn P l.toArray C o (V i) (fr l V a0 i))
    (hend : ∀ w, C w → wpList P l.toArray Q (l.drop n) (fr l V a0 n) w) :
    ∀ (f : Nat) (L : Array Bool) (a : Act) (w : World), cnt L n = f → FInv l V a0 n L a → C w → wpAny P .any l.toArray Q (f + (l.length - n)) L a w := by
  have hB' := hB
  simp only [headB, Bool.and_eq_true, decide_eq_true_eq] at hB'
  have hnl : n ≤ l.length := hB'.1.2
  intro f
  induction f with
  | zero =>
    intro L a w hc inv hw
    have hall := cnt_zero n hc
    have hL : L = ((List.range l.length).map (fun i => decide (i < n))).toArray := by
      apply Array.ext
      · simp [inv.size]
      · intro i h1 h2
        have hil : i < l.length := by simpa [inv.size] using h1
        simp only [List.getElem_toArray, List.getElem_map, List.getElem_range]
        by_cases hin : i < n
        · have := hall i hin
          simp [h1] at this
          simp [this, hin]
        · have := inv.tail i (by omega) hil
          simp [h1] at this
          simp [this, hin]
    have hlst : ∀ i, i < n → L.getD i false = true := by
      intro i hi
      have h1 := hall i hi
      have hsz : i < L.size := by rw [inv.size]; omega
      simp [hsz] at h1 ⊢
      exact h1
    have ha : a = fr l V a0 n := by
      have hfs := fr_size (l := l) (V := V) (a0 := a0) n
      have ht : a.tmps = (fr l V a0 n).tmps := by
        apply Array.ext_getElem?
        intro d
        have hf := fr_slot (l := l) (V := V) (a0 := a0) d n (fun p q op oq hp hq => headB_dst hB p q op oq d hp hq)
        by_cases hex : ∃ i o, i < n ∧ l[i]? = some o ∧ o.dst = some d
        · obtain ⟨i, o, hi, ho, hd⟩ := hex
          rw [inv.done i o d hi ho (hlst i hi) hd, hf.1 i o hi ho hd]
        · rw [inv.else_ d (fun i o hi ho _ hd => hex ⟨i, o, hi, ho, hd⟩), hf.2 (fun i o hi ho hd => hex ⟨i, o, hi, ho, hd⟩)]
      have hd : a.defers = (fr l V a0 n).defers := by rw [inv.defers, hfs.2]
      cases a
      cases hh : fr l V a0 n
      rw [hh] at ht hd
      simp only at ht hd
      rw [ht, hd]
    subst hL
    subst ha
    rw [Nat.zero_add]
    have hs := hB'.2
    have := wpAny_of_seq (P := P) (md := .any) (ops := l.toArray) (Q' := Q) (l.drop n) n _ (fr l V a0 n) w (by intro j; simp) (by rw [List.length_drop]; exact hs) (hend w hw)
    rwa [List.length_drop] at this
  | succ f ih =>
    intro L a w hc inv hw
    obtain ⟨i0, hi0, hun0, hlt0⟩ := cnt_pos n (by omega : 0 < cnt L n)
    rw [show f + 1 + (l.length - n) = (f + (l.length - n)) + 1 by omega]
    refine ⟨fun h0 => ?_, fun i hi => ?_⟩
    · exfalso
      have hlt : i0 < l.length := by omega
      have ho : l[i0]? = some l[i0] := List.getElem?_eq_getElem hlt
      have : i0 ∈ Region.ready .any l.toArray L := mem_ready.2 ⟨hun0, l[i0], by simp, fun e he hb => by
        have h1 := (headB_sel hB hi0 ho).2 e he hb
        have h2 := hlt0 e.on h1
        have hsz : e.on < L.size := by rw [inv.size]; omega
        simp [hsz] at h2 ⊢
        exact h2⟩
      rw [h0] at this
      cases this
    · have hin : i < n := by
        rcases Nat.lt_or_ge i n with h | h
        · exact h
        · exact absurd hi (tail_notReady hB inv hi0 hun0 i h)
      obtain ⟨hun, oi, hoi, hall⟩ := mem_ready.1 hi
      have hoi' : l[i]? = some oi := by simpa using hoi
      have hy := yields_at hB inv hin hoi' hun hall (hV i oi hin hoi')
      refine wpOp_of_qOp hw (fun a' w' hw' (hk : a' = a.put oi.dst (V i)) => ?_) (hy.qOp hoi (K := fun a' => a' = a.put oi.dst (V i)) rfl)
      subst hk
      exact ih _ _ _ (by have := cnt_set hun n hin; omega) (inv.step hB hin hoi' hun hall) hw'

/-- A REGION THAT DRAWS ITS ORDER, ITS FIRST n OPERATIONS QUIET IN A CLASS OF WORLDS, THE REST IN A ROW BEHIND THEM: one walk in the order of the text. -/
theorem wp_region_head {id : Nat} {Q : Exit → Act → World → Prop} {a : Act} {w : World} {l : List Oper} (n : Nat) (hm : P.follows .mixedOrders = true) (hB : headB l n = true) (hC : C { w with drawn := w.drawn + 1 })
    (h : wpQuiet P l.toArray C (fun a' => ∀ W, C W → wpList P l.toArray Q (l.drop n) a' W) (l.take n) a) : (Code.region id l.toArray true).wp P Q a w := by
  have hB' := hB
  simp only [headB, Bool.and_eq_true, decide_eq_true_eq] at hB'
  have hnl : n ≤ l.length := hB'.1.2
  have hlen : (l.take n).length = n := by simp; omega
  obtain ⟨V, hV, hq⟩ := quiet_vals h n (by omega)
  have hfr : ∀ k, k ≤ n → fr (l.take n) V a k = fr l V a k := by
    intro k
    induction k with
    | zero => intro _; rfl
    | succ k ih =>
      intro hk
      simp only [fr]
      rw [ih (by omega), List.getElem?_take_of_lt (by omega)]
  have hend : ∀ W, C W → wpList P l.toArray Q (l.drop n) (fr l V a n) W := by
    have hd : (l.take n).drop n = [] := List.drop_eq_nil_of_le (by omega)
    rw [hd, hfr n (Nat.le_refl _)] at hq
    exact hq
  have hV' : ∀ i o, i < n → l[i]? = some o → YieldsIn P l.toArray C o (V i) (fr l V a i) := by
    intro i o hi ho
    rw [← hfr i (by omega)]
    exact hV i o hi (by rw [List.getElem?_take_of_lt hi]; exact ho)
  refine wp_region_any hm ?_
  have hrep : ∀ j, j < l.length → (Array.replicate l.toArray.size false).getD j true = false := by intro j hj; simp [hj]
  have hcn : ∀ k, k ≤ n → cnt (Array.replicate l.toArray.size false) k = k := by
    intro k
    induction k with
    | zero => intro _; rfl
    | succ k ih =>
      intro hk
      simp only [cnt]
      rw [ih (by omega), hrep k (by omega)]
      simp
  have inv : FInv l V a n (Array.replicate l.toArray.size false) a :=
    ⟨by simp, fun t _ ht => hrep t ht, rfl, rfl, fun i o d hi ho hl => absurd hl (by rw [getD_replicate_false]; exact Bool.false_ne_true), fun j o ho hl => absurd hl (by rw [getD_replicate_false]; exact Bool.false_ne_true), fun _ _ => rfl⟩
  have := any_of_head (P := P) (C := C) hB hV' hend n _ a _ (hcn n (Nat.le_refl _)) inv hC
  have e : n + (l.length - n) = l.toArray.size := by simp; omega
  rwa [e] at this
end
open Go.RowKit

/-! ### worlds: nothing that was there has turned -/
theorem b_alloc {w W : World} (h : Below w.heap.size w W) (o : Obj) : Below w.heap.size w (W.alloc o) := h.alloc h.size o
theorem b_drew {w W : World} (h : Below w.heap.size w W) : Below w.heap.size w W.drew := h.drew
theorem b_drewN {w W : World} (h : Below w.heap.size w W) (n : Nat) : Below w.heap.size w (W.drewN n) := ⟨h.os, h.tape, h.output, h.size, h.block⟩
theorem b_step {w W w2 : World} (h : Below w.heap.size w W) (k : Below W.heap.size W w2) : Below w.heap.size w w2 := h.trans (k.mono h.size)
theorem b_set {w W : World} {p : Addr} {v : Value} (h : Below w.heap.size w W) (hg : w.heap.size ≤ p.block) : Below w.heap.size w (W.setCell p v) := h.setCell hg _
theorem bcell {W w1 : World} (hb : Below W.heap.size W w1) : (∀ b o, b < W.heap.size → w1.cell? ⟨b, o, none⟩ = W.cell? ⟨b, o, none⟩) ∧ (∀ b o, b < W.heap.size → w1.frozen? ⟨b, o, none⟩ = W.frozen? ⟨b, o, none⟩) :=
  ⟨fun b o h => hb.cell (p := ⟨b, o, none⟩) h, fun b o h => hb.frozen (p := ⟨b, o, none⟩) h⟩
theorem ret_int {k : IntKind} {a b : Int} (h : a = b) : Ending.returned (.int k a) = .returned (.int k b) := by rw [h]
theorem quiet_left {P : Program} {f : FuncId} {args : Array Value} {w : World} {n : Nat} {v : Value}
    (h : Calls P f args (w.drewN n) fun e w' => e = .returned v ∧ w.drewN n = w') : Calls P f args (w.drewN n) fun e w'' => e = .returned v ∧ ∃ m, w'' = w.drewN m :=
  h.mono fun _ _ ⟨he, hm⟩ => ⟨he, n, hm.symm⟩

/-- a world in which all that was in w is as it was -/
structure Later (w : World) where
  W : World
  h : Below w.heap.size w W
instance (w : World) : Nonempty (Later w) := ⟨⟨w, Below.refl _ _⟩⟩
theorem Later.cell {w : World} (x : Later w) {b o : Nat} {v : Value} (hc : w.cell? ⟨b, o, none⟩ = some v) : x.W.cell? ⟨b, o, none⟩ = some v :=
  (x.h.cell (p := ⟨b, o, none⟩) (World.block_lt_of_cell? w _ hc)).trans hc
theorem later_call {P : Program} {f : FuncId} {args : Array Value} {w : World} {x : Later w} {v : Value}
    (h : Calls P f args x.W fun e w' => e = .returned v ∧ Below x.W.heap.size x.W w') : Calls P f args x.W fun e w'' => e = .returned v ∧ ∃ y : Later w, w'' = y.W :=
  h.mono fun _ w' ⟨he, hm⟩ => ⟨he, ⟨w', b_step x.h hm⟩, rfl⟩
theorem later_same {P : Program} {f : FuncId} {args : Array Value} {w : World} {x : Later w} {v : Value}
    (h : Calls P f args x.W fun e w' => e = .returned v ∧ x.W = w') : Calls P f args x.W fun e w'' => e = .returned v ∧ ∃ y : Later w, w'' = y.W :=
  h.mono fun _ _ ⟨he, hm⟩ => ⟨he, x, hm.symm⟩
theorem wp_later {P : Program} {id : Nat} {Q : Exit → Act → World → Prop} {a : Act} {w : World} {l : List Oper} (n : Nat) (hm : P.follows .mixedOrders = true) (hB : headB l n = true)
    (h : wpQuiet P l.toArray (fun W => ∃ x : Later w, W = x.W) (fun a' => ∀ x : Later w, wpList P l.toArray Q (l.drop n) a' x.W) (l.take n) a) : (Code.region id l.toArray true).wp P Q a w :=
  wp_region_head (C := fun W => ∃ x : Later w, W = x.W) n hm hB ⟨⟨w.drew, (Below.refl _ _).drew⟩, rfl⟩ (by
    have e : (fun a' => ∀ W, (∃ x : Later w, W = x.W) → wpList P l.toArray Q (l.drop n) a' W) = (fun a' => ∀ x : Later w, wpList P l.toArray Q (l.drop n) a' x.W) := by
      funext a'
      exact propext ⟨fun h x => h _ ⟨x, rfl⟩, fun h W ⟨x, hx⟩ => hx ▸ h x⟩
    rw [e]; exact h)

/-- block g holds the cells cs, none of them frozen -/
structure Blk (w : World) (g : Nat) (cs : Array Value) : Prop where
  out : ∃ t, w.heap[g]? = some (.cells cs t (0, 0))
theorem Blk.lt {w : World} {g : Nat} {cs : Array Value} (h : Blk w g cs) : g < w.heap.size := by
  obtain ⟨t, h⟩ := h
  rcases Nat.lt_or_ge g w.heap.size with hlt | hge
  · exact hlt
  · rw [Array.getElem?_eq_none hge] at h; cases h
theorem Blk.cell {w : World} {g : Nat} {cs : Array Value} (h : Blk w g cs) (i : Nat) : w.cell? ⟨g, i, none⟩ = cs[i]? := by
  obtain ⟨t, h⟩ := h; exact cell_of_row w g i cs t (0, 0) h
theorem Blk.froz {w : World} {g : Nat} {cs : Array Value} (h : Blk w g cs) (i : Nat) : w.frozen? ⟨g, i, none⟩ = false := by
  obtain ⟨t, h⟩ := h; simp [World.frozen?, h]
theorem Blk.new (w : World) (t : TypeId) (cs : Array Value) : Blk (w.alloc (.cells cs t)) w.heap.size cs := ⟨t, heap_alloc_new w _⟩
theorem Blk.new_at {w : World} {g : Nat} (hg : w.heap.size = g) (t : TypeId) (cs : Array Value) : Blk (w.alloc (.cells cs t)) g cs := hg ▸ Blk.new w t cs
theorem Blk.drew {w : World} {g : Nat} {cs : Array Value} (h : Blk w g cs) : Blk w.drew g cs := ⟨h.out⟩
theorem Blk.drewN {w : World} {g : Nat} {cs : Array Value} (h : Blk w g cs) (n : Nat) : Blk (w.drewN n) g cs := ⟨h.out⟩
theorem Blk.alloc {w : World} {g : Nat} {cs : Array Value} (h : Blk w g cs) (o : Obj) : Blk (w.alloc o) g cs := by
  have hl := h.lt
  obtain ⟨t, h⟩ := h; exact ⟨t, (Below.heap_alloc w o g hl).trans h⟩
theorem Blk.set {w : World} {g : Nat} {cs : Array Value} (h : Blk w g cs) (i : Nat) (u : Value) : Blk (w.setCell ⟨g, i, none⟩ u) g (cs.setIfInBounds i u) := by
  obtain ⟨t, h⟩ := h
  exact ⟨t, by simp [World.setCell, Array.getElem?_modify, h]⟩
theorem Blk.far {w : World} {g : Nat} {cs : Array Value} (h : Blk w g cs) {p : Addr} (hp : g ≠ p.block) (u : Value) : Blk (w.setCell p u) g cs := by
  obtain ⟨t, h⟩ := h; exact ⟨t, (Below.heap_setCell w p u g hp).trans h⟩
theorem Blk.below {w w' : World} {g : Nat} {cs : Array Value} (h : Blk w g cs) (hb : Below w.heap.size w w') : Blk w' g cs := by
  have hl := h.lt
  obtain ⟨t, h⟩ := h; exact ⟨t, (hb.block g hl).trans h⟩
theorem Blk.later {w : World} {g : Nat} {cs : Array Value} (h : Blk w g cs) (x : Later w) : Blk x.W g cs := h.below x.h
theorem Blk.lcell {w : World} {g : Nat} {cs : Array Value} (h : Blk w g cs) (x : Later w) (i : Nat) : x.W.cell? ⟨g, i, none⟩ = cs[i]? := (h.later x).cell i
end Go.Proofs.YtolgljionpalkaaDoor
