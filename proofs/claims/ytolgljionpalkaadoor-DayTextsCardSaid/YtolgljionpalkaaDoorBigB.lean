/- Slices of whole numbers: reading, owning; norm. -/
import Derived.Test.YtolgljionpalkaaDoorChecked
import Derived.Test.YtolgljionpalkaaDoorBigA
import Derived.Laws.OwnMore
import Derived.OwnWalk
set_option linter.unusedSimpArgs false
set_option linter.unusedVariables false
namespace Go.Proofs.YtolgljionpalkaaDoor
open Go.RowKit Go.BigFrame
/-- cells F 0 .. F (n - 1) of kind k stand at A -/
structure Rd (w : World) (e : TypeId) (k : IntKind) (A : Option Addr) (n : Nat) (F : Nat → Nat) : Prop where
  some : 0 < n → ∃ g o, A = .some ⟨g, o, none⟩
  blk : ∀ g o, A = .some ⟨g, o, none⟩ → ∃ cur fz, w.heap[g]? = .some (.cells cur e fz)
  cell : ∀ g o, A = .some ⟨g, o, none⟩ → ∀ i, i < n → w.cell? ⟨g, o + i, none⟩ = .some (.int k (F i : Nat))
theorem Rd.lt {w : World} {e : TypeId} {k : IntKind} {A : Option Addr} {n : Nat} {F : Nat → Nat} (h : Rd w e k A n F) {g o : Nat} (hA : A = .some ⟨g, o, none⟩) : g < w.heap.size := by
  obtain ⟨cur, fz, hb⟩ := h.blk g o hA
  exact (Array.getElem?_eq_some_iff.1 hb).1
theorem Rd.of_blocks {w w' : World} {e : TypeId} {k : IntKind} {A : Option Addr} {n : Nat} {F : Nat → Nat} (h : Rd w e k A n F) (hb : ∀ g o, A = .some ⟨g, o, none⟩ → w'.heap[g]? = w.heap[g]?) : Rd w' e k A n F :=
  ⟨h.some, fun g o e => (hb g o e).symm ▸ h.blk g o e, fun g o e i hi => (World.cell?_of_block (a := ⟨g, o + i, none⟩) (hb g o e)).trans (h.cell g o e i hi)⟩
theorem Rd.below {w w' : World} {e : TypeId} {k : IntKind} {A : Option Addr} {n : Nat} {F : Nat → Nat} (h : Rd w e k A n F) (hb : Below w.heap.size w w') : Rd w' e k A n F :=
  h.of_blocks fun g o e => hb.block g (h.lt e)
theorem Rd.less {w : World} {e : TypeId} {k : IntKind} {A : Option Addr} {n m : Nat} {F : Nat → Nat} (h : Rd w e k A n F) (hm : m ≤ n) : Rd w e k A m F :=
  ⟨fun h0 => h.some (by omega), h.blk, fun g o e i hi => h.cell g o e i (by omega)⟩
theorem Rd.same {w : World} {e : TypeId} {k : IntKind} {A : Option Addr} {n : Nat} {F G : Nat → Nat} (h : Rd w e k A n F) (hm : ∀ i, i < n → F i = G i) : Rd w e k A n G :=
  ⟨h.some, h.blk, fun g o e i hi => hm i hi ▸ h.cell g o e i hi⟩
/-- the cells of limbs -/
def cl (k : IntKind) (F : Nat → Nat) (n : Nat) : List Value := (List.range n).map fun i => .int k (F i : Nat)
theorem cl_len (k : IntKind) (F : Nat → Nat) (n : Nat) : (cl k F n).length = n := by simp [cl]
theorem cl_get (k : IntKind) (F : Nat → Nat) {n i : Nat} (h : i < n) : (cl k F n)[i]? = some (.int k (F i : Nat)) := by simp [cl, h]
theorem cl_succ (k : IntKind) (F : Nat → Nat) (n : Nat) : cl k F (n + 1) = cl k F n ++ [.int k (F n : Nat)] := by simp [cl, List.range_succ]
theorem cl_congr (k : IntKind) {F G : Nat → Nat} {n : Nat} (h : ∀ i, i < n → F i = G i) : cl k F n = cl k G n := by
  unfold cl; apply List.map_congr_left; intro i hi; rw [h i (List.mem_range.1 hi)]
theorem cl_set (k : IntKind) (F : Nat → Nat) (n i x : Nat) : (cl k F n).set i (.int k (x : Nat)) = cl k (upd F i x) n := by
  apply List.ext_getElem
  · simp [cl]
  · intro j h1 h2
    have hj : j < n := by simpa [cl] using h2
    rw [List.getElem_set]
    by_cases c : i = j
    · subst c; simp [cl, upd]
    · rw [if_neg c]; simp [cl, upd, Ne.symm c]
/-- an own slice of limbs -/
def Ow (w : World) (base : Nat) (e : TypeId) (k : IntKind) (v : Value) (n : Nat) (F : Nat → Nat) : Prop := w.ownsRow base e 1 v n (cl k F n)
theorem Ow.rd {w : World} {base : Nat} {e : TypeId} {k : IntKind} {A : Option Addr} {n c : Nat} {F : Nat → Nat} (h : Ow w base e k (.slice A n c) n F) : Rd w e k A n F := by
  rcases h.2 with ⟨h1, h2⟩ | ⟨g, cap, cur, h1, h2, h3, h4⟩
  · subst h2
    cases h1
    exact ⟨fun h => by omega, fun g o e => (by cases e), fun g o e => (by cases e)⟩
  · cases h1
    refine ⟨fun _ => ⟨g, 0, rfl⟩, fun g' o e => ?_, fun g' o e i hi => ?_⟩
    · cases e; exact ⟨cur, _, h3⟩
    · cases e
      rw [Nat.zero_add, World.ownsRow.cellAt h i (by omega)]
      exact cl_get k F hi
theorem Ow.form {w : World} {base : Nat} {e : TypeId} {k : IntKind} {v : Value} {n : Nat} {F : Nat → Nat} (h : Ow w base e k v n F) :
    ∃ A c, v = .slice A n c ∧ n ≤ c ∧ c ≤ maxLen ∧ (0 < n → ∃ g, A = some ⟨g, 0, none⟩ ∧ base ≤ g ∧ g < w.heap.size) := by
  rcases h.2 with ⟨h1, h2⟩ | ⟨g, cap, cur, h1, h2, h3, h4, h5, h6⟩
  · exact ⟨none, 0, by rw [h1, h2], by omega, by simp [maxLen], by omega⟩
  · exact ⟨some ⟨g, 0, none⟩, cap, h1, h4, h5, fun _ => ⟨g, rfl, h2, (h.lt g (by rw [h1]; rfl)).2⟩⟩
theorem Ow.set {w : World} {base : Nat} {e : TypeId} {k : IntKind} {g n c i x : Nat} {F : Nat → Nat} (h : Ow w base e k (.slice (some ⟨g, 0, none⟩) n c) n F) :
    Ow (w.setCell ⟨g, i, none⟩ (.int k (x : Nat))) base e k (.slice (some ⟨g, 0, none⟩) n c) n (upd F i x) := by
  have := (World.ownsRow.stored h i (.int k (x : Nat))).1
  rw [cl_set] at this
  exact this
theorem Ow.at {w : World} {base : Nat} {e : TypeId} {k : IntKind} {g n c i : Nat} {F : Nat → Nat} (h : Ow w base e k (.slice (some ⟨g, 0, none⟩) n c) n F) (hi : i < n) : w.cell? ⟨g, i, none⟩ = some (.int k (F i : Nat)) := by
  rw [World.ownsRow.cellAt h i (by omega)]; exact cl_get k F hi
theorem Ow.froz {w : World} {base : Nat} {e : TypeId} {k : IntKind} {g n c : Nat} {F : Nat → Nat} (h : Ow w base e k (.slice (some ⟨g, 0, none⟩) n c) n F) (i : Nat) : w.frozen? ⟨g, i, none⟩ = false := World.ownsRow.frozenAt h i
theorem Ow.below {w w' : World} {base : Nat} {e : TypeId} {k : IntKind} {v : Value} {n : Nat} {F : Nat → Nat} (h : Ow w base e k v n F) (hb : Below w.heap.size w w') : Ow w' base e k v n F :=
  World.ownsRow.kept (row := none) h ⟨hb.os, hb.tape, hb.output, hb.size, fun i hi _ => hb.block i hi⟩ (by cases v.ownBlock <;> simp)
theorem Ow.mono {w : World} {base base' : Nat} {e : TypeId} {k : IntKind} {v : Value} {n : Nat} {F : Nat → Nat} (h : Ow w base e k v n F) (hb : base' ≤ base) : Ow w base' e k v n F :=
  ⟨h.1, h.2.imp id (fun ⟨g, cap, cur, a, b, c⟩ => ⟨g, cap, cur, a, Nat.le_trans hb b, c⟩)⟩
theorem Ow.other {w : World} {base : Nat} {e : TypeId} {k : IntKind} {v : Value} {n g i : Nat} {F : Nat → Nat} (h : Ow w base e k v n F) (u : Value) (hne : v.ownBlock ≠ some g) : Ow (w.setCell ⟨g, i, none⟩ u) base e k v n F :=
  World.ownsRow.kept (row := some g) h ⟨rfl, rfl, rfl, by simp, fun j _ hj => heap_setCell_other w ⟨g, i, none⟩ j u (fun e => hj (by simp [e]))⟩ (.inr hne)
/-- v is the number a, in limbs below B -/
def Num (w : World) (e : TypeId) (k : IntKind) (B : Nat) (v : Value) (a : Nat) : Prop :=
  ∃ A n c F, v = .slice A n c ∧ n ≤ c ∧ c ≤ maxLen ∧ Rd w e k A n F ∧ (∀ i, i < n → F i < B) ∧ (0 < n → F (n - 1) ≠ 0) ∧ vf B F n = a
theorem Num.below {w w' : World} {e : TypeId} {k : IntKind} {B : Nat} {v : Value} {a : Nat} (h : Num w e k B v a) (hb : Below w.heap.size w w') : Num w' e k B v a := by
  obtain ⟨A, n, c, F, h1, h2, h3, h4, h5⟩ := h
  exact ⟨A, n, c, F, h1, h2, h3, h4.below hb, h5⟩
/-- v lies in no block below B -/
def Fresh (B : Nat) (v : Value) : Prop := ∀ g, v.ownBlock = some g → B ≤ g
theorem Rd.kept {w w' : World} {e : TypeId} {k : IntKind} {A : Option Addr} {n c : Nat} {F : Nat → Nat} {row : Option Nat} (h : Rd w e k A n F) (hg : w.grownBy w' row) (hne : ∀ g, (Value.slice A n c).ownBlock = .some g → Option.some g ≠ row) : Rd w' e k A n F :=
  h.of_blocks fun g o e => hg.block g (h.lt e) (hne g (by rw [e]; rfl))
theorem Num.kept {w w' : World} {e : TypeId} {k : IntKind} {B : Nat} {v : Value} {a : Nat} {row : Option Nat} (h : Num w e k B v a) (hg : w.grownBy w' row) (hne : ∀ g, v.ownBlock = some g → some g ≠ row) : Num w' e k B v a := by
  obtain ⟨A, n, c, F, rfl, h2, h3, h4, h5⟩ := h
  exact ⟨A, n, c, F, rfl, h2, h3, h4.kept (c := c) hg (fun g hgg => hne g (by simpa [Value.ownBlock] using hgg)), h5⟩
theorem Num.fresh {w w' : World} {e : TypeId} {k : IntKind} {B : Nat} {v u : Value} {a : Nat} (h : Num w e k B v a) (hg : w.grownBy w' u.ownBlock) {L : Nat} (hf : Fresh L v) (hu : ∀ g, u.ownBlock = some g → g < L) : Num w' e k B v a :=
  h.kept hg fun g hgg he => by have := hf g hgg; have := hu g he.symm; omega
/-- what was normed is a number -/
theorem Rd.num {w : World} {e : TypeId} {k : IntKind} {B : Nat} {A : Option Addr} {n c : Nat} {F : Nat → Nat} (h : Rd w e k A n F) (hn : n ≤ c) (hc : c ≤ maxLen) (hF : ∀ i, i < n → F i < B) : Num w e k B (.slice A (nrm F n) c) (vf B F n) :=
  have l := nrm_le F n
  ⟨A, nrm F n, c, F, rfl, by omega, hc, h.less l, fun i hi => hF i (by omega), nrm_top F n, vf_nrm B F n⟩
theorem Num.zero (w : World) (e : TypeId) (k : IntKind) (B : Nat) : Num w e k B (.slice none 0 0) 0 :=
  ⟨none, 0, 0, fun _ => 0, rfl, by omega, by simp [maxLen], ⟨fun h => by omega, fun g o e => (by cases e), fun g o e => (by cases e)⟩, fun i hi => by omega, fun h => by omega, rfl⟩
/-- make([]int, n): an own row of noughts -/
theorem wpList_make_num {P : Program} (w : World) {ops : Array Oper} {rest : List Oper} {o : Oper} {a : Act} {Q : Exit → Act → World → Prop}
    (hg : o.guard = none) (l c : Operand) (t : TypeId) (hop : o.op = Op.makeSlice t l c)
    (base : Nat) (e : TypeId) (k : IntKind) (by_ : Nat) (h1 : P.underlying t = some (.slice e)) (hinfo : (P.info? e).map (fun i => (i.zero, i.size, i.bytes)) = some (some (.int k 0), 1, by_))
    (kl kc : IntKind) (L C : Int) (n : Nat) (hl : a.eval l = .int kl L) (hc : a.eval c = .int kc C) (hL : L = (n : Int)) (hC : C = (n : Int)) (b2 : by_ * n ≤ 281474976710656) (b3 : n ≤ maxLen) (b4 : base ≤ w.heap.size)
    (hK : ∀ w', Ow w' base e k (.slice (some ⟨w.heap.size, 0, none⟩) n n) n (fun _ => 0) → Below w.heap.size w w' → wpList P ops Q rest (a.put o.dst (.slice (some ⟨w.heap.size, 0, none⟩) n n)) w') :
    wpList P ops Q (o :: rest) a w := by
  obtain ⟨i, hi, hz0, hz1, hz2⟩ := info_parts hinfo
  refine wpList_make_full w hg l c t hop base e i (.int k 0) 1 h1 hi hz0 hz1 kl kc L C n hl hc hL hC (by rw [hz2]; exact b2) b3 b4 fun w' h g => hK w' ?_ (Below.grown (Below.refl _ w) g (Nat.le_refl _) (fun k hk => by cases hk))
  have e2 : (madeCells (Value.int k 0).cells (n * 1)).toList = cl k (fun _ => 0) n := by
    rw [Nat.mul_one, show (Value.int k 0).cells = #[.int k 0] from rfl, toList_madeCells_one]
    apply List.ext_getElem
    · simp [cl]
    · intro j h1 h2; simp [cl]
  unfold Ow
  rw [← e2]
  exact h
/-- append(s, x) of one number to an own slice -/
theorem wpList_append_num {P : Program} (w0 : World) (tt : TypeId) {ops : Array Oper} {rest : List Oper} {o : Oper} {a : Act} {Q : Exit → Act → World → Prop}
    (hg : o.guard = none) (s x : Operand) (t : TypeId) (hop : o.op = Op.call { callee := Callee.builtin Builtin.append, args := #[s, x], argTypes := #[t, t] })
    (base : Nat) (e : TypeId) (k : IntKind) (by_ : Nat) (h1 : P.underlying t = some (.slice e)) (hinfo : (P.info? e).map (fun i => (i.zero, i.size, i.bytes)) = some (some (.int k 0), 1, by_))
    (v : Value) (n : Nat) (F : Nat → Nat) (X : Nat) (x' : Int) (hX : x' = (X : Int)) (hs : a.eval s = v) (hx : a.eval x = .slice (some ⟨w0.heap.size, 0, none⟩) 1 1) (hown : Ow w0 base e k v n F)
    (b2 : (n + 1) * by_ ≤ 140737488355328) (b3 : n + 1 ≤ maxLen) (hb : base ≤ w0.heap.size)
    (hK : ∀ v' w', Ow w' base e k v' (n + 1) (upd F n X) → Below base w0 w' → w0.grownBy w' v.ownBlock → wpList P ops Q rest (a.put o.dst v') w') :
    wpList P ops Q (o :: rest) a (w0.alloc (.cells #[.int k x'] tt)) := by
  subst hX
  obtain ⟨i, hi, hz0, hz1, hz2⟩ := info_parts hinfo
  refine wpList_append_own _ hg s x t hop base e i (.int k 0) 1 by_ h1 hi hz0 hz1 hz2 rfl (by decide) v n _ hs (World.ownsRow.alloc hown _) ⟨w0.heap.size, 0, none⟩ 1 1 [.int k (X : Nat)] hx rfl ?_ ?_ b3 b2 (by simp; omega) ?_
  · intro j u hj
    match j, hj with
    | 0, hj => simp at hj; subst hj; simp [Addr.add]
  · intro u hu; simp at hu; subst hu; rfl
  · intro v' w' ho hgr _
    refine hK v' w' ?_ (((Below.refl base w0).alloc hb _).grown hgr (by simp; omega) (fun k hk => (World.ownsRow.lt hown k hk).1)) ⟨hgr.os, hgr.tape, hgr.output, Nat.le_trans (by simp) hgr.size, fun i hi hne => (hgr.block i (by simp; omega) hne).trans (heap_alloc_old w0 _ hi)⟩
    unfold Ow
    rw [cl_succ, upd_same, cl_congr (G := F) k (fun i hi => upd_other (by omega))]
    exact ho
end Go.Proofs.YtolgljionpalkaaDoor
