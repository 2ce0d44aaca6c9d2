import Derived.Test.YtbfhohpbldadbaaDbS1
import Derived.Below
import Derived.Deep.Draws
import Derived.Deep.AppendLies
import Derived.Maps.AppendAt
import Derived.OwnWalk
import Derived.Laws.BytesArg
import Derived.Laws.MakeOwn
import Derived.Laws.OwnMore
import Derived.Deep.OwnRows
import Derived.Tactics
import Derived.Lib.ConvBytes
import Derived.Laws.Slices
import Derived.WalkKit
import Derived.KernelRfl
import Derived.RowKit3
import Derived.Deep.LoopGhost
import Derived.Deep.QuietTactic
import Derived.BigQuiet
import Derived.WideLaws
import Derived.Deep.DeepCutAuto
import Derived.Deep.CutBlock
import Derived.Deep.RegionHeld3
import Derived.Laws.Rows
import Derived.Lib.AppendStr
import Derived.ArgAppend
import Derived.Laws.IdiomCopy
import Derived.RowKit
import Derived.Laws.StructEq
import Derived.Test.YtbfhohpbldadbaaProg
import Derived.OrdersHeld
import Derived.Laws.BitsLemmas
import Derived.Lib.Hide
import Derived.WalkSpells
import Derived.Lib.OthersKept
import Derived.Lib.TrimU
import Derived.Laws.RangeAny
import Derived.Maps.Keyed
import Derived.WideKeyRuns
import Derived.Lib.SliceRun
import Derived.Deep.RegionWith
-- PRINTED BY print.sh 35421559b90ae4d0a3588c463048766b98c2df88dd9212a6774a882060cdf62d: not written by this session
-- PRINTED WORDS (module Derived/Print/Words.lean): go-wishes' parts 1 to 38 and go-gate-2's additions: AI agents of Go's test side, Mon Nov 16 2026; no person has read them. Plain theorems and definitions: no macro, no elab, no axiom.
set_option linter.unusedVariables false
set_option linter.unusedSimpArgs false
namespace Go.Proofs.YtbfhohpbldadbaaW.PrintWords
open Go.RowKit

/-- A fact that the walk's simp doesn't look into. -/
structure Aside0 (p : Prop) : Prop where mk :: (out : p)
/-- The world is the old one, some orders having been drawn. -/
structure Drawn0 (w w' : World) : Prop where mk :: (out : ∃ n, w' = w.drewN n)
theorem Drawn0.refl (w : World) : Drawn0 w w := ⟨⟨0, rfl⟩⟩
theorem Drawn0.step {w w' : World} (h : Drawn0 w w') (n : Nat) : Drawn0 w (w'.drewN n) := by
  obtain ⟨m, rfl⟩ := h
  exact ⟨⟨m + n, World.drewN_drewN ..⟩⟩
theorem Drawn0.grown {w w' : World} (h : Drawn0 w w') : Grown w w' := by
  obtain ⟨n, rfl⟩ := h
  induction n with
  | zero => exact Grown.refl _
  | succ n ih => rw [← World.drew_drewN]; exact Grown.drew ih
theorem Drawn0.below {w w' : World} (h : Drawn0 w w') : Below w.heap.size w w' := by
  obtain ⟨n, rfl⟩ := h
  induction n with
  | zero => exact Below.refl _ _
  | succ n ih => rw [← World.drew_drewN]; exact ih.drew


/-! ### 2. The world -/
theorem below_alloc {w W : World} (h : Below w.heap.size w W) (o : Obj) : Below w.heap.size w (W.alloc o) := h.alloc h.size o
theorem below_drew {B : Nat} {w W : World} (h : Below B w W) : Below B w W.drew := ⟨h.os, h.tape, h.output, h.size, h.block⟩
theorem below_then {B : Nat} {w w1 w2 : World} (h : Below B w w1) (hB : B ≤ w1.heap.size) (k : Below w1.heap.size w1 w2) : Below B w w2 :=
  h.trans ⟨k.os, k.tape, k.output, k.size, fun i hi => k.block i (Nat.lt_of_lt_of_le hi hB)⟩
theorem grown_of_below {w w1 : World} (h : Below w.heap.size w w1) (row : Option Nat) : w.grownBy w1 row := ⟨h.os, h.tape, h.output, h.size, fun i hi _ => h.block i hi⟩
theorem pw_cell_below {w w1 : World} (h : Below w.heap.size w w1) {a : Addr} {v : Value} (hc : w.cell? a = some v) : w1.cell? a = some v := (h.cell (World.block_lt_of_cell? w a hc)).trans hc

/-! ### 3. A slice of whole numbers that is read; nil, empty and other slices alike -/
def ReadsInt (w : World) (k : IntKind) (A : Option Addr) (n : Nat) (xs : List Int) : Prop :=
  xs.length = n ∧ n ≤ 9223372036854775807 ∧ (0 < n → ∃ ad, A = some ad ∧ ∀ j, j < n → w.cell? (ad.add j) = some (.int k (xs.getD j 0)))
theorem ReadsInt.below {w w1 : World} {k : IntKind} {A : Option Addr} {n : Nat} {xs : List Int} (h : ReadsInt w k A n xs) (hb : Below w.heap.size w w1) : ReadsInt w1 k A n xs :=
  ⟨h.1, h.2.1, fun hn => by
    obtain ⟨ad, e, hc⟩ := h.2.2 hn
    exact ⟨ad, e, fun j hj => pw_cell_below hb (hc j hj)⟩⟩

/-! ### 4. A row of the call's own -/
theorem own_nil (W : World) (base : Nat) (e : TypeId) (size : Nat) : W.ownsRow base e size (.slice none 0 0) 0 [] := ⟨by simp, .inl ⟨rfl, rfl⟩⟩
theorem own_base {w : World} {base : Nat} {e : TypeId} {size n : Nat} {v : Value} {xs : List Value} (h : w.ownsRow base e size v n xs) (k : Nat) (hk : v.ownBlock = some k) : base ≤ k := by
  rcases h.2 with ⟨rfl, _⟩ | ⟨g, cap, cur, rfl, hb, _⟩
  · simp [Value.ownBlock] at hk
  · have : g = k := by simpa [Value.ownBlock] using hk
    omega
theorem own_lt {w : World} {base : Nat} {e : TypeId} {size n : Nat} {v : Value} {xs : List Value} (h : w.ownsRow base e size v n xs) (k : Nat) (hk : v.ownBlock = some k) : k < w.heap.size := by
  rcases h.2 with ⟨rfl, _⟩ | ⟨g, cap, cur, rfl, hb, hh, _⟩
  · simp [Value.ownBlock] at hk
  · have : g = k := by simpa [Value.ownBlock] using hk
    subst this
    exact (Array.getElem?_eq_some_iff.1 hh).1
theorem pw_own_below {w w1 : World} {base : Nat} {e : TypeId} {size n : Nat} {v : Value} {xs : List Value} (h : w.ownsRow base e size v n xs) (hb : Below w.heap.size w w1) : w1.ownsRow base e size v n xs :=
  h.kept (grown_of_below hb none) (by cases v.ownBlock <;> simp)
/-! ### 5. append(v, x): behind 'at_builtin'; the goal's world is 'W.alloc' of the variadic's box -/
section
variable {P : Program} {ops : Array Oper} {rest : List Oper} {o : Oper} {a : Act} {Q : Exit → Act → World → Prop}

end

/-! ### 6. make([]T, n), n an Int; a literal -/
section
variable {P : Program}
end
/-! ### 8. append(v, ys...): ys a slice that is read, nil let in; behind 'at_builtin' -/
section
variable {P : Program} {ops : Array Oper} {rest : List Oper} {o : Oper} {a : Act} {Q : Exit → Act → World → Prop}
end

/-- 'xs[:k]' and 'xs[k:]' of a slice that is read; the address of the second as_ the walk has it. -/
theorem ReadsInt.take_ {w : World} {k : IntKind} {A : Option Addr} {n : Nat} {xs : List Int} (h : ReadsInt w k A n xs) (i : Nat) (hi : i ≤ n) : ReadsInt w k A i (xs.take i) := by
  refine ⟨by rw [List.length_take, h.1]; omega, by have := h.2.1; omega, fun hp => ?_⟩
  obtain ⟨ad, e, hc⟩ := h.2.2 (by omega)
  refine ⟨ad, e, fun j hj => ?_⟩
  rw [hc j (by omega)]
  simp [List.getD_eq_getElem?_getD, hj]
/-! ### 10. Rounds: more rounds give the same answer; what ends gives a number of rounds -/
/-- Where the first answers, the second answers the same. -/
def LeO {α : Type} (a b : Option α) : Prop := ∀ r, a = some r → b = some r
theorem LeO.refl {α : Type} (a : Option α) : LeO a a := fun _ h => h
theorem LeO.none {α : Type} (b : Option α) : LeO Option.none b := fun _ h => by cases h
theorem LeO.trans {α : Type} {a b c : Option α} (h : LeO a b) (k : LeO b c) : LeO a c := fun r hr => k r (h r hr)
theorem LeO.ite {α : Type} {c : Prop} [Decidable c] {a a' b b' : Option α} (h : LeO a a') (k : LeO b b') : LeO (if c then a else b) (if c then a' else b') := by
  split
  · exact h
  · exact k
theorem LeO.bind {α β : Type} {a a' : Option α} {f f' : α → Option β} (h : LeO a a') (k : ∀ x, LeO (f x) (f' x)) : LeO (a.bind f) (a'.bind f') := by
  intro r hr
  obtain ⟨x, hx, hf⟩ := Option.bind_eq_some_iff.1 hr
  exact Option.bind_eq_some_iff.2 ⟨x, h x hx, k x r hf⟩
theorem LeO.map {α β : Type} {a a' : Option α} (f : α → β) (h : LeO a a') : LeO (a.map f) (a'.map f) := by
  intro r hr
  obtain ⟨x, hx, hf⟩ := Option.map_eq_some_iff.1 hr
  exact Option.map_eq_some_iff.2 ⟨x, h x hx, hf⟩
/-! ### 11. Rows of elements of several cells (structs): read, made. R: what an element's cells say ('RepItem w': printed for each type) -/
def Reps {α : Type} (R : α → List Value → Prop) (size : Nat) (ps : List α) (cs : List Value) : Prop :=
  cs.length = ps.length * size ∧ ∀ j p, ps[j]? = some p → R p ((cs.drop (j * size)).take size)
theorem Reps.none {α : Type} (R : α → List Value → Prop) (size : Nat) : Reps R size [] [] := ⟨by simp, fun j p h => by simp at h⟩
theorem Reps.snoc {α : Type} {R : α → List Value → Prop} {size : Nat} {ps : List α} {cs c : List Value} {p : α} (h : Reps R size ps cs) (hp : R p c) (hc : c.length = size) : Reps R size (ps ++ [p]) (cs ++ c) := by
  refine ⟨by rw [List.length_append, h.1, hc, List.length_append, List.length_singleton, Nat.add_mul, Nat.one_mul], fun j q hq => ?_⟩
  rcases Nat.lt_or_ge j ps.length with hj | hj
  · rw [List.getElem?_append_left hj] at hq
    have h1 : j * size + size ≤ cs.length := by rw [h.1, ← Nat.succ_mul]; exact Nat.mul_le_mul_right _ hj
    have h2 := h.2 j q hq
    rw [List.drop_append_of_le_length (by omega), List.take_append_of_le_length (by rw [List.length_drop]; omega)]
    exact h2
  · have hj' : j = ps.length := by
      have := (List.getElem?_eq_some_iff.1 hq).1
      rw [List.length_append, List.length_singleton] at this
      omega
    subst hj'
    have hq' : p = q := by simpa using hq
    subst hq'
    rw [← h.1, List.drop_left, ← hc, List.take_length]
    exact hp
theorem Reps.imp_ {α : Type} {R R' : α → List Value → Prop} {size : Nat} {ps : List α} {cs : List Value} (h : Reps R size ps cs) (hR : ∀ p c, R p c → R' p c) : Reps R' size ps cs := ⟨h.1, fun j p hj => hR _ _ (h.2 j p hj)⟩

def ReadsRow {α : Type} (R : α → List Value → Prop) (size : Nat) (w : World) (A : Option Addr) (n : Nat) (ps : List α) : Prop :=
  ps.length = n ∧ n ≤ 9223372036854775807 ∧ (0 < n → ∃ ad, A = some ad ∧ ∀ j p, ps[j]? = some p → ∃ c, c.length = size ∧ R p c ∧ ∀ i u, c[i]? = some u → w.cell? (ad.add (j * size + i)) = some u)
theorem ReadsRow.get_ {α : Type} {R : α → List Value → Prop} {size : Nat} {w : World} {A : Option Addr} {n : Nat} {ps : List α} (h : ReadsRow R size w A n ps) (d : α) (i : Int) (h0 : 0 ≤ i) (h1 : i < n) :
    ∃ ad c, A = some ad ∧ c.length = size ∧ R (ps.getD i.toNat d) c ∧ ∀ j u, c[j]? = some u → w.cell? (ad.add (i.toNat * size + j)) = some u := by
  obtain ⟨ad, e, hc⟩ := h.2.2 (by omega)
  have hl : i.toNat < ps.length := by have := h.1; omega
  obtain ⟨c, hs, hr, hcell⟩ := hc i.toNat _ (List.getElem?_eq_getElem hl)
  refine ⟨ad, c, e, hs, ?_, hcell⟩
  rw [List.getD_eq_getElem?_getD, List.getElem?_eq_getElem hl]
  exact hr
theorem ReadsRow.imp_ {α : Type} {R R' : α → List Value → Prop} {size : Nat} {w w1 : World} {A : Option Addr} {n : Nat} {ps : List α} (h : ReadsRow R size w A n ps) (hb : Below w.heap.size w w1) (hR : ∀ p c, R p c → R' p c) : ReadsRow R' size w1 A n ps :=
  ⟨h.1, h.2.1, fun hn => by
    obtain ⟨ad, e, hc⟩ := h.2.2 hn
    refine ⟨ad, e, fun j p hj => ?_⟩
    obtain ⟨c, hs, hr, hcell⟩ := hc j p hj
    exact ⟨c, hs, hR _ _ hr, fun i u hu => pw_cell_below hb (hcell i u hu)⟩⟩
theorem own_reads_row {α : Type} {R : α → List Value → Prop} {w : World} {base n size : Nat} {e : TypeId} {v : Value} {ps : List α} {cs : List Value} (h : w.ownsRow base e size v n cs) (hR : Reps R size ps cs) (hn : ps.length = n) :
    ∃ A c, v = .slice A n c ∧ ReadsRow R size w A n ps := by
  rcases Nat.eq_zero_or_pos n with h0 | h0
  · rcases h.2 with ⟨rfl, rfl⟩ | ⟨g, cap, cur, rfl, _⟩
    · exact ⟨none, 0, rfl, hn, by omega, fun hp => absurd hp (by omega)⟩
    · exact ⟨_, cap, rfl, hn, by omega, fun hp => absurd hp (by omega)⟩
  · obtain ⟨g, cap, rfl, _, _⟩ := h.form h0
    have hm : n ≤ 9223372036854775807 := by
      rcases h.2 with ⟨_, h1⟩ | ⟨g', cap', cur, he, _, _, h1, h2, _⟩
      · omega
      · simp only [maxLen] at h2
        omega
    refine ⟨_, cap, rfl, hn, hm, fun _ => ⟨_, rfl, fun j p hj => ⟨(cs.drop (j * size)).take size, ?_, hR.2 j p hj, fun i u hu => ?_⟩⟩⟩
    · have hjl := (List.getElem?_eq_some_iff.1 hj).1
      have h1 : j * size + size ≤ cs.length := by rw [hR.1, ← Nat.succ_mul]; exact Nat.mul_le_mul_right _ hjl
      rw [List.length_take, List.length_drop]
      omega
    · refine h.cells (g := g) rfl _ u ?_
      rw [List.getElem?_take] at hu
      split at hu
      · rw [List.getElem?_drop] at hu
        exact hu
      · cases hu
/-- A field's address as_ the walk spells it. -/
theorem add_field (ad : Addr) (m j : Nat) (hj : 0 < j) : ad.add (m + j) = ⟨(ad.add m).block, (ad.add m).off + j, none⟩ := by
  unfold Addr.add
  by_cases hm : m = 0
  · subst hm
    simp [Nat.ne_of_gt hj]
  · simp [hm, Nat.add_assoc]

section
variable {P : Program} {ops : Array Oper} {rest : List Oper} {o : Oper} {a : Act} {Q : Exit → Act → World → Prop}
/-- append(v, x), x of several cells; behind 'at_builtin'; the goal's world is 'W.alloc' of the variadic's box. -/
theorem print_append_cells {w0 W : World} (base : Nat) (hgd : o.guard = none) (s x : Operand) (t e : TypeId) (z : Value) (size bytes : Nat)
    (ho : o.op = .call { callee := .builtin .append, args := #[s, x], argTypes := #[t, t] })
    (ht : P.underlying t = some (.slice e)) (hinfo : (P.info? e).map (fun i => (i.zero, i.size, i.bytes)) = some (some z, size, bytes)) (hz : z.cells.size = size) (hs0 : 0 < size) (hb0 : 0 < bytes)
    (v : Value) (n : Nat) (xs ys : List Value) (hs : a.eval s = v) (hx : a.eval x = .slice (some ⟨W.heap.size, 0, none⟩) 1 1) (hys : ys.length = size) (h1 : ∀ u ∈ ys, u.oneCell' = true)
    (HO : W.ownsRow base e size v n xs) (HB : Below base w0 W) (hbase : base ≤ W.heap.size) (hl : (n + 1) * bytes ≤ 140737488355328)
    (h : ∀ v1 w1, w1.ownsRow base e size v1 (n + 1) (xs ++ ys) → Below base w0 w1 → W.grownBy w1 v.ownBlock → (v1.ownBlock = v.ownBlock ∨ ∃ b, v1.ownBlock = some b ∧ W.heap.size ≤ b) → wpList P ops Q rest (a.put o.dst v1) w1) :
    wpList P ops Q (o :: rest) a (W.alloc (.cells ys.toArray e)) := by
  obtain ⟨i0, hi, hzz⟩ := Option.map_eq_some_iff.1 hinfo
  simp only [Prod.mk.injEq] at hzz
  obtain ⟨hz0, hz1, hz2⟩ := hzz
  have hlen : n + 1 ≤ 140737488355328 := Nat.le_trans (Nat.le_mul_of_pos_right _ hb0) hl
  refine wpList_append_own_at (W.alloc (.cells ys.toArray e)) hgd s x t ho base e i0 z size bytes ht hi hz0 hz1 hz2 hz hs0 v n xs hs (HO.alloc _) ⟨W.heap.size, 0, none⟩ 1 1 ys hx (by rw [hys]; simp)
    (by simpa using World.news_of_block (cs := ys.toArray) (t := e) (fr := (0, 0)) (heap_alloc_new W (.cells ys.toArray e))) h1 (by simp only [maxLen]; omega) hl (by simp; omega) ?_
  intro v1 w1 hown hg _ hat
  refine h v1 w1 hown ((HB.alloc hbase _).grown hg (by simp; omega) (own_base HO)) (World.grownBy.trans (World.grownBy_alloc W _ _) hg) ?_
  rcases hat with hat | hat
  · exact .inl hat
  · exact .inr ⟨_, hat, by simp⟩
end

/-! ### 12. A block of one's own that is a state: its cells, what a store leaves -/
theorem own_ne {w : World} {base : Nat} {e t : TypeId} {size n g : Nat} {v : Value} {xs : List Value} {cs : Array Value} (h : w.ownsRow base e size v n xs) (hg : w.heap[g]? = some (.cells cs t (0, 0))) (hne : e ≠ t) : some g ≠ v.ownBlock := by
  rcases h.2 with ⟨rfl, _⟩ | ⟨g', cap, cur, rfl, _, hh, _⟩
  · simp [Value.ownBlock]
  · intro he
    have : g = g' := by simpa [Value.ownBlock] using he
    subst this
    rw [hg] at hh
    injection hh with hh
    injection hh with _ ht
    exact hne ht.symm
theorem blk_set {w : World} {g : Nat} {t : TypeId} {cs : Array Value} (h : w.heap[g]? = some (.cells cs t (0, 0))) (i : Nat) (u : Value) : (w.setCell ⟨g, i, none⟩ u).heap[g]? = some (.cells (cs.setIfInBounds i u) t (0, 0)) := by
  simp [World.setCell, Array.getElem?_modify, h]
theorem blk_far {w : World} {g : Nat} {t : TypeId} {cs : Array Value} (h : w.heap[g]? = some (.cells cs t (0, 0))) {p : Addr} (hp : g ≠ p.block) (u : Value) : (w.setCell p u).heap[g]? = some (.cells cs t (0, 0)) := (Below.heap_setCell w p u g hp).trans h
theorem blk_lt {w : World} {g : Nat} {o : Obj} (h : w.heap[g]? = some o) : g < w.heap.size := (Array.getElem?_eq_some_iff.1 h).1
theorem blk_cell {w : World} {g : Nat} {t : TypeId} {cs : Array Value} (h : w.heap[g]? = some (.cells cs t (0, 0))) (i : Nat) : w.cell? ⟨g, i, none⟩ = cs[i]? := cell_of_row w g i cs t (0, 0) h
theorem blk_frozen {w : World} {g : Nat} {t : TypeId} {cs : Array Value} (h : w.heap[g]? = some (.cells cs t (0, 0))) (i : Nat) : w.frozen? ⟨g, i, none⟩ = false := by simp [World.frozen?, h]
theorem blk_grown {w w1 : World} {g : Nat} {o : Obj} {row : Option Nat} (h : w.heap[g]? = some o) (hg : w.grownBy w1 row) (hne : some g ≠ row) : w1.heap[g]? = some o := (hg.block g (blk_lt h) hne).trans h
theorem blk_ne {w : World} {g g' : Nat} {t t' : TypeId} {cs cs' : Array Value} (h : w.heap[g]? = some (.cells cs t (0, 0))) (h' : w.heap[g']? = some (.cells cs' t' (0, 0))) (hne : t ≠ t') : g ≠ g' := by
  rintro rfl
  rw [h] at h'
  injection h' with h'
  injection h' with _ ht
  exact hne ht
/-! ### 13. Two states at once: what a call on the state at block g (its row before: 'row') has turned -/
def KeepBut (w w' : World) (g : Nat) (row : Option Nat) : Prop := w.heap.size ≤ w'.heap.size ∧ ∀ i, i < w.heap.size → i ≠ g → some i ≠ row → w'.heap[i]? = w.heap[i]?
theorem KeepBut.refl (w : World) (g : Nat) (row : Option Nat) : KeepBut w w g row := ⟨Nat.le_refl _, fun _ _ _ _ => rfl⟩
theorem KeepBut.trans {w w1 w2 : World} {g : Nat} {row row1 : Option Nat} (h : KeepBut w w1 g row) (k : KeepBut w1 w2 g row1) (hr : row1 = row ∨ ∃ b, row1 = some b ∧ w.heap.size ≤ b) : KeepBut w w2 g row :=
  ⟨Nat.le_trans h.1 k.1, fun i hi hg hn => by
    refine (k.2 i (Nat.lt_of_lt_of_le hi h.1) hg ?_).trans (h.2 i hi hg hn)
    rcases hr with rfl | ⟨b, rfl, hb⟩
    · exact hn
    · intro e
      injection e with e
      omega⟩
/-- Another block, another row: they live on. -/
theorem KeepBut.blk {w w1 : World} {g g' : Nat} {row : Option Nat} {o : Obj} (h : KeepBut w w1 g row) (hb : w.heap[g']? = some o) (hg : g' ≠ g) (hr : some g' ≠ row) : w1.heap[g']? = some o := (h.2 g' (blk_lt hb) hg hr).trans hb
theorem KeepBut.own {w w1 : World} {g : Nat} {row : Option Nat} {base : Nat} {e : TypeId} {size n : Nat} {v : Value} {xs : List Value} (h : KeepBut w w1 g row) (ho : w.ownsRow base e size v n xs) (hg : v.ownBlock ≠ some g) (hr : v.ownBlock = none ∨ v.ownBlock ≠ row) : w1.ownsRow base e size v n xs := by
  obtain ⟨h1, h2⟩ := ho
  refine ⟨h1, ?_⟩
  rcases h2 with h2 | ⟨b, cap, cur, rfl, hb, hh, r⟩
  · exact .inl h2
  · refine .inr ⟨b, cap, cur, rfl, hb, h.blk hh ?_ ?_, r⟩
    · intro e
      exact hg (by rw [← e]; rfl)
    · rcases hr with hr | hr
      · simp [Value.ownBlock] at hr
      · exact hr
/-! ### 10b. From some number of rounds on -/
def Ev {α : Type} (g : Nat → Option α) (r : α) : Prop := ∃ K, ∀ k, K ≤ k → g k = some r
theorem Ev.now {α : Type} (r : α) : Ev (fun _ => some r) r := ⟨0, fun _ _ => rfl⟩
theorem Ev.bind {α β : Type} {g : Nat → Option α} {f : Nat → α → Option β} {a : α} {r : β} (h : Ev g a) (k : Ev (fun n => f n a) r) : Ev (fun n => (g n).bind (f n)) r := by
  obtain ⟨K, h⟩ := h
  obtain ⟨K', k⟩ := k
  refine ⟨max K K', fun n hn => ?_⟩
  have h1 := h n (by omega)
  have h2 := k n (by omega)
  simp only [h1, Option.bind_some]
  exact h2
/-- One round of a loop. -/
theorem Ev.step {α : Type} {g f : Nat → Option α} {r : α} (h : ∀ k, g (k + 1) = f k) (k : Ev f r) : Ev g r := by
  obtain ⟨K, k⟩ := k
  refine ⟨K + 1, fun n hn => ?_⟩
  obtain ⟨m, rfl⟩ : ∃ m, n = m + 1 := ⟨n - 1, by omega⟩
  rw [h]
  exact k m (by omega)
theorem Ev.congr {α : Type} {g f : Nat → Option α} {r : α} (h : ∀ k, g k = f k) (k : Ev f r) : Ev g r := by
  obtain ⟨K, k⟩ := k
  exact ⟨K, fun n hn => (h n).trans (k n hn)⟩
/-! ### 14. append as_ one step of a region that draws its order: for 'go_region_law' (and a region walked by hand) -/
section
variable {P : Program} {ops : Array Oper} {o : Oper} {a : Act} {Q : Exit → Act → World → Prop} {K : Act → World → Prop}
theorem step_append_cells {w0 W : World} (base : Nat) (hw : Region.wanted o (yielded ops a.tmps) = true) (s x : Operand) (t e : TypeId) (z : Value) (size bytes : Nat)
    (ho : o.op = .call { callee := .builtin .append, args := #[s, x], argTypes := #[t, t] })
    (ht : P.underlying t = some (.slice e)) (hinfo : (P.info? e).map (fun i => (i.zero, i.size, i.bytes)) = some (some z, size, bytes)) (hz : z.cells.size = size) (hs0 : 0 < size) (hb0 : 0 < bytes)
    (v : Value) (n : Nat) (xs ys : List Value) (hs : a.eval s = v) (hx : a.eval x = .slice (some ⟨W.heap.size, 0, none⟩) 1 1) (hys : ys.length = size) (h1 : ∀ u ∈ ys, u.oneCell' = true)
    (HO : W.ownsRow base e size v n xs) (HB : Below base w0 W) (hbase : base ≤ W.heap.size) (hl : (n + 1) * bytes ≤ 140737488355328)
    (h : ∀ v1 w1, w1.ownsRow base e size v1 (n + 1) (xs ++ ys) → Below base w0 w1 → W.grownBy w1 v.ownBlock → (v1.ownBlock = v.ownBlock ∨ ∃ b, v1.ownBlock = some b ∧ W.heap.size ≤ b) → K (a.put o.dst v1) w1) :
    if Region.wanted o (yielded ops a.tmps) = true then Oper.wp P o a (W.alloc (.cells ys.toArray e)) K Q else K (a.put o.dst undef) (W.alloc (.cells ys.toArray e)) := by
  obtain ⟨i0, hi, hzz⟩ := Option.map_eq_some_iff.1 hinfo
  simp only [Prod.mk.injEq] at hzz
  obtain ⟨hz0, hz1, hz2⟩ := hzz
  have hlen : n + 1 ≤ 140737488355328 := Nat.le_trans (Nat.le_mul_of_pos_right _ hb0) hl
  rw [if_pos hw]
  obtain ⟨v1, w1, hr, hown, hg, _, hat⟩ := run_append_own_at (P := P) (W.alloc (.cells ys.toArray e)) base t o.type e i0 z size bytes ht hi hz0 hz1 hz2 hz hs0 v n xs (HO.alloc _) ⟨W.heap.size, 0, none⟩ 1 1 ys (by rw [hys]; simp)
    (by simpa using World.news_of_block (cs := ys.toArray) (t := e) (fr := (0, 0)) (heap_alloc_new W (.cells ys.toArray e))) h1 (by simp only [maxLen]; omega) hl (by simp; omega)
  unfold Oper.wp execOp
  simp only [ho, resolve, invoke, builtin, Sem.run_bind, Sem.run_pure, Result.andThen_ok, List.map_toArray, List.map_cons, List.map_nil, hs, hx, hr]
  refine h v1 w1 hown ((HB.alloc hbase _).grown hg (by simp; omega) (own_base HO)) (World.grownBy.trans (World.grownBy_alloc W _ _) hg) ?_
  rcases hat with hat | hat
  · exact .inl hat
  · exact .inr ⟨_, hat, by simp⟩
end
/-! ### 15. A row's base may be lowered -/
theorem own_weaken {w : World} {base base' : Nat} {e : TypeId} {size n : Nat} {v : Value} {xs : List Value} (h : w.ownsRow base e size v n xs) (hb : base' ≤ base) : w.ownsRow base' e size v n xs := by
  obtain ⟨h1, h2⟩ := h
  refine ⟨h1, ?_⟩
  rcases h2 with h2 | ⟨g, cap, cur, rfl, hg, r⟩
  · exact .inl h2
  · exact .inr ⟨g, cap, cur, rfl, Nat.le_trans hb hg, r⟩
/-! ### 16. Parts 3 to 9 for ANY element of one cell: 'enc' (Value.int k, Value.string, Value.bool), a default 'd' -/
section
variable {α : Type} {enc : α → Value} {d : α}
def ReadsOf (enc : α → Value) (d : α) (w : World) (A : Option Addr) (n : Nat) (xs : List α) : Prop :=
  xs.length = n ∧ n ≤ 9223372036854775807 ∧ (0 < n → ∃ ad, A = some ad ∧ ∀ j, j < n → w.cell? (ad.add j) = some (enc (xs.getD j d)))
theorem ReadsOf.below {w w1 : World} {A : Option Addr} {n : Nat} {xs : List α} (h : ReadsOf enc d w A n xs) (hb : Below w.heap.size w w1) : ReadsOf enc d w1 A n xs :=
  ⟨h.1, h.2.1, fun hn => by
    obtain ⟨ad, e, hc⟩ := h.2.2 hn
    exact ⟨ad, e, fun j hj => pw_cell_below hb (hc j hj)⟩⟩
theorem ReadsOf.take_ {w : World} {A : Option Addr} {n : Nat} {xs : List α} (h : ReadsOf enc d w A n xs) (i : Nat) (hi : i ≤ n) : ReadsOf enc d w A i (xs.take i) := by
  refine ⟨by rw [List.length_take, h.1]; omega, by have := h.2.1; omega, fun hp => ?_⟩
  obtain ⟨ad, e, hc⟩ := h.2.2 (by omega)
  refine ⟨ad, e, fun j hj => ?_⟩
  rw [hc j (by omega)]
  simp [List.getD_eq_getElem?_getD, hj]
end
section
variable {α : Type} {P : Program} {ops : Array Oper} {rest : List Oper} {o : Oper} {a : Act} {Q : Exit → Act → World → Prop}
end

/-! ### 19. Results that lie in memory beside others -/
section
variable {P : Program}
end
/-! ### 20. Rows of elements of any kind: R is what an element's cells say -/
theorem own_le {w : World} {base n m c size : Nat} {e : TypeId} {A : Option Addr} {xs : List Value} (h : w.ownsRow base e size (.slice A m c) n xs) : m ≤ c := by
  rcases h.2 with ⟨he, _⟩ | ⟨g, cap, cur, he, _, _, hnc, _⟩
  · injection he with _ h2 h3
    omega
  · injection he with _ h2 h3
    omega
def OwnRow {α : Type} (R : α → List Value → Prop) (e : TypeId) (size : Nat) (w : World) (base : Nat) (v : Value) (ps : List α) : Prop :=
  ∃ inner, w.ownsRow base e size v ps.length inner ∧ Reps R size ps inner
section
variable {α : Type} {R R' : α → List Value → Prop} {e : TypeId} {size : Nat} {w w1 : World} {base : Nat} {v : Value} {ps : List α}
theorem OwnRow.none_ (R : α → List Value → Prop) (e : TypeId) (size : Nat) (w : World) (base : Nat) : OwnRow R e size w base (.slice none 0 0) [] := ⟨[], own_nil _ _ _ _, Reps.none _ _⟩
theorem OwnRow.imp_ (h : OwnRow R e size w base v ps) (hR : ∀ p c, R p c → R' p c) : OwnRow R' e size w base v ps := by
  obtain ⟨inner, ho, hr⟩ := h
  exact ⟨inner, ho, hr.imp_ hR⟩
theorem OwnRow.below (h : OwnRow R e size w base v ps) (hb : Below w.heap.size w w1) : OwnRow R e size w1 base v ps := by
  obtain ⟨inner, ho, hr⟩ := h
  exact ⟨inner, pw_own_below ho hb, hr⟩
theorem OwnRow.keep (h : OwnRow R e size w base v ps) {g : Nat} {t : TypeId} {cells : Array Value} (hb : w.heap[g]? = some (.cells cells t (0, 0))) (ht : e ≠ t) (hk : KeepBut w w1 g none) : OwnRow R e size w1 base v ps := by
  obtain ⟨inner, ho, hr⟩ := h
  exact ⟨inner, hk.own ho (Ne.symm (own_ne ho hb ht)) (by cases v.ownBlock <;> simp), hr⟩
theorem OwnRow.reads (h : OwnRow R e size w base v ps) : ∃ A c, v = .slice A ps.length c ∧ ps.length ≤ c ∧ ReadsRow R size w A ps.length ps := by
  obtain ⟨inner, ho, hr⟩ := h
  obtain ⟨A, c, rfl, hrow⟩ := own_reads_row ho hr rfl
  exact ⟨A, c, rfl, own_le ho, hrow⟩
theorem OwnRow.ne_block (h : OwnRow R e size w base v ps) {g : Nat} {t : TypeId} {cells : Array Value} (hb : w.heap[g]? = some (.cells cells t (0, 0))) (ht : e ≠ t) : some g ≠ v.ownBlock := by
  obtain ⟨inner, ho, hr⟩ := h
  exact own_ne ho hb ht
end
section
variable {P : Program} {ops : Array Oper} {rest : List Oper} {o : Oper} {a : Act} {Q : Exit → Act → World → Prop} {α : Type} {R : α → List Value → Prop}
/-- append(v, x): x's cells are cs. R is that of the world AHEAD; move it over hg ('OwnRow.imp_'). -/
theorem OwnRow.append {w0 W : World} (base : Nat) (hgd : o.guard = none) (s x : Operand) (t e : TypeId) (z : Value) (size bytes : Nat)
    (ho : o.op = .call { callee := .builtin .append, args := #[s, x], argTypes := #[t, t] })
    (ht : P.underlying t = some (.slice e)) (hinfo : (P.info? e).map (fun i => (i.zero, i.size, i.bytes)) = some (some z, size, bytes)) (hz : z.cells.size = size) (hs0 : 0 < size) (hb0 : 0 < bytes)
    (v : Value) (ps : List α) (p : α) (cs : List Value) (hs : a.eval s = v) (hx : a.eval x = .slice (some ⟨W.heap.size, 0, none⟩) 1 1) (hp : R p cs) (hcs : cs.length = size) (h1 : ∀ u ∈ cs, u.oneCell' = true)
    (HO : OwnRow R e size W base v ps) (HB : Below base w0 W) (hbase : base ≤ W.heap.size) (hl : (ps.length + 1) * bytes ≤ 140737488355328)
    (h : ∀ v1 w1, OwnRow R e size w1 base v1 (ps ++ [p]) → Below base w0 w1 → W.grownBy w1 v.ownBlock → (v1.ownBlock = v.ownBlock ∨ ∃ b, v1.ownBlock = some b ∧ W.heap.size ≤ b) → wpList P ops Q rest (a.put o.dst v1) w1) :
    wpList P ops Q (o :: rest) a (W.alloc (.cells cs.toArray e)) := by
  obtain ⟨inner, hown, hr⟩ := HO
  refine print_append_cells base hgd s x t e z size bytes ho ht hinfo hz hs0 hb0 v ps.length inner cs hs hx hcs h1 hown HB hbase hl ?_
  intro v1 w1 hown1 hb1 hg1 hat1
  exact h v1 w1 ⟨inner ++ cs, by rw [List.length_append, List.length_singleton]; exact hown1, hr.snoc hp hcs⟩ hb1 hg1 hat1
end
section
variable {P : Program} {ops : Array Oper} {o : Oper} {a : Act} {Q : Exit → Act → World → Prop} {K : Act → World → Prop} {α : Type} {R : α → List Value → Prop}
end
/-- What is read as_ a row has its cells one behind the other. -/
theorem ReadsRow.inner_ {α : Type} {R : α → List Value → Prop} {size : Nat} {w : World} {ad : Addr} {n : Nat} {ps : List α} (h : ReadsRow R size w (some ad) n ps) :
    ∃ inner, Reps R size ps inner ∧ ∀ j u, inner[j]? = some u → w.cell? (ad.add j) = some u := by
  have key : ∀ m, m ≤ ps.length → ∃ inner, Reps R size (ps.take m) inner ∧ ∀ j u, inner[j]? = some u → w.cell? (ad.add j) = some u := by
    intro m
    induction m with
    | zero => exact fun _ => ⟨[], Reps.none _ _, fun j u hu => by simp at hu⟩
    | succ m ih =>
      intro hm
      obtain ⟨inner, hr, hc⟩ := ih (by omega)
      obtain ⟨ad', he, hcell⟩ := h.2.2 (by have := h.1; omega)
      injection he with he
      subst he
      obtain ⟨c, hcl, hp, hcc⟩ := hcell m _ (List.getElem?_eq_getElem (show m < ps.length by omega))
      refine ⟨inner ++ c, ?_, fun j u hu => ?_⟩
      · rw [List.take_succ_eq_append_getElem (show m < ps.length by omega)]
        exact hr.snoc hp hcl
      · have hil : inner.length = m * size := by rw [hr.1, List.length_take, Nat.min_eq_left (by omega)]
        rcases Nat.lt_or_ge j inner.length with hj | hj
        · rw [List.getElem?_append_left hj] at hu
          exact hc j u hu
        · rw [List.getElem?_append_right hj] at hu
          have := hcc (j - inner.length) u hu
          rwa [hil, Nat.add_sub_cancel' (by omega)] at this
  obtain ⟨inner, hr, hc⟩ := key ps.length (Nat.le_refl _)
  rw [List.take_length] at hr
  exact ⟨inner, hr, hc⟩
/-! ### 21. Cuts of a slice that came in, lengths spelled as_ the lists' -/
section
variable {α : Type} {P : Program}
end

/-! ### 22. append([]byte, s...), s a string; behind 'at_builtin'. (No word on where the new row lies: two rows of bytes at once don't go by it.) -/
section
variable {P : Program} {ops : Array Oper} {rest : List Oper} {o : Oper} {a : Act} {Q : Exit → Act → World → Prop}
end
/-! ### 23. KINDS: what a value's cells say, read (K) and made (M), kind by kind; every mover proved once -/
/-- ok: which blocks the rows inside may be ('not the row that is being written'). -/
structure Kd (α : Type) where
  sz : Nat
  E : List Nat
  K : World → α → List Value → Prop
  M : World → Nat → (Nat → Prop) → α → List Value → Prop
  K_len : ∀ {w x cs}, K w x cs → cs.length = sz
  K_one : ∀ {w x cs}, K w x cs → ∀ u ∈ cs, u.oneCell' = true
  K_below : ∀ {w w1 : World} {x cs}, Below w.heap.size w w1 → K w x cs → K w1 x cs
  K_of_M : ∀ {w base ok x cs}, M w base ok x cs → K w x cs
  M_mono : ∀ {w base ok ok' x cs}, (∀ k, ok k → ok' k) → M w base ok x cs → M w base ok' x cs
  M_bound : ∀ {w : World} {base ok x cs}, M w base ok x cs → M w base (fun k => ok k ∧ base ≤ k ∧ k < w.heap.size ∧ ∃ q, q ∈ E ∧ ∃ cells, w.heap[k]? = some (.cells cells q (0, 0))) x cs
  M_move : ∀ {w w1 : World} {base ok x cs}, (∀ k, ok k → w1.heap[k]? = w.heap[k]?) → M w base ok x cs → M w1 base ok x cs
  M_lower : ∀ {w base base' ok x cs}, base' ≤ base → M w base ok x cs → M w base' ok x cs

theorem own_move {w w1 : World} {base : Nat} {e : TypeId} {size n : Nat} {v : Value} {xs : List Value} (h : w.ownsRow base e size v n xs) (hm : ∀ k, v.ownBlock = some k → w1.heap[k]? = w.heap[k]?) : w1.ownsRow base e size v n xs := by
  obtain ⟨h1, h2⟩ := h
  refine ⟨h1, ?_⟩
  rcases h2 with h2 | ⟨g, cap, cur, rfl, hg, hh, r⟩
  · exact .inl h2
  · exact .inr ⟨g, cap, cur, rfl, hg, (hm g (by simp [Value.ownBlock])).trans hh, r⟩
theorem own_typed {w : World} {base : Nat} {e : TypeId} {size n : Nat} {v : Value} {xs : List Value} (h : w.ownsRow base e size v n xs) (k : Nat) (hk : v.ownBlock = some k) : ∃ cells, w.heap[k]? = some (.cells cells e (0, 0)) := by
  rcases h.2 with ⟨rfl, _⟩ | ⟨g, cap, cur, rfl, hg, hh, r⟩
  · simp [Value.ownBlock] at hk
  · have : g = k := by simpa [Value.ownBlock] using hk
    subst this
    exact ⟨cur, hh⟩

namespace Kd
/-- A row of elements that is read. -/
def C {α : Type} (d : Kd α) (w : World) (A : Option Addr) (n : Nat) (xs : List α) : Prop := ReadsRow (d.K w) d.sz w A n xs
/-- A row of elements (type e) of the call's own; the elements' rows are not this one. -/
def R {α : Type} (d : Kd α) (e : Nat) (w : World) (base : Nat) (ok : Nat → Prop) (v : Value) (xs : List α) : Prop :=
  (∀ k, v.ownBlock = some k → ok k) ∧ OwnRow (d.M w base (fun k => ok k ∧ some k ≠ v.ownBlock)) e d.sz w base v xs
section
variable {α : Type} {d : Kd α} {e : Nat} {w w1 : World} {base : Nat} {ok ok' : Nat → Prop} {v : Value} {xs : List α}
theorem C_below {A : Option Addr} {n : Nat} (h : d.C w A n xs) (hb : Below w.heap.size w w1) : d.C w1 A n xs := ReadsRow.imp_ h hb (fun _ _ hp => d.K_below hb hp)
theorem R_nil (d : Kd α) (e : Nat) (w : World) (base : Nat) (ok : Nat → Prop) : d.R e w base ok (.slice none 0 0) [] := ⟨fun k hk => by simp [Value.ownBlock] at hk, OwnRow.none_ _ _ _ _ _⟩
theorem R_mono (h : d.R e w base ok v xs) (hok : ∀ k, ok k → ok' k) : d.R e w base ok' v xs := ⟨fun k hk => hok k (h.1 k hk), h.2.imp_ (fun _ _ hp => d.M_mono (fun k hk => ⟨hok k hk.1, hk.2⟩) hp)⟩
theorem R_bound (h : d.R e w base ok v xs) : d.R e w base (fun k => ok k ∧ base ≤ k ∧ k < w.heap.size ∧ ∃ q, q ∈ e :: d.E ∧ ∃ cells, w.heap[k]? = some (.cells cells q (0, 0))) v xs := by
  obtain ⟨h0, inner, ho, hr⟩ := h
  refine ⟨fun k hk => ?_, inner, ho, hr.imp_ (fun _ _ hp => d.M_mono (fun k hk => ?_) (d.M_bound hp))⟩
  · obtain ⟨cells, hc⟩ := own_typed ho k hk
    exact ⟨h0 k hk, own_base ho k hk, own_lt ho k hk, e, List.mem_cons_self, cells, hc⟩
  · obtain ⟨⟨h1, h2⟩, h3, h4, q, hq, hc⟩ := hk
    exact ⟨⟨h1, h3, h4, q, List.mem_cons_of_mem _ hq, hc⟩, h2⟩
theorem R_move (h : d.R e w base ok v xs) (hm : ∀ k, ok k → w1.heap[k]? = w.heap[k]?) : d.R e w1 base ok v xs := by
  obtain ⟨h0, inner, ho, hr⟩ := h
  exact ⟨h0, inner, own_move ho (fun k hk => hm k (h0 k hk)), hr.imp_ (fun _ _ hp => d.M_move (fun k hk => hm k hk.1) hp)⟩
theorem R_lower {base' : Nat} (h : d.R e w base ok v xs) (hb : base' ≤ base) : d.R e w base' ok v xs := by
  obtain ⟨h0, inner, ho, hr⟩ := h
  exact ⟨h0, inner, own_weaken ho hb, hr.imp_ (fun _ _ hp => d.M_lower hb hp)⟩
/-- Any mover: what is ok, and a block of w's, stays. -/
theorem R_step (h : d.R e w base ok v xs) (hm : ∀ k, ok k → k < w.heap.size → w1.heap[k]? = w.heap[k]?) : d.R e w1 base ok v xs :=
  R_mono (R_move (R_bound h) (fun k hk => hm k hk.1 hk.2.2.1)) (fun _ hk => hk.1)
theorem M_step {x : α} {cs : List Value} (h : d.M w base ok x cs) (hm : ∀ k, ok k → k < w.heap.size → w1.heap[k]? = w.heap[k]?) : d.M w1 base ok x cs :=
  d.M_mono (fun _ hk => hk.1) (d.M_move (fun k hk => hm k hk.1 hk.2.2.1) (d.M_bound h))
theorem R_below (h : d.R e w base ok v xs) (hb : Below w.heap.size w w1) : d.R e w1 base ok v xs := R_step h (fun k _ hk => hb.block k hk)
theorem M_below {x : α} {cs : List Value} (h : d.M w base ok x cs) (hb : Below w.heap.size w w1) : d.M w1 base ok x cs := M_step h (fun k _ hk => hb.block k hk)
/-- Another row (a block, or none) has been written. -/
theorem R_grown (h : d.R e w base ok v xs) {row : Option Nat} (hg : w.grownBy w1 row) (hok : ∀ k, ok k → some k ≠ row) : d.R e w1 base ok v xs := R_step h (fun k ho hk => hg.block k hk (hok k ho))
/-- A store into another block. -/
theorem R_far (h : d.R e w base ok v xs) {p : Addr} (hok : ∀ k, ok k → k ≠ p.block) (u : Value) : d.R e (w.setCell p u) base ok v xs := R_step h (fun k ho _ => Below.heap_setCell w p u k (hok k ho))
/-- By types alone: the rows inside are none of a block of type t. -/
theorem R_types (h : d.R e w base ok v xs) {g t : Nat} {cells : Array Value} (hb : w.heap[g]? = some (.cells cells t (0, 0))) (ht : ∀ q, q ∈ e :: d.E → q ≠ t) : d.R e w base (fun k => ok k ∧ k ≠ g) v xs :=
  R_mono (R_bound h) (fun k hk => ⟨hk.1, by
    obtain ⟨_, _, _, q, hq, cells', hc⟩ := hk
    rintro rfl
    rw [hc] at hb
    injection hb with hb
    injection hb with _ hb
    exact ht q hq hb⟩)
theorem R_set (h : d.R e w base ok v xs) {g t : Nat} {cells : Array Value} (hb : w.heap[g]? = some (.cells cells t (0, 0))) (ht : ∀ q, q ∈ e :: d.E → q ≠ t) (j : Nat) (u : Value) : d.R e (w.setCell ⟨g, j, none⟩ u) base ok v xs :=
  R_mono (R_far (p := ⟨g, j, none⟩) (R_types h hb ht) (fun _ hk => hk.2) u) (fun _ hk => hk.1)
theorem R_reads (h : d.R e w base ok v xs) : ∃ A c, v = .slice A xs.length c ∧ xs.length ≤ c ∧ d.C w A xs.length xs := by
  obtain ⟨A, c, he, hl, hr⟩ := OwnRow.reads h.2
  exact ⟨A, c, he, hl, hr.imp_ (Below.refl _ _) (fun _ _ hp => d.K_of_M hp)⟩
theorem R_slice (h : d.R e w base ok v xs) : ∃ A c, v = .slice A xs.length c := by
  obtain ⟨A, c, he, _⟩ := R_reads h
  exact ⟨A, c, he⟩
theorem R_own (h : d.R e w base ok v xs) : ∃ inner, w.ownsRow base e d.sz v xs.length inner := by
  obtain ⟨_, inner, ho, _⟩ := h
  exact ⟨inner, ho⟩
theorem R_ne (h : d.R e w base ok v xs) {g t : Nat} {cells : Array Value} (hb : w.heap[g]? = some (.cells cells t (0, 0))) (ht : e ≠ t) : some g ≠ v.ownBlock := OwnRow.ne_block h.2 hb ht
/-- What was made from base on is none of the rows of an elder world. -/
theorem R_new {W : World} {b e0 s0 n0 : Nat} {u : Value} {ys : List Value} (h : d.R e w W.heap.size ok v xs) (ho : W.ownsRow b e0 s0 u n0 ys) : d.R e w W.heap.size (fun k => ok k ∧ some k ≠ u.ownBlock) v xs :=
  R_mono (R_bound h) (fun k hk => ⟨hk.1, fun e => by have := own_lt ho k e.symm; omega⟩)
end

/-! #### the kinds -/
def scalar {α : Type} (enc : α → Value) (h1 : ∀ x, (enc x).oneCell' = true) : Kd α where
  sz := 1
  E := []
  K := fun _ x cs => cs = [enc x]
  M := fun _ _ _ x cs => cs = [enc x]
  K_len := fun h => by rw [h]; rfl
  K_one := fun h u hu => by
    rw [h] at hu
    rw [List.mem_singleton.1 hu]
    exact h1 _
  K_below := fun _ h => h
  K_of_M := fun h => h
  M_mono := fun _ h => h
  M_bound := fun h => h
  M_move := fun _ h => h
  M_lower := fun _ h => h
def int (k : IntKind) : Kd Int := scalar (Value.int k) (fun _ => rfl)
def bool : Kd Bool := scalar Value.bool (fun _ => rfl)
def string : Kd ByteArray := scalar Value.string (fun _ => rfl)
def slice {α : Type} (e : Nat) (d : Kd α) : Kd (List α) where
  sz := 1
  E := e :: d.E
  K := fun w xs cs => ∃ A c, cs = [.slice A xs.length c] ∧ xs.length ≤ c ∧ d.C w A xs.length xs
  M := fun w base ok xs cs => ∃ v, cs = [v] ∧ d.R e w base ok v xs
  K_len := by
    rintro w x cs ⟨A, c, rfl, _⟩
    rfl
  K_one := by
    rintro w x cs ⟨A, c, rfl, _⟩ u hu
    rw [List.mem_singleton.1 hu]
    rfl
  K_below := by
    rintro w w1 x cs hb ⟨A, c, rfl, hl, hr⟩
    exact ⟨A, c, rfl, hl, C_below hr hb⟩
  K_of_M := by
    rintro w base ok x cs ⟨v, rfl, h⟩
    obtain ⟨A, c, rfl, hl, hr⟩ := R_reads h
    exact ⟨A, c, rfl, hl, hr⟩
  M_mono := by
    rintro w base ok ok' x cs hok ⟨v, rfl, h⟩
    exact ⟨v, rfl, R_mono h hok⟩
  M_bound := by
    rintro w base ok x cs ⟨v, rfl, h⟩
    exact ⟨v, rfl, R_bound h⟩
  M_move := by
    rintro w w1 base ok x cs hm ⟨v, rfl, h⟩
    exact ⟨v, rfl, R_move h hm⟩
  M_lower := by
    rintro w base base' ok x cs hb ⟨v, rfl, h⟩
    exact ⟨v, rfl, R_lower h hb⟩
/-- Two in line. -/
def pair {α β : Type} (a : Kd α) (b : Kd β) : Kd (α × β) where
  sz := a.sz + b.sz
  E := a.E ++ b.E
  K := fun w x cs => ∃ c0 c1, cs = c0 ++ c1 ∧ a.K w x.1 c0 ∧ b.K w x.2 c1
  M := fun w base ok x cs => ∃ c0 c1, cs = c0 ++ c1 ∧ a.M w base ok x.1 c0 ∧ b.M w base ok x.2 c1
  K_len := by
    rintro w x cs ⟨c0, c1, rfl, h0, h1⟩
    rw [List.length_append, a.K_len h0, b.K_len h1]
  K_one := by
    rintro w x cs ⟨c0, c1, rfl, h0, h1⟩ u hu
    rcases List.mem_append.1 hu with hu | hu
    · exact a.K_one h0 u hu
    · exact b.K_one h1 u hu
  K_below := by
    rintro w w1 x cs hb ⟨c0, c1, rfl, h0, h1⟩
    exact ⟨c0, c1, rfl, a.K_below hb h0, b.K_below hb h1⟩
  K_of_M := by
    rintro w base ok x cs ⟨c0, c1, rfl, h0, h1⟩
    exact ⟨c0, c1, rfl, a.K_of_M h0, b.K_of_M h1⟩
  M_mono := by
    rintro w base ok ok' x cs hok ⟨c0, c1, rfl, h0, h1⟩
    exact ⟨c0, c1, rfl, a.M_mono hok h0, b.M_mono hok h1⟩
  M_bound := by
    rintro w base ok x cs ⟨c0, c1, rfl, h0, h1⟩
    refine ⟨c0, c1, rfl, a.M_mono ?_ (a.M_bound h0), b.M_mono ?_ (b.M_bound h1)⟩
    · rintro k ⟨h2, h3, h4, q, hq, hc⟩
      exact ⟨h2, h3, h4, q, List.mem_append_left _ hq, hc⟩
    · rintro k ⟨h2, h3, h4, q, hq, hc⟩
      exact ⟨h2, h3, h4, q, List.mem_append_right _ hq, hc⟩
  M_move := by
    rintro w w1 base ok x cs hm ⟨c0, c1, rfl, h0, h1⟩
    exact ⟨c0, c1, rfl, a.M_move hm h0, b.M_move hm h1⟩
  M_lower := by
    rintro w base base' ok x cs hb ⟨c0, c1, rfl, h0, h1⟩
    exact ⟨c0, c1, rfl, a.M_lower hb h0, b.M_lower hb h1⟩
/-- A Lean structure by its fields. -/
def iso {α β : Type} (d : Kd α) (f : β → α) : Kd β where
  sz := d.sz
  E := d.E
  K := fun w x cs => d.K w (f x) cs
  M := fun w base ok x cs => d.M w base ok (f x) cs
  K_len := d.K_len
  K_one := d.K_one
  K_below := d.K_below
  K_of_M := d.K_of_M
  M_mono := d.M_mono
  M_bound := d.M_bound
  M_move := d.M_move
  M_lower := d.M_lower
/-- Nothing is of this kind: where the nesting's depth is used up. -/
def bot {α : Type} (sz : Nat) (E : List Nat) : Kd α where
  sz := sz
  E := E
  K := fun _ _ _ => False
  M := fun _ _ _ _ _ => False
  K_len := fun h => h.elim
  K_one := fun h => h.elim
  K_below := fun _ h => h
  K_of_M := fun h => h
  M_mono := fun _ h => h
  M_bound := fun h => h
  M_move := fun _ h => h
  M_lower := fun _ h => h
/-- A type nested in itself: nested at most n deep .. -/
def upto {α : Type} (F : Kd α → Kd α) (sz : Nat) (E : List Nat) : Nat → Kd α
  | 0 => bot sz E
  | n + 1 => F (upto F sz E n)
/-! #### an element of a row that is read; an element appended -/
theorem C_get {α : Type} {d : Kd α} {w : World} {A : Option Addr} {n : Nat} {xs : List α} (h : d.C w A n xs) (z : α) (i : Int) (h0 : 0 ≤ i) (h1 : i < n) :
    ∃ ad c, A = some ad ∧ c.length = d.sz ∧ d.K w (xs.getD i.toNat z) c ∧ ∀ j u, c[j]? = some u → w.cell? (ad.add (i.toNat * d.sz + j)) = some u := ReadsRow.get_ h z i h0 h1
/-- What an append leaves: the old elements' rows and the new one's are not the new row's block. -/
theorem R_appended {α : Type} {d : Kd α} {e base : Nat} {ok okp : Nat → Prop} {W w1 : World} {v v1 : Value} {xs : List α} {p : α} {inner cs : List Value} (h0 : ∀ k, v.ownBlock = some k → ok k) (hr : Reps (d.M W base (fun k => ok k ∧ some k ≠ v.ownBlock)) d.sz xs inner) (hp : d.M W base okp p cs) (hokp : ∀ k, okp k → ok k ∧ some k ≠ v.ownBlock) (hfresh : ∀ k, W.heap.size ≤ k → ok k)
    (hown : w1.ownsRow base e d.sz v1 (xs.length + 1) (inner ++ cs)) (hg : W.grownBy w1 v.ownBlock) (hat : v1.ownBlock = v.ownBlock ∨ ∃ b, v1.ownBlock = some b ∧ W.heap.size ≤ b) : d.R e w1 base ok v1 (xs ++ [p]) := by
  have hne : ∀ k, some k ≠ v.ownBlock → k < W.heap.size → some k ≠ v1.ownBlock := by
    intro k hk hlt
    rcases hat with hat | ⟨b, hb, hle⟩
    · rw [hat]; exact hk
    · rw [hb]
      intro he
      injection he with he
      omega
  have step : ∀ {q : α} {c : List Value} {o : Nat → Prop}, d.M W base o q c → (∀ k, o k → ok k ∧ some k ≠ v.ownBlock) → d.M w1 base (fun k => ok k ∧ some k ≠ v1.ownBlock) q c := by
    intro q c o hq ho
    have h1 := d.M_move (w1 := w1) (fun k hk => hg.block k hk.2.2.1 (ho k hk.1).2) (d.M_bound hq)
    exact d.M_mono (fun k hk => ⟨(ho k hk.1).1, hne k (ho k hk.1).2 hk.2.2.1⟩) h1
  refine ⟨fun k hk => ?_, inner ++ cs, by rw [List.length_append, List.length_singleton]; exact hown, ?_⟩
  · rcases hat with hat | ⟨b, hb, hle⟩
    · exact h0 k (hat ▸ hk)
    · rw [hb] at hk
      injection hk with hk
      exact hfresh k (by omega)
  · exact (hr.imp_ (fun _ _ hq => step hq (fun _ hk => hk))).snoc (step hp hokp) (d.K_len (d.K_of_M hp))
section
variable {P : Program} {ops : Array Oper} {rest : List Oper} {o : Oper} {a : Act} {Q : Exit → Act → World → Prop} {α : Type}
/-- append(v, x), behind 'at_builtin'; the goal's world is 'W.alloc' of the variadic's box; x's cells are cs, made (its rows satisfy okp). hfresh: a block that is new at W is ok. -/
theorem R_append (d : Kd α) {w0 W : World} (base : Nat) (hgd : o.guard = none) (s x : Operand) (t e : TypeId) (z : Value) (bytes : Nat)
    (ho : o.op = .call { callee := .builtin .append, args := #[s, x], argTypes := #[t, t] })
    (ht : P.underlying t = some (.slice e)) (hinfo : (P.info? e).map (fun i => (i.zero, i.size, i.bytes)) = some (some z, d.sz, bytes)) (hz : z.cells.size = d.sz) (hs0 : 0 < d.sz) (hb0 : 0 < bytes)
    (v : Value) (xs : List α) (p : α) (cs : List Value) (ok okp : Nat → Prop) (hs : a.eval s = v) (hx : a.eval x = .slice (some ⟨W.heap.size, 0, none⟩) 1 1) (hp : d.M W base okp p cs) (hokp : ∀ k, okp k → ok k ∧ some k ≠ v.ownBlock) (hfresh : ∀ k, W.heap.size ≤ k → ok k)
    (HO : d.R e W base ok v xs) (HB : Below base w0 W) (hbase : base ≤ W.heap.size) (hl : (xs.length + 1) * bytes ≤ 140737488355328)
    (h : ∀ v1 w1, d.R e w1 base ok v1 (xs ++ [p]) → Below base w0 w1 → W.grownBy w1 v.ownBlock → (v1.ownBlock = v.ownBlock ∨ ∃ b, v1.ownBlock = some b ∧ W.heap.size ≤ b) → wpList P ops Q rest (a.put o.dst v1) w1) :
    wpList P ops Q (o :: rest) a (W.alloc (.cells cs.toArray e)) := by
  obtain ⟨h0, inner, hown, hr⟩ := HO
  refine print_append_cells base hgd s x t e z d.sz bytes ho ht hinfo hz hs0 hb0 v xs.length inner cs hs hx (d.K_len (d.K_of_M hp)) (d.K_one (d.K_of_M hp)) hown HB hbase hl ?_
  intro v1 w1 hown1 hb1 hg1 hat1
  exact h v1 w1 (R_appended h0 hr hp hokp hfresh hown1 hg1 hat1) hb1 hg1 hat1
end
section
variable {P : Program} {ops : Array Oper} {o : Oper} {a : Act} {Q : Exit → Act → World → Prop} {Kc : Act → World → Prop} {α : Type}
theorem R_append_step (d : Kd α) {w0 W : World} (base : Nat) (hw : Region.wanted o (yielded ops a.tmps) = true) (s x : Operand) (t e : TypeId) (z : Value) (bytes : Nat)
    (ho : o.op = .call { callee := .builtin .append, args := #[s, x], argTypes := #[t, t] })
    (ht : P.underlying t = some (.slice e)) (hinfo : (P.info? e).map (fun i => (i.zero, i.size, i.bytes)) = some (some z, d.sz, bytes)) (hz : z.cells.size = d.sz) (hs0 : 0 < d.sz) (hb0 : 0 < bytes)
    (v : Value) (xs : List α) (p : α) (cs : List Value) (ok okp : Nat → Prop) (hs : a.eval s = v) (hx : a.eval x = .slice (some ⟨W.heap.size, 0, none⟩) 1 1) (hp : d.M W base okp p cs) (hokp : ∀ k, okp k → ok k ∧ some k ≠ v.ownBlock) (hfresh : ∀ k, W.heap.size ≤ k → ok k)
    (HO : d.R e W base ok v xs) (HB : Below base w0 W) (hbase : base ≤ W.heap.size) (hl : (xs.length + 1) * bytes ≤ 140737488355328)
    (h : ∀ v1 w1, d.R e w1 base ok v1 (xs ++ [p]) → Below base w0 w1 → W.grownBy w1 v.ownBlock → (v1.ownBlock = v.ownBlock ∨ ∃ b, v1.ownBlock = some b ∧ W.heap.size ≤ b) → Kc (a.put o.dst v1) w1) :
    if Region.wanted o (yielded ops a.tmps) = true then Oper.wp P o a (W.alloc (.cells cs.toArray e)) Kc Q else Kc (a.put o.dst undef) (W.alloc (.cells cs.toArray e)) := by
  obtain ⟨h0, inner, hown, hr⟩ := HO
  refine step_append_cells base hw s x t e z d.sz bytes ho ht hinfo hz hs0 hb0 v xs.length inner cs hs hx (d.K_len (d.K_of_M hp)) (d.K_one (d.K_of_M hp)) hown HB hbase hl ?_
  intro v1 w1 hown1 hb1 hg1 hat1
  exact h v1 w1 (R_appended h0 hr hp hokp hfresh hown1 hg1 hat1) hb1 hg1 hat1
end
end Kd
/-! ### 24. Kinds nested in themselves -/
namespace Kd
section
variable {α : Type} {F : Kd α → Kd α} {sz : Nat} {E : List Nat} {hs : ∀ n, (upto F sz E n).sz = sz} {hE : ∀ n q, q ∈ (upto F sz E n).E → q ∈ E}
end
end Kd
/-! ### 25. What is held while another row is written: 'ok' says that its rows are none of that row's block -/
namespace Kd
/-- Behind an append to v (it left v1): what is held apart from v is held apart from v1. -/
theorem R_after {α : Type} {d : Kd α} {e base : Nat} {ok : Nat → Prop} {W w1 : World} {u v v1 : Value} {xs : List α} (h : d.R e W base (fun k => ok k ∧ some k ≠ v.ownBlock) u xs) (hg : W.grownBy w1 v.ownBlock) (hat : v1.ownBlock = v.ownBlock ∨ ∃ b, v1.ownBlock = some b ∧ W.heap.size ≤ b) : d.R e w1 base (fun k => ok k ∧ some k ≠ v1.ownBlock) u xs := by
  refine R_mono (R_move (R_bound h) (fun k hk => hg.block k hk.2.2.1 hk.1.2)) (fun k hk => ⟨hk.1.1, ?_⟩)
  rcases hat with hat | ⟨b, hb, hle⟩
  · rw [hat]; exact hk.1.2
  · rw [hb]
    intro he
    injection he with he
    have := hk.2.2.1
    omega
end Kd
/-! ### 26. Words for a printer that takes every slice by its kind -/
namespace Kd
section
variable {α β : Type} {d : Kd α} {d' : Kd β} {e e' : Nat} {w w1 W : World} {base b b' : Nat} {ok ok' okv oku : Nat → Prop} {v u : Value} {xs : List α} {ys : List β}
theorem R_alloc (h : d.R e w base ok v xs) (o : Obj) : d.R e (w.alloc o) base ok v xs := R_below h (below_alloc (Below.refl _ _) o)
theorem R_drew (h : d.R e w base ok v xs) : d.R e w.drew base ok v xs := R_below h (below_drew (Below.refl _ _))
theorem C_drew {A : Option Addr} {n : Nat} (h : d.C w A n xs) : d.C w.drew A n xs := C_below h (below_drew (Below.refl _ _))
theorem C_nil (d : Kd α) (w : World) : d.C w none ([] : List α).length [] := ⟨rfl, by simp, fun h => absurd h (Nat.lt_irrefl 0)⟩
theorem R_reads' {A : Option Addr} {n c : Nat} (h : d.R e w base ok (.slice A n c) xs) : n = xs.length ∧ n ≤ c ∧ d.C w A xs.length xs := by
  obtain ⟨A', c', he, hl, hr⟩ := R_reads h
  injection he with h1 h2 h3
  subst h1
  exact ⟨h2, by omega, hr⟩
theorem R_lt (h : d.R e w base ok v xs) : ∀ k, v.ownBlock = some k → k < w.heap.size := by
  obtain ⟨inner, ho⟩ := R_own h
  exact own_lt ho
theorem R_base (h : d.R e w base ok v xs) : ∀ k, v.ownBlock = some k → base ≤ k := by
  obtain ⟨inner, ho⟩ := R_own h
  exact own_base ho
theorem R_form (h : d.R e w base ok v xs) (hp : 0 < xs.length) : ∃ g cap, v = .slice (some ⟨g, 0, none⟩) xs.length cap ∧ base ≤ g ∧ g < w.heap.size ∧ ∃ cells, w.heap[g]? = some (.cells cells e (0, 0)) := by
  obtain ⟨inner, ho⟩ := R_own h
  obtain ⟨g, cap, he, hb, hl⟩ := ho.form hp
  obtain ⟨cells, hc⟩ := own_typed ho g (by rw [he]; simp [Value.ownBlock])
  exact ⟨g, cap, he, hb, hl, cells, hc⟩
/-- By types alone: another row (of a type that is none of ours) has been written. -/
theorem R_over (h : d.R e W b ok u xs) (hv : d'.R e' W b' ok' v ys) (ht : ∀ q, q ∈ e :: d.E → q ≠ e') (hg : W.grownBy w1 v.ownBlock) : d.R e w1 b ok u xs := by
  obtain ⟨inner, ho⟩ := R_own hv
  refine R_mono (R_move (R_bound h) (fun k hk => hg.block k hk.2.2.1 (fun he => ?_))) (fun _ hk => hk.1)
  obtain ⟨_, _, _, q, hq, cells, hc⟩ := hk
  obtain ⟨cells', hc'⟩ := own_typed ho k he.symm
  rw [hc] at hc'
  injection hc' with hc'
  injection hc' with _ hc'
  exact ht q hq hc'
/-- A new row is none of an elder one's. -/
theorem R_elder (hu : d'.R e' W b oku u ys) (h : d.R e w1 W.heap.size okv v xs) (hb : Below W.heap.size W w1) : d'.R e' w1 b (fun k => oku k ∧ some k ≠ v.ownBlock) u ys := by
  obtain ⟨inner, ho⟩ := R_own h
  exact R_mono (R_move (R_bound hu) (fun k hk => hb.block k hk.2.2.1)) (fun k hk => ⟨hk.1, fun he => by have := own_base ho k he.symm; have := hk.2.2.1; omega⟩)
theorem R_newR (h : d.R e w1 W.heap.size ok v xs) (hu : d'.R e' W b oku u ys) : d.R e w1 W.heap.size (fun k => ok k ∧ some k ≠ u.ownBlock) v xs := by
  obtain ⟨inner, ho⟩ := R_own hu
  exact R_new h ho
end
/-! #### scalars -/
section
variable {w W : World} {A : Option Addr} {n : Nat}
variable {α : Type} {enc : α → Value} {h1 : ∀ x, (enc x).oneCell' = true} {e base g cap : Nat} {ok : Nat → Prop} {xs : List α}
end

/-! #### events: a letter for what make and a literal leave -/
section
variable {P : Program} {ops : Array Oper} {rest : List Oper} {o : Oper} {a : Act} {Q : Exit → Act → World → Prop}
variable {α : Type}
end
end Kd
section
variable {P : Program}
end
/-- A row of one's own that may begin inside its block. -/
def QRow (w : World) (base : Nat) (e : TypeId) (size : Nat) (v : Value) (n : Nat) (xs : List Value) : Prop :=
  xs.length = n * size ∧
  ((n = 0 ∧ ∃ A, v = .slice A 0 0 ∧ ∀ a, A = some a → base ≤ a.block ∧ ∃ cur, w.heap[a.block]? = some (.cells cur e (0, 0))) ∨
   ∃ g off cap cur, v = .slice (some ⟨g, off * size, none⟩) n cap ∧ base ≤ g ∧ w.heap[g]? = some (.cells cur e (0, 0)) ∧ n ≤ cap ∧ off + cap ≤ maxLen ∧ cur.size = (off + cap) * size ∧ (cur.toList.drop (off * size)).take (n * size) = xs)
section
variable {w w1 : World} {base n size : Nat} {e : TypeId} {v : Value} {xs : List Value}
end
section
variable {P : Program}
end
/-! ### 28. The kinds' words for cuts: R_take; Q (a row that may begin inside its block) with all of R's movers -/
namespace Kd
def Q {α : Type} (d : Kd α) (e : Nat) (w : World) (base : Nat) (ok : Nat → Prop) (v : Value) (xs : List α) : Prop :=
  (∀ k, v.ownBlock = some k → ok k) ∧ ∃ inner, QRow w base e d.sz v xs.length inner ∧ Reps (d.M w base (fun k => ok k ∧ some k ≠ v.ownBlock)) d.sz xs inner
section
variable {α : Type} {d : Kd α} {e : Nat} {w w1 W : World} {base : Nat} {ok ok' : Nat → Prop} {v : Value} {xs : List α}
end
section
variable {P : Program} {ops : Array Oper} {rest : List Oper} {o : Oper} {a : Act} {Q' : Exit → Act → World → Prop} {Kc : Act → World → Prop} {α : Type}
end
end Kd
/-! ### 29. Movers that ask of another row no more than they need: for R and for Q -/
namespace Kd
section
variable {α : Type} {d : Kd α} {e e' : Nat} {w w1 W : World} {base : Nat} {ok : Nat → Prop} {u v : Value} {xs : List α}
theorem R_typed (h : d.R e w base ok v xs) : ∀ k, v.ownBlock = some k → ∃ cells, w.heap[k]? = some (.cells cells e (0, 0)) := by
  obtain ⟨inner, ho⟩ := R_own h
  exact fun k hk => own_typed ho k hk
theorem R_over' (h : d.R e W base ok u xs) (hty : ∀ k, v.ownBlock = some k → ∃ cells, W.heap[k]? = some (.cells cells e' (0, 0))) (ht : ∀ q, q ∈ e :: d.E → q ≠ e') (hg : W.grownBy w1 v.ownBlock) : d.R e w1 base ok u xs := by
  refine R_mono (R_move (R_bound h) (fun k hk => hg.block k hk.2.2.1 (fun he => ?_))) (fun _ hk => hk.1)
  obtain ⟨_, _, _, q, hq, cells, hc⟩ := hk
  obtain ⟨cells', hc'⟩ := hty k he.symm
  rw [hc] at hc'
  injection hc' with hc'
  injection hc' with _ hc'
  exact ht q hq hc'
end
end Kd
namespace Kd
section
variable {α : Type} {d : Kd α} {e base g n cap : Nat} {ok okp : Nat → Prop} {W : World} {xs : List α}
end
end Kd
/-! ### 31. What came in, put into what is made: 'fixed d w0' (read in w0, whatever happens since), 'or_ a b', 'mix' (a slice that came in, or one that is made) -/
namespace Kd
section
variable {α : Type} {F : Kd α → Kd α} {sz : Nat} {E : List Nat} {hs : ∀ n, (upto F sz E n).sz = sz} {hE : ∀ n q, q ∈ (upto F sz E n).E → q ∈ E}
end
end Kd
/-! ### 32. A whole row appended, of elements of any kind; copy onto a row of scalars of one's own -/
namespace Kd
theorem reps_append {α : Type} {R : α → List Value → Prop} {size : Nat} {ps qs : List α} {cs ds : List Value} (h : Reps R size ps cs) (h' : Reps R size qs ds) : Reps R size (ps ++ qs) (cs ++ ds) := by
  refine ⟨by rw [List.length_append, List.length_append, h.1, h'.1, Nat.add_mul], fun j p hj => ?_⟩
  rcases Nat.lt_or_ge j ps.length with hlt | hge
  · rw [List.getElem?_append_left hlt] at hj
    have hle : j * size + size ≤ cs.length := by rw [h.1, ← Nat.succ_mul]; exact Nat.mul_le_mul_right _ hlt
    rw [List.drop_append_of_le_length (by omega), List.take_append_of_le_length (by rw [List.length_drop]; omega)]
    exact h.2 j p hj
  · rw [List.getElem?_append_right hge] at hj
    have h2 := h'.2 (j - ps.length) p hj
    have hle : ps.length * size ≤ j * size := Nat.mul_le_mul_right _ hge
    rw [List.drop_append, List.drop_eq_nil_of_le (by rw [h.1]; exact hle), List.nil_append, h.1, ← Nat.sub_mul]
    exact h2
section
variable {P : Program} {ops : Array Oper} {rest : List Oper} {o : Oper} {a : Act} {Q : Exit → Act → World → Prop} {α : Type}
/-- append(v, ys...): Rr is what is known of a read element's cells (d.K W; or k<T>.K w0 for a row that came in), hKM: it may stand as_ made. -/
theorem R_append_rows (d : Kd α) {Rr : α → List Value → Prop} {w0 W : World} (base : Nat) (hgd : o.guard = none) (s x : Operand) (t e : TypeId) (z : Value) (bytes : Nat)
    (ho : o.op = .call { callee := .builtin .append, args := #[s, x], argTypes := #[t, t] })
    (ht : P.underlying t = some (.slice e)) (hinfo : (P.info? e).map (fun i => (i.zero, i.size, i.bytes)) = some (some z, d.sz, bytes)) (hz : z.cells.size = d.sz) (hs0 : 0 < d.sz) (hb0 : 0 < bytes)
    (v : Value) (xs ys : List α) (A : Option Addr) (m c : Nat) (ok okp : Nat → Prop) (hs : a.eval s = v) (hx : a.eval x = .slice A m c)
    (HO : d.R e W base ok v xs) (HR : ReadsRow Rr d.sz W A m ys) (hKM : ∀ x cs, Rr x cs → d.M W base okp x cs) (hokp : ∀ k, okp k → ok k ∧ some k ≠ v.ownBlock) (hfresh : ∀ k, W.heap.size ≤ k → ok k)
    (HB : Below base w0 W) (hbase : base ≤ W.heap.size) (hl : (xs.length + m) * bytes ≤ 140737488355328)
    (h : ∀ v1 w1, d.R e w1 base ok v1 (xs ++ ys) → Below base w0 w1 → W.grownBy w1 v.ownBlock → (v1.ownBlock = v.ownBlock ∨ ∃ b, v1.ownBlock = some b ∧ W.heap.size ≤ b) → wpList P ops Q rest (a.put o.dst v1) w1) :
    wpList P ops Q (o :: rest) a W := by
  obtain ⟨i0, hi, hzz⟩ := Option.map_eq_some_iff.1 hinfo
  simp only [Prod.mk.injEq] at hzz
  obtain ⟨hz0, hz1, hz2⟩ := hzz
  have hm : ys.length = m := HR.1
  have hlen : xs.length + m ≤ 140737488355328 := Nat.le_trans (Nat.le_mul_of_pos_right _ hb0) hl
  obtain ⟨hok, inner, hown, hr⟩ := HO
  have hrun : ∃ v1 w1, (Builtin.append_ #[t, t] o.type #[v, .slice A m c]).run P W = .ok v1 w1 ∧ d.R e w1 base ok v1 (xs ++ ys) ∧ W.grownBy w1 v.ownBlock ∧ (v1.ownBlock = v.ownBlock ∨ ∃ b, v1.ownBlock = some b ∧ W.heap.size ≤ b) := by
    rcases A with _ | ad
    · have h0 : m = 0 := by
        rcases Nat.eq_zero_or_pos m with h0 | h0
        · exact h0
        · obtain ⟨ad, h, _⟩ := HR.2.2 h0
          cases h
      subst h0
      obtain rfl : ys = [] := List.eq_nil_of_length_eq_zero hm
      refine ⟨v, W, ?_, by rw [List.append_nil]; exact ⟨hok, inner, hown, hr⟩, World.grownBy.refl W _, .inl rfl⟩
      rcases hown.2 with ⟨rfl, hn⟩ | ⟨g, cap, cur, rfl, _, _, hnc, _⟩
      · simp [Builtin.append_, run_underlying ht, sizeOf, typeInfo, hi, Builtin.lenOf, Builtin.firstCells]
      · simp [Builtin.append_, run_underlying ht, sizeOf, typeInfo, hi, Builtin.lenOf, Builtin.firstCells, hnc, storeCells]
    · obtain ⟨news, hnr, hnc⟩ := ReadsRow.inner_ HR
      have hnM : Reps (d.M W base okp) d.sz ys news := hnr.imp_ (fun p c hp => hKM p c hp)
      have hone : ∀ u ∈ news, u.oneCell' = true := by
        intro u hu
        obtain ⟨q, hq, rfl⟩ := List.mem_iff_getElem.1 hu
        have hql : q / d.sz < ys.length := by
          rw [Nat.div_lt_iff_lt_mul hs0]
          rw [← hnM.1]
          exact hq
        have hc := hnM.2 (q / d.sz) _ (List.getElem?_eq_getElem hql)
        refine d.K_one (d.K_of_M hc) _ ?_
        rw [List.mem_iff_getElem?]
        refine ⟨q % d.sz, ?_⟩
        rw [List.getElem?_take, if_pos (Nat.mod_lt _ hs0), List.getElem?_drop, Nat.mul_comm, Nat.div_add_mod, List.getElem?_eq_getElem hq]
      obtain ⟨v1, w1, hrun, h2, hg, _, hat⟩ := run_append_own_at (P := P) W base t o.type e i0 z d.sz bytes ht hi hz0 hz1 hz2 hz hs0 v xs.length inner hown ad m c news (by rw [hnM.1, hm]) hnc hone (by simp only [maxLen]; omega) hl hbase
      have hat' : v1.ownBlock = v.ownBlock ∨ ∃ b, v1.ownBlock = some b ∧ W.heap.size ≤ b := by
        rcases hat with hat | hat
        · exact .inl hat
        · exact .inr ⟨_, hat, Nat.le_refl _⟩
      have hne : ∀ k, some k ≠ v.ownBlock → k < W.heap.size → some k ≠ v1.ownBlock := by
        intro k hk hlt
        rcases hat' with hat | ⟨b, hb, hle⟩
        · rw [hat]; exact hk
        · rw [hb]
          intro he
          injection he with he
          omega
      have step : ∀ {q : α} {c : List Value} {o : Nat → Prop}, d.M W base o q c → (∀ k, o k → ok k ∧ some k ≠ v.ownBlock) → d.M w1 base (fun k => ok k ∧ some k ≠ v1.ownBlock) q c := by
        intro q c o hq ho
        have h1 := d.M_move (w1 := w1) (fun k hk => hg.block k hk.2.2.1 (ho k hk.1).2) (d.M_bound hq)
        exact d.M_mono (fun k hk => ⟨(ho k hk.1).1, hne k (ho k hk.1).2 hk.2.2.1⟩) h1
      refine ⟨v1, w1, hrun, ⟨fun k hk => ?_, inner ++ news, by rw [List.length_append, hm]; exact h2, reps_append (hr.imp_ (fun _ _ hq => step hq (fun _ hk => hk))) (hnM.imp_ (fun _ _ hq => step hq hokp))⟩, hg, hat'⟩
      rcases hat' with hat | ⟨b, hb, hle⟩
      · exact hok k (hat ▸ hk)
      · rw [hb] at hk
        injection hk with hk
        exact hfresh k (by omega)
  obtain ⟨v1, w1, hr1, h1, hg, hat⟩ := hrun
  refine wpList_plain hgd fun K hK => ?_
  unfold Oper.wp execOp
  simp only [ho, resolve, invoke, builtin, Sem.run_bind, Sem.run_pure, Result.andThen_ok, List.map_toArray, List.map_cons, List.map_nil, hs, hx, hr1]
  exact hK _ _ (h v1 w1 h1 (HB.grown hg hbase (own_base hown)) hg hat)
end
end Kd
namespace Kd
section
variable {P : Program} {ops : Array Oper} {rest : List Oper} {o : Oper} {a : Act} {Q : Exit → Act → World → Prop} {α : Type}
end
end Kd
/-! ### 34. Cuts that are only read, of any row -/
theorem add_add (a : Addr) (i j : Nat) : (a.add i).add j = a.add (i + j) := by
  unfold Addr.add
  by_cases h1 : i = 0 <;> by_cases h2 : j = 0 <;> simp [h1, h2, Nat.add_assoc]
namespace Kd
section
variable {α : Type} {k : Kd α} {w : World} {A : Option Addr} {xs : List α} {m c : Nat}
theorem C_drop (h : k.C w A xs.length xs) (hm : m ≤ xs.length) (hc : xs.length ≤ c) : k.C w (if c = m then A else A.map (·.add (m * k.sz))) (xs.drop m).length (xs.drop m) := by
  have hl : (xs.drop m).length = xs.length - m := List.length_drop
  refine ⟨rfl, by rw [hl]; have := h.2.1; omega, fun hp => ?_⟩
  rw [hl] at hp
  obtain ⟨ad, rfl, hcell⟩ := h.2.2 (by omega)
  rw [if_neg (by omega)]
  refine ⟨ad.add (m * k.sz), rfl, fun j p hj => ?_⟩
  rw [List.getElem?_drop] at hj
  obtain ⟨cs, h1, h2, h3⟩ := hcell (m + j) p hj
  refine ⟨cs, h1, h2, fun i u hu => ?_⟩
  rw [add_add, show m * k.sz + (j * k.sz + i) = (m + j) * k.sz + i by rw [Nat.add_mul]; omega]
  exact h3 i u hu
end
end Kd
section
variable {P : Program}
end
theorem ReadsInt.nil (W : World) (k : IntKind) : ReadsInt W k none ([] : List Int).length [] := ⟨rfl, by simp, fun h => absurd h (Nat.lt_irrefl 0)⟩
theorem ReadsInt.drewN {W : World} {k : IntKind} {A : Option Addr} {n : Nat} {xs : List Int} (h : ReadsInt W k A n xs) (m : Nat) : ReadsInt (W.drewN m) k A n xs := h
theorem below_set {w W : World} {g j : Nat} {v : Value} (h : Below w.heap.size w W) (hg : w.heap.size ≤ g) : Below w.heap.size w (W.setCell ⟨g, j, none⟩ v) := h.setCell hg _
theorem keep_cell {w W : World} {g : Nat} (h : KeepBut w W g none) {a : Addr} {v : Value} (hc : w.cell? a = some v) (hne : a.block ≠ g) : W.cell? a = some v := by
  have := h.2 a.block (World.block_lt_of_cell? w a hc) hne (by simp)
  simpa [World.cell?, this] using hc
theorem add_block (a : Addr) (i : Nat) : (a.add i).block = a.block := by unfold Addr.add; split <;> rfl
theorem ReadsOf.nil {α : Type} (enc : α → Value) (d : α) (W : World) : ReadsOf enc d W none ([] : List α).length [] := ⟨rfl, by simp, fun h => absurd h (Nat.lt_irrefl 0)⟩
theorem ReadsOf.drewN {α : Type} {enc : α → Value} {d : α} {W : World} {A : Option Addr} {n : Nat} {xs : List α} (h : ReadsOf enc d W A n xs) (m : Nat) : ReadsOf enc d (W.drewN m) A n xs := h
theorem ReadsInt.keep {w W : World} {k : IntKind} {A : Option Addr} {n g : Nat} {xs : List Int} (h : ReadsInt w k A n xs) (hk : KeepBut w W g none) (hf : ∀ ad, A = some ad → 0 < n → ad.block ≠ g) : ReadsInt W k A n xs :=
  ⟨h.1, h.2.1, fun hn => by
    obtain ⟨ad, e, hc⟩ := h.2.2 hn
    exact ⟨ad, e, fun j hj => keep_cell hk (hc j hj) (by rw [add_block]; exact hf ad e hn)⟩⟩
theorem ReadsOf.keep {α : Type} {enc : α → Value} {d : α} {w W : World} {A : Option Addr} {n g : Nat} {xs : List α} (h : ReadsOf enc d w A n xs) (hk : KeepBut w W g none) (hf : ∀ ad, A = some ad → 0 < n → ad.block ≠ g) : ReadsOf enc d W A n xs :=
  ⟨h.1, h.2.1, fun hn => by
    obtain ⟨ad, e, hc⟩ := h.2.2 hn
    exact ⟨ad, e, fun j hj => keep_cell hk (hc j hj) (by rw [add_block]; exact hf ad e hn)⟩⟩
theorem blk_put {w : World} {g : Nat} {t : TypeId} {cs cs' : Array Value} (h : w.heap[g]? = some (.cells cs t (0, 0))) (i : Nat) (u : Value) (e : cs.setIfInBounds i u = cs') : (w.setCell ⟨g, i, none⟩ u).heap[g]? = some (.cells cs' t (0, 0)) := e ▸ blk_set h i u
namespace Kd
section
variable {α β : Type} {d : Kd α} {d' : Kd β} {e e' base base' n : Nat} {ok ok' : Nat → Prop} {w W w1 W1 : World} {v u : Value} {xs : List α} {ys : List β} {A : Option Addr} {c : Nat}
end
section
variable {α : Type} {enc : α → Value} {h1 : ∀ x, (enc x).oneCell' = true} {w W : World} {A : Option Addr} {n g : Nat} {xs : List α}
end
end Kd
namespace Kd
section
variable {α : Type} {d : Kd α} {e base g : Nat} {ok : Nat → Prop} {w w1 : World} {v : Value} {xs : List α} {o : Obj}
end
end Kd
section
variable {P : Program} {ops : Array Oper} {rest : List Oper} {o : Oper} {a : Act} {Q : Exit → Act → World → Prop}
end
namespace Kd
section
variable {α : Type} {enc : α → Value} {h1 : ∀ x, (enc x).oneCell' = true} {e base g n cap : Nat} {ok : Nat → Prop} {W : World} {xs : List α}
end
end Kd
section
variable {P : Program} {ops : Array Oper} {rest : List Oper} {o : Oper} {a : Act} {Q : Exit → Act → World → Prop}
end
namespace Kd
section
variable {α : Type} {enc : α → Value} {h1 : ∀ x, (enc x).oneCell' = true} {e base g n cap : Nat} {ok : Nat → Prop} {W : World} {xs : List α}
end
end Kd
section
variable {P : Program} {ops : Array Oper} {rest : List Oper} {o : Oper} {a : Act} {Q : Exit → Act → World → Prop} {W : World}
end
/-! ### 36. Events as_ one step of a region that draws (for one_, two_, three_) -/
section
variable {P : Program} {ops : Array Oper} {o : Oper} {a : Act} {Q : Exit → Act → World → Prop} {Kc : Act → World → Prop}
namespace Kd
variable {α : Type}
theorem R_append_rows_step (d : Kd α) {Rr : α → List Value → Prop} {w0 W : World} (base : Nat) (hw : Region.wanted o (yielded ops a.tmps) = true) (s x : Operand) (t e : TypeId) (z : Value) (bytes : Nat)
    (ho : o.op = .call { callee := .builtin .append, args := #[s, x], argTypes := #[t, t] })
    (ht : P.underlying t = some (.slice e)) (hinfo : (P.info? e).map (fun i => (i.zero, i.size, i.bytes)) = some (some z, d.sz, bytes)) (hz : z.cells.size = d.sz) (hs0 : 0 < d.sz) (hb0 : 0 < bytes)
    (v : Value) (xs ys : List α) (A : Option Addr) (m c : Nat) (ok okp : Nat → Prop) (hs : a.eval s = v) (hx : a.eval x = .slice A m c)
    (HO : d.R e W base ok v xs) (HR : ReadsRow Rr d.sz W A m ys) (hKM : ∀ x cs, Rr x cs → d.M W base okp x cs) (hokp : ∀ k, okp k → ok k ∧ some k ≠ v.ownBlock) (hfresh : ∀ k, W.heap.size ≤ k → ok k)
    (HB : Below base w0 W) (hbase : base ≤ W.heap.size) (hl : (xs.length + m) * bytes ≤ 140737488355328)
    (h : ∀ v1 w1, d.R e w1 base ok v1 (xs ++ ys) → Below base w0 w1 → W.grownBy w1 v.ownBlock → (v1.ownBlock = v.ownBlock ∨ ∃ b, v1.ownBlock = some b ∧ W.heap.size ≤ b) → Kc (a.put o.dst v1) w1) :
    if Region.wanted o (yielded ops a.tmps) = true then Oper.wp P o a W Kc Q else Kc (a.put o.dst undef) W := by
  obtain ⟨i0, hi, hzz⟩ := Option.map_eq_some_iff.1 hinfo
  simp only [Prod.mk.injEq] at hzz
  obtain ⟨hz0, hz1, hz2⟩ := hzz
  have hm : ys.length = m := HR.1
  have hlen : xs.length + m ≤ 140737488355328 := Nat.le_trans (Nat.le_mul_of_pos_right _ hb0) hl
  obtain ⟨hok, inner, hown, hr⟩ := HO
  have hrun : ∃ v1 w1, (Builtin.append_ #[t, t] o.type #[v, .slice A m c]).run P W = .ok v1 w1 ∧ d.R e w1 base ok v1 (xs ++ ys) ∧ W.grownBy w1 v.ownBlock ∧ (v1.ownBlock = v.ownBlock ∨ ∃ b, v1.ownBlock = some b ∧ W.heap.size ≤ b) := by
    rcases A with _ | ad
    · have h0 : m = 0 := by
        rcases Nat.eq_zero_or_pos m with h0 | h0
        · exact h0
        · obtain ⟨ad, h, _⟩ := HR.2.2 h0
          cases h
      subst h0
      obtain rfl : ys = [] := List.eq_nil_of_length_eq_zero hm
      refine ⟨v, W, ?_, by rw [List.append_nil]; exact ⟨hok, inner, hown, hr⟩, World.grownBy.refl W _, .inl rfl⟩
      rcases hown.2 with ⟨rfl, hn⟩ | ⟨g, cap, cur, rfl, _, _, hnc, _⟩
      · simp [Builtin.append_, run_underlying ht, sizeOf, typeInfo, hi, Builtin.lenOf, Builtin.firstCells]
      · simp [Builtin.append_, run_underlying ht, sizeOf, typeInfo, hi, Builtin.lenOf, Builtin.firstCells, hnc, storeCells]
    · obtain ⟨news, hnr, hnc⟩ := ReadsRow.inner_ HR
      have hnM : Reps (d.M W base okp) d.sz ys news := hnr.imp_ (fun p c hp => hKM p c hp)
      have hone : ∀ u ∈ news, u.oneCell' = true := by
        intro u hu
        obtain ⟨q, hq, rfl⟩ := List.mem_iff_getElem.1 hu
        have hql : q / d.sz < ys.length := by
          rw [Nat.div_lt_iff_lt_mul hs0]
          rw [← hnM.1]
          exact hq
        have hc := hnM.2 (q / d.sz) _ (List.getElem?_eq_getElem hql)
        refine d.K_one (d.K_of_M hc) _ ?_
        rw [List.mem_iff_getElem?]
        refine ⟨q % d.sz, ?_⟩
        rw [List.getElem?_take, if_pos (Nat.mod_lt _ hs0), List.getElem?_drop, Nat.mul_comm, Nat.div_add_mod, List.getElem?_eq_getElem hq]
      obtain ⟨v1, w1, hrun, h2, hg, _, hat⟩ := run_append_own_at (P := P) W base t o.type e i0 z d.sz bytes ht hi hz0 hz1 hz2 hz hs0 v xs.length inner hown ad m c news (by rw [hnM.1, hm]) hnc hone (by simp only [maxLen]; omega) hl hbase
      have hat' : v1.ownBlock = v.ownBlock ∨ ∃ b, v1.ownBlock = some b ∧ W.heap.size ≤ b := by
        rcases hat with hat | hat
        · exact .inl hat
        · exact .inr ⟨_, hat, Nat.le_refl _⟩
      have hne : ∀ k, some k ≠ v.ownBlock → k < W.heap.size → some k ≠ v1.ownBlock := by
        intro k hk hlt
        rcases hat' with hat | ⟨b, hb, hle⟩
        · rw [hat]; exact hk
        · rw [hb]
          intro he
          injection he with he
          omega
      have step : ∀ {q : α} {c : List Value} {o : Nat → Prop}, d.M W base o q c → (∀ k, o k → ok k ∧ some k ≠ v.ownBlock) → d.M w1 base (fun k => ok k ∧ some k ≠ v1.ownBlock) q c := by
        intro q c o hq ho
        have h1 := d.M_move (w1 := w1) (fun k hk => hg.block k hk.2.2.1 (ho k hk.1).2) (d.M_bound hq)
        exact d.M_mono (fun k hk => ⟨(ho k hk.1).1, hne k (ho k hk.1).2 hk.2.2.1⟩) h1
      refine ⟨v1, w1, hrun, ⟨fun k hk => ?_, inner ++ news, by rw [List.length_append, hm]; exact h2, reps_append (hr.imp_ (fun _ _ hq => step hq (fun _ hk => hk))) (hnM.imp_ (fun _ _ hq => step hq hokp))⟩, hg, hat'⟩
      rcases hat' with hat | ⟨b, hb, hle⟩
      · exact hok k (hat ▸ hk)
      · rw [hb] at hk
        injection hk with hk
        exact hfresh k (by omega)
  obtain ⟨v1, w1, hr1, h1, hg, hat⟩ := hrun
  rw [if_pos hw]
  unfold Oper.wp execOp
  simp only [ho, resolve, invoke, builtin, Sem.run_bind, Sem.run_pure, Result.andThen_ok, List.map_toArray, List.map_cons, List.map_nil, hs, hx, hr1]
  exact h v1 w1 h1 (HB.grown hg hbase (own_base hown)) hg hat
end Kd
end
section
variable {P : Program} {tmps : Array Value} {w : World}
end
/-! ### 38. 'out = append(out[:k], out[k+1:]...)': an element taken out of a row of one's own, in place -/
namespace Kd
section
variable {P : Program} {α : Type}
end
section
variable {P : Program} {ops : Array Oper} {rest : List Oper} {o : Oper} {a : Act} {Q : Exit → Act → World → Prop} {Kc : Act → World → Prop} {α : Type}
end
end Kd

end Go.Proofs.YtbfhohpbldadbaaW.PrintWords

-- PRINTED BY print.sh 35421559b90ae4d0a3588c463048766b98c2df88dd9212a6774a882060cdf62d: not written by this session
/-! ### 40. Elements whose inner rows lie apart: what is stored into one says nothing of the others.
   S: as R, with an owner function f (block to element's index). H: as S with a hole: of element i its cells alone are told, its blocks are oki. -/
namespace Go.Proofs.YtbfhohpbldadbaaW.PrintWords
open Go.RowKit
namespace Kd
/-- An element with its index: its blocks are those that f gives to it. -/
def tag {α : Type} (f : Nat → Nat) (d : Kd α) : Kd (α × Nat) where
  sz := d.sz
  E := d.E
  K := fun w x cs => d.K w x.1 cs
  M := fun w base ok x cs => d.M w base (fun k => ok k ∧ f k = x.2) x.1 cs
  K_len := fun h => d.K_len h
  K_one := fun h => d.K_one h
  K_below := fun hb h => d.K_below hb h
  K_of_M := fun h => d.K_of_M h
  M_mono := fun hok h => d.M_mono (fun k hk => ⟨hok k hk.1, hk.2⟩) h
  M_bound := fun h => d.M_mono (fun _ hk => ⟨⟨hk.1.1, hk.2⟩, hk.1.2⟩) (d.M_bound h)
  M_move := fun hm h => d.M_move (fun k hk => hm k hk.1) h
  M_lower := fun hb h => d.M_lower hb h
/-- The cells themselves. -/
def raw (sz : Nat) : Kd (List Value) where
  sz := sz
  E := []
  K := fun _ x cs => cs = x ∧ cs.length = sz ∧ ∀ u ∈ cs, u.oneCell' = true
  M := fun _ _ _ x cs => cs = x ∧ cs.length = sz ∧ ∀ u ∈ cs, u.oneCell' = true
  K_len := fun h => h.2.1
  K_one := fun h => h.2.2
  K_below := fun _ h => h
  K_of_M := fun h => h
  M_mono := fun _ h => h
  M_bound := fun h => h
  M_move := fun _ h => h
  M_lower := fun _ h => h
/-- A row of elements (type e) of the call's own, no two of which lead to one block. -/
def S {α : Type} (d : Kd α) (e : Nat) (w : World) (base : Nat) (ok : Nat → Prop) (v : Value) (xs : List α) : Prop := ∃ f, (tag f d).R e w base ok v xs.zipIdx
section
variable {α β : Type} {d : Kd α} {d' : Kd β} {e e' : Nat} {w w1 W : World} {base b : Nat} {ok ok' okv oku : Nat → Prop} {u v : Value} {xs : List α} {ys : List β}
end
section
variable {α β : Type} {d : Kd α} {d' : Kd β} {e e' g : Nat} {w w1 W : World} {base b : Nat} {ok ok' okv oku : Nat → Prop} {u v : Value} {xs : List α} {ys : List β}
end
/-! #### append, make, literals: the new element's blocks are none of the elder ones' -/
section
variable {P : Program} {ops : Array Oper} {rest : List Oper} {o : Oper} {a : Act} {Q : Exit → Act → World → Prop} {Kc : Act → World → Prop} {α : Type}
end
/-! #### a row with a hole: element i is lent, its blocks are oki; of it the row says its cells alone -/
/-- Element i is these cells; the others are d's. -/
def gap {α : Type} (f : Nat → Nat) (d : Kd α) (i : Nat) (c : List Value) : Kd (α × Nat) where
  sz := d.sz
  E := d.E
  K := fun w x cs => (x.2 = i → cs = c ∧ cs.length = d.sz ∧ ∀ u ∈ cs, u.oneCell' = true) ∧ (x.2 ≠ i → d.K w x.1 cs)
  M := fun w base ok x cs => (x.2 = i → cs = c ∧ cs.length = d.sz ∧ ∀ u ∈ cs, u.oneCell' = true) ∧ (x.2 ≠ i → d.M w base (fun k => ok k ∧ f k = x.2) x.1 cs)
  K_len := fun {w x cs} h => by
    by_cases hx : x.2 = i
    · exact (h.1 hx).2.1
    · exact d.K_len (h.2 hx)
  K_one := fun {w x cs} h => by
    by_cases hx : x.2 = i
    · exact (h.1 hx).2.2
    · exact d.K_one (h.2 hx)
  K_below := fun hb h => ⟨h.1, fun hx => d.K_below hb (h.2 hx)⟩
  K_of_M := fun h => ⟨h.1, fun hx => d.K_of_M (h.2 hx)⟩
  M_mono := fun hok h => ⟨h.1, fun hx => d.M_mono (fun k hk => ⟨hok k hk.1, hk.2⟩) (h.2 hx)⟩
  M_bound := fun h => ⟨h.1, fun hx => d.M_mono (fun _ hk => ⟨⟨hk.1.1, hk.2⟩, hk.1.2⟩) (d.M_bound (h.2 hx))⟩
  M_move := fun hm h => ⟨h.1, fun hx => d.M_move (fun k hk => hm k hk.1) (h.2 hx)⟩
  M_lower := fun hb h => ⟨h.1, fun hx => d.M_lower hb (h.2 hx)⟩
def H {α : Type} (d : Kd α) (e : Nat) (w : World) (base : Nat) (ok : Nat → Prop) (v : Value) (xs : List α) (i : Int) (oki : Nat → Prop) (c : List Value) : Prop :=
  (∀ k, oki k → ok k) ∧ ∃ f, (gap f d i.toNat c).R e w base (fun k => ok k ∧ ¬ oki k) v xs.zipIdx
section
variable {α β : Type} {d : Kd α} {e e' g n cap : Nat} {w w1 W : World} {base : Nat} {ok ok' oki okp : Nat → Prop} {u v : Value} {xs : List α} {i : Int} {c : List Value}
end
section
variable {P : Program} {ops : Array Oper} {rest : List Oper} {o : Oper} {a : Act} {Q : Exit → Act → World → Prop} {α : Type}
end
end Kd
end Go.Proofs.YtbfhohpbldadbaaW.PrintWords

-- PRINTED BY print.sh 35421559b90ae4d0a3588c463048766b98c2df88dd9212a6774a882060cdf62d: not written by this session
/-! ### 43. What is read beside a state: it stays read whatever the state's calls turn ('∀ W', KeepBut w W' g none → d.C W' A n xs') -/
namespace Go.Proofs.YtbfhohpbldadbaaW.PrintWords
open Go.RowKit
namespace Kd
/-- What a kind reads lies in the blocks: nothing else of the world is looked at. -/
structure Heap {α : Type} (d : Kd α) : Prop where
  K : ∀ {w w1 : World} {x : α} {cs : List Value}, (∀ k, k < w.heap.size → w1.heap[k]? = w.heap[k]?) → d.K w x cs → d.K w1 x cs
theorem cell_heap {w w1 : World} (hb : ∀ k, k < w.heap.size → w1.heap[k]? = w.heap[k]?) {a : Addr} {v : Value} (h : w.cell? a = some v) : w1.cell? a = some v := by
  have := hb a.block (World.block_lt_of_cell? w a h)
  simpa [World.cell?, this] using h
theorem Heap.C {α : Type} {d : Kd α} (hd : Heap d) {w w1 : World} {A : Option Addr} {n : Nat} {xs : List α} (hb : ∀ k, k < w.heap.size → w1.heap[k]? = w.heap[k]?) (h : d.C w A n xs) : d.C w1 A n xs :=
  ⟨h.1, h.2.1, fun hn => by
    obtain ⟨ad, e, hc⟩ := h.2.2 hn
    refine ⟨ad, e, fun j p hj => ?_⟩
    obtain ⟨c, hs, hr, hcell⟩ := hc j p hj
    exact ⟨c, hs, hd.K hb hr, fun i u hu => cell_heap hb (hcell i u hu)⟩⟩
section
variable {α : Type} {d : Kd α} {e base g n c : Nat} {ok : Nat → Prop} {w w0 W : World} {A : Option Addr} {xs : List α}
end
end Kd
end Go.Proofs.YtbfhohpbldadbaaW.PrintWords

-- PRINTED BY print.sh 35421559b90ae4d0a3588c463048766b98c2df88dd9212a6774a882060cdf62d: not written by this session
/-! ### 45. What a call keeps: all but the blocks of S (the rows that it was given to write) and what is new since -/
namespace Go.Proofs.YtbfhohpbldadbaaW.PrintWords
open Go.RowKit
def Kept (w W : World) (S : Nat → Prop) : Prop := w.heap.size ≤ W.heap.size ∧ ∀ i, i < w.heap.size → ¬ S i → W.heap[i]? = w.heap[i]?
section
variable {w W W2 : World} {S S2 S' : Nat → Prop}
theorem Kept.refl (w : World) (S : Nat → Prop) : Kept w w S := ⟨Nat.le_refl _, fun _ _ _ => rfl⟩
theorem Kept.of_below (h : Below w.heap.size w W) (S : Nat → Prop) : Kept w W S := ⟨h.size, fun i hi _ => h.block i hi⟩
theorem Kept.mono (h : Kept w W S) (hs : ∀ k, S k → S' k) : Kept w W S' := ⟨h.1, fun i hi hn => h.2 i hi (fun hk => hn (hs i hk))⟩
theorem Kept.then_ (h : Kept w W S) (k : Kept W W2 S2) (hs : ∀ k, S2 k → S k ∨ w.heap.size ≤ k) : Kept w W2 S :=
  ⟨Nat.le_trans h.1 k.1, fun i hi hn => (k.2 i (Nat.lt_of_lt_of_le hi h.1) (fun h2 => (hs i h2).elim hn (fun h3 => by omega))).trans (h.2 i hi hn)⟩
theorem Kept.below (h : Kept w W S) (hb : Below W.heap.size W W2) : Kept w W2 S := h.then_ (Kept.of_below hb (fun _ => False)) (fun _ hk => hk.elim)
theorem Kept.alloc (h : Kept w W S) (o : Obj) : Kept w (W.alloc o) S := h.below (below_alloc (Below.refl _ _) o)
theorem Kept.drew (h : Kept w W S) : Kept w W.drew S := h
theorem Kept.drewN (h : Kept w W S) (m : Nat) : Kept w (W.drewN m) S := h
theorem Kept.setCell (h : Kept w W S) {p : Addr} (hp : S p.block ∨ w.heap.size ≤ p.block) (u : Value) : Kept w (W.setCell p u) S :=
  h.then_ (S2 := fun k => k = p.block) ⟨by simp [World.setCell], fun i _ hn => Below.heap_setCell W p u i hn⟩ (fun k hk => by rw [hk]; exact hp)
/-- Beside a state: what was written is new since. -/
theorem Kept.keep {g : Nat} (h : KeepBut w W g none) (k : Kept W W2 S2) (hs : ∀ k, S2 k → w.heap.size ≤ k) : KeepBut w W2 g none :=
  ⟨Nat.le_trans h.1 k.1, fun i hi hg hr => (k.2 i (Nat.lt_of_lt_of_le hi h.1) (fun h2 => by have := hs i h2; omega)).trans (h.2 i hi hg hr)⟩
end
namespace Kd
section
variable {α : Type} {d : Kd α} {e base n c : Nat} {ok oki S S2 : Nat → Prop} {w w0 W W1 W2 : World} {v : Value} {A : Option Addr} {xs : List α} {i : Int} {cs : List Value}
end
end Kd
end Go.Proofs.YtbfhohpbldadbaaW.PrintWords

-- PRINTED BY print.sh 35421559b90ae4d0a3588c463048766b98c2df88dd9212a6774a882060cdf62d: not written by this session
/-! ### 46. Values that share: what is only read, with the blocks it lies in (its footprint 'ok'): Foot, F (a row that is read), FK (an element's cells) -/
namespace Go.Proofs.YtbfhohpbldadbaaW.PrintWords
open Go.RowKit
/-- P holds in W and in every world that has W's blocks of ok. -/
def Foot (P : World → Prop) (W : World) (ok : Nat → Prop) : Prop := ∀ W' : World, (∀ k, ok k → k < W.heap.size → W'.heap[k]? = W.heap[k]?) → P W'
theorem heap_lt {W W1 : World} {k : Nat} (h : W1.heap[k]? = W.heap[k]?) (hlt : k < W.heap.size) : k < W1.heap.size := by
  rw [Array.getElem?_eq_getElem hlt] at h
  exact (Array.getElem?_eq_some_iff.1 h).1
namespace Foot
variable {P Q : World → Prop} {W W1 : World} {ok ok' : Nat → Prop}
theorem now (h : Foot P W ok) : P W := h W (fun _ _ _ => rfl)
theorem mono (h : Foot P W ok) (hok : ∀ k, ok k → ok' k) : Foot P W ok' := fun W' hW => h W' (fun k hk hlt => hW k (hok k hk) hlt)
theorem bound (h : Foot P W ok) : Foot P W (fun k => ok k ∧ k < W.heap.size) := fun W' hW => h W' (fun k hk hlt => hW k ⟨hk, hlt⟩ hlt)
theorem step (h : Foot P W ok) (hm : ∀ k, ok k → k < W.heap.size → W1.heap[k]? = W.heap[k]?) : Foot P W1 ok := fun W' hW => h W' (fun k hk hlt => (hW k hk (heap_lt (hm k hk hlt) hlt)).trans (hm k hk hlt))
theorem imp (h : Foot P W ok) (hi : ∀ W', P W' → Q W') : Foot Q W ok := fun W' hW => hi W' (h W' hW)
end Foot
namespace Kd
/-- A row that is only read: what it leads to lies in ok. -/
def F {α : Type} (d : Kd α) (W : World) (ok : Nat → Prop) (A : Option Addr) (n : Nat) (xs : List α) : Prop := Foot (fun W => d.C W A n xs) W ok
/-- An element's cells: what they lead to lies in ok. -/
def FK {α : Type} (d : Kd α) (W : World) (ok : Nat → Prop) (x : α) (c : List Value) : Prop := Foot (fun W => d.K W x c) W ok
section
variable {α β : Type} {d : Kd α} {e base n n' cc g N : Nat} {ok ok' okp S : Nat → Prop} {w w0 w1 W W1 : World} {A A' : Option Addr} {u v v1 : Value} {xs : List α} {xs' : List β} {d' : Kd β} {x : α} {c : List Value}
theorem F_now (h : F d W ok A n xs) : d.C W A n xs := Foot.now h
theorem F_mono (h : F d W ok A n xs) (hok : ∀ k, ok k → ok' k) : F d W ok' A n xs := Foot.mono h hok
theorem F_bound (h : F d W ok A n xs) : F d W (fun k => ok k ∧ k < W.heap.size) A n xs := Foot.bound h
theorem F_step (h : F d W ok A n xs) (hm : ∀ k, ok k → k < W.heap.size → W1.heap[k]? = W.heap[k]?) : F d W1 ok A n xs := Foot.step h hm
theorem F_imp (h : F d W ok A n xs) (hi : ∀ W', d.C W' A n xs → d'.C W' A' n' xs') : F d' W ok A' n' xs' := Foot.imp h hi
theorem F_below (h : F d W ok A n xs) (hb : Below W.heap.size W W1) : F d W1 ok A n xs := F_step h (fun k _ hlt => hb.block k hlt)
theorem F_alloc (h : F d W ok A n xs) (o : Obj) : F d (W.alloc o) ok A n xs := F_below h (below_alloc (Below.refl _ _) o)
theorem F_drew (h : F d W ok A n xs) : F d W.drew ok A n xs := F_below h (below_drew (Below.refl _ _))
theorem F_grown (h : F d W ok A n xs) {row : Option Nat} (hg : W.grownBy W1 row) (hok : ∀ k, ok k → some k ≠ row) : F d W1 ok A n xs := F_step h (fun k hk hlt => hg.block k hlt (hok k hk))
theorem F_far (h : F d W ok A n xs) {p : Addr} (hok : ∀ k, ok k → k ≠ p.block) (u : Value) : F d (W.setCell p u) ok A n xs := F_step h (fun k hk _ => Below.heap_setCell W p u k (hok k hk))
theorem F_nil (d : Kd α) (W : World) (ok : Nat → Prop) : F d W ok none ([] : List α).length [] := fun W' _ => C_nil d W'
theorem R_F (h : d.R e W base ok (.slice A n cc) xs) : F d W ok A n xs := fun W' hW => by
  have h2 := R_reads' (R_step h hW)
  rw [h2.1]
  exact h2.2.2
end
end Kd
end Go.Proofs.YtbfhohpbldadbaaW.PrintWords

-- PRINTED BY print.sh 35421559b90ae4d0a3588c463048766b98c2df88dd9212a6774a882060cdf62d: not written by this session
/-! ### 47. N: a row of the call's own whose elements share (what they lead to is only read) -/
namespace Go.Proofs.YtbfhohpbldadbaaW.PrintWords
open Go.RowKit
namespace Kd
section
variable {α : Type} {d : Kd α} {e base n cc g : Nat} {ok ok' okp S : Nat → Prop} {w w1 W W1 : World} {A : Option Addr} {u v v1 : Value} {xs : List α} {x : α} {c : List Value}
/-- A row of elements (type e) of the call's own; what the elements lead to is only read, and is not this row. -/
def N {α : Type} (d : Kd α) (e : Nat) (w : World) (base : Nat) (ok : Nat → Prop) (v : Value) (xs : List α) : Prop :=
  (∀ k, v.ownBlock = some k → ok k) ∧ ∃ rows : List (List Value), rows.length = xs.length ∧ (raw d.sz).R e w base (fun k => some k = v.ownBlock) v rows ∧ ∀ (j : Nat) (x : α) (c : List Value), xs[j]? = some x → rows[j]? = some c → FK d w (fun k => ok k ∧ some k ≠ v.ownBlock) x c
end
end Kd
end Go.Proofs.YtbfhohpbldadbaaW.PrintWords

-- PRINTED BY print.sh 35421559b90ae4d0a3588c463048766b98c2df88dd9212a6774a882060cdf62d: not written by this session
/-! ### 53. '==' of structs as_ one Bool -/
namespace Go.Proofs.YtbfhohpbldadbaaW.PrintWords
open Go.RowKit
section
variable {P : Program} {d : Nat} {xs ys : Array Value} {f : Field} {fs : List Field} {a b : Value} {r s : Bool} {w : World}
/-- The last field that counts. -/
theorem eqf_last (hn : (f.name == "_") = false) (ha : (part f.type xs f.offset).run P w = .ok a w) (hb : (part f.type ys f.offset).run P w = .ok b w) (he : (Op.equalIn d f.type a b).run P w = .ok r w) : (Op.eqFields d xs ys [f]).run P w = .ok r w := by
  have hn' : f.name ≠ "_" := by simpa using hn
  simp only [Op.eqFields, if_pos hn', Sem.run_bind, ha, hb, he, Result.andThen_ok]
  cases r <;> simp
theorem eqf_cons (hn : (f.name == "_") = false) (ha : (part f.type xs f.offset).run P w = .ok a w) (hb : (part f.type ys f.offset).run P w = .ok b w) (he : (Op.equalIn d f.type a b).run P w = .ok r w) (hr : (Op.eqFields d xs ys fs).run P w = .ok s w) : (Op.eqFields d xs ys (f :: fs)).run P w = .ok (r && s) w := by
  have hn' : f.name ≠ "_" := by simpa using hn
  rw [Op.eqFields]
  simp only [if_pos hn', Sem.run_bind, ha, hb, he, Result.andThen_ok]
  cases r
  · simp
  · simpa using hr
theorem eqA_of {t : TypeId} {fs : Array Field} (hu : P.underlying t = some (.struct fs)) (hp : P.stoodInHeld t = false) (h : (Op.eqFields d xs ys fs.toList).run P w = .ok r w) : (Op.equalIn (d + 1) t (.agg xs) (.agg ys)).run P w = .ok r w := by
  have hf : P.fieldsOf t = fs := by simp [Program.fieldsOf, hu]
  rw [run_equalIn_struct (P := P) w d t xs ys (by rw [hf]; exact hu) hp, hf]
  exact h
end
end Go.Proofs.YtbfhohpbldadbaaW.PrintWords

-- PRINTED BY print.sh 35421559b90ae4d0a3588c463048766b98c2df88dd9212a6774a882060cdf62d: not written by this session
/-! ### 55. Reps told from the front, no append: for rows of one-cell elements and of wider ones -/
namespace Go.Proofs.YtbfhohpbldadbaaW.PrintWords
/-- More cells an element: told apart by the cells' list. -/
theorem Reps.front {α : Type} {R : α → List Value → Prop} {size : Nat} {ps : List α} {cs c all : List Value} {p : α} (hp : R p c) (hc : c.length = size) (h : Reps R size ps cs) (ha : c ++ cs = all) : Reps R size (p :: ps) all := by
  subst ha
  refine ⟨by rw [List.length_append, hc, h.1, List.length_cons, Nat.succ_mul, Nat.add_comm], fun j q hq => ?_⟩
  cases j with
  | zero =>
    simp only [List.getElem?_cons_zero, Option.some.injEq] at hq
    subst hq
    rw [Nat.zero_mul, List.drop_zero, List.take_append_of_le_length (by omega), List.take_of_length_le (by omega)]
    exact hp
  | succ j =>
    simp only [List.getElem?_cons_succ] at hq
    have h1 := h.2 j q hq
    rw [Nat.succ_mul, List.drop_append, List.drop_of_length_le (by rw [hc]; exact Nat.le_add_left _ _), List.nil_append, hc, Nat.add_sub_cancel]
    exact h1
theorem Reps.c2 {α : Type} {R : α → List Value → Prop} {ps : List α} {cs : List Value} {p : α} {va vb : Value} (hp : R p [va, vb]) (h : Reps R 2 ps cs) : Reps R 2 (p :: ps) (va :: vb :: cs) := Reps.front hp rfl h rfl
theorem Reps.c3 {α : Type} {R : α → List Value → Prop} {ps : List α} {cs : List Value} {p : α} {va vb vc : Value} (hp : R p [va, vb, vc]) (h : Reps R 3 ps cs) : Reps R 3 (p :: ps) (va :: vb :: vc :: cs) := Reps.front hp rfl h rfl
theorem Reps.c4 {α : Type} {R : α → List Value → Prop} {ps : List α} {cs : List Value} {p : α} {va vb vc vd : Value} (hp : R p [va, vb, vc, vd]) (h : Reps R 4 ps cs) : Reps R 4 (p :: ps) (va :: vb :: vc :: vd :: cs) := Reps.front hp rfl h rfl
theorem Reps.c5 {α : Type} {R : α → List Value → Prop} {ps : List α} {cs : List Value} {p : α} {va vb vc vd ve : Value} (hp : R p [va, vb, vc, vd, ve]) (h : Reps R 5 ps cs) : Reps R 5 (p :: ps) (va :: vb :: vc :: vd :: ve :: cs) := Reps.front hp rfl h rfl
theorem Reps.c6 {α : Type} {R : α → List Value → Prop} {ps : List α} {cs : List Value} {p : α} {va vb vc vd ve vf : Value} (hp : R p [va, vb, vc, vd, ve, vf]) (h : Reps R 6 ps cs) : Reps R 6 (p :: ps) (va :: vb :: vc :: vd :: ve :: vf :: cs) := Reps.front hp rfl h rfl
theorem Reps.c7 {α : Type} {R : α → List Value → Prop} {ps : List α} {cs : List Value} {p : α} {va vb vc vd ve vf vg : Value} (hp : R p [va, vb, vc, vd, ve, vf, vg]) (h : Reps R 7 ps cs) : Reps R 7 (p :: ps) (va :: vb :: vc :: vd :: ve :: vf :: vg :: cs) := Reps.front hp rfl h rfl
theorem Reps.c8 {α : Type} {R : α → List Value → Prop} {ps : List α} {cs : List Value} {p : α} {va vb vc vd ve vf vg vh : Value} (hp : R p [va, vb, vc, vd, ve, vf, vg, vh]) (h : Reps R 8 ps cs) : Reps R 8 (p :: ps) (va :: vb :: vc :: vd :: ve :: vf :: vg :: vh :: cs) := Reps.front hp rfl h rfl
theorem Reps.c9 {α : Type} {R : α → List Value → Prop} {ps : List α} {cs : List Value} {p : α} {va vb vc vd ve vf vg vh vi : Value} (hp : R p [va, vb, vc, vd, ve, vf, vg, vh, vi]) (h : Reps R 9 ps cs) : Reps R 9 (p :: ps) (va :: vb :: vc :: vd :: ve :: vf :: vg :: vh :: vi :: cs) := Reps.front hp rfl h rfl
theorem Reps.c10 {α : Type} {R : α → List Value → Prop} {ps : List α} {cs : List Value} {p : α} {va vb vc vd ve vf vg vh vi vj : Value} (hp : R p [va, vb, vc, vd, ve, vf, vg, vh, vi, vj]) (h : Reps R 10 ps cs) : Reps R 10 (p :: ps) (va :: vb :: vc :: vd :: ve :: vf :: vg :: vh :: vi :: vj :: cs) := Reps.front hp rfl h rfl
end Go.Proofs.YtbfhohpbldadbaaW.PrintWords

-- PRINTED BY print.sh 35421559b90ae4d0a3588c463048766b98c2df88dd9212a6774a882060cdf62d: not written by this session
-- PRINTED WORDS (module Derived/Print/More.lean): go-gate-2's additions: an AI agent of Go's test side, Tue Nov 17 2026; no person has read it. Lean checks it.
namespace Go.Proofs.YtbfhohpbldadbaaW.PrintMore
open Go.RowKit Go.Proofs.YtbfhohpbldadbaaW.PrintWords
namespace Kd
open Go.Proofs.YtbfhohpbldadbaaW.PrintWords.Kd
end Kd

namespace Kd
open Go.Proofs.YtbfhohpbldadbaaW.PrintWords.Kd
section
variable {α : Type} {d : Kd α} {e base g N : Nat} {ok : Nat → Prop} {W w1 : World} {u v : Value} {xs : List α}
end
end Kd
/-- 'max' and 'min' of two whole numbers. -/
theorem max2_int (k k' : IntKind) (x y : Int) : Builtin.max2 (.int k x) (.int k' y) = pure (.int k (if x < y then y else x)) := by simp only [Builtin.max2, gt_iff_lt]
theorem min2_int (k k' : IntKind) (x y : Int) : Builtin.min2 (.int k x) (.int k' y) = pure (.int k (if y < x then y else x)) := by simp only [Builtin.min2]
theorem max_two (ats : Array TypeId) (ty : TypeId) (a b : Value) : Builtin.max_ ats ty #[a, b] = (Builtin.max2 a b >>= fun s => pure s) := by simp only [Builtin.max_, List.foldlM_cons, List.foldlM_nil]
theorem min_two (ats : Array TypeId) (ty : TypeId) (a b : Value) : Builtin.min_ ats ty #[a, b] = (Builtin.min2 a b >>= fun s => pure s) := by simp only [Builtin.min_, List.foldlM_cons, List.foldlM_nil]
theorem max_three (ats : Array TypeId) (ty : TypeId) (a b c : Value) : Builtin.max_ ats ty #[a, b, c] = (Builtin.max2 a b >>= fun s => Builtin.max2 s c >>= fun s => pure s) := by simp only [Builtin.max_, List.foldlM_cons, List.foldlM_nil]
theorem min_three (ats : Array TypeId) (ty : TypeId) (a b c : Value) : Builtin.min_ ats ty #[a, b, c] = (Builtin.min2 a b >>= fun s => Builtin.min2 s c >>= fun s => pure s) := by simp only [Builtin.min_, List.foldlM_cons, List.foldlM_nil]
theorem max_four (ats : Array TypeId) (ty : TypeId) (a b c d : Value) : Builtin.max_ ats ty #[a, b, c, d] = (Builtin.max2 a b >>= fun s => Builtin.max2 s c >>= fun s => Builtin.max2 s d >>= fun s => pure s) := by simp only [Builtin.max_, List.foldlM_cons, List.foldlM_nil]
theorem min_four (ats : Array TypeId) (ty : TypeId) (a b c d : Value) : Builtin.min_ ats ty #[a, b, c, d] = (Builtin.min2 a b >>= fun s => Builtin.min2 s c >>= fun s => Builtin.min2 s d >>= fun s => pure s) := by simp only [Builtin.min_, List.foldlM_cons, List.foldlM_nil]
end Go.Proofs.YtbfhohpbldadbaaW.PrintMore
namespace Go.Proofs.YtbfhohpbldadbaaW.PrintWords
open Go.RowKit
section
variable {P : Program} {ops : Array Oper} {rest : List Oper} {o : Oper} {a : Act} {Q : Exit → Act → World → Prop} {W : World}
/-- The operation is a builtin over these places. -/
theorem gate_builtin {b : Builtin} {xs : Array Operand} {ts : Array TypeId} (_ho : o.op = .call { callee := .builtin b, args := xs, argTypes := ts }) (h : wpList P ops Q (o :: rest) a W) : wpList P ops Q (o :: rest) a W := h
end
/-- A cell of a block that an event leaves alone. -/
theorem cell_grown {W w1 : World} {row : Option Nat} (hg : W.grownBy w1 row) {a : Addr} {v : Value} (h : W.cell? a = some v) (hne : some a.block ≠ row) : w1.cell? a = some v := by
  have := hg.block a.block (World.block_lt_of_cell? W a h) hne
  simpa [World.cell?, this] using h
namespace Kd
section
variable {α : Type} {d : Kd α} {e base : Nat} {ok : Nat → Prop} {W w1 : World} {v : Value} {xs : List α}
end
section
variable {α : Type} {d : Kd α} {e base g n cap : Nat} {ok oki okp : Nat → Prop} {W : World} {xs : List α} {i : Int} {c : List Value}
end
section
variable {α : Type} {d : Kd α} {e base b b' g N : Nat} {ok ok1 : Nat → Prop} {W W2 w1 : World} {u v : Value} {xs ys : List α} {S : Nat → Prop}
end
end Kd
end Go.Proofs.YtbfhohpbldadbaaW.PrintWords
namespace Go.Proofs.YtbfhohpbldadbaaW.PrintWords
open Go.RowKit
namespace Kd
/-- A row that is only read, told by its value: its form, its length, what it leads to (in ok). e and base say nothing; they make it as the others are. -/
def V {α : Type} (d : Kd α) (_e : Nat) (W : World) (_base : Nat) (ok : Nat → Prop) (v : Value) (xs : List α) : Prop := ∃ A c, v = .slice A xs.length c ∧ xs.length ≤ c ∧ F d W ok A xs.length xs
section
variable {α β : Type} {d : Kd α} {e base base' n m c g N' lo hi : Nat} {ok ok' S : Nat → Prop} {w W w1 : World} {A : Option Addr} {ad : Addr} {u v v1 : Value} {xs : List α}
theorem V_map (h : V d e W base ok v xs) (hF : ∀ A, F d W ok A xs.length xs → F d w1 ok' A xs.length xs) : V d e w1 base' ok' v xs := by
  obtain ⟨A, c, hv, hl, hf⟩ := h
  exact ⟨A, c, hv, hl, hF A hf⟩
theorem V_mk (hl : xs.length ≤ c) (hf : F d W ok A xs.length xs) : V d e W base ok (.slice A xs.length c) xs := ⟨A, c, rfl, hl, hf⟩
theorem V_slice (h : V d e W base ok v xs) : ∃ A c, v = .slice A xs.length c := by
  obtain ⟨A, c, hv, _⟩ := h
  exact ⟨A, c, hv⟩
theorem V_at (h : V d e W base ok (.slice A n c) xs) : n = xs.length ∧ n ≤ c ∧ F d W ok A xs.length xs := by
  obtain ⟨A', c', hv, hl, hf⟩ := h
  injection hv with ha hn hc
  subst ha; subst hc
  exact ⟨hn, by rw [hn]; exact hl, hf⟩
theorem V_reads' (h : V d e W base ok (.slice A n c) xs) : n = xs.length ∧ n ≤ c ∧ d.C W A xs.length xs := ⟨(V_at h).1, (V_at h).2.1, F_now (V_at h).2.2⟩
theorem V_nil (d : Kd α) (e : Nat) (W : World) (base : Nat) (ok : Nat → Prop) : V d e W base ok (.slice none 0 0) [] := ⟨none, 0, rfl, Nat.le_refl _, F_nil d W ok⟩
theorem R_V (h : d.R e W base ok v xs) : V d e W base' ok v xs := by
  obtain ⟨A, c, rfl⟩ := R_slice h
  exact ⟨A, c, rfl, (R_reads' h).2.1, R_F h⟩
theorem V_mono (h : V d e W base ok v xs) (hok : ∀ k, ok k → ok' k) : V d e W base ok' v xs := V_map h (fun _ hf => F_mono hf hok)
theorem V_bound (h : V d e W base ok v xs) : V d e W base (fun k => ok k ∧ k < W.heap.size) v xs := V_map h (fun _ hf => F_bound hf)
theorem V_step (h : V d e W base ok v xs) (hm : ∀ k, ok k → k < W.heap.size → w1.heap[k]? = W.heap[k]?) : V d e w1 base ok v xs := V_map h (fun _ hf => F_step hf hm)
theorem V_below (h : V d e W base ok v xs) (hb : Below W.heap.size W w1) : V d e w1 base ok v xs := V_map h (fun _ hf => F_below hf hb)
theorem V_alloc (h : V d e W base ok v xs) (o : Obj) : V d e (W.alloc o) base ok v xs := V_map h (fun _ hf => F_alloc hf o)
theorem V_drew (h : V d e W base ok v xs) : V d e W.drew base ok v xs := V_map h (fun _ hf => F_drew hf)
theorem V_grown (h : V d e W base ok v xs) {row : Option Nat} (hg : W.grownBy w1 row) (hok : ∀ k, ok k → some k ≠ row) : V d e w1 base ok v xs := V_map h (fun _ hf => F_grown hf hg hok)
theorem V_far (h : V d e W base ok v xs) {p : Addr} (hok : ∀ k, ok k → k ≠ p.block) (u : Value) : V d e (W.setCell p u) base ok v xs := V_map h (fun _ hf => F_far hf hok u)
theorem F_cut (h : F d W ok A xs.length xs) (hm : m ≤ xs.length) (hc : xs.length ≤ c) : F d W ok (if c = m then A else A.map (·.add (m * d.sz))) (xs.drop m).length (xs.drop m) := F_imp h (fun _ hC => C_drop hC hm hc)
end
end Kd
end Go.Proofs.YtbfhohpbldadbaaW.PrintWords

-- Written by a program of this session out of the translation (a changed scratch copy of the print). Not trusted: Lean checks it.
namespace Go.Proofs.Ytbfhohpbldadbaa.P
open Go.RowKit Go.Proofs.YtbfhohpbldadbaaW.PrintWords Go.Proofs.YtbfhohpbldadbaaW.PrintLast Go.Proofs.YtbfhohpbldadbaaW.PrintMore
attribute [local go_sem] max2_int min2_int max_two min_two max_three min_three max_four min_four   -- for this text's walks alone
set_option linter.unusedVariables false
set_option linter.unusedSimpArgs false



theorem info39 : (Try.prog.info? 39).map (fun i => (i.zero, i.size, i.bytes)) = some (some (.agg #[(.int .i64 0), (.int .i64 0), (.int .i64 0), (.string ⟨#[]⟩), (.int .i64 0), (.int .i64 0), (.int .i64 0), (.int .i64 0)]), 8, 72) := by kernel_rfl
-- the values' own types
/-! #### struct type 110 -/
structure S110 where
  f0 : Int
  f1 : Int
def z110 : S110 := ⟨(0 : Int), (0 : Int)⟩
def rd_T110 (xs : List S110) (i : Int) : S110 := xs.getD i.toNat z110
/-! #### struct type 33 -/
structure S33 where
  f0 : Int
  f1 : Int
  f2 : Int
  f3 : ByteArray
  f4 : Int
def z33 : S33 := ⟨(0 : Int), (0 : Int), (0 : Int), (⟨#[]⟩ : ByteArray), (0 : Int)⟩
def rd_T33 (xs : List S33) (i : Int) : S33 := xs.getD i.toNat z33
/-! #### struct type 39 -/
structure S39 where
  f0 : Int
  f1 : Int
  f2 : Int
  f3 : ByteArray
  f4 : Int
  f5 : Int
  f6 : Int
  f7 : Int
def z39 : S39 := ⟨(0 : Int), (0 : Int), (0 : Int), (⟨#[]⟩ : ByteArray), (0 : Int), (0 : Int), (0 : Int), (0 : Int)⟩
def k39 : Kd S39 := Kd.iso (Kd.pair (Kd.int .i64) (Kd.pair (Kd.int .i64) (Kd.pair (Kd.int .i64) (Kd.pair Kd.string (Kd.pair (Kd.int .i64) (Kd.pair (Kd.int .i64) (Kd.pair (Kd.int .i64) (Kd.int .i64)))))))) (fun x : S39 => (x.f0, x.f1, x.f2, x.f3, x.f4, x.f5, x.f6, x.f7))
theorem k39_open {w : World} {x : S39} {cs : List Value} (h : k39.K w x cs) : cs = [.int .i64 x.f0, .int .i64 x.f1, .int .i64 x.f2, .string x.f3, .int .i64 x.f4, .int .i64 x.f5, .int .i64 x.f6, .int .i64 x.f7] := by
  obtain ⟨_, _, rfl, rfl, ⟨_, _, rfl, rfl, ⟨_, _, rfl, rfl, ⟨_, _, rfl, rfl, ⟨_, _, rfl, rfl, ⟨_, _, rfl, rfl, ⟨_, _, rfl, rfl, rfl⟩⟩⟩⟩⟩⟩⟩ := h
  exact rfl
theorem k39_mk (w : World) (x : S39)  : k39.K w x [.int .i64 x.f0, .int .i64 x.f1, .int .i64 x.f2, .string x.f3, .int .i64 x.f4, .int .i64 x.f5, .int .i64 x.f6, .int .i64 x.f7] := ⟨[.int .i64 x.f0], [.int .i64 x.f1, .int .i64 x.f2, .string x.f3, .int .i64 x.f4, .int .i64 x.f5, .int .i64 x.f6, .int .i64 x.f7], rfl, rfl, ⟨[.int .i64 x.f1], [.int .i64 x.f2, .string x.f3, .int .i64 x.f4, .int .i64 x.f5, .int .i64 x.f6, .int .i64 x.f7], rfl, rfl, ⟨[.int .i64 x.f2], [.string x.f3, .int .i64 x.f4, .int .i64 x.f5, .int .i64 x.f6, .int .i64 x.f7], rfl, rfl, ⟨[.string x.f3], [.int .i64 x.f4, .int .i64 x.f5, .int .i64 x.f6, .int .i64 x.f7], rfl, rfl, ⟨[.int .i64 x.f4], [.int .i64 x.f5, .int .i64 x.f6, .int .i64 x.f7], rfl, rfl, ⟨[.int .i64 x.f5], [.int .i64 x.f6, .int .i64 x.f7], rfl, rfl, ⟨[.int .i64 x.f6], [.int .i64 x.f7], rfl, rfl, rfl⟩⟩⟩⟩⟩⟩⟩
theorem k39_mkM (w : World) (base : Nat) (ok : Nat → Prop) (x : S39)  : k39.M w base ok x [.int .i64 x.f0, .int .i64 x.f1, .int .i64 x.f2, .string x.f3, .int .i64 x.f4, .int .i64 x.f5, .int .i64 x.f6, .int .i64 x.f7] := ⟨[.int .i64 x.f0], [.int .i64 x.f1, .int .i64 x.f2, .string x.f3, .int .i64 x.f4, .int .i64 x.f5, .int .i64 x.f6, .int .i64 x.f7], rfl, rfl, ⟨[.int .i64 x.f1], [.int .i64 x.f2, .string x.f3, .int .i64 x.f4, .int .i64 x.f5, .int .i64 x.f6, .int .i64 x.f7], rfl, rfl, ⟨[.int .i64 x.f2], [.string x.f3, .int .i64 x.f4, .int .i64 x.f5, .int .i64 x.f6, .int .i64 x.f7], rfl, rfl, ⟨[.string x.f3], [.int .i64 x.f4, .int .i64 x.f5, .int .i64 x.f6, .int .i64 x.f7], rfl, rfl, ⟨[.int .i64 x.f4], [.int .i64 x.f5, .int .i64 x.f6, .int .i64 x.f7], rfl, rfl, ⟨[.int .i64 x.f5], [.int .i64 x.f6, .int .i64 x.f7], rfl, rfl, ⟨[.int .i64 x.f6], [.int .i64 x.f7], rfl, rfl, rfl⟩⟩⟩⟩⟩⟩⟩
def rd_T39 (xs : List S39) (i : Int) : S39 := xs.getD i.toNat z39
theorem at_T39 {w : World} {A : Option Addr} {n : Nat} {xs : List S39} (h : Kd.C k39 w A n xs) (i : Int) (h0 : 0 ≤ i) (h1 : i < n) : ∃ ad , A = some ad ∧ w.cell? (ad.add (i.toNat * 8)) = some (.int .i64 (rd_T39 xs i).f0) ∧ w.cell? ⟨(ad.add (i.toNat * 8)).block, (ad.add (i.toNat * 8)).off + 1, none⟩ = some (.int .i64 (rd_T39 xs i).f1) ∧ w.cell? ⟨(ad.add (i.toNat * 8)).block, (ad.add (i.toNat * 8)).off + 2, none⟩ = some (.int .i64 (rd_T39 xs i).f2) ∧ w.cell? ⟨(ad.add (i.toNat * 8)).block, (ad.add (i.toNat * 8)).off + 3, none⟩ = some (.string (rd_T39 xs i).f3) ∧ w.cell? ⟨(ad.add (i.toNat * 8)).block, (ad.add (i.toNat * 8)).off + 4, none⟩ = some (.int .i64 (rd_T39 xs i).f4) ∧ w.cell? ⟨(ad.add (i.toNat * 8)).block, (ad.add (i.toNat * 8)).off + 5, none⟩ = some (.int .i64 (rd_T39 xs i).f5) ∧ w.cell? ⟨(ad.add (i.toNat * 8)).block, (ad.add (i.toNat * 8)).off + 6, none⟩ = some (.int .i64 (rd_T39 xs i).f6) ∧ w.cell? ⟨(ad.add (i.toNat * 8)).block, (ad.add (i.toNat * 8)).off + 7, none⟩ = some (.int .i64 (rd_T39 xs i).f7) := by
  obtain ⟨ad, c, e, _, hK, hc0⟩ := Kd.C_get h z39 i h0 h1
  have hc : ∀ j u, c[j]? = some u → w.cell? (ad.add (i.toNat * 8 + j)) = some u := hc0
  obtain rfl := k39_open hK
  exact ⟨ad, e, hc 0 _ rfl, by rw [← add_field _ _ 1 (by omega)]; exact hc 1 _ rfl, by rw [← add_field _ _ 2 (by omega)]; exact hc 2 _ rfl, by rw [← add_field _ _ 3 (by omega)]; exact hc 3 _ rfl, by rw [← add_field _ _ 4 (by omega)]; exact hc 4 _ rfl, by rw [← add_field _ _ 5 (by omega)]; exact hc 5 _ rfl, by rw [← add_field _ _ 6 (by omega)]; exact hc 6 _ rfl, by rw [← add_field _ _ 7 (by omega)]; exact hc 7 _ rfl⟩

def rd_L7 (xs : List (List S39)) (i : Int) : (List S39) := xs.getD i.toNat ([] : List S39)
theorem at_L7 {w : World} {A : Option Addr} {n : Nat} {xs : List (List S39)} (h : Kd.C (Kd.slice 39 k39) w A n xs) (i : Int) (h0 : 0 ≤ i) (h1 : i < n) : ∃ ad A0 c0, A = some ad ∧ w.cell? (ad.add i.toNat) = some (.slice A0 (rd_L7 xs i).length c0) ∧ (rd_L7 xs i).length ≤ c0 ∧ k39.C w A0 (rd_L7 xs i).length (rd_L7 xs i) := by
  obtain ⟨ad, c, e, _, hK, hc0⟩ := Kd.C_get h ([] : List S39) i h0 h1
  have hc : ∀ j u, c[j]? = some u → w.cell? (ad.add (i.toNat * 1 + j)) = some u := hc0
  obtain ⟨A0, c0, rfl, l0, g0⟩ := hK
  exact ⟨ad, A0, c0, e, by have hq := hc 0 _ rfl; rwa [Nat.mul_one, Nat.add_zero] at hq, l0, g0⟩

/-! #### struct type 61 -/
structure S61 where
  f0 : (List (List S39))
  f1 : Int
  f2 : Int
  f3 : (List S39)
  f4 : Bool
  f5 : Int
def z61 : S61 := ⟨([] : List (List S39)), (0 : Int), (0 : Int), ([] : List S39), false, (0 : Int)⟩
/-! #### struct type 83 -/
structure S83 where
  f0 : Int
  f1 : Bool
  f2 : (List S39)
def z83 : S83 := ⟨(0 : Int), false, ([] : List S39)⟩
def k83 : Kd S83 := Kd.iso (Kd.pair (Kd.int .i64) (Kd.pair Kd.bool (Kd.slice 39 k39))) (fun x : S83 => (x.f0, x.f1, x.f2))
theorem k83_open {w : World} {x : S83} {cs : List Value} (h : k83.K w x cs) : ∃ A2 c2, cs = [.int .i64 x.f0, .bool x.f1, .slice A2 x.f2.length c2] ∧ x.f2.length ≤ c2 ∧ k39.C w A2 x.f2.length x.f2 := by
  obtain ⟨_, _, rfl, rfl, ⟨_, _, rfl, rfl, ⟨A2, c2, rfl, l2, g2⟩⟩⟩ := h
  exact ⟨A2, c2, rfl, l2, g2⟩
theorem k83_mkM (w : World) (base : Nat) (ok : Nat → Prop) (x : S83) {v2 : Value} (g2 : k39.R 39 w base ok v2 x.f2) : k83.M w base ok x [.int .i64 x.f0, .bool x.f1, v2] := ⟨[.int .i64 x.f0], [.bool x.f1, v2], rfl, rfl, ⟨[.bool x.f1], [v2], rfl, rfl, ⟨v2, rfl, g2⟩⟩⟩
def rd_T83 (xs : List S83) (i : Int) : S83 := xs.getD i.toNat z83
theorem at_T83 {w : World} {A : Option Addr} {n : Nat} {xs : List S83} (h : Kd.C k83 w A n xs) (i : Int) (h0 : 0 ≤ i) (h1 : i < n) : ∃ ad A2 c2, A = some ad ∧ w.cell? (ad.add (i.toNat * 3)) = some (.int .i64 (rd_T83 xs i).f0) ∧ w.cell? ⟨(ad.add (i.toNat * 3)).block, (ad.add (i.toNat * 3)).off + 1, none⟩ = some (.bool (rd_T83 xs i).f1) ∧ w.cell? ⟨(ad.add (i.toNat * 3)).block, (ad.add (i.toNat * 3)).off + 2, none⟩ = some (.slice A2 (rd_T83 xs i).f2.length c2) ∧ (rd_T83 xs i).f2.length ≤ c2 ∧ k39.C w A2 (rd_T83 xs i).f2.length (rd_T83 xs i).f2 := by
  obtain ⟨ad, c, e, _, hK, hc0⟩ := Kd.C_get h z83 i h0 h1
  have hc : ∀ j u, c[j]? = some u → w.cell? (ad.add (i.toNat * 3 + j)) = some u := hc0
  obtain ⟨A2, c2, rfl, l2, g2⟩ := k83_open hK
  exact ⟨ad, A2, c2, e, hc 0 _ rfl, by rw [← add_field _ _ 1 (by omega)]; exact hc 1 _ rfl, by rw [← add_field _ _ 2 (by omega)]; exact hc 2 _ rfl, l2, g2⟩

end Go.Proofs.Ytbfhohpbldadbaa.P

namespace Go.Proofs.Ytbfhohpbldadbaa.P
open Go.RowKit Go.Proofs.YtbfhohpbldadbaaW.PrintWords Go.Proofs.YtbfhohpbldadbaaW.PrintLast Go.Proofs.YtbfhohpbldadbaaW.PrintMore
set_option linter.unusedVariables false
set_option linter.unusedSimpArgs false

theorem al {w W : World} (h : Below w.heap.size w W) (o : Obj) : Below w.heap.size w (W.alloc o) := below_alloc h o
theorem bb {w w1 w2 : World} (h : Below w.heap.size w w1) (k : Below w1.heap.size w1 w2) : Below w.heap.size w w2 := below_then h h.size k
theorem below_one (w : World) (o : Obj) : Below w.heap.size w (w.alloc o) := below_alloc (Below.refl _ _) o

theorem any_take_succ {α : Type} {p : α → Bool} {xs : List α} {k : Nat} (hk : k < xs.length) (h : (xs.take k).any p = false) (h2 : p xs[k] = false) : (xs.take (k + 1)).any p = false := by
  rw [List.take_succ_eq_append_getElem hk, List.any_append, h]
  simp [h2]
theorem any_of_at {α : Type} {p : α → Bool} {xs : List α} {k : Nat} (hk : k < xs.length) (h2 : p xs[k] = true) : xs.any p = true := List.any_eq_true.2 ⟨xs[k], List.getElem_mem hk, h2⟩
theorem getD_at {α : Type} {xs : List α} {k : Nat} (hk : k < xs.length) (z : α) : xs.getD k z = xs[k] := by
  rw [List.getD_eq_getElem?_getD, List.getElem?_eq_getElem hk]; rfl

def SomeIdx (w : World) (P : Int → Prop) (e : Ending) (w' : World) : Prop := ∃ r : Int, e = .returned (.int .i64 r) ∧ P r ∧ Below w.heap.size w w'
/-- The value F is entered. -/
def Enters (F : Nat) : Prop := ∀ (args : Array Value) (w : World), (callFunc F args).run Try.prog w = .ok (.enter F args) w

/-- A cell that holds a slice of records. -/
structure AtL (w : World) (a : Addr) (A : Option Addr) (c : Nat) (l : List S39) : Prop where
  c0 : w.cell? a = some (.slice A l.length c)
  le : l.length ≤ c
  cc : Kd.C k39 w A l.length l
theorem L_cell {w : World} {A : Option Addr} {n : Nat} {xs : List (List S39)} (h : Kd.C (Kd.slice 39 k39) w A n xs) (i : Nat) (hi : i < n) (hl : i < xs.length) : ∃ ad A0 c0, A = some ad ∧ AtL w (ad.add i) A0 c0 xs[i] := by
  obtain ⟨ad, A0, c0, hA, h0, h1, h2⟩ := at_L7 h (i : Int) (by omega) (by omega)
  simp only [rd_L7, Int.toNat_natCast, getD_at hl] at h0 h1 h2
  exact ⟨ad, A0, c0, hA, h0, h1, h2⟩

/-- What a call with one element answers (lists of records). -/
def PredL (F : Nat) (lb : Array Value) (w : World) (xs : List (List S39)) (p : (List S39) → Bool) : Prop :=
  ∀ m, m ∈ xs → ∀ W, Below w.heap.size w W → ∀ (A0 : Option Addr) (c0 : Nat), Kd.C k39 W A0 m.length m → m.length ≤ c0 → Calls Try.prog F (#[.slice A0 m.length c0] ++ lb) W fun e W' => e = .returned (.bool (p m)) ∧ Below W.heap.size W W'

set_option maxHeartbeats 1000000 in
set_option maxRecDepth 100000 in
theorem indexL (F : Nat) (lb : Array Value) (eg : Enters F) (A : Option Addr) (c : Nat) (xs : List (List S39)) (p : (List S39) → Bool) (w : World) (hr : Kd.C (Kd.slice 39 k39) w A xs.length xs) (hp : PredL F lb w xs p) :
    Calls Try.prog 91 #[.slice A xs.length c, .func (.func F) #[] lb] w (SomeIdx w fun r => decide (0 ≤ r) = xs.any p) := by
  have hm : xs.length ≤ 9223372036854775807 := by
    have := hr.2.1; omega
  have HR := Lib.hid hr
  have HP := Lib.hid hp
  unfold Enters at eg
  clear hr hp
  go_enter Try.func91, Try.ntmps91
  go_wp2
  go_loopw [4, 5, 8] (fun _ _ i W => ∃ k : Nat, k ≤ xs.length ∧ i = .int .i64 k ∧ (xs.take k).any p = false ∧ Below w.heap.size w W) (fun _ _ i _ => xs.length - (intOf i).toNat)
  case atStart => exact ⟨0, Nat.zero_le _, rfl, rfl, Below.refl _ _⟩
  case round =>
    obtain ⟨k, hk, rfl, hno, hb⟩ := hrel
    have HN := Lib.hid hno
    have HB := Lib.hid hb
    clear hno hb
    by_cases hlt : k < xs.length
    · obtain ⟨ad, A0, k0, rfl, hat⟩ := L_cell (Kd.C_below HR.out HB.out) k hlt hlt
      obtain ⟨m, hm⟩ : ∃ m, m = xs[k] := ⟨_, rfl⟩
      rw [← hm] at hat
      have HM := Lib.hid hm
      have c0 := hat.c0; have HL := Lib.hid hat.le; have HC := Lib.hid hat.cc
      clear hat hm
      go_wp2_with fail
      refine (HP.out m (by rw [HM.out]; exact List.getElem_mem hlt) wr HB.out A0 k0 HC.out HL.out).mono ?_
      rintro e w' ⟨rfl, hb⟩
      have HB2 := Lib.hid (bb HB.out hb)
      clear hb c0
      cases hpm : p m
      · have HF := Lib.hid (show p xs[k] = false by rw [← HM.out]; exact hpm)
        clear hpm
        go_wp2_with fail
        go_roundw
        case rel => exact ⟨k + 1, by omega, by go_num, any_take_succ hlt HN.out HF.out, HB2.out⟩
        case measure => simp [intOf]; omega
      · have HF := Lib.hid (show p xs[k] = true by rw [← HM.out]; exact hpm)
        clear hpm
        go_wp2_with fail
        go_ret
        exact ⟨k, rfl, by rw [any_of_at hlt HF.out]; simp, HB2.out⟩
    · go_wp2
      go_ret
      refine ⟨-1, rfl, ?_, HB.out⟩
      have h1 := HN.out
      rw [List.take_of_length_le (by omega)] at h1
      rw [h1]; rfl
theorem containsL (F : Nat) (lb : Array Value) (eg : Enters F) (A : Option Addr) (c : Nat) (xs : List (List S39)) (p : (List S39) → Bool) (w : World) (hr : Kd.C (Kd.slice 39 k39) w A xs.length xs) (hp : PredL F lb w xs p) :
    Calls Try.prog 75 #[.slice A xs.length c, .func (.func F) #[] lb] w fun e w' => e = .returned (.bool (xs.any p)) ∧ Below w.heap.size w w' := by
  have HR := Lib.hid hr
  have HP := Lib.hid hp
  clear hr hp
  go_enter Try.func75, Try.ntmps75
  go_wp2_with fail
  refine (indexL F lb eg A c xs p w HR.out HP.out).mono ?_
  rintro e w' ⟨r, rfl, hQ, hb⟩
  have HQ := Lib.hid hQ
  have HB := Lib.hid hb
  clear hQ hb
  go_wp2_with fail
  go_ret
  exact ⟨by rw [← HQ.out]; rfl, HB.out⟩

end Go.Proofs.Ytbfhohpbldadbaa.P

namespace Go.Proofs.Ytbfhohpbldadbaa.P
open Go.RowKit Go.Proofs.YtbfhohpbldadbaaW.PrintWords Go.Proofs.YtbfhohpbldadbaaW.PrintLast Go.Proofs.YtbfhohpbldadbaaW.PrintMore
set_option linter.unusedVariables false
set_option linter.unusedSimpArgs false

/-! ### meter.inTime -/
def oddT (n : Int) : Bool := decide (n < 0) || decide (1099511627776 < n)
end Go.Proofs.Ytbfhohpbldadbaa.P

namespace Go.Proofs.Ytbfhohpbldadbaa.P
open Go.RowKit Go.Proofs.YtbfhohpbldadbaaW.PrintWords Go.Proofs.YtbfhohpbldadbaaW.PrintLast Go.Proofs.YtbfhohpbldadbaaW.PrintMore
set_option linter.unusedVariables false
set_option linter.unusedSimpArgs false

/-! ### the map of the meters that were seen -/
def keyV (k : Int × Int) : Value := .agg #[.int .i64 k.1, .int .i64 k.2]
/-- The map of the meters that were seen. -/
def MapOf (W : World) (g : Nat) (ks : List (Int × Int)) : Prop := ∃ (es : Array MapEntry) (clock : Nat), W.heap[g]? = some (.map es clock) ∧ es.toList.map (fun e => (e.key, e.val)) = ks.map (fun k => (keyV k, Value.bool true))
end Go.Proofs.Ytbfhohpbldadbaa.P

namespace Go.Proofs.Ytbfhohpbldadbaa.P
open Go.RowKit Go.Proofs.YtbfhohpbldadbaaW.PrintWords Go.Proofs.YtbfhohpbldadbaaW.PrintLast Go.Proofs.YtbfhohpbldadbaaW.PrintMore
set_option linter.unusedVariables false
set_option linter.unusedSimpArgs false
theorem MapOf.lt {W : World} {g : Nat} {ks : List (Int × Int)} (h : MapOf W g ks) : g < W.heap.size := by
  obtain ⟨es, c, hb, _⟩ := h
  exact (Array.getElem?_eq_some_iff.1 hb).1
theorem MapOf.below {W W' : World} {g : Nat} {ks : List (Int × Int)} (h : MapOf W g ks) (hb : Below W.heap.size W W') : MapOf W' g ks := by
  have hl := h.lt
  obtain ⟨es, c, h1, h2⟩ := h
  exact ⟨es, c, (hb.block g hl).trans h1, h2⟩
def MBlk (w : World) (g : Nat) (m : S33) : Prop := w.heap[g]? = some (.cells #[.int .i64 m.f0, .int .i64 m.f1, .int .i64 m.f2, .string m.f3, .int .i64 m.f4] 33 (0, 0))
def KBlk (w : World) (g : Nat) (a b : Int) : Prop := w.heap[g]? = some (.cells #[.int .i64 a, .int .i64 b] 130 (0, 0))
section
variable {w w' : World} {g : Nat} {m : S33} {a b : Int}
theorem heap_lt {o : Obj} (h : w.heap[g]? = some o) : g < w.heap.size := (Array.getElem?_eq_some_iff.1 h).1
theorem MBlk.c0 (h : MBlk w g m) : w.cell? ⟨g, 0, none⟩ = some (.int .i64 m.f0) := (cell_of_row w g 0 _ 33 (0, 0) h).trans rfl
theorem MBlk.c1 (h : MBlk w g m) : w.cell? ⟨g, 1, none⟩ = some (.int .i64 m.f1) := (cell_of_row w g 1 _ 33 (0, 0) h).trans rfl
theorem MBlk.c2 (h : MBlk w g m) : w.cell? ⟨g, 2, none⟩ = some (.int .i64 m.f2) := (cell_of_row w g 2 _ 33 (0, 0) h).trans rfl
theorem MBlk.c3 (h : MBlk w g m) : w.cell? ⟨g, 3, none⟩ = some (.string m.f3) := (cell_of_row w g 3 _ 33 (0, 0) h).trans rfl
theorem MBlk.c4 (h : MBlk w g m) : w.cell? ⟨g, 4, none⟩ = some (.int .i64 m.f4) := (cell_of_row w g 4 _ 33 (0, 0) h).trans rfl
theorem MBlk.below (h : MBlk w g m) (hb : Below w.heap.size w w') : MBlk w' g m := (hb.block g (heap_lt h)).trans h
theorem MBlk.alloc (h : MBlk w g m) (o : Obj) : MBlk (w.alloc o) g m := h.below (below_one _ _)
theorem KBlk.c0 (h : KBlk w g a b) : w.cell? ⟨g, 0, none⟩ = some (.int .i64 a) := (cell_of_row w g 0 _ 130 (0, 0) h).trans rfl
theorem KBlk.c1 (h : KBlk w g a b) : w.cell? ⟨g, 1, none⟩ = some (.int .i64 b) := (cell_of_row w g 1 _ 130 (0, 0) h).trans rfl
theorem KBlk.below (h : KBlk w g a b) (hb : Below w.heap.size w w') : KBlk w' g a b := (hb.block g (heap_lt h)).trans h
end
end Go.Proofs.Ytbfhohpbldadbaa.P

namespace Go.Proofs.Ytbfhohpbldadbaa.P
open Go.RowKit Go.Proofs.YtbfhohpbldadbaaW.PrintWords Go.Proofs.YtbfhohpbldadbaaW.PrintLast Go.Proofs.YtbfhohpbldadbaaW.PrintMore
set_option linter.unusedVariables false
set_option linter.unusedSimpArgs false
theorem R_empty {α : Type} (d : Kd α) (e : Nat) (w : World) (base : Nat) (hb : base ≤ w.heap.size) : Kd.R d e (w.alloc (.cells #[] e)) base (fun _ => True) (.slice (some ⟨w.heap.size, 0, none⟩) 0 0) [] := by
  refine ⟨fun _ _ => trivial, [], ?_, ?_⟩
  · simpa using World.ownsRow_made (e := e) (size := d.sz) w #[] 0 hb (Nat.zero_le _) (by simp)
  · exact Reps.none _ _
set_option maxHeartbeats 1000000 in
set_option maxRecDepth 100000 in
theorem cloneR (A : Option Addr) (c : Nat) (xs : List S39) (w : World) (hr : Kd.C k39 w A xs.length xs) (hl : xs.length * 72 ≤ 140737488355328) :
    Calls Try.prog 72 #[.slice A xs.length c] w fun e w' => ∃ v', e = .returned v' ∧ Kd.R k39 39 w' w.heap.size (fun _ => True) v' xs ∧ Below w.heap.size w w' := by
  have HR := Lib.hid hr
  clear hr
  have q22 : ∀ (w : World) (a : Option Addr) (n c n' c' : Nat), (binOp .eql 28 (.slice a n c) (.slice none n' c')).run Try.prog w = .ok (.bool a.isNone) w := fun w a n c n' c' => Lib.run_eql_slice_nil w _ _ a n c n' c' Try.underlying28
  cases A with
  | none =>
    have hn : xs = [] := by
      have h := HR.out.2.2
      cases xs with
      | nil => rfl
      | cons x xs => obtain ⟨ad, h, _⟩ := h (by simp); cases h
    subst hn
    clear HR
    go_enter Try.func72, Try.ntmps72
    go_wp2_with fail
    go_ret
    exact ⟨_, rfl, Kd.R_nil _ _ _ _ _, Below.refl _ _⟩
  | some ad =>
    go_enter Try.func72, Try.ntmps72
    go_wp2_with ((with_reducible refine gate_builtin (b := .append) (xs := #[.tmp 5, .tmp 6]) rfl ?_); at_builtin; refine Kd.R_append_rows k39 (w0 := w) w.heap.size rfl (.tmp 5) (.tmp 6) 28 39 (.agg #[(.int .i64 0), (.int .i64 0), (.int .i64 0), (.string ⟨#[]⟩), (.int .i64 0), (.int .i64 0), (.int .i64 0), (.int .i64 0)]) 72 rfl Try.underlying28 info39 rfl (by decide) (by omega) (.slice (some ⟨w.heap.size, 0, none⟩) 0 0) [] xs (some ad) xs.length c (fun _ => True) (fun _ => False) rfl rfl (R_empty k39 39 w w.heap.size (Nat.le_refl _)) (Kd.C_below HR.out (below_one _ _)) (fun _ _ h => h) (fun _ h => h.elim) (fun _ _ => trivial) (below_one _ _) (by simp) (by simpa using hl) ?_; intro v' w1 ho hb hg hat)
    go_ret
    exact ⟨v', rfl, by simpa using ho, hb⟩
end Go.Proofs.Ytbfhohpbldadbaa.P

namespace Go.Proofs.Ytbfhohpbldadbaa.P
open Go.RowKit Go.Proofs.YtbfhohpbldadbaaW.PrintWords Go.Proofs.YtbfhohpbldadbaaW.PrintLast Go.Proofs.YtbfhohpbldadbaaW.PrintMore
set_option linter.unusedVariables false
set_option linter.unusedSimpArgs false
theorem MBlk.cs {w : World} {g : Nat} {m : S33} (h : MBlk w g m) : w.cell? ⟨g, 0, none⟩ = some (.int .i64 m.f0) ∧ w.cell? ⟨g, 1, none⟩ = some (.int .i64 m.f1) ∧ w.cell? ⟨g, 2, none⟩ = some (.int .i64 m.f2) ∧ w.cell? ⟨g, 3, none⟩ = some (.string m.f3) ∧ w.cell? ⟨g, 4, none⟩ = some (.int .i64 m.f4) := ⟨h.c0, h.c1, h.c2, h.c3, h.c4⟩
theorem MBlk.grown {w w1 : World} {g : Nat} {m : S33} {row : Option Nat} (h : MBlk w g m) (hg : w.grownBy w1 row) (hne : some g ≠ row) : MBlk w1 g m := blk_grown h hg hne
end Go.Proofs.Ytbfhohpbldadbaa.P

namespace Go.Proofs.Ytbfhohpbldadbaa.P
open Go.RowKit Go.Proofs.YtbfhohpbldadbaaW.PrintWords Go.Proofs.YtbfhohpbldadbaaW.PrintLast Go.Proofs.YtbfhohpbldadbaaW.PrintMore
set_option linter.unusedVariables false
set_option linter.unusedSimpArgs false

/-! ### tariffs -/
def goodFrom : Int → List S110 → Bool
  | _, [] => true
  | least, b :: l => decide (least ≤ b.f0) && decide (b.f0 ≤ 86399) && decide (0 ≤ b.f1) && decide (b.f1 ≤ 1000000) && goodFrom (b.f0 + 1) l
def bandIdx (l : List S110) (s : Int) : Int := ((l.takeWhile fun b => decide (b.f0 ≤ s)).length : Int) - 1
def tariff_band.f (l0_0 : List (S110)) (a1 : Int) : Option (Int) :=
  if goodFrom 0 l0_0 = true ∧ l0_0.length ≤ 24 ∧ 0 ≤ a1 ∧ a1 < 86400 then some (bandIdx l0_0 a1) else none

/-! ### until -/
/-- The bands from the last on: what the seconds below n cost. -/
def firstR : List S110 → Int → Int → Int
  | [], _, s => s
  | b :: l, n, s => if b.f0 < n then firstR l b.f0 (s + (n - b.f0) * b.f1) else firstR l n s
def firstF (l : List S110) (n : Int) : Int := firstR l.reverse n 0
def tariff_until.f (l0_0 : List (S110)) (a1 : Int) : Option (Int) :=
  if goodFrom 0 l0_0 = true ∧ l0_0.length ≤ 24 ∧ 0 ≤ a1 ∧ a1 ≤ 1099511627776 then some (a1 / 86400 * firstF l0_0 86400 + firstF l0_0 (a1 % 86400)) else none

end Go.Proofs.Ytbfhohpbldadbaa.P

-- Written by a program of this session out of the translation (a changed scratch copy of the print). Not trusted: Lean checks it.
namespace Go.Proofs.Ytbfhohpbldadbaa.P
open Go.RowKit Go.Proofs.YtbfhohpbldadbaaW.PrintWords Go.Proofs.YtbfhohpbldadbaaW.PrintLast Go.Proofs.YtbfhohpbldadbaaW.PrintMore
attribute [local go_sem] max2_int min2_int max_two min_two max_three min_three max_four min_four   -- for this text's walks alone
set_option linter.unusedVariables false
set_option linter.unusedSimpArgs false

-- GIVEN: function 17 (crossbarlaw27_sane): Derived.Test.YtbfhohpbldadbaaExtS

/-! ### crossbarref26_Few: function 48 -/
def crossbarref26_Few.f (l0_0 : List (S110)) : Option (Bool) := some (decide ((l0_0.length : Int) ≤ 100))
/-! ### crossbarref27_Few: function 18 -/
mutual
def crossbarref27_Few.l0 : Nat → List (S33) → Int → List (S110) → Option (Bool)
  | 0, _, _, _ => none
  | k + 1, x0, x5, x103000 => if x5 < (x0.length : Int) then (crossbarref27_Few.j1 k x0 x5 (decide (x5 < 40)) x103000) else (crossbarref27_Few.j1 k x0 x5 false x103000)
def crossbarref27_Few.j1 : Nat → List (S33) → Int → Bool → List (S110) → Option (Bool)
  | 0, _, _, _, _ => none
  | k + 1, x0, x5, x13, x103000 => if x13 = true then (if 0 ≤ x5 then (if x5 < (x0.length : Int) then (if (((rd_T33 x0 x5).f3).size : Int) > 40 then (some false) else (crossbarref27_Few.l0 k x0 (wrap64 (x5 + 1)) x103000)) else (none)) else (none)) else (if (x0.length : Int) ≤ 40 then ((crossbarref26_Few.f x103000).bind fun t104 => (some t104)) else (some false))
end
def crossbarref27_Few.f (k : Nat) (l0 : List (S33)) (l1_0 : List (S110)) : Option (Bool) := crossbarref27_Few.l0 k l0 0 l1_0
theorem crossbarref27_Few.mono_l : ∀ k, (∀ y0 y1 y2, LeO (crossbarref27_Few.l0 k y0 y1 y2) (crossbarref27_Few.l0 (k + 1) y0 y1 y2)) ∧ (∀ y0 y1 y2 y3, LeO (crossbarref27_Few.j1 k y0 y1 y2 y3) (crossbarref27_Few.j1 (k + 1) y0 y1 y2 y3))
  | 0 => ⟨fun _ _ _ r h => by simp [crossbarref27_Few.l0] at h, fun _ _ _ _ r h => by simp [crossbarref27_Few.j1] at h⟩
  | k + 1 => by
    obtain ⟨ih0, ih1⟩ := crossbarref27_Few.mono_l k
    refine ⟨?_, ?_⟩
    · intro y0 y1 y2
      unfold crossbarref27_Few.l0
      repeat' first
      | (with_reducible exact ih0 _ _ _)
      | (with_reducible exact ih1 _ _ _ _)
      | (with_reducible exact LeO.refl _)
      | (with_reducible exact LeO.none _)
      | (with_reducible refine LeO.ite ?_ ?_)
      | (with_reducible refine LeO.bind ?_ (fun _ => ?_))
      | exact ih0 _ _ _
      | exact ih1 _ _ _ _
      | exact LeO.none _
      | refine LeO.ite ?_ ?_
      | refine LeO.bind ?_ (fun _ => ?_)
    · intro y0 y1 y2 y3
      unfold crossbarref27_Few.j1
      repeat' first
      | (with_reducible exact ih0 _ _ _)
      | (with_reducible exact ih1 _ _ _ _)
      | (with_reducible exact LeO.refl _)
      | (with_reducible exact LeO.none _)
      | (with_reducible refine LeO.ite ?_ ?_)
      | (with_reducible refine LeO.bind ?_ (fun _ => ?_))
      | exact ih0 _ _ _
      | exact ih1 _ _ _ _
      | exact LeO.none _
      | refine LeO.ite ?_ ?_
      | refine LeO.bind ?_ (fun _ => ?_)
theorem crossbarref27_Few.mono : ∀ a0 a1 k, LeO (crossbarref27_Few.f k a0 a1) (crossbarref27_Few.f (k + 1) a0 a1) := by
  intro a0 a1 k
  obtain ⟨ih0, ih1⟩ := crossbarref27_Few.mono_l k
  unfold crossbarref27_Few.f
  repeat' first
      | (with_reducible exact ih0 _ _ _)
      | (with_reducible exact ih1 _ _ _ _)
      | (with_reducible exact LeO.refl _)
      | (with_reducible exact LeO.none _)
      | (with_reducible refine LeO.ite ?_ ?_)
      | (with_reducible refine LeO.bind ?_ (fun _ => ?_))
      | exact ih0 _ _ _
      | exact ih1 _ _ _ _
      | exact LeO.none _
      | refine LeO.ite ?_ ?_
      | refine LeO.bind ?_ (fun _ => ?_)
-- GIVEN: function 19 (meter_Stop): Derived.Test.YtbfhohpbldadbaaExt

/-! ### tariff_within: function 67 -/
def tariff_within.f (a0 : Int) (a1 : Int) (a2 : Int) : Option (Bool) := if a1 ≤ a0 then (some (decide (a0 ≤ a2))) else (some false)
/-! ### tariff_Check: function 30 -/
def tariff_Check.l0 : Nat → Int → List (S110) → Int → Int → Option (Int)
  | 0, _, _, _, _ => none
  | k + 1, x3, x12, x13, x14 => if x14 < x13 then (if 0 ≤ x14 then (if x14 < (x12.length : Int) then (if x14 = 0 then (if ((rd_T110 x12 x14).f0) = 0 then ((tariff_within.f ((rd_T110 x12 x14).f0) x3 86399).bind fun t109 => (if t109 = true then ((tariff_within.f ((rd_T110 x12 x14).f1) 0 1000000).bind fun t110 => (if t110 = true then (tariff_Check.l0 k (wrap64 (((rd_T110 x12 x14).f0) + 1)) x12 x13 (wrap64 (x14 + 1))) else (some 260))) else (some 260))) else (some 260)) else ((tariff_within.f ((rd_T110 x12 x14).f0) x3 86399).bind fun t111 => (if t111 = true then ((tariff_within.f ((rd_T110 x12 x14).f1) 0 1000000).bind fun t112 => (if t112 = true then (tariff_Check.l0 k (wrap64 (((rd_T110 x12 x14).f0) + 1)) x12 x13 (wrap64 (x14 + 1))) else (some 260))) else (some 260)))) else (none)) else (none)) else (some 0)
def tariff_Check.f (k : Nat) (l0_0 : List (S110)) : Option (Int) := (tariff_within.f (l0_0.length : Int) 1 24).bind fun t106 => (if t106 = true then (tariff_Check.l0 k 0 l0_0 (l0_0.length : Int) 0) else (some 260))
theorem tariff_Check.mono_l : ∀ k, (∀ y0 y1 y2 y3, LeO (tariff_Check.l0 k y0 y1 y2 y3) (tariff_Check.l0 (k + 1) y0 y1 y2 y3))
  | 0 => fun _ _ _ _ r h => by simp [tariff_Check.l0] at h
  | k + 1 => by
    have ih0 := tariff_Check.mono_l k
    · intro y0 y1 y2 y3
      unfold tariff_Check.l0
      repeat' first
      | (with_reducible exact ih0 _ _ _ _)
      | (with_reducible exact LeO.refl _)
      | (with_reducible exact LeO.none _)
      | (with_reducible refine LeO.ite ?_ ?_)
      | (with_reducible refine LeO.bind ?_ (fun _ => ?_))
      | exact ih0 _ _ _ _
      | exact LeO.none _
      | refine LeO.ite ?_ ?_
      | refine LeO.bind ?_ (fun _ => ?_)
theorem tariff_Check.mono : ∀ a0 k, LeO (tariff_Check.f k a0) (tariff_Check.f (k + 1) a0) := by
  intro a0 k
  have ih0 := tariff_Check.mono_l k
  unfold tariff_Check.f
  repeat' first
      | (with_reducible exact ih0 _ _ _ _)
      | (with_reducible exact LeO.refl _)
      | (with_reducible exact LeO.none _)
      | (with_reducible refine LeO.ite ?_ ?_)
      | (with_reducible refine LeO.bind ?_ (fun _ => ?_))
      | exact ih0 _ _ _ _
      | exact LeO.none _
      | refine LeO.ite ?_ ?_
      | refine LeO.bind ?_ (fun _ => ?_)
-- GIVEN: function 56 (tariff_until): Derived.Test.YtbfhohpbldadbaaExt

/-! ### tariff_Price: function 20 -/
def tariff_Price.j0 : Nat → Int → Int → Bool → List (S110) → Option (Int × Int)
  | 0, _, _, _, _ => none
  | k + 1, x1, x2, x24, x114000 => if x24 = true then (some (0, 1)) else ((tariff_until.f x114000 x2).bind fun t115 => ((tariff_until.f x114000 x1).bind fun t116 => (some (wrap64 (t115 - t116), 0))))
def tariff_Price.f (k : Nat) (l0_0 : List (S110)) (a1 : Int) (a2 : Int) : Option (Int × Int) := (tariff_Check.f k l0_0).bind fun t114 => (if t114 = 0 then (if a1 < 0 then (tariff_Price.j0 k a1 a2 true l0_0) else (if a2 < a1 then (tariff_Price.j0 k a1 a2 true l0_0) else (tariff_Price.j0 k a1 a2 (decide (a2 > 1099511627776)) l0_0))) else (some (0, t114)))
theorem tariff_Price.mono_l : ∀ k, (∀ y0 y1 y2 y3, LeO (tariff_Price.j0 k y0 y1 y2 y3) (tariff_Price.j0 (k + 1) y0 y1 y2 y3))
  | 0 => fun _ _ _ _ r h => by simp [tariff_Price.j0] at h
  | k + 1 => by
    have ih0 := tariff_Price.mono_l k
    · intro y0 y1 y2 y3
      unfold tariff_Price.j0
      repeat' first
      | (with_reducible exact ih0 _ _ _ _)
      | (with_reducible exact tariff_Check.mono _ _)
      | (with_reducible exact LeO.refl _)
      | (with_reducible exact LeO.none _)
      | (with_reducible refine LeO.ite ?_ ?_)
      | (with_reducible refine LeO.bind ?_ (fun _ => ?_))
      | exact ih0 _ _ _ _
      | exact tariff_Check.mono _ _
      | exact LeO.none _
      | refine LeO.ite ?_ ?_
      | refine LeO.bind ?_ (fun _ => ?_)
theorem tariff_Price.mono : ∀ a0 a1 a2 k, LeO (tariff_Price.f k a0 a1 a2) (tariff_Price.f (k + 1) a0 a1 a2) := by
  intro a0 a1 a2 k
  have ih0 := tariff_Price.mono_l k
  unfold tariff_Price.f
  repeat' first
      | (with_reducible exact ih0 _ _ _ _)
      | (with_reducible exact tariff_Check.mono _ _)
      | (with_reducible exact LeO.refl _)
      | (with_reducible exact LeO.none _)
      | (with_reducible refine LeO.ite ?_ ?_)
      | (with_reducible refine LeO.bind ?_ (fun _ => ?_))
      | exact ih0 _ _ _ _
      | exact tariff_Check.mono _ _
      | exact LeO.none _
      | refine LeO.ite ?_ ?_
      | refine LeO.bind ?_ (fun _ => ?_)
def tariff_Price.B6 : List Nat := [0, 0, 3, 0, 0, 31, 63, 127, 255]
end Go.Proofs.Ytbfhohpbldadbaa.P

-- Written by a program of this session out of the translation (a changed scratch copy of the print). Not trusted: Lean checks it.
namespace Go.Proofs.Ytbfhohpbldadbaa.P
open Go.RowKit Go.Proofs.YtbfhohpbldadbaaW.PrintWords Go.Proofs.YtbfhohpbldadbaaW.PrintLast Go.Proofs.YtbfhohpbldadbaaW.PrintMore
attribute [local go_sem] max2_int min2_int max_two min_two max_three min_three max_four min_four   -- for this text's walks alone
set_option linter.unusedVariables false
set_option linter.unusedSimpArgs false

/-! ### tariff_Rate: function 31 -/
def tariff_Rate.f (k : Nat) (l0_0 : List (S110)) (a1 : Int) : Option (Int × Int) := (tariff_Check.f k l0_0).bind fun t447 => (if t447 = 0 then ((tariff_within.f a1 0 1099511627776).bind fun t448 => (if t448 = true then ((tariff_band.f l0_0 (Int.tmod a1 86400)).bind fun t449 => (if 0 ≤ t449 then (if t449 < (l0_0.length : Int) then (some ((rd_T110 l0_0 t449).f1, 0)) else (none)) else (none))) else (some (0, 1)))) else (some (0, t447)))
theorem tariff_Rate.mono : ∀ a0 a1 k, LeO (tariff_Rate.f k a0 a1) (tariff_Rate.f (k + 1) a0 a1) := by
  intro a0 a1 k
  unfold tariff_Rate.f
  repeat' first
      | (with_reducible exact tariff_Check.mono _ _)
      | (with_reducible exact LeO.refl _)
      | (with_reducible exact LeO.none _)
      | (with_reducible refine LeO.ite ?_ ?_)
      | (with_reducible refine LeO.bind ?_ (fun _ => ?_))
      | exact tariff_Check.mono _ _
      | exact LeO.none _
      | refine LeO.ite ?_ ?_
      | refine LeO.bind ?_ (fun _ => ?_)
def tariff_Rate.B6 : List Nat := [0, 1, 0, 0, 8, 28, 63, 127, 255, 511, 1023]
-- NOT PRINTED: function 9 (crossbarlaw27_MeterChargesEverySecondOnce)

/-! ### tariff_Change: function 32 -/
def tariff_Change.l0 : Nat → Int → Int → Int → Int → Int → Int → Int → List (S110) → Option (Int × Bool × Int)
  | 0, _, _, _, _, _, _, _, _ => none
  | k + 1, x6, x7, x8, x9, x10, x31, x32, x495000 => if x32 < x31 then (if (wrap64 (x9 + 1)) = x8 then (if 0 < (x495000.length : Int) then (if ((rd_T110 x495000 0).f1) = x7 then (tariff_Change.l0 k x6 x7 x8 0 (wrap64 (x10 + 86400)) x31 (wrap64 (x32 + 1)) x495000) else (some (wrap64 ((wrap64 (x10 + 86400)) + ((rd_T110 x495000 0).f0)), true, x6))) else (none)) else (if 0 ≤ (wrap64 (x9 + 1)) then (if (wrap64 (x9 + 1)) < (x495000.length : Int) then (if ((rd_T110 x495000 (wrap64 (x9 + 1))).f1) = x7 then (tariff_Change.l0 k x6 x7 x8 (wrap64 (x9 + 1)) x10 x31 (wrap64 (x32 + 1)) x495000) else (some (wrap64 (x10 + ((rd_T110 x495000 (wrap64 (x9 + 1))).f0)), true, x6))) else (none)) else (none))) else (some (0, false, x6))
def tariff_Change.f (k : Nat) (l0_0 : List (S110)) (a1 : Int) : Option (Int × Bool × Int) := (tariff_Rate.f k l0_0 a1).bind fun bt495 => (if bt495.2 = 0 then ((tariff_band.f l0_0 (Int.tmod a1 86400)).bind fun t497 => (tariff_Change.l0 k bt495.2 bt495.1 (l0_0.length : Int) t497 (wrap64 (a1 - (Int.tmod a1 86400))) (l0_0.length : Int) 0 l0_0)) else (some (0, false, bt495.2)))
theorem tariff_Change.mono_l : ∀ k, (∀ y0 y1 y2 y3 y4 y5 y6 y7, LeO (tariff_Change.l0 k y0 y1 y2 y3 y4 y5 y6 y7) (tariff_Change.l0 (k + 1) y0 y1 y2 y3 y4 y5 y6 y7))
  | 0 => fun _ _ _ _ _ _ _ _ r h => by simp [tariff_Change.l0] at h
  | k + 1 => by
    have ih0 := tariff_Change.mono_l k
    · intro y0 y1 y2 y3 y4 y5 y6 y7
      unfold tariff_Change.l0
      repeat' first
      | (with_reducible exact ih0 _ _ _ _ _ _ _ _)
      | (with_reducible exact tariff_Rate.mono _ _ _)
      | (with_reducible exact LeO.refl _)
      | (with_reducible exact LeO.none _)
      | (with_reducible refine LeO.ite ?_ ?_)
      | (with_reducible refine LeO.bind ?_ (fun _ => ?_))
      | exact ih0 _ _ _ _ _ _ _ _
      | exact tariff_Rate.mono _ _ _
      | exact LeO.none _
      | refine LeO.ite ?_ ?_
      | refine LeO.bind ?_ (fun _ => ?_)
theorem tariff_Change.mono : ∀ a0 a1 k, LeO (tariff_Change.f k a0 a1) (tariff_Change.f (k + 1) a0 a1) := by
  intro a0 a1 k
  have ih0 := tariff_Change.mono_l k
  unfold tariff_Change.f
  repeat' first
      | (with_reducible exact ih0 _ _ _ _ _ _ _ _)
      | (with_reducible exact tariff_Rate.mono _ _ _)
      | (with_reducible exact LeO.refl _)
      | (with_reducible exact LeO.none _)
      | (with_reducible refine LeO.ite ?_ ?_)
      | (with_reducible refine LeO.bind ?_ (fun _ => ?_))
      | exact ih0 _ _ _ _ _ _ _ _
      | exact tariff_Rate.mono _ _ _
      | exact LeO.none _
      | refine LeO.ite ?_ ?_
      | refine LeO.bind ?_ (fun _ => ?_)
end Go.Proofs.Ytbfhohpbldadbaa.P

namespace Go.Proofs.Ytbfhohpbldadbaa.P
open Go.RowKit Go.Proofs.YtbfhohpbldadbaaW.PrintWords Go.Proofs.YtbfhohpbldadbaaW.PrintLast Go.Proofs.YtbfhohpbldadbaaW.PrintMore
set_option linter.unusedVariables false
set_option linter.unusedSimpArgs false
/-- The block of a cutter: its tariff's bands, its records. -/
def CBlk (w : World) (g : Nat) (v r : Value) : Prop := w.heap[g]? = some (.cells #[v, r] 100 (0, 0))
section
variable {w w' : World} {g : Nat} {v r : Value}
theorem CBlk.c0 (h : CBlk w g v r) : w.cell? ⟨g, 0, none⟩ = some v := (cell_of_row w g 0 _ 100 (0, 0) h).trans rfl
theorem CBlk.c1 (h : CBlk w g v r) : w.cell? ⟨g, 1, none⟩ = some r := (cell_of_row w g 1 _ 100 (0, 0) h).trans rfl
theorem CBlk.below (h : CBlk w g v r) (hb : Below w.heap.size w w') : CBlk w' g v r := (hb.block g (heap_lt h)).trans h
end
end Go.Proofs.Ytbfhohpbldadbaa.P

namespace Go.Proofs.Ytbfhohpbldadbaa.P
open Go.RowKit Go.Proofs.YtbfhohpbldadbaaW.PrintWords Go.Proofs.YtbfhohpbldadbaaW.PrintLast Go.Proofs.YtbfhohpbldadbaaW.PrintMore
set_option linter.unusedVariables false
set_option linter.unusedSimpArgs false
/-- A box of one cell. -/
def Bx (w : World) (g t : Nat) (v : Value) : Prop := w.heap[g]? = some (.cells #[v] t (0, 0))
section
variable {w w' : World} {g t : Nat} {v : Value}
theorem Bx.c0 (h : Bx w g t v) : w.cell? ⟨g, 0, none⟩ = some v := (cell_of_row w g 0 _ t (0, 0) h).trans rfl
theorem Bx.below (h : Bx w g t v) (hb : Below w.heap.size w w') : Bx w' g t v := (hb.block g (heap_lt h)).trans h
end
/-- What a call of a predicate over meters answers, in every world behind w. -/
def PredAll (F : Nat) (lb : Array Value) (w : World) (p : S33 → Bool) : Prop :=
  ∀ m W, Below w.heap.size w W → Calls Try.prog F (#[.agg #[.int .i64 m.f0, .int .i64 m.f1, .int .i64 m.f2, .string m.f3, .int .i64 m.f4]] ++ lb) W fun e W' => e = .returned (.bool (p m)) ∧ Below W.heap.size W W'
theorem PredAll.below {F : Nat} {lb : Array Value} {w w' : World} {p : S33 → Bool} (h : PredAll F lb w p) (hb : Below w.heap.size w w') : PredAll F lb w' p := fun m W hW => h m W (bb hb hW)

end Go.Proofs.Ytbfhohpbldadbaa.P

namespace Go.Proofs.Ytbfhohpbldadbaa.P
open Go.RowKit Go.Proofs.YtbfhohpbldadbaaW.PrintWords Go.Proofs.YtbfhohpbldadbaaW.PrintLast Go.Proofs.YtbfhohpbldadbaaW.PrintMore
attribute [local go_sem] max2_int min2_int max_two min_two max_three min_three max_four min_four
set_option linter.unusedVariables false
set_option linter.unusedSimpArgs false
/-- W' is W but for the blocks of 'bad' and what is new. -/
structure Fr (bad : Nat → Prop) (W W' : World) : Prop where
  low : Below 0 W W'
  same : ∀ k, k < W.heap.size → ¬ bad k → W'.heap[k]? = W.heap[k]?
theorem Fr.refl (bad : Nat → Prop) (W : World) : Fr bad W W := ⟨Below.refl _ _, fun _ _ _ => rfl⟩
theorem Fr.size {bad : Nat → Prop} {W W' : World} (h : Fr bad W W') : W.heap.size ≤ W'.heap.size := h.low.size
theorem below0_trans {A B C : World} (h : Below 0 A B) (k : Below 0 B C) : Below 0 A C :=
  ⟨k.os.trans h.os, k.tape.trans h.tape, k.output.trans h.output, Nat.le_trans h.size k.size, fun i hi => absurd hi (Nat.not_lt_zero i)⟩
theorem below_zero {B : Nat} {W W' : World} (h : Below B W W') : Below 0 W W' := ⟨h.os, h.tape, h.output, h.size, fun i hi => absurd hi (Nat.not_lt_zero i)⟩
theorem Fr.trans {bad bad' : Nat → Prop} {A B C : World} (h : Fr bad A B) (k : Fr bad' B C) (hb : ∀ i, i < A.heap.size → bad' i → bad i) : Fr bad A C :=
  ⟨below0_trans h.low k.low, fun i hi hn => (k.same i (Nat.lt_of_lt_of_le hi h.low.size) (fun hx => hn (hb i hi hx))).trans (h.same i hi hn)⟩
theorem Fr.mono {bad bad' : Nat → Prop} {A B : World} (h : Fr bad A B) (hb : ∀ i, i < A.heap.size → bad i → bad' i) : Fr bad' A B := ⟨h.low, fun i hi hn => h.same i hi (fun hx => hn (hb i hi hx))⟩
theorem Fr.of_below {W W' : World} (h : Below W.heap.size W W') (bad : Nat → Prop) : Fr bad W W' := ⟨below_zero h, fun k hk _ => h.block k hk⟩
theorem Fr.set (W : World) (g j : Nat) (u : Value) : Fr (fun k => k = g) W (W.setCell ⟨g, j, none⟩ u) :=
  ⟨below_zero (Below.setCell (Below.refl 0 W) (Nat.zero_le _) u), fun k _ hn => Below.heap_setCell _ _ _ k hn⟩
theorem Fr.of_grown {W W' : World} {row : Option Nat} (h : W.grownBy W' row) : Fr (fun k => some k = row) W W' :=
  ⟨⟨h.os, h.tape, h.output, h.size, fun i hi => absurd hi (Nat.not_lt_zero i)⟩, fun k hk hn => h.block k hk hn⟩
theorem Fr.below {bad : Nat → Prop} {w0 W W' : World} {B : Nat} (h : Fr bad W W') (hb : Below B w0 W) (hB : B ≤ w0.heap.size) (hk : ∀ k, bad k → B ≤ k) : Below B w0 W' :=
  ⟨h.low.os.trans hb.os, h.low.tape.trans hb.tape, h.low.output.trans hb.output, Nat.le_trans hb.size h.low.size, fun k hlt =>
    (h.same k (Nat.lt_of_lt_of_le (Nat.lt_of_lt_of_le hlt hB) hb.size) (fun hx => Nat.not_le_of_lt hlt (hk k hx))).trans (hb.block k hlt)⟩
theorem Fr.blk {bad : Nat → Prop} {W W' : World} {g : Nat} {o : Obj} (h : Fr bad W W') (hg : W.heap[g]? = some o) (hn : ¬ bad g) : W'.heap[g]? = some o := (h.same g (heap_lt hg) hn).trans hg
/-- The cells of a meter in the midst of a block. -/
structure MRow (W : World) (g : Nat) (cs : Array Value) (o : Nat) (m : S33) : Prop where
  blk : W.heap[g]? = some (.cells cs 33 (0, 0))
  e0 : cs[o]? = some (.int .i64 m.f0)
  e1 : cs[o + 1]? = some (.int .i64 m.f1)
  e2 : cs[o + 2]? = some (.int .i64 m.f2)
  e3 : cs[o + 3]? = some (.string m.f3)
  e4 : cs[o + 4]? = some (.int .i64 m.f4)
section
variable {W W' : World} {g o : Nat} {cs : Array Value} {m : S33}
theorem MRow.c0 (h : MRow W g cs o m) : W.cell? ⟨g, o, none⟩ = some (.int .i64 m.f0) := (blk_cell h.blk o).trans h.e0
theorem MRow.c1 (h : MRow W g cs o m) : W.cell? ⟨g, o + 1, none⟩ = some (.int .i64 m.f1) := (blk_cell h.blk (o + 1)).trans h.e1
theorem MRow.c2 (h : MRow W g cs o m) : W.cell? ⟨g, o + 2, none⟩ = some (.int .i64 m.f2) := (blk_cell h.blk (o + 2)).trans h.e2
theorem MRow.c3 (h : MRow W g cs o m) : W.cell? ⟨g, o + 3, none⟩ = some (.string m.f3) := (blk_cell h.blk (o + 3)).trans h.e3
theorem MRow.c4 (h : MRow W g cs o m) : W.cell? ⟨g, o + 4, none⟩ = some (.int .i64 m.f4) := (blk_cell h.blk (o + 4)).trans h.e4
theorem MRow.move (h : MRow W g cs o m) (hb : W'.heap[g]? = some (.cells cs 33 (0, 0))) : MRow W' g cs o m := ⟨hb, h.e0, h.e1, h.e2, h.e3, h.e4⟩
theorem MRow.below (h : MRow W g cs o m) (hb : Below W.heap.size W W') : MRow W' g cs o m := h.move ((hb.block g (heap_lt h.blk)).trans h.blk)
theorem MRow.grown {row : Option Nat} (h : MRow W g cs o m) (hg : W.grownBy W' row) (hne : some g ≠ row) : MRow W' g cs o m := h.move (blk_grown h.blk hg hne)
end
theorem CBlk.grown {W W' : World} {g : Nat} {v r : Value} {row : Option Nat} (h : CBlk W g v r) (hg : W.grownBy W' row) (hne : some g ≠ row) : CBlk W' g v r := blk_grown h hg hne
theorem C1R (W : World) (x : S39) : Kd.C k39 (W.alloc (.cells #[.int .i64 x.f0, .int .i64 x.f1, .int .i64 x.f2, .string x.f3, .int .i64 x.f4, .int .i64 x.f5, .int .i64 x.f6, .int .i64 x.f7] 39)) (some ⟨W.heap.size, 0, none⟩) 1 [x] := by
  have h := heap_alloc_new W (.cells #[.int .i64 x.f0, .int .i64 x.f1, .int .i64 x.f2, .string x.f3, .int .i64 x.f4, .int .i64 x.f5, .int .i64 x.f6, .int .i64 x.f7] 39)
  refine ⟨rfl, by simp, fun _ => ⟨_, rfl, fun j p hj => ?_⟩⟩
  match j, hj with
  | 0, hj =>
    obtain rfl : x = p := by simpa using hj
    refine ⟨[.int .i64 x.f0, .int .i64 x.f1, .int .i64 x.f2, .string x.f3, .int .i64 x.f4, .int .i64 x.f5, .int .i64 x.f6, .int .i64 x.f7], rfl, k39_mk _ x, fun i u hi => ?_⟩
    match i, hi with
    | 0, hi =>
      obtain rfl := (by simpa using hi)
      exact (blk_cell h 0).trans rfl
    | 1, hi =>
      obtain rfl := (by simpa using hi)
      exact (blk_cell h 1).trans rfl
    | 2, hi =>
      obtain rfl := (by simpa using hi)
      exact (blk_cell h 2).trans rfl
    | 3, hi =>
      obtain rfl := (by simpa using hi)
      exact (blk_cell h 3).trans rfl
    | 4, hi =>
      obtain rfl := (by simpa using hi)
      exact (blk_cell h 4).trans rfl
    | 5, hi =>
      obtain rfl := (by simpa using hi)
      exact (blk_cell h 5).trans rfl
    | 6, hi =>
      obtain rfl := (by simpa using hi)
      exact (blk_cell h 6).trans rfl
    | 7, hi =>
      obtain rfl := (by simpa using hi)
      exact (blk_cell h 7).trans rfl
    | (n + 8), hi => simp at hi
  | (n + 1), hj => simp at hj
/-- append(s, x...) of records, in a region that draws. -/
theorem app39 {ops : Array Oper} {o : Oper} {a : Act} {Q : Exit → Act → World → Prop} {Kc : Act → World → Prop} {W : World} (B : Nat) (hw : Region.wanted o (yielded ops a.tmps) = true) (s x : Operand)
    (ho : o.op = .call { callee := .builtin .append, args := #[s, x], argTypes := #[28, 28] })
    (v : Value) (xs ys : List S39) (A : Option Addr) (m c : Nat) (hs : a.eval s = v) (hx : a.eval x = .slice A m c)
    (HO : k39.R 39 W B (fun _ => True) v xs) (HR : Kd.C k39 W A m ys) (HB : B ≤ W.heap.size) (hl : (xs.length + m) * 72 ≤ 140737488355328)
    (h : ∀ v1 w1, k39.R 39 w1 B (fun _ => True) v1 (xs ++ ys) → W.grownBy w1 v.ownBlock → (v1.ownBlock = v.ownBlock ∨ ∃ b, v1.ownBlock = some b ∧ W.heap.size ≤ b) → Kc (a.put o.dst v1) w1) :
    if Region.wanted o (yielded ops a.tmps) = true then Oper.wp Try.prog o a W Kc Q else Kc (a.put o.dst undef) W :=
  Kd.R_append_rows_step (Rr := k39.K W) k39 (w0 := W) B hw s x 28 39 (.agg #[(.int .i64 0), (.int .i64 0), (.int .i64 0), (.string ⟨#[]⟩), (.int .i64 0), (.int .i64 0), (.int .i64 0), (.int .i64 0)]) 72 ho Try.underlying28 info39 rfl (by decide) (by decide) v xs ys A m c (fun _ => True) (fun _ => False) hs hx HO HR (fun y cs h => k39_open h ▸ k39_mkM _ _ _ y) (fun _ h => h.elim) (fun _ _ => trivial) (Below.refl _ _) HB hl (fun v1 w1 h1 _ h3 h4 => h v1 w1 h1 h3 h4)
end Go.Proofs.Ytbfhohpbldadbaa.P

namespace Go.Proofs.Ytbfhohpbldadbaa.P
open Go Go.RowKit Go.Proofs.YtbfhohpbldadbaaW.PrintWords Go.Proofs.YtbfhohpbldadbaaW.PrintLast Go.Proofs.YtbfhohpbldadbaaW.PrintMore
set_option linter.unusedVariables false
set_option linter.unusedSimpArgs false
/-- clearing.sized. -/
def sizedB (n : Nat) : Bool := decide ((1 : Int) ≤ n) && decide ((n : Int) ≤ 1024)
theorem sized_calls (A : Option Addr) (n c : Nat) (w : World) : Calls Try.prog 71 #[.slice A n c] w fun e w' => e = .returned (.bool (sizedB n)) ∧ Below w.heap.size w w' := by
  go_enter Try.func71, Try.ntmps71
  cases h : decide ((1 : Int) ≤ n)
  · go_wp2_with fail
    go_ret
    exact ⟨by simp [sizedB, h], Below.refl _ _⟩
  · go_wp2_with fail
    go_ret
    exact ⟨by simp [sizedB, h], Below.refl _ _⟩
theorem enters73 : Enters 73 := fun _ _ => by kernel_rfl
theorem odd_calls (A : Option Addr) (n c : Nat) (w : World) : Calls Try.prog 73 (#[.slice A n c] ++ #[]) w fun e w' => e = .returned (.bool (!sizedB n)) ∧ Below w.heap.size w w' := by
  go_enter Try.func73, Try.ntmps73
  go_wp2_with (go_at_call 71; refine (sized_calls A n c w).mono ?_; rintro e w' ⟨rfl, hb⟩; have HB := Lib.hid hb; clear hb)
  go_ret
  exact ⟨rfl, HB.out⟩
theorem in74_calls (n : Int) (w : World) : Calls Try.prog 74 #[.int .i64 n] w fun e w' => e = .returned (.bool (!oddT n)) ∧ Below w.heap.size w w' := by
  by_cases h : 0 ≤ n
  · by_cases h2 : n ≤ 1099511627776
    · have hh : oddT n = false := by simp [oddT]; omega
      rw [hh]
      go_enter Try.func74, Try.ntmps74
      go_wp2
      go_ret
      exact ⟨rfl, Below.refl _ _⟩
    · have hh : oddT n = true := by simp [oddT]; omega
      rw [hh]
      go_enter Try.func74, Try.ntmps74
      go_wp2
      go_ret
      exact ⟨rfl, Below.refl _ _⟩
  · have hh : oddT n = true := by simp [oddT]; omega
    rw [hh]
    go_enter Try.func74, Try.ntmps74
    go_wp2
    go_ret
    exact ⟨rfl, Below.refl _ _⟩
/-- The cells of an end (of type t: 61, or 117 for the editor). -/
def EBlk (w : World) (g t : Nat) (v0 : Value) (f1 f2 : Int) (v3 : Value) (f4 : Bool) (f5 : Int) : Prop := w.heap[g]? = some (.cells #[v0, .int .i64 f1, .int .i64 f2, v3, .bool f4, .int .i64 f5] t (0, 0))
section
variable {w w' : World} {g t : Nat} {v0 v3 : Value} {f1 f2 f5 : Int} {f4 : Bool}
theorem EBlk.c0 (h : EBlk w g t v0 f1 f2 v3 f4 f5) : w.cell? ⟨g, 0, none⟩ = some v0 := (cell_of_row w g 0 _ t (0, 0) h).trans rfl
theorem EBlk.c1 (h : EBlk w g t v0 f1 f2 v3 f4 f5) : w.cell? ⟨g, 1, none⟩ = some (.int .i64 f1) := (cell_of_row w g 1 _ t (0, 0) h).trans rfl
theorem EBlk.c2 (h : EBlk w g t v0 f1 f2 v3 f4 f5) : w.cell? ⟨g, 2, none⟩ = some (.int .i64 f2) := (cell_of_row w g 2 _ t (0, 0) h).trans rfl
theorem EBlk.c3 (h : EBlk w g t v0 f1 f2 v3 f4 f5) : w.cell? ⟨g, 3, none⟩ = some v3 := (cell_of_row w g 3 _ t (0, 0) h).trans rfl
theorem EBlk.c4 (h : EBlk w g t v0 f1 f2 v3 f4 f5) : w.cell? ⟨g, 4, none⟩ = some (.bool f4) := (cell_of_row w g 4 _ t (0, 0) h).trans rfl
theorem EBlk.c5 (h : EBlk w g t v0 f1 f2 v3 f4 f5) : w.cell? ⟨g, 5, none⟩ = some (.int .i64 f5) := (cell_of_row w g 5 _ t (0, 0) h).trans rfl
theorem EBlk.below (h : EBlk w g t v0 f1 f2 v3 f4 f5) (hb : Below w.heap.size w w') : EBlk w' g t v0 f1 f2 v3 f4 f5 := (hb.block g (heap_lt h)).trans h
theorem EBlk.new (w : World) (t : Nat) (v0 v3 : Value) (f1 f2 f5 : Int) (f4 : Bool) : EBlk (w.alloc (.cells #[v0, .int .i64 f1, .int .i64 f2, v3, .bool f4, .int .i64 f5] t)) w.heap.size t v0 f1 f2 v3 f4 f5 := heap_alloc_new w _
end
def runB (n : Nat) (d : Int) : Bool := decide ((0 : Int) < n) && (decide (0 ≤ d) && decide (d ≤ 1099511627779))
/-- clearing.Check. -/
def clCheck (o : List (List S39)) (f1 f2 f5 : Int) : Int :=
  if oddT f1 || oddT f2 || o.any (fun l => !sizedB l.length) then 1 else if (f5 != -1) && !runB o.length f5 then 1 else if decide ((64 : Int) < o.length) then 2 else 0
set_option maxHeartbeats 4000000 in
set_option maxRecDepth 100000 in
theorem clCheck_calls (A0 : Option Addr) (c0 : Nat) (o : List (List S39)) (f1 f2 : Int) (v3 : Value) (f4 : Bool) (f5 : Int) (w : World) (hr : Kd.C (Kd.slice 39 k39) w A0 o.length o) :
    Calls Try.prog 39 #[.agg #[.slice A0 o.length c0, .int .i64 f1, .int .i64 f2, v3, .bool f4, .int .i64 f5]] w fun e w' => e = .returned (.int .i64 (clCheck o f1 f2 f5)) ∧ Below w.heap.size w w' := by
  have HR := Lib.hid hr
  obtain ⟨r, hr'⟩ : ∃ r, r = clCheck o f1 f2 f5 := ⟨_, rfl⟩
  rw [← hr']
  have R := Lib.hid hr'
  clear hr hr'
  go_enter Try.func39, Try.ntmps39
  by_cases hd0 : 0 < o.length
  · by_cases hd1 : 0 ≤ f5
    · by_cases hd2 : f5 ≤ 1099511627779
      · have hrun : runB o.length f5 = true := by unfold runB; rw [decide_eq_true (show (0 : Int) < o.length by omega), decide_eq_true hd1, decide_eq_true hd2]; rfl
        have HRUN := Lib.hid hrun
        clear hrun
        go_wp2_with fail
        obtain ⟨w1, hw1⟩ : ∃ w1, w1 = w.alloc (.cells #[.slice A0 o.length c0, .int .i64 f1, .int .i64 f2, v3, .bool f4, .int .i64 f5] 61) := ⟨_, rfl⟩
        rw [← hw1]
        have E0 := Lib.hid (show EBlk w1 w.heap.size 61 (.slice A0 o.length c0) f1 f2 v3 f4 f5 by rw [hw1]; exact EBlk.new w 61 _ _ _ _ _ _)
        have B0 := Lib.hid (show Below w.heap.size w w1 by rw [hw1]; exact below_one _ _)
        clear hw1
        refine (in74_calls f1 w1).mono ?_
        rintro e w2 ⟨rfl, hb⟩
        replace E0 := Lib.hid (E0.out.below hb)
        replace B0 := Lib.hid (bb B0.out hb)
        clear hb
        cases h1 : oddT f1
        · have x2 := E0.out.c2
          go_wp2_with fail
          refine (in74_calls f2 w2).mono ?_
          rintro e w3 ⟨rfl, hb⟩
          replace E0 := Lib.hid (E0.out.below hb)
          replace B0 := Lib.hid (bb B0.out hb)
          clear hb x2
          cases h2 : oddT f2
          · have x0 := E0.out.c0
            go_wp2_with fail
            refine (containsL 73 #[] enters73 A0 c0 o (fun l => !sizedB l.length) _ (Kd.C_below HR.out B0.out) (fun m _ W _ A c hm hc => odd_calls A m.length c W)).mono ?_
            rintro e w4 ⟨rfl, hb⟩
            replace E0 := Lib.hid (E0.out.below hb)
            replace B0 := Lib.hid (bb B0.out hb)
            clear hb x0
            cases h3 : o.any (fun l => !sizedB l.length)
            · have x5 := E0.out.c5
              have x0 := E0.out.c0
              by_cases h4 : f5 = -1
              · exfalso; omega
              · have h4' : (f5 != -1) = true := by simp [h4]
                have H4 := Lib.hid h4'
                clear h4'
                by_cases h5 : (64 : Int) < o.length
                · have H5 := Lib.hid h5
                  go_wp2_with fail
                  go_ret
                  obtain rfl : r = 2 := by rw [R.out]; unfold clCheck; rw [h1, h2, h3, H4.out, HRUN.out, decide_eq_true H5.out]; rfl
                  exact ⟨rfl, B0.out⟩
                · have H5 := Lib.hid h5
                  go_wp2_with fail
                  go_ret
                  obtain rfl : r = 0 := by rw [R.out]; unfold clCheck; rw [h1, h2, h3, H4.out, HRUN.out, decide_eq_false (show ¬ (64 : Int) < o.length by have := H5.out; omega)]; rfl
                  exact ⟨rfl, B0.out⟩
            · go_wp2_with fail
              go_ret
              obtain rfl : r = 1 := by rw [R.out]; unfold clCheck; rw [h1, h2, h3]; rfl
              exact ⟨rfl, B0.out⟩
          · go_wp2_with fail
            go_ret
            obtain rfl : r = 1 := by rw [R.out]; unfold clCheck; rw [h1, h2]; rfl
            exact ⟨rfl, B0.out⟩
        · go_wp2_with fail
          go_ret
          obtain rfl : r = 1 := by rw [R.out]; unfold clCheck; rw [h1]; rfl
          exact ⟨rfl, B0.out⟩
      · have hrun : runB o.length f5 = false := by unfold runB; rw [decide_eq_false hd2, Bool.and_false, Bool.and_false]
        have HRUN := Lib.hid hrun
        clear hrun
        go_wp2_with fail
        obtain ⟨w1, hw1⟩ : ∃ w1, w1 = w.alloc (.cells #[.slice A0 o.length c0, .int .i64 f1, .int .i64 f2, v3, .bool f4, .int .i64 f5] 61) := ⟨_, rfl⟩
        rw [← hw1]
        have E0 := Lib.hid (show EBlk w1 w.heap.size 61 (.slice A0 o.length c0) f1 f2 v3 f4 f5 by rw [hw1]; exact EBlk.new w 61 _ _ _ _ _ _)
        have B0 := Lib.hid (show Below w.heap.size w w1 by rw [hw1]; exact below_one _ _)
        clear hw1
        refine (in74_calls f1 w1).mono ?_
        rintro e w2 ⟨rfl, hb⟩
        replace E0 := Lib.hid (E0.out.below hb)
        replace B0 := Lib.hid (bb B0.out hb)
        clear hb
        cases h1 : oddT f1
        · have x2 := E0.out.c2
          go_wp2_with fail
          refine (in74_calls f2 w2).mono ?_
          rintro e w3 ⟨rfl, hb⟩
          replace E0 := Lib.hid (E0.out.below hb)
          replace B0 := Lib.hid (bb B0.out hb)
          clear hb x2
          cases h2 : oddT f2
          · have x0 := E0.out.c0
            go_wp2_with fail
            refine (containsL 73 #[] enters73 A0 c0 o (fun l => !sizedB l.length) _ (Kd.C_below HR.out B0.out) (fun m _ W _ A c hm hc => odd_calls A m.length c W)).mono ?_
            rintro e w4 ⟨rfl, hb⟩
            replace E0 := Lib.hid (E0.out.below hb)
            replace B0 := Lib.hid (bb B0.out hb)
            clear hb x0
            cases h3 : o.any (fun l => !sizedB l.length)
            · have x5 := E0.out.c5
              have x0 := E0.out.c0
              by_cases h4 : f5 = -1
              · exfalso; omega
              · have h4' : (f5 != -1) = true := by simp [h4]
                have H4 := Lib.hid h4'
                clear h4'
                go_wp2_with fail
                go_ret
                obtain rfl : r = 1 := by rw [R.out]; unfold clCheck; rw [h1, h2, h3, H4.out, HRUN.out]; rfl
                exact ⟨rfl, B0.out⟩
            · go_wp2_with fail
              go_ret
              obtain rfl : r = 1 := by rw [R.out]; unfold clCheck; rw [h1, h2, h3]; rfl
              exact ⟨rfl, B0.out⟩
          · go_wp2_with fail
            go_ret
            obtain rfl : r = 1 := by rw [R.out]; unfold clCheck; rw [h1, h2]; rfl
            exact ⟨rfl, B0.out⟩
        · go_wp2_with fail
          go_ret
          obtain rfl : r = 1 := by rw [R.out]; unfold clCheck; rw [h1]; rfl
          exact ⟨rfl, B0.out⟩
    · have hrun : runB o.length f5 = false := by unfold runB; rw [decide_eq_false hd1, Bool.false_and, Bool.and_false]
      have HRUN := Lib.hid hrun
      clear hrun
      go_wp2_with fail
      obtain ⟨w1, hw1⟩ : ∃ w1, w1 = w.alloc (.cells #[.slice A0 o.length c0, .int .i64 f1, .int .i64 f2, v3, .bool f4, .int .i64 f5] 61) := ⟨_, rfl⟩
      rw [← hw1]
      have E0 := Lib.hid (show EBlk w1 w.heap.size 61 (.slice A0 o.length c0) f1 f2 v3 f4 f5 by rw [hw1]; exact EBlk.new w 61 _ _ _ _ _ _)
      have B0 := Lib.hid (show Below w.heap.size w w1 by rw [hw1]; exact below_one _ _)
      clear hw1
      refine (in74_calls f1 w1).mono ?_
      rintro e w2 ⟨rfl, hb⟩
      replace E0 := Lib.hid (E0.out.below hb)
      replace B0 := Lib.hid (bb B0.out hb)
      clear hb
      cases h1 : oddT f1
      · have x2 := E0.out.c2
        go_wp2_with fail
        refine (in74_calls f2 w2).mono ?_
        rintro e w3 ⟨rfl, hb⟩
        replace E0 := Lib.hid (E0.out.below hb)
        replace B0 := Lib.hid (bb B0.out hb)
        clear hb x2
        cases h2 : oddT f2
        · have x0 := E0.out.c0
          go_wp2_with fail
          refine (containsL 73 #[] enters73 A0 c0 o (fun l => !sizedB l.length) _ (Kd.C_below HR.out B0.out) (fun m _ W _ A c hm hc => odd_calls A m.length c W)).mono ?_
          rintro e w4 ⟨rfl, hb⟩
          replace E0 := Lib.hid (E0.out.below hb)
          replace B0 := Lib.hid (bb B0.out hb)
          clear hb x0
          cases h3 : o.any (fun l => !sizedB l.length)
          · have x5 := E0.out.c5
            have x0 := E0.out.c0
            by_cases h4 : f5 = -1
            · subst h4
              have h4' : ((-1 : Int) != -1) = false := rfl
              have H4 := Lib.hid h4'
              clear h4'
              by_cases h5 : (64 : Int) < o.length
              · have H5 := Lib.hid h5
                go_wp2_with fail
                go_ret
                obtain rfl : r = 2 := by rw [R.out]; unfold clCheck; rw [h1, h2, h3, H4.out, decide_eq_true H5.out]; rfl
                exact ⟨rfl, B0.out⟩
              · have H5 := Lib.hid h5
                go_wp2_with fail
                go_ret
                obtain rfl : r = 0 := by rw [R.out]; unfold clCheck; rw [h1, h2, h3, H4.out, decide_eq_false (show ¬ (64 : Int) < o.length by have := H5.out; omega)]; rfl
                exact ⟨rfl, B0.out⟩
            · have h4' : (f5 != -1) = true := by simp [h4]
              have H4 := Lib.hid h4'
              clear h4'
              go_wp2_with fail
              go_ret
              obtain rfl : r = 1 := by rw [R.out]; unfold clCheck; rw [h1, h2, h3, H4.out, HRUN.out]; rfl
              exact ⟨rfl, B0.out⟩
          · go_wp2_with fail
            go_ret
            obtain rfl : r = 1 := by rw [R.out]; unfold clCheck; rw [h1, h2, h3]; rfl
            exact ⟨rfl, B0.out⟩
        · go_wp2_with fail
          go_ret
          obtain rfl : r = 1 := by rw [R.out]; unfold clCheck; rw [h1, h2]; rfl
          exact ⟨rfl, B0.out⟩
      · go_wp2_with fail
        go_ret
        obtain rfl : r = 1 := by rw [R.out]; unfold clCheck; rw [h1]; rfl
        exact ⟨rfl, B0.out⟩
  · have hrun : runB o.length f5 = false := by unfold runB; rw [decide_eq_false (show ¬ (0 : Int) < o.length by omega), Bool.false_and]
    have HRUN := Lib.hid hrun
    clear hrun
    go_wp2_with fail
    obtain ⟨w1, hw1⟩ : ∃ w1, w1 = w.alloc (.cells #[.slice A0 o.length c0, .int .i64 f1, .int .i64 f2, v3, .bool f4, .int .i64 f5] 61) := ⟨_, rfl⟩
    rw [← hw1]
    have E0 := Lib.hid (show EBlk w1 w.heap.size 61 (.slice A0 o.length c0) f1 f2 v3 f4 f5 by rw [hw1]; exact EBlk.new w 61 _ _ _ _ _ _)
    have B0 := Lib.hid (show Below w.heap.size w w1 by rw [hw1]; exact below_one _ _)
    clear hw1
    refine (in74_calls f1 w1).mono ?_
    rintro e w2 ⟨rfl, hb⟩
    replace E0 := Lib.hid (E0.out.below hb)
    replace B0 := Lib.hid (bb B0.out hb)
    clear hb
    cases h1 : oddT f1
    · have x2 := E0.out.c2
      go_wp2_with fail
      refine (in74_calls f2 w2).mono ?_
      rintro e w3 ⟨rfl, hb⟩
      replace E0 := Lib.hid (E0.out.below hb)
      replace B0 := Lib.hid (bb B0.out hb)
      clear hb x2
      cases h2 : oddT f2
      · have x0 := E0.out.c0
        go_wp2_with fail
        refine (containsL 73 #[] enters73 A0 c0 o (fun l => !sizedB l.length) _ (Kd.C_below HR.out B0.out) (fun m _ W _ A c hm hc => odd_calls A m.length c W)).mono ?_
        rintro e w4 ⟨rfl, hb⟩
        replace E0 := Lib.hid (E0.out.below hb)
        replace B0 := Lib.hid (bb B0.out hb)
        clear hb x0
        cases h3 : o.any (fun l => !sizedB l.length)
        · have x5 := E0.out.c5
          have x0 := E0.out.c0
          by_cases h4 : f5 = -1
          · subst h4
            have h4' : ((-1 : Int) != -1) = false := rfl
            have H4 := Lib.hid h4'
            clear h4'
            by_cases h5 : (64 : Int) < o.length
            · exfalso; omega
            · have H5 := Lib.hid h5
              go_wp2_with fail
              go_ret
              obtain rfl : r = 0 := by rw [R.out]; unfold clCheck; rw [h1, h2, h3, H4.out, decide_eq_false (show ¬ (64 : Int) < o.length by have := H5.out; omega)]; rfl
              exact ⟨rfl, B0.out⟩
          · have h4' : (f5 != -1) = true := by simp [h4]
            have H4 := Lib.hid h4'
            clear h4'
            go_wp2_with fail
            go_ret
            obtain rfl : r = 1 := by rw [R.out]; unfold clCheck; rw [h1, h2, h3, H4.out, HRUN.out]; rfl
            exact ⟨rfl, B0.out⟩
        · go_wp2_with fail
          go_ret
          obtain rfl : r = 1 := by rw [R.out]; unfold clCheck; rw [h1, h2, h3]; rfl
          exact ⟨rfl, B0.out⟩
      · go_wp2_with fail
        go_ret
        obtain rfl : r = 1 := by rw [R.out]; unfold clCheck; rw [h1, h2]; rfl
        exact ⟨rfl, B0.out⟩
    · go_wp2_with fail
      go_ret
      obtain rfl : r = 1 := by rw [R.out]; unfold clCheck; rw [h1]; rfl
      exact ⟨rfl, B0.out⟩
end Go.Proofs.Ytbfhohpbldadbaa.P

namespace Go.Proofs.Ytbfhohpbldadbaa.P
open Go Go.RowKit Go.Proofs.YtbfhohpbldadbaaW.PrintWords Go.Proofs.YtbfhohpbldadbaaW.PrintLast Go.Proofs.YtbfhohpbldadbaaW.PrintMore
set_option linter.unusedVariables false
set_option linter.unusedSimpArgs false
theorem info28 : (Try.prog.info? 28).map (fun i => (i.zero, i.size, i.bytes)) = some (some (.slice none 0 0), 1, 24) := by kernel_rfl
theorem wid {n : Int} (h0 : 0 ≤ n) (h1 : n ≤ 9000000000000000000) : wrap64 n = n := by simp only [wrap64, IntKind.wrap]; omega
abbrev kL : Kd (List S39) := Kd.slice 39 k39
set_option maxHeartbeats 4000000 in
set_option maxRecDepth 100000 in
theorem clones_calls (A : Option Addr) (c : Nat) (xs : List (List S39)) (w : World) (hr : Kd.C kL w A xs.length xs) (hl : xs.length ≤ 1024) (hl2 : ∀ l ∈ xs, l.length ≤ 1024) :
    Calls Try.prog 90 #[.slice A xs.length c] w fun e w' => ∃ v', e = .returned v' ∧ Kd.R kL 28 w' w.heap.size (fun _ => True) v' xs ∧ Below w.heap.size w w' := by
  have HR := Lib.hid hr; have HL := Lib.hid hl; have HL2 := Lib.hid hl2
  clear hr hl hl2
  go_enter Try.func90, Try.ntmps90
  go_wp2_with fail
  go_loopw [3, 5, 8] (fun v3 _ i W => ∃ k : Nat, k ≤ xs.length ∧ i = .int .i64 k ∧ Kd.R kL 28 W w.heap.size (fun _ => True) v3 (xs.take k) ∧ Below w.heap.size w W) (fun _ _ i _ => xs.length - (intOf i).toNat)
  case atStart => exact ⟨0, Nat.zero_le _, rfl, Kd.R_nil _ _ _ _ _, Below.refl _ _⟩
  case round =>
    obtain ⟨k, hk, rfl, hR, hb⟩ := hrel
    have HK := Lib.hid hk; have HO := Lib.hid hR; have HB := Lib.hid hb
    clear hk hR hb
    by_cases hlt : k < xs.length
    · have HLT := Lib.hid hlt
      obtain ⟨ad, A0, k0, rfl, hat⟩ := L_cell (Kd.C_below HR.out HB.out) k hlt hlt
      obtain ⟨m, hm⟩ : ∃ m, m = xs[k]'hlt := ⟨_, rfl⟩
      replace hat : AtL wr (ad.add k) A0 k0 m := by rw [hm]; exact hat
      have HM := Lib.hid hm
      have c0 := hat.c0; have HC := Lib.hid hat.cc
      have hml : m.length ≤ 1024 := HL2.out m (by rw [hm]; exact List.getElem_mem hlt)
      have HML := Lib.hid hml
      clear hat hm hml
      go_wp2_with fail
      refine (cloneR A0 k0 m _ HC.out (by have := HML.out; omega)).mono ?_
      rintro e w2 ⟨v', rfl, ho, hb⟩
      obtain ⟨A2, k2, rfl⟩ := Kd.R_slice ho
      have HO2 := Lib.hid ho; have HB2 := Lib.hid hb
      clear ho hb c0
      go_wp2_with ((with_reducible refine gate_builtin (b := .append) (xs := #[.tmp 12, .tmp 15]) rfl ?_); at_builtin; refine Kd.R_append kL (w0 := w) w.heap.size rfl (.tmp 12) (.tmp 15) 59 28 (.slice none 0 0) 24 rfl Try.underlying59 info28 rfl (by decide) (by decide) u3 (xs.take k) m [.slice A2 m.length k2] (fun _ => True) (fun k => some k ≠ (u3 : Value).ownBlock) rfl rfl ⟨_, rfl, Kd.R_lower (Kd.R_mono (Kd.R_newR HO2.out HO.out) (fun _ h => h.2)) HB.out.size⟩ (fun _ h => ⟨trivial, h⟩) (fun _ _ => trivial) (Kd.R_below HO.out HB2.out) (bb HB.out HB2.out) (Nat.le_trans HB.out.size HB2.out.size) (by have := HL.out; have := HLT.out; rw [List.length_take]; omega) ?_; intro v3 w4 ho4 hb4 hg4 hat4)
      go_roundw
      case rel =>
        have hl := HL.out
        have hlt := HLT.out
        refine ⟨k + 1, HLT.out, (show Value.int .i64 (wrap64 ((k : Int) + 1)) = Value.int .i64 ((k + 1 : Nat) : Int) by rw [wid (by omega) (by omega)]; rfl), ?_, hb4⟩
        rw [List.take_succ_eq_append_getElem HLT.out, ← HM.out]
        exact ho4
      case measure =>
        have hl := HL.out
        have hlt := HLT.out
        rw [wid (n := (k : Int) + 1) (by omega) (by omega)]
        simp only [intOf]
        omega
    · go_wp2
      go_ret
      refine ⟨_, rfl, ?_, HB.out⟩
      have h1 := HO.out
      rwa [List.take_of_length_le (by omega)] at h1
end Go.Proofs.Ytbfhohpbldadbaa.P

namespace Go.Proofs.Ytbfhohpbldadbaa.P
open Go Go.RowKit Go.Proofs.YtbfhohpbldadbaaW.PrintWords Go.Proofs.YtbfhohpbldadbaaW.PrintLast Go.Proofs.YtbfhohpbldadbaaW.PrintMore
set_option linter.unusedVariables false
set_option linter.unusedSimpArgs false

/-- An end under modification, of the call's own. -/
structure EdW (w W : World) (g : Nat) (vo : Value) (o : List (List S39)) (f1 f2 : Int) (vi : Value) (inn : List S39) (f4 : Bool) (f5 : Int) : Prop where
  low : Below w.heap.size w W
  ge : w.heap.size ≤ g
  blk : EBlk W g 117 vo f1 f2 vi f4 f5
  out : Kd.R kL 28 W w.heap.size (fun k => True ∧ some k ≠ vi.ownBlock) vo o
  inn : Kd.R k39 39 W w.heap.size (fun _ => True) vi inn
theorem EdW.below {w W W' : World} {g : Nat} {vo vi : Value} {o : List (List S39)} {inn : List S39} {f1 f2 f5 : Int} {f4 : Bool} (h : EdW w W g vo o f1 f2 vi inn f4 f5) (hb : Below W.heap.size W W') : EdW w W' g vo o f1 f2 vi inn f4 f5 :=
  ⟨bb h.low hb, h.ge, h.blk.below hb, Kd.R_below h.out hb, Kd.R_below h.inn hb⟩
def EditPost (o : List (List S39)) (f1 f2 : Int) (inn : List S39) (f4 : Bool) (f5 : Int) (w : World) (e : Ending) (w' : World) : Prop :=
  (clCheck o f1 f2 f5 ≠ 0 ∧ e = .returned (.tuple #[.pointer none, .int .i64 (clCheck o f1 f2 f5)]) ∧ Below w.heap.size w w') ∨ (clCheck o f1 f2 f5 = 0 ∧ ∃ g vo vi, e = .returned (.tuple #[.pointer (some ⟨g, 0, none⟩), .int .i64 0]) ∧ EdW w w' g vo o f1 f2 vi inn f4 f5)
theorem check_sized {o : List (List S39)} {f1 f2 f5 : Int} (h : clCheck o f1 f2 f5 = 0) : o.length ≤ 64 ∧ (∀ l ∈ o, 1 ≤ l.length ∧ l.length ≤ 1024) ∧ 0 ≤ f1 ∧ f1 ≤ 1099511627776 ∧ 0 ≤ f2 ∧ f2 ≤ 1099511627776 ∧ (f5 = -1 ∨ (0 < o.length ∧ 0 ≤ f5 ∧ f5 ≤ 1099511627779)) := by
  unfold clCheck at h
  split at h
  · cases h
  · next h1 =>
    split at h
    · cases h
    · next h2 =>
      split at h
      · cases h
      · next h3 =>
        simp only [Bool.or_eq_true, not_or, Bool.not_eq_true, oddT, Bool.or_eq_false_iff, decide_eq_false_iff_not, List.any_eq_false, sizedB, Bool.not_eq_eq_eq_not, Bool.not_true, Bool.and_eq_true, decide_eq_true_eq] at h1
        simp only [decide_eq_true_eq] at h3
        simp only [runB, Bool.and_eq_true, bne_iff_ne, ne_eq, Bool.not_eq_true', Bool.and_eq_false_iff, decide_eq_false_iff_not] at h2
        obtain ⟨⟨h11, h12⟩, h13⟩ := h1
        refine ⟨by omega, fun l hl => ?_, by omega, by omega, by omega, by omega, by omega⟩
        have := h13 l hl
        simp only [Bool.and_eq_false_iff, decide_eq_false_iff_not, not_or, Decidable.not_not] at this
        omega
set_option maxHeartbeats 8000000 in
set_option maxRecDepth 100000 in
theorem edit_calls (A0 : Option Addr) (c0 : Nat) (o : List (List S39)) (f1 f2 : Int) (A3 : Option Addr) (c3 : Nat) (inn : List S39) (f4 : Bool) (f5 : Int) (w : World) (hr : Kd.C kL w A0 o.length o) (hr3 : Kd.C k39 w A3 inn.length inn) (hl : inn.length ≤ 1000000) :
    Calls Try.prog 70 #[.agg #[.slice A0 o.length c0, .int .i64 f1, .int .i64 f2, .slice A3 inn.length c3, .bool f4, .int .i64 f5]] w (EditPost o f1 f2 inn f4 f5 w) := by
  have HR := Lib.hid hr; have HR3 := Lib.hid hr3; have HL := Lib.hid hl
  clear hr hr3 hl
  go_enter Try.func70, Try.ntmps70
  go_wp2_with fail
  obtain ⟨w1, hw1⟩ : ∃ w1, w1 = w.alloc (.cells #[.slice A0 o.length c0, .int .i64 f1, .int .i64 f2, .slice A3 inn.length c3, .bool f4, .int .i64 f5] 61) := ⟨_, rfl⟩
  rw [← hw1]
  have E0 := Lib.hid (show EBlk w1 w.heap.size 61 (.slice A0 o.length c0) f1 f2 (.slice A3 inn.length c3) f4 f5 by rw [hw1]; exact EBlk.new w 61 _ _ _ _ _ _)
  have B0 := Lib.hid (show Below w.heap.size w w1 by rw [hw1]; exact below_one _ _)
  clear hw1
  refine (clCheck_calls A0 c0 o f1 f2 (.slice A3 inn.length c3) f4 f5 w1 (Kd.C_below HR.out B0.out)).mono ?_
  rintro e w2 ⟨rfl, hb⟩
  replace E0 := Lib.hid (E0.out.below hb)
  replace B0 := Lib.hid (bb B0.out hb)
  clear hb
  cases hc : (clCheck o f1 f2 f5 != 0)
  · have hz : clCheck o f1 f2 f5 = 0 := by simpa using hc
    have HZ := Lib.hid hz
    rw [hz] at hc ⊢
    have hsz := check_sized hz
    have SZ := Lib.hid hsz
    clear hz hsz
    go_wp2_with fail
    refine start_ (n := 10) (S := fun w' => w'.cell? ⟨w.heap.size, 0, none⟩ = some (.slice A0 o.length c0) ∧ w'.cell? ⟨w.heap.size, 3, none⟩ = some (.slice A3 inn.length c3)) (ds := [7, 9]) #[false, false, false, false, false, false, false, false, false, false] (by kernel_rfl) rfl rfl ⟨E0.out.c0, E0.out.c3⟩ (fun hHeld => ?_)
    refine pure_ (i := 0) (N := some 10) (v := ?_) (a' := ?_) #[true, false, false, false, false, false, false, false, false, false] rfl rfl (by kernel_rfl) (fun _ _ _ h => h) (Or.inl ⟨by rfl, ?_⟩) ?_ ?_
    rotate_left
    · intro w'
      go_simp
      with_reducible rfl
    rotate_left
    · simp only [Act.put, List.setIfInBounds_toArray, List.set_cons_zero, List.set_cons_succ, i64_w, i32_w]
      rfl
    refine pure_ (i := 3) (N := some 13) (v := ?_) (a' := ?_) #[true, false, false, true, false, false, false, false, false, false] rfl rfl (by kernel_rfl) (fun _ _ _ h => h) (Or.inl ⟨by rfl, ?_⟩) ?_ ?_
    rotate_left
    · intro w'
      go_simp
      with_reducible rfl
    rotate_left
    · simp only [Act.put, List.setIfInBounds_toArray, List.set_cons_zero, List.set_cons_succ, i64_w, i32_w]
      rfl
    refine take_ (i := 1) (N := some 11) (v := ?_) (a' := ?_) #[true, true, false, true, false, false, false, false, false, false] rfl rfl (by kernel_rfl) (fun _ _ _ h => h) (Or.inl ⟨by rfl, ?_⟩) hHeld ?_ ?_
    rotate_left
    · rintro w' ⟨s0, s1⟩
      go_simp
      with_reducible rfl
    rotate_left
    · simp only [Act.put, List.setIfInBounds_toArray, List.set_cons_zero, List.set_cons_succ, i64_w, i32_w]
      rfl
    refine take_ (i := 4) (N := some 14) (v := ?_) (a' := ?_) #[true, true, false, true, true, false, false, false, false, false] rfl rfl (by kernel_rfl) (fun _ _ _ h => h) (Or.inl ⟨by rfl, ?_⟩) hHeld ?_ ?_
    rotate_left
    · rintro w' ⟨s0, s1⟩
      go_simp
      with_reducible rfl
    rotate_left
    · simp only [Act.put, List.setIfInBounds_toArray, List.set_cons_zero, List.set_cons_succ, i64_w, i32_w]
      rfl
    refine one_ (i := 2) (N := some 12) #[true, true, true, true, true, false, false, false, false, false] rfl rfl (by kernel_rfl) (by decide) (fun K hK => ?_)
    refine goes_ Try.func90 (by kernel_rfl) rfl #[.slice A0 o.length c0] (by rfl) rfl rfl (by simp only [List.map_toArray, List.map_cons, List.map_nil]; rfl) ?_
    with_reducible refine (clones_calls A0 c0 o _ (Kd.C_drew (Kd.C_below HR.out B0.out)) (by have := SZ.out.1; omega) (fun l hl => (SZ.out.2.1 l hl).2)).mono ?_
    rintro e w3 ⟨vo, rfl, hO, hb⟩
    refine ⟨_, rfl, ?_⟩
    have B3 := Lib.hid (bb (below_drew B0.out) hb)
    have E3 := Lib.hid (EBlk.below (w := w2) E0.out (bb (below_drew (Below.refl _ _)) hb))
    obtain ⟨Ao, ko, rfl⟩ := Kd.R_slice hO
    have HO := Lib.hid hO
    clear hO hb
    refine hK.out _ _ ⟨E3.out.c0, E3.out.c3⟩ (fun hHeld => ?_)
    clear hK K
    refine norm_ (a' := ?_) ?_ ?_
    rotate_left
    · show Act.put _ (some 12) _ = _
      simp only [Act.put, List.setIfInBounds_toArray, List.set_cons_zero, List.set_cons_succ, i64_w, i32_w]
      rfl
    refine pure_ (i := 6) (N := some 16) (v := ?_) (a' := ?_) #[true, true, true, true, true, false, true, false, false, false] rfl rfl (by kernel_rfl) (fun _ _ _ h => h) (Or.inl ⟨by rfl, ?_⟩) ?_ ?_
    rotate_left
    · intro w'
      go_simp
      with_reducible rfl
    rotate_left
    · simp only [Act.put, List.setIfInBounds_toArray, List.set_cons_zero, List.set_cons_succ, i64_w, i32_w]
      rfl
    refine one_ (i := 5) (N := some 15) #[true, true, true, true, true, true, true, false, false, false] rfl rfl (by kernel_rfl) (by decide) (fun K hK => ?_)
    refine goes_ Try.func72 (by kernel_rfl) rfl #[.slice A3 inn.length c3] (by rfl) rfl rfl (by simp only [List.map_toArray, List.map_cons, List.map_nil]; rfl) ?_
    with_reducible refine (cloneR A3 c3 inn w3 (Kd.C_below HR3.out B3.out) (by have := HL.out; omega)).mono ?_
    rintro e w4 ⟨vi, rfl, hI, hb⟩
    refine ⟨_, rfl, ?_⟩
    obtain ⟨Ai, ki, rfl⟩ := Kd.R_slice hI
    have B4 := Lib.hid (bb B3.out hb)
    have E4 := Lib.hid (E3.out.below hb)
    have HO4 := Lib.hid (Kd.R_elder HO.out hI hb)
    have HI4 := Lib.hid hI
    clear hI hb
    refine hK.out _ _ ⟨E4.out.c0, E4.out.c3⟩ (fun hHeld => ?_)
    clear hK K
    refine norm_ (a' := ?_) ?_ ?_
    rotate_left
    · show Act.put _ (some 15) _ = _
      simp only [Act.put, List.setIfInBounds_toArray, List.set_cons_zero, List.set_cons_succ, i64_w, i32_w]
      rfl
    refine last_ (i := 7) (N := none) #[true, true, true, true, true, true, true, true, false, false] rfl rfl (by kernel_rfl) (by decide) (fun K hK => ?_)
    have q1 := E4.out.c0; have q2 := blk_frozen E4.out 0
    refine skip_ (w1 := ?_) (by rfl) rfl ?_ ?_
    rotate_left
    · go_simp
      rfl
    have E5 := Lib.hid (show EBlk (w4.setCell ⟨w.heap.size, 0, none⟩ (.slice Ao o.length ko)) w.heap.size 61 (.slice Ao o.length ko) f1 f2 (.slice A3 inn.length c3) f4 f5 from blk_put E4.out 0 _ rfl)
    clear q1 q2
    generalize hw5 : w4.setCell ⟨w.heap.size, 0, none⟩ (.slice Ao o.length ko) = w5 at E5 ⊢
    have HW5 := Lib.hid hw5
    clear hw5
    refine hK.out _ _ ?_
    clear hK K
    refine pure_ (i := 8) (N := some 17) (v := ?_) (a' := ?_) #[true, true, true, true, true, true, true, true, true, false] rfl rfl (by kernel_rfl) (fun _ _ _ h => h) (Or.inl ⟨by rfl, ?_⟩) ?_ ?_
    rotate_left
    · intro w'
      go_simp
      with_reducible rfl
    rotate_left
    · simp only [Act.put, List.setIfInBounds_toArray, List.set_cons_zero, List.set_cons_succ, i64_w, i32_w]
      rfl
    refine last_ (i := 9) (N := none) #[true, true, true, true, true, true, true, true, true, true] rfl rfl (by kernel_rfl) (by decide) (fun K hK => ?_)
    have q1 := E5.out.c3; have q2 := blk_frozen E5.out 3
    refine skip_ (w1 := ?_) (by rfl) rfl ?_ ?_
    rotate_left
    · go_simp
      rfl
    refine hK.out _ _ ?_
    clear hK K
    refine done_ (by kernel_rfl) ?_

    obtain ⟨w6, hw6⟩ : ∃ w6, w6 = w5.setCell ⟨w.heap.size, 3, none⟩ (.slice Ai inn.length ki) := ⟨_, rfl⟩
    rw [← hw6]
    have E6 := Lib.hid (show EBlk w6 w.heap.size 61 (.slice Ao o.length ko) f1 f2 (.slice Ai inn.length ki) f4 f5 by rw [hw6]; exact blk_put E5.out 3 _ rfl)
    have HO6 := Lib.hid (show Kd.R kL 28 w6 w.heap.size (fun k => True ∧ some k ≠ (Value.slice Ai inn.length ki).ownBlock) (.slice Ao o.length ko) o by
      rw [hw6]; refine Kd.R_set (Kd.R_lower ?_ B0.out.size) E5.out (by decide) 3 _
      rw [← HW5.out]; exact Kd.R_set HO4.out E4.out (by decide) 0 _)
    have HI6 := Lib.hid (show Kd.R k39 39 w6 w.heap.size (fun _ => True) (.slice Ai inn.length ki) inn by
      rw [hw6]; refine Kd.R_set (Kd.R_lower ?_ B3.out.size) E5.out (by decide) 3 _
      rw [← HW5.out]; exact Kd.R_set HI4.out E4.out (by decide) 0 _)
    have B6 := Lib.hid (show Below w.heap.size w w6 by
      rw [hw6]
      refine Fr.below (Fr.set w5 w.heap.size 3 _) ?_ (Nat.le_refl _) (fun k hk => by omega)
      rw [← HW5.out]
      exact Fr.below (Fr.set w4 w.heap.size 0 _) B4.out (Nat.le_refl _) (fun k hk => by omega))
    clear hw6
    have x0 := E6.out.c0; have x1 := E6.out.c1; have x2 := E6.out.c2; have x3 := E6.out.c3; have x4 := E6.out.c4; have x5 := E6.out.c5
    go_wp2_with fail
    go_ret2
    refine Or.inr ⟨HZ.out, w6.heap.size, _, _, rfl, al B6.out _, B6.out.size, EBlk.new w6 117 _ _ _ _ _ _, Kd.R_alloc HO6.out _, Kd.R_alloc HI6.out _⟩
  · obtain ⟨r, hr'⟩ : ∃ r, r = clCheck o f1 f2 f5 := ⟨_, rfl⟩
    rw [← hr'] at hc ⊢
    have R := Lib.hid hr'
    have HC := Lib.hid (show r ≠ 0 by simpa using hc)
    clear hr'
    go_wp2_with fail
    go_ret2
    exact Or.inl ⟨by rw [← R.out]; exact HC.out, by rw [← R.out]; rfl, B0.out⟩
end Go.Proofs.Ytbfhohpbldadbaa.P

namespace Go.Proofs.Ytbfhohpbldadbaa.P
open Go Go.RowKit Go.Proofs.YtbfhohpbldadbaaW.PrintWords Go.Proofs.YtbfhohpbldadbaaW.PrintLast Go.Proofs.YtbfhohpbldadbaaW.PrintMore
set_option linter.unusedVariables false
set_option linter.unusedSimpArgs false
/-- The cells of a batch. -/
def BBlk (w : World) (g : Nat) (no : Int) (ack : Bool) (v : Value) : Prop := w.heap[g]? = some (.cells #[.int .i64 no, .bool ack, v] 83 (0, 0))
section
variable {w w' : World} {g : Nat} {no : Int} {ack : Bool} {v : Value}
theorem BBlk.c0 (h : BBlk w g no ack v) : w.cell? ⟨g, 0, none⟩ = some (.int .i64 no) := (cell_of_row w g 0 _ 83 (0, 0) h).trans rfl
theorem BBlk.c1 (h : BBlk w g no ack v) : w.cell? ⟨g, 1, none⟩ = some (.bool ack) := (cell_of_row w g 1 _ 83 (0, 0) h).trans rfl
theorem BBlk.c2 (h : BBlk w g no ack v) : w.cell? ⟨g, 2, none⟩ = some v := (cell_of_row w g 2 _ 83 (0, 0) h).trans rfl
theorem BBlk.below (h : BBlk w g no ack v) (hb : Below w.heap.size w w') : BBlk w' g no ack v := (hb.block g (heap_lt h)).trans h
theorem BBlk.new (w : World) (no : Int) (ack : Bool) (v : Value) : BBlk (w.alloc (.cells #[.int .i64 no, .bool ack, v] 83)) w.heap.size no ack v := heap_alloc_new w _
end
/-- An end under modification, as it will be read. -/
structure EdV (w W : World) (g : Nat) (vo : Value) (o : List (List S39)) (f1 f2 : Int) (vi : Value) (inn : List S39) (f4 : Bool) (f5 : Int) : Prop where
  low : Below w.heap.size w W
  blk : EBlk W g 117 vo f1 f2 vi f4 f5
  out : Kd.V kL 28 W w.heap.size (fun k => w.heap.size ≤ k) vo o
  inn : Kd.V k39 39 W w.heap.size (fun k => w.heap.size ≤ k) vi inn
theorem EdW.v {w W : World} {g : Nat} {vo vi : Value} {o : List (List S39)} {inn : List S39} {f1 f2 f5 : Int} {f4 : Bool} (h : EdW w W g vo o f1 f2 vi inn f4 f5) : EdV w W g vo o f1 f2 vi inn f4 f5 :=
  ⟨h.low, h.blk, Kd.R_V (Kd.R_mono (Kd.R_bound h.out) (fun _ hk => hk.2.1)), Kd.R_V (Kd.R_mono (Kd.R_bound h.inn) (fun _ hk => hk.2.1))⟩
theorem below_set {B : Nat} {w W : World} (h : Below B w W) (hB : B ≤ w.heap.size) {g : Nat} (hg : B ≤ g) (j : Nat) (u : Value) : Below B w (W.setCell ⟨g, j, none⟩ u) :=
  Fr.below (Fr.set W g j u) h hB (fun k hk => by omega)
theorem EdW.set {w W : World} {g : Nat} {vo vi : Value} {o : List (List S39)} {inn : List S39} {f1 f2 f5 : Int} {f4 : Bool} (h : EdW w W g vo o f1 f2 vi inn f4 f5) {f1' f2' f5' : Int} {f4' : Bool} (j : Nat) (u : Value)
    (hu : (#[vo, .int .i64 f1, .int .i64 f2, vi, .bool f4, .int .i64 f5] : Array Value).setIfInBounds j u = #[vo, .int .i64 f1', .int .i64 f2', vi, .bool f4', .int .i64 f5']) : EdW w (W.setCell ⟨g, j, none⟩ u) g vo o f1' f2' vi inn f4' f5' :=
  ⟨below_set h.low (Nat.le_refl _) h.ge j u, h.ge, blk_put h.blk j u hu, Kd.R_set h.out h.blk (by decide) j u, Kd.R_set h.inn h.blk (by decide) j u⟩
def AccPost (o : List (List S39)) (f1 f2 : Int) (inn : List S39) (f4 : Bool) (f5 : Int) (no : Int) (recs : List S39) (w : World) (g : Nat) (vo vi : Value) (e : Ending) (W' : World) : Prop :=
  (f2 < no ∧ e = .returned (.int .i64 300) ∧ Below w.heap.size w W') ∨ (no = f2 ∧ e = .returned (.int .i64 0) ∧ ∃ vi', EdW w W' g vo o f1 (f2 + 1) vi' (inn ++ recs) true f5) ∨ (no < f2 ∧ e = .returned (.int .i64 0) ∧ EdW w W' g vo o f1 f2 vi inn true f5)

set_option maxHeartbeats 8000000 in
set_option maxRecDepth 100000 in
theorem accept_calls (w : World) (g : Nat) (vo vi : Value) (o : List (List S39)) (f1 f2 : Int) (inn : List S39) (f4 : Bool) (f5 no : Int) (ack : Bool) (A2 : Option Addr) (c2 : Nat) (recs : List S39) (W : World) (hE : EdW w W g vo o f1 f2 vi inn f4 f5) (hr : Kd.C k39 W A2 recs.length recs) (hn0 : 0 ≤ f2) (hn1 : f2 ≤ 1099511627776) (hl : inn.length ≤ 1000000) (hl2 : recs.length ≤ 1024) :
    Calls Try.prog 76 #[.pointer (some ⟨g, 0, none⟩), .agg #[.int .i64 no, .bool ack, .slice A2 recs.length c2]] W (AccPost o f1 f2 inn f4 f5 no recs w g vo vi) := by
  have HE := Lib.hid hE; have HR := Lib.hid hr; have HN0 := Lib.hid hn0; have HN1 := Lib.hid hn1; have HL := Lib.hid hl; have HL2 := Lib.hid hl2
  clear hE hr hn0 hn1 hl hl2
  go_enter Try.func76, Try.ntmps76
  go_wp2_with fail
  obtain ⟨w1, hw1⟩ : ∃ w1, w1 = W.alloc (.cells #[.int .i64 no, .bool ack, .slice A2 recs.length c2] 83) := ⟨_, rfl⟩
  rw [← hw1]
  have X0 := Lib.hid (show BBlk w1 W.heap.size no ack (.slice A2 recs.length c2) by rw [hw1]; exact BBlk.new W _ _ _)
  have E0 := Lib.hid (show EdW w w1 g vo o f1 f2 vi inn f4 f5 by rw [hw1]; exact HE.out.below (below_one _ _))
  have C0 := Lib.hid (show Kd.C k39 w1 A2 recs.length recs by rw [hw1]; exact Kd.C_below HR.out (below_one _ _))
  clear hw1 HE HR
  generalize W.heap.size = gb at X0 ⊢
  have X := Lib.hid (show BBlk w1.drew gb no ack (.slice A2 recs.length c2) from X0.out.below (below_drew (Below.refl _ _)))
  have E := Lib.hid (show EdW w w1.drew g vo o f1 f2 vi inn f4 f5 from E0.out.below (below_drew (Below.refl _ _)))
  have C := Lib.hid (show Kd.C k39 w1.drew A2 recs.length recs from Kd.C_drew C0.out)
  clear X0 E0 C0
  refine start_ (n := 8) (S := fun w' => w'.cell? ⟨gb, 0, none⟩ = some (.int .i64 no) ∧ w'.cell? ⟨g, 2, none⟩ = some (.int .i64 f2)) (ds := []) #[false, false, false, false, false, false, false, false] (by kernel_rfl) rfl rfl ⟨X.out.c0, E.out.blk.c2⟩ (fun hHeld => ?_)
  generalize w1.drew = w2 at X E C hHeld ⊢
  refine pure_ (i := 0) (N := some 5) (v := ?_) (a' := ?_) #[true, false, false, false, false, false, false, false] rfl rfl (by kernel_rfl) (fun _ _ _ h => h) (Or.inl ⟨by rfl, ?_⟩) ?_ ?_
  rotate_left
  · intro w'
    go_simp
    with_reducible rfl
  rotate_left
  · simp only [Act.put, List.setIfInBounds_toArray, List.set_cons_zero, List.set_cons_succ, i64_w, i32_w]
    rfl
  refine pure_ (i := 2) (N := some 7) (v := ?_) (a' := ?_) #[true, false, true, false, false, false, false, false] rfl rfl (by kernel_rfl) (fun _ _ _ h => h) (Or.inl ⟨by rfl, ?_⟩) ?_ ?_
  rotate_left
  · intro w'
    go_simp
    with_reducible rfl
  rotate_left
  · simp only [Act.put, List.setIfInBounds_toArray, List.set_cons_zero, List.set_cons_succ, i64_w, i32_w]
    rfl
  refine pure_ (i := 3) (N := some 8) (v := ?_) (a' := ?_) #[true, false, true, true, false, false, false, false] rfl rfl (by kernel_rfl) (fun _ _ _ h => h) (Or.inl ⟨by rfl, ?_⟩) ?_ ?_
  rotate_left
  · intro w'
    go_simp
    with_reducible rfl
  rotate_left
  · simp only [Act.put, List.setIfInBounds_toArray, List.set_cons_zero, List.set_cons_succ, i64_w, i32_w]
    rfl
  refine pure_ (i := 4) (N := some 9) (v := ?_) (a' := ?_) #[true, false, true, true, true, false, false, false] rfl rfl (by kernel_rfl) (fun _ _ _ h => h) (Or.inl ⟨by rfl, ?_⟩) ?_ ?_
  rotate_left
  · intro w'
    go_simp
    with_reducible rfl
  rotate_left
  · simp only [Act.put, List.setIfInBounds_toArray, List.set_cons_zero, List.set_cons_succ, i64_w, i32_w]
    rfl
  refine pure_ (i := 5) (N := some 10) (v := ?_) (a' := ?_) #[true, false, true, true, true, true, false, false] rfl rfl (by kernel_rfl) (fun _ _ _ h => h) (Or.inl ⟨by rfl, ?_⟩) ?_ ?_
  rotate_left
  · intro w'
    go_simp
    with_reducible rfl
  rotate_left
  · simp only [Act.put, List.setIfInBounds_toArray, List.set_cons_zero, List.set_cons_succ, i64_w, i32_w]
    rfl
  refine take_ (i := 1) (N := some 6) (v := ?_) (a' := ?_) #[true, true, true, true, true, true, false, false] rfl rfl (by kernel_rfl) (fun _ _ _ h => h) (Or.inl ⟨by rfl, ?_⟩) hHeld ?_ ?_
  rotate_left
  · rintro w' ⟨s0, s1⟩
    go_simp
    with_reducible rfl
  rotate_left
  · simp only [Act.put, List.setIfInBounds_toArray, List.set_cons_zero, List.set_cons_succ, i64_w, i32_w]
    rfl
  refine take_ (i := 6) (N := some 11) (v := ?_) (a' := ?_) #[true, true, true, true, true, true, true, false] rfl rfl (by kernel_rfl) (fun _ _ _ h => h) (Or.inl ⟨by rfl, ?_⟩) hHeld ?_ ?_
  rotate_left
  · rintro w' ⟨s0, s1⟩
    go_simp
    with_reducible rfl
  rotate_left
  · simp only [Act.put, List.setIfInBounds_toArray, List.set_cons_zero, List.set_cons_succ, i64_w, i32_w]
    rfl
  refine pure_ (i := 7) (N := some 12) (v := ?_) (a' := ?_) #[true, true, true, true, true, true, true, true] rfl rfl (by kernel_rfl) (fun _ _ _ h => h) (Or.inl ⟨by rfl, ?_⟩) ?_ ?_
  rotate_left
  · intro w'
    go_simp
    with_reducible rfl
  rotate_left
  · simp only [Act.put, List.setIfInBounds_toArray, List.set_cons_zero, List.set_cons_succ, i64_w, i32_w]
    rfl
  refine done_ (by kernel_rfl) ?_

  by_cases h1 : f2 < no
  · go_wp2_with fail
    go_ret
    exact Or.inl ⟨h1, rfl, E.out.low⟩
  · go_wp2_with fail
    have H1 := Lib.hid h1
    replace X := Lib.hid (show BBlk w2.drew gb no ack (.slice A2 recs.length c2) from X.out.below (below_drew (Below.refl _ _)))
    replace E := Lib.hid (show EdW w w2.drew g vo o f1 f2 vi inn f4 f5 from E.out.below (below_drew (Below.refl _ _)))
    replace C := Lib.hid (show Kd.C k39 w2.drew A2 recs.length recs from Kd.C_drew C.out)
    clear hHeld
    refine start_ (n := 8) (S := fun w' => w'.cell? ⟨gb, 0, none⟩ = some (.int .i64 no) ∧ w'.cell? ⟨g, 2, none⟩ = some (.int .i64 f2)) (ds := []) #[false, false, false, false, false, false, false, false] (by kernel_rfl) rfl rfl ⟨X.out.c0, E.out.blk.c2⟩ (fun hHeld => ?_)
    generalize w2.drew = w3 at X E C hHeld ⊢
    refine pure_ (i := 0) (N := some 13) (v := ?_) (a' := ?_) #[true, false, false, false, false, false, false, false] rfl rfl (by kernel_rfl) (fun _ _ _ h => h) (Or.inl ⟨by rfl, ?_⟩) ?_ ?_
    rotate_left
    · intro w'
      go_simp
      with_reducible rfl
    rotate_left
    · simp only [Act.put, List.setIfInBounds_toArray, List.set_cons_zero, List.set_cons_succ, i64_w, i32_w]
      rfl
    refine pure_ (i := 2) (N := some 15) (v := ?_) (a' := ?_) #[true, false, true, false, false, false, false, false] rfl rfl (by kernel_rfl) (fun _ _ _ h => h) (Or.inl ⟨by rfl, ?_⟩) ?_ ?_
    rotate_left
    · intro w'
      go_simp
      with_reducible rfl
    rotate_left
    · simp only [Act.put, List.setIfInBounds_toArray, List.set_cons_zero, List.set_cons_succ, i64_w, i32_w]
      rfl
    refine pure_ (i := 3) (N := some 16) (v := ?_) (a' := ?_) #[true, false, true, true, false, false, false, false] rfl rfl (by kernel_rfl) (fun _ _ _ h => h) (Or.inl ⟨by rfl, ?_⟩) ?_ ?_
    rotate_left
    · intro w'
      go_simp
      with_reducible rfl
    rotate_left
    · simp only [Act.put, List.setIfInBounds_toArray, List.set_cons_zero, List.set_cons_succ, i64_w, i32_w]
      rfl
    refine pure_ (i := 4) (N := some 17) (v := ?_) (a' := ?_) #[true, false, true, true, true, false, false, false] rfl rfl (by kernel_rfl) (fun _ _ _ h => h) (Or.inl ⟨by rfl, ?_⟩) ?_ ?_
    rotate_left
    · intro w'
      go_simp
      with_reducible rfl
    rotate_left
    · simp only [Act.put, List.setIfInBounds_toArray, List.set_cons_zero, List.set_cons_succ, i64_w, i32_w]
      rfl
    refine pure_ (i := 5) (N := some 18) (v := ?_) (a' := ?_) #[true, false, true, true, true, true, false, false] rfl rfl (by kernel_rfl) (fun _ _ _ h => h) (Or.inl ⟨by rfl, ?_⟩) ?_ ?_
    rotate_left
    · intro w'
      go_simp
      with_reducible rfl
    rotate_left
    · simp only [Act.put, List.setIfInBounds_toArray, List.set_cons_zero, List.set_cons_succ, i64_w, i32_w]
      rfl
    refine take_ (i := 1) (N := some 14) (v := ?_) (a' := ?_) #[true, true, true, true, true, true, false, false] rfl rfl (by kernel_rfl) (fun _ _ _ h => h) (Or.inl ⟨by rfl, ?_⟩) hHeld ?_ ?_
    rotate_left
    · rintro w' ⟨s0, s1⟩
      go_simp
      with_reducible rfl
    rotate_left
    · simp only [Act.put, List.setIfInBounds_toArray, List.set_cons_zero, List.set_cons_succ, i64_w, i32_w]
      rfl
    refine take_ (i := 6) (N := some 19) (v := ?_) (a' := ?_) #[true, true, true, true, true, true, true, false] rfl rfl (by kernel_rfl) (fun _ _ _ h => h) (Or.inl ⟨by rfl, ?_⟩) hHeld ?_ ?_
    rotate_left
    · rintro w' ⟨s0, s1⟩
      go_simp
      with_reducible rfl
    rotate_left
    · simp only [Act.put, List.setIfInBounds_toArray, List.set_cons_zero, List.set_cons_succ, i64_w, i32_w]
      rfl
    refine pure_ (i := 7) (N := some 20) (v := ?_) (a' := ?_) #[true, true, true, true, true, true, true, true] rfl rfl (by kernel_rfl) (fun _ _ _ h => h) (Or.inl ⟨by rfl, ?_⟩) ?_ ?_
    rotate_left
    · intro w'
      go_simp
      with_reducible rfl
    rotate_left
    · simp only [Act.put, List.setIfInBounds_toArray, List.set_cons_zero, List.set_cons_succ, i64_w, i32_w]
      rfl
    refine done_ (by kernel_rfl) ?_

    by_cases h2 : no = f2
    · subst h2
      go_wp2_with fail
      replace X := Lib.hid (show BBlk w3.drew gb no ack (.slice A2 recs.length c2) from X.out.below (below_drew (Below.refl _ _)))
      replace E := Lib.hid (show EdW w w3.drew g vo o f1 no vi inn f4 f5 from E.out.below (below_drew (Below.refl _ _)))
      replace C := Lib.hid (show Kd.C k39 w3.drew A2 recs.length recs from Kd.C_drew C.out)
      obtain ⟨Ai, ki, rfl⟩ := Kd.R_slice E.out.inn
      clear hHeld
      refine start_ (n := 13) (S := fun w' => w'.cell? ⟨g, 3, none⟩ = some (.slice Ai inn.length ki) ∧ w'.cell? ⟨gb, 2, none⟩ = some (.slice A2 recs.length c2)) (ds := [12]) #[false, false, false, false, false, false, false, false, false, false, false, false, false] (by kernel_rfl) rfl rfl ⟨E.out.blk.c3, X.out.c2⟩ (fun hHeld => ?_)
      generalize w3.drew = w4 at X E C hHeld ⊢
      refine pure_ (i := 0) (N := some 21) (v := ?_) (a' := ?_) #[true, false, false, false, false, false, false, false, false, false, false, false, false] rfl rfl (by kernel_rfl) (fun _ _ _ h => h) (Or.inl ⟨by rfl, ?_⟩) ?_ ?_
      rotate_left
      · intro w'
        go_simp
        with_reducible rfl
      rotate_left
      · simp only [Act.put, List.setIfInBounds_toArray, List.set_cons_zero, List.set_cons_succ, i64_w, i32_w]
        rfl
      refine pure_ (i := 1) (N := some 22) (v := ?_) (a' := ?_) #[true, true, false, false, false, false, false, false, false, false, false, false, false] rfl rfl (by kernel_rfl) (fun _ _ _ h => h) (Or.inl ⟨by rfl, ?_⟩) ?_ ?_
      rotate_left
      · intro w'
        go_simp
        with_reducible rfl
      rotate_left
      · simp only [Act.put, List.setIfInBounds_toArray, List.set_cons_zero, List.set_cons_succ, i64_w, i32_w]
        rfl
      refine pure_ (i := 2) (N := some 23) (v := ?_) (a' := ?_) #[true, true, true, false, false, false, false, false, false, false, false, false, false] rfl rfl (by kernel_rfl) (fun _ _ _ h => h) (Or.inl ⟨by rfl, ?_⟩) ?_ ?_
      rotate_left
      · intro w'
        go_simp
        with_reducible rfl
      rotate_left
      · simp only [Act.put, List.setIfInBounds_toArray, List.set_cons_zero, List.set_cons_succ, i64_w, i32_w]
        rfl
      refine pure_ (i := 3) (N := some 24) (v := ?_) (a' := ?_) #[true, true, true, true, false, false, false, false, false, false, false, false, false] rfl rfl (by kernel_rfl) (fun _ _ _ h => h) (Or.inl ⟨by rfl, ?_⟩) ?_ ?_
      rotate_left
      · intro w'
        go_simp
        with_reducible rfl
      rotate_left
      · simp only [Act.put, List.setIfInBounds_toArray, List.set_cons_zero, List.set_cons_succ, i64_w, i32_w]
        rfl
      refine pure_ (i := 4) (N := some 25) (v := ?_) (a' := ?_) #[true, true, true, true, true, false, false, false, false, false, false, false, false] rfl rfl (by kernel_rfl) (fun _ _ _ h => h) (Or.inl ⟨by rfl, ?_⟩) ?_ ?_
      rotate_left
      · intro w'
        go_simp
        with_reducible rfl
      rotate_left
      · simp only [Act.put, List.setIfInBounds_toArray, List.set_cons_zero, List.set_cons_succ, i64_w, i32_w]
        rfl
      refine pure_ (i := 6) (N := some 27) (v := ?_) (a' := ?_) #[true, true, true, true, true, false, true, false, false, false, false, false, false] rfl rfl (by kernel_rfl) (fun _ _ _ h => h) (Or.inl ⟨by rfl, ?_⟩) ?_ ?_
      rotate_left
      · intro w'
        go_simp
        with_reducible rfl
      rotate_left
      · simp only [Act.put, List.setIfInBounds_toArray, List.set_cons_zero, List.set_cons_succ, i64_w, i32_w]
        rfl
      refine take_ (i := 5) (N := some 26) (v := ?_) (a' := ?_) #[true, true, true, true, true, true, true, false, false, false, false, false, false] rfl rfl (by kernel_rfl) (fun _ _ _ h => h) (Or.inl ⟨by rfl, ?_⟩) hHeld ?_ ?_
      rotate_left
      · rintro w' ⟨s0, s1⟩
        go_simp
        with_reducible rfl
      rotate_left
      · simp only [Act.put, List.setIfInBounds_toArray, List.set_cons_zero, List.set_cons_succ, i64_w, i32_w]
        rfl
      refine take_ (i := 7) (N := some 28) (v := ?_) (a' := ?_) #[true, true, true, true, true, true, true, true, false, false, false, false, false] rfl rfl (by kernel_rfl) (fun _ _ _ h => h) (Or.inl ⟨by rfl, ?_⟩) hHeld ?_ ?_
      rotate_left
      · rintro w' ⟨s0, s1⟩
        go_simp
        with_reducible rfl
      rotate_left
      · simp only [Act.put, List.setIfInBounds_toArray, List.set_cons_zero, List.set_cons_succ, i64_w, i32_w]
        rfl
      refine one_ (i := 8) (N := some 29) #[true, true, true, true, true, true, true, true, true, false, false, false, false] rfl rfl (by kernel_rfl) (by decide) (fun K hK => ?_)
      refine app39 w.heap.size (by rfl) (.tmp 26) (.tmp 28) (by rfl) (.slice Ai inn.length ki) inn recs A2 recs.length c2 (by rfl) (by rfl) E.out.inn C.out E.out.low.size (by have := HL.out; have := HL2.out; omega) ?_
      intro v3 w5 hR3 hg3 hat3
      obtain ⟨A5, k5, rfl⟩ := Kd.R_slice hR3
      have hlen : (inn ++ recs).length = inn.length + recs.length := List.length_append
      simp only [hlen] at hR3 hat3 hg3 ⊢
      clear hlen
      have E5 := Lib.hid (show EBlk w5 g 117 vo f1 no (.slice Ai inn.length ki) f4 f5 from blk_grown E.out.blk hg3 (Kd.R_ne E.out.inn E.out.blk (by decide)))
      have X5 := Lib.hid (show BBlk w5 gb no ack (.slice A2 recs.length c2) from blk_grown X.out hg3 (Kd.R_ne E.out.inn X.out (by decide)))
      have O5 := Lib.hid (Kd.R_after E.out.out hg3 hat3)
      have I5 := Lib.hid hR3
      have B5 := Lib.hid (Fr.below (Fr.of_grown hg3) E.out.low (Nat.le_refl _) (fun k hk => Kd.R_base E.out.inn k hk.symm))
      clear hR3 hg3 hat3
      refine hK.out _ _ ⟨E5.out.c3, X5.out.c2⟩ (fun hHeld => ?_)
      clear hK K
      refine norm_ (a' := ?_) ?_ ?_
      rotate_left
      · show Act.put _ (some 29) _ = _
        simp only [Act.put, List.setIfInBounds_toArray, List.set_cons_zero, List.set_cons_succ, i64_w, i32_w]
        rfl
      refine pure_ (i := 9) (N := some 30) (v := ?_) (a' := ?_) #[true, true, true, true, true, true, true, true, true, true, false, false, false] rfl rfl (by kernel_rfl) (fun _ _ _ h => h) (Or.inl ⟨by rfl, ?_⟩) ?_ ?_
      rotate_left
      · intro w'
        go_simp
        with_reducible rfl
      rotate_left
      · simp only [Act.put, List.setIfInBounds_toArray, List.set_cons_zero, List.set_cons_succ, i64_w, i32_w]
        rfl
      refine pure_ (i := 10) (N := some 31) (v := ?_) (a' := ?_) #[true, true, true, true, true, true, true, true, true, true, true, false, false] rfl rfl (by kernel_rfl) (fun _ _ _ h => h) (Or.inl ⟨by rfl, ?_⟩) ?_ ?_
      rotate_left
      · intro w'
        go_simp
        with_reducible rfl
      rotate_left
      · simp only [Act.put, List.setIfInBounds_toArray, List.set_cons_zero, List.set_cons_succ, i64_w, i32_w]
        rfl
      refine pure_ (i := 11) (N := some 32) (v := ?_) (a' := ?_) #[true, true, true, true, true, true, true, true, true, true, true, true, false] rfl rfl (by kernel_rfl) (fun _ _ _ h => h) (Or.inl ⟨by rfl, ?_⟩) ?_ ?_
      rotate_left
      · intro w'
        go_simp
        with_reducible rfl
      rotate_left
      · simp only [Act.put, List.setIfInBounds_toArray, List.set_cons_zero, List.set_cons_succ, i64_w, i32_w]
        rfl
      refine last_ (i := 12) (N := none) #[true, true, true, true, true, true, true, true, true, true, true, true, true] rfl rfl (by kernel_rfl) (by decide) (fun K hK => ?_)
      have q1 := E5.out.c3; have q2 := blk_frozen E5.out 3
      refine skip_ (w1 := ?_) (by rfl) rfl ?_ ?_
      rotate_left
      · go_simp
        rfl
      refine hK.out _ _ ?_
      clear hK K
      refine done_ (by kernel_rfl) ?_

      obtain ⟨w6, hw6⟩ : ∃ w6, w6 = w5.setCell ⟨g, 3, none⟩ (.slice A5 (inn.length + recs.length) k5) := ⟨_, rfl⟩
      rw [← hw6]
      have E6 := Lib.hid (show EdW w w6 g vo o f1 no (.slice A5 (inn.length + recs.length) k5) (inn ++ recs) f4 f5 by
        rw [hw6]
        exact ⟨below_set B5.out (Nat.le_refl _) E.out.ge 3 _, E.out.ge, blk_put E5.out 3 _ rfl, Kd.R_set O5.out E5.out (by decide) 3 _, Kd.R_set I5.out E5.out (by decide) 3 _⟩)
      clear hw6 E5 X5 O5 I5 B5
      have x2 := E6.out.blk.c2; have z2 := blk_frozen E6.out.blk 2; have x4 := E6.out.blk.c4; have z4 := blk_frozen E6.out.blk 4
      go_wp2_with fail
      go_ret
      have hw := wid (n := no + 1) (by have := HN0.out; omega) (by have := HN1.out; omega)
      refine Or.inr (Or.inl ⟨rfl, rfl, .slice A5 (inn.length + recs.length) k5, ?_⟩)
      exact EdW.set (EdW.set (f2' := no + 1) (f1' := f1) (f5' := f5) (f4' := f4) E6.out 2 (.int .i64 (wrap64 (no + 1))) (by rw [hw]; rfl)) 4 (.bool true) rfl
    · have H2 := Lib.hid h2
      have x4 := E.out.blk.c4; have z4 := blk_frozen E.out.blk 4
      go_wp2_with fail
      go_ret
      exact Or.inr (Or.inr ⟨by have := H1.out; omega, rfl, EdW.set E.out 4 _ rfl⟩)

theorem EBlk.as1 {w : World} {g t : Nat} {v0 v3 : Value} {f1 f1' f2 f5 : Int} {f4 : Bool} (h : EBlk w g t v0 f1 f2 v3 f4 f5) (e : f1 = f1') : EBlk w g t v0 f1' f2 v3 f4 f5 := e ▸ h
def AckPost (o : List (List S39)) (f1 f2 : Int) (inn : List S39) (f4 : Bool) (f5 : Int) (no : Int) (w : World) (g : Nat) (vo vi : Value) (e : Ending) (W' : World) : Prop :=
  (no ≤ f1 ∧ e = .returned (.int .i64 0) ∧ EdW w W' g vo o f1 f2 vi inn f4 f5) ∨ ((f1 < no ∧ (f1 + 1 < no ∨ f5 = -1)) ∧ e = .returned (.int .i64 300) ∧ Below w.heap.size w W') ∨ ((no = f1 + 1 ∧ f5 ≠ -1) ∧ e = .returned (.int .i64 0) ∧ ∃ vo', EdV w W' g vo' (o.drop 1) (f1 + 1) f2 vi inn f4 (-1))
set_option maxHeartbeats 8000000 in
set_option maxRecDepth 100000 in
theorem ack_calls (w : World) (g : Nat) (vo vi : Value) (o : List (List S39)) (f1 f2 : Int) (inn : List S39) (f4 : Bool) (f5 no : Int) (ack : Bool) (v2 : Value) (W : World) (hE : EdW w W g vo o f1 f2 vi inn f4 f5) (hn0 : 0 ≤ f1) (hn1 : f1 ≤ 1099511627776) (hd : f5 ≠ -1 → 0 < o.length) (hv2 : ∃ A n c, v2 = .slice A n c) :
    Calls Try.prog 77 #[.pointer (some ⟨g, 0, none⟩), .agg #[.int .i64 no, .bool ack, v2]] W (AckPost o f1 f2 inn f4 f5 no w g vo vi) := by
  obtain ⟨A2, n2, c2, rfl⟩ := hv2
  have HE := Lib.hid hE; have HN0 := Lib.hid hn0; have HN1 := Lib.hid hn1; have HD := Lib.hid hd
  have hw := wid (n := f1 + 1) (by omega) (by omega)
  obtain ⟨f1s, hf1s⟩ : ∃ f1s, f1s = wrap64 (f1 + 1) := ⟨_, rfl⟩
  have HF1 := Lib.hid (show f1s = f1 + 1 by rw [hf1s]; exact hw)
  have HW := Lib.hid hf1s
  clear hE hn0 hn1 hd hw hf1s
  go_enter Try.func77, Try.ntmps77
  go_wp2_with fail
  obtain ⟨w1, hw1⟩ : ∃ w1, w1 = W.alloc (.cells #[.int .i64 no, .bool ack, .slice A2 n2 c2] 83) := ⟨_, rfl⟩
  rw [← hw1]
  have X0 := Lib.hid (show BBlk w1 W.heap.size no ack (.slice A2 n2 c2) by rw [hw1]; exact BBlk.new W _ _ _)
  have E0 := Lib.hid (show EdW w w1 g vo o f1 f2 vi inn f4 f5 by rw [hw1]; exact HE.out.below (below_one _ _))
  clear hw1 HE
  generalize W.heap.size = gb at X0 ⊢
  have X := Lib.hid (show BBlk w1.drew gb no ack (.slice A2 n2 c2) from X0.out.below (below_drew (Below.refl _ _)))
  have E := Lib.hid (show EdW w w1.drew g vo o f1 f2 vi inn f4 f5 from E0.out.below (below_drew (Below.refl _ _)))
  clear X0 E0
  refine start_ (n := 9) (S := fun w' => w'.cell? ⟨gb, 0, none⟩ = some (.int .i64 no) ∧ w'.cell? ⟨g, 1, none⟩ = some (.int .i64 f1)) (ds := []) #[false, false, false, false, false, false, false, false, false] (by kernel_rfl) rfl rfl ⟨X.out.c0, E.out.blk.c1⟩ (fun hHeld => ?_)
  generalize w1.drew = w2 at X E hHeld ⊢
  refine pure_ (i := 0) (N := some 6) (v := ?_) (a' := ?_) #[true, false, false, false, false, false, false, false, false] rfl rfl (by kernel_rfl) (fun _ _ _ h => h) (Or.inl ⟨by rfl, ?_⟩) ?_ ?_
  rotate_left
  · intro w'
    go_simp
    with_reducible rfl
  rotate_left
  · simp only [Act.put, List.setIfInBounds_toArray, List.set_cons_zero, List.set_cons_succ, i64_w, i32_w]
    rfl
  refine pure_ (i := 2) (N := some 8) (v := ?_) (a' := ?_) #[true, false, true, false, false, false, false, false, false] rfl rfl (by kernel_rfl) (fun _ _ _ h => h) (Or.inl ⟨by rfl, ?_⟩) ?_ ?_
  rotate_left
  · intro w'
    go_simp
    with_reducible rfl
  rotate_left
  · simp only [Act.put, List.setIfInBounds_toArray, List.set_cons_zero, List.set_cons_succ, i64_w, i32_w]
    rfl
  refine pure_ (i := 3) (N := some 9) (v := ?_) (a' := ?_) #[true, false, true, true, false, false, false, false, false] rfl rfl (by kernel_rfl) (fun _ _ _ h => h) (Or.inl ⟨by rfl, ?_⟩) ?_ ?_
  rotate_left
  · intro w'
    go_simp
    with_reducible rfl
  rotate_left
  · simp only [Act.put, List.setIfInBounds_toArray, List.set_cons_zero, List.set_cons_succ, i64_w, i32_w]
    rfl
  refine pure_ (i := 4) (N := some 10) (v := ?_) (a' := ?_) #[true, false, true, true, true, false, false, false, false] rfl rfl (by kernel_rfl) (fun _ _ _ h => h) (Or.inl ⟨by rfl, ?_⟩) ?_ ?_
  rotate_left
  · intro w'
    go_simp
    with_reducible rfl
  rotate_left
  · simp only [Act.put, List.setIfInBounds_toArray, List.set_cons_zero, List.set_cons_succ, i64_w, i32_w]
    rfl
  refine pure_ (i := 5) (N := some 11) (v := ?_) (a' := ?_) #[true, false, true, true, true, true, false, false, false] rfl rfl (by kernel_rfl) (fun _ _ _ h => h) (Or.inl ⟨by rfl, ?_⟩) ?_ ?_
  rotate_left
  · intro w'
    go_simp
    with_reducible rfl
  rotate_left
  · simp only [Act.put, List.setIfInBounds_toArray, List.set_cons_zero, List.set_cons_succ, i64_w, i32_w]
    rfl
  refine take_ (i := 1) (N := some 7) (v := ?_) (a' := ?_) #[true, true, true, true, true, true, false, false, false] rfl rfl (by kernel_rfl) (fun _ _ _ h => h) (Or.inl ⟨by rfl, ?_⟩) hHeld ?_ ?_
  rotate_left
  · rintro w' ⟨s0, s1⟩
    go_simp
    with_reducible rfl
  rotate_left
  · simp only [Act.put, List.setIfInBounds_toArray, List.set_cons_zero, List.set_cons_succ, i64_w, i32_w]
    rfl
  refine take_ (i := 6) (N := some 12) (v := ?_) (a' := ?_) #[true, true, true, true, true, true, true, false, false] rfl rfl (by kernel_rfl) (fun _ _ _ h => h) (Or.inl ⟨by rfl, ?_⟩) hHeld ?_ ?_
  rotate_left
  · rintro w' ⟨s0, s1⟩
    go_simp
    with_reducible rfl
  rotate_left
  · simp only [Act.put, List.setIfInBounds_toArray, List.set_cons_zero, List.set_cons_succ, i64_w, i32_w]
    rfl
  refine pure_ (i := 7) (N := some 13) (v := ?_) (a' := ?_) #[true, true, true, true, true, true, true, true, false] rfl rfl (by kernel_rfl) (fun _ _ _ h => h) (Or.inl ⟨by rfl, ?_⟩) ?_ ?_
  rotate_left
  · intro w'
    go_simp
    with_reducible rfl
  rotate_left
  · simp only [Act.put, List.setIfInBounds_toArray, List.set_cons_zero, List.set_cons_succ, i64_w, i32_w]
    rfl
  refine pure_ (i := 8) (N := some 5) (v := ?_) (a' := ?_) #[true, true, true, true, true, true, true, true, true] rfl rfl (by kernel_rfl) (fun _ _ _ h => h) (Or.inl ⟨by rfl, ?_⟩) ?_ ?_
  rotate_left
  · intro w'
    go_simp
    with_reducible rfl
  rotate_left
  · simp only [Act.put, List.setIfInBounds_toArray, List.set_cons_zero, List.set_cons_succ, i64_w, i32_w]
    rfl
  refine done_ (by kernel_rfl) ?_

  by_cases h1 : no ≤ f1
  · go_wp2_with fail
    go_ret
    exact Or.inl ⟨h1, rfl, E.out⟩
  · go_wp2_with fail
    have H1 := Lib.hid h1
    replace X := Lib.hid (show BBlk w2.drew gb no ack (.slice A2 n2 c2) from X.out.below (below_drew (Below.refl _ _)))
    replace E := Lib.hid (show EdW w w2.drew g vo o f1 f2 vi inn f4 f5 from E.out.below (below_drew (Below.refl _ _)))
    clear hHeld
    cases h2 : decide (wrap64 (f1 + 1) < no)
    · skip
      refine start_ (n := 18) (S := fun w' => w'.cell? ⟨gb, 0, none⟩ = some (.int .i64 no) ∧ w'.cell? ⟨g, 1, none⟩ = some (.int .i64 f1) ∧ w'.cell? ⟨g, 5, none⟩ = some (.int .i64 f5)) (ds := []) #[false, false, false, false, false, false, false, false, false, false, false, false, false, false, false, false, false, false] (by kernel_rfl) rfl rfl ⟨X.out.c0, E.out.blk.c1, E.out.blk.c5⟩ (fun hHeld => ?_)
      generalize w2.drew = w3 at X E hHeld ⊢
      refine pure_ (i := 0) (N := some 15) (v := ?_) (a' := ?_) #[true, false, false, false, false, false, false, false, false, false, false, false, false, false, false, false, false, false] rfl rfl (by kernel_rfl) (fun _ _ _ h => h) (Or.inl ⟨by rfl, ?_⟩) ?_ ?_
      rotate_left
      · intro w'
        go_simp
        with_reducible rfl
      rotate_left
      · simp only [Act.put, List.setIfInBounds_toArray, List.set_cons_zero, List.set_cons_succ, i64_w, i32_w]
        rfl
      refine pure_ (i := 2) (N := some 17) (v := ?_) (a' := ?_) #[true, false, true, false, false, false, false, false, false, false, false, false, false, false, false, false, false, false] rfl rfl (by kernel_rfl) (fun _ _ _ h => h) (Or.inl ⟨by rfl, ?_⟩) ?_ ?_
      rotate_left
      · intro w'
        go_simp
        with_reducible rfl
      rotate_left
      · simp only [Act.put, List.setIfInBounds_toArray, List.set_cons_zero, List.set_cons_succ, i64_w, i32_w]
        rfl
      refine pure_ (i := 3) (N := some 18) (v := ?_) (a' := ?_) #[true, false, true, true, false, false, false, false, false, false, false, false, false, false, false, false, false, false] rfl rfl (by kernel_rfl) (fun _ _ _ h => h) (Or.inl ⟨by rfl, ?_⟩) ?_ ?_
      rotate_left
      · intro w'
        go_simp
        with_reducible rfl
      rotate_left
      · simp only [Act.put, List.setIfInBounds_toArray, List.set_cons_zero, List.set_cons_succ, i64_w, i32_w]
        rfl
      refine pure_ (i := 4) (N := some 19) (v := ?_) (a' := ?_) #[true, false, true, true, true, false, false, false, false, false, false, false, false, false, false, false, false, false] rfl rfl (by kernel_rfl) (fun _ _ _ h => h) (Or.inl ⟨by rfl, ?_⟩) ?_ ?_
      rotate_left
      · intro w'
        go_simp
        with_reducible rfl
      rotate_left
      · simp only [Act.put, List.setIfInBounds_toArray, List.set_cons_zero, List.set_cons_succ, i64_w, i32_w]
        rfl
      refine pure_ (i := 5) (N := some 20) (v := ?_) (a' := ?_) #[true, false, true, true, true, true, false, false, false, false, false, false, false, false, false, false, false, false] rfl rfl (by kernel_rfl) (fun _ _ _ h => h) (Or.inl ⟨by rfl, ?_⟩) ?_ ?_
      rotate_left
      · intro w'
        go_simp
        with_reducible rfl
      rotate_left
      · simp only [Act.put, List.setIfInBounds_toArray, List.set_cons_zero, List.set_cons_succ, i64_w, i32_w]
        rfl
      refine take_ (i := 1) (N := some 16) (v := ?_) (a' := ?_) #[true, true, true, true, true, true, false, false, false, false, false, false, false, false, false, false, false, false] rfl rfl (by kernel_rfl) (fun _ _ _ h => h) (Or.inl ⟨by rfl, ?_⟩) hHeld ?_ ?_
      rotate_left
      · rintro w' ⟨s0, s1, s2⟩
        go_simp
        with_reducible rfl
      rotate_left
      · simp only [Act.put, List.setIfInBounds_toArray, List.set_cons_zero, List.set_cons_succ, i64_w, i32_w]
        rfl
      refine take_ (i := 6) (N := some 21) (v := ?_) (a' := ?_) #[true, true, true, true, true, true, true, false, false, false, false, false, false, false, false, false, false, false] rfl rfl (by kernel_rfl) (fun _ _ _ h => h) (Or.inl ⟨by rfl, ?_⟩) hHeld ?_ ?_
      rotate_left
      · rintro w' ⟨s0, s1, s2⟩
        go_simp
        with_reducible rfl
      rotate_left
      · simp only [Act.put, List.setIfInBounds_toArray, List.set_cons_zero, List.set_cons_succ, i64_w, i32_w]
        rfl
      refine pure_ (i := 7) (N := some 22) (v := ?_) (a' := ?_) #[true, true, true, true, true, true, true, true, false, false, false, false, false, false, false, false, false, false] rfl rfl (by kernel_rfl) (fun _ _ _ h => h) (Or.inl ⟨by rfl, ?_⟩) ?_ ?_
      rotate_left
      · intro w'
        go_simp
        with_reducible rfl
      rotate_left
      · simp only [Act.put, List.setIfInBounds_toArray, List.set_cons_zero, List.set_cons_succ, i64_w, i32_w]
        rfl
      refine pure_ (i := 8) (N := some 23) (v := ?_) (a' := ?_) #[true, true, true, true, true, true, true, true, true, false, false, false, false, false, false, false, false, false] rfl rfl (by kernel_rfl) (fun _ _ _ h => h) (Or.inl ⟨by rfl, ?_⟩) ?_ ?_
      rotate_left
      · intro w'
        go_simp
        with_reducible rfl
      rotate_left
      · simp only [Act.put, List.setIfInBounds_toArray, List.set_cons_zero, List.set_cons_succ, i64_w, i32_w]
        rfl
      refine pure_ (i := 9) (N := some 24) (v := ?_) (a' := ?_) #[true, true, true, true, true, true, true, true, true, true, false, false, false, false, false, false, false, false] rfl rfl (by kernel_rfl) (fun _ _ _ h => h) (Or.inl ⟨by rfl, ?_⟩) ?_ ?_
      rotate_left
      · intro w'
        go_simp
        with_reducible rfl
      rotate_left
      · simp only [Act.put, List.setIfInBounds_toArray, List.set_cons_zero, List.set_cons_succ, i64_w, i32_w]
        rfl
      refine pure_ (i := 10) (N := some 25) (v := ?_) (a' := ?_) #[true, true, true, true, true, true, true, true, true, true, true, false, false, false, false, false, false, false] rfl rfl (by kernel_rfl) (fun _ _ _ h => h) (Or.inl ⟨by rfl, ?_⟩) ?_ ?_
      rotate_left
      · intro w'
        go_simp
        with_reducible rfl
      rotate_left
      · simp only [Act.put, List.setIfInBounds_toArray, List.set_cons_zero, List.set_cons_succ, i64_w, i32_w]
        rfl
      refine pure_ (i := 11) (N := some 26) (v := ?_) (a' := ?_) #[true, true, true, true, true, true, true, true, true, true, true, true, false, false, false, false, false, false] rfl rfl (by kernel_rfl) (fun _ _ _ h => h) (Or.inl ⟨by rfl, ?_⟩) ?_ ?_
      rotate_left
      · intro w'
        go_simp
        with_reducible rfl
      rotate_left
      · simp only [Act.put, List.setIfInBounds_toArray, List.set_cons_zero, List.set_cons_succ, i64_w, i32_w]
        rfl
      refine pure_ (i := 12) (N := some 27) (v := ?_) (a' := ?_) #[true, true, true, true, true, true, true, true, true, true, true, true, true, false, false, false, false, false] rfl rfl (by kernel_rfl) (fun _ _ _ h => h) (Or.inl ⟨by rfl, ?_⟩) ?_ ?_
      rotate_left
      · intro w'
        go_simp
        with_reducible rfl
      rotate_left
      · simp only [Act.put, List.setIfInBounds_toArray, List.set_cons_zero, List.set_cons_succ, i64_w, i32_w]
        rfl
      refine pure_ (i := 13) (N := some 28) (v := ?_) (a' := ?_) #[true, true, true, true, true, true, true, true, true, true, true, true, true, true, false, false, false, false] rfl rfl (by kernel_rfl) (fun _ _ _ h => h) (Or.inl ⟨by rfl, ?_⟩) ?_ ?_
      rotate_left
      · intro w'
        go_simp
        with_reducible rfl
      rotate_left
      · simp only [Act.put, List.setIfInBounds_toArray, List.set_cons_zero, List.set_cons_succ, i64_w, i32_w]
        rfl
      refine take_ (i := 14) (N := some 29) (v := ?_) (a' := ?_) #[true, true, true, true, true, true, true, true, true, true, true, true, true, true, true, false, false, false] rfl rfl (by kernel_rfl) (fun _ _ _ h => h) (Or.inl ⟨by rfl, ?_⟩) hHeld ?_ ?_
      rotate_left
      · rintro w' ⟨s0, s1, s2⟩
        go_simp
        with_reducible rfl
      rotate_left
      · simp only [Act.put, List.setIfInBounds_toArray, List.set_cons_zero, List.set_cons_succ, i64_w, i32_w]
        rfl
      refine pure_ (i := 15) (N := some 30) (v := ?_) (a' := ?_) #[true, true, true, true, true, true, true, true, true, true, true, true, true, true, true, true, false, false] rfl rfl (by kernel_rfl) (fun _ _ _ h => h) (Or.inl ⟨by rfl, ?_⟩) ?_ ?_
      rotate_left
      · intro w'
        go_simp
        with_reducible rfl
      rotate_left
      · simp only [Act.put, List.setIfInBounds_toArray, List.set_cons_zero, List.set_cons_succ, i64_w, i32_w]
        rfl
      refine pure_ (i := 16) (N := some 31) (v := ?_) (a' := ?_) #[true, true, true, true, true, true, true, true, true, true, true, true, true, true, true, true, true, false] rfl rfl (by kernel_rfl) (fun _ _ _ h => h) (Or.inl ⟨by rfl, ?_⟩) ?_ ?_
      rotate_left
      · intro w'
        go_simp
        with_reducible rfl
      rotate_left
      · simp only [Act.put, List.setIfInBounds_toArray, List.set_cons_zero, List.set_cons_succ, i64_w, i32_w]
        rfl
      refine pure_ (i := 17) (N := some 14) (v := ?_) (a' := ?_) #[true, true, true, true, true, true, true, true, true, true, true, true, true, true, true, true, true, true] rfl rfl (by kernel_rfl) (fun _ _ _ h => h) (Or.inl ⟨by rfl, ?_⟩) ?_ ?_
      rotate_left
      · intro w'
        go_simp
        with_reducible rfl
      rotate_left
      · simp only [Act.put, List.setIfInBounds_toArray, List.set_cons_zero, List.set_cons_succ, i64_w, i32_w]
        rfl
      refine done_ (by kernel_rfl) ?_

      have H2 := Lib.hid (show ¬ f1 + 1 < no by have h := of_decide_eq_false h2; rwa [← HW.out, HF1.out] at h)
      clear h2
      by_cases h3 : f5 = -1
      · have H3 := Lib.hid h3
        subst h3
        go_wp2_with fail
        go_ret
        exact Or.inr (Or.inl ⟨⟨by have := H1.out; omega, Or.inr rfl⟩, rfl, E.out.low⟩)
      · have H3 := Lib.hid h3
        obtain ⟨go, ko, rfl, _, _, _⟩ := Kd.R_form E.out.out (HD.out h3)
        have hd := HD.out h3
        have HRO := Lib.hid (Kd.R_reads' E.out.out)
        have hko := HRO.out.2.1
        have x0 := E.out.blk.c0; have z0 := blk_frozen E.out.blk 0
        have h3b : (f5 == -1) = false := by simpa using h3
        have HDD := Lib.hid hd
        clear hHeld h3
        by_cases hk : ko = 1
        · subst hk
          have hol : o.length = 1 := by omega
          have E1 := Lib.hid (show EBlk (w3.setCell ⟨g, 0, none⟩ (.slice (some ⟨go, 0, none⟩) 0 0)) g 117 (.slice (some ⟨go, 0, none⟩) 0 0) f1 f2 vi f4 f5 from blk_put E.out.blk 0 _ rfl)
          have E2 := Lib.hid (show EBlk ((w3.setCell ⟨g, 0, none⟩ (.slice (some ⟨go, 0, none⟩) 0 0)).setCell ⟨g, 1, none⟩ (.int .i64 (wrap64 (f1 + 1)))) g 117 (.slice (some ⟨go, 0, none⟩) 0 0) (wrap64 (f1 + 1)) f2 vi f4 f5 from blk_put E1.out 1 _ rfl)
          have x1 := E1.out.c1; have z1 := blk_frozen E1.out 1; have x5 := E2.out.c5; have z5 := blk_frozen E2.out 5
          go_wp2_with fail
          go_ret
          have hw := wid (n := f1 + 1) (by have := HN0.out; omega) (by have := HN1.out; omega)
          refine Or.inr (Or.inr ⟨⟨by have := H1.out; have := H2.out; omega, H3.out⟩, rfl, (.slice (some ⟨go, 0, none⟩) 0 0), below_set (below_set (below_set E.out.low (Nat.le_refl _) E.out.ge 0 _) (Nat.le_refl _) E.out.ge 1 _) (Nat.le_refl _) E.out.ge 5 (.int .i64 (-1)), EBlk.as1 (blk_put E2.out 5 (.int .i64 (-1)) rfl) hw, ?_, Kd.R_V (Kd.R_mono (Kd.R_bound (Kd.R_set (Kd.R_set (Kd.R_set E.out.inn E.out.blk (by decide) 0 _) E1.out (by decide) 1 _) E2.out (by decide) 5 _)) (fun _ hk => hk.2.1))⟩)
          have hV := Kd.R_V (base' := w.heap.size) (Kd.R_mono (Kd.R_bound (Kd.R_set (Kd.R_set (Kd.R_set E.out.out E.out.blk (by decide) 0 (.slice (some ⟨go, 0, none⟩) 0 0)) E1.out (by decide) 1 (.int .i64 (wrap64 (f1 + 1)))) E2.out (by decide) 5 (.int .i64 (-1)))) (fun _ hk => hk.2.1))
          have hF := Kd.F_cut (m := 1) (Kd.V_at hV).2.2 (by have := HDD.out; omega) (Kd.V_at hV).2.1
          have hM := Kd.V_mk (e := 28) (base := w.heap.size) (c := 0) (by rw [List.length_drop]; omega) hF
          rw [List.length_drop, hol] at hM
          exact hM
        · have E1 := Lib.hid (show EBlk (w3.setCell ⟨g, 0, none⟩ (.slice (some ⟨go, 1, none⟩) (o.length - 1) (ko - 1))) g 117 (.slice (some ⟨go, 1, none⟩) (o.length - 1) (ko - 1)) f1 f2 vi f4 f5 from blk_put E.out.blk 0 _ rfl)
          have E2 := Lib.hid (show EBlk ((w3.setCell ⟨g, 0, none⟩ (.slice (some ⟨go, 1, none⟩) (o.length - 1) (ko - 1))).setCell ⟨g, 1, none⟩ (.int .i64 (wrap64 (f1 + 1)))) g 117 (.slice (some ⟨go, 1, none⟩) (o.length - 1) (ko - 1)) (wrap64 (f1 + 1)) f2 vi f4 f5 from blk_put E1.out 1 _ rfl)
          have x1 := E1.out.c1; have z1 := blk_frozen E1.out 1; have x5 := E2.out.c5; have z5 := blk_frozen E2.out 5
          go_wp2_with fail
          go_ret
          have hw := wid (n := f1 + 1) (by have := HN0.out; omega) (by have := HN1.out; omega)
          refine Or.inr (Or.inr ⟨⟨by have := H1.out; have := H2.out; omega, H3.out⟩, rfl, (.slice (some ⟨go, 1, none⟩) (o.length - 1) (ko - 1)), below_set (below_set (below_set E.out.low (Nat.le_refl _) E.out.ge 0 _) (Nat.le_refl _) E.out.ge 1 _) (Nat.le_refl _) E.out.ge 5 (.int .i64 (-1)), EBlk.as1 (blk_put E2.out 5 (.int .i64 (-1)) rfl) hw, ?_, Kd.R_V (Kd.R_mono (Kd.R_bound (Kd.R_set (Kd.R_set (Kd.R_set E.out.inn E.out.blk (by decide) 0 _) E1.out (by decide) 1 _) E2.out (by decide) 5 _)) (fun _ hk => hk.2.1))⟩)
          have hV := Kd.R_V (base' := w.heap.size) (Kd.R_mono (Kd.R_bound (Kd.R_set (Kd.R_set (Kd.R_set E.out.out E.out.blk (by decide) 0 (.slice (some ⟨go, 1, none⟩) (o.length - 1) (ko - 1))) E1.out (by decide) 1 (.int .i64 (wrap64 (f1 + 1)))) E2.out (by decide) 5 (.int .i64 (-1)))) (fun _ hk => hk.2.1))
          have hF := Kd.F_cut (m := 1) (Kd.V_at hV).2.2 (by have := HDD.out; omega) (Kd.V_at hV).2.1
          have hM := Kd.V_mk (e := 28) (base := w.heap.size) (c := ko - 1) (by rw [List.length_drop]; omega) hF
          rw [List.length_drop] at hM
          rw [if_neg hk] at hM
          exact hM
    · skip
      refine start_ (n := 18) (S := fun w' => w'.cell? ⟨gb, 0, none⟩ = some (.int .i64 no) ∧ w'.cell? ⟨g, 1, none⟩ = some (.int .i64 f1) ∧ w'.cell? ⟨g, 5, none⟩ = some (.int .i64 f5)) (ds := []) #[false, false, false, false, false, false, false, false, false, false, false, false, false, false, false, false, false, false] (by kernel_rfl) rfl rfl ⟨X.out.c0, E.out.blk.c1, E.out.blk.c5⟩ (fun hHeld => ?_)
      generalize w2.drew = w3 at X E hHeld ⊢
      refine pure_ (i := 0) (N := some 15) (v := ?_) (a' := ?_) #[true, false, false, false, false, false, false, false, false, false, false, false, false, false, false, false, false, false] rfl rfl (by kernel_rfl) (fun _ _ _ h => h) (Or.inl ⟨by rfl, ?_⟩) ?_ ?_
      rotate_left
      · intro w'
        go_simp
        with_reducible rfl
      rotate_left
      · simp only [Act.put, List.setIfInBounds_toArray, List.set_cons_zero, List.set_cons_succ, i64_w, i32_w]
        rfl
      refine pure_ (i := 2) (N := some 17) (v := ?_) (a' := ?_) #[true, false, true, false, false, false, false, false, false, false, false, false, false, false, false, false, false, false] rfl rfl (by kernel_rfl) (fun _ _ _ h => h) (Or.inl ⟨by rfl, ?_⟩) ?_ ?_
      rotate_left
      · intro w'
        go_simp
        with_reducible rfl
      rotate_left
      · simp only [Act.put, List.setIfInBounds_toArray, List.set_cons_zero, List.set_cons_succ, i64_w, i32_w]
        rfl
      refine pure_ (i := 3) (N := some 18) (v := ?_) (a' := ?_) #[true, false, true, true, false, false, false, false, false, false, false, false, false, false, false, false, false, false] rfl rfl (by kernel_rfl) (fun _ _ _ h => h) (Or.inl ⟨by rfl, ?_⟩) ?_ ?_
      rotate_left
      · intro w'
        go_simp
        with_reducible rfl
      rotate_left
      · simp only [Act.put, List.setIfInBounds_toArray, List.set_cons_zero, List.set_cons_succ, i64_w, i32_w]
        rfl
      refine pure_ (i := 4) (N := some 19) (v := ?_) (a' := ?_) #[true, false, true, true, true, false, false, false, false, false, false, false, false, false, false, false, false, false] rfl rfl (by kernel_rfl) (fun _ _ _ h => h) (Or.inl ⟨by rfl, ?_⟩) ?_ ?_
      rotate_left
      · intro w'
        go_simp
        with_reducible rfl
      rotate_left
      · simp only [Act.put, List.setIfInBounds_toArray, List.set_cons_zero, List.set_cons_succ, i64_w, i32_w]
        rfl
      refine pure_ (i := 5) (N := some 20) (v := ?_) (a' := ?_) #[true, false, true, true, true, true, false, false, false, false, false, false, false, false, false, false, false, false] rfl rfl (by kernel_rfl) (fun _ _ _ h => h) (Or.inl ⟨by rfl, ?_⟩) ?_ ?_
      rotate_left
      · intro w'
        go_simp
        with_reducible rfl
      rotate_left
      · simp only [Act.put, List.setIfInBounds_toArray, List.set_cons_zero, List.set_cons_succ, i64_w, i32_w]
        rfl
      refine take_ (i := 1) (N := some 16) (v := ?_) (a' := ?_) #[true, true, true, true, true, true, false, false, false, false, false, false, false, false, false, false, false, false] rfl rfl (by kernel_rfl) (fun _ _ _ h => h) (Or.inl ⟨by rfl, ?_⟩) hHeld ?_ ?_
      rotate_left
      · rintro w' ⟨s0, s1, s2⟩
        go_simp
        with_reducible rfl
      rotate_left
      · simp only [Act.put, List.setIfInBounds_toArray, List.set_cons_zero, List.set_cons_succ, i64_w, i32_w]
        rfl
      refine take_ (i := 6) (N := some 21) (v := ?_) (a' := ?_) #[true, true, true, true, true, true, true, false, false, false, false, false, false, false, false, false, false, false] rfl rfl (by kernel_rfl) (fun _ _ _ h => h) (Or.inl ⟨by rfl, ?_⟩) hHeld ?_ ?_
      rotate_left
      · rintro w' ⟨s0, s1, s2⟩
        go_simp
        with_reducible rfl
      rotate_left
      · simp only [Act.put, List.setIfInBounds_toArray, List.set_cons_zero, List.set_cons_succ, i64_w, i32_w]
        rfl
      refine pure_ (i := 7) (N := some 22) (v := ?_) (a' := ?_) #[true, true, true, true, true, true, true, true, false, false, false, false, false, false, false, false, false, false] rfl rfl (by kernel_rfl) (fun _ _ _ h => h) (Or.inl ⟨by rfl, ?_⟩) ?_ ?_
      rotate_left
      · intro w'
        go_simp
        with_reducible rfl
      rotate_left
      · simp only [Act.put, List.setIfInBounds_toArray, List.set_cons_zero, List.set_cons_succ, i64_w, i32_w]
        rfl
      refine pure_ (i := 8) (N := some 23) (v := ?_) (a' := ?_) #[true, true, true, true, true, true, true, true, true, false, false, false, false, false, false, false, false, false] rfl rfl (by kernel_rfl) (fun _ _ _ h => h) (Or.inl ⟨by rfl, ?_⟩) ?_ ?_
      rotate_left
      · intro w'
        go_simp
        with_reducible rfl
      rotate_left
      · simp only [Act.put, List.setIfInBounds_toArray, List.set_cons_zero, List.set_cons_succ, i64_w, i32_w]
        rfl
      refine pure_ (i := 9) (N := some 24) (v := ?_) (a' := ?_) #[true, true, true, true, true, true, true, true, true, true, false, false, false, false, false, false, false, false] rfl rfl (by kernel_rfl) (fun _ _ _ h => h) (Or.inl ⟨by rfl, ?_⟩) ?_ ?_
      rotate_left
      · intro w'
        go_simp
        with_reducible rfl
      rotate_left
      · simp only [Act.put, List.setIfInBounds_toArray, List.set_cons_zero, List.set_cons_succ, i64_w, i32_w]
        rfl
      refine pure_ (i := 10) (N := some 25) (v := undef) (a' := ?_) #[true, true, true, true, true, true, true, true, true, true, true, false, false, false, false, false, false, false] rfl rfl (by kernel_rfl) (fun _ _ _ h => h) (Or.inr ⟨by rfl, rfl⟩) ?_ ?_
      rotate_left
      · simp only [Act.put, List.setIfInBounds_toArray, List.set_cons_zero, List.set_cons_succ, i64_w, i32_w]
        rfl
      refine pure_ (i := 11) (N := some 26) (v := undef) (a' := ?_) #[true, true, true, true, true, true, true, true, true, true, true, true, false, false, false, false, false, false] rfl rfl (by kernel_rfl) (fun _ _ _ h => h) (Or.inr ⟨by rfl, rfl⟩) ?_ ?_
      rotate_left
      · simp only [Act.put, List.setIfInBounds_toArray, List.set_cons_zero, List.set_cons_succ, i64_w, i32_w]
        rfl
      refine pure_ (i := 12) (N := some 27) (v := undef) (a' := ?_) #[true, true, true, true, true, true, true, true, true, true, true, true, true, false, false, false, false, false] rfl rfl (by kernel_rfl) (fun _ _ _ h => h) (Or.inr ⟨by rfl, rfl⟩) ?_ ?_
      rotate_left
      · simp only [Act.put, List.setIfInBounds_toArray, List.set_cons_zero, List.set_cons_succ, i64_w, i32_w]
        rfl
      refine pure_ (i := 13) (N := some 28) (v := undef) (a' := ?_) #[true, true, true, true, true, true, true, true, true, true, true, true, true, true, false, false, false, false] rfl rfl (by kernel_rfl) (fun _ _ _ h => h) (Or.inr ⟨by rfl, rfl⟩) ?_ ?_
      rotate_left
      · simp only [Act.put, List.setIfInBounds_toArray, List.set_cons_zero, List.set_cons_succ, i64_w, i32_w]
        rfl
      refine pure_ (i := 14) (N := some 29) (v := undef) (a' := ?_) #[true, true, true, true, true, true, true, true, true, true, true, true, true, true, true, false, false, false] rfl rfl (by kernel_rfl) (fun _ _ _ h => h) (Or.inr ⟨by rfl, rfl⟩) ?_ ?_
      rotate_left
      · simp only [Act.put, List.setIfInBounds_toArray, List.set_cons_zero, List.set_cons_succ, i64_w, i32_w]
        rfl
      refine pure_ (i := 15) (N := some 30) (v := undef) (a' := ?_) #[true, true, true, true, true, true, true, true, true, true, true, true, true, true, true, true, false, false] rfl rfl (by kernel_rfl) (fun _ _ _ h => h) (Or.inr ⟨by rfl, rfl⟩) ?_ ?_
      rotate_left
      · simp only [Act.put, List.setIfInBounds_toArray, List.set_cons_zero, List.set_cons_succ, i64_w, i32_w]
        rfl
      refine pure_ (i := 16) (N := some 31) (v := ?_) (a' := ?_) #[true, true, true, true, true, true, true, true, true, true, true, true, true, true, true, true, true, false] rfl rfl (by kernel_rfl) (fun _ _ _ h => h) (Or.inl ⟨by rfl, ?_⟩) ?_ ?_
      rotate_left
      · intro w'
        go_simp
        with_reducible rfl
      rotate_left
      · simp only [Act.put, List.setIfInBounds_toArray, List.set_cons_zero, List.set_cons_succ, i64_w, i32_w]
        rfl
      refine pure_ (i := 17) (N := some 14) (v := ?_) (a' := ?_) #[true, true, true, true, true, true, true, true, true, true, true, true, true, true, true, true, true, true] rfl rfl (by kernel_rfl) (fun _ _ _ h => h) (Or.inl ⟨by rfl, ?_⟩) ?_ ?_
      rotate_left
      · intro w'
        go_simp
        with_reducible rfl
      rotate_left
      · simp only [Act.put, List.setIfInBounds_toArray, List.set_cons_zero, List.set_cons_succ, i64_w, i32_w]
        rfl
      refine done_ (by kernel_rfl) ?_

      have H2 := Lib.hid (show f1 + 1 < no by have h := of_decide_eq_true h2; rwa [← HW.out, HF1.out] at h)
      clear h2
      go_wp2_with fail
      go_ret
      exact Or.inr (Or.inl ⟨⟨by have := H1.out; omega, Or.inl H2.out⟩, rfl, E.out.low⟩)
end Go.Proofs.Ytbfhohpbldadbaa.P

namespace Go.Proofs.Ytbfhohpbldadbaa.P
open Go Go.RowKit Go.Proofs.YtbfhohpbldadbaaW.PrintWords Go.Proofs.YtbfhohpbldadbaaW.PrintLast Go.Proofs.YtbfhohpbldadbaaW.PrintMore
set_option linter.unusedVariables false
set_option linter.unusedSimpArgs false
/-- An end as a value, made from block B on. -/
def EndV (w : World) (B : Nat) (v : Value) (x : S61) : Prop := ∃ vo vi, v = .agg #[vo, .int .i64 x.f1, .int .i64 x.f2, vi, .bool x.f4, .int .i64 x.f5] ∧ Kd.V kL 28 w B (fun k => B ≤ k) vo x.f0 ∧ Kd.V k39 39 w B (fun k => B ≤ k) vi x.f3
/-- The value of an end that came in. -/
def vE (A0 : Option Addr) (c0 : Nat) (A3 : Option Addr) (c3 : Nat) (x : S61) : Value := .agg #[.slice A0 x.f0.length c0, .int .i64 x.f1, .int .i64 x.f2, .slice A3 x.f3.length c3, .bool x.f4, .int .i64 x.f5]
def offF (c : S61) (recs : List S39) : S61 × Int :=
  if clCheck c.f0 c.f1 c.f2 c.f5 ≠ 0 then (z61, clCheck c.f0 c.f1 c.f2 c.f5) else if recs.length = 0 then (z61, 1) else if sizedB recs.length = false ∨ c.f0.length = 64 then (z61, 2) else (⟨c.f0 ++ [recs], c.f1, c.f2, c.f3, c.f4, c.f5⟩, 0)
def Off2 (x : S61) (r : Int) (w : World) (e : Ending) (w' : World) : Prop := ∃ v, e = .returned (.tuple #[v, .int .i64 r]) ∧ EndV w' w.heap.size v x ∧ Below w.heap.size w w'
theorem EndV.zero (w : World) (B : Nat) : EndV w B (.agg #[.slice none 0 0, .int .i64 0, .int .i64 0, .slice none 0 0, .bool false, .int .i64 0]) z61 := ⟨_, _, rfl, Kd.V_nil _ _ _ _ _, Kd.V_nil _ _ _ _ _⟩
theorem six {W : World} {g t : Nat} {a0 a3 : Value} {a1 a2 a5 : Int} {a4 : Bool} (h : EBlk W g t a0 a1 a2 a3 a4 a5) (v0 : Value) (f1 f2 : Int) (v3 : Value) (f4 : Bool) (f5 : Int) :
    ∃ W', W' = (((((W.setCell ⟨g, 0, none⟩ v0).setCell ⟨g, 1, none⟩ (.int .i64 f1)).setCell ⟨g, 2, none⟩ (.int .i64 f2)).setCell ⟨g, 3, none⟩ v3).setCell ⟨g, 4, none⟩ (.bool f4)).setCell ⟨g, 5, none⟩ (.int .i64 f5) ∧ EBlk W' g t v0 f1 f2 v3 f4 f5 ∧ Fr (fun k => k = g) W W' := by
  refine ⟨_, rfl, ?_, ?_⟩
  · exact blk_put (blk_put (blk_put (blk_put (blk_put (blk_put h 0 _ rfl) 1 _ rfl) 2 _ rfl) 3 _ rfl) 4 _ rfl) 5 _ rfl
  · have tr : ∀ {A B C : World}, Fr (fun k => k = g) A B → Fr (fun k => k = g) B C → Fr (fun k => k = g) A C := fun h k => Fr.trans h k (fun _ _ h => h)
    exact tr (tr (tr (tr (tr (Fr.set W g 0 _) (Fr.set _ g 1 _)) (Fr.set _ g 2 _)) (Fr.set _ g 3 _)) (Fr.set _ g 4 _)) (Fr.set _ g 5 _)
theorem V_fr {α : Type} {d : Kd α} {e B B' : Nat} {W W' : World} {v : Value} {xs : List α} {bad : Nat → Prop} (h : Kd.V d e W B (fun k => B ≤ k) v xs) (hf : Fr bad W W') (hb : ∀ k, bad k → k < B) (hB : B' ≤ B) : Kd.V d e W' B' (fun k => B' ≤ k) v xs :=
  Kd.V_mono (Kd.V_step h (fun k hk hlt => hf.same k hlt (fun hx => by have := hb k hx; omega))) (fun k hk => Nat.le_trans hB hk)
set_option maxHeartbeats 8000000 in
set_option maxRecDepth 100000 in
theorem offer_calls (A0 : Option Addr) (c0 : Nat) (A3 : Option Addr) (c3 : Nat) (c : S61) (Ar : Option Addr) (cr : Nat) (recs : List S39) (w : World) (hr : Kd.C kL w A0 c.f0.length c.f0) (hr3 : Kd.C k39 w A3 c.f3.length c.f3) (hl : c.f3.length ≤ 1000000) (hrr : Kd.C k39 w Ar recs.length recs) :
    Calls Try.prog 35 #[vE A0 c0 A3 c3 c, .slice Ar recs.length cr] w (Off2 (offF c recs).1 (offF c recs).2 w) := by
  obtain ⟨o, f1, f2, inn, f4, f5⟩ := c
  simp only at hr hr3 hl
  unfold vE
  simp only
  obtain ⟨x, hx⟩ : ∃ x, x = (offF ⟨o, f1, f2, inn, f4, f5⟩ recs).1 := ⟨_, rfl⟩
  obtain ⟨r, hr'⟩ : ∃ r, r = (offF ⟨o, f1, f2, inn, f4, f5⟩ recs).2 := ⟨_, rfl⟩
  rw [← hx, ← hr']
  have PX := Lib.hid hx; have PR := Lib.hid hr'
  have HR := Lib.hid hr; have HR3 := Lib.hid hr3; have HL := Lib.hid hl; have HRR := Lib.hid hrr
  clear hr hr3 hl hrr hx hr'
  go_enter Try.func35, Try.ntmps35
  go_wp2_with fail
  obtain ⟨w1, hw1⟩ : ∃ w1, w1 = (w.alloc (.cells #[.slice A0 o.length c0, .int .i64 f1, .int .i64 f2, .slice A3 inn.length c3, .bool f4, .int .i64 f5] 61)).alloc (.cells #[.slice none 0 0, .int .i64 0, .int .i64 0, .slice none 0 0, .bool false, .int .i64 0] 61) := ⟨_, rfl⟩
  rw [← hw1]
  have Z := Lib.hid (show EBlk w1 (w.heap.size + 1) 61 (.slice none 0 0) 0 0 (.slice none 0 0) false 0 by rw [hw1]; have h := EBlk.new (w.alloc (.cells #[.slice A0 o.length c0, .int .i64 f1, .int .i64 f2, .slice A3 inn.length c3, .bool f4, .int .i64 f5] 61)) 61 (.slice none 0 0) (.slice none 0 0) 0 0 0 false; rwa [World.size_alloc] at h)
  have B0 := Lib.hid (show Below w.heap.size w w1 by rw [hw1]; exact al (below_one _ _) _)
  have BW := Lib.hid B0.out
  have N1 := Lib.hid (show w1.heap.size = w.heap.size + 2 by rw [hw1]; simp)
  clear hw1
  refine (edit_calls A0 c0 o f1 f2 A3 c3 inn f4 f5 w1 (Kd.C_below HR.out B0.out) (Kd.C_below HR3.out B0.out) HL.out).mono ?_
  rintro e w2 (⟨hne, rfl, hb⟩ | ⟨h0, g, vo, vi, rfl, hE⟩)
  · replace Z := Lib.hid (Z.out.below hb)
    replace B0 := Lib.hid (bb B0.out hb)
    clear hb
    have hz : (clCheck o f1 f2 f5 != 0) = true := by simpa using hne
    obtain ⟨err, herr⟩ : ∃ err, err = clCheck o f1 f2 f5 := ⟨_, rfl⟩
    rw [← herr] at hz hne ⊢
    have HE := Lib.hid herr; have HNE := Lib.hid hne
    clear herr hne
    have z0 := Z.out.c0; have z1 := Z.out.c1; have z2 := Z.out.c2; have z3 := Z.out.c3; have z4 := Z.out.c4; have z5 := Z.out.c5
    have y := blk_frozen Z.out
    go_wp2_with fail
    obtain ⟨w9, hw9, Z9, F9⟩ := six Z.out (.slice none 0 0) (0) (0) (.slice none 0 0) (false) (0)
    rw [← hw9]
    clear hw9
    obtain rfl : err = r := by rw [PR.out]; unfold offF; simp only; rw [if_pos (by rw [← HE.out]; exact HNE.out)]; exact HE.out
    obtain rfl : x = z61 := by rw [PX.out]; unfold offF; simp only; rw [if_pos (by rw [← HE.out]; exact HNE.out)]
    refine bodyPost_ret (v := .tuple #[.agg #[.slice none 0 0, .int .i64 (0), .int .i64 (0), .slice none 0 0, .bool false, .int .i64 (0)], .int .i64 (err)]) (by simp [results, Try.results35, go_sem, Z9.c0, Z9.c1, Z9.c2, Z9.c3, Z9.c4, Z9.c5]) rfl ⟨_, rfl, EndV.zero _ _, Fr.below F9 B0.out (Nat.le_refl _) (fun k hk => by omega)⟩
  · have HZ := Lib.hid h0
    have EE := Lib.hid hE
    replace Z := Lib.hid (Z.out.below hE.low)
    have B1 := Lib.hid (bb B0.out hE.low)
    replace B0 := B1
    clear h0 hE B1
    have z0 := Z.out.c0; have z1 := Z.out.c1; have z2 := Z.out.c2; have z3 := Z.out.c3; have z4 := Z.out.c4; have z5 := Z.out.c5
    have y := blk_frozen Z.out
    by_cases h1 : recs.length = 0
    · have H1 := Lib.hid h1
      go_wp2_with fail
      obtain ⟨w9, hw9, Z9, F9⟩ := six Z.out (.slice none 0 0) (0) (0) (.slice none 0 0) (false) (0)
      rw [← hw9]
      clear hw9
      obtain rfl : r = 1 := by rw [PR.out]; unfold offF; simp only; rw [if_neg (by rw [HZ.out]; simp), if_pos H1.out]
      obtain rfl : x = z61 := by rw [PX.out]; unfold offF; simp only; rw [if_neg (by rw [HZ.out]; simp), if_pos H1.out]
      refine bodyPost_ret (v := .tuple #[.agg #[.slice none 0 0, .int .i64 (0), .int .i64 (0), .slice none 0 0, .bool false, .int .i64 (0)], .int .i64 (1)]) (by simp [results, Try.results35, go_sem, Z9.c0, Z9.c1, Z9.c2, Z9.c3, Z9.c4, Z9.c5]) rfl ⟨_, rfl, EndV.zero _ _, Fr.below F9 B0.out (Nat.le_refl _) (fun k hk => by omega)⟩
    · have H1 := Lib.hid h1
      have h1b : 0 < recs.length := by omega
      clear h1
      go_wp2_with fail
      refine (sized_calls Ar recs.length cr w2).mono ?_
      rintro e w3 ⟨rfl, hb⟩
      replace EE := Lib.hid (EE.out.below hb)
      replace Z := Lib.hid (Z.out.below hb)
      replace B0 := Lib.hid (bb B0.out hb)
      clear hb z0 z1 z2 z3 z4 z5 y
      have z0 := Z.out.c0; have z1 := Z.out.c1; have z2 := Z.out.c2; have z3 := Z.out.c3; have z4 := Z.out.c4; have z5 := Z.out.c5
      have y := blk_frozen Z.out
      cases hs : sizedB recs.length
      · have HS := Lib.hid hs
        go_wp2_with fail
        obtain ⟨w9, hw9, Z9, F9⟩ := six Z.out (.slice none 0 0) (0) (0) (.slice none 0 0) (false) (0)
        rw [← hw9]
        clear hw9
        obtain rfl : r = 2 := by rw [PR.out]; unfold offF; simp only; rw [if_neg (by rw [HZ.out]; simp), if_neg H1.out, if_pos (Or.inl HS.out)]
        obtain rfl : x = z61 := by rw [PX.out]; unfold offF; simp only; rw [if_neg (by rw [HZ.out]; simp), if_neg H1.out, if_pos (Or.inl HS.out)]
        refine bodyPost_ret (v := .tuple #[.agg #[.slice none 0 0, .int .i64 (0), .int .i64 (0), .slice none 0 0, .bool false, .int .i64 (0)], .int .i64 (2)]) (by simp [results, Try.results35, go_sem, Z9.c0, Z9.c1, Z9.c2, Z9.c3, Z9.c4, Z9.c5]) rfl ⟨_, rfl, EndV.zero _ _, Fr.below F9 B0.out (Nat.le_refl _) (fun k hk => by omega)⟩
      · have HS := Lib.hid hs
        obtain ⟨Ao, ko, rfl⟩ := Kd.R_slice EE.out.out
        obtain ⟨Ai, ki, rfl⟩ := Kd.R_slice EE.out.inn
        have x0 := EE.out.blk.c0
        by_cases h6 : (o.length : Int) = 64
        · have H6 := Lib.hid h6
          go_wp2_with fail
          obtain ⟨w9, hw9, Z9, F9⟩ := six Z.out (.slice none 0 0) (0) (0) (.slice none 0 0) (false) (0)
          rw [← hw9]
          clear hw9
          obtain rfl : r = 2 := by rw [PR.out]; unfold offF; simp only; rw [if_neg (by rw [HZ.out]; simp), if_neg H1.out, if_pos (Or.inr (by have := H6.out; omega))]
          obtain rfl : x = z61 := by rw [PX.out]; unfold offF; simp only; rw [if_neg (by rw [HZ.out]; simp), if_neg H1.out, if_pos (Or.inr (by have := H6.out; omega))]
          refine bodyPost_ret (v := .tuple #[.agg #[.slice none 0 0, .int .i64 (0), .int .i64 (0), .slice none 0 0, .bool false, .int .i64 (0)], .int .i64 (2)]) (by simp [results, Try.results35, go_sem, Z9.c0, Z9.c1, Z9.c2, Z9.c3, Z9.c4, Z9.c5]) rfl ⟨_, rfl, EndV.zero _ _, Fr.below F9 B0.out (Nat.le_refl _) (fun k hk => by omega)⟩
        · have H6 := Lib.hid h6
          go_wp2_with fail
          have SZ := Lib.hid (check_sized HZ.out)
          have HSR := Lib.hid (show recs.length ≤ 1024 by have h := HS.out; unfold sizedB at h; simp only [Bool.and_eq_true, decide_eq_true_eq] at h; omega)
          replace EE := Lib.hid (show EdW w1 w3.drew g (.slice Ao o.length ko) o f1 f2 (.slice Ai inn.length ki) inn f4 f5 from EE.out.below (below_drew (Below.refl _ _)))
          replace Z := Lib.hid (show EBlk w3.drew (w.heap.size + 1) 61 (.slice none 0 0) 0 0 (.slice none 0 0) false 0 from Z.out.below (below_drew (Below.refl _ _)))
          have RR := Lib.hid (show Kd.C k39 w3.drew Ar recs.length recs from Kd.C_drew (Kd.C_below HRR.out B0.out))
          clear z0 z1 z2 z3 z4 z5 y x0 B0 h6 hs
          refine start_ (n := 14) (S := fun w' => w'.cell? ⟨g, 0, none⟩ = some (.slice Ao o.length ko)) (ds := [13]) #[false, false, false, false, false, false, false, false, false, false, false, false, false, false] (by kernel_rfl) rfl rfl (EE.out.blk.c0) (fun hHeld => ?_)
          generalize w3.drew = w4 at EE Z RR hHeld ⊢
          refine pure_ (i := 0) (N := some 37) (v := ?_) (a' := ?_) #[true, false, false, false, false, false, false, false, false, false, false, false, false, false] rfl rfl (by kernel_rfl) (fun _ _ _ h => h) (Or.inl ⟨by rfl, ?_⟩) ?_ ?_
          rotate_left
          · intro w'
            go_simp
            with_reducible rfl
          rotate_left
          · simp only [Act.put, List.setIfInBounds_toArray, List.set_cons_zero, List.set_cons_succ, i64_w, i32_w]
            rfl
          refine pure_ (i := 1) (N := some 38) (v := ?_) (a' := ?_) #[true, true, false, false, false, false, false, false, false, false, false, false, false, false] rfl rfl (by kernel_rfl) (fun _ _ _ h => h) (Or.inl ⟨by rfl, ?_⟩) ?_ ?_
          rotate_left
          · intro w'
            go_simp
            with_reducible rfl
          rotate_left
          · simp only [Act.put, List.setIfInBounds_toArray, List.set_cons_zero, List.set_cons_succ, i64_w, i32_w]
            rfl
          refine pure_ (i := 2) (N := some 39) (v := ?_) (a' := ?_) #[true, true, true, false, false, false, false, false, false, false, false, false, false, false] rfl rfl (by kernel_rfl) (fun _ _ _ h => h) (Or.inl ⟨by rfl, ?_⟩) ?_ ?_
          rotate_left
          · intro w'
            go_simp
            with_reducible rfl
          rotate_left
          · simp only [Act.put, List.setIfInBounds_toArray, List.set_cons_zero, List.set_cons_succ, i64_w, i32_w]
            rfl
          refine pure_ (i := 3) (N := some 40) (v := ?_) (a' := ?_) #[true, true, true, true, false, false, false, false, false, false, false, false, false, false] rfl rfl (by kernel_rfl) (fun _ _ _ h => h) (Or.inl ⟨by rfl, ?_⟩) ?_ ?_
          rotate_left
          · intro w'
            go_simp
            with_reducible rfl
          rotate_left
          · simp only [Act.put, List.setIfInBounds_toArray, List.set_cons_zero, List.set_cons_succ, i64_w, i32_w]
            rfl
          refine pure_ (i := 4) (N := some 41) (v := ?_) (a' := ?_) #[true, true, true, true, true, false, false, false, false, false, false, false, false, false] rfl rfl (by kernel_rfl) (fun _ _ _ h => h) (Or.inl ⟨by rfl, ?_⟩) ?_ ?_
          rotate_left
          · intro w'
            go_simp
            with_reducible rfl
          rotate_left
          · simp only [Act.put, List.setIfInBounds_toArray, List.set_cons_zero, List.set_cons_succ, i64_w, i32_w]
            rfl
          refine pure_ (i := 6) (N := some 43) (v := ?_) (a' := ?_) #[true, true, true, true, true, false, true, false, false, false, false, false, false, false] rfl rfl (by kernel_rfl) (fun _ _ _ h => h) (Or.inl ⟨by rfl, ?_⟩) ?_ ?_
          rotate_left
          · intro w'
            go_simp
            with_reducible rfl
          rotate_left
          · simp only [Act.put, List.setIfInBounds_toArray, List.set_cons_zero, List.set_cons_succ, i64_w, i32_w]
            rfl
          refine take_ (i := 5) (N := some 42) (v := ?_) (a' := ?_) #[true, true, true, true, true, true, true, false, false, false, false, false, false, false] rfl rfl (by kernel_rfl) (fun _ _ _ h => h) (Or.inl ⟨by rfl, ?_⟩) hHeld ?_ ?_
          rotate_left
          · intro w' s0
            go_simp
            with_reducible rfl
          rotate_left
          · simp only [Act.put, List.setIfInBounds_toArray, List.set_cons_zero, List.set_cons_succ, i64_w, i32_w]
            rfl
          refine one_ (i := 7) (N := some 44) #[true, true, true, true, true, true, true, true, false, false, false, false, false, false] rfl rfl (by kernel_rfl) (by decide) (fun K hK => ?_)
          refine goes_ Try.func72 (by kernel_rfl) rfl #[.slice Ar recs.length cr] (by rfl) rfl rfl (by simp only [List.map_toArray, List.map_cons, List.map_nil]; rfl) ?_
          with_reducible refine (cloneR Ar cr recs w4 RR.out (by have := HSR.out; omega)).mono ?_
          rintro e w5 ⟨v5, rfl, ho, hb⟩
          refine ⟨_, rfl, ?_⟩
          obtain ⟨Ac, kc, rfl⟩ := Kd.R_slice ho
          have E5 := Lib.hid (EE.out.below hb)
          have Z5 := Lib.hid (Z.out.below hb)
          have HC := Lib.hid (Kd.R_mono (Kd.R_newR ho EE.out.out) (ok' := fun k => some k ≠ (Value.slice Ao o.length ko).ownBlock) (fun _ h => h.2))
          clear ho hb
          refine hK.out _ _ (E5.out.blk.c0) (fun hHeld => ?_)
          clear hK K
          refine norm_ (a' := ?_) ?_ ?_
          rotate_left
          · show Act.put _ (some 44) _ = _
            simp only [Act.put, List.setIfInBounds_toArray, List.set_cons_zero, List.set_cons_succ, i64_w, i32_w]
            rfl
          refine one_ (i := 8) (N := some 45) #[true, true, true, true, true, true, true, true, true, false, false, false, false, false] rfl rfl (by kernel_rfl) (by decide) (fun K hK => ?_)
          refine value_ (w1 := ?_) (v := ?_) (by rfl) rfl ?_ ?_
          rotate_left 2
          · go_simp
            constructor
            · rfl
            · rfl
          refine hK.out _ _ ((E5.out.blk.below (below_one _ _)).c0) (fun hHeld => ?_)
          clear hK K
          refine norm_ (a' := ?_) ?_ ?_
          rotate_left
          · show Act.put _ (some 45) _ = _
            simp only [Act.put, List.setIfInBounds_toArray, List.set_cons_zero, List.set_cons_succ, i64_w, i32_w]
            rfl
          refine one_ (i := 9) (N := some 46) #[true, true, true, true, true, true, true, true, true, true, false, false, false, false] rfl rfl (by kernel_rfl) (by decide) (fun K hK => ?_)
          refine Kd.R_append_step kL (w0 := w1) (W := w5) w1.heap.size (by rfl) (.tmp 42) (.tmp 45) 59 28 (.slice none 0 0) 24 (by rfl) Try.underlying59 info28 rfl (by decide) (by decide) (.slice Ao o.length ko) o recs [.slice Ac recs.length kc] (fun _ => True) (fun k => some k ≠ (Value.slice Ao o.length ko).ownBlock) (by rfl) (by rfl) ⟨_, rfl, Kd.R_lower HC.out EE.out.low.size⟩ (fun _ h => ⟨trivial, h⟩) (fun _ _ => trivial) (Kd.R_mono E5.out.out (fun _ _ => trivial)) E5.out.low E5.out.low.size (by have := SZ.out.1; omega) ?_
          intro v6 w6 hR6 hb6 hg6 hat6
          obtain ⟨A6, k6, rfl⟩ := Kd.R_slice hR6
          have hlen : (o ++ [recs]).length = o.length + 1 := by rw [List.length_append]; rfl
          simp only [hlen] at hR6 hat6 hg6 ⊢
          clear hlen
          have E6 := Lib.hid (show EBlk w6 g 117 (.slice Ao o.length ko) f1 f2 (.slice Ai inn.length ki) f4 f5 from blk_grown E5.out.blk hg6 (Kd.R_ne E5.out.out E5.out.blk (by decide)))
          have Z6 := Lib.hid (show EBlk w6 (w.heap.size + 1) 61 (.slice none 0 0) 0 0 (.slice none 0 0) false 0 from blk_grown Z5.out hg6 (Kd.R_ne E5.out.out Z5.out (by decide)))
          have I6 := Lib.hid (Kd.R_over E5.out.inn E5.out.out (by decide) hg6)
          have O6 := Lib.hid hR6
          have B6 := Lib.hid hb6
          clear hR6 hb6 hg6 hat6
          refine hK.out _ _ (E6.out.c0) (fun hHeld => ?_)
          clear hK K
          refine norm_ (a' := ?_) ?_ ?_
          rotate_left
          · show Act.put _ (some 46) _ = _
            simp only [Act.put, List.setIfInBounds_toArray, List.set_cons_zero, List.set_cons_succ, i64_w, i32_w]
            rfl
          refine pure_ (i := 10) (N := some 47) (v := ?_) (a' := ?_) #[true, true, true, true, true, true, true, true, true, true, true, false, false, false] rfl rfl (by kernel_rfl) (fun _ _ _ h => h) (Or.inl ⟨by rfl, ?_⟩) ?_ ?_
          rotate_left
          · intro w'
            go_simp
            with_reducible rfl
          rotate_left
          · simp only [Act.put, List.setIfInBounds_toArray, List.set_cons_zero, List.set_cons_succ, i64_w, i32_w]
            rfl
          refine pure_ (i := 11) (N := some 48) (v := ?_) (a' := ?_) #[true, true, true, true, true, true, true, true, true, true, true, true, false, false] rfl rfl (by kernel_rfl) (fun _ _ _ h => h) (Or.inl ⟨by rfl, ?_⟩) ?_ ?_
          rotate_left
          · intro w'
            go_simp
            with_reducible rfl
          rotate_left
          · simp only [Act.put, List.setIfInBounds_toArray, List.set_cons_zero, List.set_cons_succ, i64_w, i32_w]
            rfl
          refine pure_ (i := 12) (N := some 49) (v := ?_) (a' := ?_) #[true, true, true, true, true, true, true, true, true, true, true, true, true, false] rfl rfl (by kernel_rfl) (fun _ _ _ h => h) (Or.inl ⟨by rfl, ?_⟩) ?_ ?_
          rotate_left
          · intro w'
            go_simp
            with_reducible rfl
          rotate_left
          · simp only [Act.put, List.setIfInBounds_toArray, List.set_cons_zero, List.set_cons_succ, i64_w, i32_w]
            rfl
          refine last_ (i := 13) (N := none) #[true, true, true, true, true, true, true, true, true, true, true, true, true, true] rfl rfl (by kernel_rfl) (by decide) (fun K hK => ?_)
          have q1 := E6.out.c0; have q2 := blk_frozen E6.out 0
          refine skip_ (w1 := ?_) (by rfl) rfl ?_ ?_
          rotate_left
          · go_simp
            rfl
          refine hK.out _ _ ?_
          clear hK K
          refine done_ (by kernel_rfl) ?_

          have E7 := Lib.hid (show EBlk (w6.setCell ⟨g, 0, none⟩ (.slice A6 (o.length + 1) k6)) g 117 (.slice A6 (o.length + 1) k6) f1 f2 (.slice Ai inn.length ki) f4 f5 from blk_put E6.out 0 _ rfl)
          have O7 := Lib.hid (Kd.R_set O6.out E6.out (by decide) 0 (.slice A6 (o.length + 1) k6))
          have I7 := Lib.hid (Kd.R_set I6.out E6.out (by decide) 0 (.slice A6 (o.length + 1) k6))
          have hgn : w.heap.size + 1 ≠ g := by have := EE.out.ge; have := N1.out; omega
          replace Z := Lib.hid (show EBlk (w6.setCell ⟨g, 0, none⟩ (.slice A6 (o.length + 1) k6)) (w.heap.size + 1) 61 (.slice none 0 0) 0 0 (.slice none 0 0) false 0 from blk_far Z6.out hgn (.slice A6 (o.length + 1) k6))
          have B7 := Lib.hid (below_set B6.out (Nat.le_refl _) EE.out.ge 0 (.slice A6 (o.length + 1) k6))
          have B0 := Lib.hid (bb BW.out B7.out)
          clear E6 O6 I6 Z6 B6 hgn
          generalize w6.setCell ⟨g, 0, none⟩ (.slice A6 (o.length + 1) k6) = w7 at E7 O7 I7 Z B7 B0 ⊢
          have x0 := E7.out.c0; have x1 := E7.out.c1; have x2 := E7.out.c2; have x3 := E7.out.c3; have x4 := E7.out.c4; have x5 := E7.out.c5
          have z0 := Z.out.c0; have z1 := Z.out.c1; have z2 := Z.out.c2; have z3 := Z.out.c3; have z4 := Z.out.c4; have z5 := Z.out.c5
          have y := blk_frozen Z.out
          go_wp2_with fail
          obtain ⟨w9, hw9, Z9, F9⟩ := six Z.out (.slice A6 (o.length + 1) k6) (f1) (f2) (.slice Ai inn.length ki) (f4) (f5)
          rw [← hw9]
          clear hw9
          obtain rfl : r = 0 := by rw [PR.out]; unfold offF; simp only; rw [if_neg (by rw [HZ.out]; simp), if_neg H1.out, if_neg (by rw [HS.out]; have := H6.out; simp; omega)]
          obtain rfl : x = ⟨o ++ [recs], f1, f2, inn, f4, f5⟩ := by rw [PX.out]; unfold offF; simp only; rw [if_neg (by rw [HZ.out]; simp), if_neg H1.out, if_neg (by rw [HS.out]; have := H6.out; simp; omega)]
          refine bodyPost_ret (v := .tuple #[.agg #[.slice A6 (o.length + 1) k6, .int .i64 (f1), .int .i64 (f2), .slice Ai inn.length ki, .bool f4, .int .i64 (f5)], .int .i64 (0)]) (by simp [results, Try.results35, go_sem, Z9.c0, Z9.c1, Z9.c2, Z9.c3, Z9.c4, Z9.c5]) rfl ⟨_, rfl, ⟨_, _, rfl, V_fr (Kd.R_V (base' := w1.heap.size) (Kd.R_mono (Kd.R_bound O7.out) (fun _ hk => hk.2.1))) F9 (fun k hk => by have := N1.out; omega) BW.out.size, V_fr (Kd.R_V (base' := w1.heap.size) (Kd.R_mono (Kd.R_bound I7.out) (fun _ hk => hk.2.1))) F9 (fun k hk => by have := N1.out; omega) BW.out.size⟩, Fr.below F9 B0.out (Nat.le_refl _) (fun k hk => by omega)⟩
end Go.Proofs.Ytbfhohpbldadbaa.P

