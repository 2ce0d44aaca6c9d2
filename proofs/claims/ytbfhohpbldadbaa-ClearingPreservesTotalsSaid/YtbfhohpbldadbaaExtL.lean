import Derived.Test.YtbfhohpbldadbaaExtK
import Derived.RangeFuncNested
import Derived.RangeFuncBound
import Derived.RangeFuncCalls
import Derived.RangeFuncLeaves
import Derived.Shelf.Abstract
import Derived.Shelf.RegionOpen
import Derived.WalkKit
import Derived.OwnWalkIn
import Derived.TacticsInMore
import Derived.LoopNIn
import Derived.LoopIn
namespace Go.Proofs.Ytbfhohpbldadbaa.P
open Go Go.RowKit Go.Proofs.YtbfhohpbldadbaaW.PrintWords Go.Proofs.YtbfhohpbldadbaaW.PrintLast Go.Proofs.YtbfhohpbldadbaaW.PrintMore
set_option linter.unusedVariables false
set_option linter.unusedSimpArgs false
/-- W' is W but for block bf, what is new, and blocks from N on that hold no cells. -/
structure Move (bf N : Nat) (W W' : World) : Prop where
  low : Below 0 W W'
  same : ∀ k o, W.heap[k]? = some o → k ≠ bf → (k < N ∨ o.isCells = true) → W'.heap[k]? = some o
def Holds (bf N : Nat) (I : List Int → World → Prop) : Prop := ∀ s W W', I s W → Move bf N W W' → I s W'
/-- An iterator's step: block bf alone may be another. -/
def Steady (bf : Nat) (J : List Int → World → Prop) : Prop := ∀ s W W', J s W → Fr (fun k => k = bf) W W' → J s W'
theorem Move.of_fr {bf N : Nat} {W W' : World} (h : Fr (fun k => k = bf) W W') : Move bf N W W' := ⟨h.low, fun k o hk hn _ => h.blk hk hn⟩
theorem Move.alloc (bf N : Nat) (W : World) (o : Obj) : Move bf N W (W.alloc o) := Move.of_fr (Fr.of_below (below_one W o) _)
theorem Move.put {bf N : Nat} {W : World} {l : Nat} {o : Obj} (o' : Obj) (hl : W.heap[l]? = some o) (hN : N ≤ l) (hc : o.isCells = false) : Move bf N W (W.putObj l o') :=
  ⟨⟨rfl, rfl, rfl, by simp, fun i hi => absurd hi (Nat.not_lt_zero i)⟩, fun k q hk _ hor => by
    refine (World.putObj_heap_other (fun e => ?_)).trans hk
    subst e
    rw [hl] at hk; cases hk
    rcases hor with h | h
    · omega
    · rw [hc] at h; cases h⟩
/-- The contract of 'changes' iterator, which keeps a cell of its own in block bf. -/
def Seq93 (n bf : Nat) (lb : Array Value) (Kp : World → World → Prop) (G S : List Int → Prop) (w : World) : Prop :=
  ∀ (l : Nat) (J Jx : List Int → World → Prop) (W : World), Below w.heap.size w W → Steady bf J → Steady bf Jx →
    (∀ pre x W1, J pre W1 → G (pre ++ [x]) → YieldAt Fence.wide (n - 1) Try.prog l #[.int .i64 x] W1 fun e W' =>
      (e = .returned (.bool true) ∧ J (pre ++ [x]) W' ∧ Kp W1 W') ∨ (e = .returned (.bool false) ∧ Jx (pre ++ [x]) W')) →
    J [] W →
    CallsIn Fence.wide n Try.prog 93 (#[.func (.yield l) #[] #[]] ++ lb) W fun e W' => (∃ v, e = .returned v) ∧ ((∃ xs, S xs ∧ J xs W') ∨ (∃ pre, G pre ∧ Jx pre W'))
/-- How a round of the body is left: it goes on, or it returns. -/
def Round93 (B : Nat) (Kp : World → World → Prop) (I Ix : List Int → World → Prop) (xs : List Int) (W : World) : Exit → Act → World → Prop
  | .normal, _, W' => KeepsFrom B W W' ∧ Kp W W' ∧ I xs W'
  | .ret, _, W' => KeepsFrom B W W' ∧ Ix xs W'
  | _, _, _ => False
theorem loop93 {n : Nat} {g : Operand} {p0 : Tmp} {assign body : Code} {Q : Exit → Act → World → Prop} {a : Act} {w : World} (h1 : 1 ≤ n) {lb : Array Value} (hg : a.eval g = .func (.func 93) #[] lb) (eg : Enters 93)
    {bf : Nat} (hbf : bf < w.heap.size) {Kp : World → World → Prop} {G S : List Int → Prop} {w0 : World} (hseq : Seq93 (n - 1) bf lb Kp G S w0)
    (hKt : ∀ {A B C : World}, Kp A B → Kp B C → Kp A C) (hKb : ∀ (W : World) (l : Nat) (o o' : Obj), w.heap.size ≤ l → W.heap[l]? = some o → o.isCells = false → Kp W (W.putObj l o'))
    (hb0 : Below w0.heap.size w0 w) (I Ix : List Int → World → Prop) (hI : Holds bf w.heap.size I) (hIx : Holds bf w.heap.size Ix) (h0 : I [] w) (a₁ : Int → Act)
    (hassign : ∀ (l : Nat) (x : Int) (W : World) (K : Act → World → Prop), K (a₁ x) W → assign.wpIn (Fence.wide.inRound l) (n - 1 - 1) Try.prog (Exit.then K (fun _ _ _ => False)) { tmps := a.tmps.setIfInBounds p0 (.int .i64 x), defers := [] } W)
    (hbody : ∀ (l : Nat) (pre : List Int) (x : Int) (W : World), I pre W → G (pre ++ [x]) → body.wpIn (Fence.wide.inRound l) (n - 1 - 1) Try.prog (Round93 w.heap.size Kp I Ix (pre ++ [x]) W) (a₁ x) W)
    (hdone : ∀ (D : Nat) (xs : List Int) (W : World), w.heap.size ≤ D → S xs → I xs W → W.heap[D]? = some (.deferred (some [])) → Q .normal { a with defers := { target := .collected D, args := #[] } :: a.defers } W)
    (hstop : ∀ (D : Nat) (pre : List Int) (W : World), w.heap.size ≤ D → G pre → Ix pre W → W.heap[D]? = some (.deferred (some [])) → Code.ret.wpIn Fence.wide n Try.prog Q { a with defers := { target := .collected D, args := #[] } :: a.defers } W) :
    (Code.rangeFunc g #[p0] assign body).wpIn Fence.wide n Try.prog Q a w := by
  refine wpIn_rangeFunc fun fn hfn => ?_
  obtain ⟨rec, hrec⟩ : ∃ rec : LoopState → Option Code → Loop, rec = fun st pe => { state := st, pending := pe, fn, tmps := a.tmps, params := #[p0], assign, body, defers := w.heap.size } := ⟨_, rfl⟩
  -- where the loop's own two blocks lie
  have hD : ∀ o : Obj, (w.alloc (.deferred (some []))).heap[w.heap.size]? = some (.deferred (some [])) ∧ ((w.alloc (.deferred (some []))).alloc o).heap[w.heap.size + 1]? = some o ∧ ((w.alloc (.deferred (some []))).alloc o).heap[w.heap.size]? = some (.deferred (some [])) := fun o => by
    have e1 := World.alloc_heap_new w (.deferred (some []))
    have e2 := World.alloc_heap_new (w.alloc (.deferred (some []))) o
    rw [World.size_alloc] at e2
    exact ⟨e1, e2, (Below.heap_alloc _ _ _ (by simp)).trans e1⟩
  obtain ⟨W1, hW1⟩ : ∃ W1, (w.alloc (.deferred (some []))).alloc (.loop (rec .ready none)) = W1 := ⟨_, rfl⟩
  have hL1 : W1.heap[w.heap.size + 1]? = some (.loop (rec .ready none)) := by rw [← hW1]; exact (hD _).2.1
  have hK1 : W1.heap[w.heap.size]? = some (.deferred (some [])) := by rw [← hW1]; exact (hD _).2.2
  have hI1 : I [] W1 := by rw [← hW1]; exact hI _ _ _ (hI _ _ _ h0 (Move.alloc _ _ _ _)) (Move.alloc _ _ _ _)
  have hb1 : Below w0.heap.size w0 W1 := by rw [← hW1]; exact bb hb0 (al (below_one w _) _)
  refine ⟨w.heap.size + 1, [{ target := .collected w.heap.size, args := #[] }], W1, { target := .fn (.func 93) lb, args := #[.func (.yield (w.heap.size + 1)) #[] #[]] }, W1, 93,
    #[.func (.yield (w.heap.size + 1)) #[] #[]] ++ lb, W1, ?_, ?_, fun _ _ => trivial, ?_, fun _ => h1, ?_⟩
  · rw [← hW1, hrec]; exact run_enterLoop_outer _ _ _ _ _
  · simp only [resolve, hg]
    simp [go_sem]
  · simp [invoke, go_sem, eg _ _]
  · refine (hseq (w.heap.size + 1)
      (fun pre W => I pre W ∧ W.heap[w.heap.size + 1]? = some (.loop (rec .ready none)) ∧ W.heap[w.heap.size]? = some (.deferred (some [])))
      (fun pre W => Ix pre W ∧ W.heap[w.heap.size + 1]? = some (.loop (rec .done (some .ret))) ∧ W.heap[w.heap.size]? = some (.deferred (some [])))
      W1 hb1
      (fun s A B hs hf => ⟨hI _ _ _ hs.1 (Move.of_fr hf), hf.blk hs.2.1 (by omega), hf.blk hs.2.2 (by omega)⟩)
      (fun s A B hs hf => ⟨hIx _ _ _ hs.1 (Move.of_fr hf), hf.blk hs.2.1 (by omega), hf.blk hs.2.2 (by omega)⟩)
      ?_ ⟨hI1, hL1, hK1⟩).mono ?_
    · rintro pre x W ⟨hi, hl, hk⟩ hG
      have hy : (Instr.yield (w.heap.size + 1) #[.int .i64 x]).run Try.prog W = .ok (.round (w.heap.size + 1) fn (a.tmps.setIfInBounds p0 (.int .i64 x)) assign body) W := by
        have := run_yield (P := Try.prog) (args := #[.int .i64 x]) hl (by rw [hrec]; rfl)
        rw [hrec] at this
        simpa using this
      refine ⟨fn, _, assign, body, hy, roundIn_of_wpIn hfn ?_⟩
      refine hassign _ x W _ ?_
      refine ⟨_, run_beginRound hl (by rw [hrec]), ?_⟩
      obtain ⟨W2, hW2⟩ : ∃ W2, W2 = W.putObj (w.heap.size + 1) (.loop { rec .ready none with state := .busy }) := ⟨_, rfl⟩
      rw [← hW2]
      have hl2 : W2.heap[w.heap.size + 1]? = some (.loop { rec .ready none with state := .busy }) := by rw [hW2]; exact World.putObj_heap_same (heap_lt hl)
      have hk2 : W2.heap[w.heap.size]? = some (.deferred (some [])) := by rw [hW2]; exact (World.putObj_heap_other (by omega)).trans hk
      have hp2 : Kp W W2 := by rw [hW2]; exact hKb _ _ _ _ (by omega) hl rfl
      have hi2 : I pre W2 := by rw [hW2]; exact hI _ _ _ hi (Move.put _ hl (by omega) rfl)
      clear hW2
      have fin : ∀ (jump : Option Code) (W3 : World), KeepsFrom w.heap.size W2 W3 → ∃ W4, W4 = W3.putObj (w.heap.size + 1) (.loop (rec (if jump.isNone then .ready else .done) jump)) ∧
          (Instr.endRound (w.heap.size + 1) jump).run Try.prog W3 = .ok (.bool jump.isNone) W4 ∧ Move bf w.heap.size W3 W4 ∧ Kp W3 W4 ∧
          W4.heap[w.heap.size + 1]? = some (.loop (rec (if jump.isNone then .ready else .done) jump)) ∧ W4.heap[w.heap.size]? = some (.deferred (some [])) := fun jump W3 hk3 => by
        have hl3 := hk3.same _ _ (by omega) hl2 rfl
        have hr := run_endRound (P := Try.prog) jump hl3
        rw [hrec] at hr hl3 ⊢
        exact ⟨_, rfl, hr, Move.put _ hl3 (by omega) rfl, hKb _ _ _ _ (by omega) hl3 rfl, World.putObj_heap_same (heap_lt hl3), (World.putObj_heap_other (by omega)).trans (hk3.same _ _ (Nat.le_refl _) hk2 rfl)⟩
      refine wpIn_mono (hbody _ pre x W2 hi2 hG) ?_
      rintro e a3 W3 hp
      cases e with
      | normal =>
        obtain ⟨hk3, hkp3, hi3⟩ := hp
        obtain ⟨W4, _, hr, hm, hkp, hl4, hk4⟩ := fin none W3 hk3
        exact ⟨_, _, hr, .inl ⟨rfl, ⟨hI _ _ _ hi3 hm, hl4, hk4⟩, hKt (hKt hp2 hkp3) hkp⟩⟩
      | ret =>
        obtain ⟨hk3, hi3⟩ := hp
        obtain ⟨W4, _, hr, hm, hkp, hl4, hk4⟩ := fin (some .ret) W3 hk3
        exact ⟨_, _, hr, .inr ⟨rfl, hIx _ _ _ hi3 hm, hl4, hk4⟩⟩
      | exit id => exact hp.elim
      | goto t => exact hp.elim
      | panic ch => exact hp.elim
      | outgrown => exact hp.elim
    · rintro e W2 ⟨⟨v, rfl⟩, (⟨xs, hS, hi, hl, hk⟩ | ⟨pre, hSp, hi, hl, hk⟩)⟩
      · exact ⟨none, _, by have := run_endLoop (P := Try.prog) hl (by rw [hrec]; simp); rw [hrec] at this; exact this, hdone _ xs _ (Nat.le_refl _) hS (hI _ _ _ hi (Move.put _ hl (by omega) rfl)) ((World.putObj_heap_other (by omega)).trans hk)⟩
      · exact ⟨some .ret, _, by have := run_endLoop (P := Try.prog) hl (by rw [hrec]; simp); rw [hrec] at this; exact this, hstop _ pre _ (Nat.le_refl _) hSp (hIx _ _ _ hi (Move.put _ hl (by omega) rfl)) ((World.putObj_heap_other (by omega)).trans hk)⟩
end Go.Proofs.Ytbfhohpbldadbaa.P
