import Derived.Test.YtbfhohpbldadbaaCl8
import Derived.Test.YtbfhohpbldadbaaPx18
namespace Go.Proofs.Ytbfhohpbldadbaa.P
open Go Go.RowKit Go.Proofs.YtbfhohpbldadbaaW.PrintWords Go.Proofs.YtbfhohpbldadbaaW.PrintLast Go.Proofs.YtbfhohpbldadbaaW.PrintMore
set_option linter.unusedVariables false
set_option linter.unusedSimpArgs false
theorem few30_l0 (o : List (List S39)) (a b : Int) (inn : List S39) (f4 : Bool) (f5 : Int) : ∀ (d i k : Nat) (n : Int), i + d = 80 → d + 1 ≤ k → ∃ r, crossbarref30_Few.l0 k n (i : Int) o a b inn f4 f5 = some r
  | d, i, 0, n, _, hk => absurd hk (by omega)
  | 0, i, k + 1, n, hi, _ => by
    unfold crossbarref30_Few.l0
    have : ¬ ((i : Int) < 80) := by omega
    split
    · split <;> exact ⟨_, rfl⟩
    · split <;> exact ⟨_, rfl⟩
  | d + 1, i, k + 1, n, hi, hk => by
    unfold crossbarref30_Few.l0
    split
    · rw [if_pos (show (i : Int) < 80 by omega), if_pos (show (0 : Int) ≤ i by omega), wid (n := (i : Int) + 1) (by omega) (by omega), show ((i : Int) + 1) = ((i + 1 : Nat) : Int) by omega]
      exact few30_l0 o a b inn f4 f5 d (i + 1) k _ (by omega) (by omega)
    · split <;> exact ⟨_, rfl⟩
theorem few30_ex (c : S61) : ∃ r, crossbarref30_Few.f 100 c.f0 c.f1 c.f2 c.f3 c.f4 c.f5 = some r := few30_l0 _ _ _ _ _ _ 80 0 100 _ rfl (by omega)
theorem few30_t0 (o : List (List S39)) (a b : Int) (inn : List S39) (f4 : Bool) (f5 : Int) (ho : ∀ l ∈ o, l.length ≤ 2000000000000) : ∀ (k i : Nat) (n : Int), i ≤ 80 → 0 ≤ n → n + 2000000000000 * (80 - i : Int) ≤ 9000000000000000000 → crossbarref30_Few.l0 k n (i : Int) o a b inn f4 f5 = some true → n ≤ 4000
  | 0, i, n, _, _, _, h => by simp [crossbarref30_Few.l0] at h
  | k + 1, i, n, hi, h0, hn, h => by
    unfold crossbarref30_Few.l0 at h
    split at h
    · next hlt =>
      split at h
      · next h80 =>
        rw [if_pos (show (0 : Int) ≤ i by omega)] at h
        have hm : (rd_L7 o (i : Int)).length ≤ 2000000000000 := by
          have hi2 : i < o.length := by omega
          have e : rd_L7 o (i : Int) = o[i] := by unfold rd_L7; rw [Int.toNat_natCast]; exact getD_at hi2 _
          rw [e]; exact ho _ (List.getElem_mem hi2)
        generalize (rd_L7 o (i : Int)).length = m at h hm
        rw [wid (n := n + (m : Int)) (by omega) (by omega), wid (n := (i : Int) + 1) (by omega) (by omega), show ((i : Int) + 1) = ((i + 1 : Nat) : Int) by omega] at h
        have := few30_t0 o a b inn f4 f5 ho k (i + 1) (n + m) (by omega) (by omega) (by omega) h
        omega
      · split at h
        · simpa using h
        · simp at h
    · split at h
      · simpa using h
      · simp at h
theorem few30_true {c : S61} (hin : c.f3.length ≤ 2000000000000) (hout : ∀ l ∈ c.f0, l.length ≤ 2000000000000) (h : crossbarref30_Few.f 100 c.f0 c.f1 c.f2 c.f3 c.f4 c.f5 = some true) : c.f3.length ≤ 4000 := by
  have := few30_t0 c.f0 c.f1 c.f2 c.f3 c.f4 c.f5 hout 100 0 c.f3.length (by omega) (by omega) (by omega) h
  omega
theorem same_l0 (a : List S39) (hl : a.length ≤ 2000000) : ∀ (d i k : Nat), i + d = a.length → d + 1 ≤ k → crossbarref30_SameRecords.l0 k a a (i : Int) = some true
  | d, i, 0, _, hk => absurd hk (by omega)
  | 0, i, k + 1, hi, _ => by
    unfold crossbarref30_SameRecords.l0
    rw [if_neg (show ¬ ((i : Int) < (a.length : Int)) by omega)]
  | d + 1, i, k + 1, hi, hk => by
    unfold crossbarref30_SameRecords.l0
    rw [if_pos (show (i : Int) < (a.length : Int) by omega), if_pos (show (0 : Int) ≤ i by omega), if_pos (show (i : Int) < (a.length : Int) by omega), if_neg (by simp), wid (n := (i : Int) + 1) (by omega) (by omega), show ((i : Int) + 1) = ((i + 1 : Nat) : Int) by omega]
    exact same_l0 a hl d (i + 1) k (by omega) (by omega)
theorem same_refl (a : List S39) (hl : a.length ≤ 2000000) (k : Nat) (hk : a.length + 1 ≤ k) : crossbarref30_SameRecords.f k a a = some true := by
  unfold crossbarref30_SameRecords.f
  rw [if_pos rfl]
  exact same_l0 a hl a.length 0 k (by omega) (by omega)
/-- An end in a box, as it reads. -/
structure HX (W : World) (t : Nat) (A0 : Option Addr) (c0 : Nat) (A3 : Option Addr) (c3 : Nat) (x : S61) : Prop where
  blk : EBlk W t 61 (.slice A0 x.f0.length c0) x.f1 x.f2 (.slice A3 x.f3.length c3) x.f4 x.f5
  o : Kd.C kL W A0 x.f0.length x.f0
  lo : x.f0.length ≤ c0
  i : Kd.C k39 W A3 x.f3.length x.f3
  li : x.f3.length ≤ c3
theorem HX.below {W W' : World} {t : Nat} {A0 : Option Addr} {c0 : Nat} {A3 : Option Addr} {c3 : Nat} {x : S61} (h : HX W t A0 c0 A3 c3 x) (hb : Below W.heap.size W W') : HX W' t A0 c0 A3 c3 x :=
  ⟨h.blk.below hb, Kd.C_below h.o hb, h.lo, Kd.C_below h.i hb, h.li⟩
theorem HX.new (W : World) {A0 : Option Addr} {c0 : Nat} {A3 : Option Addr} {c3 : Nat} {x : S61} (ho : Kd.C kL W A0 x.f0.length x.f0) (lo : x.f0.length ≤ c0) (hi : Kd.C k39 W A3 x.f3.length x.f3) (li : x.f3.length ≤ c3) :
    HX (W.alloc (.cells #[.slice A0 x.f0.length c0, .int .i64 x.f1, .int .i64 x.f2, .slice A3 x.f3.length c3, .bool x.f4, .int .i64 x.f5] 61)) W.heap.size A0 c0 A3 c3 x :=
  ⟨EBlk.new _ _ _ _ _ _ _ _, Kd.C_below ho (below_one _ _), lo, Kd.C_below hi (below_one _ _), li⟩
theorem EndV.outx {w : World} {B : Nat} {v : Value} {x : S61} (h : EndV w B v x) : ∃ A0 c0 A3 c3, v = .agg #[.slice A0 x.f0.length c0, .int .i64 x.f1, .int .i64 x.f2, .slice A3 x.f3.length c3, .bool x.f4, .int .i64 x.f5] ∧ Kd.C kL w A0 x.f0.length x.f0 ∧ x.f0.length ≤ c0 ∧ Kd.C k39 w A3 x.f3.length x.f3 ∧ x.f3.length ≤ c3 := by
  obtain ⟨vo, vi, rfl, hO, hI⟩ := h
  obtain ⟨A0, c0, rfl⟩ := Kd.V_slice hO
  obtain ⟨A3, c3, rfl⟩ := Kd.V_slice hI
  exact ⟨A0, c0, A3, c3, rfl, (Kd.V_reads' hO).2.2, (Kd.V_reads' hO).2.1, (Kd.V_reads' hI).2.2, (Kd.V_reads' hI).2.1⟩
theorem check_app {o : List (List S39)} {f1 f2 f5 : Int} {recs : List S39} (h : clCheck o f1 f2 f5 = 0) (hs : sizedB recs.length = true) (hn : o.length ≠ 64) : clCheck (o ++ [recs]) f1 f2 f5 = 0 := by
  obtain ⟨h1, h2, h3, h4, h5, h6, h7⟩ := check_sized h
  unfold clCheck
  have e1 : (o ++ [recs]).any (fun l => !sizedB l.length) = false := by
    rw [List.any_append, List.any_cons, hs]
    simp only [List.any_nil, Bool.or_false, Bool.not_true]
    rw [List.any_eq_false]
    intro l hl
    have := h2 l hl
    simp only [sizedB, Bool.not_eq_true, Bool.not_eq_false', Bool.and_eq_true, decide_eq_true_eq]
    omega
  have e2 : oddT f1 = false := by simp [oddT]; omega
  have e3 : oddT f2 = false := by simp [oddT]; omega
  rw [e1, e2, e3, if_neg (by simp), if_neg, if_neg]
  · simp; omega
  · intro hx
    rcases h7 with rfl | ⟨ha, hb, hc⟩
    · simp at hx
    · simp [runB] at hx; omega
/-- Offer refuses, or appends. -/
theorem off_cases (c : S61) (recs : List S39) : (∃ e, offF c recs = (z61, e) ∧ e ≠ 0 ∧ (clCheck c.f0 c.f1 c.f2 c.f5 = 0 → (recs.length = 0 ∧ e = 1) ∨ (e = 2 ∧ recs.length ≠ 0 ∧ ((1024 : Int) < recs.length ∨ c.f0.length = 64)))) ∨ (offF c recs = (⟨c.f0 ++ [recs], c.f1, c.f2, c.f3, c.f4, c.f5⟩, 0) ∧ clCheck c.f0 c.f1 c.f2 c.f5 = 0 ∧ recs.length ≠ 0 ∧ sizedB recs.length = true ∧ c.f0.length ≠ 64) := by
  unfold offF
  split
  · next h => exact Or.inl ⟨_, rfl, h, fun h0 => absurd h0 h⟩
  · next h =>
    split
    · next h1 => exact Or.inl ⟨1, rfl, by decide, fun _ => Or.inl ⟨h1, rfl⟩⟩
    · next h1 =>
      split
      · next h2 =>
        refine Or.inl ⟨2, rfl, by decide, fun _ => Or.inr ⟨rfl, h1, ?_⟩⟩
        rcases h2 with h2 | h2
        · left
          simp only [sizedB, Bool.and_eq_false_iff, decide_eq_false_iff_not] at h2
          omega
        · exact Or.inr h2
      · next h2 =>
        have h0 : clCheck c.f0 c.f1 c.f2 c.f5 = 0 := Decidable.not_not.1 h
        refine Or.inr ⟨rfl, h0, h1, ?_, ?_⟩
        · cases hs : sizedB recs.length
          · exact absurd (Or.inl hs) h2
          · rfl
        · exact fun hx => h2 (Or.inr hx)
theorem dec_lt {a b : Int} (h : a < b) : decide (a < b) = true := decide_eq_true h
end Go.Proofs.Ytbfhohpbldadbaa.P
