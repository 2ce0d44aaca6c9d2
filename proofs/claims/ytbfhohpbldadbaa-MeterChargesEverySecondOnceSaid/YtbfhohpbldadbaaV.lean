import Derived.Test.YtbfhohpbldadbaaExt
import Derived.Test.YtbfhohpbldadbaaPx4
namespace Go.Proofs.Ytbfhohpbldadbaa.P
open Go Go.RowKit Go.Proofs.YtbfhohpbldadbaaW.PrintWords Go.Proofs.YtbfhohpbldadbaaW.PrintLast Go.Proofs.YtbfhohpbldadbaaW.PrintMore
set_option linter.unusedVariables false
set_option linter.unusedSimpArgs false
theorem few_exit (l : List S33) (bs : List S110) (k : Nat) (i : Int) : ∃ b, crossbarref27_Few.j1 (k + 1) l i false bs = some b ∧ (b = true → l.length ≤ 40) := by
  unfold crossbarref27_Few.j1
  rw [if_neg (by decide)]
  by_cases h : (l.length : Int) ≤ 40
  · rw [if_pos h]
    exact ⟨_, rfl, fun _ => by omega⟩
  · rw [if_neg h]
    exact ⟨false, rfl, fun h => by cases h⟩
theorem few_l0 (l : List S33) (bs : List S110) : ∀ (n i k : Nat), i + n = 40 → 2 * n + 2 ≤ k → ∃ b, crossbarref27_Few.l0 k l (i : Int) bs = some b ∧ (b = true → l.length ≤ 40)
  | n, i, 0, hi, hk => by omega
  | n, i, 1, hi, hk => by omega
  | n, i, k + 2, hi, hk => by
    unfold crossbarref27_Few.l0
    by_cases hlt : (i : Int) < (l.length : Int)
    · rw [if_pos hlt]
      cases n with
      | zero =>
        rw [show decide ((i : Int) < 40) = false from by simp; omega]
        exact few_exit l bs k i
      | succ n =>
        rw [show decide ((i : Int) < 40) = true from by simp; omega]
        unfold crossbarref27_Few.j1
        rw [if_pos rfl, if_pos (by omega), if_pos hlt]
        split
        · exact ⟨false, rfl, fun h => by cases h⟩
        · rw [wr (by omega) (by omega), show ((i : Int) + 1) = ((i + 1 : Nat) : Int) from by omega]
          exact few_l0 l bs n (i + 1) k (by omega) (by omega)
    · rw [if_neg hlt]
      exact few_exit l bs k i
theorem few_ex (l : List S33) (bs : List S110) : ∃ b, (∀ k, 100 ≤ k → crossbarref27_Few.f k l bs = some b) ∧ (b = true → l.length ≤ 40) := by
  obtain ⟨b, hb, hl⟩ := few_l0 l bs 40 0 100 (by omega) (by omega)
  refine ⟨b, fun k hk => ?_, hl⟩
  obtain ⟨d, rfl⟩ : ∃ d, k = 100 + d := ⟨k - 100, by omega⟩
  have h : ∀ d, crossbarref27_Few.f (100 + d) l bs = some b := by
    intro d
    induction d with
    | zero => exact hb
    | succ d ih => exact crossbarref27_Few.mono l bs (100 + d) b ih
  exact h d
theorem rd33_at {bs : List S33} {i : Nat} (h : i < bs.length) : rd_T33 bs (i : Int) = bs[i] := by
  unfold rd_T33
  rw [Int.toNat_natCast]
  exact getD_at h z33
theorem same_l0 (l : List S33) (hl : l.length ≤ 1000000) : ∀ (d i k : Nat), i + d = l.length → d < k → crossbarref27_SameMeters.l0 k l l (i : Int) = some true
  | 0, i, k + 1, hi, hk => by
    unfold crossbarref27_SameMeters.l0
    rw [if_neg (by omega)]
  | d + 1, i, k + 1, hi, hk => by
    unfold crossbarref27_SameMeters.l0
    rw [if_pos (by omega), if_pos (by omega), if_pos (by omega), if_neg (by simp), wr (by omega) (by omega), show ((i : Int) + 1) = ((i + 1 : Nat) : Int) from by omega]
    exact same_l0 l hl d (i + 1) k (by omega) (by omega)
theorem same_self (l : List S33) (hl : l.length ≤ 1000000) {k : Nat} (hk : l.length < k) : crossbarref27_SameMeters.f k l l = some true := by
  unfold crossbarref27_SameMeters.f
  rw [if_pos rfl]
  exact same_l0 l hl l.length 0 k (by omega) hk
/-! ### Start's second call -/
theorem hasK_append (k : Int × Int) (a b : List (Int × Int)) : hasK k (a ++ b) = (hasK k a || hasK k b) := by simp [hasK]
theorem valid_snoc : ∀ (l : List S33) (ks : List (Int × Int)) (m : S33), validFrom ks (l ++ [m]) = (validFrom ks l && okOne m && !hasK (kM m) (ks ++ l.map kM))
  | [], ks, m => by simp [validFrom]
  | x :: l, ks, m => by
    simp only [List.cons_append, validFrom, valid_snoc l (ks ++ [kM x]) m, List.map_cons, List.append_assoc, List.singleton_append]
    cases okOne x <;> cases hasK (kM x) ks <;> simp
theorem sameM_hasK (m : S33) : ∀ (l : List S33), hasK (kM m) (l.map kM) = l.any (sameM m)
  | [] => rfl
  | x :: l => by
    have ih := sameM_hasK m l
    unfold hasK at ih ⊢
    simp only [List.map_cons, List.any_cons, ih]
    have e : ((kM m).1 == (kM x).1 && (kM m).2 == (kM x).2) = sameM m x := by
      simp only [kM, sameM]
      rw [Bool.beq_comm (a := m.f0), Bool.beq_comm (a := m.f1)]
    rw [e]
theorem start_again {l : List S33} {m : S33} (h : (startF l m).2 = 0) : startF l m = (l ++ [m], 0) ∧ startF (l ++ [m]) m = ([], 270) := by
  unfold startF at h
  by_cases h1 : (validB l && validB [m]) = true
  · rw [if_pos h1] at h
    by_cases h2 : l.any (sameM m) = true
    · rw [if_pos h2] at h; cases h
    · rw [if_neg h2] at h
      by_cases h3 : decide ((1024 : Int) ≤ l.length) = true
      · rw [if_pos h3] at h; cases h
      · refine ⟨by unfold startF; rw [if_pos h1, if_neg h2, if_neg h3], ?_⟩
        simp only [Bool.and_eq_true] at h1
        have hv : validB (l ++ [m]) = true := by
          unfold validB
          rw [valid_snoc]
          have h1a := h1.1
          have h1b := h1.2
          unfold validB at h1a h1b
          simp only [validFrom, Bool.and_eq_true] at h1b
          simp only [List.nil_append, sameM_hasK]
          simp [h1a, h1b.1.1, h2]
        unfold startF
        rw [if_pos (by rw [hv, h1.2]; rfl), if_pos (by simp [sameM])]
  · rw [if_neg h1] at h; cases h
theorem start_err (l : List S33) (m : S33) (hl : l.length ≤ 40) (h : (startF l m).2 ≠ 0) : (startF l m).1 = [] ∧ ((startF l m).2 = 1 ∨ (startF l m).2 = 270) := by
  unfold startF at h ⊢
  by_cases h1 : (validB l && validB [m]) = true
  · rw [if_pos h1] at h ⊢
    by_cases h2 : l.any (sameM m) = true
    · rw [if_pos h2]; exact ⟨rfl, .inr rfl⟩
    · rw [if_neg h2] at h ⊢
      rw [if_neg (by simp; omega)] at h
      exact absurd rfl h
  · rw [if_neg h1]; exact ⟨rfl, .inl rfl⟩
end Go.Proofs.Ytbfhohpbldadbaa.P
