import Derived.Test.YtbfhohpbldadbaaPx12
namespace Go.Proofs.Ytbfhohpbldadbaa.P
open Go Go.RowKit Go.Proofs.YtbfhohpbldadbaaW.PrintWords Go.Proofs.YtbfhohpbldadbaaW.PrintLast Go.Proofs.YtbfhohpbldadbaaW.PrintMore
set_option linter.unusedVariables false
set_option linter.unusedSimpArgs false
theorem wadd_l (a b : Int) : wrap64 (wrap64 a + b) = wrap64 (a + b) := by unfold wrap64; omega
theorem wadd_r (a b : Int) : wrap64 (a + wrap64 b) = wrap64 (a + b) := by unfold wrap64; omega
theorem wsub_l (a b : Int) : wrap64 (wrap64 a - b) = wrap64 (a - b) := by unfold wrap64; omega
theorem wrap_id {n : Int} (h0 : -9223372036854775808 ≤ n) (h1 : n ≤ 9223372036854775807) : wrap64 n = n := by unfold wrap64; omega
/-- The sums of the records of a call in a role. -/
def sumU (ref role : Int) : List S39 → Int
  | [] => 0
  | r :: l => (if r.f0 = ref ∧ r.f1 = role then r.f7 else 0) + sumU ref role l
def sumS (ref role : Int) : List S39 → Int
  | [] => 0
  | r :: l => (if r.f0 = ref ∧ r.f1 = role then r.f5 - r.f4 else 0) + sumS ref role l
theorem sumU_append (ref role : Int) : ∀ (a b : List S39), sumU ref role (a ++ b) = sumU ref role a + sumU ref role b
  | [], b => by simp [sumU]
  | r :: a, b => by simp only [List.cons_append, sumU, sumU_append ref role a b]; omega
theorem sumS_append (ref role : Int) : ∀ (a b : List S39), sumS ref role (a ++ b) = sumS ref role a + sumS ref role b
  | [], b => by simp [sumS]
  | r :: a, b => by simp only [List.cons_append, sumS, sumS_append ref role a b]; omega
theorem rd39_at {bs : List S39} {i : Nat} (h : i < bs.length) : rd_T39 bs (i : Int) = bs[i] := by
  unfold rd_T39
  rw [Int.toNat_natCast]
  exact getD_at h z39
theorem total_l0 (ref role : Int) (rs : List S39) (hl : rs.length ≤ 1000000) : ∀ (d i k : Nat) (U S : Int), i + d = rs.length → d < k → meter_Total.l0 k ref role (wrap64 U) (wrap64 S) rs (rs.length : Int) (i : Int) = some (wrap64 (U + sumU ref role (rs.drop i)), wrap64 (S + sumS ref role (rs.drop i)))
  | 0, i, k + 1, U, S, hi, hk => by
    unfold meter_Total.l0
    rw [if_neg (by omega), List.drop_of_length_le (by omega)]
    simp [sumU, sumS]
  | d + 1, i, k + 1, U, S, hi, hk => by
    have hlt : i < rs.length := by omega
    unfold meter_Total.l0
    rw [if_pos (by omega), if_pos (by omega), if_pos (by omega), List.drop_eq_getElem_cons hlt, rd39_at hlt, wrap_id (n := (i : Int) + 1) (by omega) (by omega)]
    have ih := fun U' S' => total_l0 ref role rs hl d (i + 1) k U' S' (by omega) (by omega)
    rw [show ((i : Int) + 1) = ((i + 1 : Nat) : Int) from by omega]
    by_cases h1 : rs[i].f0 = ref
    · by_cases h2 : rs[i].f1 = role
      · rw [if_pos h1, if_pos h2, wadd_l, wadd_l, wadd_r, ih]
        simp only [sumU, sumS, h1, h2, and_self, if_true]
        rw [Int.add_assoc, Int.add_assoc]
      · rw [if_pos h1, if_neg h2, ih]
        simp [sumU, sumS, h2]
    · rw [if_neg h1, ih]
      simp [sumU, sumS, h1]
theorem total_eq (rs : List S39) (ref role : Int) (hl : rs.length ≤ 1000000) {k : Nat} (hk : rs.length < k) : meter_Total.f k rs ref role = some (wrap64 (sumU ref role rs), wrap64 (sumS ref role rs)) := by
  unfold meter_Total.f
  have h := total_l0 ref role rs hl rs.length 0 k 0 0 (by omega) hk
  rw [show wrap64 0 = 0 from by unfold wrap64; omega, Int.zero_add, Int.zero_add, List.drop_zero] at h
  exact h
theorem rtotal_l0 (ref role : Int) (rs : List S39) (hl : rs.length ≤ 1000000) : ∀ (d i k : Nat) (U S : Int), i + d = rs.length → d < k → crossbarref27_Total.l0 k rs ref role (wrap64 U) (wrap64 S) (i : Int) = some (wrap64 (U + sumU ref role (rs.drop i)), wrap64 (S + sumS ref role (rs.drop i)))
  | 0, i, k + 1, U, S, hi, hk => by
    unfold crossbarref27_Total.l0
    rw [if_neg (by omega), List.drop_of_length_le (by omega)]
    simp [sumU, sumS]
  | d + 1, i, k + 1, U, S, hi, hk => by
    have hlt : i < rs.length := by omega
    unfold crossbarref27_Total.l0
    rw [if_pos (by omega), if_pos (by omega), List.drop_eq_getElem_cons hlt, rd39_at hlt, wrap_id (n := (i : Int) + 1) (by omega) (by omega)]
    have ih := fun U' S' => rtotal_l0 ref role rs hl d (i + 1) k U' S' (by omega) (by omega)
    rw [show ((i : Int) + 1) = ((i + 1 : Nat) : Int) from by omega]
    by_cases h1 : rs[i].f0 = ref
    · by_cases h2 : rs[i].f1 = role
      · rw [if_pos h1, if_pos h2, wadd_l, wadd_l, wsub_l, ih]
        simp only [sumU, sumS, h1, h2, and_self, if_true]
        rw [Int.add_assoc, show S + rs[i].f5 - rs[i].f4 = S + (rs[i].f5 - rs[i].f4) from by omega, Int.add_assoc]
      · rw [if_pos h1, if_neg h2, ih]
        simp [sumU, sumS, h2]
    · rw [if_neg h1, ih]
      simp [sumU, sumS, h1]
theorem rtotal_eq (rs : List S39) (ref role : Int) (hl : rs.length ≤ 1000000) {k : Nat} (hk : rs.length < k) : crossbarref27_Total.f k rs ref role = some (wrap64 (sumU ref role rs), wrap64 (sumS ref role rs)) := by
  unfold crossbarref27_Total.f
  have h := rtotal_l0 ref role rs hl rs.length 0 k 0 0 (by omega) hk
  rw [show wrap64 0 = 0 from by unfold wrap64; omega, Int.zero_add, Int.zero_add, List.drop_zero] at h
  exact h
theorem and_range (a : Int) : 0 ≤ Go.bits .and .i64 a 65535 := by
  have h : (BitVec.ofInt 64 a &&& BitVec.ofInt 64 65535).toNat < 65536 := by
    rw [BitVec.toNat_and]
    have e : (BitVec.ofInt 64 65535).toNat = 2 ^ 16 - 1 := by decide
    rw [e, Nat.and_two_pow_sub_one_eq_mod]
    omega
  show 0 ≤ IntKind.wrap .i64 ((BitVec.ofInt 64 a &&& BitVec.ofInt 64 65535).toNat : Int)
  rw [IntKind.wrap_i64]
  generalize (BitVec.ofInt 64 a &&& BitVec.ofInt 64 65535).toNat = q at h
  omega
theorem law5_pure (l0 : List S39) (a1 a2 a3 : Int) : crossbarlaw27_MeterTotalsMatchSpecification.f 300 l0 a1 a2 a3 = some true := by
  unfold crossbarlaw27_MeterTotalsMatchSpecification.f
  rw [show crossbarlaw27_sane.f = some true from rfl, Option.bind_some, if_pos rfl]
  by_cases hl : (l0.length : Int) > 200
  · rw [if_pos hl]
  · rw [if_neg hl, total_eq l0 a1 a2 (by omega) (by omega), rtotal_eq l0 a1 a2 (by omega) (by omega), wrap_id (n := (l0.length : Int) + 1) (by omega) (by omega)]
    have hb := and_range a3
    obtain ⟨q, hq⟩ : ∃ q, q = Int.tmod (Go.bits .and .i64 a3 65535) ((l0.length : Int) + 1) := ⟨_, rfl⟩
    have h0 : 0 ≤ q := by rw [hq]; exact Int.tmod_nonneg _ hb
    have h1 : q < (l0.length : Int) + 1 := by rw [hq]; exact Int.tmod_lt_of_pos _ (by omega)
    simp only [Option.bind_some]
    rw [← hq, if_neg (by omega), if_pos h0, if_pos (by omega), total_eq _ a1 a2 (by simp; omega) (by simp; omega), Option.bind_some, total_eq _ a1 a2 (by simp; omega) (by simp; omega), Option.bind_some]
    have hs := List.take_append_drop q.toNat l0
    have hu := sumU_append a1 a2 (l0.take q.toNat) (l0.drop q.toNat)
    have hv := sumS_append a1 a2 (l0.take q.toNat) (l0.drop q.toNat)
    rw [hs] at hu hv
    simp only [if_true]
    rw [wadd_l, wadd_r, wadd_l, wadd_r, ← hu, ← hv, if_pos rfl]
    simp
theorem law5_walk (A0 : Option Addr) (c0 : Nat) (l0 : List S39) (a1 a2 a3 : Int) (w : World) (hr0 : Kd.C k39 w A0 l0.length l0) (hc0 : l0.length ≤ c0) :
    Calls Try.prog 5 #[.slice A0 l0.length c0, .int .i64 a1, .int .i64 a2, .int .i64 a3] w fun e w' => e = .returned (.bool true) ∧ Below w.heap.size w w' :=
  crossbarlaw27_MeterTotalsMatchSpecification.calls 300 A0 c0 l0 a1 a2 a3 true w hr0 hc0 (law5_pure l0 a1 a2 a3)
end Go.Proofs.Ytbfhohpbldadbaa.P
