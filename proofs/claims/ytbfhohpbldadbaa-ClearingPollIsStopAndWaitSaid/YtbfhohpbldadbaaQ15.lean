import Derived.Test.YtbfhohpbldadbaaL16
namespace Go.Proofs.Ytbfhohpbldadbaa.P
open Go Go.RowKit Go.Proofs.YtbfhohpbldadbaaW.PrintWords Go.Proofs.YtbfhohpbldadbaaW.PrintLast Go.Proofs.YtbfhohpbldadbaaW.PrintMore
set_option linter.unusedVariables false
set_option linter.unusedSimpArgs false
theorem check_make {o : List (List S39)} {f1 f2 f5 : Int} (h1 : o.length ≤ 64) (h2 : ∀ l ∈ o, 1 ≤ l.length ∧ l.length ≤ 1024) (a1 : 0 ≤ f1) (a2 : f1 ≤ 1099511627776) (b1 : 0 ≤ f2) (b2 : f2 ≤ 1099511627776) (h5 : f5 = -1 ∨ (0 < o.length ∧ 0 ≤ f5 ∧ f5 ≤ 1099511627779)) : clCheck o f1 f2 f5 = 0 := by
  unfold clCheck
  have e1 : o.any (fun l => !sizedB l.length) = false := by
    rw [List.any_eq_false]
    intro l hl
    have := h2 l hl
    simp only [sizedB, Bool.not_eq_true, Bool.not_eq_false', Bool.and_eq_true, decide_eq_true_eq]
    omega
  have e2 : oddT f1 = false := by simp [oddT]; omega
  have e3 : oddT f2 = false := by simp [oddT]; omega
  rw [e1, e2, e3, if_neg (by simp), if_neg, if_neg]
  · simp; omega
  · intro hx
    rcases h5 with rfl | ⟨ha, hb, hc⟩
    · simp at hx
    · have hr : runB o.length f5 = true := by unfold runB; simp only [Bool.and_eq_true, decide_eq_true_eq]; omega
      rw [hr] at hx; simp at hx
theorem check_odd {o : List (List S39)} {f1 f2 f5 : Int} (h : oddT f1 = true ∨ oddT f2 = true) : clCheck o f1 f2 f5 = 1 := by
  unfold clCheck
  rw [if_pos]
  rcases h with h | h <;> simp [h]
/-- What a message that is accepted makes of an end. -/
structure RecvOk (c : S61) (b : S83) (now : Int) (x : S61) : Prop where
  twice : recvF x b now = (x, 0) ∨ (recvF x b now = (z61, 1) ∧ clCheck x.f0 x.f1 x.f2 x.f5 = 1 ∧ (1099511627776 < x.f1 ∨ (x.f1 ≤ 1099511627776 ∧ 1099511627776 < x.f2)))
  pre : ∃ t, x.f3 = c.f3 ++ t ∧ t.length ≤ b.f2.length
  out : x.f0.length ≤ c.f0.length
  first : x.f1 - c.f1 = (c.f0.length : Int) - x.f0.length
  n64 : c.f0.length ≤ 64
  sized : ∀ l ∈ x.f0, l.length ≤ 1024
  f1 : 0 ≤ c.f1 ∧ c.f1 ≤ 1099511627776
theorem recv_eq {c : S61} {b : S83} {now : Int} (hc : clCheck c.f0 c.f1 c.f2 c.f5 = 0) (hv : ¬ (oddT now = true ∨ oddT b.f0 = true ∨ validBatch b = false)) : recvF c b now = if b.f1 = true then ackF c b.f0 else accF c b.f0 b.f2 := by
  unfold recvF
  rw [if_neg (by rw [hc]; simp), if_neg hv]
theorem recv_bad {c : S61} {b : S83} {now : Int} (hc : clCheck c.f0 c.f1 c.f2 c.f5 = 1) : recvF c b now = (z61, 1) := by
  unfold recvF
  rw [if_pos (by rw [hc]; simp), hc]
theorem recv_cases (c : S61) (b : S83) (now : Int) : (∃ e, recvF c b now = (z61, e) ∧ e ≠ 0) ∨ (∃ x, recvF c b now = (x, 0) ∧ RecvOk c b now x) := by
  by_cases hc : clCheck c.f0 c.f1 c.f2 c.f5 = 0
  · by_cases hv : oddT now = true ∨ oddT b.f0 = true ∨ validBatch b = false
    · refine Or.inl ⟨1, ?_, by decide⟩
      unfold recvF
      rw [if_neg (by rw [hc]; simp), if_pos hv]
    · obtain ⟨s1, s2, s3, s4, s5, s6, s7⟩ := check_sized hc
      rw [recv_eq hc hv]
      cases hb : b.f1
      · rw [if_neg (by simp)]
        unfold accF
        by_cases h1 : c.f2 < b.f0
        · rw [if_pos h1]; exact Or.inl ⟨300, rfl, by decide⟩
        · rw [if_neg h1]
          by_cases h2 : b.f0 = c.f2
          · rw [if_pos h2]
            refine Or.inr ⟨_, rfl, ⟨?_, ⟨b.f2, rfl, Nat.le_refl _⟩, Nat.le_refl _, by simp, s1, fun l hl => (s2 l hl).2, s3, s4⟩⟩
            by_cases h3 : c.f2 + 1 ≤ 1099511627776
            · left
              rw [recv_eq (c := ⟨c.f0, c.f1, c.f2 + 1, c.f3 ++ b.f2, true, c.f5⟩) (check_make s1 s2 s3 s4 (by show 0 ≤ c.f2 + 1; omega) h3 s7) hv, hb, if_neg (by simp)]
              unfold accF
              simp only
              rw [if_neg (by omega), if_neg (by omega)]
            · right
              have hk : clCheck c.f0 c.f1 (c.f2 + 1) c.f5 = 1 := check_odd (Or.inr (by simp [oddT]; omega))
              exact ⟨recv_bad hk, hk, Or.inr ⟨s4, by simp only; omega⟩⟩
          · rw [if_neg h2]
            refine Or.inr ⟨_, rfl, ⟨?_, ⟨[], by simp, by simp⟩, Nat.le_refl _, by simp, s1, fun l hl => (s2 l hl).2, s3, s4⟩⟩
            left
            rw [recv_eq (c := ⟨c.f0, c.f1, c.f2, c.f3, true, c.f5⟩) hc hv, hb, if_neg (by simp)]
            unfold accF
            simp only
            rw [if_neg h1, if_neg h2]
      · rw [if_pos rfl]
        unfold ackF
        by_cases h1 : b.f0 ≤ c.f1
        · rw [if_pos h1]
          refine Or.inr ⟨_, rfl, ⟨?_, ⟨[], by simp, by simp⟩, Nat.le_refl _, by simp, s1, fun l hl => (s2 l hl).2, s3, s4⟩⟩
          left
          rw [recv_eq hc hv, hb, if_pos rfl]
          unfold ackF
          rw [if_pos h1]
        · rw [if_neg h1]
          by_cases h2 : c.f1 + 1 < b.f0 ∨ c.f5 = -1
          · rw [if_pos h2]; exact Or.inl ⟨300, rfl, by decide⟩
          · rw [if_neg h2]
            have ho : 0 < c.f0.length := by rcases s7 with h | h <;> omega
            have sd : ∀ l ∈ c.f0.drop 1, 1 ≤ l.length ∧ l.length ≤ 1024 := fun l hl => s2 l (List.mem_of_mem_drop hl)
            refine Or.inr ⟨_, rfl, ⟨?_, ⟨[], by simp, by simp⟩, by simp, by simp only [List.length_drop]; omega, s1, fun l hl => (sd l hl).2, s3, s4⟩⟩
            by_cases h3 : c.f1 + 1 ≤ 1099511627776
            · left
              rw [recv_eq (c := ⟨c.f0.drop 1, c.f1 + 1, c.f2, c.f3, c.f4, -1⟩) (check_make (by show (c.f0.drop 1).length ≤ 64; rw [List.length_drop]; omega) sd (by show 0 ≤ c.f1 + 1; omega) h3 s5 s6 (Or.inl rfl)) hv, hb, if_pos rfl]
              unfold ackF
              simp only
              rw [if_pos (by omega)]
            · right
              have hk : clCheck (c.f0.drop 1) (c.f1 + 1) c.f2 (-1) = 1 := check_odd (Or.inl (by simp [oddT]; omega))
              exact ⟨recv_bad hk, hk, Or.inl (by simp only; omega)⟩
  · refine Or.inl ⟨clCheck c.f0 c.f1 c.f2 c.f5, ?_, hc⟩
    unfold recvF
    rw [if_pos hc]
theorem same30_l0 (o : List (List S39)) (a b : Int) (inn : List S39) (f4 : Bool) (f5 : Int) (ho : ∀ l ∈ o, l.length ≤ 1024) (hn : o.length ≤ 64) : ∀ (d i k : Nat), i + d = o.length → d + 2000 ≤ k → crossbarref30_Same.l0 k (i : Int) o a b inn f4 f5 o a b inn f4 f5 = some true
  | d, i, 0, _, hk => absurd hk (by omega)
  | 0, i, k + 1, hi, hk => by
    rw [crossbarref30_Same.l0]
    rw [if_neg (show ¬ ((i : Int) < (o.length : Int)) by omega)]
  | d + 1, i, k + 1, hi, hk => by
    rw [crossbarref30_Same.l0]
    have hi2 : i < o.length := by omega
    have e : rd_L7 o (i : Int) = o[i] := by unfold rd_L7; rw [Int.toNat_natCast]; exact getD_at hi2 _
    have hm := ho _ (List.getElem_mem hi2)
    rw [if_pos (show (i : Int) < (o.length : Int) by omega), if_pos (show (0 : Int) ≤ i by omega), if_pos (show (i : Int) < (o.length : Int) by omega), e, same_refl o[i] (by omega) k (by omega)]
    simp only [Option.bind_some, if_true]
    rw [wid (n := (i : Int) + 1) (by omega) (by omega), show ((i : Int) + 1) = ((i + 1 : Nat) : Int) by omega]
    exact same30_l0 o a b inn f4 f5 ho hn d (i + 1) k (by omega) (by omega)
theorem same30_refl (c : S61) (ho : ∀ l ∈ c.f0, l.length ≤ 1024) (hn : c.f0.length ≤ 64) (hi : c.f3.length ≤ 6000) (k : Nat) (hk : 10000 ≤ k) : crossbarref30_Same.f k c.f0 c.f1 c.f2 c.f3 c.f4 c.f5 c.f0 c.f1 c.f2 c.f3 c.f4 c.f5 = some true := by
  obtain ⟨k, rfl⟩ : ∃ a, k = a + 1 := ⟨k - 1, by omega⟩
  unfold crossbarref30_Same.f
  rw [if_pos rfl, if_pos rfl, if_pos rfl, if_neg (by simp), if_pos rfl, same_refl c.f3 (by omega) (k + 1) (by omega)]
  simp only [Option.bind_some]
  rw [crossbarref30_Same.j0]
  rw [if_neg (by simp)]
  exact same30_l0 c.f0 _ _ _ _ _ ho hn c.f0.length 0 k (by omega) (by omega)
theorem prefix_ok (a t : List S39) (ha : a.length ≤ 6000) (k : Nat) (hk : 10000 ≤ k) : crossbarlaw30_prefix.f k a (a ++ t) = some true := by
  unfold crossbarlaw30_prefix.f
  rw [if_pos (by rw [List.length_append]; omega), if_pos (by omega)]
  rw [Int.toNat_natCast, List.take_left, same_refl a (by omega) k (by omega)]
  rfl
end Go.Proofs.Ytbfhohpbldadbaa.P
