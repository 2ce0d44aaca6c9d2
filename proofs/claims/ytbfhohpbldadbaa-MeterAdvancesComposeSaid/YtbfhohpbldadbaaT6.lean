import Derived.Test.YtbfhohpbldadbaaCmp
import Derived.Test.YtbfhohpbldadbaaPx13
namespace Go.Proofs.Ytbfhohpbldadbaa.P
open Go Go.RowKit Go.Proofs.YtbfhohpbldadbaaW.PrintWords Go.Proofs.YtbfhohpbldadbaaW.PrintLast Go.Proofs.YtbfhohpbldadbaaW.PrintMore
set_option linter.unusedVariables false
set_option linter.unusedSimpArgs false
theorem l60_ok (l : List S33) (hl : l.length ≤ 40) (all both : List S39) (ha : all.length ≤ 1000000) (hb : both.length ≤ 1000000) (hs : ∀ ref role, sumU ref role both = sumU ref role all ∧ sumS ref role both = sumS ref role all) : ∀ (d i k : Nat), i + d = l.length → d + all.length + both.length < k → crossbarlaw27_MeterAdvancesCompose.l0 k l all both (i : Int) = some true
  | 0, i, k + 1, hi, hk => by
    unfold crossbarlaw27_MeterAdvancesCompose.l0
    rw [if_neg (by omega)]
  | d + 1, i, k + 1, hi, hk => by
    have ih := l60_ok l hl all both ha hb hs d (i + 1) k (by omega) (by omega)
    unfold crossbarlaw27_MeterAdvancesCompose.l0
    rw [if_pos (by omega), if_pos (by omega), total_eq both _ _ hb (by omega), Option.bind_some, total_eq all _ _ ha (by omega), Option.bind_some, (hs _ _).1, (hs _ _).2, if_pos rfl, if_pos rfl, wr (n := (i : Int) + 1) (by omega) (by omega), show ((i : Int) + 1) = ((i + 1 : Nat) : Int) from by omega]
    exact ih
theorem adv_f (l : List S33) (bs : List S110) (now : Int) (hl : l.length ≤ 1000000) : meter_Advance.f l bs now = some (advanceF l bs (nxB bs) (rtB bs) now (chkB bs)) := by
  unfold meter_Advance.f; rw [if_pos hl]
theorem advF_len (l : List S33) (bs : List S110) (now : Int) : (advanceF l bs (nxB bs) (rtB bs) now (chkB bs)).1.length ≤ l.length := by
  unfold advanceF
  split
  · split
    · simp
    · have := advFold_n bs (nxB bs) (rtB bs) now l ([], [])
      unfold advFold
      simp only [List.length_nil, Nat.zero_add] at this
      simp only
      omega
  · simp
/-- What Advance answers: refused, too many records, or the cut meters with the records. -/
theorem adv_cases (l : List S33) (bs : List S110) (now : Int) :
    ((advanceF l bs (nxB bs) (rtB bs) now (chkB bs)).2.2 ≠ 0) ∨
    (validB l = true ∧ (0 ≤ now ∧ now ≤ 1099511627776) ∧ (∀ m ∈ l, m.f4 ≤ now) ∧ chkB bs = 0 ∧ (l.flatMap (cutR bs now)).length ≤ 1024 ∧ advanceF l bs (nxB bs) (rtB bs) now (chkB bs) = (l.map (cutM bs now), l.flatMap (cutR bs now), 0)) := by
  unfold advanceF
  by_cases hz : beginF l now (fun _ => true) (chkB bs) = 0
  · rw [if_pos hz]
    obtain ⟨hv, hnow, hla, hc⟩ := begin_ok hz
    by_cases hfull : 1024 < (advFold bs (nxB bs) (rtB bs) now l).2.length
    · rw [if_pos hfull]; exact .inl (by decide)
    · rw [if_neg hfull]
      have hg : advFold bs (nxB bs) (rtB bs) now l = _ := adv_good (bs := bs) (now := now) l ([], []) (by unfold advFold at hfull; omega)
      refine .inr ⟨hv, hnow, fun m hm => late_le hla hm rfl, hc, ?_, ?_⟩
      · rw [hg] at hfull; simp only [List.nil_append] at hfull; omega
      · rw [hg]; simp only [List.nil_append]
  · rw [if_neg hz]; exact .inl hz
/-- What Advance answers when its beginning is good. -/
theorem adv_begun {l : List S33} {bs : List S110} {now : Int} (hz : beginF l now (fun _ => true) (chkB bs) = 0) :
    (1024 < (l.flatMap (cutR bs now)).length ∧ advanceF l bs (nxB bs) (rtB bs) now (chkB bs) = ([], [], 2)) ∨
    ((l.flatMap (cutR bs now)).length ≤ 1024 ∧ advanceF l bs (nxB bs) (rtB bs) now (chkB bs) = (l.map (cutM bs now), l.flatMap (cutR bs now), 0)) := by
  unfold advanceF
  rw [if_pos hz]
  by_cases hfull : 1024 < (advFold bs (nxB bs) (rtB bs) now l).2.length
  · rw [if_pos hfull]
    refine .inl ⟨?_, rfl⟩
    rcases Nat.lt_or_ge 1024 (l.flatMap (cutR bs now)).length with h | h
    · exact h
    · have := adv_fit (bs := bs) (now := now) l ([], []) (by simpa using h)
      unfold advFold at hfull
      omega
  · rw [if_neg hfull]
    have hg : advFold bs (nxB bs) (rtB bs) now l = _ := adv_good (bs := bs) (now := now) l ([], []) (by unfold advFold at hfull; omega)
    refine .inr ⟨?_, ?_⟩
    · rw [hg] at hfull; simp only [List.nil_append] at hfull; omega
    · rw [hg]; simp only [List.nil_append]
theorem law6_pure (k : Nat) (hk : 9000 ≤ k) (l : List S33) (bs : List S110) (now wait : Int) (hnowr : -9223372036854775808 ≤ now ∧ now ≤ 9223372036854775807) (hwr : -9223372036854775808 ≤ wait ∧ wait ≤ 9223372036854775807) : crossbarlaw27_MeterAdvancesCompose.f k l bs now wait = some true := by
  obtain ⟨k, rfl⟩ : ∃ a, k = a + 1 := ⟨k - 1, by omega⟩
  obtain ⟨k, rfl⟩ : ∃ a, k = a + 1 := ⟨k - 1, by omega⟩
  obtain ⟨k, rfl⟩ : ∃ a, k = a + 1 := ⟨k - 1, by omega⟩
  obtain ⟨b, hb, hl⟩ := few_ex l bs
  have hj0 : crossbarlaw27_MeterAdvancesCompose.j0 (k + 1 + 1 + 1) l now wait true bs = some true := by
    rw [crossbarlaw27_MeterAdvancesCompose.j0]
    rw [if_pos rfl]
  unfold crossbarlaw27_MeterAdvancesCompose.f
  rw [show crossbarlaw27_sane.f = some true from rfl, Option.bind_some, if_pos rfl, hb (k + 1 + 1 + 1) (by omega), Option.bind_some]
  cases b
  · rw [if_neg (by decide)]; exact hj0
  · have hl40 := hl rfl
    rw [if_pos rfl]
    by_cases hw : wait < 0
    · rw [if_pos hw]; exact hj0
    · rw [if_neg hw, wr (n := 1099511627776 - wait) (by omega) (by omega)]
      by_cases hg : now > 1099511627776 - wait
      · rw [decide_eq_true hg]; exact hj0
      · rw [decide_eq_false hg]
        obtain ⟨N, hN⟩ : ∃ N, N = now + wait := ⟨_, rfl⟩
        have hNM : N ≤ 1099511627776 := by omega
        have hnN : now ≤ N := by omega
        rw [crossbarlaw27_MeterAdvancesCompose.j0]
        rw [if_neg (by decide), adv_f l bs now (by omega), Option.bind_some]
        have hxl := advF_len l bs now
        rw [adv_f _ bs _ (by omega), Option.bind_some, adv_f l bs _ (by omega), Option.bind_some]
        rcases adv_cases l bs now with he | ⟨hv, hnow, hla, hc, hlen, hx⟩
        · rw [if_neg he]
          rw [crossbarlaw27_MeterAdvancesCompose.j1]
          rw [if_pos rfl, if_neg he]
        · have ht : ∀ m ∈ l, 0 ≤ m.f4 ∧ m.f4 ≤ 1099511627776 := fun m hm => time_of_ok (ok_of_valid l [] hv m hm)
          rw [wr (n := now + wait) (by omega) (by omega), ← hN, hx]
          simp only
          first | rw [if_pos rfl] | rw [if_pos trivial]
          obtain ⟨hb1, hb2⟩ := begin_two hc hv hnow.1 hnN hNM hla (fun _ => true)
          obtain ⟨hb3, _⟩ := begin_two hc hv hnow.1 (Int.le_refl now) hnow.2 hla (fun _ => true)
          have hm2 : (l.map (cutM bs now)).map (cutM bs N) = l.map (cutM bs N) := by
            rw [List.map_map]
            exact List.map_congr_left (fun m hm => (cutM_two hc hnN hNM (ht m hm).1 (ht m hm).2).1)
          have hr2 : l.flatMap (cutR bs N) = l.flatMap (fun m => cutR bs now m ++ cutR bs N (cutM bs now m)) := flat_congr l (fun m hm => (cutM_two hc hnN hNM (ht m hm).1 (ht m hm).2).2)
          have hr3 : (l.map (cutM bs now)).flatMap (cutR bs N) = l.flatMap (fun m => cutR bs N (cutM bs now m)) := List.flatMap_map _ _ _
          have hlenT : ∀ (xs : List S33), (xs.flatMap (fun m => cutR bs now m ++ cutR bs N (cutM bs now m))).length = (xs.flatMap (cutR bs now)).length + (xs.flatMap (fun m => cutR bs N (cutM bs now m))).length := fun xs => by
            induction xs with
            | nil => rfl
            | cons x xs ih => simp only [List.flatMap_cons, List.length_append, ih]; omega
          have hlt := hlenT l
          rw [← hr2, ← hr3] at hlt
          rcases adv_begun hb1 with ⟨hq, hy⟩ | ⟨hq, hy⟩
          · rcases adv_begun hb2 with ⟨hq2, hz⟩ | ⟨hq2, hz⟩
            · rw [hy, hz]
              simp only
              rw [if_neg (by decide)]
              rw [crossbarlaw27_MeterAdvancesCompose.j1]
              rw [if_pos rfl, if_pos rfl, if_pos rfl]
            · omega
          · rcases adv_begun hb2 with ⟨hq2, hz⟩ | ⟨hq2, hz⟩
            · rw [hy, hz]
              simp only
              first | rw [if_pos rfl] | rw [if_pos trivial]
              rw [crossbarlaw27_MeterAdvancesCompose.j1]
              rw [if_pos (by decide), if_pos rfl, if_neg (by decide), if_pos rfl]
              rfl
            · have hagain : (l.map (cutM bs now)).flatMap (cutR bs now) = [] := by
                rw [List.flatMap_map]
                rw [flat_congr (g := fun _ => []) l (fun m hm => cutM_again hc hnow.2 (ht m hm).1 (ht m hm).2)]
                simp
              have hnone : (advanceF (l.map (cutM bs now)) bs (nxB bs) (rtB bs) now (chkB bs)).2.2 = 0 ∧ (advanceF (l.map (cutM bs now)) bs (nxB bs) (rtB bs) now (chkB bs)).2.1 = [] := by
                rcases adv_begun hb3 with ⟨hq3, h3⟩ | ⟨hq3, h3⟩
                · rw [hagain] at hq3; simp at hq3
                · rw [h3, hagain]; exact ⟨rfl, rfl⟩
              rw [hy, hz, hm2]
              simp only
              first | rw [if_pos rfl] | rw [if_pos trivial]
              rw [crossbarlaw27_MeterAdvancesCompose.j1]
              rw [if_neg (by decide), adv_f _ bs now (by rw [List.length_map]; omega), Option.bind_some, same_self _ (by rw [List.length_map]; omega) (by rw [List.length_map]; omega), Option.bind_some, if_pos rfl, if_pos hnone.1, hnone.2, if_pos (show ((([] : List S39).length : Int)) = 0 from rfl), wr (by omega) (by omega)]
              have hne : ((((l.flatMap (cutR bs now)).length : Int) + (((l.map (cutM bs now)).flatMap (cutR bs N)).length : Int)) != ((l.flatMap (cutR bs N)).length : Int)) = false := by
                rw [hlt]; simp
              rw [hne]
              rw [crossbarlaw27_MeterAdvancesCompose.j2]
              rw [if_neg (by decide), Option.bind_some, if_pos (by simp only [List.length_nil]; omega), Option.bind_some, if_pos (by simp only [List.nil_append]; omega), List.nil_append]
              refine l60_ok l hl40 _ _ (by omega) (by rw [List.length_append]; omega) (fun ref role => ?_) l.length 0 _ (by omega) (by rw [List.length_append]; omega)
              have h2 := sum_flat_two ref role (cutR bs now) (fun m => cutR bs N (cutM bs now m)) l
              rw [← hr2, ← hr3] at h2
              rw [sumU_append, sumS_append, h2.1, h2.2]
              exact ⟨rfl, rfl⟩
theorem law6_walk (A0 : Option Addr) (c0 : Nat) (l0 : List S33) (A1 : Option Addr) (c1 : Nat) (l1 : List S110) (a2 a3 : Int) (h2 : -9223372036854775808 ≤ a2 ∧ a2 ≤ 9223372036854775807) (h3 : -9223372036854775808 ≤ a3 ∧ a3 ≤ 9223372036854775807) (w : World) (hr0 : Kd.C k33 w A0 l0.length l0) (hc0 : l0.length ≤ c0) (hr1 : Kd.C k110 w A1 l1.length l1) (hc1 : l1.length ≤ c1) :
    Calls Try.prog 6 #[.slice A0 l0.length c0, .agg #[.slice A1 l1.length c1], .int .i64 a2, .int .i64 a3] w fun e w' => e = .returned (.bool true) ∧ Below w.heap.size w w' :=
  crossbarlaw27_MeterAdvancesCompose.calls 9004 A0 c0 l0 A1 c1 l1 a2 a3 true w hr0 hc0 hr1 hc1 (law6_pure 9004 (by omega) l0 l1 a2 a3 h2 h3)
end Go.Proofs.Ytbfhohpbldadbaa.P
