import Derived.Test.YtbfhohpbldadbaaCmp
import Derived.Test.YtbfhohpbldadbaaPx14
namespace Go.Proofs.Ytbfhohpbldadbaa.P
open Go Go.RowKit Go.Proofs.YtbfhohpbldadbaaW.PrintWords Go.Proofs.YtbfhohpbldadbaaW.PrintLast Go.Proofs.YtbfhohpbldadbaaW.PrintMore
set_option linter.unusedVariables false
set_option linter.unusedSimpArgs false
theorem l70_ok (ref : Int) (x y : List S33) (hxy : y.length ≤ x.length) (all both : List S39) (ha : all.length ≤ 1000000) (hb : both.length ≤ 1000000) (hs : ∀ role, sumU ref role both = sumU ref role all ∧ sumS ref role both = sumS ref role all) : ∀ (d k : Nat) (i : Int), 0 ≤ i → i + d = 4 → d + all.length + both.length < k → crossbarlaw27_MeterStopAfterAdvance.l0 k ref x y all both i = some true
  | 0, k + 1, i, h0, hi, hk => by
    rw [crossbarlaw27_MeterStopAfterAdvance.l0]
    rw [if_neg (by omega), decide_eq_true (by omega)]
  | d + 1, k + 1, i, h0, hi, hk => by
    have ih := l70_ok ref x y hxy all both ha hb hs d k (i + 1) (by omega) (by omega) (by omega)
    rw [crossbarlaw27_MeterStopAfterAdvance.l0]
    rw [if_pos (by omega), total_eq both _ _ hb (by omega), Option.bind_some, total_eq all _ _ ha (by omega), Option.bind_some, (hs _).1, (hs _).2, if_pos rfl, if_pos rfl, wr (n := i + 1) (by omega) (by omega)]
    exact ih
theorem adv7_f (l : List S33) (bs : List S110) (now : Int) (hl : l.length ≤ 1000000) : meter_Advance.f l bs now = some (advanceF l bs (nxB bs) (rtB bs) now (chkB bs)) := by
  unfold meter_Advance.f; rw [if_pos hl]
theorem stop7_f (l : List S33) (bs : List S110) (ref now : Int) (hl : l.length ≤ 1000000) : meter_Stop.f l bs ref now = some (stopF l bs (nxB bs) (rtB bs) ref now (chkB bs)) := by
  unfold meter_Stop.f; rw [if_pos hl]
theorem adv7_len (l : List S33) (bs : List S110) (now : Int) : (advanceF l bs (nxB bs) (rtB bs) now (chkB bs)).1.length ≤ l.length := by
  unfold advanceF
  split
  · split
    · simp
    · have := advFold_n bs (nxB bs) (rtB bs) now l ([], [])
      unfold advFold
      simp only [List.length_nil, Nat.zero_add] at this
      simp only
      omega
  · simp
theorem adv7_cases (l : List S33) (bs : List S110) (now : Int) :
    ((advanceF l bs (nxB bs) (rtB bs) now (chkB bs)).2.2 ≠ 0) ∨
    (validB l = true ∧ (0 ≤ now ∧ now ≤ 1099511627776) ∧ (∀ m ∈ l, m.f4 ≤ now) ∧ chkB bs = 0 ∧ (l.flatMap (cutR bs now)).length ≤ 1024 ∧ advanceF l bs (nxB bs) (rtB bs) now (chkB bs) = (l.map (cutM bs now), l.flatMap (cutR bs now), 0)) := by
  unfold advanceF
  by_cases hz : beginF l now (fun _ => true) (chkB bs) = 0
  · rw [if_pos hz]
    obtain ⟨hv, hnow, hla, hc⟩ := begin_ok hz
    by_cases hfull : 1024 < (advFold bs (nxB bs) (rtB bs) now l).2.length
    · rw [if_pos hfull]; exact .inl (by decide)
    · rw [if_neg hfull]
      have hg : advFold bs (nxB bs) (rtB bs) now l = _ := adv_good (bs := bs) (now := now) l ([], []) (by unfold advFold at hfull; omega)
      refine .inr ⟨hv, hnow, fun m hm => late_le hla hm rfl, hc, ?_, ?_⟩
      · rw [hg] at hfull; simp only [List.nil_append] at hfull; omega
      · rw [hg]; simp only [List.nil_append]
  · rw [if_neg hz]; exact .inl hz
/-- What Stop answers when its beginning is good. -/
theorem stop_begun {l : List S33} {bs : List S110} {ref now : Int} (ho : oddT ref = false) (hz : beginF l now (isRef ref) (chkB bs) = 0) (ha : l.any (isRef ref) = true) :
    (1024 < ((l.filter (isRef ref)).flatMap (stopRecs bs now)).length ∧ stopF l bs (nxB bs) (rtB bs) ref now (chkB bs) = ([], [], 2)) ∨
    (((l.filter (isRef ref)).flatMap (stopRecs bs now)).length ≤ 1024 ∧ stopF l bs (nxB bs) (rtB bs) ref now (chkB bs) = (l.filter (fun m => !isRef ref m), (l.filter (isRef ref)).flatMap (stopRecs bs now), 0)) := by
  unfold stopF
  rw [if_neg (by rw [ho]; decide), if_pos hz, if_pos ha]
  by_cases hfull : 1024 < (stopFold bs (nxB bs) (rtB bs) ref now l).2.length
  · rw [if_pos hfull]
    refine .inl ⟨?_, rfl⟩
    rcases Nat.lt_or_ge 1024 ((l.filter (isRef ref)).flatMap (stopRecs bs now)).length with h | h
    · exact h
    · have := stop_fit (bs := bs) (ref := ref) (now := now) l ([], []) (by simpa using h)
      unfold stopFold at hfull
      omega
  · rw [if_neg hfull]
    have hg : stopFold bs (nxB bs) (rtB bs) ref now l = _ := stop_good (bs := bs) (ref := ref) (now := now) l ([], []) (by unfold stopFold at hfull; omega)
    refine .inr ⟨?_, ?_⟩
    · rw [hg] at hfull; simp only [List.nil_append] at hfull; omega
    · rw [hg]; simp only [List.nil_append]
theorem isRef_cut (bs : List S110) (now ref : Int) (m : S33) : isRef ref (cutM bs now m) = isRef ref m := rfl
theorem filter_cut (bs : List S110) (now : Int) (q : S33 → Bool) (hq : ∀ m, q (cutM bs now m) = q m) : ∀ (l : List S33), (l.map (cutM bs now)).filter q = (l.filter q).map (cutM bs now)
  | [] => rfl
  | m :: l => by
    have ih := filter_cut bs now q hq l
    rw [List.map_cons, List.filter_cons, List.filter_cons, hq m, ih]
    split <;> rfl
/-- The sums of a call's records, cut in two steps. -/
theorem sum7 (bs : List S110) (hc : chkB bs = 0) {now N : Int} (hn : now ≤ N) (hN : N ≤ 1099511627776) (ref role : Int) : ∀ (l : List S33), (∀ m ∈ l, 0 ≤ m.f4 ∧ m.f4 ≤ 1099511627776) →
    (sumU ref role ((l.filter (isRef ref)).flatMap (stopRecs bs N)) = sumU ref role (l.flatMap (cutR bs now)) + sumU ref role ((l.filter (isRef ref)).flatMap (fun m => stopRecs bs N (cutM bs now m))) ∧
     sumS ref role ((l.filter (isRef ref)).flatMap (stopRecs bs N)) = sumS ref role (l.flatMap (cutR bs now)) + sumS ref role ((l.filter (isRef ref)).flatMap (fun m => stopRecs bs N (cutM bs now m))))
  | [], _ => ⟨rfl, rfl⟩
  | m :: l, h => by
    have ih := sum7 bs hc hn hN ref role l (fun x hx => h x (List.mem_cons_of_mem _ hx))
    have hm := h m (by simp)
    cases hi : isRef ref m
    · rw [List.filter_cons_of_neg (by rw [hi]; decide)]
      have hz := sumU_none ref role (cutR bs now m) (fun r hr hk => by
        have := segs_key _ _ m r hr
        unfold isRef at hi
        rw [← this.1, hk.1] at hi
        simp at hi)
      rw [List.flatMap_cons, sumU_append, sumS_append, hz.1, hz.2, Int.zero_add, Int.zero_add]
      exact ih
    · rw [List.filter_cons_of_pos hi]
      simp only [List.flatMap_cons, sumU_append, sumS_append, stopRecs_two hc hn hN hm.1 hm.2, ih.1, ih.2]
      constructor <;> omega
theorem len7 (bs : List S110) (hc : chkB bs = 0) {now N : Int} (hn : now ≤ N) (hN : N ≤ 1099511627776) : ∀ (l : List S33), (∀ m ∈ l, 0 ≤ m.f4 ∧ m.f4 ≤ 1099511627776) →
    (l.flatMap (fun m => stopRecs bs N (cutM bs now m))).length ≤ (l.flatMap (stopRecs bs N)).length
  | [], _ => Nat.le_refl _
  | m :: l, h => by
    have ih := len7 bs hc hn hN l (fun x hx => h x (List.mem_cons_of_mem _ hx))
    have hm := h m (by simp)
    simp only [List.flatMap_cons, List.length_append, stopRecs_two hc hn hN hm.1 hm.2]
    omega
theorem law7_pure (k : Nat) (hk : 9000 ≤ k) (l : List S33) (bs : List S110) (ref now wait : Int) (hnowr : -9223372036854775808 ≤ now ∧ now ≤ 9223372036854775807) (hwr : -9223372036854775808 ≤ wait ∧ wait ≤ 9223372036854775807) : crossbarlaw27_MeterStopAfterAdvance.f k l bs ref now wait = some true := by
  obtain ⟨k, rfl⟩ : ∃ a, k = a + 1 := ⟨k - 1, by omega⟩
  obtain ⟨k, rfl⟩ : ∃ a, k = a + 1 := ⟨k - 1, by omega⟩
  obtain ⟨k, rfl⟩ : ∃ a, k = a + 1 := ⟨k - 1, by omega⟩
  obtain ⟨b, hb, hl⟩ := few_ex l bs
  have hj0 : crossbarlaw27_MeterStopAfterAdvance.j0 (k + 1 + 1 + 1) l ref now wait true bs = some true := by
    rw [crossbarlaw27_MeterStopAfterAdvance.j0]
    rw [if_pos rfl]
  unfold crossbarlaw27_MeterStopAfterAdvance.f
  rw [show crossbarlaw27_sane.f = some true from rfl, Option.bind_some, if_pos rfl, hb (k + 1 + 1 + 1) (by omega), Option.bind_some]
  cases b
  · rw [if_neg (by decide)]; exact hj0
  · have hl40 := hl rfl
    rw [if_pos rfl]
    by_cases hw : wait < 0
    · rw [if_pos hw]; exact hj0
    · rw [if_neg hw, wr (n := 1099511627776 - wait) (by omega) (by omega)]
      by_cases hg : now > 1099511627776 - wait
      · rw [decide_eq_true hg]; exact hj0
      · rw [decide_eq_false hg]
        obtain ⟨N, hN⟩ : ∃ N, N = now + wait := ⟨_, rfl⟩
        have hNM : N ≤ 1099511627776 := by omega
        have hnN : now ≤ N := by omega
        rw [crossbarlaw27_MeterStopAfterAdvance.j0]
        rw [if_neg (by decide), adv7_f l bs now (by omega), Option.bind_some]
        have hxl := adv7_len l bs now
        rw [stop7_f _ bs _ _ (by omega), Option.bind_some, stop7_f l bs _ _ (by omega), Option.bind_some]
        rcases adv7_cases l bs now with he | ⟨hv, hnow, hla, hc, hlen, hx⟩
        · rw [if_neg he]
          rw [crossbarlaw27_MeterStopAfterAdvance.j1]
          rw [if_pos rfl, if_neg he]
        · have ht : ∀ m ∈ l, 0 ≤ m.f4 ∧ m.f4 ≤ 1099511627776 := fun m hm => time_of_ok (ok_of_valid l [] hv m hm)
          rw [wr (n := now + wait) (by omega) (by omega), ← hN, hx]
          simp only
          first | rw [if_pos rfl] | rw [if_pos trivial]
          obtain ⟨hb1, hb2⟩ := begin_two hc hv hnow.1 hnN hNM hla (isRef ref)
          by_cases hod : oddT ref = true
          · have hs : ∀ xs, stopF xs bs (nxB bs) (rtB bs) ref N (chkB bs) = ([], [], 1) := fun xs => by unfold stopF; rw [if_pos hod]
            rw [hs, hs]
            simp only
            rw [if_neg (by decide)]
            rw [crossbarlaw27_MeterStopAfterAdvance.j1]
            rw [if_pos rfl, if_pos rfl, if_pos rfl]
          · have hod' : oddT ref = false := by simpa using hod
            have hany : (l.map (cutM bs now)).any (isRef ref) = l.any (isRef ref) := by rw [List.any_map]; rfl
            by_cases ha : l.any (isRef ref) = true
            · have hfc := filter_cut bs now (isRef ref) (fun _ => rfl) l
              have hfn := filter_cut bs now (fun m => !isRef ref m) (fun _ => rfl) l
              have hl7 := len7 bs hc hnN hNM (l.filter (isRef ref)) (fun m hm => ht m (List.mem_filter.1 hm).1)
              rcases stop_begun hod' hb1 (by rw [hany, ha]) with ⟨hq, hy⟩ | ⟨hq, hy⟩
              · rw [hfc, List.flatMap_map] at hq
                rcases stop_begun hod' hb2 ha with ⟨hq2, hz⟩ | ⟨hq2, hz⟩
                · rw [hy, hz]
                  simp only
                  rw [if_neg (by decide)]
                  rw [crossbarlaw27_MeterStopAfterAdvance.j1]
                  rw [if_pos rfl, if_pos rfl, if_pos rfl]
                · omega
              · rw [hfc, List.flatMap_map] at hq
                rcases stop_begun hod' hb2 ha with ⟨hq2, hz⟩ | ⟨hq2, hz⟩
                · rw [hy, hz]
                  simp only
                  first | rw [if_pos rfl] | rw [if_pos trivial]
                  rw [crossbarlaw27_MeterStopAfterAdvance.j1]
                  rw [if_pos (by decide), if_pos rfl, if_neg (by decide), if_pos rfl]
                  rfl
                · rw [hy, hz, hfc, hfn, List.flatMap_map]
                  simp only
                  first | rw [if_pos rfl] | rw [if_pos trivial]
                  rw [crossbarlaw27_MeterStopAfterAdvance.j1]
                  rw [if_neg (by decide), Option.bind_some, if_pos (by simp only [List.length_nil]; omega), Option.bind_some, if_pos (by simp only [List.nil_append]; omega), List.nil_append]
                  have hfl := List.length_filter_le (fun m => !isRef ref m) l
                  refine l70_ok ref _ _ (by simp only [List.length_map]; omega) _ _ (by omega) (by rw [List.length_append]; omega) (fun role => ?_) 3 _ 1 (by omega) (by omega) (by rw [List.length_append]; omega)
                  have h2 := sum7 bs hc hnN hNM ref role l ht
                  rw [sumU_append, sumS_append, h2.1, h2.2]
                  exact ⟨rfl, rfl⟩
            · have hs1 : stopF (l.map (cutM bs now)) bs (nxB bs) (rtB bs) ref N (chkB bs) = ([], [], 270) := by unfold stopF; rw [if_neg hod, if_pos hb1, if_neg (by rw [hany]; exact ha)]
              have hs2 : stopF l bs (nxB bs) (rtB bs) ref N (chkB bs) = ([], [], 270) := by unfold stopF; rw [if_neg hod, if_pos hb2, if_neg ha]
              rw [hs1, hs2]
              simp only
              rw [if_neg (by decide)]
              rw [crossbarlaw27_MeterStopAfterAdvance.j1]
              rw [if_pos rfl, if_pos rfl, if_pos rfl]
theorem law7_walk (A0 : Option Addr) (c0 : Nat) (l0 : List S33) (A1 : Option Addr) (c1 : Nat) (l1 : List S110) (a2 a3 a4 : Int) (h3 : -9223372036854775808 ≤ a3 ∧ a3 ≤ 9223372036854775807) (h4 : -9223372036854775808 ≤ a4 ∧ a4 ≤ 9223372036854775807) (w : World) (hr0 : Kd.C k33 w A0 l0.length l0) (hc0 : l0.length ≤ c0) (hr1 : Kd.C k110 w A1 l1.length l1) (hc1 : l1.length ≤ c1) :
    Calls Try.prog 7 #[.slice A0 l0.length c0, .agg #[.slice A1 l1.length c1], .int .i64 a2, .int .i64 a3, .int .i64 a4] w fun e w' => e = .returned (.bool true) ∧ Below w.heap.size w w' :=
  crossbarlaw27_MeterStopAfterAdvance.calls 9004 A0 c0 l0 A1 c1 l1 a2 a3 a4 true w hr0 hc0 hr1 hc1 (law7_pure 9004 (by omega) l0 l1 a2 a3 a4 h3 h4)
end Go.Proofs.Ytbfhohpbldadbaa.P
