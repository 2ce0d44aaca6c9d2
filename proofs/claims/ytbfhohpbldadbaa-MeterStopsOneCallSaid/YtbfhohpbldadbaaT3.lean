import Derived.Test.YtbfhohpbldadbaaSum
import Derived.Test.YtbfhohpbldadbaaV
import Derived.Test.YtbfhohpbldadbaaPx5
namespace Go.Proofs.Ytbfhohpbldadbaa.P
open Go Go.RowKit Go.Proofs.YtbfhohpbldadbaaW.PrintWords Go.Proofs.YtbfhohpbldadbaaW.PrintLast Go.Proofs.YtbfhohpbldadbaaW.PrintMore
set_option linter.unusedVariables false
set_option linter.unusedSimpArgs false
theorem nil2 : (wrap64 ((([] : List S33).length : Int) + (([] : List S39).length : Int)) == 0) = true := by rw [wr (by simp) (by simp)]; simp
/-- A part of a valid list is valid. -/
theorem valid_filter (q : S33 → Bool) : ∀ (l : List S33) (ks ks' : List (Int × Int)), validFrom ks l = true → (∀ x, hasK x ks' = true → hasK x ks = true) → validFrom ks' (l.filter q) = true
  | [], ks, ks', _, _ => rfl
  | x :: l, ks, ks', h, hk => by
    simp only [validFrom, Bool.and_eq_true, Bool.not_eq_true'] at h
    have hsub : ∀ y, hasK y (ks' ++ [kM x]) = true → hasK y (ks ++ [kM x]) = true := fun y hy => by
      unfold hasK at hy hk ⊢
      rw [List.any_append, Bool.or_eq_true] at hy ⊢
      rcases hy with hy | hy
      · exact .inl (hk y hy)
      · exact .inr hy
    cases hq : q x
    · rw [List.filter_cons_of_neg (by rw [hq]; decide)]
      refine valid_filter q l (ks ++ [kM x]) ks' h.2 (fun y hy => ?_)
      have := hk y hy
      unfold hasK at this ⊢
      rw [List.any_append, Bool.or_eq_true]
      exact .inl this
    · rw [List.filter_cons_of_pos hq]
      simp only [validFrom, Bool.and_eq_true, Bool.not_eq_true']
      refine ⟨⟨h.1.1, ?_⟩, valid_filter q l (ks ++ [kM x]) (ks' ++ [kM x]) h.2 hsub⟩
      cases hh : hasK (kM x) ks'
      · rfl
      · have := hk _ hh; rw [h.1.2] at this; cases this
/-- Once a call is stopped it has no meter. -/
theorem stop_again {l : List S33} {bs : List S110} {ref now : Int} (ho : oddT ref = false) (h : beginF l now (isRef ref) (chkB bs) = 0) :
    stopF (l.filter (fun m => !isRef ref m)) bs (nxB bs) (rtB bs) ref now (chkB bs) = ([], [], 270) := by
  obtain ⟨hv, hnow, hla, hc⟩ := begin_ok h
  have hno : (l.filter (fun m => !isRef ref m)).any (isRef ref) = false := by
    rw [List.any_eq_false]
    intro x hx
    have := (List.mem_filter.1 hx).2
    simpa using this
  have hb : beginF (l.filter (fun m => !isRef ref m)) now (isRef ref) (chkB bs) = 0 := by
    unfold beginF
    have hl : (l.filter (fun m => !isRef ref m)).any (lateP (isRef ref) now) = false := by
      rw [List.any_eq_false] at hno ⊢
      intro x hx
      have := hno x hx
      unfold lateP
      simp [this]
    have hvf : validB (l.filter (fun m => !isRef ref m)) = true := valid_filter _ l [] [] hv (fun _ h => h)
    have hot : oddT now = false := by unfold oddT; simp; omega
    rw [if_pos (by rw [hvf, hot, hl]; rfl), hc]
  unfold stopF
  rw [if_neg (by rw [ho]; decide), if_pos hb, if_neg (by rw [hno]; decide)]
theorem stopRecs_up {bs : List S110} (hc : chkB bs = 0) {now : Int} (hn : now ≤ 1099511627776) {m : S33} (h0 : 0 ≤ m.f4) (h1 : m.f4 ≤ 1099511627776) : ∀ r ∈ stopRecs bs now m, r.f4 < r.f5 := fun r hr => by
  unfold stopRecs at hr
  rcases List.mem_append.1 hr with h | h
  · exact (segs_all_good hc hn m h0 h1 r h).1.up
  · split at h
    · next hlt => rw [List.mem_singleton] at h; subst h; exact hlt
    · simp at h
theorem l31_ok (bs : List S110) (ref now : Int) (x : List S33) (recs : List S39) (r : List S33 × List S39 × Int) (hs : meter_Stop.f x bs ref now = some r) (h270 : r.2.2 = 270) (hxl : x.length ≤ 1000) (hrl : recs.length ≤ 2000) (hr : ∀ q ∈ recs, q.f0 = ref ∧ q.f4 < q.f5) : ∀ (d i k : Nat), i + d = recs.length → d + 1100 < k → crossbarlaw27_MeterStopsOneCall.l1 k ref now x recs x (i : Int) bs = some true
  | 0, i, k + 1, hi, hk => by
    unfold crossbarlaw27_MeterStopsOneCall.l1
    rw [if_neg (by omega), hs, Option.bind_some, same_self x (by omega) (by omega), Option.bind_some, if_pos rfl, h270]
    rfl
  | d + 1, i, k + 1, hi, hk => by
    have hlt : i < recs.length := by omega
    have hq := hr recs[i] (List.getElem_mem hlt)
    have ih := l31_ok bs ref now x recs r hs h270 hxl hrl hr d (i + 1) k (by omega) (by omega)
    unfold crossbarlaw27_MeterStopsOneCall.l1
    rw [if_pos (by omega), if_pos (by omega), rd39_at hlt, if_pos hq.1, if_neg (by omega), wr (n := (i : Int) + 1) (by omega) (by omega), show ((i : Int) + 1) = ((i + 1 : Nat) : Int) from by omega]
    exact ih
theorem l30_ok (bs : List S110) (hc : chkB bs = 0) (ref now : Int) (hn : now ≤ 1099511627776) (l : List S33) (hl : l.length ≤ 1000) (hv : validB l = true) (hla : l.any (lateP (isRef ref) now) = false) (recs : List S39) (hrecs : recs = (l.filter (isRef ref)).flatMap (stopRecs bs now)) (hrl : recs.length ≤ 2000)
    (r : List S33 × List S39 × Int) (hs : meter_Stop.f (l.filter (fun m => !isRef ref m)) bs ref now = some r) (h270 : r.2.2 = 270) : ∀ (d i k : Nat), i + d = l.length → d + 4000 < k → crossbarlaw27_MeterStopsOneCall.l0 k l ref now (l.filter (fun m => !isRef ref m)) recs ((l.take i).filter (fun m => !isRef ref m)) (i : Int) bs = some true
  | 0, i, k + 1, hi, hk => by
    unfold crossbarlaw27_MeterStopsOneCall.l0
    rw [if_neg (by omega), List.take_of_length_le (by omega)]
    refine l31_ok bs ref now _ recs r hs h270 ?_ hrl (fun q hq => ?_) recs.length 0 k (by omega) (by omega)
    · have := List.length_filter_le (fun m => !isRef ref m) l; omega
    · rw [hrecs] at hq
      obtain ⟨m, hm, hq⟩ := List.mem_flatMap.1 hq
      obtain ⟨hm, hi⟩ := List.mem_filter.1 hm
      have ht := time_of_ok (ok_of_valid l [] hv m hm)
      have hk0 := stopRecs_key bs now m q hq
      exact ⟨by rw [hk0.1]; unfold isRef at hi; simpa using hi, stopRecs_up hc hn ht.1 ht.2 q hq⟩
  | d + 1, i, k + 1, hi, hk => by
    have hlt : i < l.length := by omega
    have hmem := List.getElem_mem hlt
    have ht := time_of_ok (ok_of_valid l [] hv _ hmem)
    have ih := l30_ok bs hc ref now hn l hl hv hla recs hrecs hrl r hs h270 d (i + 1) k (by omega) (by omega)
    rw [List.take_succ_eq_append_getElem hlt, List.filter_append] at ih
    unfold crossbarlaw27_MeterStopsOneCall.l0
    rw [if_pos (by omega), if_pos (by omega), rd33_at hlt, wr (n := (i : Int) + 1) (by omega) (by omega), show ((i : Int) + 1) = ((i + 1 : Nat) : Int) from by omega]
    by_cases h0 : l[i].f0 = ref
    · have hi1 : isRef ref l[i] = true := by unfold isRef; rw [h0]; simp
      rw [List.filter_cons_of_neg (by rw [hi1]; decide), List.filter_nil, List.append_nil] at ih
      have hle : l[i].f4 ≤ now := by
        rw [List.any_eq_false] at hla
        have := hla _ hmem
        unfold lateP at this
        rw [hi1] at this
        simp at this
        omega
      have hd := until_diff hc ht.1 hle
      have hst := (stop_total bs ref l[i].f1 now l [] hv).2 l[i] hmem h0 rfl
      have hss := stop_sum hc hn ht.1 hle
      rw [h0] at hss
      rw [if_pos h0, price_eq hc (by omega : 30 ≤ k) ht.1 hle hn, Option.bind_some, total_eq recs ref l[i].f1 (by omega) (by omega), Option.bind_some, if_pos rfl, hrecs, hst.1, hst.2, hss.1, hss.2, if_pos (by simp only; rw [wr (by omega) (by omega)]), if_pos rfl, ← hrecs]
      exact ih
    · have hi1 : isRef ref l[i] = false := by unfold isRef; simpa using h0
      rw [List.filter_cons_of_pos (by rw [hi1]; rfl), List.filter_nil] at ih
      have hfl := List.length_filter_le (fun m => !isRef ref m) (l.take i)
      rw [List.length_take] at hfl
      rw [if_neg h0, if_pos (by omega)]
      exact ih
theorem law3_pure (l0 : List S33) (bs : List S110) (ref now : Int) : crossbarlaw27_MeterStopsOneCall.f 9000 l0 bs ref now = some true := by
  obtain ⟨b, hb, hl⟩ := few_ex l0 bs
  unfold crossbarlaw27_MeterStopsOneCall.f
  rw [show crossbarlaw27_sane.f = some true from rfl, Option.bind_some, if_pos rfl, hb 9000 (by omega), Option.bind_some]
  cases b
  · rw [if_neg (by decide)]
  · have hl40 := hl rfl
    have hsf : ∀ (x : List S33), x.length ≤ 40 → meter_Stop.f x bs ref now = some (stopF x bs (nxB bs) (rtB bs) ref now (chkB bs)) := fun x hx => by unfold meter_Stop.f; rw [if_pos (by omega)]
    rw [if_pos rfl, hsf l0 hl40, Option.bind_some]
    unfold stopF
    by_cases hod : oddT ref = true
    · rw [if_pos hod, if_neg (by decide)]
      exact congrArg some nil2
    · rw [if_neg hod]
      by_cases hz : beginF l0 now (isRef ref) (chkB bs) = 0
      · rw [if_pos hz]
        obtain ⟨hv, hnow, hla, hc⟩ := begin_ok hz
        by_cases hany : l0.any (isRef ref) = true
        · rw [if_pos hany]
          by_cases hfull : 1024 < (stopFold bs (nxB bs) (rtB bs) ref now l0).2.length
          · rw [if_pos hfull, if_neg (by decide)]
            exact congrArg some nil2
          · rw [if_neg hfull, if_pos rfl]
            have hg : stopFold bs (nxB bs) (rtB bs) ref now l0 = _ := stop_good (bs := bs) (ref := ref) (now := now) l0 ([], []) (by unfold stopFold at hfull; omega)
            have h2 : (stopFold bs (nxB bs) (rtB bs) ref now l0).2.length ≤ 1024 := by omega
            rw [hg] at h2 ⊢
            simp only [List.nil_append] at h2 ⊢
            have hfl := List.length_filter_le (fun m => !isRef ref m) l0
            exact l30_ok bs hc ref now hnow.2 l0 (by omega) hv hla _ rfl (by omega) _ (hsf _ (by omega)) (by rw [stop_again (by simpa using hod) hz]) l0.length 0 9000 (by omega) (by omega)
        · rw [if_neg hany, if_neg (by decide)]
          exact congrArg some nil2
      · rw [if_neg hz, if_neg hz]
        exact congrArg some nil2
theorem law3_walk (A0 : Option Addr) (c0 : Nat) (l0 : List S33) (A1 : Option Addr) (c1 : Nat) (l1 : List S110) (a2 a3 : Int) (w : World) (hr0 : Kd.C k33 w A0 l0.length l0) (hc0 : l0.length ≤ c0) (hr1 : Kd.C k110 w A1 l1.length l1) (hc1 : l1.length ≤ c1) :
    Calls Try.prog 3 #[.slice A0 l0.length c0, .agg #[.slice A1 l1.length c1], .int .i64 a2, .int .i64 a3] w fun e w' => e = .returned (.bool true) ∧ Below w.heap.size w w' :=
  crossbarlaw27_MeterStopsOneCall.calls 9000 A0 c0 l0 A1 c1 l1 a2 a3 true w hr0 hc0 hr1 hc1 (law3_pure l0 l1 a2 a3)
end Go.Proofs.Ytbfhohpbldadbaa.P
