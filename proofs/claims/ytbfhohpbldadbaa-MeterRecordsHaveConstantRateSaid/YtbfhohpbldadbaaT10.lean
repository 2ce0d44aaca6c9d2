import Derived.Test.YtbfhohpbldadbaaSeg
import Derived.Test.YtbfhohpbldadbaaV
import Derived.Test.YtbfhohpbldadbaaPx16
namespace Go.Proofs.Ytbfhohpbldadbaa.P
open Go Go.RowKit Go.Proofs.YtbfhohpbldadbaaW.PrintWords Go.Proofs.YtbfhohpbldadbaaW.PrintLast Go.Proofs.YtbfhohpbldadbaaW.PrintMore
set_option linter.unusedVariables false
set_option linter.unusedSimpArgs false
theorem rd39_at' {bs : List S39} {i : Nat} (h : i < bs.length) : rd_T39 bs (i : Int) = bs[i] := by
  unfold rd_T39
  rw [Int.toNat_natCast]
  exact getD_at h z39
/-- A flat tariff has no change. -/
theorem change_flat_l0 (bs : List S110) (rate : Int) (h24 : bs.length ≤ 24) (hall : ∀ i (h : i < bs.length), bs[i].f1 = rate) : ∀ (s i k : Nat) (day cnt : Int), i < bs.length → s < k → cnt + s = bs.length → 0 ≤ cnt → 0 ≤ day → day + 86400 * s ≤ 2000000000000 → tariff_Change.l0 k 0 rate (bs.length : Int) (i : Int) day (bs.length : Int) cnt bs = some (0, false, 0)
  | 0, i, k + 1, day, cnt, hi, hk, hcnt, _, _, _ => by
    unfold tariff_Change.l0
    rw [if_neg (by omega)]
  | s + 1, i, k + 1, day, cnt, hi, hk, hcnt, hc0, hd, hday => by
    unfold tariff_Change.l0
    rw [if_pos (by omega), wr (n := (i : Int) + 1) (by omega) (by omega)]
    by_cases hwrap : i + 1 = bs.length
    · rw [if_pos (by omega), if_pos (by omega), if_pos (by rw [show rd_T110 bs 0 = bs[0]'(by omega) from rd_at (i := 0) (by omega)]; exact hall 0 (by omega)), wr (n := day + 86400) (by omega) (by omega), wr (n := cnt + 1) (by omega) (by omega)]
      exact change_flat_l0 bs rate h24 hall s 0 k (day + 86400) (cnt + 1) (by omega) (by omega) (by omega) (by omega) (by omega) (by omega)
    · rw [if_neg (by omega), if_pos (by omega), if_pos (by omega), show ((i : Int) + 1) = ((i + 1 : Nat) : Int) from by omega, if_pos (by rw [rd_at (by omega)]; exact hall _ _), wr (n := cnt + 1) (by omega) (by omega)]
      exact change_flat_l0 bs rate h24 hall s (i + 1) k day (cnt + 1) (by omega) (by omega) (by omega) (by omega) (by omega) (by omega)
theorem change_flat {bs : List S110} (hc : chkB bs = 0) (hf : flatB bs = true) {k : Nat} (hk : 30 ≤ k) {t : Int} (h0 : 0 ≤ t) (h1 : t ≤ 1099511627776) : tariff_Change.f k bs t = some (0, false, 0) := by
  obtain ⟨g1, g2, g3, g4⟩ := good_of_chk hc
  obtain ⟨s0, s1⟩ := sec_range t
  obtain ⟨b0, b1⟩ := band_range g1 g3 s0
  obtain ⟨i, hi⟩ : ∃ i : Nat, bandIdx bs (secOf t) = (i : Int) := ⟨(bandIdx bs (secOf t)).toNat, by omega⟩
  have hst : 0 ≤ t - secOf t := by unfold secOf; omega
  have hall : ∀ j (h : j < bs.length), bs[j].f1 = rtB bs t := fun j h => by
    have hx : ∀ j (h : j < bs.length), bs[j].f1 = (rd_T110 bs 0).f1 := fun j h => by
      unfold flatB at hf
      simp only [Bool.not_eq_true', List.any_eq_false] at hf
      have := hf bs[j] (List.getElem_mem h)
      simpa [rateNe] using this
    unfold rtB
    rw [hi, rd_at (by omega), hx j h, hx i (by omega)]
  unfold tariff_Change.f
  rw [rate_eq hc (by omega) h0 h1, Option.bind_some, if_pos rfl, tmod_sec h0]
  unfold tariff_band.f
  rw [if_pos ⟨g4, g2, s0, s1⟩, Option.bind_some, wr (by omega) (by omega), hi]
  exact change_flat_l0 bs (rtB bs t) g2 hall bs.length i k (t - secOf t) 0 (by omega) (by omega) (by omega) (by omega) hst (by omega)
/-- What Advance leaves when the records are not too many. -/
theorem fold_good {bs : List S110} (hc : chkB bs = 0) {now : Int} (hn : now ≤ 1099511627776) : ∀ (l : List S33) (p : List S33 × List S39), (∀ m ∈ l, 0 ≤ m.f4 ∧ m.f4 ≤ 1099511627776) → (l.foldl (advStep bs (nxB bs) (rtB bs) now) p).2.length ≤ 1024 →
    l.foldl (advStep bs (nxB bs) (rtB bs) now) p = (p.1 ++ l.map (fun m => atT m (lastT m.f4 (cutsOf bs (nxB bs) now m.f4))), p.2 ++ l.flatMap (fun m => segs (rtB bs) m (cutsOf bs (nxB bs) now m.f4)))
  | [], p, _, _ => by simp
  | m :: l, p, hm, hl => by
    have hmono := advFold_mono bs (nxB bs) (rtB bs) now l (advStep bs (nxB bs) (rtB bs) now p m)
    simp only [List.foldl_cons] at hl ⊢
    have he : advStep bs (nxB bs) (rtB bs) now p m = (p.1 ++ [atT m (lastT m.f4 (cutsOf bs (nxB bs) now m.f4))], p.2 ++ segs (rtB bs) m (cutsOf bs (nxB bs) now m.f4)) := by
      have ha := advM_all (bs := bs) (now := now) (m := m) (rs := p.2) (show (advStep bs (nxB bs) (rtB bs) now p m).2.length ≤ 1024 from Nat.le_trans hmono hl)
      unfold advStep
      rw [ha]
    rw [he] at hl ⊢
    rw [fold_good hc hn l _ (fun x hx => hm x (List.mem_cons_of_mem _ hx)) hl]
    simp
theorem l1_ok (bs : List S110) (hc : chkB bs = 0) (now : Int) (l0 x : List S33) (hx : x.length = l0.length) (hxl : x.length ≤ 1000) (hm : ∀ m ∈ x, 0 ≤ m.f4 ∧ m.f4 ≤ 1099511627776 ∧ (flatB bs = false → now < nxB bs m.f4)) : ∀ (d i k : Nat), i + d = x.length → d + 30 < k → crossbarlaw27_MeterRecordsHaveConstantRate.l1 k l0 now x (i : Int) bs = some true
  | 0, i, k + 1, hi, hk => by
    unfold crossbarlaw27_MeterRecordsHaveConstantRate.l1
    rw [if_neg (by omega), hx]
    simp
  | d + 1, i, k + 1, hi, hk => by
    have hlt : i < x.length := by omega
    have hq := hm x[i] (List.getElem_mem hlt)
    have ih := l1_ok bs hc now l0 x hx hxl hm d (i + 1) k (by omega) (by omega)
    unfold crossbarlaw27_MeterRecordsHaveConstantRate.l1
    rw [if_pos (by omega), if_pos (by omega), rd33_at hlt, wr (n := (i : Int) + 1) (by omega) (by omega), show ((i : Int) + 1) = ((i + 1 : Nat) : Int) from by omega]
    cases hf : flatB bs
    · rw [(change_eq hc hf (by omega : 26 ≤ k) hq.1 hq.2.1).1, Option.bind_some, if_pos rfl, if_pos rfl, if_neg (by have := hq.2.2 hf; simp only; omega)]
      exact ih
    · rw [change_flat hc hf (by omega : 30 ≤ k) hq.1 hq.2.1, Option.bind_some, if_pos rfl, if_neg (by decide)]
      exact ih
theorem l0_ok (bs : List S110) (hc : chkB bs = 0) (now : Int) (l0 x : List S33) (recs : List S39) (hx : x.length = l0.length) (hxl : x.length ≤ 1000) (hrl : recs.length ≤ 2000) (hm : ∀ m ∈ x, 0 ≤ m.f4 ∧ m.f4 ≤ 1099511627776 ∧ (flatB bs = false → now < nxB bs m.f4)) (hr : ∀ r ∈ recs, GoodRec bs r ∧ flatB bs = false) : ∀ (d i k : Nat), i + d = recs.length → d + x.length + 40 < k → crossbarlaw27_MeterRecordsHaveConstantRate.l0 k l0 now x recs (i : Int) bs = some true
  | 0, i, k + 1, hi, hk => by
    unfold crossbarlaw27_MeterRecordsHaveConstantRate.l0
    rw [if_neg (by omega)]
    exact l1_ok bs hc now l0 x hx hxl hm x.length 0 k (by omega) (by omega)
  | d + 1, i, k + 1, hi, hk => by
    have hlt : i < recs.length := by omega
    obtain ⟨hq, hf⟩ := hr recs[i] (List.getElem_mem hlt)
    have ih := l0_ok bs hc now l0 x recs hx hxl hrl hm hr d (i + 1) k (by omega) (by omega)
    have hup := hq.up
    have h0 := hq.t0
    have h5 := hq.t1
    have hsp := until_span hc (r := recs[i].f6) (a := recs[i].f4) (b := recs[i].f5) h0 (by omega) (fun u hu hlt2 => by rw [hq.rate]; exact rt_const hc hf h0 hu (by rw [← hq.nx]; exact hlt2))
    have hrr := rt_range hc recs[i].f4
    rw [← hq.rate] at hrr
    have hms := mul_small hrr.1 hrr.2 (d := recs[i].f5 - recs[i].f4) (by omega) (by omega)
    unfold crossbarlaw27_MeterRecordsHaveConstantRate.l0
    rw [if_pos (by omega), if_pos (by omega), rd39_at' hlt, (change_eq hc hf (by omega : 26 ≤ k) h0 (by omega)).1, Option.bind_some, price_eq hc (by omega : 30 ≤ k) h0 (by omega) h5, Option.bind_some, wr (n := (i : Int) + 1) (by omega) (by omega), show ((i : Int) + 1) = ((i + 1 : Nat) : Int) from by omega, if_pos rfl, if_pos rfl, if_pos rfl, if_pos hq.nx.symm,
      if_pos (by simp only; rw [hq.units]; omega), if_pos (by rw [wr (n := recs[i].f5 - recs[i].f4) (by omega) (by omega), wr (by omega) (by omega)]; exact hq.units)]
    exact ih
theorem nil2 : (wrap64 ((([] : List S33).length : Int) + (([] : List S39).length : Int)) == 0) = true := by rw [wr (by simp) (by simp)]; simp
theorem law10_pure (l0 : List S33) (bs : List S110) (now : Int) : crossbarlaw27_MeterRecordsHaveConstantRate.f 2000 l0 bs now = some true := by
  obtain ⟨b, hb, hl⟩ := few_ex l0 bs
  unfold crossbarlaw27_MeterRecordsHaveConstantRate.f
  rw [show crossbarlaw27_sane.f = some true from rfl, Option.bind_some, if_pos rfl, hb 2000 (by omega), Option.bind_some]
  cases b
  · rw [if_neg (by decide)]
  · have hl40 := hl rfl
    rw [if_pos rfl]
    unfold meter_Advance.f
    rw [if_pos (by omega), Option.bind_some]
    unfold advanceF
    by_cases hz : beginF l0 now (fun _ => true) (chkB bs) = 0
    · rw [if_pos hz]
      obtain ⟨hv, hnow, hla, hc⟩ := begin_ok hz
      by_cases hfull : 1024 < (advFold bs (nxB bs) (rtB bs) now l0).2.length
      · rw [if_pos hfull, if_neg (by decide)]
        exact congrArg some nil2
      · rw [if_neg hfull, if_pos rfl]
        have hm : ∀ m ∈ l0, 0 ≤ m.f4 ∧ m.f4 ≤ 1099511627776 := fun m hm => time_of_ok (ok_of_valid l0 [] hv m hm)
        have hg := fold_good hc hnow.2 l0 ([], []) hm (by unfold advFold at hfull; omega)
        have hg' : advFold bs (nxB bs) (rtB bs) now l0 = _ := hg
        have h2 : (advFold bs (nxB bs) (rtB bs) now l0).2.length ≤ 1024 := by omega
        rw [hg'] at h2 ⊢
        simp only [List.nil_append] at h2 ⊢
        refine l0_ok bs hc now l0 _ _ (by simp) (by simp; omega) (by omega) (fun m hmm => ?_) (fun r hr => ?_) _ 0 2000 (Nat.zero_add _) (by simp only [List.length_map]; omega)
        · obtain ⟨m0, hm0, rfl⟩ := List.mem_map.1 hmm
          have ht := hm m0 hm0
          have hlr := lastT_range (cuts_range hc hnow.2 ht.1 ht.2) ht.1 ht.2
          refine ⟨hlr.1, hlr.2, fun hf => ?_⟩
          exact (cuts_ch hc hf hnow.2 ht.1 ht.2).last
        · obtain ⟨m0, hm0, hr0⟩ := List.mem_flatMap.1 hr
          have ht := hm m0 hm0
          exact segs_all_good hc hnow.2 m0 ht.1 ht.2 r hr0
    · rw [if_neg hz, if_neg hz]
      exact congrArg some nil2
theorem law10_walk (A0 : Option Addr) (c0 : Nat) (l0 : List S33) (A1 : Option Addr) (c1 : Nat) (l1 : List S110) (a2 : Int) (w : World) (hr0 : Kd.C k33 w A0 l0.length l0) (hc0 : l0.length ≤ c0) (hr1 : Kd.C k110 w A1 l1.length l1) (hc1 : l1.length ≤ c1) :
    Calls Try.prog 10 #[.slice A0 l0.length c0, .agg #[.slice A1 l1.length c1], .int .i64 a2] w fun e w' => e = .returned (.bool true) ∧ Below w.heap.size w w' :=
  crossbarlaw27_MeterRecordsHaveConstantRate.calls 2000 A0 c0 l0 A1 c1 l1 a2 true w hr0 hc0 hr1 hc1 (law10_pure l0 l1 a2)
end Go.Proofs.Ytbfhohpbldadbaa.P
