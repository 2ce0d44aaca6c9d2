import Derived.Test.YtbfhohpbldadbaaCmp
namespace Go.Proofs.Ytbfhohpbldadbaa.P
open Go Go.RowKit Go.Proofs.YtbfhohpbldadbaaW.PrintWords Go.Proofs.YtbfhohpbldadbaaW.PrintLast Go.Proofs.YtbfhohpbldadbaaW.PrintMore
set_option linter.unusedVariables false
set_option linter.unusedSimpArgs false
/-! ### How many cuts a day can bring -/
theorem nxL_rate {bs : List S110} (hc : chkB bs = 0) (rate : Int) : ∀ (s i : Nat) (day : Int), (hi : i < bs.length) → day % 86400 = 0 → 0 ≤ day → (∃ j, j < s ∧ (rd_T110 bs (((i + 1 + j) % bs.length : Nat) : Int)).f1 ≠ rate) → rtB bs (nxL bs rate s i day) ≠ rate
  | 0, i, day, hi, hd, hday, hw => by obtain ⟨j, hj, _⟩ := hw; omega
  | s + 1, i, day, hi, hd, hday, hw => by
    obtain ⟨g1, g2, g3, g4⟩ := good_of_chk hc
    obtain ⟨j, hj, hne⟩ := hw
    unfold nxL
    by_cases hwrap : i + 1 = bs.length
    · rw [if_pos hwrap]
      have e0 : rd_T110 bs 0 = bs[0]'(by omega) := rd_at (i := 0) (by omega)
      by_cases hr2 : (rd_T110 bs 0).f1 = rate
      · rw [if_pos hr2]
        refine nxL_rate hc rate s 0 (day + 86400) (by omega) (by omega) (by omega) ?_
        cases j with
        | zero => rw [Nat.add_zero, hwrap, Nat.mod_self] at hne; exact absurd hr2 hne
        | succ j => exact ⟨j, by omega, by rw [show i + 1 + (j + 1) = (0 + 1 + j) + bs.length from by omega, Nat.add_mod_right] at hne; exact hne⟩
      · rw [if_neg hr2, e0, rt_seg hc (i := 0) (day := day + 86400) (by omega) (by omega) (Int.le_refl _) (by rw [← e0, g3]; omega) (fun h => by have := good_sorted bs 0 g4 0 (0 + 1) h (by omega); omega), ← e0]
        exact hr2
    · rw [if_neg hwrap]
      have hi1 : i + 1 < bs.length := by omega
      have e1 : rd_T110 bs ((i + 1 : Nat) : Int) = bs[i + 1] := rd_at hi1
      have hb1 := good_at bs 0 g4 (i + 1) hi1
      by_cases hr2 : (rd_T110 bs ((i + 1 : Nat) : Int)).f1 = rate
      · rw [if_pos hr2]
        refine nxL_rate hc rate s (i + 1) day hi1 hd hday ?_
        cases j with
        | zero => rw [Nat.add_zero, Nat.mod_eq_of_lt (by omega)] at hne; exact absurd hr2 hne
        | succ j => exact ⟨j, by omega, by rw [show i + 1 + (j + 1) = i + 1 + 1 + j from by omega] at hne; exact hne⟩
      · rw [if_neg hr2, e1, rt_seg hc (i := i + 1) (day := day) hi1 hd (Int.le_refl _) (by omega) (fun h => by have := good_sorted bs 0 g4 (i + 1) (i + 1 + 1) h (by omega); omega), ← e1]
        exact hr2
theorem rt_next {bs : List S110} (hc : chkB bs = 0) (hf : flatB bs = false) {t : Int} (h0 : 0 ≤ t) : rtB bs (nxB bs t) ≠ rtB bs t := by
  obtain ⟨g1, g2, g3, g4⟩ := good_of_chk hc
  obtain ⟨s0, s1⟩ := sec_range t
  obtain ⟨b0, b1⟩ := band_range g1 g3 s0
  unfold nxB
  exact nxL_rate hc (rtB bs t) bs.length _ (t - secOf t) (by omega) (by unfold secOf; omega) (by unfold secOf; omega) (meets hf g1 _ _)
theorem takeWhile_mono {p q : S110 → Bool} (h : ∀ b, p b = true → q b = true) : ∀ (l : List S110), (l.takeWhile p).length ≤ (l.takeWhile q).length
  | [] => Nat.le_refl _
  | b :: l => by
    have ih := takeWhile_mono h l
    rw [List.takeWhile_cons, List.takeWhile_cons]
    cases hp : p b
    · simp
    · rw [h b hp]; simp; exact ih
theorem bandIdx_mono (bs : List S110) {s u : Int} (h : s ≤ u) : bandIdx bs s ≤ bandIdx bs u := by
  have := takeWhile_mono (p := fun b : S110 => decide (b.f0 ≤ s)) (q := fun b : S110 => decide (b.f0 ≤ u)) (fun b hb => by simp at hb ⊢; omega) bs
  unfold bandIdx
  omega
/-- The number of the band that holds at a time, counted from the first day. -/
def posB (bs : List S110) (t : Int) : Int := t / 86400 * (bs.length : Int) + bandIdx bs (secOf t)
theorem pos_mono {bs : List S110} (hc : chkB bs = 0) {t u : Int} (h : t ≤ u) : posB bs t ≤ posB bs u := by
  obtain ⟨g1, g2, g3, g4⟩ := good_of_chk hc
  obtain ⟨b0, b1⟩ := band_range g1 g3 (sec_range t).1
  obtain ⟨c0, c1⟩ := band_range g1 g3 (sec_range u).1
  unfold posB
  by_cases hd : t / 86400 = u / 86400
  · have := bandIdx_mono bs (s := secOf t) (u := secOf u) (by unfold secOf; omega)
    rw [hd]; omega
  · have hlt : t / 86400 + 1 ≤ u / 86400 := by omega
    have hm := Int.mul_le_mul_of_nonneg_right hlt (by omega : (0 : Int) ≤ (bs.length : Int))
    rw [Int.add_mul, Int.one_mul] at hm
    omega
theorem pos_rate {bs : List S110} (hc : chkB bs = 0) {t u : Int} (h : posB bs t = posB bs u) : rtB bs t = rtB bs u := by
  obtain ⟨g1, g2, g3, g4⟩ := good_of_chk hc
  have hb : ∀ t, posB bs t % (bs.length : Int) = bandIdx bs (secOf t) := fun t => by
    obtain ⟨b0, b1⟩ := band_range g1 g3 (sec_range t).1
    unfold posB
    rw [Int.add_comm, Int.add_mul_emod_self_right, Int.emod_eq_of_lt b0 b1]
  unfold rtB
  rw [← hb t, ← hb u, h]
theorem pos_span {bs : List S110} (hc : chkB bs = 0) {t u : Int} (h : u ≤ t + 65535) : posB bs u - posB bs t ≤ 48 := by
  obtain ⟨g1, g2, g3, g4⟩ := good_of_chk hc
  obtain ⟨b0, b1⟩ := band_range g1 g3 (sec_range t).1
  obtain ⟨c0, c1⟩ := band_range g1 g3 (sec_range u).1
  have hd : u / 86400 ≤ t / 86400 + 1 := by omega
  have hm := Int.mul_le_mul_of_nonneg_right hd (by omega : (0 : Int) ≤ (bs.length : Int))
  rw [Int.add_mul, Int.one_mul] at hm
  unfold posB
  omega
theorem pos_next {bs : List S110} (hc : chkB bs = 0) {t u : Int} (h : t ≤ u) (hr : rtB bs u ≠ rtB bs t) : posB bs t + 1 ≤ posB bs u := by
  have h1 := pos_mono hc h
  have h2 : posB bs t ≠ posB bs u := fun e => hr (pos_rate hc e).symm
  omega
theorem ch_len {bs : List S110} (hc : chkB bs = 0) (hf : flatB bs = false) {N : Int} (hN : N ≤ 1099511627776) : ∀ (L : List Int) (cur : Int), 0 ≤ cur → cur ≤ N → Ch (nxB bs) N cur L → (L.length : Int) ≤ posB bs N - posB bs cur
  | [], cur, h0, h1, _ => by have := pos_mono hc h1; simp; omega
  | y :: L, cur, h0, h1, h => by
    have hy : y = nxB bs cur := h.1
    have hup := (change_eq hc hf (Nat.le_refl 26) h0 (by omega : cur ≤ 1099511627776)).2
    have hlt : cur < y := by rw [hy]; exact hup
    have hp := pos_next hc (by omega : cur ≤ y) (by rw [hy]; exact rt_next hc hf h0)
    have ih := ch_len hc hf hN L y (by omega) h.2.1 h.2.2
    simp only [List.length_cons]
    omega
/-- A further step of less than a day cuts few records. -/
theorem cutR_few {bs : List S110} (hc : chkB bs = 0) {now N : Int} (hn : now ≤ N) (hspan : N ≤ now + 65535) (hN : N ≤ 1099511627776) {m : S33} (h0 : 0 ≤ m.f4) (h1 : m.f4 ≤ now) : (cutR bs N (cutM bs now m)).length ≤ 48 := by
  unfold cutR
  rw [segs_len]
  show (cutsOf bs (nxB bs) N (lastT m.f4 (cutsOf bs (nxB bs) now m.f4))).length ≤ 48
  cases hf : flatB bs
  · obtain ⟨cur, hcur⟩ : ∃ cur, cur = lastT m.f4 (cutsOf bs (nxB bs) now m.f4) := ⟨_, rfl⟩
    have hch := cuts_ch hc hf (by omega : now ≤ 1099511627776) h0 (by omega : m.f4 ≤ 1099511627776)
    have hl := hch.last
    have hlim := Ch.lim h1 hch
    have hr := lastT_range (cuts_range hc (by omega : now ≤ 1099511627776) h0 (by omega : m.f4 ≤ 1099511627776)) h0 (by omega)
    rw [← hcur] at hl hlim hr ⊢
    have hch2 := cuts_ch hc hf hN hr.1 (by omega : cur ≤ 1099511627776)
    have hsp := pos_span hc hspan
    generalize cutsOf bs (nxB bs) N cur = L at hch2
    cases L with
    | nil => simp
    | cons y L =>
      have hy : y = nxB bs cur := hch2.1
      have hne := rt_next hc hf hr.1
      have hnow : rtB bs now = rtB bs cur := rt_const hc hf hr.1 hlim hl
      have hp := pos_next hc (t := now) (u := y) (by omega) (by rw [hnow, hy]; exact hne)
      have := ch_len hc hf hN L y (by omega) hch2.2.1 hch2.2.2
      simp only [List.length_cons]
      omega
  · rw [cuts_flat hf]; simp
/-! ### The records from start to stop -/
structure Rec9 (bs : List S110) (m : S33) (r : S39) : Prop where
  t0 : 0 ≤ r.f4
  up : r.f4 < r.f5
  t1 : r.f5 ≤ 1099511627776
  rate : rtB bs r.f4 = r.f6
  rate' : rtB bs (r.f5 - 1) = r.f6
  g0 : r.f0 = m.f0
  g1 : r.f1 = m.f1
  g2 : r.f2 = m.f2
  g3 : r.f3 = m.f3
/-- The records follow one another from a to e. -/
def Cover (bs : List S110) (m : S33) : Int → List S39 → Int → Prop
  | a, [], e => a = e
  | a, r :: rs, e => r.f4 = a ∧ Rec9 bs m r ∧ Cover bs m r.f5 rs e
theorem Cover.app {bs : List S110} {m : S33} : ∀ {rs rs' : List S39} {a b e : Int}, Cover bs m a rs b → Cover bs m b rs' e → Cover bs m a (rs ++ rs') e
  | [], rs', a, b, e, h, h' => by have : a = b := h; subst this; exact h'
  | r :: rs, rs', a, b, e, h, h' => ⟨h.1, h.2.1, Cover.app h.2.2 h'⟩
theorem cover_segs {bs : List S110} (hc : chkB bs = 0) (hf : flatB bs = false) (m0 : S33) : ∀ (L : List Int) (m : S33), m.f0 = m0.f0 → m.f1 = m0.f1 → m.f2 = m0.f2 → m.f3 = m0.f3 → Chain (nxB bs) m.f4 L → (∀ y ∈ L, 0 ≤ y ∧ y ≤ 1099511627776) → 0 ≤ m.f4 → m.f4 ≤ 1099511627776 → Cover bs m0 m.f4 (segs (rtB bs) m L) (lastT m.f4 L)
  | [], m, _, _, _, _, _, _, _, _ => rfl
  | y :: L, m, e0, e1, e2, e3, hch, hy, h0, h1 => by
    have hy0 := hy y (by simp)
    have hup := (change_eq hc hf (Nat.le_refl 26) h0 h1).2
    have hye : y = nxB bs m.f4 := hch.1
    refine ⟨rfl, ⟨h0, by show m.f4 < y; rw [hye]; exact hup, hy0.2, rfl, ?_, e0, e1, e2, e3⟩, ?_⟩
    · show rtB bs (y - 1) = rtB bs m.f4
      exact rt_const hc hf h0 (by omega) (by omega)
    · exact cover_segs hc hf m0 L (atT m y) e0 e1 e2 e3 hch.2 (fun z hz => hy z (List.mem_cons_of_mem _ hz)) hy0.1 hy0.2
theorem cover_stop {bs : List S110} (hc : chkB bs = 0) {now : Int} (hn : now ≤ 1099511627776) {m : S33} (h0 : 0 ≤ m.f4) (h1 : m.f4 ≤ now) : Cover bs m m.f4 (stopRecs bs now m) now := by
  obtain ⟨t, ht⟩ : ∃ t, t = lastT m.f4 (cutsOf bs (nxB bs) now m.f4) := ⟨_, rfl⟩
  have hq : Cover bs m m.f4 (segs (rtB bs) m (cutsOf bs (nxB bs) now m.f4)) t ∧ 0 ≤ t ∧ t ≤ now ∧ (∀ u, t ≤ u → u < now → rtB bs u = rtB bs t) := by
    cases hf : flatB bs
    · have hch := cuts_ch hc hf hn h0 (by omega : m.f4 ≤ 1099511627776)
      have h := cover_segs hc hf m _ m rfl rfl rfl rfl hch.chain (cuts_range hc hn h0 (by omega)) h0 (by omega)
      have hr := lastT_range (cuts_range hc hn h0 (by omega : m.f4 ≤ 1099511627776)) h0 (by omega)
      have hl := Ch.lim h1 hch
      have hx := hch.last
      rw [← ht] at h hl hx hr
      exact ⟨h, hr.1, hl, fun u hu hlt => rt_const hc hf hr.1 hu (by omega)⟩
    · rw [cuts_flat hf] at ht ⊢
      have ht' : t = m.f4 := ht
      rw [ht']
      exact ⟨rfl, h0, h1, fun u _ _ => rt_flat hc hf _ _⟩
  obtain ⟨q1, q2, q3, q4⟩ := hq
  unfold stopRecs
  rw [← ht]
  refine Cover.app q1 ?_
  by_cases hlt : t < now
  · rw [if_pos hlt]
    exact ⟨rfl, ⟨q2, hlt, hn, rfl, q4 (now - 1) (by omega) (by omega), rfl, rfl, rfl, rfl⟩, rfl⟩
  · rw [if_neg hlt]
    show t = now
    omega
/-! ### The steps of the law -/
theorem and_16 (a : Int) : 0 ≤ Go.bits .and .i64 a 65535 ∧ Go.bits .and .i64 a 65535 ≤ 65535 := by
  have h : (BitVec.ofInt 64 a &&& BitVec.ofInt 64 65535).toNat < 65536 := by
    rw [BitVec.toNat_and]
    have e : (BitVec.ofInt 64 65535).toNat = 2 ^ 16 - 1 := by decide
    rw [e, Nat.and_two_pow_sub_one_eq_mod]
    omega
  show 0 ≤ IntKind.wrap .i64 ((BitVec.ofInt 64 a &&& BitVec.ofInt 64 65535).toNat : Int) ∧ IntKind.wrap .i64 ((BitVec.ofInt 64 a &&& BitVec.ofInt 64 65535).toNat : Int) ≤ 65535
  rw [i64_w]
  generalize (BitVec.ofInt 64 a &&& BitVec.ofInt 64 65535).toNat = q at h
  unfold wrap64
  omega
theorem start_nil (m : S33) : ((startF [] m).2 = 0 ∧ (startF [] m).1 = [m] ∧ okOne m = true) ∨ ((startF [] m).2 = 1 ∧ (startF [] m).1 = []) := by
  unfold startF
  by_cases h1 : (validB [] && validB [m]) = true
  · rw [if_pos h1, if_neg (by simp), if_neg (by decide)]
    simp only [Bool.and_eq_true, validB, validFrom] at h1
    exact .inl ⟨rfl, rfl, h1.2.1.1⟩
  · rw [if_neg h1]; exact .inr ⟨rfl, rfl⟩
theorem valid_one {m : S33} (h : okOne m = true) : validB [m] = true := by
  unfold validB
  simp [validFrom, h, hasK]
theorem cut_start {bs : List S110} (m : S33) : cutM bs m.f4 m = m ∧ cutR bs m.f4 m = [] := by
  have : cutsOf bs (nxB bs) m.f4 m.f4 = [] := by
    unfold cutsOf
    split
    · rfl
    · rw [Int.sub_self]; rfl
  unfold cutM cutR
  rw [this]
  exact ⟨by cases m; rfl, rfl⟩
theorem adv_9 {bs : List S110} (hc : chkB bs = 0) {m : S33} (hm : okOne m = true) {now N : Int} (h1 : m.f4 ≤ now) (hn : now ≤ N) (hspan : N ≤ now + 65535) (hN : N ≤ 1099511627776) :
    advanceF [cutM bs now m] bs (nxB bs) (rtB bs) N (chkB bs) = ([cutM bs N m], cutR bs N (cutM bs now m), 0) ∧ cutR bs N m = cutR bs now m ++ cutR bs N (cutM bs now m) ∧ (cutR bs N (cutM bs now m)).length ≤ 48 := by
  have ht := time_of_ok hm
  obtain ⟨hb, _⟩ := begin_two (l := [m]) hc (valid_one hm) (by omega) hn hN (fun x hx => by rw [List.mem_singleton] at hx; subst hx; exact h1) (fun _ => true)
  rw [List.map_singleton] at hb
  have hfew := cutR_few hc hn hspan hN ht.1 h1
  have h2 := cutM_two hc hn hN ht.1 ht.2
  refine ⟨?_, h2.2, hfew⟩
  have hfit := adv_fit (bs := bs) (now := N) [cutM bs now m] ([], []) (by simp; omega)
  have hg := adv_good (bs := bs) (now := N) [cutM bs now m] ([], []) hfit
  unfold advanceF
  rw [if_pos hb]
  have e : advFold bs (nxB bs) (rtB bs) N [cutM bs now m] = ([cutM bs N m], cutR bs N (cutM bs now m)) := by
    unfold advFold; rw [hg]; simp [h2.1]
  rw [e, if_neg (by simp only; omega)]
theorem stop_9 {bs : List S110} (hc : chkB bs = 0) {m : S33} (hm : okOne m = true) {now : Int} (h1 : m.f4 ≤ now) (hN : now ≤ 1099511627776) :
    stopF [cutM bs now m] bs (nxB bs) (rtB bs) m.f0 now (chkB bs) = ([], stopRecs bs now (cutM bs now m), 0) ∧ stopRecs bs now m = cutR bs now m ++ stopRecs bs now (cutM bs now m) ∧ (stopRecs bs now (cutM bs now m)).length ≤ 1 := by
  have ht := time_of_ok hm
  obtain ⟨hb, _⟩ := begin_two (l := [m]) hc (valid_one hm) (by omega) (Int.le_refl now) hN (fun x hx => by rw [List.mem_singleton] at hx; subst hx; exact h1) (isRef m.f0)
  rw [List.map_singleton] at hb
  have ho : oddT m.f0 = false := by
    simp only [okOne, Bool.and_eq_true, Bool.not_eq_true', Bool.or_eq_false_iff] at hm
    exact hm.1.1.1.1.1.1
  have hi : isRef m.f0 (cutM bs now m) = true := by show (m.f0 == m.f0) = true; simp
  have hlen : (stopRecs bs now (cutM bs now m)).length ≤ 1 := by
    have h0 := cutM_again hc hN ht.1 ht.2
    unfold cutR at h0
    unfold stopRecs
    rw [h0, List.nil_append]
    split <;> simp
  refine ⟨?_, stopRecs_two hc (Int.le_refl now) hN ht.1 ht.2, hlen⟩
  have hfit := stop_fit (bs := bs) (ref := m.f0) (now := now) [cutM bs now m] ([], []) (by simp [hi]; omega)
  have hg := stop_good (bs := bs) (ref := m.f0) (now := now) [cutM bs now m] ([], []) hfit
  have e : stopFold bs (nxB bs) (rtB bs) m.f0 now [cutM bs now m] = ([], stopRecs bs now (cutM bs now m)) := by
    unfold stopFold; rw [hg]; simp [hi]
  unfold stopF
  rw [if_neg (by rw [ho]; decide), if_pos hb, if_pos (by simp [hi]), e, if_neg (by simp only; omega)]
end Go.Proofs.Ytbfhohpbldadbaa.P
