import Derived.Test.YtbfhohpbldadbaaExtT
namespace Go.Proofs.Ytbfhohpbldadbaa.P
open Go Go.RowKit Go.Proofs.YtbfhohpbldadbaaW.PrintWords Go.Proofs.YtbfhohpbldadbaaW.PrintLast Go.Proofs.YtbfhohpbldadbaaW.PrintMore
set_option linter.unusedVariables false
set_option linter.unusedSimpArgs false
/-! ### Rates and prices, second by second -/
theorem firstR_shift : ∀ (R : List S110) (n s : Int), firstR R n s = s + firstR R n 0
  | [], n, s => by simp [firstR]
  | b :: R, n, s => by
    unfold firstR
    split
    · rw [firstR_shift R b.f0 (s + (n - b.f0) * b.f1), firstR_shift R b.f0 (0 + (n - b.f0) * b.f1)]; omega
    · exact firstR_shift R n s
/-- The rate of the first band of R that begins by n. -/
def rateR : List S110 → Int → Int
  | [], _ => 0
  | b :: R, n => if b.f0 ≤ n then b.f1 else rateR R n
theorem firstR_step : ∀ (R : List S110) (n : Int), firstR R (n + 1) 0 = firstR R n 0 + rateR R n
  | [], n => by simp [firstR, rateR]
  | b :: R, n => by
    unfold firstR rateR
    by_cases h : b.f0 ≤ n
    · rw [if_pos (by omega), if_pos h, firstR_shift]
      have hm : (n + 1 - b.f0) * b.f1 = (n - b.f0) * b.f1 + b.f1 := by rw [show n + 1 - b.f0 = (n - b.f0) + 1 from by omega, Int.add_mul, Int.one_mul]
      by_cases h2 : b.f0 < n
      · rw [if_pos h2, firstR_shift R b.f0 (0 + (n - b.f0) * b.f1)]
        omega
      · have e : b.f0 = n := by omega
        rw [if_neg h2, e]
        rw [e] at hm
        simp only [Int.sub_self, Int.zero_mul] at hm
        omega
    · rw [if_neg (by omega), if_neg (by omega), if_neg h]
      exact firstR_step R n
theorem firstR_zero : ∀ (R : List S110) (n : Int), (∀ b ∈ R, n ≤ b.f0) → firstR R n 0 = 0
  | [], n, _ => rfl
  | b :: R, n, h => by
    unfold firstR
    rw [if_neg (by have := h b (by simp); omega)]
    exact firstR_zero R n (fun x hx => h x (List.mem_cons_of_mem _ hx))
theorem rateR_skip : ∀ (A B : List S110) (n : Int), (∀ b ∈ A, n < b.f0) → rateR (A ++ B) n = rateR B n
  | [], B, n, _ => rfl
  | b :: A, B, n, h => by
    show rateR (b :: (A ++ B)) n = _
    unfold rateR
    rw [if_neg (by have := h b (by simp); omega)]
    cases A with
    | nil => cases B with
      | nil => rfl
      | cons x B => rfl
    | cons x A =>
      have := rateR_skip (x :: A) B n (fun y hy => h y (List.mem_cons_of_mem _ hy))
      rw [this]
      cases B with
      | nil => rfl
      | cons y B => rfl
theorem band_at {bs : List S110} (hg : goodFrom 0 bs = true) {s : Int} {i : Nat} (hi : i < bs.length) (h0 : bs[i].f0 ≤ s) (h1 : ∀ h : i + 1 < bs.length, s < bs[i + 1].f0) : bandIdx bs s = (i : Int) := by
  have h := takeWhile_len (p := fun b : S110 => decide (b.f0 ≤ s)) bs (i + 1) (by omega) (fun k hk hlt => by
    have : bs[k].f0 ≤ bs[i].f0 := by
      rcases Nat.lt_or_eq_of_le (Nat.lt_succ_iff.1 hlt) with h | h
      · have := good_sorted bs 0 hg k i hi h; omega
      · subst h; exact Int.le_refl _
    simp only [decide_eq_true_eq]; omega) (fun h => by simp only [decide_eq_false_iff_not]; have := h1 h; omega)
  unfold bandIdx
  rw [h]
  omega
theorem rateR_band {bs : List S110} (hg : goodFrom 0 bs = true) {s : Int} {i : Nat} (hi : i < bs.length) (hb : bandIdx bs s = (i : Int)) (h0 : bs[i].f0 ≤ s) : rateR bs.reverse s = bs[i].f1 := by
  have hd : bs.take i ++ (bs[i] :: bs.drop (i + 1)) = bs := by rw [← List.drop_eq_getElem_cons hi, List.take_append_drop]
  have e : bs.reverse = (bs.drop (i + 1)).reverse ++ (bs[i] :: (bs.take i).reverse) := by
    conv => lhs; rw [← hd]
    rw [List.reverse_append, List.reverse_cons, List.append_assoc]; rfl
  rw [e, rateR_skip _ _ _ (fun b hm => ?_)]
  · unfold rateR
    rw [if_pos h0]
  · rw [List.mem_reverse] at hm
    obtain ⟨j, hj, rfl⟩ := List.mem_iff_getElem.1 hm
    rw [List.getElem_drop]
    simp only [List.length_drop] at hj
    exact band_later hg (i + 1 + j) (by omega) (by rw [hb]; omega)
theorem band_start {bs : List S110} {s : Int} {i : Nat} (hi : i < bs.length) (hb : bandIdx bs s = (i : Int)) : bs[i].f0 ≤ s := by
  have hq : (bs.takeWhile fun b => decide (b.f0 ≤ s)).length = i + 1 := by unfold bandIdx at hb; omega
  have hlt : i < (bs.takeWhile fun b => decide (b.f0 ≤ s)).length := by omega
  have hm := List.getElem_mem hlt
  have hp := List.all_eq_true.1 (List.all_takeWhile (p := fun b : S110 => decide (b.f0 ≤ s)) (l := bs)) _ hm
  have he : (bs.takeWhile fun b => decide (b.f0 ≤ s))[i] = bs[i] := by
    have := (List.takeWhile_prefix (p := fun b : S110 => decide (b.f0 ≤ s)) (l := bs)).getElem hlt
    exact this
  rw [he] at hp
  simpa using hp
/-- The price of the first t seconds. -/
def untilV (bs : List S110) (t : Int) : Int := t / 86400 * firstF bs 86400 + firstF bs (t % 86400)
theorem rt_rateR {bs : List S110} (hc : chkB bs = 0) (t : Int) : rtB bs t = rateR bs.reverse (secOf t) := by
  obtain ⟨g1, g2, g3, g4⟩ := good_of_chk hc
  obtain ⟨s0, s1⟩ := sec_range t
  obtain ⟨b0, b1⟩ := band_range g1 g3 s0
  obtain ⟨i, hi⟩ : ∃ i : Nat, bandIdx bs (secOf t) = (i : Int) := ⟨(bandIdx bs (secOf t)).toNat, by omega⟩
  have hin : i < bs.length := by omega
  rw [rateR_band g4 hin hi (band_start hin hi)]
  unfold rtB
  rw [hi, rd_at hin]
theorem firstF_zero {bs : List S110} (hg : goodFrom 0 bs = true) : firstF bs 0 = 0 := by
  unfold firstF
  refine firstR_zero _ _ (fun b hb => ?_)
  rw [List.mem_reverse] at hb
  obtain ⟨j, hj, rfl⟩ := List.mem_iff_getElem.1 hb
  exact (good_at bs 0 hg j hj).1
theorem until_step {bs : List S110} (hc : chkB bs = 0) {t : Int} (h0 : 0 ≤ t) : untilV bs (t + 1) = untilV bs t + rtB bs t := by
  obtain ⟨g1, g2, g3, g4⟩ := good_of_chk hc
  rw [rt_rateR hc t]
  have hs := firstR_step bs.reverse (secOf t)
  have hs' : firstF bs (secOf t + 1) = firstF bs (secOf t) + rateR bs.reverse (secOf t) := hs
  unfold untilV
  unfold secOf at hs' ⊢
  by_cases hw : t % 86400 + 1 < 86400
  · have e1 : (t + 1) / 86400 = t / 86400 := by omega
    have e2 : (t + 1) % 86400 = t % 86400 + 1 := by omega
    rw [e1, e2, hs']
    omega
  · have e0 : t % 86400 + 1 = 86400 := by omega
    have e1 : (t + 1) / 86400 = t / 86400 + 1 := by omega
    have e2 : (t + 1) % 86400 = 0 := by omega
    rw [e0] at hs'
    rw [e1, e2, firstF_zero g4, Int.add_mul, Int.one_mul]
    omega
theorem until_const {bs : List S110} (hc : chkB bs = 0) {r a : Int} (h0 : 0 ≤ a) : ∀ (n : Nat), (∀ u, a ≤ u → u < a + n → rtB bs u = r) → untilV bs (a + n) = untilV bs a + r * n
  | 0, _ => by simp
  | n + 1, h => by
    have ih := until_const hc h0 n (fun u hu hlt => h u hu (by omega))
    have hs := until_step hc (t := a + n) (by omega)
    rw [h (a + n) (by omega) (by omega), ih] at hs
    rw [show a + ((n + 1 : Nat) : Int) = a + n + 1 from by omega, hs]
    rw [show ((n + 1 : Nat) : Int) = (n : Int) + 1 from by omega, Int.mul_add, Int.mul_one]
    omega
theorem until_span {bs : List S110} (hc : chkB bs = 0) {r a b : Int} (h0 : 0 ≤ a) (hab : a ≤ b) (h : ∀ u, a ≤ u → u < b → rtB bs u = r) : untilV bs b = untilV bs a + r * (b - a) := by
  have := until_const hc h0 (b - a).toNat (fun u hu hlt => h u hu (by omega))
  rw [show ((b - a).toNat : Int) = b - a from by omega, show a + (b - a) = b from by omega] at this
  exact this
theorem rt_range {bs : List S110} (hc : chkB bs = 0) (t : Int) : 0 ≤ rtB bs t ∧ rtB bs t ≤ 1000000 := by
  obtain ⟨g1, g2, g3, g4⟩ := good_of_chk hc
  obtain ⟨s0, s1⟩ := sec_range t
  obtain ⟨b0, b1⟩ := band_range g1 g3 s0
  obtain ⟨i, hi⟩ : ∃ i : Nat, bandIdx bs (secOf t) = (i : Int) := ⟨(bandIdx bs (secOf t)).toNat, by omega⟩
  unfold rtB
  rw [hi, rd_at (by omega)]
  have := good_at bs 0 g4 i (by omega)
  exact ⟨this.2.2.1, this.2.2.2⟩
theorem until_mono {bs : List S110} (hc : chkB bs = 0) {a : Int} (h0 : 0 ≤ a) : ∀ (n : Nat), untilV bs a ≤ untilV bs (a + n) ∧ untilV bs (a + n) ≤ untilV bs a + 1000000 * n
  | 0 => by simp
  | n + 1 => by
    have ih := until_mono hc h0 n
    have hs := until_step hc (t := a + n) (by omega)
    have hr := rt_range hc (a + n)
    rw [show a + ((n + 1 : Nat) : Int) = a + n + 1 from by omega, hs]
    omega
theorem until_diff {bs : List S110} (hc : chkB bs = 0) {a b : Int} (h0 : 0 ≤ a) (hab : a ≤ b) : 0 ≤ untilV bs b - untilV bs a ∧ untilV bs b - untilV bs a ≤ 1000000 * (b - a) := by
  have := until_mono hc h0 (b - a).toNat
  rw [show ((b - a).toNat : Int) = b - a from by omega, show a + (b - a) = b from by omega] at this
  omega
/-- The second of a day's band. -/
theorem rt_seg {bs : List S110} (hc : chkB bs = 0) {day u : Int} {i : Nat} (hi : i < bs.length) (hd : day % 86400 = 0) (h0 : day + bs[i].f0 ≤ u) (h1 : u < day + 86400) (h2 : ∀ h : i + 1 < bs.length, u < day + bs[i + 1].f0) : rtB bs u = bs[i].f1 := by
  obtain ⟨g1, g2, g3, g4⟩ := good_of_chk hc
  have hb := good_at bs 0 g4 i hi
  have hs : secOf u = u - day := by unfold secOf; omega
  have hband := band_at g4 hi (s := secOf u) (by rw [hs]; omega) (fun h => by rw [hs]; have := h2 h; omega)
  unfold rtB
  rw [hband, rd_at hi]
theorem nxL_const {bs : List S110} (hc : chkB bs = 0) (rate : Int) : ∀ (s i : Nat) (day : Int), (hi : i < bs.length) → day % 86400 = 0 → bs[i].f1 = rate → ∀ u, day + bs[i].f0 ≤ u → u < nxL bs rate s i day → 0 ≤ day → (∃ j, j < s ∧ (rd_T110 bs (((i + 1 + j) % bs.length : Nat) : Int)).f1 ≠ rate) → rtB bs u = rate
  | 0, i, day, hi, hd, hr, u, h0, h1, hday, hw => by obtain ⟨j, hj, _⟩ := hw; omega
  | s + 1, i, day, hi, hd, hr, u, h0, h1, hday, hw => by
    obtain ⟨g1, g2, g3, g4⟩ := good_of_chk hc
    obtain ⟨j, hj, hne⟩ := hw
    unfold nxL at h1
    have hb := good_at bs 0 g4 i hi
    by_cases hwrap : i + 1 = bs.length
    · rw [if_pos hwrap] at h1
      have e0 : rd_T110 bs 0 = bs[0]'(by omega) := rd_at (i := 0) (by omega)
      by_cases hu : u < day + 86400
      · rw [← hr]; exact rt_seg hc hi hd h0 hu (fun h => by omega)
      · by_cases hr2 : (rd_T110 bs 0).f1 = rate
        · rw [if_pos hr2] at h1
          refine nxL_const hc rate s 0 (day + 86400) (by omega) (by omega) (by rw [← e0]; exact hr2) u (by rw [← e0, g3]; omega) h1 (by omega) ?_
          cases j with
          | zero => rw [Nat.add_zero, hwrap, Nat.mod_self] at hne; exact absurd hr2 hne
          | succ j => exact ⟨j, by omega, by rw [show i + 1 + (j + 1) = (0 + 1 + j) + bs.length from by omega, Nat.add_mod_right] at hne; exact hne⟩
        · rw [if_neg hr2, g3] at h1; omega
    · rw [if_neg hwrap] at h1
      have hi1 : i + 1 < bs.length := by omega
      have e1 : rd_T110 bs ((i + 1 : Nat) : Int) = bs[i + 1] := rd_at hi1
      have hb1 := good_at bs 0 g4 (i + 1) hi1
      by_cases hu : u < day + bs[i + 1].f0
      · rw [← hr]; exact rt_seg hc hi hd h0 (by omega) (fun _ => hu)
      · by_cases hr2 : (rd_T110 bs ((i + 1 : Nat) : Int)).f1 = rate
        · rw [if_pos hr2] at h1
          refine nxL_const hc rate s (i + 1) day hi1 hd (by rw [← e1]; exact hr2) u (by omega) h1 hday ?_
          cases j with
          | zero => rw [Nat.add_zero, Nat.mod_eq_of_lt (by omega)] at hne; exact absurd hr2 hne
          | succ j => exact ⟨j, by omega, by rw [show i + 1 + (j + 1) = i + 1 + 1 + j from by omega] at hne; exact hne⟩
        · rw [if_neg hr2, e1] at h1; omega
/-- The rate is constant up to the next change. -/
theorem rt_const {bs : List S110} (hc : chkB bs = 0) (hf : flatB bs = false) {t u : Int} (h0 : 0 ≤ t) (h1 : t ≤ u) (h2 : u < nxB bs t) : rtB bs u = rtB bs t := by
  obtain ⟨g1, g2, g3, g4⟩ := good_of_chk hc
  obtain ⟨s0, s1⟩ := sec_range t
  obtain ⟨b0, b1⟩ := band_range g1 g3 s0
  obtain ⟨i, hi⟩ : ∃ i : Nat, bandIdx bs (secOf t) = (i : Int) := ⟨(bandIdx bs (secOf t)).toNat, by omega⟩
  have hin : (bandIdx bs (secOf t)).toNat = i := by omega
  have hlt : i < bs.length := by omega
  have hst := band_start hlt hi
  unfold nxB at h2
  rw [hin] at h2
  refine nxL_const hc (rtB bs t) bs.length i (t - secOf t) hlt (by unfold secOf; omega) ?_ u (by omega) h2 (by unfold secOf; omega) (meets hf g1 (rtB bs t) i)
  unfold rtB
  rw [hi, rd_at hlt]
theorem rt_flat {bs : List S110} (hc : chkB bs = 0) (hf : flatB bs = true) (t u : Int) : rtB bs u = rtB bs t := by
  obtain ⟨g1, g2, g3, g4⟩ := good_of_chk hc
  have h : ∀ t, rtB bs t = (rd_T110 bs 0).f1 := fun t => by
    obtain ⟨s0, s1⟩ := sec_range t
    obtain ⟨b0, b1⟩ := band_range g1 g3 s0
    obtain ⟨i, hi⟩ : ∃ i : Nat, bandIdx bs (secOf t) = (i : Int) := ⟨(bandIdx bs (secOf t)).toNat, by omega⟩
    unfold rtB
    rw [hi, rd_at (by omega)]
    unfold flatB at hf
    simp only [Bool.not_eq_true', List.any_eq_false] at hf
    have := hf bs[i] (List.getElem_mem (by omega))
    simpa [rateNe] using this
  rw [h u, h t]
theorem price_eq {bs : List S110} (hc : chkB bs = 0) {k : Nat} (hk : 30 ≤ k) {a b : Int} (h0 : 0 ≤ a) (h1 : a ≤ b) (h2 : b ≤ 1099511627776) : tariff_Price.f k bs a b = some (untilV bs b - untilV bs a, 0) := by
  obtain ⟨g1, g2, g3, g4⟩ := good_of_chk hc
  obtain ⟨d0, d1⟩ := until_diff hc h0 h1
  obtain ⟨k, rfl⟩ : ∃ j, k = j + 1 := ⟨k - 1, by omega⟩
  unfold tariff_Price.f
  rw [check_eq bs (k + 1) (by omega), hc, Option.bind_some, if_pos rfl, if_neg (by omega), if_neg (by omega), show decide (b > 1099511627776) = false from by simp; omega]
  have hj : tariff_Price.j0 (k + 1) a b false bs = ((tariff_until.f bs b).bind fun t115 => ((tariff_until.f bs a).bind fun t116 => (some (wrap64 (t115 - t116), 0)))) := rfl
  rw [hj]
  unfold tariff_until.f
  rw [if_pos ⟨g4, g2, by omega, h2⟩, if_pos ⟨g4, g2, h0, by omega⟩]
  simp only [Option.bind_some]
  have e : ∀ t, t / 86400 * firstF bs 86400 + firstF bs (t % 86400) = untilV bs t := fun _ => rfl
  rw [e, e, wr (by omega) (by omega)]
end Go.Proofs.Ytbfhohpbldadbaa.P
