import Derived.Test.YtbfhohpbldadbaaExtQ
namespace Go.Proofs.Ytbfhohpbldadbaa.P
open Go Go.RowKit Go.Proofs.YtbfhohpbldadbaaW.PrintWords Go.Proofs.YtbfhohpbldadbaaW.PrintLast Go.Proofs.YtbfhohpbldadbaaW.PrintMore
set_option linter.unusedVariables false
set_option linter.unusedSimpArgs false
theorem wr {n : Int} (h0 : -9223372036854775808 ≤ n) (h1 : n ≤ 9223372036854775807) : wrap64 n = n := by
  unfold wrap64; omega
/-- A tariff that Check lets in. -/
def goodB (bs : List S110) : Bool := decide (1 ≤ bs.length) && decide (bs.length ≤ 24) && decide ((rd_T110 bs 0).f0 = 0) && goodFrom 0 bs
def chkB (bs : List S110) : Int := if goodB bs = true then 0 else 260
theorem rd_at {bs : List S110} {i : Nat} (h : i < bs.length) : rd_T110 bs (i : Int) = bs[i] := by
  unfold rd_T110
  rw [Int.toNat_natCast]
  exact getD_at h z110
theorem within_eq (a b c : Int) : tariff_within.f a b c = some (decide (b ≤ a) && decide (a ≤ c)) := by
  unfold tariff_within.f
  split
  · next h => simp [h]
  · next h => simp [h]
theorem check_l0 (bs : List S110) (hl : bs.length ≤ 24) : ∀ (d i k : Nat) (least : Int), i + d = bs.length → 1 ≤ i → d < k → 0 ≤ least → least ≤ 86400 → tariff_Check.l0 k least bs (bs.length : Int) (i : Int) = some (if goodFrom least (bs.drop i) = true then 0 else 260)
  | 0, i, k + 1, least, hi, h1, hk, _, _ => by
    unfold tariff_Check.l0
    rw [if_neg (by omega), List.drop_of_length_le (by omega)]
    rfl
  | d + 1, i, k + 1, least, hi, h1, hk, hm0, hm1 => by
    have hlt : i < bs.length := by omega
    unfold tariff_Check.l0
    rw [if_pos (by omega), if_pos (by omega), if_pos (by omega), if_neg (by omega), List.drop_eq_getElem_cons hlt, rd_at hlt, within_eq, within_eq]
    simp only [Option.bind_some, goodFrom]
    by_cases c1 : least ≤ bs[i].f0
    · by_cases c2 : bs[i].f0 ≤ 86399
      · by_cases c3 : 0 ≤ bs[i].f1
        · by_cases c4 : bs[i].f1 ≤ 1000000
          · have ih := check_l0 bs hl d (i + 1) k (bs[i].f0 + 1) (by omega) (by omega) (by omega) (by omega) (by omega)
            simp only [c1, c2, c3, c4, decide_true, Bool.and_self, Bool.true_and, if_true]
            rw [wr (by omega) (by omega), wr (by omega) (by omega)]
            exact ih
          · simp [c1, c2, c3, c4]
        · simp [c1, c2, c3]
      · simp [c1, c2]
    · simp [c1]
theorem check_eq (bs : List S110) (k : Nat) (hk : 26 ≤ k) : tariff_Check.f k bs = some (chkB bs) := by
  unfold tariff_Check.f chkB goodB
  rw [within_eq]
  simp only [Option.bind_some]
  by_cases c0 : 1 ≤ bs.length
  · by_cases c1 : bs.length ≤ 24
    · obtain ⟨k, rfl⟩ : ∃ j, k = j + 1 := ⟨k - 1, by omega⟩
      have hlt : 0 < bs.length := c0
      unfold tariff_Check.l0
      have e0 : rd_T110 bs 0 = bs[0] := rd_at (i := 0) hlt
      rw [if_pos (by simp; omega), if_pos (by omega), if_pos (by omega), if_pos (by omega), if_pos rfl, e0, within_eq, within_eq]
      simp only [Option.bind_some]
      have hg : goodFrom 0 bs = (decide ((0 : Int) ≤ bs[0].f0) && decide (bs[0].f0 ≤ 86399) && decide ((0 : Int) ≤ bs[0].f1) && decide (bs[0].f1 ≤ 1000000) && goodFrom (bs[0].f0 + 1) (bs.drop 1)) := by
        cases bs with
        | nil => simp at hlt
        | cons b l => rfl
      rw [hg]
      by_cases z : bs[0].f0 = 0
      · by_cases c3 : (0 : Int) ≤ bs[0].f1
        · by_cases c4 : bs[0].f1 ≤ 1000000
          · have ih := check_l0 bs c1 (bs.length - 1) 1 k (bs[0].f0 + 1) (by omega) (by omega) (by omega) (by omega) (by omega)
            have w1 : wrap64 (bs[0].f0 + 1) = bs[0].f0 + 1 := wr (by omega) (by omega)
            have w2 : wrap64 (0 + 1) = ((1 : Nat) : Int) := wr (by omega) (by omega)
            rw [w1, w2, ih]
            simp [z, c0, c1, c3, c4]
          · simp [z, c3, c4]
        · simp [z, c3]
      · simp [z]
    · rw [if_neg (by simp; omega)]
      simp [c1]
  · rw [if_neg (by simp; omega)]
    simp [c0]
/-! ### The rate and the next change -/
def secOf (t : Int) : Int := t % 86400
def rtB (bs : List S110) (t : Int) : Int := (rd_T110 bs (bandIdx bs (secOf t))).f1
/-- The next band of another rate: s steps from band i of the day that begins at day. -/
def nxL (bs : List S110) (rate : Int) : Nat → Nat → Int → Int
  | 0, _, _ => 0
  | s + 1, i, day => if i + 1 = bs.length then (if (rd_T110 bs 0).f1 = rate then nxL bs rate s 0 (day + 86400) else day + 86400 + (rd_T110 bs 0).f0) else (if (rd_T110 bs ((i + 1 : Nat) : Int)).f1 = rate then nxL bs rate s (i + 1) day else day + (rd_T110 bs ((i + 1 : Nat) : Int)).f0)
def nxB (bs : List S110) (t : Int) : Int := nxL bs (rtB bs t) bs.length (bandIdx bs (secOf t)).toNat (t - secOf t)
theorem tmod_sec {t : Int} (h : 0 ≤ t) : Int.tmod t 86400 = secOf t := by
  unfold secOf; rw [Int.tmod_eq_emod_of_nonneg h]
theorem sec_range (t : Int) : 0 ≤ secOf t ∧ secOf t < 86400 := by unfold secOf; omega
theorem good_of_chk {bs : List S110} (h : chkB bs = 0) : 1 ≤ bs.length ∧ bs.length ≤ 24 ∧ (rd_T110 bs 0).f0 = 0 ∧ goodFrom 0 bs = true := by
  unfold chkB at h
  split at h
  · next hg => simp only [goodB, Bool.and_eq_true, decide_eq_true_eq] at hg; exact ⟨hg.1.1.1, hg.1.1.2, hg.1.2, hg.2⟩
  · cases h
theorem band_range {bs : List S110} (hl : 1 ≤ bs.length) (h0 : (rd_T110 bs 0).f0 = 0) {s : Int} (hs : 0 ≤ s) : 0 ≤ bandIdx bs s ∧ bandIdx bs s < bs.length := by
  cases bs with
  | nil => simp at hl
  | cons b l =>
    have hb : b.f0 = 0 := h0
    have h1 : ((b :: l).takeWhile fun b => decide (b.f0 ≤ s)).length ≤ (b :: l).length := (List.takeWhile_sublist _).length_le
    have h2 : 1 ≤ ((b :: l).takeWhile fun b => decide (b.f0 ≤ s)).length := by
      rw [List.takeWhile_cons, if_pos (by simp; omega)]; simp
    unfold bandIdx
    omega
/-- The bands behind the one of a second begin later. -/
theorem band_later {bs : List S110} (hg : goodFrom 0 bs = true) {s : Int} : ∀ j (hj : j < bs.length), bandIdx bs s < (j : Int) → s < bs[j].f0 := fun j hj hlt => by
  have hk : ((bs.takeWhile fun b => decide (b.f0 ≤ s)).length) ≤ j := by unfold bandIdx at hlt; omega
  obtain ⟨q, hq⟩ : ∃ q, q = (bs.takeWhile fun b => decide (b.f0 ≤ s)).length := ⟨_, rfl⟩
  rw [← hq] at hk
  have hql : q < bs.length := by omega
  have hno : ¬ bs[q].f0 ≤ s := by
    have h := List.takeWhile_append_dropWhile (p := fun b : S110 => decide (b.f0 ≤ s)) (l := bs)
    have hd : bs.dropWhile (fun b => decide (b.f0 ≤ s)) ≠ [] := by
      intro e
      have := congrArg List.length h
      rw [e, List.append_nil] at this
      omega
    have hf := List.head_dropWhile_not (fun b : S110 => decide (b.f0 ≤ s)) hd
    have he : (bs.dropWhile fun b => decide (b.f0 ≤ s)).head hd = bs[q] := by
      have e2 : bs[q]? = some ((bs.dropWhile fun b => decide (b.f0 ≤ s)).head hd) := by
        conv => lhs; rw [← h]
        rw [List.getElem?_append_right (by omega), hq, Nat.sub_self, ← List.head?_eq_getElem?, List.head?_eq_some_head hd]
      rw [List.getElem?_eq_getElem hql] at e2
      exact (Option.some.inj e2).symm
    rw [he] at hf
    simpa using hf
  rcases Nat.lt_or_eq_of_le hk with h | h
  · have := good_sorted bs 0 hg q j hj h
    omega
  · subst h; omega
theorem rate_eq {bs : List S110} (hc : chkB bs = 0) {k : Nat} (hk : 26 ≤ k) {t : Int} (h0 : 0 ≤ t) (h1 : t ≤ 1099511627776) : tariff_Rate.f k bs t = some (rtB bs t, 0) := by
  obtain ⟨g1, g2, g3, g4⟩ := good_of_chk hc
  obtain ⟨s0, s1⟩ := sec_range t
  obtain ⟨b0, b1⟩ := band_range g1 g3 s0
  unfold tariff_Rate.f
  rw [check_eq bs k hk, hc, Option.bind_some, if_pos rfl, within_eq, Option.bind_some, if_pos (by simp; omega), tmod_sec h0]
  unfold tariff_band.f
  rw [if_pos ⟨g4, g2, s0, s1⟩, Option.bind_some, if_pos b0, if_pos b1]
  rfl
/-- The walk of Change's loop: it finds what nxL finds, if a band of another rate is met within s steps. -/
theorem change_l0 (bs : List S110) (rate : Int) (h24 : bs.length ≤ 24) (hb : ∀ j (h : j < bs.length), 0 ≤ bs[j].f0 ∧ bs[j].f0 ≤ 86399) : ∀ (s i k : Nat) (day cnt : Int), i < bs.length → s < k → cnt + s = bs.length → 0 ≤ cnt → 0 ≤ day → day + 86400 * s ≤ 2000000000000 →
    (∃ j, j < s ∧ (rd_T110 bs (((i + 1 + j) % bs.length : Nat) : Int)).f1 ≠ rate) → tariff_Change.l0 k 0 rate (bs.length : Int) (i : Int) day (bs.length : Int) cnt bs = some (nxL bs rate s i day, true, 0)
  | 0, i, k, day, cnt, _, _, _, _, _, _, hw => by obtain ⟨j, hj, _⟩ := hw; omega
  | s + 1, i, k + 1, day, cnt, hi, hk, hcnt, hc0, hd, hday, hw => by
    obtain ⟨j, hj, hne⟩ := hw
    unfold tariff_Change.l0 nxL
    rw [if_pos (by omega), wr (n := (i : Int) + 1) (by omega) (by omega)]
    by_cases hwrap : i + 1 = bs.length
    · rw [if_pos (by omega), if_pos (by omega), if_pos hwrap]
      have e0 : rd_T110 bs 0 = bs[0]'(by omega) := rd_at (i := 0) (by omega)
      by_cases hr : (rd_T110 bs 0).f1 = rate
      · rw [if_pos hr, if_pos hr, wr (n := day + 86400) (by omega) (by omega), wr (n := cnt + 1) (by omega) (by omega)]
        refine change_l0 bs rate h24 hb s 0 k (day + 86400) (cnt + 1) (by omega) (by omega) (by omega) (by omega) (by omega) (by omega) ?_
        cases j with
        | zero => rw [Nat.add_zero, hwrap, Nat.mod_self] at hne; exact absurd hr hne
        | succ j => exact ⟨j, by omega, by rw [show i + 1 + (j + 1) = (0 + 1 + j) + bs.length from by omega, Nat.add_mod_right] at hne; exact hne⟩
      · rw [if_neg hr, if_neg hr]
        have hb0 := hb 0 (by omega)
        rw [← e0] at hb0
        rw [wr (n := day + 86400) (by omega) (by omega), wr (by omega) (by omega)]
    · rw [if_neg (by omega), if_pos (by omega), if_pos (by omega), if_neg hwrap]
      have ec : ((i : Int) + 1) = ((i + 1 : Nat) : Int) := by omega
      rw [ec]
      by_cases hr : (rd_T110 bs ((i + 1 : Nat) : Int)).f1 = rate
      · rw [if_pos hr, if_pos hr, wr (n := cnt + 1) (by omega) (by omega)]
        refine change_l0 bs rate h24 hb s (i + 1) k day (cnt + 1) (by omega) (by omega) (by omega) (by omega) (by omega) (by omega) ?_
        cases j with
        | zero => rw [Nat.add_zero, Nat.mod_eq_of_lt (by omega)] at hne; exact absurd hr hne
        | succ j => exact ⟨j, by omega, by rw [show i + 1 + (j + 1) = i + 1 + 1 + j from by omega] at hne; exact hne⟩
      · rw [if_neg hr, if_neg hr]
        have hb1 := hb (i + 1) (by omega)
        rw [← rd_at (by omega)] at hb1
        rw [wr (by omega) (by omega)]
/-- What nxL finds lies behind the second at which it began. -/
theorem nxL_up (bs : List S110) (rate : Int) {day0 sec : Int} {i0 : Nat} (hsec : sec < 86400) (hlater : ∀ j (hj : j < bs.length), i0 < j → sec < bs[j].f0) (hb : ∀ j (h : j < bs.length), 0 ≤ bs[j].f0 ∧ bs[j].f0 ≤ 86399) : ∀ (s i : Nat) (day : Int), i < bs.length → (day0 + 86400 ≤ day ∨ (day = day0 ∧ i0 ≤ i)) →
    (∃ j, j < s ∧ (rd_T110 bs (((i + 1 + j) % bs.length : Nat) : Int)).f1 ≠ rate) → day0 + sec < nxL bs rate s i day
  | 0, i, day, _, _, hw => by obtain ⟨j, hj, _⟩ := hw; omega
  | s + 1, i, day, hi, hday, hw => by
    obtain ⟨j, hj, hne⟩ := hw
    unfold nxL
    by_cases hwrap : i + 1 = bs.length
    · rw [if_pos hwrap]
      by_cases hr : (rd_T110 bs 0).f1 = rate
      · rw [if_pos hr]
        refine nxL_up bs rate hsec hlater hb s 0 (day + 86400) (by omega) (.inl (by omega)) ?_
        cases j with
        | zero => rw [Nat.add_zero, hwrap, Nat.mod_self] at hne; exact absurd hr hne
        | succ j => exact ⟨j, by omega, by rw [show i + 1 + (j + 1) = (0 + 1 + j) + bs.length from by omega, Nat.add_mod_right] at hne; exact hne⟩
      · rw [if_neg hr]
        have e0 : rd_T110 bs 0 = bs[0]'(by omega) := rd_at (i := 0) (by omega)
        have hb0 := hb 0 (by omega)
        rw [← e0] at hb0
        omega
    · rw [if_neg hwrap]
      by_cases hr : (rd_T110 bs ((i + 1 : Nat) : Int)).f1 = rate
      · rw [if_pos hr]
        refine nxL_up bs rate hsec hlater hb s (i + 1) day (by omega) (hday.imp id (fun h => ⟨h.1, by omega⟩)) ?_
        cases j with
        | zero => rw [Nat.add_zero, Nat.mod_eq_of_lt (by omega)] at hne; exact absurd hr hne
        | succ j => exact ⟨j, by omega, by rw [show i + 1 + (j + 1) = i + 1 + 1 + j from by omega] at hne; exact hne⟩
      · rw [if_neg hr]
        have e1 : rd_T110 bs ((i + 1 : Nat) : Int) = bs[i + 1]'(by omega) := rd_at (by omega)
        have hb1 := hb (i + 1) (by omega)
        rw [← e1] at hb1
        rcases hday with h | ⟨h, h2⟩
        · omega
        · have := hlater (i + 1) (by omega) (by omega)
          rw [← e1] at this
          omega
/-- In a tariff of several rates a band of another rate is met within a day's steps. -/
theorem meets {bs : List S110} (hf : flatB bs = false) (hl : 1 ≤ bs.length) (rate : Int) (i : Nat) : ∃ j, j < bs.length ∧ (rd_T110 bs (((i + 1 + j) % bs.length : Nat) : Int)).f1 ≠ rate := by
  obtain ⟨q, hq, hne⟩ : ∃ q, q < bs.length ∧ (rd_T110 bs (q : Int)).f1 ≠ rate := by
    unfold flatB at hf
    simp only [Bool.not_eq_false', List.any_eq_true] at hf
    obtain ⟨b, hb, hbr⟩ := hf
    obtain ⟨q, hq, rfl⟩ := List.mem_iff_getElem.1 hb
    by_cases h0 : (rd_T110 bs 0).f1 = rate
    · refine ⟨q, hq, ?_⟩
      rw [rd_at hq, ← h0]
      simpa [rateNe] using hbr
    · exact ⟨0, by omega, h0⟩
  refine ⟨(q + bs.length - (i + 1) % bs.length) % bs.length, Nat.mod_lt _ (by omega), ?_⟩
  have hm : (i + 1) % bs.length < bs.length := Nat.mod_lt _ (by omega)
  have e : (i + 1 + (q + bs.length - (i + 1) % bs.length) % bs.length) % bs.length = q := by
    have hd := Nat.div_add_mod (i + 1) bs.length
    rw [Nat.add_mod_mod, show i + 1 + (q + bs.length - (i + 1) % bs.length) = q + bs.length * ((i + 1) / bs.length + 1) from by rw [Nat.mul_add, Nat.mul_one]; omega, Nat.add_mul_mod_self_left, Nat.mod_eq_of_lt hq]
  rw [e]; exact hne
theorem good_bounds {bs : List S110} (hg : goodFrom 0 bs = true) : ∀ j (h : j < bs.length), 0 ≤ bs[j].f0 ∧ bs[j].f0 ≤ 86399 := fun j h => by
  have := good_at bs 0 hg j h
  exact ⟨this.1, this.2.1⟩
theorem change_eq {bs : List S110} (hc : chkB bs = 0) (hf : flatB bs = false) {k : Nat} (hk : 26 ≤ k) {t : Int} (h0 : 0 ≤ t) (h1 : t ≤ 1099511627776) : tariff_Change.f k bs t = some (nxB bs t, true, 0) ∧ t < nxB bs t := by
  obtain ⟨g1, g2, g3, g4⟩ := good_of_chk hc
  obtain ⟨s0, s1⟩ := sec_range t
  obtain ⟨b0, b1⟩ := band_range g1 g3 s0
  obtain ⟨i, hi⟩ : ∃ i : Nat, bandIdx bs (secOf t) = (i : Int) := ⟨(bandIdx bs (secOf t)).toNat, by omega⟩
  have hin : (bandIdx bs (secOf t)).toNat = i := by omega
  have hst : 0 ≤ t - secOf t := by unfold secOf; omega
  have hmt := meets hf g1 (rtB bs t) i
  constructor
  · unfold tariff_Change.f
    rw [rate_eq hc hk h0 h1, Option.bind_some, if_pos rfl, tmod_sec h0]
    unfold tariff_band.f
    rw [if_pos ⟨g4, g2, s0, s1⟩, Option.bind_some, wr (by omega) (by omega)]
    unfold nxB
    rw [hin, hi]
    exact change_l0 bs (rtB bs t) g2 (good_bounds g4) bs.length i k (t - secOf t) 0 (by omega) (by omega) (by omega) (by omega) hst (by omega) hmt
  · have h := nxL_up bs (rtB bs t) (day0 := t - secOf t) (sec := secOf t) (i0 := i) s1 (fun j hj hlt => band_later g4 j hj (by rw [hi]; omega)) (good_bounds g4) bs.length i (t - secOf t) (by omega) (.inr ⟨rfl, Nat.le_refl _⟩) hmt
    unfold nxB
    rw [hin]
    omega
theorem tar_of {bs : List S110} (hc : chkB bs = 0) {k : Nat} (hk : 26 ≤ k) : Tar k bs (nxB bs) (rtB bs) :=
  ⟨(good_of_chk hc).1, fun t h0 h1 => rate_eq hc hk h0 h1, fun hf t h0 h1 => (change_eq hc hf hk h0 h1).1, fun hf t h0 h1 => (change_eq hc hf hk h0 h1).2⟩
end Go.Proofs.Ytbfhohpbldadbaa.P
