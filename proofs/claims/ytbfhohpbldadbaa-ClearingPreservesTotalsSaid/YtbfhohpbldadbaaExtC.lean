import Derived.Test.YtbfhohpbldadbaaExtB
namespace Go.Proofs.Ytbfhohpbldadbaa.P
open Go.RowKit Go.Proofs.YtbfhohpbldadbaaW.PrintWords Go.Proofs.YtbfhohpbldadbaaW.PrintLast Go.Proofs.YtbfhohpbldadbaaW.PrintMore
set_option linter.unusedVariables false
set_option linter.unusedSimpArgs false

/-! ### tariffs -/
def goodFrom : Int → List S110 → Bool
  | _, [] => true
  | least, b :: l => decide (least ≤ b.f0) && decide (b.f0 ≤ 86399) && decide (0 ≤ b.f1) && decide (b.f1 ≤ 1000000) && goodFrom (b.f0 + 1) l
theorem good_at : ∀ (l : List S110) (least : Int), goodFrom least l = true → ∀ k (h : k < l.length), least ≤ l[k].f0 ∧ l[k].f0 ≤ 86399 ∧ 0 ≤ l[k].f1 ∧ l[k].f1 ≤ 1000000
  | [], _, _, k, h => by simp at h
  | b :: l, least, hg, k, h => by
    simp only [goodFrom, Bool.and_eq_true, decide_eq_true_eq] at hg
    obtain ⟨⟨⟨⟨g0, g1⟩, g2⟩, g3⟩, g4⟩ := hg
    match k, h with
    | 0, _ => exact ⟨g0, g1, g2, g3⟩
    | k + 1, h =>
      have := good_at l (b.f0 + 1) g4 k (by simpa using h)
      simp only [List.getElem_cons_succ]
      omega
theorem good_sorted : ∀ (l : List S110) (least : Int), goodFrom least l = true → ∀ k j (hj : j < l.length) (hkj : k < j), (l[k]'(by omega)).f0 < l[j].f0
  | [], _, _, k, j, hj, _ => by simp at hj
  | b :: l, least, hg, k, j, hj, hkj => by
    simp only [goodFrom, Bool.and_eq_true, decide_eq_true_eq] at hg
    obtain ⟨_, g4⟩ := hg
    match k, j, hj, hkj with
    | 0, j + 1, hj, _ =>
      have := good_at l (b.f0 + 1) g4 j (by simpa using hj)
      simp only [List.getElem_cons_succ, List.getElem_cons_zero]
      omega
    | k + 1, j + 1, hj, hkj =>
      have := good_sorted l (b.f0 + 1) g4 k j (by simpa using hj) (by omega)
      simpa using this
def bandIdx (l : List S110) (s : Int) : Int := ((l.takeWhile fun b => decide (b.f0 ≤ s)).length : Int) - 1
theorem takeWhile_len {α : Type} {p : α → Bool} : ∀ (l : List α) (i : Nat), i ≤ l.length → (∀ k (h : k < l.length), k < i → p l[k] = true) → (∀ h : i < l.length, p l[i] = false) → (l.takeWhile p).length = i
  | [], i, hi, _, _ => by simp at hi; simp [hi]
  | a :: l, 0, _, _, h2 => by
    have := h2 (by simp)
    simp at this
    simp [List.takeWhile_cons, this]
  | a :: l, i + 1, hi, h1, h2 => by
    have h0 := h1 0 (by simp) (by omega)
    simp only [List.getElem_cons_zero] at h0
    rw [List.takeWhile_cons, if_pos h0, List.length_cons, takeWhile_len l i (by simpa using hi) (fun k h hk => by have := h1 (k + 1) (by simpa using h) (by omega); simpa using this) (fun h => by have := h2 (by simpa using h); simpa using this)]
def tariff_band.f (l0_0 : List (S110)) (a1 : Int) : Option (Int) :=
  if goodFrom 0 l0_0 = true ∧ l0_0.length ≤ 24 ∧ 0 ≤ a1 ∧ a1 < 86400 then some (bandIdx l0_0 a1) else none

theorem tariff_band.calls (A0_0 : Option Addr) (c0_0 : Nat) (l0_0 : List (S110)) (a1 : Int) (r : Int) (w : World) (hr0_0 : Kd.C k110 w A0_0 l0_0.length l0_0) (hc0_0 : l0_0.length ≤ c0_0) (h : tariff_band.f l0_0 a1 = some r) :
    Calls Try.prog 68 #[.agg #[.slice A0_0 l0_0.length c0_0], .int .i64 a1] w fun e w' => e = .returned (.int .i64 r) ∧ Below w.heap.size w w' := by
  unfold tariff_band.f at h
  split at h
  · rename_i hg
    obtain ⟨hg, hl, ha, hb⟩ := hg
    obtain rfl := Option.some.inj h
    have HR := Lib.hid hr0_0
    have HG := Lib.hid hg
    clear h hr0_0 hc0_0 hg
    go_enter Try.func68, Try.ntmps68
    go_wp2_with fail
    refine (search_calls A0_0 c0_0 l0_0 a1 _ (Kd.C_below HR.out (below_one _ _)) ha hb hl (fun k h => by have := good_at _ _ HG.out k h; omega) (fun k l hl' hkl => good_sorted _ _ HG.out k l hl' hkl)).mono ?_
    rintro e w' ⟨i, f, rfl, hi, h1, h2, h3, hbl⟩
    have HB := Lib.hid (bb (below_one _ _) hbl)
    have H1 := Lib.hid h1; have H2 := Lib.hid h2; have H3 := Lib.hid h3
    clear hbl h1 h2 h3
    cases f
    · have HE : Hid (bandIdx l0_0 a1 = (i : Int) - 1) := Lib.hid (by
        unfold bandIdx
        rw [takeWhile_len l0_0 i hi (fun k h hk => by have := H1.out k h hk; simp; omega) (fun h => by
          have h4 := H2.out i h (Nat.le_refl _)
          have h5 : ¬ ∃ h : i < l0_0.length, l0_0[i].f0 = a1 := fun h6 => by have := H3.out.2 h6; cases this
          have h7 : ¬ l0_0[i].f0 = a1 := fun h6 => h5 ⟨h, h6⟩
          simp; omega)])
      go_wp2_with fail
      go_ret
      exact ⟨by rw [HE.out]; rfl, HB.out⟩
    · have HE : Hid (bandIdx l0_0 a1 = (i : Int)) := Lib.hid (by
        obtain ⟨hlt, he⟩ := H3.out.1 rfl
        unfold bandIdx
        rw [takeWhile_len l0_0 (i + 1) (by omega) (fun k h hk => by
          by_cases hk2 : k < i
          · have := H1.out k h hk2; simp; omega
          · obtain rfl : k = i := by omega
            simp [he]) (fun h => by
          have h4 := good_sorted _ _ HG.out i (i + 1) h (by omega)
          simp; omega)]
        simp)
      go_wp2_with fail
      go_ret
      exact ⟨by rw [HE.out]; rfl, HB.out⟩
  · cases h
/-! ### until -/
/-- The bands from the last on: what the seconds below n cost. -/
def firstR : List S110 → Int → Int → Int
  | [], _, s => s
  | b :: l, n, s => if b.f0 < n then firstR l b.f0 (s + (n - b.f0) * b.f1) else firstR l n s
def firstF (l : List S110) (n : Int) : Int := firstR l.reverse n 0
def tariff_until.f (l0_0 : List (S110)) (a1 : Int) : Option (Int) :=
  if goodFrom 0 l0_0 = true ∧ l0_0.length ≤ 24 ∧ 0 ≤ a1 ∧ a1 ≤ 1099511627776 then some (a1 / 86400 * firstF l0_0 86400 + firstF l0_0 (a1 % 86400)) else none

theorem take_succ_rev {α : Type} (l : List α) (k : Nat) (hk : k < l.length) : (l.take (k + 1)).reverse = l[k] :: (l.take k).reverse := by
  rw [List.take_succ_eq_append_getElem hk, List.reverse_append]; rfl

def IntB (P : Int → Prop) (w : World) (e : Ending) (w' : World) : Prop := ∃ n : Int, e = .returned (.int .i64 n) ∧ P n ∧ Below w.heap.size w w'
set_option maxHeartbeats 1000000 in
set_option maxRecDepth 100000 in
theorem first_calls (g : Nat) (A : Option Addr) (c : Nat) (xs : List S110) (n : Int) (w : World) (hr : Kd.C k110 w A xs.length xs) (hc0 : w.cell? ⟨g, 0, none⟩ = some (.slice A xs.length c)) (hl : xs.length ≤ 24) (hg : goodFrom 0 xs = true) (hn0 : 0 ≤ n) (hn1 : n ≤ 86400) :
    Calls Try.prog 83 #[.int .i64 n, .pointer (some ⟨g, 0, none⟩)] w (IntB (fun r => r = firstF xs n ∧ 0 ≤ r ∧ r ≤ 86400000000) w) := by
  have HR := Lib.hid hr
  have HC := Lib.hid hc0
  have HG := Lib.hid hg
  clear hr hg
  go_enter Try.func83, Try.ntmps83
  go_wp2
  clear hc0
  go_loopw [0, 3, 4, 5] (fun x s i _ W => ∃ (m t : Int) (k : Nat), x = .int .i64 m ∧ s = .int .i64 t ∧ i = .int .i64 ((k : Int) - 1) ∧ k ≤ xs.length ∧ 0 ≤ m ∧ m ≤ n ∧ 0 ≤ t ∧ t ≤ (n - m) * 1000000 ∧ firstR (xs.take k).reverse m t = firstF xs n ∧ Below w.heap.size w W) (fun _ _ i _ _ => ((intOf i) + 1).toNat)
  case atStart => exact ⟨n, 0, xs.length, rfl, rfl, rfl, Nat.le_refl _, hn0, by omega, by omega, by omega, by rw [List.take_length]; rfl, Below.refl _ _⟩
  case round =>
    obtain ⟨m, t, k, rfl, rfl, rfl, hk, hm0, hm1, ht0, ht1, hf, hb⟩ := hrel
    have HF := Lib.hid hf
    have HB := Lib.hid hb
    clear hf hb
    have hc1 := pw_cell_below HB.out HC.out
    by_cases h0 : 0 < k
    · obtain ⟨j, rfl⟩ : ∃ j, k = j + 1 := ⟨k - 1, by omega⟩
      have hj : j < xs.length := by omega
      obtain ⟨ad, rfl, hat⟩ := B_cell (Kd.C_below HR.out HB.out) j hj hj
      obtain ⟨b, hb⟩ : ∃ b, b = xs[j] := ⟨_, rfl⟩
      rw [← hb] at hat
      have HM := Lib.hid hb
      have c0 := hat.c0; have c1 := hat.c1
      have hx := good_at _ _ HG.out _ hj
      rw [← hb] at hx
      obtain ⟨q0, q1, q2, q3⟩ := hx
      have HT : Hid (firstR (b :: (xs.take j).reverse) m t = firstF xs n) := Lib.hid (by rw [hb, ← take_succ_rev xs j hj]; exact HF.out)
      clear hat hb
      by_cases hlt : b.f0 < m
      · have hmul0 : 0 ≤ (m - b.f0) * b.f1 := Int.mul_nonneg (by omega) q2
        have hmul1 : (m - b.f0) * b.f1 ≤ (m - b.f0) * 1000000 := Int.mul_le_mul_of_nonneg_left q3 (by omega)
        have hsum0 : 0 ≤ t + (m - b.f0) * b.f1 := by omega
        have hsum1 : t + (m - b.f0) * b.f1 ≤ (n - b.f0) * 1000000 := by omega
        go_wp2_with fail
        go_roundw
        case rel => exact ⟨b.f0, t + (m - b.f0) * b.f1, j, rfl, rfl, rfl, by omega, by omega, by omega, hsum0, hsum1, by have := HT.out; rw [firstR, if_pos hlt] at this; exact this, bb HB.out (below_one _ _)⟩
        case measure => first | (simp [intOf]; done) | (simp [intOf]; omega)
      · go_wp2_with fail
        go_roundw
        case rel => exact ⟨m, t, j, rfl, rfl, rfl, by omega, hm0, hm1, ht0, ht1, by have := HT.out; rw [firstR, if_neg hlt] at this; exact this, bb HB.out (below_one _ _)⟩
        case measure => first | (simp [intOf]; done) | (simp [intOf]; omega)
    · obtain rfl : k = 0 := by omega
      go_wp2_with fail
      go_ret
      exact ⟨t, rfl, ⟨by rw [← HF.out]; rfl, ht0, by omega⟩, HB.out⟩
set_option maxHeartbeats 1000000 in
theorem tariff_until.calls (A0_0 : Option Addr) (c0_0 : Nat) (l0_0 : List (S110)) (a1 : Int) (r : Int) (w : World) (hr0_0 : Kd.C k110 w A0_0 l0_0.length l0_0) (hc0_0 : l0_0.length ≤ c0_0) (h : tariff_until.f l0_0 a1 = some r) :
    Calls Try.prog 56 #[.agg #[.slice A0_0 l0_0.length c0_0], .int .i64 a1] w fun e w' => e = .returned (.int .i64 r) ∧ Below w.heap.size w w' := by
  have hmf : ∀ (fn : Fn) (first cap : Array Value) (w : World), (Instr.makeFunc fn first cap).run Try.prog w = .ok (.func fn first cap) w := fun _ _ _ _ => rfl
  unfold tariff_until.f at h
  split at h
  · rename_i hg
    obtain ⟨hg, hl, ha, hb⟩ := hg
    have HE := Lib.hid (Option.some.inj h)
    have HR := Lib.hid hr0_0
    have HG := Lib.hid hg
    clear h hr0_0 hc0_0 hg
    have HX : Hid ((w.alloc (.cells #[.slice A0_0 l0_0.length c0_0] 25)).cell? ⟨w.heap.size, 0, none⟩ = some (.slice A0_0 l0_0.length c0_0)) := Lib.hid (by rw [World.cell?_alloc_at _ _ _ _ rfl]; rfl)
    go_enter Try.func56, Try.ntmps56
    go_wp2_with fail
    refine (first_calls _ A0_0 c0_0 l0_0 86400 _ (Kd.C_below HR.out (below_one _ _)) HX.out hl HG.out (by omega) (by omega)).mono ?_
    rintro e w1 ⟨x, rfl, ⟨hx, hx0, hx1⟩, hb1⟩
    have HX2 := Lib.hid (pw_cell_below hb1 HX.out)
    have HB1 := Lib.hid (bb (below_one _ _) hb1)
    have HXE := Lib.hid hx
    clear hb1 hx
    have hd0 : 0 ≤ a1 / 86400 := by omega
    have hd1 : a1 / 86400 ≤ 12725829 := by omega
    have hm0 : 0 ≤ a1 / 86400 * x := Int.mul_nonneg hd0 hx0
    have hm1 : a1 / 86400 * x ≤ 12725829 * 86400000000 := Int.le_trans (Int.mul_le_mul_of_nonneg_right hd1 hx0) (Int.mul_le_mul_of_nonneg_left hx1 (by omega))
    go_wp2_with fail
    refine (first_calls _ A0_0 c0_0 l0_0 (a1 % 86400) _ (Kd.C_below HR.out HB1.out) HX2.out hl HG.out (by omega) (by omega)).mono ?_
    rintro e w2 ⟨y, rfl, ⟨hy, hy0, hy1⟩, hb2⟩
    have HB2 := Lib.hid (bb HB1.out hb2)
    have HYE := Lib.hid hy
    clear hb2 hy
    go_wp2_with fail
    go_ret
    exact ⟨by rw [← HE.out, ← HXE.out, ← HYE.out]; rfl, HB2.out⟩
  · cases h
end Go.Proofs.Ytbfhohpbldadbaa.P
