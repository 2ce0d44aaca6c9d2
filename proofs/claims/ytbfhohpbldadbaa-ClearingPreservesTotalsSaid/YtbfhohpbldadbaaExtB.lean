import Derived.Test.YtbfhohpbldadbaaExtA
namespace Go.Proofs.Ytbfhohpbldadbaa.P
open Go.RowKit Go.Proofs.YtbfhohpbldadbaaW.PrintWords Go.Proofs.YtbfhohpbldadbaaW.PrintLast Go.Proofs.YtbfhohpbldadbaaW.PrintMore
set_option linter.unusedVariables false
set_option linter.unusedSimpArgs false

theorem cmp_calls (x0 x1 s : Int) (w : World) (h0 : 0 ≤ x0 ∧ x0 < 86400) (h1 : 0 ≤ s ∧ s < 86400) : Calls Try.prog 89 #[.agg #[.int .i64 x0, .int .i64 x1], .int .i64 s] w fun e w' => e = .returned (.int .i64 (x0 - s)) ∧ Below w.heap.size w w' := by
  obtain ⟨h0a, h0b⟩ := h0
  obtain ⟨h1a, h1b⟩ := h1
  go_enter Try.func89, Try.ntmps89
  go_wp2
  go_ret
  exact ⟨rfl, below_one _ _⟩

def Found (xs : List S110) (s : Int) (w : World) (e : Ending) (w' : World) : Prop :=
  ∃ (i : Nat) (f : Bool), e = .returned (.tuple #[.int .i64 i, .bool f]) ∧ i ≤ xs.length ∧ (∀ k (h : k < xs.length), k < i → xs[k].f0 < s) ∧ (∀ k (h : k < xs.length), i ≤ k → s ≤ xs[k].f0) ∧ (f = true ↔ ∃ h : i < xs.length, xs[i].f0 = s) ∧ Below w.heap.size w w'

set_option maxHeartbeats 1000000 in
set_option maxRecDepth 100000 in
theorem search_calls (A : Option Addr) (c : Nat) (xs : List S110) (s : Int) (w : World) (hr : Kd.C k110 w A xs.length xs) (hs0 : 0 ≤ s) (hs1 : s < 86400) (hlen : xs.length ≤ 24) (hx : ∀ k (h : k < xs.length), 0 ≤ xs[k].f0 ∧ xs[k].f0 < 86400)
    (hsort : ∀ k l (hl : l < xs.length) (hkl : k < l), (xs[k]'(by omega)).f0 < xs[l].f0) :
    Calls Try.prog 88 #[.slice A xs.length c, .int .i64 s, .func (.func 89) #[] #[]] w (Found xs s w) := by
  have HR := Lib.hid hr
  have HX := Lib.hid hx
  have HS := Lib.hid hsort
  clear hr hx hsort
  go_enter Try.func88, Try.ntmps88
  go_wp2
  go_loopw [9, 10, 11] (fun i j _ W => ∃ p q : Nat, p ≤ q ∧ q ≤ xs.length ∧ i = .int .i64 p ∧ j = .int .i64 q ∧ (∀ k (h : k < xs.length), k < p → xs[k].f0 < s) ∧ (∀ k (h : k < xs.length), q ≤ k → s ≤ xs[k].f0) ∧ Below w.heap.size w W) (fun i j _ _ => ((intOf j) - (intOf i)).toNat)
  case atStart => exact ⟨0, xs.length, Nat.zero_le _, Nat.le_refl _, rfl, rfl, fun k _ h => absurd h (by omega), fun k h h' => absurd h' (by omega), Below.refl _ _⟩
  case round =>
    obtain ⟨p, q, hpq, hq, rfl, rfl, hlo, hhi, hb⟩ := hrel
    have HLO := Lib.hid hlo
    have HHI := Lib.hid hhi
    have HB := Lib.hid hb
    clear hlo hhi hb
    by_cases hlt : p < q
    · have hh : (p + q) / 2 < xs.length := by omega
      have hh2 : p ≤ (p + q) / 2 := by omega
      have hh3 : (p + q) / 2 < q := by omega
      obtain ⟨ad, rfl, hat⟩ := B_cell (Kd.C_below HR.out HB.out) ((p + q) / 2) hh hh
      obtain ⟨m, hm⟩ : ∃ m, m = xs[(p + q) / 2] := ⟨_, rfl⟩
      rw [← hm] at hat
      have HM := Lib.hid hm
      have c0 := hat.c0; have c1 := hat.c1
      have hx := HX.out _ hh
      rw [← hm] at hx
      obtain ⟨q0, q1⟩ := hx
      clear hat hm
      go_wp2_with fail
      refine (cmp_calls m.f0 m.f1 s wr ⟨q0, q1⟩ ⟨hs0, hs1⟩).mono ?_
      rintro e w' ⟨rfl, hb⟩
      have HB2 := Lib.hid (bb HB.out hb)
      clear hb c0 c1
      by_cases hc : m.f0 < s
      · have hd : m.f0 - s < 0 := by omega
        go_wp2_with fail
        go_roundw
        case rel =>
          refine ⟨(p + q) / 2 + 1, q, by omega, hq, by go_num, rfl, ?_, HHI.out, HB2.out⟩
          intro k hk hkp
          by_cases he : k = (p + q) / 2
          · subst he
            rw [← HM.out]; exact hc
          · have := HS.out k ((p + q) / 2) hh (by omega)
            rw [← HM.out] at this
            omega
        case measure => simp [intOf]; omega
      · have hd : ¬ m.f0 - s < 0 := by omega
        go_wp2_with fail
        go_roundw
        case rel =>
          refine ⟨p, (p + q) / 2, by omega, by omega, rfl, by go_num, HLO.out, ?_, HB2.out⟩
          intro k hk hkp
          by_cases he : k = (p + q) / 2
          · subst he
            rw [← HM.out]; omega
          · have := HS.out ((p + q) / 2) k hk (by omega)
            rw [← HM.out] at this
            omega
        case measure => simp [intOf]; omega
    · obtain rfl : p = q := by omega
      by_cases hp : p < xs.length
      · obtain ⟨ad, rfl, hat⟩ := B_cell (Kd.C_below HR.out HB.out) p hp hp
        obtain ⟨m, hm⟩ : ∃ m, m = xs[p] := ⟨_, rfl⟩
        rw [← hm] at hat
        have HM := Lib.hid hm
        have c0 := hat.c0; have c1 := hat.c1
        have hx := HX.out _ hp
        rw [← hm] at hx
        obtain ⟨q0, q1⟩ := hx
        clear hat hm hlt
        go_wp2_with fail
        refine (cmp_calls m.f0 m.f1 s wr ⟨q0, q1⟩ ⟨hs0, hs1⟩).mono ?_
        rintro e w' ⟨rfl, hb⟩
        have HB2 := Lib.hid (bb HB.out hb)
        clear hb c0 c1
        go_wp2_with fail
        go_ret2
        refine ⟨p, _, rfl, hq, HLO.out, HHI.out, ?_, HB2.out⟩
        have hM := HM.out
        constructor
        · intro h
          exact ⟨hp, by rw [← hM]; have : m.f0 - s = 0 := by simpa using h
                        omega⟩
        · rintro ⟨_, h⟩
          rw [← hM] at h
          simp [h]
      · go_wp2_with fail
        go_ret2
        exact ⟨p, false, rfl, hq, HLO.out, HHI.out, by simp [hp], HB.out⟩
end Go.Proofs.Ytbfhohpbldadbaa.P
