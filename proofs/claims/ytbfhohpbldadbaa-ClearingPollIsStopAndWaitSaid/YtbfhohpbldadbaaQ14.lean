import Derived.Test.YtbfhohpbldadbaaQ15
namespace Go.Proofs.Ytbfhohpbldadbaa.P
open Go Go.RowKit Go.Proofs.YtbfhohpbldadbaaW.PrintWords Go.Proofs.YtbfhohpbldadbaaW.PrintLast Go.Proofs.YtbfhohpbldadbaaW.PrintMore
set_option linter.unusedVariables false
set_option linter.unusedSimpArgs false
/-- What a poll that is not refused makes. -/
structure PollOk (c : S61) (now : Int) (x : S61) (l : List S83) : Prop where
  eq : pollF c now = (x, l, 0)
  again : pollF x now = (x, [], 0)
  chk : clCheck x.f0 x.f1 x.f2 x.f5 = 0
  o : x.f0 = c.f0
  i : x.f3 = c.f3
  n64 : c.f0.length ≤ 64
  sized : ∀ l ∈ c.f0, l.length ≤ 1024
  each : ∀ b ∈ l, (b = ⟨c.f1, false, c.f0.headD []⟩ ∧ 0 < c.f0.length) ∨ b = ⟨c.f2, true, []⟩
  acks : (l.filter (fun b => b.f1)).length = if c.f4 = true then 1 else 0
  bats : (l.filter (fun b => !b.f1)).length ≤ 1
  two : l.length ≤ 2
theorem poll_eq {c : S61} {now : Int} (hc : clCheck c.f0 c.f1 c.f2 c.f5 = 0) (hv : oddT now = false) : pollF c now = (⟨c.f0, c.f1, c.f2, c.f3, false, if sendB c.f0 c.f5 now = true then now + 3 else c.f5⟩, pollL c.f0 c.f1 c.f2 c.f4 c.f5 now, 0) := by
  unfold pollF
  rw [if_neg (by rw [hc]; simp), if_neg (by rw [hv]; simp)]
theorem poll_cases (c : S61) (now : Int) : (∃ e, pollF c now = (z61, [], e) ∧ e ≠ 0) ∨ ∃ x l, PollOk c now x l := by
  by_cases hc : clCheck c.f0 c.f1 c.f2 c.f5 = 0
  · cases hv : oddT now
    · right
      have he := poll_eq hc hv
      obtain ⟨s1, s2, s3, s4, s5, s6, s7⟩ := check_sized hc
      have hn : 0 ≤ now ∧ now ≤ 1099511627776 := by unfold oddT at hv; simp at hv; omega
      have hck : clCheck c.f0 c.f1 c.f2 (if sendB c.f0 c.f5 now = true then now + 3 else c.f5) = 0 := by
        refine check_make s1 s2 s3 s4 s5 s6 ?_
        split
        · next h =>
          unfold sendB at h
          simp only [Bool.and_eq_true, decide_eq_true_eq] at h
          right
          omega
        · exact s7
      have hsb : sendB c.f0 (if sendB c.f0 c.f5 now = true then now + 3 else c.f5) now = false := by
        cases h : sendB c.f0 c.f5 now
        · rw [if_neg (by simp)]; exact h
        · rw [if_pos rfl]
          unfold sendB
          rw [decide_eq_false (show ¬ (now + 3 = -1) by omega), decide_eq_false (show ¬ (now + 3 ≤ now) by omega)]
          simp
      refine ⟨_, _, he, ?_, hck, rfl, rfl, s1, fun l hl => (s2 l hl).2, ?_, ?_, ?_, ?_⟩
      · rw [poll_eq (c := ⟨c.f0, c.f1, c.f2, c.f3, false, if sendB c.f0 c.f5 now = true then now + 3 else c.f5⟩) hck hv]
        unfold pollL
        simp only [hsb, Bool.false_eq_true, if_false, List.append_nil]
      · intro b hb
        unfold pollL at hb
        rcases List.mem_append.1 hb with hb | hb
        · split at hb
          · next h =>
            left
            refine ⟨List.mem_singleton.1 hb, ?_⟩
            unfold sendB at h
            simp only [Bool.and_eq_true, decide_eq_true_eq] at h
            exact h.1
          · simp at hb
        · split at hb
          · exact Or.inr (List.mem_singleton.1 hb)
          · simp at hb
      · unfold pollL
        rw [List.filter_append, List.length_append]
        cases sendB c.f0 c.f5 now <;> cases c.f4 <;> rfl
      · unfold pollL
        rw [List.filter_append, List.length_append]
        cases sendB c.f0 c.f5 now <;> cases c.f4 <;> simp
      · unfold pollL
        rw [List.length_append]
        cases sendB c.f0 c.f5 now <;> cases c.f4 <;> simp
    · refine Or.inl ⟨1, ?_, by decide⟩
      unfold pollF
      rw [if_neg (by rw [hc]; simp), if_pos hv]
  · refine Or.inl ⟨clCheck c.f0 c.f1 c.f2 c.f5, ?_, hc⟩
    unfold pollF
    rw [if_pos hc]
def cntA (l : List S83) : Nat := (l.filter (fun b => b.f1)).length
def cntB (l : List S83) : Nat := (l.filter (fun b => !b.f1)).length
theorem cntA_succ (l : List S83) (j : Nat) (hj : j < l.length) : cntA (l.take (j + 1)) = cntA (l.take j) + if (l[j]'hj).f1 = true then 1 else 0 := by
  unfold cntA
  rw [List.take_succ_eq_append_getElem hj, List.filter_append, List.length_append]
  cases h : (l[j]'hj).f1 <;> simp [h]
theorem cntB_succ (l : List S83) (j : Nat) (hj : j < l.length) : cntB (l.take (j + 1)) = cntB (l.take j) + if (l[j]'hj).f1 = true then 0 else 1 := by
  unfold cntB
  rw [List.take_succ_eq_append_getElem hj, List.filter_append, List.length_append]
  cases h : (l[j]'hj).f1 <;> simp [h]
/-- The cells of a batch in a row. -/
structure AtB83 (w : World) (a : Addr) (b : S83) (A2 : Option Addr) (k2 : Nat) : Prop where
  c0 : w.cell? a = some (.int .i64 b.f0)
  c1 : w.cell? ⟨a.block, a.off + 1, none⟩ = some (.bool b.f1)
  c2 : w.cell? ⟨a.block, a.off + 2, none⟩ = some (.slice A2 b.f2.length k2)
  le : b.f2.length ≤ k2
  cc : Kd.C k39 w A2 b.f2.length b.f2
theorem B83_cell {w : World} {A : Option Addr} {n : Nat} {xs : List S83} (h : Kd.C k83 w A n xs) (i : Nat) (hi : i < n) (hl : i < xs.length) : ∃ ad A2 c2, A = some ad ∧ AtB83 w (ad.add (i * 3)) (xs[i]'hl) A2 c2 := by
  obtain ⟨ad, A2, c2, hA, h0, h1, h2, h3, h4⟩ := at_T83 h (i : Int) (by omega) (by omega)
  have e : rd_T83 xs (i : Int) = xs[i]'hl := by unfold rd_T83; rw [Int.toNat_natCast]; exact getD_at hl _
  rw [e] at h0 h1 h2 h3 h4
  simp only [Int.toNat_natCast] at h0 h1 h2
  exact ⟨ad, A2, c2, hA, h0, h1, h2, h3, h4⟩
end Go.Proofs.Ytbfhohpbldadbaa.P
