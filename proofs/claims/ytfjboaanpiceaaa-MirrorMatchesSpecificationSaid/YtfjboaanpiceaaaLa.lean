import Derived.Test.YtfjboaanpiceaaaExtS
import Derived.Test.YtfjboaanpiceaaaPx1
namespace Go.Proofs.Ytfjboaanpiceaaa.P
open Go.RowKit Go.Proofs.YtfjboaanpiceaaaW.PrintWords Go.Proofs.YtfjboaanpiceaaaW.PrintLast Go.Proofs.YtfjboaanpiceaaaW.PrintMore
set_option linter.unusedVariables false
set_option linter.unusedSimpArgs false

def fewB (l1 : List Bool) (l2 : List Int) : Bool := decide (l1.length ≤ 100) && decide (l2.length ≤ 100)
theorem few_calls (a : Int) (A1 : Option Addr) (c1 : Nat) (l1 : List Bool) (A2 : Option Addr) (c2 : Nat) (l2 : List Int) (r : Bool) (w : World) (hr1 : Kd.C Kd.bool w A1 l1.length l1) (hc1 : l1.length ≤ c1) (hr2 : Kd.C (Kd.int .i64) w A2 l2.length l2) (hc2 : l2.length ≤ c2) :
    Calls Try.prog 11 #[.agg #[.int .i64 a, .slice A1 l1.length c1, .slice A2 l2.length c2, .bool r]] w fun e w' => e = .returned (.bool (fewB l1 l2)) ∧ Below w.heap.size w w' := by
  refine crossbarlaw33_few.calls a A1 c1 l1 A2 c2 l2 r _ w hr1 hc1 hr2 hc2 ?_
  unfold crossbarlaw33_few.f fewB
  by_cases h : (l1.length : Int) ≤ 100
  · rw [if_pos h]
    have h' : l1.length ≤ 100 := by omega
    simp [h']
    omega
  · rw [if_neg h]
    have h' : ¬ l1.length ≤ 100 := by omega
    simp [h']

theorem oddB_no {m : Int} (h0 : 0 ≤ m) (h1 : m ≤ 1099511627776) : oddB m = false := by simp [oddB]; omega
theorem valid_up0 {u0 u1 : Bool} {m0 m1 : Int} {r : Bool} (h : validB 0 u0 u1 m0 m1 r = true) : u0 = true := by
  cases u0 <;> cases u1 <;> simp [validB] at h ⊢
theorem valid_up1 {u0 u1 : Bool} {m0 m1 : Int} {r : Bool} (h : validB 1 u0 u1 m0 m1 r = true) : u1 = true := by
  cases u0 <;> cases u1 <;> simp [validB] at h ⊢
theorem valid_both {a : Int} {m0 m1 : Int} {r : Bool} (h : validB a true true m0 m1 r = true) : m0 = m1 := by
  simp [validB] at h; exact h.2.2
def LawPost (w : World) (e : Ending) (w' : World) : Prop := e = .returned (.bool true) ∧ Below w.heap.size w w'

/-- What the operations answer: an error, or two slices of two. -/
theorem apply_cases {a : Int} {l1 : List Bool} {l2 : List Int} {r : Bool} :
    (∃ c, ¬ c = 0 ∧ applyF a l1 l2 r = some (0, [], [], false, c)) ∨
    ∃ u0 u1 m0 m1, l1 = [u0, u1] ∧ l2 = [m0, m1] ∧ validB a u0 u1 m0 m1 r = true ∧
      ((a = 0 ∧ ¬ m0 = 1099511627776 ∧ applyF a l1 l2 r = some (if r then ((if u1 then 1 else -1), [false, u1], [m0, m1], false, 0) else (0, [u0, u1], [cnt u0 m0, cnt u1 m1], false, 0))) ∨
       (a = 1 ∧ ¬ m1 = 1099511627776 ∧ applyF a l1 l2 r = some (if r then ((if u0 then 0 else -1), [u0, false], [m0, m1], false, 0) else (1, [u0, u1], [cnt u0 m0, cnt u1 m1], false, 0)))) := by
  unfold applyF
  split
  · rename_i u0 u1 m0 m1
    cases hv : validB a u0 u1 m0 m1 r
    · exact .inl ⟨1, by omega, by simp⟩
    · rcases valid_a hv with rfl | rfl | rfl
      · exact .inl ⟨330, by omega, by simp⟩
      · by_cases hm : m0 = 1099511627776
        · exact .inl ⟨2, by omega, by simp [hm]⟩
        · exact .inr ⟨u0, u1, m0, m1, rfl, rfl, hv, .inl ⟨rfl, hm, by cases r <;> simp [hm]⟩⟩
      · by_cases hm : m1 = 1099511627776
        · exact .inl ⟨2, by omega, by simp [hm]⟩
        · exact .inr ⟨u0, u1, m0, m1, rfl, rfl, hv, .inr ⟨rfl, hm, by cases r <;> simp [hm]⟩⟩
  · exact .inl ⟨1, by omega, rfl⟩
end Go.Proofs.Ytfjboaanpiceaaa.P
