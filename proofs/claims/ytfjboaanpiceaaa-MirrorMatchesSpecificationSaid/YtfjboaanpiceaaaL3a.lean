import Derived.Test.YtfjboaanpiceaaaL9
import Derived.Test.YtfjboaanpiceaaaPx2
import Derived.Test.YtfjboaanpiceaaaPx3

import Derived.Test.YtfjboaanpiceaaaPx4
import Derived.Test.YtfjboaanpiceaaaPx5
namespace Go.Proofs.Ytfjboaanpiceaaa.P
open Go.RowKit Go.Proofs.YtfjboaanpiceaaaW.PrintWords Go.Proofs.YtfjboaanpiceaaaW.PrintLast Go.Proofs.YtfjboaanpiceaaaW.PrintMore
set_option linter.unusedVariables false
set_option linter.unusedSimpArgs false
theorem two_or {α β : Type} (l1 : List α) (l2 : List β) : (∃ u0 u1 m0 m1, l1 = [u0, u1] ∧ l2 = [m0, m1]) ∨ ¬ (l1.length = 2 ∧ l2.length = 2) := by
  match l1, l2 with
  | [u0, u1], [m0, m1] => exact .inl ⟨u0, u1, m0, m1, rfl, rfl⟩
  | [], _ => exact .inr (by simp)
  | [_], _ => exact .inr (by simp)
  | _ :: _ :: _ :: _, _ => exact .inr (by simp)
  | [_, _], [] => exact .inr (by simp)
  | [_, _], [_] => exact .inr (by simp)
  | [_, _], _ :: _ :: _ :: _ => exact .inr (by simp)
theorem check_not {a : Int} {l1 : List Bool} {l2 : List Int} {r : Bool} (h : ¬ (l1.length = 2 ∧ l2.length = 2)) : mirror_Check.f a l1 l2 r = some 1 := by
  unfold mirror_Check.f
  split
  · simp at h
  · rfl
theorem refCheck_not {a : Int} {l1 : List Bool} {l2 : List Int} {r : Bool} (h : ¬ (l1.length = 2 ∧ l2.length = 2)) : crossbarref33_Check.f 10 a l1 l2 r = some 1 := by
  unfold crossbarref33_Check.f
  by_cases h1 : (l1.length : Int) = 2
  · have h2 : ((l2.length : Int) != 2) = true := by simp; omega
    rw [if_pos h1, h2]
    simp [crossbarref33_Check.j0]
  · rw [if_neg h1]
    simp [crossbarref33_Check.j0]
theorem w64_0 : wrap64 0 = 0 := by kernel_rfl
theorem w64_1 : wrap64 1 = 1 := by kernel_rfl
theorem w64_2 : wrap64 2 = 2 := by kernel_rfl
theorem refCheck_two {a : Int} {u0 u1 : Bool} {m0 m1 : Int} {r : Bool} : crossbarref33_Check.f 10 a [u0, u1] [m0, m1] r = some (if validB a u0 u1 m0 m1 r then 0 else 1) := by
  by_cases h0 : m0 < 0
  · simp [crossbarref33_Check.f, crossbarref33_Check.j0, crossbarref33_Check.l0, rd, h0, validB, oddB]
  by_cases h1 : m0 > 1099511627776
  · simp [crossbarref33_Check.f, crossbarref33_Check.j0, crossbarref33_Check.l0, rd, h0, h1, validB, oddB, show (1099511627776 : Int) < m0 from h1]
  by_cases h2 : m1 < 0
  · simp [crossbarref33_Check.f, crossbarref33_Check.j0, crossbarref33_Check.l0, rd, h0, h1, h2, w64_1, validB, oddB, show ¬ (1099511627776 : Int) < m0 from h1]
  by_cases h3 : m1 > 1099511627776
  · simp [crossbarref33_Check.f, crossbarref33_Check.j0, crossbarref33_Check.l0, rd, h0, h1, h2, h3, w64_1, validB, oddB, show ¬ (1099511627776 : Int) < m0 from h1, show (1099511627776 : Int) < m1 from h3]
  have z0 : oddB m0 = false := oddB_no (by omega) (by omega)
  have z1 : oddB m1 = false := oddB_no (by omega) (by omega)
  have h1' : ¬ (1099511627776 : Int) < m0 := h1
  have h3' : ¬ (1099511627776 : Int) < m1 := h3
  have e : crossbarref33_Check.f 10 a [u0, u1] [m0, m1] r = crossbarref33_Check.j2 6 (!u0 && !u1) a [u0, u1] [m0, m1] r := by
    cases u0 <;> cases u1 <;> simp [crossbarref33_Check.f, crossbarref33_Check.j0, crossbarref33_Check.l0, rd, rdOf, h0, h1', h2, h3', w64_1, w64_2]
  rw [e]
  unfold validB
  rw [z0, z1]
  by_cases hm : a < 0
  · by_cases ha : a = -1
    · subst ha
      cases u0 <;> cases u1 <;> cases r <;> simp [crossbarref33_Check.j2, crossbarref33_Check.j3, knownB]
    · have hk : knownB a = false := by simp [knownB]; omega
      cases u0 <;> cases u1 <;> cases r <;> simp [crossbarref33_Check.j2, crossbarref33_Check.j3, hk, ha, hm]
  · by_cases hp : a > 1
    · have ha : ¬ a = -1 := by omega
      have hk : knownB a = false := by simp [knownB]; omega
      cases u0 <;> cases u1 <;> cases r <;> simp [crossbarref33_Check.j2, crossbarref33_Check.j3, hk, ha, hm, hp]
    · have h01 : a = 0 ∨ a = 1 := by omega
      by_cases he : m0 = m1
      · rcases h01 with rfl | rfl <;> cases u0 <;> cases u1 <;> cases r <;> simp [crossbarref33_Check.j2, crossbarref33_Check.j3, knownB, rd, rdOf, he]
      · rcases h01 with rfl | rfl <;> cases u0 <;> cases u1 <;> cases r <;> simp [crossbarref33_Check.j2, crossbarref33_Check.j3, knownB, rd, rdOf, he]
theorem refCheck_eq (a : Int) (l1 : List Bool) (l2 : List Int) (r : Bool) : crossbarref33_Check.f 10 a l1 l2 r = mirror_Check.f a l1 l2 r := by
  rcases two_or l1 l2 with ⟨u0, u1, m0, m1, rfl, rfl⟩ | h
  · rw [refCheck_two]; rfl
  · rw [refCheck_not h, check_not h]

theorem crash_not {a : Int} {l1 : List Bool} {l2 : List Int} {r : Bool} {i : Int} (h : ¬ (l1.length = 2 ∧ l2.length = 2)) : mirror_Crash.f a l1 l2 r i = some (0, [], [], false, 1) := by
  unfold mirror_Crash.f
  split
  · simp at h
  · rfl
theorem restore_not {a : Int} {l1 : List Bool} {l2 : List Int} {r : Bool} {i : Int} (h : ¬ (l1.length = 2 ∧ l2.length = 2)) : mirror_Restore.f a l1 l2 r i = some (0, [], [], false, 1) := by
  unfold mirror_Restore.f
  split
  · simp at h
  · rfl
theorem apply_not {a : Int} {l1 : List Bool} {l2 : List Int} {r : Bool} (h : ¬ (l1.length = 2 ∧ l2.length = 2)) : mirror_Apply.f a l1 l2 r = some (0, [], [], false, false, 1) := by
  unfold mirror_Apply.f applyF
  split
  · simp at h
  · rfl
theorem w64_m1 : wrap64 (1 - 1) = 0 := by kernel_rfl
theorem refCrash_eq (a : Int) (l1 : List Bool) (l2 : List Int) (r : Bool) (i : Int) : crossbarref33_Crash.f 10 a l1 l2 r i = mirror_Crash.f a l1 l2 r i := by
  rcases two_or l1 l2 with ⟨u0, u1, m0, m1, rfl, rfl⟩ | h
  · unfold crossbarref33_Crash.f mirror_Crash.f
    rw [refCheck_two]
    cases hv : validB a u0 u1 m0 m1 r
    · simp [hv]
    · by_cases h0 : i < 0
      · have hk : knownB i = false := by simp [knownB]; omega
        simp [hv, hk, h0]
      · by_cases h1 : i > 1
        · have hk : knownB i = false := by simp [knownB]; omega
          simp [hv, hk, h0, h1]
        · have h01 : i = 0 ∨ i = 1 := by omega
          rcases h01 with rfl | rfl
          · cases u0
            · simp [hv, knownB, up, rdOf]
            · by_cases ha : a = 0
              · subst ha; cases u1 <;> simp [hv, knownB, up, rdOf, crossbarref33_down.f, crossbarref33_copied.f, w64_1]
              · simp [hv, knownB, up, rdOf, crossbarref33_down.f, crossbarref33_copied.f, ha]
          · cases u1
            · simp [hv, knownB, up, rdOf]
            · by_cases ha : a = 1
              · subst ha; cases u0 <;> simp [hv, knownB, up, rdOf, crossbarref33_down.f, crossbarref33_copied.f, w64_0]
              · simp [hv, knownB, up, rdOf, crossbarref33_down.f, crossbarref33_copied.f, ha]
  · rw [crash_not h]
    unfold crossbarref33_Crash.f
    rw [refCheck_not h]
    simp
theorem refRestore_eq (a : Int) (l1 : List Bool) (l2 : List Int) (r : Bool) (i : Int) : crossbarref33_Restore.f 10 a l1 l2 r i = mirror_Restore.f a l1 l2 r i := by
  rcases two_or l1 l2 with ⟨u0, u1, m0, m1, rfl, rfl⟩ | h
  · unfold crossbarref33_Restore.f mirror_Restore.f
    rw [refCheck_two]
    cases hv : validB a u0 u1 m0 m1 r
    · simp [hv]
    · by_cases h0 : i < 0
      · have hk : knownB i = false := by simp [knownB]; omega
        simp [hv, hk, h0, crossbarref33_Restore.j0]
      · by_cases h1 : i > 1
        · have hk : knownB i = false := by simp [knownB]; omega
          simp [hv, hk, h0, h1, crossbarref33_Restore.j0]
        · have h01 : i = 0 ∨ i = 1 := by omega
          rcases h01 with rfl | rfl
          · cases u0
            · by_cases ha : a = -1
              · subst ha; simp [hv, knownB, up, rdOf, rd, crossbarref33_Restore.j0, crossbarref33_copied.f]
              · obtain rfl := valid_other0 hv ha
                simp [hv, knownB, up, rdOf, rd, crossbarref33_Restore.j0, crossbarref33_copied.f]
            · simp [hv, knownB, up, rdOf, crossbarref33_Restore.j0]
          · cases u1
            · by_cases ha : a = -1
              · subst ha; simp [hv, knownB, up, rdOf, rd, crossbarref33_Restore.j0, crossbarref33_copied.f]
              · obtain rfl := valid_other1 hv ha
                simp [hv, knownB, up, rdOf, rd, crossbarref33_Restore.j0, crossbarref33_copied.f]
            · simp [hv, knownB, up, rdOf, crossbarref33_Restore.j0]
  · rw [restore_not h]
    unfold crossbarref33_Restore.f
    rw [refCheck_not h]
    simp
theorem refApply_eq (a : Int) (l1 : List Bool) (l2 : List Int) (r : Bool) : crossbarref33_Apply.f 10 a l1 l2 r = mirror_Apply.f a l1 l2 r := by
  rcases two_or l1 l2 with ⟨u0, u1, m0, m1, rfl, rfl⟩ | h
  · unfold crossbarref33_Apply.f mirror_Apply.f applyF
    rw [refCheck_two]
    cases hv : validB a u0 u1 m0 m1 r
    · simp [hv]
    · obtain ⟨⟨q0, q1⟩, p0, p1⟩ := valid_m hv
      have e0 : wrap64 (m0 + 1) = m0 + 1 := by
        rw [← i64_w]; exact IntWalk.i64_in _ (by omega)
      have e1 : wrap64 (m1 + 1) = m1 + 1 := by
        rw [← i64_w]; exact IntWalk.i64_in _ (by omega)
      rcases valid_a hv with rfl | rfl | rfl
      · simp [hv]
      · obtain rfl := valid_up0 hv
        by_cases hm : m0 = 1099511627776
        · rw [hm] at hv
          simp [hv, rd, hm]
        · have hm' : ¬ 1099511627776 ≤ m0 := by omega
          cases r <;> cases u1 <;> simp [hv, rd, rdOf, hm, hm', crossbarref33_down.f, crossbarref33_copied.f, crossbarref33_Apply.l0, w64_0, w64_1, w64_2, e0, e1, cnt]
      · obtain rfl := valid_up1 hv
        by_cases hm : m1 = 1099511627776
        · rw [hm] at hv
          simp [hv, rd, hm]
        · have hm' : ¬ 1099511627776 ≤ m1 := by omega
          cases r <;> cases u0 <;> simp [hv, rd, rdOf, hm, hm', crossbarref33_down.f, crossbarref33_copied.f, crossbarref33_Apply.l0, w64_0, w64_1, w64_2, e0, e1, cnt]
  · rw [apply_not h]
    unfold crossbarref33_Apply.f
    rw [refCheck_not h]
    simp
theorem refSame_two (a : Int) (u0 u1 : Bool) (m0 m1 : Int) (r : Bool) : crossbarref33_Same.f 10 a [u0, u1] [m0, m1] r a [u0, u1] [m0, m1] r = some true := by
  simp [crossbarref33_Same.f, crossbarref33_Same.j0, crossbarref33_Same.l0, crossbarref33_Same.l1, w64_0, w64_1, w64_2, rd, rdOf]
theorem refSame_nil (a : Int) (r : Bool) : crossbarref33_Same.f 10 a [] [] r a [] [] r = some true := by
  simp [crossbarref33_Same.f, crossbarref33_Same.j0, crossbarref33_Same.l0, crossbarref33_Same.l1]
end Go.Proofs.Ytfjboaanpiceaaa.P
