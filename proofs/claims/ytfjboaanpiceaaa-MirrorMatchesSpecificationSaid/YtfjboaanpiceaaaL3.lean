import Derived.Test.YtfjboaanpiceaaaL3b
namespace Go.Proofs.Ytfjboaanpiceaaa.P
open Go.RowKit Go.Proofs.YtfjboaanpiceaaaW.PrintWords Go.Proofs.YtfjboaanpiceaaaW.PrintLast Go.Proofs.YtfjboaanpiceaaaW.PrintMore
set_option linter.unusedVariables false
set_option linter.unusedSimpArgs false
theorem err_any {c : Int} {w : World} {e : Ending} {w' : World} (h : RErr c w e w') : RAny 0 [] [] false c w e w' := by
  obtain ⟨A1, k1, A2, k2, rfl, hb⟩ := h
  exact ⟨A1, k1, A2, k2, rfl, Nat.zero_le _, Nat.zero_le _, C_none _ _ _, C_none _ _ _, hb⟩
theorem two_any {a : Int} {u0 u1 : Bool} {m0 m1 : Int} {r : Bool} {w : World} {e : Ending} {w' : World} (h : RTwo a u0 u1 m0 m1 r w e w') : RAny a [u0, u1] [m0, m1] r 0 w e w' := by
  obtain ⟨b1, o1, c1, b2, o2, c2, rfl, t, hb⟩ := h
  exact ⟨_, _, _, _, rfl, t.k1, t.k2, t.C1, t.C2, hb⟩
theorem refarm_any (a : Int) (A1 : Option Addr) (c1 : Nat) (l1 : List Bool) (A2 : Option Addr) (c2 : Nat) (l2 : List Int) (r : Bool) (r1 : Int) (r2 : List Bool) (r3 : List Int) (r4 : Bool) (r5 : Int) (w : World) (hr1 : Kd.C Kd.bool w A1 l1.length l1) (hc1 : l1.length ≤ c1) (hr2 : Kd.C (Kd.int .i64) w A2 l2.length l2) (hc2 : l2.length ≤ c2) (h : mirror_Arm.f a l1 l2 r = some (r1, r2, r3, r4, r5)) :
    Calls Try.prog 17 #[.agg #[.int .i64 a, .slice A1 l1.length c1, .slice A2 l2.length c2, .bool r]] w (RAny r1 r2 r3 r4 r5 w) := by
  rcases two_or l1 l2 with ⟨u0, u1, m0, m1, rfl, rfl⟩ | hn
  · obtain ⟨b1, o1, rfl, k1⟩ := C_bools hr1
    obtain ⟨b2, o2, rfl, k2⟩ := C_ints hr2
    have ht : Two w b1 o1 c1 b2 o2 c2 u0 u1 m0 m1 := ⟨hc1, hc2, by simpa [Addr.add] using k1 0 _ rfl, by simpa [Addr.add] using k1 1 _ rfl, by simpa [Addr.add] using k2 0 _ rfl, by simpa [Addr.add] using k2 1 _ rfl⟩
    unfold mirror_Arm.f at h
    cases hv : validB a u0 u1 m0 m1 r
    · simp [hv] at h
      obtain ⟨rfl, rfl, rfl, rfl, rfl⟩ := h
      exact (refarm_bad a _ c1 [u0, u1] _ c2 [m0, m1] r 1 w hr1 hc1 hr2 hc2 (by omega) (by rw [refCheck_two, hv]; rfl)).mono fun _ _ h => err_any h
    · by_cases ha : a < 0
      · have hd : decide (0 ≤ a) = false := by simp; omega
        have hna : ¬ 0 ≤ a := by omega
        simp [hv, hna] at h
        obtain ⟨rfl, rfl, rfl, rfl, rfl⟩ := h
        exact (refarm_down a b1 o1 c1 b2 o2 c2 r u0 u1 m0 m1 w ht hv ha).mono fun _ _ h => err_any h
      · have hna : 0 ≤ a := by omega
        cases r
        · simp [hv, hna] at h
          obtain ⟨rfl, rfl, rfl, rfl, rfl⟩ := h
          exact (refarm_ok a b1 o1 c1 b2 o2 c2 u0 u1 m0 m1 w ht hv hna).mono fun _ _ h => two_any h
        · simp [hv, hna] at h
          obtain ⟨rfl, rfl, rfl, rfl, rfl⟩ := h
          exact (refarm_armed a b1 o1 c1 b2 o2 c2 u0 u1 m0 m1 w ht hv hna).mono fun _ _ h => err_any h
  · rw [show mirror_Arm.f a l1 l2 r = some (0, [], [], false, 1) by
      unfold mirror_Arm.f
      split
      · simp at hn
      · rfl] at h
    simp at h
    obtain ⟨rfl, rfl, rfl, rfl, rfl⟩ := h
    exact (refarm_bad a A1 c1 l1 A2 c2 l2 r 1 w hr1 hc1 hr2 hc2 (by omega) (refCheck_not hn)).mono fun _ _ h => err_any h
def SameOK (r1 : Int) (r2 : List Bool) (r3 : List Int) (r4 : Bool) : Prop := crossbarref33_Same.f 10 r1 r2 r3 r4 r1 r2 r3 r4 = some true
theorem crash_some (a : Int) (l1 : List Bool) (l2 : List Int) (r : Bool) (i : Int) : ∃ r1 r2 r3 r4 r5, mirror_Crash.f a l1 l2 r i = some (r1, r2, r3, r4, r5) ∧ SameOK r1 r2 r3 r4 := by
  unfold mirror_Crash.f
  repeat' split
  all_goals exact ⟨_, _, _, _, _, rfl, by first | exact refSame_two _ _ _ _ _ _ | exact refSame_nil _ _⟩
theorem restore_some (a : Int) (l1 : List Bool) (l2 : List Int) (r : Bool) (i : Int) : ∃ r1 r2 r3 r4 r5, mirror_Restore.f a l1 l2 r i = some (r1, r2, r3, r4, r5) ∧ SameOK r1 r2 r3 r4 := by
  unfold mirror_Restore.f
  repeat' split
  all_goals exact ⟨_, _, _, _, _, rfl, by first | exact refSame_two _ _ _ _ _ _ | exact refSame_nil _ _⟩
theorem arm_some (a : Int) (l1 : List Bool) (l2 : List Int) (r : Bool) : ∃ r1 r2 r3 r4 r5, mirror_Arm.f a l1 l2 r = some (r1, r2, r3, r4, r5) ∧ SameOK r1 r2 r3 r4 := by
  unfold mirror_Arm.f
  repeat' split
  all_goals exact ⟨_, _, _, _, _, rfl, by first | exact refSame_two _ _ _ _ _ _ | exact refSame_nil _ _⟩
theorem apply_some (a : Int) (l1 : List Bool) (l2 : List Int) (r : Bool) : ∃ r1 r2 r3 r4 r5 r6, mirror_Apply.f a l1 l2 r = some (r1, r2, r3, r4, r5, r6) ∧ SameOK r1 r2 r3 r4 := by
  unfold mirror_Apply.f applyF
  repeat' split
  all_goals exact ⟨_, _, _, _, _, _, rfl, by first | exact refSame_two _ _ _ _ _ _ | exact refSame_nil _ _⟩
theorem check_some (a : Int) (l1 : List Bool) (l2 : List Int) (r : Bool) : ∃ c, mirror_Check.f a l1 l2 r = some c := by
  unfold mirror_Check.f
  split <;> exact ⟨_, rfl⟩

def AAny (r1 : Int) (r2 : List Bool) (r3 : List Int) (r4 d : Bool) (r5 : Int) (w : World) (e : Ending) (w' : World) : Prop := ∃ A1 k1 A2 k2, e = .returned (.tuple #[.agg #[.int .i64 r1, .slice A1 r2.length k1, .slice A2 r3.length k2, .bool r4], .bool d, .int .i64 r5]) ∧ r2.length ≤ k1 ∧ r3.length ≤ k2 ∧ Kd.C Kd.bool w' A1 r2.length r2 ∧ Kd.C (Kd.int .i64) w' A2 r3.length r3 ∧ Below w.heap.size w w'
section
variable (a : Int) (A1 : Option Addr) (c1 : Nat) (l1 : List Bool) (A2 : Option Addr) (c2 : Nat) (l2 : List Int) (r : Bool) (w : World) (hr1 : Kd.C Kd.bool w A1 l1.length l1) (hc1 : l1.length ≤ c1) (hr2 : Kd.C (Kd.int .i64) w A2 l2.length l2) (hc2 : l2.length ≤ c2) {r1 : Int} {r2 : List Bool} {r3 : List Int} {r4 d : Bool} {r5 : Int}
include hr1 hc1 hr2 hc2
theorem mapply_any (h : mirror_Apply.f a l1 l2 r = some (r1, r2, r3, r4, d, r5)) : Calls Try.prog 12 #[.agg #[.int .i64 a, .slice A1 l1.length c1, .slice A2 l2.length c2, .bool r]] w (AAny r1 r2 r3 r4 d r5 w) := by
  refine (mirror_Apply.calls a A1 c1 l1 A2 c2 l2 r r1 r2 r3 r4 d r5 w hr1 hc1 hr2 hc2 h).mono ?_
  rintro e w' ⟨v1, v2, rfl, ⟨A1, k1, rfl, hl1, hf1⟩, ⟨A2, k2, rfl, hl2, hf2⟩, hb⟩
  exact ⟨A1, k1, A2, k2, rfl, hl1, hl2, Kd.F_now hf1, Kd.F_now hf2, hb⟩
theorem rapply_any (h : mirror_Apply.f a l1 l2 r = some (r1, r2, r3, r4, d, r5)) : Calls Try.prog 13 #[.agg #[.int .i64 a, .slice A1 l1.length c1, .slice A2 l2.length c2, .bool r]] w (AAny r1 r2 r3 r4 d r5 w) := by
  refine (crossbarref33_Apply.calls 10 a A1 c1 l1 A2 c2 l2 r r1 r2 r3 r4 d r5 w hr1 hc1 hr2 hc2 (by rw [refApply_eq]; exact h)).mono ?_
  rintro e w' ⟨v1, v2, rfl, h1, h2, hb⟩
  obtain ⟨A1, c1, rfl, hl1, hc1⟩ := Kd.R_reads h1
  obtain ⟨A2, c2, rfl, hl2, hc2⟩ := Kd.R_reads h2
  exact ⟨A1, c1, A2, c2, rfl, hl1, hl2, hc1, hc2, hb⟩
theorem mcrash_any (i : Int) (h : mirror_Crash.f a l1 l2 r i = some (r1, r2, r3, r4, r5)) : Calls Try.prog 14 #[.agg #[.int .i64 a, .slice A1 l1.length c1, .slice A2 l2.length c2, .bool r], .int .i64 i] w (RAny r1 r2 r3 r4 r5 w) :=
  mirror_any (fun s1 s2 s3 s4 s5 hs => mirror_Crash.calls a A1 c1 l1 A2 c2 l2 r i s1 s2 s3 s4 s5 w hr1 hc1 hr2 hc2 hs) h
theorem rcrash_any (i : Int) (h : mirror_Crash.f a l1 l2 r i = some (r1, r2, r3, r4, r5)) : Calls Try.prog 15 #[.agg #[.int .i64 a, .slice A1 l1.length c1, .slice A2 l2.length c2, .bool r], .int .i64 i] w (RAny r1 r2 r3 r4 r5 w) :=
  ref_any (fun s1 s2 s3 s4 s5 hs => crossbarref33_Crash.calls 10 a A1 c1 l1 A2 c2 l2 r i s1 s2 s3 s4 s5 w hr1 hc1 hr2 hc2 (by rw [refCrash_eq]; exact hs)) h
theorem mrestore_any (i : Int) (h : mirror_Restore.f a l1 l2 r i = some (r1, r2, r3, r4, r5)) : Calls Try.prog 18 #[.agg #[.int .i64 a, .slice A1 l1.length c1, .slice A2 l2.length c2, .bool r], .int .i64 i] w (RAny r1 r2 r3 r4 r5 w) :=
  mirror_any (fun s1 s2 s3 s4 s5 hs => mirror_Restore.calls a A1 c1 l1 A2 c2 l2 r i s1 s2 s3 s4 s5 w hr1 hc1 hr2 hc2 hs) h
theorem rrestore_any (i : Int) (h : mirror_Restore.f a l1 l2 r i = some (r1, r2, r3, r4, r5)) : Calls Try.prog 19 #[.agg #[.int .i64 a, .slice A1 l1.length c1, .slice A2 l2.length c2, .bool r], .int .i64 i] w (RAny r1 r2 r3 r4 r5 w) :=
  ref_any (fun s1 s2 s3 s4 s5 hs => crossbarref33_Restore.calls 10 a A1 c1 l1 A2 c2 l2 r i s1 s2 s3 s4 s5 w hr1 hc1 hr2 hc2 (by rw [refRestore_eq]; exact hs)) h
theorem marm_any (h : mirror_Arm.f a l1 l2 r = some (r1, r2, r3, r4, r5)) : Calls Try.prog 16 #[.agg #[.int .i64 a, .slice A1 l1.length c1, .slice A2 l2.length c2, .bool r]] w (RAny r1 r2 r3 r4 r5 w) :=
  mirror_any (fun s1 s2 s3 s4 s5 hs => mirror_Arm.calls a A1 c1 l1 A2 c2 l2 r s1 s2 s3 s4 s5 w hr1 hc1 hr2 hc2 hs) h
end
/-- A pair that an operation has answered with. -/
structure An (w : World) (A1 : Option Addr) (k1 : Nat) (A2 : Option Addr) (k2 : Nat) (r1 : Int) (r2 : List Bool) (r3 : List Int) (r4 : Bool) : Prop where
  h1 : r2.length ≤ k1
  h2 : r3.length ≤ k2
  c1 : Kd.C Kd.bool w A1 r2.length r2
  c2 : Kd.C (Kd.int .i64) w A2 r3.length r3
theorem An.below {w w' : World} {A1 : Option Addr} {k1 : Nat} {A2 : Option Addr} {k2 : Nat} {r1 : Int} {r2 : List Bool} {r3 : List Int} {r4 : Bool} (h : An w A1 k1 A2 k2 r1 r2 r3 r4) (hb : Below w.heap.size w w') : An w' A1 k1 A2 k2 r1 r2 r3 r4 :=
  ⟨h.h1, h.h2, Kd.C_below h.c1 hb, Kd.C_below h.c2 hb⟩
theorem same_any {w : World} {r1 : Int} {r2 : List Bool} {r3 : List Int} {r4 : Bool} {A1 : Option Addr} {k1 : Nat} {A2 : Option Addr} {k2 : Nat} {B1 : Option Addr} {j1 : Nat} {B2 : Option Addr} {j2 : Nat} (x : An w A1 k1 A2 k2 r1 r2 r3 r4) (y : An w B1 j1 B2 j2 r1 r2 r3 r4) (h : SameOK r1 r2 r3 r4) :
    Calls Try.prog 20 #[.agg #[.int .i64 r1, .slice A1 r2.length k1, .slice A2 r3.length k2, .bool r4], .agg #[.int .i64 r1, .slice B1 r2.length j1, .slice B2 r3.length j2, .bool r4]] w fun e w' => e = .returned (.bool true) ∧ Below w.heap.size w w' :=
  crossbarref33_Same.calls 10 r1 A1 k1 r2 A2 k2 r3 r4 r1 B1 j1 r2 B2 j2 r3 r4 true w x.c1 x.h1 x.c2 x.h2 y.c1 y.h1 y.c2 y.h2 h
