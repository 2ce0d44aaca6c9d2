import Derived.Test.YtfjboaanpiceaaaLa
namespace Go.Proofs.Ytfjboaanpiceaaa.P
open Go.RowKit Go.Proofs.YtfjboaanpiceaaaW.PrintWords Go.Proofs.YtfjboaanpiceaaaW.PrintLast Go.Proofs.YtfjboaanpiceaaaW.PrintMore
set_option linter.unusedVariables false
set_option linter.unusedSimpArgs false
set_option linter.unusedVariables false
set_option linter.unusedSimpArgs false

/-- What Check answers: an error, or OK on a valid pair. -/
theorem check_cases {a : Int} {l1 : List Bool} {l2 : List Int} {r : Bool} :
    (∃ c, ¬ c = 0 ∧ mirror_Check.f a l1 l2 r = some c) ∨
    ∃ u0 u1 m0 m1, l1 = [u0, u1] ∧ l2 = [m0, m1] ∧ validB a u0 u1 m0 m1 r = true := by
  unfold mirror_Check.f
  split
  · rename_i u0 u1 m0 m1
    cases hv : validB a u0 u1 m0 m1 r
    · exact .inl ⟨1, by omega, by simp⟩
    · exact .inr ⟨u0, u1, m0, m1, rfl, rfl, hv⟩
  · exact .inl ⟨1, by omega, rfl⟩
theorem C_none {α : Type} (d : Kd α) (w : World) (A : Option Addr) : d.C w A ([] : List α).length [] := ⟨rfl, by simp, fun h => absurd h (Nat.lt_irrefl 0)⟩

set_option maxHeartbeats 1000000 in
theorem law8_big (a : Int) (A1 : Option Addr) (c1 : Nat) (l1 : List Bool) (A2 : Option Addr) (c2 : Nat) (l2 : List Int) (r : Bool) (w : World) (hr1 : Kd.C Kd.bool w A1 l1.length l1) (hc1 : l1.length ≤ c1) (hr2 : Kd.C (Kd.int .i64) w A2 l2.length l2) (hc2 : l2.length ≤ c2) (hf : fewB l1 l2 = false) : Calls Try.prog 8 #[.agg #[.int .i64 a, .slice A1 l1.length c1, .slice A2 l2.length c2, .bool r]] w (LawPost w) := by
  have H1 := Lib.hid hr1; have K1 := Lib.hid hc1; have H2 := Lib.hid hr2; have K2 := Lib.hid hc2
  clear hr1 hc1 hr2 hc2
  have HFEW := Lib.hid hf
  clear hf
  go_enter Try.func8, Try.ntmps8
  go_wp2_with fail
  refine (sane_calls _).mono ?_
  rintro e w1 ⟨rfl, hb⟩
  have DX := Lib.hid ((DBlk.new w (a := a) (s1 := .slice A1 l1.length c1) (s2 := .slice A2 l2.length c2) (r := r)).below hb)
  have B1 := Lib.hid (bb (below_one _ _) hb)
  clear hb
  have d0 := DX.out.c0; have d1 := DX.out.c1; have d2 := DX.out.c2; have d3 := DX.out.c3
  go_wp2_with fail
  refine (few_calls a _ _ l1 _ _ l2 r _ (Kd.C_below H1.out B1.out) K1.out (Kd.C_below H2.out B1.out) K2.out).mono ?_
  rintro e w2 ⟨rfl, hb⟩
  replace DX := Lib.hid (DX.out.below hb)
  have B2 := Lib.hid (bb B1.out hb)
  clear hb d0 d1 d2 d3 B1
  rw [HFEW.out]
  have d0 := DX.out.c0; have d1 := DX.out.c1; have d2 := DX.out.c2; have d3 := DX.out.c3
  go_wp2_with fail
  go_ret
  exact ⟨rfl, B2.out⟩

set_option maxHeartbeats 1000000 in
theorem law8_odd (a : Int) (A1 : Option Addr) (c1 : Nat) (l1 : List Bool) (A2 : Option Addr) (c2 : Nat) (l2 : List Int) (r : Bool) (c : Int) (w : World) (hr1 : Kd.C Kd.bool w A1 l1.length l1) (hc1 : l1.length ≤ c1) (hr2 : Kd.C (Kd.int .i64) w A2 l2.length l2) (hc2 : l2.length ≤ c2) (hf : fewB l1 l2 = true) (hc : ¬ c = 0) (h : mirror_Check.f a l1 l2 r = some c) : Calls Try.prog 8 #[.agg #[.int .i64 a, .slice A1 l1.length c1, .slice A2 l2.length c2, .bool r]] w (LawPost w) := by
  have H1 := Lib.hid hr1; have K1 := Lib.hid hc1; have H2 := Lib.hid hr2; have K2 := Lib.hid hc2
  clear hr1 hc1 hr2 hc2
  have HFEW := Lib.hid hf
  have HC := Lib.hid hc
  have HA := Lib.hid h
  clear hf hc h
  go_enter Try.func8, Try.ntmps8
  go_wp2_with fail
  refine (sane_calls _).mono ?_
  rintro e w1 ⟨rfl, hb⟩
  have DX := Lib.hid ((DBlk.new w (a := a) (s1 := .slice A1 l1.length c1) (s2 := .slice A2 l2.length c2) (r := r)).below hb)
  have B1 := Lib.hid (bb (below_one _ _) hb)
  clear hb
  have d0 := DX.out.c0; have d1 := DX.out.c1; have d2 := DX.out.c2; have d3 := DX.out.c3
  go_wp2_with fail
  refine (few_calls a _ _ l1 _ _ l2 r _ (Kd.C_below H1.out B1.out) K1.out (Kd.C_below H2.out B1.out) K2.out).mono ?_
  rintro e w2 ⟨rfl, hb⟩
  replace DX := Lib.hid (DX.out.below hb)
  have B2 := Lib.hid (bb B1.out hb)
  clear hb d0 d1 d2 d3 B1
  rw [HFEW.out]
  have d0 := DX.out.c0; have d1 := DX.out.c1; have d2 := DX.out.c2; have d3 := DX.out.c3
  go_wp2_with fail
  refine (mirror_Check.calls a _ _ l1 _ _ l2 r c _ (Kd.C_below H1.out B2.out) K1.out (Kd.C_below H2.out B2.out) K2.out HA.out).mono ?_
  rintro e w3 ⟨rfl, hb⟩
  have B3 := Lib.hid (bb B2.out hb)
  clear hb d0 d1 d2 d3
  have hb0 : (c == 0) = false := by simpa using HC.out
  have hb1 : (c != 0) = true := by simpa using HC.out
  go_wp2_with fail
  go_ret
  exact ⟨rfl, B3.out⟩

set_option maxHeartbeats 4000000 in
theorem law8_armed (b1 o1 c1 b2 o2 c2 : Nat) (a : Int) (u0 u1 : Bool) (m0 m1 : Int) (w : World) (ht : Two w b1 o1 c1 b2 o2 c2 u0 u1 m0 m1) (hv : validB a u0 u1 m0 m1 true = true) : Calls Try.prog 8 #[.agg #[.int .i64 a, .slice (some ⟨b1, o1, none⟩) 2 c1, .slice (some ⟨b2, o2, none⟩) 2 c2, .bool true]] w (LawPost w) := by
  have H1 := Lib.hid ht.C1; have K1 := Lib.hid ht.k1; have H2 := Lib.hid ht.C2; have K2 := Lib.hid ht.k2
  have T0 := Lib.hid ht
  have HFEW : Hid (fewB [u0, u1] [m0, m1] = true) := Lib.hid rfl
  have HV := Lib.hid hv
  clear hv
  clear ht
  go_enter Try.func8, Try.ntmps8
  go_wp2_with fail
  refine (sane_calls _).mono ?_
  rintro e w1 ⟨rfl, hb⟩
  have DX := Lib.hid ((DBlk.new w (a := a) (s1 := .slice (some ⟨b1, o1, none⟩) 2 c1) (s2 := .slice (some ⟨b2, o2, none⟩) 2 c2) (r := true)).below hb)
  have B1 := Lib.hid (bb (below_one _ _) hb)
  clear hb
  have d0 := DX.out.c0; have d1 := DX.out.c1; have d2 := DX.out.c2; have d3 := DX.out.c3
  go_wp2_with fail
  refine (few_calls a _ _ [u0, u1] _ _ [m0, m1] true _ (Kd.C_below H1.out B1.out) K1.out (Kd.C_below H2.out B1.out) K2.out).mono ?_
  rintro e w2 ⟨rfl, hb⟩
  replace DX := Lib.hid (DX.out.below hb)
  have B2 := Lib.hid (bb B1.out hb)
  clear hb d0 d1 d2 d3 B1
  rw [HFEW.out]
  have d0 := DX.out.c0; have d1 := DX.out.c1; have d2 := DX.out.c2; have d3 := DX.out.c3
  go_wp2_with fail
  refine (check_two a _ _ _ _ _ _ true u0 u1 m0 m1 _ (T0.out.below B2.out)).mono ?_
  rintro e w3 ⟨rfl, hb⟩
  have B3 := Lib.hid (bb B2.out hb)
  replace DX := Lib.hid (DX.out.below hb)
  have T3 := Lib.hid (T0.out.below B3.out)
  clear hb d0 d1 d2 d3
  have d0 := DX.out.c0; have d1 := DX.out.c1; have d2 := DX.out.c2; have d3 := DX.out.c3
  have f0 := T3.out.x0; have f1 := T3.out.x1
  rw [if_pos HV.out]
  go_wp2_with fail
  go_ret
  exact ⟨rfl, B3.out⟩

set_option maxHeartbeats 4000000 in
theorem law8_zero (b1 o1 c1 b2 o2 c2 : Nat) (a : Int) (u1 : Bool) (m0 m1 : Int) (w : World) (ht : Two w b1 o1 c1 b2 o2 c2 false u1 m0 m1) (hv : validB a false u1 m0 m1 false = true) : Calls Try.prog 8 #[.agg #[.int .i64 a, .slice (some ⟨b1, o1, none⟩) 2 c1, .slice (some ⟨b2, o2, none⟩) 2 c2, .bool false]] w (LawPost w) := by
  have H1 := Lib.hid ht.C1; have K1 := Lib.hid ht.k1; have H2 := Lib.hid ht.C2; have K2 := Lib.hid ht.k2
  have T0 := Lib.hid ht
  have HFEW : Hid (fewB [false, u1] [m0, m1] = true) := Lib.hid rfl
  have HV := Lib.hid hv
  clear hv
  clear ht
  go_enter Try.func8, Try.ntmps8
  go_wp2_with fail
  refine (sane_calls _).mono ?_
  rintro e w1 ⟨rfl, hb⟩
  have DX := Lib.hid ((DBlk.new w (a := a) (s1 := .slice (some ⟨b1, o1, none⟩) 2 c1) (s2 := .slice (some ⟨b2, o2, none⟩) 2 c2) (r := false)).below hb)
  have B1 := Lib.hid (bb (below_one _ _) hb)
  clear hb
  have d0 := DX.out.c0; have d1 := DX.out.c1; have d2 := DX.out.c2; have d3 := DX.out.c3
  go_wp2_with fail
  refine (few_calls a _ _ [false, u1] _ _ [m0, m1] false _ (Kd.C_below H1.out B1.out) K1.out (Kd.C_below H2.out B1.out) K2.out).mono ?_
  rintro e w2 ⟨rfl, hb⟩
  replace DX := Lib.hid (DX.out.below hb)
  have B2 := Lib.hid (bb B1.out hb)
  clear hb d0 d1 d2 d3 B1
  rw [HFEW.out]
  have d0 := DX.out.c0; have d1 := DX.out.c1; have d2 := DX.out.c2; have d3 := DX.out.c3
  go_wp2_with fail
  refine (check_two a _ _ _ _ _ _ false false u1 m0 m1 _ (T0.out.below B2.out)).mono ?_
  rintro e w3 ⟨rfl, hb⟩
  have B3 := Lib.hid (bb B2.out hb)
  replace DX := Lib.hid (DX.out.below hb)
  have T3 := Lib.hid (T0.out.below B3.out)
  clear hb d0 d1 d2 d3
  have d0 := DX.out.c0; have d1 := DX.out.c1; have d2 := DX.out.c2; have d3 := DX.out.c3
  have f0 := T3.out.x0; have f1 := T3.out.x1
  rw [if_pos HV.out]
  go_wp2_with fail
  go_ret
  exact ⟨rfl, B3.out⟩

set_option maxHeartbeats 4000000 in
theorem law8_one (b1 o1 c1 b2 o2 c2 : Nat) (a : Int) (m0 m1 : Int) (w : World) (ht : Two w b1 o1 c1 b2 o2 c2 true false m0 m1) (hv : validB a true false m0 m1 false = true) : Calls Try.prog 8 #[.agg #[.int .i64 a, .slice (some ⟨b1, o1, none⟩) 2 c1, .slice (some ⟨b2, o2, none⟩) 2 c2, .bool false]] w (LawPost w) := by
  have H1 := Lib.hid ht.C1; have K1 := Lib.hid ht.k1; have H2 := Lib.hid ht.C2; have K2 := Lib.hid ht.k2
  have T0 := Lib.hid ht
  have HFEW : Hid (fewB [true, false] [m0, m1] = true) := Lib.hid rfl
  have HV := Lib.hid hv
  clear hv
  clear ht
  go_enter Try.func8, Try.ntmps8
  go_wp2_with fail
  refine (sane_calls _).mono ?_
  rintro e w1 ⟨rfl, hb⟩
  have DX := Lib.hid ((DBlk.new w (a := a) (s1 := .slice (some ⟨b1, o1, none⟩) 2 c1) (s2 := .slice (some ⟨b2, o2, none⟩) 2 c2) (r := false)).below hb)
  have B1 := Lib.hid (bb (below_one _ _) hb)
  clear hb
  have d0 := DX.out.c0; have d1 := DX.out.c1; have d2 := DX.out.c2; have d3 := DX.out.c3
  go_wp2_with fail
  refine (few_calls a _ _ [true, false] _ _ [m0, m1] false _ (Kd.C_below H1.out B1.out) K1.out (Kd.C_below H2.out B1.out) K2.out).mono ?_
  rintro e w2 ⟨rfl, hb⟩
  replace DX := Lib.hid (DX.out.below hb)
  have B2 := Lib.hid (bb B1.out hb)
  clear hb d0 d1 d2 d3 B1
  rw [HFEW.out]
  have d0 := DX.out.c0; have d1 := DX.out.c1; have d2 := DX.out.c2; have d3 := DX.out.c3
  go_wp2_with fail
  refine (check_two a _ _ _ _ _ _ false true false m0 m1 _ (T0.out.below B2.out)).mono ?_
  rintro e w3 ⟨rfl, hb⟩
  have B3 := Lib.hid (bb B2.out hb)
  replace DX := Lib.hid (DX.out.below hb)
  have T3 := Lib.hid (T0.out.below B3.out)
  clear hb d0 d1 d2 d3
  have d0 := DX.out.c0; have d1 := DX.out.c1; have d2 := DX.out.c2; have d3 := DX.out.c3
  have f0 := T3.out.x0; have f1 := T3.out.x1
  rw [if_pos HV.out]
  go_wp2_with fail
  go_ret
  exact ⟨rfl, B3.out⟩

set_option maxHeartbeats 4000000 in
theorem law8_zl (b1 o1 c1 b2 o2 c2 : Nat) (m : Int) (w : World) (ht : Two w b1 o1 c1 b2 o2 c2 true true m m) (hlim : m = 1099511627776) : Calls Try.prog 8 #[.agg #[.int .i64 0, .slice (some ⟨b1, o1, none⟩) 2 c1, .slice (some ⟨b2, o2, none⟩) 2 c2, .bool false]] w (LawPost w) := by
  have H1 := Lib.hid ht.C1; have K1 := Lib.hid ht.k1; have H2 := Lib.hid ht.C2; have K2 := Lib.hid ht.k2
  have T0 := Lib.hid ht
  have HFEW : Hid (fewB [true, true] [m, m] = true) := Lib.hid rfl
  have HV : Hid (validB 0 true true m m false = true) := Lib.hid (by simp [validB, knownB, oddB, hlim])
  have HW : Hid (validB 0 true true m m true = true) := Lib.hid (by simp [validB, knownB, oddB, hlim])
  have HA : Hid (applyF 0 [true, true] [m, m] false = some (0, [], [], false, 2)) := Lib.hid (by have hv := HV.out; simp only [applyF, hv]; simp [hlim])
  have HR : Hid (mirror_Arm.f 0 [true, true] [m, m] false = some (0, [true, true], [m, m], true, 0)) := Lib.hid (by simp [mirror_Arm.f, HV.out])
  have HB : Hid (applyF 0 [true, true] [m, m] true = some (0, [], [], false, 2)) := Lib.hid (by have hv := HW.out; simp only [applyF, hv]; simp [hlim])
  have HC : Hid (applyF 0 [] [] false = some (0, [], [], false, 1)) := Lib.hid rfl
  clear hlim
  clear ht
  go_enter Try.func8, Try.ntmps8
  go_wp2_with fail
  refine (sane_calls _).mono ?_
  rintro e w1 ⟨rfl, hb⟩
  have DX := Lib.hid ((DBlk.new w (a := 0) (s1 := .slice (some ⟨b1, o1, none⟩) 2 c1) (s2 := .slice (some ⟨b2, o2, none⟩) 2 c2) (r := false)).below hb)
  have B1 := Lib.hid (bb (below_one _ _) hb)
  clear hb
  have d0 := DX.out.c0; have d1 := DX.out.c1; have d2 := DX.out.c2; have d3 := DX.out.c3
  go_wp2_with fail
  refine (few_calls 0 _ _ [true, true] _ _ [m, m] false _ (Kd.C_below H1.out B1.out) K1.out (Kd.C_below H2.out B1.out) K2.out).mono ?_
  rintro e w2 ⟨rfl, hb⟩
  replace DX := Lib.hid (DX.out.below hb)
  have B2 := Lib.hid (bb B1.out hb)
  clear hb d0 d1 d2 d3 B1
  rw [HFEW.out]
  have d0 := DX.out.c0; have d1 := DX.out.c1; have d2 := DX.out.c2; have d3 := DX.out.c3
  go_wp2_with fail
  refine (check_two 0 _ _ _ _ _ _ false true true m m _ (T0.out.below B2.out)).mono ?_
  rintro e w3 ⟨rfl, hb⟩
  have B3 := Lib.hid (bb B2.out hb)
  replace DX := Lib.hid (DX.out.below hb)
  have T3 := Lib.hid (T0.out.below B3.out)
  clear hb d0 d1 d2 d3
  have d0 := DX.out.c0; have d1 := DX.out.c1; have d2 := DX.out.c2; have d3 := DX.out.c3
  have f0 := T3.out.x0; have f1 := T3.out.x1
  rw [if_pos HV.out]
  go_wp2_with fail
  clear d0 d1 d2 d3 f0 f1
  refine (apply_err 0 _ _ [true, true] _ _ [m, m] false 2 _ T3.out.C1 T3.out.k1 T3.out.C2 T3.out.k2 (by decide) HA.out).mono ?_
  rintro e w4 ⟨xA, xk, xB, xl, rfl, hb⟩
  have B4 := Lib.hid (bb B3.out hb)
  have DB := Lib.hid (DX.out.below hb)
  clear hb
  have d0 := fun o => (DB.out.alloc o).c0; have d1 := fun o => (DB.out.alloc o).c1; have d2 := fun o => (DB.out.alloc o).c2; have d3 := fun o => (DB.out.alloc o).c3
  go_wp2_with fail
  clear d0 d1 d2 d3
  refine (arm_two 0 _ _ _ _ _ _ false true true m m 0 true true m m true _ (T0.out.below (bb B4.out (below_one _ _))) HR.out).mono ?_
  rintro e w5 ⟨y1, y2, y3, y4, y5, y6, rfl, t, hb⟩
  have B5 := Lib.hid (bb B4.out (bb (below_one _ _) hb))
  have TA := Lib.hid t
  clear t hb
  go_wp2_with fail
  refine (apply_err 0 _ _ [true, true] _ _ [m, m] true 2 _ (TA.out.below (below_one _ _)).C1 TA.out.k1 (TA.out.below (below_one _ _)).C2 TA.out.k2 (by decide) HB.out).mono ?_
  rintro e w6 ⟨zA, zk, zB, zl, rfl, hb⟩
  have B6 := Lib.hid (bb B5.out (bb (below_one _ _) hb))
  clear hb
  go_wp2_with fail
  refine (apply_err 0 _ _ [] _ _ [] false 1 _ (C_none _ _ _) (Nat.zero_le _) (C_none _ _ _) (Nat.zero_le _) (by decide) HC.out).mono ?_
  rintro e w7 ⟨sA, sk, sB, sl, rfl, hb⟩
  have B7 := Lib.hid (bb B6.out (bb (below_one _ _) hb))
  clear hb
  go_wp2_with fail
  go_ret
  exact ⟨rfl, below_alloc B7.out _⟩

set_option maxHeartbeats 4000000 in
theorem law8_zk (b1 o1 c1 b2 o2 c2 : Nat) (m : Int) (w : World) (ht : Two w b1 o1 c1 b2 o2 c2 true true m m) (q0 : 0 ≤ m) (q1 : m ≤ 1099511627776) (hlim : ¬ m = 1099511627776) : Calls Try.prog 8 #[.agg #[.int .i64 0, .slice (some ⟨b1, o1, none⟩) 2 c1, .slice (some ⟨b2, o2, none⟩) 2 c2, .bool false]] w (LawPost w) := by
  have H1 := Lib.hid ht.C1; have K1 := Lib.hid ht.k1; have H2 := Lib.hid ht.C2; have K2 := Lib.hid ht.k2
  have T0 := Lib.hid ht
  have HFEW : Hid (fewB [true, true] [m, m] = true) := Lib.hid rfl
  have z0 := oddB_no q0 q1
  have z2 : oddB (m + 1) = false := oddB_no (by omega) (by omega)
  have HV : Hid (validB 0 true true m m false = true) := Lib.hid (by simp [validB, z0, knownB])
  have HW : Hid (validB 0 true true m m true = true) := Lib.hid (by simp [validB, z0, knownB])
  have HX : Hid (validB 1 false true m m false = true) := Lib.hid (by simp [validB, z0, knownB])
  have HA : Hid (applyF 0 [true, true] [m, m] false = some (0, [true, true], [m + 1, m + 1], false, 0)) := Lib.hid (by simp [applyF, HV.out, hlim, cnt])
  have HR : Hid (mirror_Arm.f 0 [true, true] [m, m] false = some (0, [true, true], [m, m], true, 0)) := Lib.hid (by simp [mirror_Arm.f, HV.out])
  have HB : Hid (applyF 0 [true, true] [m, m] true = some (1, [false, true], [m, m], false, 0)) := Lib.hid (by simp [applyF, HW.out, hlim, cnt])
  have HC : Hid (applyF 1 [false, true] [m, m] false = some (1, [false, true], [m, (m + 1)], false, 0)) := Lib.hid (by simp [applyF, HX.out, hlim, cnt])
  clear z0 z2 hlim
  clear ht
  go_enter Try.func8, Try.ntmps8
  go_wp2_with fail
  refine (sane_calls _).mono ?_
  rintro e w1 ⟨rfl, hb⟩
  have DX := Lib.hid ((DBlk.new w (a := 0) (s1 := .slice (some ⟨b1, o1, none⟩) 2 c1) (s2 := .slice (some ⟨b2, o2, none⟩) 2 c2) (r := false)).below hb)
  have B1 := Lib.hid (bb (below_one _ _) hb)
  clear hb
  have d0 := DX.out.c0; have d1 := DX.out.c1; have d2 := DX.out.c2; have d3 := DX.out.c3
  go_wp2_with fail
  refine (few_calls 0 _ _ [true, true] _ _ [m, m] false _ (Kd.C_below H1.out B1.out) K1.out (Kd.C_below H2.out B1.out) K2.out).mono ?_
  rintro e w2 ⟨rfl, hb⟩
  replace DX := Lib.hid (DX.out.below hb)
  have B2 := Lib.hid (bb B1.out hb)
  clear hb d0 d1 d2 d3 B1
  rw [HFEW.out]
  have d0 := DX.out.c0; have d1 := DX.out.c1; have d2 := DX.out.c2; have d3 := DX.out.c3
  go_wp2_with fail
  refine (check_two 0 _ _ _ _ _ _ false true true m m _ (T0.out.below B2.out)).mono ?_
  rintro e w3 ⟨rfl, hb⟩
  have B3 := Lib.hid (bb B2.out hb)
  replace DX := Lib.hid (DX.out.below hb)
  have T3 := Lib.hid (T0.out.below B3.out)
  clear hb d0 d1 d2 d3
  have d0 := DX.out.c0; have d1 := DX.out.c1; have d2 := DX.out.c2; have d3 := DX.out.c3
  have f0 := T3.out.x0; have f1 := T3.out.x1
  rw [if_pos HV.out]
  go_wp2_with fail
  clear d0 d1 d2 d3 f0 f1
  refine (apply_two 0 _ _ _ _ _ _ false true true m m 0 true true (m + 1) (m + 1) false _ T3.out HA.out).mono ?_
  rintro e w4 ⟨x1, x2, x3, x4, x5, x6, rfl, t, hb⟩
  have B4 := Lib.hid (bb B3.out hb)
  have DB := Lib.hid (DX.out.below hb)
  have TX := Lib.hid t
  clear hb t
  have d0 := fun o => (DB.out.alloc o).c0; have d1 := fun o => (DB.out.alloc o).c1; have d2 := fun o => (DB.out.alloc o).c2; have d3 := fun o => (DB.out.alloc o).c3
  go_wp2_with fail
  clear d0 d1 d2 d3
  refine (arm_two 0 _ _ _ _ _ _ false true true m m 0 true true m m true _ (T0.out.below (bb B4.out (below_one _ _))) HR.out).mono ?_
  rintro e w5 ⟨y1, y2, y3, y4, y5, y6, rfl, t, hb⟩
  have hc := bb (below_one _ _) hb
  have DXX := Lib.hid ((((DBlk.new w4) : DBlk (w4.alloc (.cells #[.int .i64 0, .slice (some ⟨x1, x2, none⟩) 2 x3, .slice (some ⟨x4, x5, none⟩) 2 x6, .bool false] 25)) _ _ _ _ _)).below hb)
  have B5 := Lib.hid (bb B4.out hc)
  have DB5 := Lib.hid (DB.out.below hc)
  have TX5 := Lib.hid (TX.out.below hc)
  have TA := Lib.hid t
  clear t hb hc
  go_wp2_with fail
  refine (apply_two 0 _ _ _ _ _ _ true true true m m 1 false true m m false _ (TA.out.below (below_one _ _)) HB.out).mono ?_
  rintro e w6 ⟨z1, z2, z3, z4, z5, z6, rfl, t, hb⟩
  have hc := bb (below_one _ _) hb
  have B6 := Lib.hid (bb B5.out hc)
  have DXX6 := Lib.hid (DXX.out.below hc)
  have DB6 := Lib.hid (DB5.out.below hc)
  have TX6 := Lib.hid (TX5.out.below hc)
  have TY := Lib.hid t
  clear t hb hc
  go_wp2_with fail
  refine (apply_two 1 _ _ _ _ _ _ false false true m m 1 false true m (m + 1) false _ (TY.out.below (below_one _ _)) HC.out).mono ?_
  rintro e w7 ⟨s1, s2, s3, s4, s5, s6, rfl, t, hb⟩
  have hc := bb (below_one _ _) hb
  have B7 := Lib.hid (bb B6.out hc)
  have DXX7 := Lib.hid (DXX6.out.below hc)
  have DB7 := Lib.hid (DB6.out.below hc)
  have TX7 := Lib.hid (TX6.out.below hc)
  have TZ := Lib.hid t
  clear t hb hc
  have d0 := fun o => (DB7.out.alloc o).c0; have d1 := fun o => (DB7.out.alloc o).c1; have d2 := fun o => (DB7.out.alloc o).c2; have d3 := fun o => (DB7.out.alloc o).c3
  have e0 := fun o => (DXX7.out.alloc o).c0; have e1 := fun o => (DXX7.out.alloc o).c1; have e2 := fun o => (DXX7.out.alloc o).c2; have e3 := fun o => (DXX7.out.alloc o).c3
  have f0 := fun o => (TX7.out.below (below_one _ o)).y0; have f1 := fun o => (TX7.out.below (below_one _ o)).y1
  have g0 := fun o => (TZ.out.below (below_one _ o)).y0; have g1 := fun o => (TZ.out.below (below_one _ o)).y1
  go_wp2_with fail
  go_quiet (fail)
  go_wp2_with fail
  go_ret
  exact ⟨rfl, bb B7.out (pw_below_drewN (below_one _ _) _)⟩

set_option maxHeartbeats 4000000 in
theorem law8_ol (b1 o1 c1 b2 o2 c2 : Nat) (m : Int) (w : World) (ht : Two w b1 o1 c1 b2 o2 c2 true true m m) (hlim : m = 1099511627776) : Calls Try.prog 8 #[.agg #[.int .i64 1, .slice (some ⟨b1, o1, none⟩) 2 c1, .slice (some ⟨b2, o2, none⟩) 2 c2, .bool false]] w (LawPost w) := by
  have H1 := Lib.hid ht.C1; have K1 := Lib.hid ht.k1; have H2 := Lib.hid ht.C2; have K2 := Lib.hid ht.k2
  have T0 := Lib.hid ht
  have HFEW : Hid (fewB [true, true] [m, m] = true) := Lib.hid rfl
  have HV : Hid (validB 1 true true m m false = true) := Lib.hid (by simp [validB, knownB, oddB, hlim])
  have HW : Hid (validB 1 true true m m true = true) := Lib.hid (by simp [validB, knownB, oddB, hlim])
  have HA : Hid (applyF 1 [true, true] [m, m] false = some (0, [], [], false, 2)) := Lib.hid (by have hv := HV.out; simp only [applyF, hv]; simp [hlim])
  have HR : Hid (mirror_Arm.f 1 [true, true] [m, m] false = some (1, [true, true], [m, m], true, 0)) := Lib.hid (by simp [mirror_Arm.f, HV.out])
  have HB : Hid (applyF 1 [true, true] [m, m] true = some (0, [], [], false, 2)) := Lib.hid (by have hv := HW.out; simp only [applyF, hv]; simp [hlim])
  have HC : Hid (applyF 0 [] [] false = some (0, [], [], false, 1)) := Lib.hid rfl
  clear hlim
  clear ht
  go_enter Try.func8, Try.ntmps8
  go_wp2_with fail
  refine (sane_calls _).mono ?_
  rintro e w1 ⟨rfl, hb⟩
  have DX := Lib.hid ((DBlk.new w (a := 1) (s1 := .slice (some ⟨b1, o1, none⟩) 2 c1) (s2 := .slice (some ⟨b2, o2, none⟩) 2 c2) (r := false)).below hb)
  have B1 := Lib.hid (bb (below_one _ _) hb)
  clear hb
  have d0 := DX.out.c0; have d1 := DX.out.c1; have d2 := DX.out.c2; have d3 := DX.out.c3
  go_wp2_with fail
  refine (few_calls 1 _ _ [true, true] _ _ [m, m] false _ (Kd.C_below H1.out B1.out) K1.out (Kd.C_below H2.out B1.out) K2.out).mono ?_
  rintro e w2 ⟨rfl, hb⟩
  replace DX := Lib.hid (DX.out.below hb)
  have B2 := Lib.hid (bb B1.out hb)
  clear hb d0 d1 d2 d3 B1
  rw [HFEW.out]
  have d0 := DX.out.c0; have d1 := DX.out.c1; have d2 := DX.out.c2; have d3 := DX.out.c3
  go_wp2_with fail
  refine (check_two 1 _ _ _ _ _ _ false true true m m _ (T0.out.below B2.out)).mono ?_
  rintro e w3 ⟨rfl, hb⟩
  have B3 := Lib.hid (bb B2.out hb)
  replace DX := Lib.hid (DX.out.below hb)
  have T3 := Lib.hid (T0.out.below B3.out)
  clear hb d0 d1 d2 d3
  have d0 := DX.out.c0; have d1 := DX.out.c1; have d2 := DX.out.c2; have d3 := DX.out.c3
  have f0 := T3.out.x0; have f1 := T3.out.x1
  rw [if_pos HV.out]
  go_wp2_with fail
  clear d0 d1 d2 d3 f0 f1
  refine (apply_err 1 _ _ [true, true] _ _ [m, m] false 2 _ T3.out.C1 T3.out.k1 T3.out.C2 T3.out.k2 (by decide) HA.out).mono ?_
  rintro e w4 ⟨xA, xk, xB, xl, rfl, hb⟩
  have B4 := Lib.hid (bb B3.out hb)
  have DB := Lib.hid (DX.out.below hb)
  clear hb
  have d0 := fun o => (DB.out.alloc o).c0; have d1 := fun o => (DB.out.alloc o).c1; have d2 := fun o => (DB.out.alloc o).c2; have d3 := fun o => (DB.out.alloc o).c3
  go_wp2_with fail
  clear d0 d1 d2 d3
  refine (arm_two 1 _ _ _ _ _ _ false true true m m 1 true true m m true _ (T0.out.below (bb B4.out (below_one _ _))) HR.out).mono ?_
  rintro e w5 ⟨y1, y2, y3, y4, y5, y6, rfl, t, hb⟩
  have B5 := Lib.hid (bb B4.out (bb (below_one _ _) hb))
  have TA := Lib.hid t
  clear t hb
  go_wp2_with fail
  refine (apply_err 1 _ _ [true, true] _ _ [m, m] true 2 _ (TA.out.below (below_one _ _)).C1 TA.out.k1 (TA.out.below (below_one _ _)).C2 TA.out.k2 (by decide) HB.out).mono ?_
  rintro e w6 ⟨zA, zk, zB, zl, rfl, hb⟩
  have B6 := Lib.hid (bb B5.out (bb (below_one _ _) hb))
  clear hb
  go_wp2_with fail
  refine (apply_err 0 _ _ [] _ _ [] false 1 _ (C_none _ _ _) (Nat.zero_le _) (C_none _ _ _) (Nat.zero_le _) (by decide) HC.out).mono ?_
  rintro e w7 ⟨sA, sk, sB, sl, rfl, hb⟩
  have B7 := Lib.hid (bb B6.out (bb (below_one _ _) hb))
  clear hb
  go_wp2_with fail
  go_ret
  exact ⟨rfl, below_alloc B7.out _⟩

set_option maxHeartbeats 4000000 in
theorem law8_ok (b1 o1 c1 b2 o2 c2 : Nat) (m : Int) (w : World) (ht : Two w b1 o1 c1 b2 o2 c2 true true m m) (q0 : 0 ≤ m) (q1 : m ≤ 1099511627776) (hlim : ¬ m = 1099511627776) : Calls Try.prog 8 #[.agg #[.int .i64 1, .slice (some ⟨b1, o1, none⟩) 2 c1, .slice (some ⟨b2, o2, none⟩) 2 c2, .bool false]] w (LawPost w) := by
  have H1 := Lib.hid ht.C1; have K1 := Lib.hid ht.k1; have H2 := Lib.hid ht.C2; have K2 := Lib.hid ht.k2
  have T0 := Lib.hid ht
  have HFEW : Hid (fewB [true, true] [m, m] = true) := Lib.hid rfl
  have z0 := oddB_no q0 q1
  have z2 : oddB (m + 1) = false := oddB_no (by omega) (by omega)
  have HV : Hid (validB 1 true true m m false = true) := Lib.hid (by simp [validB, z0, knownB])
  have HW : Hid (validB 1 true true m m true = true) := Lib.hid (by simp [validB, z0, knownB])
  have HX : Hid (validB 0 true false m m false = true) := Lib.hid (by simp [validB, z0, knownB])
  have HA : Hid (applyF 1 [true, true] [m, m] false = some (1, [true, true], [m + 1, m + 1], false, 0)) := Lib.hid (by simp [applyF, HV.out, hlim, cnt])
  have HR : Hid (mirror_Arm.f 1 [true, true] [m, m] false = some (1, [true, true], [m, m], true, 0)) := Lib.hid (by simp [mirror_Arm.f, HV.out])
  have HB : Hid (applyF 1 [true, true] [m, m] true = some (0, [true, false], [m, m], false, 0)) := Lib.hid (by simp [applyF, HW.out, hlim, cnt])
  have HC : Hid (applyF 0 [true, false] [m, m] false = some (0, [true, false], [(m + 1), m], false, 0)) := Lib.hid (by simp [applyF, HX.out, hlim, cnt])
  clear z0 z2 hlim
  clear ht
  go_enter Try.func8, Try.ntmps8
  go_wp2_with fail
  refine (sane_calls _).mono ?_
  rintro e w1 ⟨rfl, hb⟩
  have DX := Lib.hid ((DBlk.new w (a := 1) (s1 := .slice (some ⟨b1, o1, none⟩) 2 c1) (s2 := .slice (some ⟨b2, o2, none⟩) 2 c2) (r := false)).below hb)
  have B1 := Lib.hid (bb (below_one _ _) hb)
  clear hb
  have d0 := DX.out.c0; have d1 := DX.out.c1; have d2 := DX.out.c2; have d3 := DX.out.c3
  go_wp2_with fail
  refine (few_calls 1 _ _ [true, true] _ _ [m, m] false _ (Kd.C_below H1.out B1.out) K1.out (Kd.C_below H2.out B1.out) K2.out).mono ?_
  rintro e w2 ⟨rfl, hb⟩
  replace DX := Lib.hid (DX.out.below hb)
  have B2 := Lib.hid (bb B1.out hb)
  clear hb d0 d1 d2 d3 B1
  rw [HFEW.out]
  have d0 := DX.out.c0; have d1 := DX.out.c1; have d2 := DX.out.c2; have d3 := DX.out.c3
  go_wp2_with fail
  refine (check_two 1 _ _ _ _ _ _ false true true m m _ (T0.out.below B2.out)).mono ?_
  rintro e w3 ⟨rfl, hb⟩
  have B3 := Lib.hid (bb B2.out hb)
  replace DX := Lib.hid (DX.out.below hb)
  have T3 := Lib.hid (T0.out.below B3.out)
  clear hb d0 d1 d2 d3
  have d0 := DX.out.c0; have d1 := DX.out.c1; have d2 := DX.out.c2; have d3 := DX.out.c3
  have f0 := T3.out.x0; have f1 := T3.out.x1
  rw [if_pos HV.out]
  go_wp2_with fail
  clear d0 d1 d2 d3 f0 f1
  refine (apply_two 1 _ _ _ _ _ _ false true true m m 1 true true (m + 1) (m + 1) false _ T3.out HA.out).mono ?_
  rintro e w4 ⟨x1, x2, x3, x4, x5, x6, rfl, t, hb⟩
  have B4 := Lib.hid (bb B3.out hb)
  have DB := Lib.hid (DX.out.below hb)
  have TX := Lib.hid t
  clear hb t
  have d0 := fun o => (DB.out.alloc o).c0; have d1 := fun o => (DB.out.alloc o).c1; have d2 := fun o => (DB.out.alloc o).c2; have d3 := fun o => (DB.out.alloc o).c3
  go_wp2_with fail
  clear d0 d1 d2 d3
  refine (arm_two 1 _ _ _ _ _ _ false true true m m 1 true true m m true _ (T0.out.below (bb B4.out (below_one _ _))) HR.out).mono ?_
  rintro e w5 ⟨y1, y2, y3, y4, y5, y6, rfl, t, hb⟩
  have hc := bb (below_one _ _) hb
  have DXX := Lib.hid ((((DBlk.new w4) : DBlk (w4.alloc (.cells #[.int .i64 1, .slice (some ⟨x1, x2, none⟩) 2 x3, .slice (some ⟨x4, x5, none⟩) 2 x6, .bool false] 25)) _ _ _ _ _)).below hb)
  have B5 := Lib.hid (bb B4.out hc)
  have DB5 := Lib.hid (DB.out.below hc)
  have TX5 := Lib.hid (TX.out.below hc)
  have TA := Lib.hid t
  clear t hb hc
  go_wp2_with fail
  refine (apply_two 1 _ _ _ _ _ _ true true true m m 0 true false m m false _ (TA.out.below (below_one _ _)) HB.out).mono ?_
  rintro e w6 ⟨z1, z2, z3, z4, z5, z6, rfl, t, hb⟩
  have hc := bb (below_one _ _) hb
  have B6 := Lib.hid (bb B5.out hc)
  have DXX6 := Lib.hid (DXX.out.below hc)
  have DB6 := Lib.hid (DB5.out.below hc)
  have TX6 := Lib.hid (TX5.out.below hc)
  have TY := Lib.hid t
  clear t hb hc
  go_wp2_with fail
  refine (apply_two 0 _ _ _ _ _ _ false true false m m 0 true false (m + 1) m false _ (TY.out.below (below_one _ _)) HC.out).mono ?_
  rintro e w7 ⟨s1, s2, s3, s4, s5, s6, rfl, t, hb⟩
  have hc := bb (below_one _ _) hb
  have B7 := Lib.hid (bb B6.out hc)
  have DXX7 := Lib.hid (DXX6.out.below hc)
  have DB7 := Lib.hid (DB6.out.below hc)
  have TX7 := Lib.hid (TX6.out.below hc)
  have TZ := Lib.hid t
  clear t hb hc
  have d0 := fun o => (DB7.out.alloc o).c0; have d1 := fun o => (DB7.out.alloc o).c1; have d2 := fun o => (DB7.out.alloc o).c2; have d3 := fun o => (DB7.out.alloc o).c3
  have e0 := fun o => (DXX7.out.alloc o).c0; have e1 := fun o => (DXX7.out.alloc o).c1; have e2 := fun o => (DXX7.out.alloc o).c2; have e3 := fun o => (DXX7.out.alloc o).c3
  have f0 := fun o => (TX7.out.below (below_one _ o)).y0; have f1 := fun o => (TX7.out.below (below_one _ o)).y1
  have g0 := fun o => (TZ.out.below (below_one _ o)).y0; have g1 := fun o => (TZ.out.below (below_one _ o)).y1
  go_wp2_with fail
  go_quiet (fail)
  go_wp2_with fail
  go_ret
  exact ⟨rfl, bb B7.out (pw_below_drewN (below_one _ _) _)⟩

theorem law8_walk (a : Int) (A1 : Option Addr) (c1 : Nat) (l1 : List Bool) (A2 : Option Addr) (c2 : Nat) (l2 : List Int) (r : Bool) (w : World) (hr1 : Kd.C Kd.bool w A1 l1.length l1) (hc1 : l1.length ≤ c1) (hr2 : Kd.C (Kd.int .i64) w A2 l2.length l2) (hc2 : l2.length ≤ c2) : Calls Try.prog 8 #[.agg #[.int .i64 a, .slice A1 l1.length c1, .slice A2 l2.length c2, .bool r]] w (LawPost w) := by
  cases hf : fewB l1 l2
  · exact law8_big a A1 c1 l1 A2 c2 l2 r w hr1 hc1 hr2 hc2 hf
  · rcases check_cases (a := a) (l1 := l1) (l2 := l2) (r := r) with ⟨c, hc, h⟩ | ⟨u0, u1, m0, m1, rfl, rfl, hv⟩
    · exact law8_odd a A1 c1 l1 A2 c2 l2 r c w hr1 hc1 hr2 hc2 hf hc h
    · obtain ⟨b1, o1, rfl, k1⟩ := C_bools hr1
      obtain ⟨b2, o2, rfl, k2⟩ := C_ints hr2
      have ht : Two w b1 o1 c1 b2 o2 c2 u0 u1 m0 m1 := ⟨hc1, hc2, by simpa [Addr.add] using k1 0 _ rfl, by simpa [Addr.add] using k1 1 _ rfl, by simpa [Addr.add] using k2 0 _ rfl, by simpa [Addr.add] using k2 1 _ rfl⟩
      obtain ⟨⟨q0, q1⟩, p0, p1⟩ := valid_m hv
      cases r
      · cases u0
        · exact law8_zero b1 o1 c1 b2 o2 c2 a u1 m0 m1 w ht hv
        · cases u1
          · exact law8_one b1 o1 c1 b2 o2 c2 a m0 m1 w ht hv
          · obtain rfl := valid_both hv
            rcases valid_a hv with rfl | rfl | rfl
            · simp [validB, knownB] at hv
            · by_cases hm : m0 = 1099511627776
              · exact law8_zl b1 o1 c1 b2 o2 c2 m0 w ht hm
              · exact law8_zk b1 o1 c1 b2 o2 c2 m0 w ht q0 q1 hm
            · by_cases hm : m0 = 1099511627776
              · exact law8_ol b1 o1 c1 b2 o2 c2 m0 w ht hm
              · exact law8_ok b1 o1 c1 b2 o2 c2 m0 w ht q0 q1 hm
      · exact law8_armed b1 o1 c1 b2 o2 c2 a u0 u1 m0 m1 w ht hv

end Go.Proofs.Ytfjboaanpiceaaa.P
