import Derived.Test.YtfjboaanpiceaaaLa
namespace Go.Proofs.Ytfjboaanpiceaaa.P
open Go.RowKit Go.Proofs.YtfjboaanpiceaaaW.PrintWords Go.Proofs.YtfjboaanpiceaaaW.PrintLast Go.Proofs.YtfjboaanpiceaaaW.PrintMore
set_option linter.unusedVariables false
set_option linter.unusedSimpArgs false
set_option linter.unusedVariables false
set_option linter.unusedSimpArgs false

/-- What a restore answers: an error, or a pair with the processor up. -/
theorem restore_cases {a : Int} {l1 : List Bool} {l2 : List Int} {r : Bool} {i : Int} :
    (∃ c, ¬ c = 0 ∧ mirror_Restore.f a l1 l2 r i = some (0, [], [], false, c)) ∨
    ∃ u0 u1 m0 m1, l1 = [u0, u1] ∧ l2 = [m0, m1] ∧ validB a u0 u1 m0 m1 r = true ∧ ((i = 0 ∧ u0 = false) ∨ (i = 1 ∧ u1 = false)) := by
  unfold mirror_Restore.f
  split
  · rename_i u0 u1 m0 m1
    cases hv : validB a u0 u1 m0 m1 r
    · exact .inl ⟨1, by omega, by simp⟩
    · cases hk : (knownB i && !up u0 u1 i)
      · exact .inl ⟨330, by omega, by simp [hk]⟩
      · refine .inr ⟨u0, u1, m0, m1, rfl, rfl, hv, ?_⟩
        have hi : i = 0 ∨ i = 1 := by simp [knownB] at hk; omega
        rcases hi with rfl | rfl
        · exact .inl ⟨rfl, by simpa [up, knownB] using hk⟩
        · exact .inr ⟨rfl, by simpa [up, knownB] using hk⟩
  · exact .inl ⟨1, by omega, rfl⟩

set_option maxHeartbeats 1000000 in
theorem law7_big (a : Int) (A1 : Option Addr) (c1 : Nat) (l1 : List Bool) (A2 : Option Addr) (c2 : Nat) (l2 : List Int) (r : Bool) (i : Int) (w : World) (hr1 : Kd.C Kd.bool w A1 l1.length l1) (hc1 : l1.length ≤ c1) (hr2 : Kd.C (Kd.int .i64) w A2 l2.length l2) (hc2 : l2.length ≤ c2) (hf : fewB l1 l2 = false) : Calls Try.prog 7 #[.agg #[.int .i64 a, .slice A1 l1.length c1, .slice A2 l2.length c2, .bool r], .int .i64 i] w (LawPost w) := by
  have H1 := Lib.hid hr1; have K1 := Lib.hid hc1; have H2 := Lib.hid hr2; have K2 := Lib.hid hc2
  clear hr1 hc1 hr2 hc2
  have HFEW := Lib.hid hf
  clear hf
  go_enter Try.func7, Try.ntmps7
  go_wp2_with fail
  refine (sane_calls _).mono ?_
  rintro e w1 ⟨rfl, hb⟩
  have DX := Lib.hid ((DBlk.new w (a := a) (s1 := .slice A1 l1.length c1) (s2 := .slice A2 l2.length c2) (r := r)).below hb)
  have B1 := Lib.hid (bb (below_one _ _) hb)
  clear hb
  have d0 := DX.out.c0; have d1 := DX.out.c1; have d2 := DX.out.c2; have d3 := DX.out.c3
  go_wp2_with fail
  refine (few_calls a _ _ l1 _ _ l2 r _ (Kd.C_below H1.out B1.out) K1.out (Kd.C_below H2.out B1.out) K2.out).mono ?_
  rintro e w2 ⟨rfl, hb⟩
  replace DX := Lib.hid (DX.out.below hb)
  have B2 := Lib.hid (bb B1.out hb)
  clear hb d0 d1 d2 d3 B1
  rw [HFEW.out]
  have d0 := DX.out.c0; have d1 := DX.out.c1; have d2 := DX.out.c2; have d3 := DX.out.c3
  go_wp2_with fail
  go_ret
  exact ⟨rfl, B2.out⟩

set_option maxHeartbeats 1000000 in
theorem law7_err (a : Int) (A1 : Option Addr) (c1 : Nat) (l1 : List Bool) (A2 : Option Addr) (c2 : Nat) (l2 : List Int) (r : Bool) (i c : Int) (w : World) (hr1 : Kd.C Kd.bool w A1 l1.length l1) (hc1 : l1.length ≤ c1) (hr2 : Kd.C (Kd.int .i64) w A2 l2.length l2) (hc2 : l2.length ≤ c2) (hf : fewB l1 l2 = true) (hc : ¬ c = 0) (h : mirror_Restore.f a l1 l2 r i = some (0, [], [], false, c)) : Calls Try.prog 7 #[.agg #[.int .i64 a, .slice A1 l1.length c1, .slice A2 l2.length c2, .bool r], .int .i64 i] w (LawPost w) := by
  have H1 := Lib.hid hr1; have K1 := Lib.hid hc1; have H2 := Lib.hid hr2; have K2 := Lib.hid hc2
  clear hr1 hc1 hr2 hc2
  have HFEW := Lib.hid hf
  have HC := Lib.hid hc
  have HA := Lib.hid h
  clear hf hc h
  go_enter Try.func7, Try.ntmps7
  go_wp2_with fail
  refine (sane_calls _).mono ?_
  rintro e w1 ⟨rfl, hb⟩
  have DX := Lib.hid ((DBlk.new w (a := a) (s1 := .slice A1 l1.length c1) (s2 := .slice A2 l2.length c2) (r := r)).below hb)
  have B1 := Lib.hid (bb (below_one _ _) hb)
  clear hb
  have d0 := DX.out.c0; have d1 := DX.out.c1; have d2 := DX.out.c2; have d3 := DX.out.c3
  go_wp2_with fail
  refine (few_calls a _ _ l1 _ _ l2 r _ (Kd.C_below H1.out B1.out) K1.out (Kd.C_below H2.out B1.out) K2.out).mono ?_
  rintro e w2 ⟨rfl, hb⟩
  replace DX := Lib.hid (DX.out.below hb)
  have B2 := Lib.hid (bb B1.out hb)
  clear hb d0 d1 d2 d3 B1
  rw [HFEW.out]
  have d0 := DX.out.c0; have d1 := DX.out.c1; have d2 := DX.out.c2; have d3 := DX.out.c3
  go_wp2_with fail
  refine (restore_err a _ _ l1 _ _ l2 r i c _ (Kd.C_below H1.out B2.out) K1.out (Kd.C_below H2.out B2.out) K2.out HC.out HA.out).mono ?_
  rintro e w3 ⟨xA, xk, xB, xl, rfl, hb⟩
  have B3 := Lib.hid (bb B2.out hb)
  clear hb d0 d1 d2 d3
  have hb0 : (c == 0) = false := by simpa using HC.out
  have hb1 : (c != 0) = true := by simpa using HC.out
  go_wp2_with fail
  go_ret
  exact ⟨rfl, below_alloc B3.out _⟩

set_option maxHeartbeats 4000000 in
theorem law7_0tt (b1 o1 c1 b2 o2 c2 : Nat) (m0 m1 : Int) (w : World) (ht : Two w b1 o1 c1 b2 o2 c2 false true m0 m1) (q0 : 0 ≤ m0) (q1 : m0 ≤ 1099511627776) (p0 : 0 ≤ m1) (p1 : m1 ≤ 1099511627776) : Calls Try.prog 7 #[.agg #[.int .i64 1, .slice (some ⟨b1, o1, none⟩) 2 c1, .slice (some ⟨b2, o2, none⟩) 2 c2, .bool true], .int .i64 0] w (LawPost w) := by
  have H1 := Lib.hid ht.C1; have K1 := Lib.hid ht.k1; have H2 := Lib.hid ht.C2; have K2 := Lib.hid ht.k2
  have T0 := Lib.hid ht
  have HFEW : Hid (fewB [false, true] [m0, m1] = true) := Lib.hid rfl
  have z0 := oddB_no q0 q1; have z1 := oddB_no p0 p1
  have HV : Hid (validB 1 false true m0 m1 true = true) := Lib.hid (by simp [validB, z0, z1, knownB])
  have HV2 : Hid (validB 1 true true m1 m1 true = true) := Lib.hid (by simp [validB, z0, z1, knownB])
  have HA : Hid (mirror_Restore.f 1 [false, true] [m0, m1] true 0 = some (1, [true, true], [m1, m1], true, 0)) := Lib.hid (by simp [mirror_Restore.f, HV.out, knownB, up])
  have HE : Hid (mirror_Crash.f 1 [true, true] [m1, m1] true 1 = some (0, [true, false], [m1, m1], false, 0)) := Lib.hid (by simp [mirror_Crash.f, HV2.out, knownB, up])
  clear z0 z1
  clear ht
  go_enter Try.func7, Try.ntmps7
  go_wp2_with fail
  refine (sane_calls _).mono ?_
  rintro e w1 ⟨rfl, hb⟩
  have DX := Lib.hid ((DBlk.new w (a := 1) (s1 := .slice (some ⟨b1, o1, none⟩) 2 c1) (s2 := .slice (some ⟨b2, o2, none⟩) 2 c2) (r := true)).below hb)
  have B1 := Lib.hid (bb (below_one _ _) hb)
  clear hb
  have d0 := DX.out.c0; have d1 := DX.out.c1; have d2 := DX.out.c2; have d3 := DX.out.c3
  go_wp2_with fail
  refine (few_calls 1 _ _ [false, true] _ _ [m0, m1] true _ (Kd.C_below H1.out B1.out) K1.out (Kd.C_below H2.out B1.out) K2.out).mono ?_
  rintro e w2 ⟨rfl, hb⟩
  replace DX := Lib.hid (DX.out.below hb)
  have B2 := Lib.hid (bb B1.out hb)
  clear hb d0 d1 d2 d3 B1
  rw [HFEW.out]
  have d0 := DX.out.c0; have d1 := DX.out.c1; have d2 := DX.out.c2; have d3 := DX.out.c3
  go_wp2_with fail
  refine (restore_two 1 _ _ _ _ _ _ true false true m0 m1 0 1 true true m1 m1 true _ (T0.out.below B2.out) HA.out).mono ?_
  rintro e w3 ⟨x1, x2, x3, x4, x5, x6, rfl, t, hb⟩
  have TX := Lib.hid t
  have B3 := Lib.hid (bb B2.out hb)
  have DB := Lib.hid (DX.out.below hb)
  clear t hb d0 d1 d2 d3
  have d0 := fun o => (DB.out.alloc o).c0; have d1 := fun o => (DB.out.alloc o).c1; have d2 := fun o => (DB.out.alloc o).c2; have d3 := fun o => (DB.out.alloc o).c3
  have f0 := fun o => (TX.out.below (below_one _ o)).x0; have f1 := fun o => (TX.out.below (below_one _ o)).x1
  go_wp2_with fail
  clear d0 d1 d2 d3 f0 f1
  refine (check_two 1 _ _ _ _ _ _ true true true m1 m1 _ (TX.out.below (below_one _ _))).mono ?_
  rintro e w9 ⟨rfl, hb⟩
  have hc := bb (below_one _ _) hb
  have DY := Lib.hid ((((DBlk.new w3) : DBlk (w3.alloc (.cells #[.int .i64 1, .slice (some ⟨x1, x2, none⟩) 2 x3, .slice (some ⟨x4, x5, none⟩) 2 x6, .bool true] 25)) _ _ _ _ _)).below hb)
  have B9 := Lib.hid (bb B3.out hc)
  have DB2 := Lib.hid (DB.out.below hc)
  have T2 := Lib.hid (T0.out.below B9.out)
  have TX2 := Lib.hid (TX.out.below hc)
  clear hb hc
  rw [if_pos HV2.out]
  have e0 := DY.out.c0; have e1 := DY.out.c1; have e2 := DY.out.c2; have e3 := DY.out.c3
  have d0 := DB2.out.c0; have d1 := DB2.out.c1; have d2 := DB2.out.c2; have d3 := DB2.out.c3
  have f2 := TX2.out.y0; have f3 := TX2.out.y1
  have g2 := T2.out.y0; have g3 := T2.out.y1
  go_wp2_with fail
  clear e0 e1 e2 e3 d0 d1 d2 d3 f2 f3 g2 g3
  refine (crash_two 1 _ _ _ _ _ _ true true true m1 m1 1 0 true false m1 m1 false _ TX2.out HE.out).mono ?_
  rintro e w10 ⟨y1, y2, y3, y4, y5, y6, rfl, t, hb⟩
  have TY := Lib.hid t
  have DY2 := Lib.hid (DY.out.below hb)
  have DB3 := Lib.hid (DB2.out.below hb)
  have T3 := Lib.hid (T2.out.below hb)
  have B10 := Lib.hid (bb B9.out hb)
  clear t hb
  have e0 := fun o => (DY2.out.alloc o).c0; have e1 := fun o => (DY2.out.alloc o).c1; have e2 := fun o => (DY2.out.alloc o).c2; have e3 := fun o => (DY2.out.alloc o).c3
  have d0 := fun o => (DB3.out.alloc o).c0; have d1 := fun o => (DB3.out.alloc o).c1; have d2 := fun o => (DB3.out.alloc o).c2; have d3 := fun o => (DB3.out.alloc o).c3
  have f2 := fun o => (TY.out.below (below_one _ o)).y0; have f3 := fun o => (TY.out.below (below_one _ o)).y1
  have g2 := fun o => (T3.out.below (below_one _ o)).y0; have g3 := fun o => (T3.out.below (below_one _ o)).y1
  go_wp2_with fail
  go_quiet (fail)
  go_wp2_with fail
  go_ret
  exact ⟨rfl, bb B10.out (pw_below_drewN (below_one _ _) _)⟩

set_option maxHeartbeats 4000000 in
theorem law7_0tf (b1 o1 c1 b2 o2 c2 : Nat) (m0 m1 : Int) (w : World) (ht : Two w b1 o1 c1 b2 o2 c2 false true m0 m1) (q0 : 0 ≤ m0) (q1 : m0 ≤ 1099511627776) (p0 : 0 ≤ m1) (p1 : m1 ≤ 1099511627776) : Calls Try.prog 7 #[.agg #[.int .i64 1, .slice (some ⟨b1, o1, none⟩) 2 c1, .slice (some ⟨b2, o2, none⟩) 2 c2, .bool false], .int .i64 0] w (LawPost w) := by
  have H1 := Lib.hid ht.C1; have K1 := Lib.hid ht.k1; have H2 := Lib.hid ht.C2; have K2 := Lib.hid ht.k2
  have T0 := Lib.hid ht
  have HFEW : Hid (fewB [false, true] [m0, m1] = true) := Lib.hid rfl
  have z0 := oddB_no q0 q1; have z1 := oddB_no p0 p1
  have HV : Hid (validB 1 false true m0 m1 false = true) := Lib.hid (by simp [validB, z0, z1, knownB])
  have HV2 : Hid (validB 1 true true m1 m1 false = true) := Lib.hid (by simp [validB, z0, z1, knownB])
  have HA : Hid (mirror_Restore.f 1 [false, true] [m0, m1] false 0 = some (1, [true, true], [m1, m1], false, 0)) := Lib.hid (by simp [mirror_Restore.f, HV.out, knownB, up])
  have HE : Hid (mirror_Crash.f 1 [true, true] [m1, m1] false 1 = some (0, [true, false], [m1, m1], false, 0)) := Lib.hid (by simp [mirror_Crash.f, HV2.out, knownB, up])
  clear z0 z1
  clear ht
  go_enter Try.func7, Try.ntmps7
  go_wp2_with fail
  refine (sane_calls _).mono ?_
  rintro e w1 ⟨rfl, hb⟩
  have DX := Lib.hid ((DBlk.new w (a := 1) (s1 := .slice (some ⟨b1, o1, none⟩) 2 c1) (s2 := .slice (some ⟨b2, o2, none⟩) 2 c2) (r := false)).below hb)
  have B1 := Lib.hid (bb (below_one _ _) hb)
  clear hb
  have d0 := DX.out.c0; have d1 := DX.out.c1; have d2 := DX.out.c2; have d3 := DX.out.c3
  go_wp2_with fail
  refine (few_calls 1 _ _ [false, true] _ _ [m0, m1] false _ (Kd.C_below H1.out B1.out) K1.out (Kd.C_below H2.out B1.out) K2.out).mono ?_
  rintro e w2 ⟨rfl, hb⟩
  replace DX := Lib.hid (DX.out.below hb)
  have B2 := Lib.hid (bb B1.out hb)
  clear hb d0 d1 d2 d3 B1
  rw [HFEW.out]
  have d0 := DX.out.c0; have d1 := DX.out.c1; have d2 := DX.out.c2; have d3 := DX.out.c3
  go_wp2_with fail
  refine (restore_two 1 _ _ _ _ _ _ false false true m0 m1 0 1 true true m1 m1 false _ (T0.out.below B2.out) HA.out).mono ?_
  rintro e w3 ⟨x1, x2, x3, x4, x5, x6, rfl, t, hb⟩
  have TX := Lib.hid t
  have B3 := Lib.hid (bb B2.out hb)
  have DB := Lib.hid (DX.out.below hb)
  clear t hb d0 d1 d2 d3
  have d0 := fun o => (DB.out.alloc o).c0; have d1 := fun o => (DB.out.alloc o).c1; have d2 := fun o => (DB.out.alloc o).c2; have d3 := fun o => (DB.out.alloc o).c3
  have f0 := fun o => (TX.out.below (below_one _ o)).x0; have f1 := fun o => (TX.out.below (below_one _ o)).x1
  go_wp2_with fail
  clear d0 d1 d2 d3 f0 f1
  refine (check_two 1 _ _ _ _ _ _ false true true m1 m1 _ (TX.out.below (below_one _ _))).mono ?_
  rintro e w9 ⟨rfl, hb⟩
  have hc := bb (below_one _ _) hb
  have DY := Lib.hid ((((DBlk.new w3) : DBlk (w3.alloc (.cells #[.int .i64 1, .slice (some ⟨x1, x2, none⟩) 2 x3, .slice (some ⟨x4, x5, none⟩) 2 x6, .bool false] 25)) _ _ _ _ _)).below hb)
  have B9 := Lib.hid (bb B3.out hc)
  have DB2 := Lib.hid (DB.out.below hc)
  have T2 := Lib.hid (T0.out.below B9.out)
  have TX2 := Lib.hid (TX.out.below hc)
  clear hb hc
  rw [if_pos HV2.out]
  have e0 := DY.out.c0; have e1 := DY.out.c1; have e2 := DY.out.c2; have e3 := DY.out.c3
  have d0 := DB2.out.c0; have d1 := DB2.out.c1; have d2 := DB2.out.c2; have d3 := DB2.out.c3
  have f2 := TX2.out.y0; have f3 := TX2.out.y1
  have g2 := T2.out.y0; have g3 := T2.out.y1
  go_wp2_with fail
  clear e0 e1 e2 e3 d0 d1 d2 d3 f2 f3 g2 g3
  refine (crash_two 1 _ _ _ _ _ _ false true true m1 m1 1 0 true false m1 m1 false _ TX2.out HE.out).mono ?_
  rintro e w10 ⟨y1, y2, y3, y4, y5, y6, rfl, t, hb⟩
  have TY := Lib.hid t
  have DY2 := Lib.hid (DY.out.below hb)
  have DB3 := Lib.hid (DB2.out.below hb)
  have T3 := Lib.hid (T2.out.below hb)
  have B10 := Lib.hid (bb B9.out hb)
  clear t hb
  have e0 := fun o => (DY2.out.alloc o).c0; have e1 := fun o => (DY2.out.alloc o).c1; have e2 := fun o => (DY2.out.alloc o).c2; have e3 := fun o => (DY2.out.alloc o).c3
  have d0 := fun o => (DB3.out.alloc o).c0; have d1 := fun o => (DB3.out.alloc o).c1; have d2 := fun o => (DB3.out.alloc o).c2; have d3 := fun o => (DB3.out.alloc o).c3
  have f2 := fun o => (TY.out.below (below_one _ o)).y0; have f3 := fun o => (TY.out.below (below_one _ o)).y1
  have g2 := fun o => (T3.out.below (below_one _ o)).y0; have g3 := fun o => (T3.out.below (below_one _ o)).y1
  go_wp2_with fail
  go_quiet (fail)
  go_wp2_with fail
  go_ret
  exact ⟨rfl, bb B10.out (pw_below_drewN (below_one _ _) _)⟩

set_option maxHeartbeats 4000000 in
theorem law7_0ff (b1 o1 c1 b2 o2 c2 : Nat) (m0 m1 : Int) (w : World) (ht : Two w b1 o1 c1 b2 o2 c2 false false m0 m1) (q0 : 0 ≤ m0) (q1 : m0 ≤ 1099511627776) (p0 : 0 ≤ m1) (p1 : m1 ≤ 1099511627776) : Calls Try.prog 7 #[.agg #[.int .i64 (-1), .slice (some ⟨b1, o1, none⟩) 2 c1, .slice (some ⟨b2, o2, none⟩) 2 c2, .bool false], .int .i64 0] w (LawPost w) := by
  have H1 := Lib.hid ht.C1; have K1 := Lib.hid ht.k1; have H2 := Lib.hid ht.C2; have K2 := Lib.hid ht.k2
  have T0 := Lib.hid ht
  have HFEW : Hid (fewB [false, false] [m0, m1] = true) := Lib.hid rfl
  have z0 := oddB_no q0 q1; have z1 := oddB_no p0 p1
  have HV : Hid (validB (-1) false false m0 m1 false = true) := Lib.hid (by simp [validB, z0, z1, knownB])
  have HV2 : Hid (validB 0 true false m0 m1 false = true) := Lib.hid (by simp [validB, z0, z1, knownB])
  have HA : Hid (mirror_Restore.f (-1) [false, false] [m0, m1] false 0 = some (0, [true, false], [m0, m1], false, 0)) := Lib.hid (by simp [mirror_Restore.f, HV.out, knownB, up])
  clear z0 z1
  clear ht
  go_enter Try.func7, Try.ntmps7
  go_wp2_with fail
  refine (sane_calls _).mono ?_
  rintro e w1 ⟨rfl, hb⟩
  have DX := Lib.hid ((DBlk.new w (a := (-1)) (s1 := .slice (some ⟨b1, o1, none⟩) 2 c1) (s2 := .slice (some ⟨b2, o2, none⟩) 2 c2) (r := false)).below hb)
  have B1 := Lib.hid (bb (below_one _ _) hb)
  clear hb
  have d0 := DX.out.c0; have d1 := DX.out.c1; have d2 := DX.out.c2; have d3 := DX.out.c3
  go_wp2_with fail
  refine (few_calls (-1) _ _ [false, false] _ _ [m0, m1] false _ (Kd.C_below H1.out B1.out) K1.out (Kd.C_below H2.out B1.out) K2.out).mono ?_
  rintro e w2 ⟨rfl, hb⟩
  replace DX := Lib.hid (DX.out.below hb)
  have B2 := Lib.hid (bb B1.out hb)
  clear hb d0 d1 d2 d3 B1
  rw [HFEW.out]
  have d0 := DX.out.c0; have d1 := DX.out.c1; have d2 := DX.out.c2; have d3 := DX.out.c3
  go_wp2_with fail
  refine (restore_two (-1) _ _ _ _ _ _ false false false m0 m1 0 0 true false m0 m1 false _ (T0.out.below B2.out) HA.out).mono ?_
  rintro e w3 ⟨x1, x2, x3, x4, x5, x6, rfl, t, hb⟩
  have TX := Lib.hid t
  have B3 := Lib.hid (bb B2.out hb)
  have DB := Lib.hid (DX.out.below hb)
  clear t hb d0 d1 d2 d3
  have d0 := fun o => (DB.out.alloc o).c0; have d1 := fun o => (DB.out.alloc o).c1; have d2 := fun o => (DB.out.alloc o).c2; have d3 := fun o => (DB.out.alloc o).c3
  have f0 := fun o => (TX.out.below (below_one _ o)).x0; have f1 := fun o => (TX.out.below (below_one _ o)).x1
  go_wp2_with fail
  clear d0 d1 d2 d3 f0 f1
  refine (check_two 0 _ _ _ _ _ _ false true false m0 m1 _ (TX.out.below (below_one _ _))).mono ?_
  rintro e w9 ⟨rfl, hb⟩
  have hc := bb (below_one _ _) hb
  have DY := Lib.hid ((((DBlk.new w3) : DBlk (w3.alloc (.cells #[.int .i64 0, .slice (some ⟨x1, x2, none⟩) 2 x3, .slice (some ⟨x4, x5, none⟩) 2 x6, .bool false] 25)) _ _ _ _ _)).below hb)
  have B9 := Lib.hid (bb B3.out hc)
  have DB2 := Lib.hid (DB.out.below hc)
  have T2 := Lib.hid (T0.out.below B9.out)
  have TX2 := Lib.hid (TX.out.below hc)
  clear hb hc
  rw [if_pos HV2.out]
  have e0 := DY.out.c0; have e1 := DY.out.c1; have e2 := DY.out.c2; have e3 := DY.out.c3
  have d0 := DB2.out.c0; have d1 := DB2.out.c1; have d2 := DB2.out.c2; have d3 := DB2.out.c3
  have f2 := TX2.out.y0; have f3 := TX2.out.y1
  have g2 := T2.out.y0; have g3 := T2.out.y1
  go_wp2_with fail
  go_quiet (fail)
  go_wp2_with fail
  go_ret
  exact ⟨rfl, pw_below_drewN B9.out _⟩

set_option maxHeartbeats 4000000 in
theorem law7_1tt (b1 o1 c1 b2 o2 c2 : Nat) (m0 m1 : Int) (w : World) (ht : Two w b1 o1 c1 b2 o2 c2 true false m0 m1) (q0 : 0 ≤ m0) (q1 : m0 ≤ 1099511627776) (p0 : 0 ≤ m1) (p1 : m1 ≤ 1099511627776) : Calls Try.prog 7 #[.agg #[.int .i64 0, .slice (some ⟨b1, o1, none⟩) 2 c1, .slice (some ⟨b2, o2, none⟩) 2 c2, .bool true], .int .i64 1] w (LawPost w) := by
  have H1 := Lib.hid ht.C1; have K1 := Lib.hid ht.k1; have H2 := Lib.hid ht.C2; have K2 := Lib.hid ht.k2
  have T0 := Lib.hid ht
  have HFEW : Hid (fewB [true, false] [m0, m1] = true) := Lib.hid rfl
  have z0 := oddB_no q0 q1; have z1 := oddB_no p0 p1
  have HV : Hid (validB 0 true false m0 m1 true = true) := Lib.hid (by simp [validB, z0, z1, knownB])
  have HV2 : Hid (validB 0 true true m0 m0 true = true) := Lib.hid (by simp [validB, z0, z1, knownB])
  have HA : Hid (mirror_Restore.f 0 [true, false] [m0, m1] true 1 = some (0, [true, true], [m0, m0], true, 0)) := Lib.hid (by simp [mirror_Restore.f, HV.out, knownB, up])
  have HE : Hid (mirror_Crash.f 0 [true, true] [m0, m0] true 0 = some (1, [false, true], [m0, m0], false, 0)) := Lib.hid (by simp [mirror_Crash.f, HV2.out, knownB, up])
  clear z0 z1
  clear ht
  go_enter Try.func7, Try.ntmps7
  go_wp2_with fail
  refine (sane_calls _).mono ?_
  rintro e w1 ⟨rfl, hb⟩
  have DX := Lib.hid ((DBlk.new w (a := 0) (s1 := .slice (some ⟨b1, o1, none⟩) 2 c1) (s2 := .slice (some ⟨b2, o2, none⟩) 2 c2) (r := true)).below hb)
  have B1 := Lib.hid (bb (below_one _ _) hb)
  clear hb
  have d0 := DX.out.c0; have d1 := DX.out.c1; have d2 := DX.out.c2; have d3 := DX.out.c3
  go_wp2_with fail
  refine (few_calls 0 _ _ [true, false] _ _ [m0, m1] true _ (Kd.C_below H1.out B1.out) K1.out (Kd.C_below H2.out B1.out) K2.out).mono ?_
  rintro e w2 ⟨rfl, hb⟩
  replace DX := Lib.hid (DX.out.below hb)
  have B2 := Lib.hid (bb B1.out hb)
  clear hb d0 d1 d2 d3 B1
  rw [HFEW.out]
  have d0 := DX.out.c0; have d1 := DX.out.c1; have d2 := DX.out.c2; have d3 := DX.out.c3
  go_wp2_with fail
  refine (restore_two 0 _ _ _ _ _ _ true true false m0 m1 1 0 true true m0 m0 true _ (T0.out.below B2.out) HA.out).mono ?_
  rintro e w3 ⟨x1, x2, x3, x4, x5, x6, rfl, t, hb⟩
  have TX := Lib.hid t
  have B3 := Lib.hid (bb B2.out hb)
  have DB := Lib.hid (DX.out.below hb)
  clear t hb d0 d1 d2 d3
  have d0 := fun o => (DB.out.alloc o).c0; have d1 := fun o => (DB.out.alloc o).c1; have d2 := fun o => (DB.out.alloc o).c2; have d3 := fun o => (DB.out.alloc o).c3
  have f0 := fun o => (TX.out.below (below_one _ o)).x0; have f1 := fun o => (TX.out.below (below_one _ o)).x1
  go_wp2_with fail
  clear d0 d1 d2 d3 f0 f1
  refine (check_two 0 _ _ _ _ _ _ true true true m0 m0 _ (TX.out.below (below_one _ _))).mono ?_
  rintro e w9 ⟨rfl, hb⟩
  have hc := bb (below_one _ _) hb
  have DY := Lib.hid ((((DBlk.new w3) : DBlk (w3.alloc (.cells #[.int .i64 0, .slice (some ⟨x1, x2, none⟩) 2 x3, .slice (some ⟨x4, x5, none⟩) 2 x6, .bool true] 25)) _ _ _ _ _)).below hb)
  have B9 := Lib.hid (bb B3.out hc)
  have DB2 := Lib.hid (DB.out.below hc)
  have T2 := Lib.hid (T0.out.below B9.out)
  have TX2 := Lib.hid (TX.out.below hc)
  clear hb hc
  rw [if_pos HV2.out]
  have e0 := DY.out.c0; have e1 := DY.out.c1; have e2 := DY.out.c2; have e3 := DY.out.c3
  have d0 := DB2.out.c0; have d1 := DB2.out.c1; have d2 := DB2.out.c2; have d3 := DB2.out.c3
  have f2 := TX2.out.y0; have f3 := TX2.out.y1
  have g2 := T2.out.y0; have g3 := T2.out.y1
  go_wp2_with fail
  clear e0 e1 e2 e3 d0 d1 d2 d3 f2 f3 g2 g3
  refine (crash_two 0 _ _ _ _ _ _ true true true m0 m0 0 1 false true m0 m0 false _ TX2.out HE.out).mono ?_
  rintro e w10 ⟨y1, y2, y3, y4, y5, y6, rfl, t, hb⟩
  have TY := Lib.hid t
  have DY2 := Lib.hid (DY.out.below hb)
  have DB3 := Lib.hid (DB2.out.below hb)
  have T3 := Lib.hid (T2.out.below hb)
  have B10 := Lib.hid (bb B9.out hb)
  clear t hb
  have e0 := fun o => (DY2.out.alloc o).c0; have e1 := fun o => (DY2.out.alloc o).c1; have e2 := fun o => (DY2.out.alloc o).c2; have e3 := fun o => (DY2.out.alloc o).c3
  have d0 := fun o => (DB3.out.alloc o).c0; have d1 := fun o => (DB3.out.alloc o).c1; have d2 := fun o => (DB3.out.alloc o).c2; have d3 := fun o => (DB3.out.alloc o).c3
  have f2 := fun o => (TY.out.below (below_one _ o)).y0; have f3 := fun o => (TY.out.below (below_one _ o)).y1
  have g2 := fun o => (T3.out.below (below_one _ o)).y0; have g3 := fun o => (T3.out.below (below_one _ o)).y1
  go_wp2_with fail
  go_quiet (fail)
  go_wp2_with fail
  go_ret
  exact ⟨rfl, bb B10.out (pw_below_drewN (below_one _ _) _)⟩

set_option maxHeartbeats 4000000 in
theorem law7_1tf (b1 o1 c1 b2 o2 c2 : Nat) (m0 m1 : Int) (w : World) (ht : Two w b1 o1 c1 b2 o2 c2 true false m0 m1) (q0 : 0 ≤ m0) (q1 : m0 ≤ 1099511627776) (p0 : 0 ≤ m1) (p1 : m1 ≤ 1099511627776) : Calls Try.prog 7 #[.agg #[.int .i64 0, .slice (some ⟨b1, o1, none⟩) 2 c1, .slice (some ⟨b2, o2, none⟩) 2 c2, .bool false], .int .i64 1] w (LawPost w) := by
  have H1 := Lib.hid ht.C1; have K1 := Lib.hid ht.k1; have H2 := Lib.hid ht.C2; have K2 := Lib.hid ht.k2
  have T0 := Lib.hid ht
  have HFEW : Hid (fewB [true, false] [m0, m1] = true) := Lib.hid rfl
  have z0 := oddB_no q0 q1; have z1 := oddB_no p0 p1
  have HV : Hid (validB 0 true false m0 m1 false = true) := Lib.hid (by simp [validB, z0, z1, knownB])
  have HV2 : Hid (validB 0 true true m0 m0 false = true) := Lib.hid (by simp [validB, z0, z1, knownB])
  have HA : Hid (mirror_Restore.f 0 [true, false] [m0, m1] false 1 = some (0, [true, true], [m0, m0], false, 0)) := Lib.hid (by simp [mirror_Restore.f, HV.out, knownB, up])
  have HE : Hid (mirror_Crash.f 0 [true, true] [m0, m0] false 0 = some (1, [false, true], [m0, m0], false, 0)) := Lib.hid (by simp [mirror_Crash.f, HV2.out, knownB, up])
  clear z0 z1
  clear ht
  go_enter Try.func7, Try.ntmps7
  go_wp2_with fail
  refine (sane_calls _).mono ?_
  rintro e w1 ⟨rfl, hb⟩
  have DX := Lib.hid ((DBlk.new w (a := 0) (s1 := .slice (some ⟨b1, o1, none⟩) 2 c1) (s2 := .slice (some ⟨b2, o2, none⟩) 2 c2) (r := false)).below hb)
  have B1 := Lib.hid (bb (below_one _ _) hb)
  clear hb
  have d0 := DX.out.c0; have d1 := DX.out.c1; have d2 := DX.out.c2; have d3 := DX.out.c3
  go_wp2_with fail
  refine (few_calls 0 _ _ [true, false] _ _ [m0, m1] false _ (Kd.C_below H1.out B1.out) K1.out (Kd.C_below H2.out B1.out) K2.out).mono ?_
  rintro e w2 ⟨rfl, hb⟩
  replace DX := Lib.hid (DX.out.below hb)
  have B2 := Lib.hid (bb B1.out hb)
  clear hb d0 d1 d2 d3 B1
  rw [HFEW.out]
  have d0 := DX.out.c0; have d1 := DX.out.c1; have d2 := DX.out.c2; have d3 := DX.out.c3
  go_wp2_with fail
  refine (restore_two 0 _ _ _ _ _ _ false true false m0 m1 1 0 true true m0 m0 false _ (T0.out.below B2.out) HA.out).mono ?_
  rintro e w3 ⟨x1, x2, x3, x4, x5, x6, rfl, t, hb⟩
  have TX := Lib.hid t
  have B3 := Lib.hid (bb B2.out hb)
  have DB := Lib.hid (DX.out.below hb)
  clear t hb d0 d1 d2 d3
  have d0 := fun o => (DB.out.alloc o).c0; have d1 := fun o => (DB.out.alloc o).c1; have d2 := fun o => (DB.out.alloc o).c2; have d3 := fun o => (DB.out.alloc o).c3
  have f0 := fun o => (TX.out.below (below_one _ o)).x0; have f1 := fun o => (TX.out.below (below_one _ o)).x1
  go_wp2_with fail
  clear d0 d1 d2 d3 f0 f1
  refine (check_two 0 _ _ _ _ _ _ false true true m0 m0 _ (TX.out.below (below_one _ _))).mono ?_
  rintro e w9 ⟨rfl, hb⟩
  have hc := bb (below_one _ _) hb
  have DY := Lib.hid ((((DBlk.new w3) : DBlk (w3.alloc (.cells #[.int .i64 0, .slice (some ⟨x1, x2, none⟩) 2 x3, .slice (some ⟨x4, x5, none⟩) 2 x6, .bool false] 25)) _ _ _ _ _)).below hb)
  have B9 := Lib.hid (bb B3.out hc)
  have DB2 := Lib.hid (DB.out.below hc)
  have T2 := Lib.hid (T0.out.below B9.out)
  have TX2 := Lib.hid (TX.out.below hc)
  clear hb hc
  rw [if_pos HV2.out]
  have e0 := DY.out.c0; have e1 := DY.out.c1; have e2 := DY.out.c2; have e3 := DY.out.c3
  have d0 := DB2.out.c0; have d1 := DB2.out.c1; have d2 := DB2.out.c2; have d3 := DB2.out.c3
  have f2 := TX2.out.y0; have f3 := TX2.out.y1
  have g2 := T2.out.y0; have g3 := T2.out.y1
  go_wp2_with fail
  clear e0 e1 e2 e3 d0 d1 d2 d3 f2 f3 g2 g3
  refine (crash_two 0 _ _ _ _ _ _ false true true m0 m0 0 1 false true m0 m0 false _ TX2.out HE.out).mono ?_
  rintro e w10 ⟨y1, y2, y3, y4, y5, y6, rfl, t, hb⟩
  have TY := Lib.hid t
  have DY2 := Lib.hid (DY.out.below hb)
  have DB3 := Lib.hid (DB2.out.below hb)
  have T3 := Lib.hid (T2.out.below hb)
  have B10 := Lib.hid (bb B9.out hb)
  clear t hb
  have e0 := fun o => (DY2.out.alloc o).c0; have e1 := fun o => (DY2.out.alloc o).c1; have e2 := fun o => (DY2.out.alloc o).c2; have e3 := fun o => (DY2.out.alloc o).c3
  have d0 := fun o => (DB3.out.alloc o).c0; have d1 := fun o => (DB3.out.alloc o).c1; have d2 := fun o => (DB3.out.alloc o).c2; have d3 := fun o => (DB3.out.alloc o).c3
  have f2 := fun o => (TY.out.below (below_one _ o)).y0; have f3 := fun o => (TY.out.below (below_one _ o)).y1
  have g2 := fun o => (T3.out.below (below_one _ o)).y0; have g3 := fun o => (T3.out.below (below_one _ o)).y1
  go_wp2_with fail
  go_quiet (fail)
  go_wp2_with fail
  go_ret
  exact ⟨rfl, bb B10.out (pw_below_drewN (below_one _ _) _)⟩

set_option maxHeartbeats 4000000 in
theorem law7_1ff (b1 o1 c1 b2 o2 c2 : Nat) (m0 m1 : Int) (w : World) (ht : Two w b1 o1 c1 b2 o2 c2 false false m0 m1) (q0 : 0 ≤ m0) (q1 : m0 ≤ 1099511627776) (p0 : 0 ≤ m1) (p1 : m1 ≤ 1099511627776) : Calls Try.prog 7 #[.agg #[.int .i64 (-1), .slice (some ⟨b1, o1, none⟩) 2 c1, .slice (some ⟨b2, o2, none⟩) 2 c2, .bool false], .int .i64 1] w (LawPost w) := by
  have H1 := Lib.hid ht.C1; have K1 := Lib.hid ht.k1; have H2 := Lib.hid ht.C2; have K2 := Lib.hid ht.k2
  have T0 := Lib.hid ht
  have HFEW : Hid (fewB [false, false] [m0, m1] = true) := Lib.hid rfl
  have z0 := oddB_no q0 q1; have z1 := oddB_no p0 p1
  have HV : Hid (validB (-1) false false m0 m1 false = true) := Lib.hid (by simp [validB, z0, z1, knownB])
  have HV2 : Hid (validB 1 false true m0 m1 false = true) := Lib.hid (by simp [validB, z0, z1, knownB])
  have HA : Hid (mirror_Restore.f (-1) [false, false] [m0, m1] false 1 = some (1, [false, true], [m0, m1], false, 0)) := Lib.hid (by simp [mirror_Restore.f, HV.out, knownB, up])
  clear z0 z1
  clear ht
  go_enter Try.func7, Try.ntmps7
  go_wp2_with fail
  refine (sane_calls _).mono ?_
  rintro e w1 ⟨rfl, hb⟩
  have DX := Lib.hid ((DBlk.new w (a := (-1)) (s1 := .slice (some ⟨b1, o1, none⟩) 2 c1) (s2 := .slice (some ⟨b2, o2, none⟩) 2 c2) (r := false)).below hb)
  have B1 := Lib.hid (bb (below_one _ _) hb)
  clear hb
  have d0 := DX.out.c0; have d1 := DX.out.c1; have d2 := DX.out.c2; have d3 := DX.out.c3
  go_wp2_with fail
  refine (few_calls (-1) _ _ [false, false] _ _ [m0, m1] false _ (Kd.C_below H1.out B1.out) K1.out (Kd.C_below H2.out B1.out) K2.out).mono ?_
  rintro e w2 ⟨rfl, hb⟩
  replace DX := Lib.hid (DX.out.below hb)
  have B2 := Lib.hid (bb B1.out hb)
  clear hb d0 d1 d2 d3 B1
  rw [HFEW.out]
  have d0 := DX.out.c0; have d1 := DX.out.c1; have d2 := DX.out.c2; have d3 := DX.out.c3
  go_wp2_with fail
  refine (restore_two (-1) _ _ _ _ _ _ false false false m0 m1 1 1 false true m0 m1 false _ (T0.out.below B2.out) HA.out).mono ?_
  rintro e w3 ⟨x1, x2, x3, x4, x5, x6, rfl, t, hb⟩
  have TX := Lib.hid t
  have B3 := Lib.hid (bb B2.out hb)
  have DB := Lib.hid (DX.out.below hb)
  clear t hb d0 d1 d2 d3
  have d0 := fun o => (DB.out.alloc o).c0; have d1 := fun o => (DB.out.alloc o).c1; have d2 := fun o => (DB.out.alloc o).c2; have d3 := fun o => (DB.out.alloc o).c3
  have f0 := fun o => (TX.out.below (below_one _ o)).x0; have f1 := fun o => (TX.out.below (below_one _ o)).x1
  go_wp2_with fail
  clear d0 d1 d2 d3 f0 f1
  refine (check_two 1 _ _ _ _ _ _ false false true m0 m1 _ (TX.out.below (below_one _ _))).mono ?_
  rintro e w9 ⟨rfl, hb⟩
  have hc := bb (below_one _ _) hb
  have DY := Lib.hid ((((DBlk.new w3) : DBlk (w3.alloc (.cells #[.int .i64 1, .slice (some ⟨x1, x2, none⟩) 2 x3, .slice (some ⟨x4, x5, none⟩) 2 x6, .bool false] 25)) _ _ _ _ _)).below hb)
  have B9 := Lib.hid (bb B3.out hc)
  have DB2 := Lib.hid (DB.out.below hc)
  have T2 := Lib.hid (T0.out.below B9.out)
  have TX2 := Lib.hid (TX.out.below hc)
  clear hb hc
  rw [if_pos HV2.out]
  have e0 := DY.out.c0; have e1 := DY.out.c1; have e2 := DY.out.c2; have e3 := DY.out.c3
  have d0 := DB2.out.c0; have d1 := DB2.out.c1; have d2 := DB2.out.c2; have d3 := DB2.out.c3
  have f2 := TX2.out.y0; have f3 := TX2.out.y1
  have g2 := T2.out.y0; have g3 := T2.out.y1
  go_wp2_with fail
  go_quiet (fail)
  go_wp2_with fail
  go_ret
  exact ⟨rfl, pw_below_drewN B9.out _⟩

theorem law7_walk (a : Int) (A1 : Option Addr) (c1 : Nat) (l1 : List Bool) (A2 : Option Addr) (c2 : Nat) (l2 : List Int) (r : Bool) (i : Int) (w : World) (hr1 : Kd.C Kd.bool w A1 l1.length l1) (hc1 : l1.length ≤ c1) (hr2 : Kd.C (Kd.int .i64) w A2 l2.length l2) (hc2 : l2.length ≤ c2) : Calls Try.prog 7 #[.agg #[.int .i64 a, .slice A1 l1.length c1, .slice A2 l2.length c2, .bool r], .int .i64 i] w (LawPost w) := by
  cases hf : fewB l1 l2
  · exact law7_big a A1 c1 l1 A2 c2 l2 r i w hr1 hc1 hr2 hc2 hf
  · rcases restore_cases (a := a) (l1 := l1) (l2 := l2) (r := r) (i := i) with ⟨c, hc, h⟩ | ⟨u0, u1, m0, m1, rfl, rfl, hv, h⟩
    · exact law7_err a A1 c1 l1 A2 c2 l2 r i c w hr1 hc1 hr2 hc2 hf hc h
    · obtain ⟨b1, o1, rfl, k1⟩ := C_bools hr1
      obtain ⟨b2, o2, rfl, k2⟩ := C_ints hr2
      have ht : Two w b1 o1 c1 b2 o2 c2 u0 u1 m0 m1 := ⟨hc1, hc2, by simpa [Addr.add] using k1 0 _ rfl, by simpa [Addr.add] using k1 1 _ rfl, by simpa [Addr.add] using k2 0 _ rfl, by simpa [Addr.add] using k2 1 _ rfl⟩
      obtain ⟨⟨q0, q1⟩, p0, p1⟩ := valid_m hv
      rcases h with ⟨rfl, rfl⟩ | ⟨rfl, rfl⟩
      · cases u1
        · obtain ⟨rfl, rfl⟩ : a = -1 ∧ r = false := by simp [validB] at hv; exact hv.2
          exact law7_0ff b1 o1 c1 b2 o2 c2 m0 m1 w ht q0 q1 p0 p1
        · obtain rfl : a = 1 := by simp [validB, knownB] at hv; omega
          cases r
          · exact law7_0tf b1 o1 c1 b2 o2 c2 m0 m1 w ht q0 q1 p0 p1
          · exact law7_0tt b1 o1 c1 b2 o2 c2 m0 m1 w ht q0 q1 p0 p1
      · cases u0
        · obtain ⟨rfl, rfl⟩ : a = -1 ∧ r = false := by simp [validB] at hv; exact hv.2
          exact law7_1ff b1 o1 c1 b2 o2 c2 m0 m1 w ht q0 q1 p0 p1
        · obtain rfl : a = 0 := by simp [validB, knownB] at hv; omega
          cases r
          · exact law7_1tf b1 o1 c1 b2 o2 c2 m0 m1 w ht q0 q1 p0 p1
          · exact law7_1tt b1 o1 c1 b2 o2 c2 m0 m1 w ht q0 q1 p0 p1

end Go.Proofs.Ytfjboaanpiceaaa.P
