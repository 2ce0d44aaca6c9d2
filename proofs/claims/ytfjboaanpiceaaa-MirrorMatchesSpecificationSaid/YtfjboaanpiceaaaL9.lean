import Derived.Test.YtfjboaanpiceaaaL8
namespace Go.Proofs.Ytfjboaanpiceaaa.P
open Go.RowKit Go.Proofs.YtfjboaanpiceaaaW.PrintWords Go.Proofs.YtfjboaanpiceaaaW.PrintLast Go.Proofs.YtfjboaanpiceaaaW.PrintMore
set_option linter.unusedVariables false
set_option linter.unusedSimpArgs false
set_option linter.unusedVariables false
set_option linter.unusedSimpArgs false
theorem Two.far {w : World} {b1 o1 c1 b2 o2 c2 : Nat} {u0 u1 : Bool} {m0 m1 : Int} {g : Nat} {a : Int} {A1 A2 : Option Addr} {n1 k1 n2 k2 : Nat} {r : Bool} (t : Two w b1 o1 c1 b2 o2 c2 u0 u1 m0 m1) (d : DBlk w g a (.slice A1 n1 k1) (.slice A2 n2 k2) r) : b1 ≠ g ∧ b2 ≠ g := by
  have h : ∀ o, w.cell? ⟨g, o, none⟩ = #[Value.int .i64 a, .slice A1 n1 k1, .slice A2 n2 k2, .bool r][o]? := fun o => cell_of_row w g o _ 25 (0, 0) d
  constructor
  · rintro rfl
    have h0 := t.x0; have h1 := t.x1
    rw [h] at h0 h1
    match o1, h0, h1 with
    | 0, h0, _ => simp at h0
    | 1, h0, _ => simp at h0
    | 2, h0, _ => simp at h0
    | 3, _, h1 => simp at h1
    | (n + 4), h0, _ => simp at h0
  · rintro rfl
    have h0 := t.y0; have h1 := t.y1
    rw [h] at h0 h1
    match o2, h0, h1 with
    | 0, _, h1 => simp at h1
    | 1, h0, _ => simp at h0
    | 2, h0, _ => simp at h0
    | 3, h0, _ => simp at h0
    | (n + 4), h0, _ => simp at h0
theorem cell_set_far {w : World} {b o g i : Nat} {u v : Value} (h : w.cell? ⟨b, o, none⟩ = some v) (hne : b ≠ g) : (w.setCell ⟨g, i, none⟩ u).cell? ⟨b, o, none⟩ = some v := by
  exact (World.cell?_of_block (Below.heap_setCell w ⟨g, i, none⟩ u b hne)).trans h
theorem and_one (i : Int) : bits .and .i64 i 1 = 0 ∨ bits .and .i64 i 1 = 1 := by
  have h : (BitVec.ofInt 64 i &&& BitVec.ofInt 64 1).toNat = 0 ∨ (BitVec.ofInt 64 i &&& BitVec.ofInt 64 1).toNat = 1 := by
    rw [BitVec.toNat_and]
    have e : (BitVec.ofInt 64 1).toNat = 2 ^ 1 - 1 := by decide
    rw [e, Nat.and_two_pow_sub_one_eq_mod]
    omega
  show IntKind.wrap .i64 ((BitVec.ofInt 64 i &&& BitVec.ofInt 64 1).toNat : Int) = 0 ∨ IntKind.wrap .i64 ((BitVec.ofInt 64 i &&& BitVec.ofInt 64 1).toNat : Int) = 1
  rcases h with h | h <;> rw [h]
  · left; decide
  · right; decide
theorem Two.set {w : World} {b1 o1 c1 b2 o2 c2 : Nat} {u0 u1 : Bool} {m0 m1 : Int} {g : Nat} (t : Two w b1 o1 c1 b2 o2 c2 u0 u1 m0 m1) (h1 : b1 ≠ g) (h2 : b2 ≠ g) (i : Nat) (u : Value) : Two (w.setCell ⟨g, i, none⟩ u) b1 o1 c1 b2 o2 c2 u0 u1 m0 m1 :=
  ⟨t.k1, t.k2, cell_set_far t.x0 h1, cell_set_far t.x1 h1, cell_set_far t.y0 h2, cell_set_far t.y1 h2⟩
/-- The pair that a variable in memory holds. -/
structure St (w3 w' : World) (a : Int) (x1 x2 x3 x4 x5 x6 : Nat) (u0 u1 : Bool) (m0 m1 : Int) (r : Bool) : Prop where
  d : DBlk w' w3.heap.size a (.slice (some ⟨x1, x2, none⟩) 2 x3) (.slice (some ⟨x4, x5, none⟩) 2 x6) r
  t : Two w' x1 x2 x3 x4 x5 x6 u0 u1 m0 m1
  b : Below w3.heap.size w3 w'
variable {w3 w' W : World} {a a' : Int} {x1 x2 x3 x4 x5 x6 y1 y2 y3 y4 y5 y6 : Nat} {u0 u1 v0 v1 : Bool} {m0 m1 n0 n1 : Int} {r r' : Bool}
theorem St.below (h : St w3 w' a x1 x2 x3 x4 x5 x6 u0 u1 m0 m1 r) (hb : Below w'.heap.size w' W) : St w3 W a x1 x2 x3 x4 x5 x6 u0 u1 m0 m1 r :=
  ⟨h.d.below hb, h.t.below hb, bb h.b hb⟩
theorem St.store (h : St w3 w' a x1 x2 x3 x4 x5 x6 u0 u1 m0 m1 r) (t : Two w' y1 y2 y3 y4 y5 y6 v0 v1 n0 n1) :
    St w3 ((((w'.setCell ⟨w3.heap.size, 0, none⟩ (.int .i64 a')).setCell ⟨w3.heap.size, 1, none⟩ (.slice (some ⟨y1, y2, none⟩) 2 y3)).setCell ⟨w3.heap.size, 2, none⟩ (.slice (some ⟨y4, y5, none⟩) 2 y6)).setCell ⟨w3.heap.size, 3, none⟩ (.bool r')) a' y1 y2 y3 y4 y5 y6 v0 v1 n0 n1 r' := by
  obtain ⟨h1, h2⟩ := t.far h.d
  exact ⟨h.d.set4 _ _ _ _, (((t.set h1 h2 _ _).set h1 h2 _ _).set h1 h2 _ _).set h1 h2 _ _, Below.setCell (Below.setCell (Below.setCell (Below.setCell h.b (by simp) _) (by simp) _) (by simp) _) (by simp) _⟩
theorem St.new (w3 : World) (h : Two w3 x1 x2 x3 x4 x5 x6 u0 u1 m0 m1) : St w3 (w3.alloc (.cells #[.int .i64 a, .slice (some ⟨x1, x2, none⟩) 2 x3, .slice (some ⟨x4, x5, none⟩) 2 x6, .bool r] 25)) a x1 x2 x3 x4 x5 x6 u0 u1 m0 m1 r :=
  ⟨DBlk.new w3, h.below (below_one _ _), below_one _ _⟩

set_option maxHeartbeats 1000000 in
theorem law9_big (a : Int) (A1 : Option Addr) (c1 : Nat) (l1 : List Bool) (A2 : Option Addr) (c2 : Nat) (l2 : List Int) (r : Bool) (i : Int) (w : World) (hr1 : Kd.C Kd.bool w A1 l1.length l1) (hc1 : l1.length ≤ c1) (hr2 : Kd.C (Kd.int .i64) w A2 l2.length l2) (hc2 : l2.length ≤ c2) (hf : fewB l1 l2 = false) : Calls Try.prog 9 #[.agg #[.int .i64 a, .slice A1 l1.length c1, .slice A2 l2.length c2, .bool r], .int .i64 i] w (LawPost w) := by
  have H1 := Lib.hid hr1; have K1 := Lib.hid hc1; have H2 := Lib.hid hr2; have K2 := Lib.hid hc2
  clear hr1 hc1 hr2 hc2
  have HFEW := Lib.hid hf
  clear hf
  go_enter Try.func9, Try.ntmps9
  go_wp2_with fail
  refine (sane_calls _).mono ?_
  rintro e w1 ⟨rfl, hb⟩
  have DX := Lib.hid ((DBlk.new w (a := a) (s1 := .slice A1 l1.length c1) (s2 := .slice A2 l2.length c2) (r := r)).below hb)
  have B1 := Lib.hid (bb (below_one _ _) hb)
  clear hb
  have d0 := DX.out.c0; have d1 := DX.out.c1; have d2 := DX.out.c2; have d3 := DX.out.c3
  go_wp2_with fail
  refine (few_calls a _ _ l1 _ _ l2 r _ (Kd.C_below H1.out B1.out) K1.out (Kd.C_below H2.out B1.out) K2.out).mono ?_
  rintro e w2 ⟨rfl, hb⟩
  replace DX := Lib.hid (DX.out.below hb)
  have B2 := Lib.hid (bb B1.out hb)
  clear hb d0 d1 d2 d3 B1
  rw [HFEW.out]
  have d0 := DX.out.c0; have d1 := DX.out.c1; have d2 := DX.out.c2; have d3 := DX.out.c3
  go_wp2_with fail
  go_ret
  exact ⟨rfl, B2.out⟩

set_option maxHeartbeats 1000000 in
theorem law9_odd (a : Int) (A1 : Option Addr) (c1 : Nat) (l1 : List Bool) (A2 : Option Addr) (c2 : Nat) (l2 : List Int) (r : Bool) (i c : Int) (w : World) (hr1 : Kd.C Kd.bool w A1 l1.length l1) (hc1 : l1.length ≤ c1) (hr2 : Kd.C (Kd.int .i64) w A2 l2.length l2) (hc2 : l2.length ≤ c2) (hf : fewB l1 l2 = true) (hc : ¬ c = 0) (h : mirror_Check.f a l1 l2 r = some c) : Calls Try.prog 9 #[.agg #[.int .i64 a, .slice A1 l1.length c1, .slice A2 l2.length c2, .bool r], .int .i64 i] w (LawPost w) := by
  have H1 := Lib.hid hr1; have K1 := Lib.hid hc1; have H2 := Lib.hid hr2; have K2 := Lib.hid hc2
  clear hr1 hc1 hr2 hc2
  have HFEW := Lib.hid hf
  have HC := Lib.hid hc
  have HA := Lib.hid h
  clear hf hc h
  go_enter Try.func9, Try.ntmps9
  go_wp2_with fail
  refine (sane_calls _).mono ?_
  rintro e w1 ⟨rfl, hb⟩
  have DX := Lib.hid ((DBlk.new w (a := a) (s1 := .slice A1 l1.length c1) (s2 := .slice A2 l2.length c2) (r := r)).below hb)
  have B1 := Lib.hid (bb (below_one _ _) hb)
  clear hb
  have d0 := DX.out.c0; have d1 := DX.out.c1; have d2 := DX.out.c2; have d3 := DX.out.c3
  go_wp2_with fail
  refine (few_calls a _ _ l1 _ _ l2 r _ (Kd.C_below H1.out B1.out) K1.out (Kd.C_below H2.out B1.out) K2.out).mono ?_
  rintro e w2 ⟨rfl, hb⟩
  replace DX := Lib.hid (DX.out.below hb)
  have B2 := Lib.hid (bb B1.out hb)
  clear hb d0 d1 d2 d3 B1
  rw [HFEW.out]
  have d0 := DX.out.c0; have d1 := DX.out.c1; have d2 := DX.out.c2; have d3 := DX.out.c3
  go_wp2_with fail
  refine (mirror_Check.calls a _ _ l1 _ _ l2 r c _ (Kd.C_below H1.out B2.out) K1.out (Kd.C_below H2.out B2.out) K2.out HA.out).mono ?_
  rintro e w3 ⟨rfl, hb⟩
  have B3 := Lib.hid (bb B2.out hb)
  clear hb d0 d1 d2 d3
  have hb0 : (c == 0) = false := by simpa using HC.out
  have hb1 : (c != 0) = true := by simpa using HC.out
  go_wp2_with fail
  go_ret
  exact ⟨rfl, B3.out⟩

set_option maxHeartbeats 4000000 in
theorem law9_zttt0 (b1 o1 c1 b2 o2 c2 : Nat) (m : Int) (i : Int) (w : World) (ht : Two w b1 o1 c1 b2 o2 c2 true true m m) (q0 : 0 ≤ m) (q1 : m ≤ 1099511627776) (p0 : 0 ≤ m) (p1 : m ≤ 1099511627776) (hp : bits .and .i64 i 1 = 0) : Calls Try.prog 9 #[.agg #[.int .i64 0, .slice (some ⟨b1, o1, none⟩) 2 c1, .slice (some ⟨b2, o2, none⟩) 2 c2, .bool true], .int .i64 i] w (LawPost w) := by
  have H1 := Lib.hid ht.C1; have K1 := Lib.hid ht.k1; have H2 := Lib.hid ht.C2; have K2 := Lib.hid ht.k2
  have T0 := Lib.hid ht
  have HFEW : Hid (fewB [true, true] [m, m] = true) := Lib.hid rfl
  have z0 := oddB_no q0 q1; have z1 := oddB_no p0 p1
  have HV : Hid (validB 0 true true m m true = true) := Lib.hid (by simp [validB, z0, z1, knownB])
  have HV1 : Hid (validB 1 false true m m false = true) := Lib.hid (by simp [validB, z0, z1, knownB])
  have HV2 : Hid (validB (-1) false false m m false = true) := Lib.hid (by simp [validB, z0, z1, knownB])
  have HV3 : Hid (validB 0 true false m m false = true) := Lib.hid (by simp [validB, z0, z1, knownB])
  have HA : Hid (mirror_Crash.f 0 [true, true] [m, m] true 0 = some (1, [false, true], [m, m], false, 0)) := Lib.hid (by simp [mirror_Crash.f, HV.out, knownB, up])
  have HB : Hid (mirror_Crash.f 1 [false, true] [m, m] false 1 = some ((-1), [false, false], [m, m], false, 0)) := Lib.hid (by simp [mirror_Crash.f, HV1.out, knownB, up])
  have HC : Hid (applyF (-1) [false, false] [m, m] false = some (0, [], [], false, 330)) := Lib.hid (by simp [applyF, HV2.out])
  have HD : Hid (mirror_Arm.f (-1) [false, false] [m, m] false = some (0, [], [], false, 330)) := Lib.hid (by simp [mirror_Arm.f, HV2.out])
  have HE : Hid (mirror_Restore.f (-1) [false, false] [m, m] false 0 = some (0, [true, false], [m, m], false, 0)) := Lib.hid (by simp [mirror_Restore.f, HV2.out, knownB, up])
  have HP := Lib.hid hp
  clear z0 z1 hp
  clear ht
  go_enter Try.func9, Try.ntmps9
  go_wp2_with fail
  refine (sane_calls _).mono ?_
  rintro e w1 ⟨rfl, hb⟩
  have DX := Lib.hid ((DBlk.new w (a := 0) (s1 := .slice (some ⟨b1, o1, none⟩) 2 c1) (s2 := .slice (some ⟨b2, o2, none⟩) 2 c2) (r := true)).below hb)
  have B1 := Lib.hid (bb (below_one _ _) hb)
  clear hb
  have d0 := DX.out.c0; have d1 := DX.out.c1; have d2 := DX.out.c2; have d3 := DX.out.c3
  go_wp2_with fail
  refine (few_calls 0 _ _ [true, true] _ _ [m, m] true _ (Kd.C_below H1.out B1.out) K1.out (Kd.C_below H2.out B1.out) K2.out).mono ?_
  rintro e w2 ⟨rfl, hb⟩
  replace DX := Lib.hid (DX.out.below hb)
  have B2 := Lib.hid (bb B1.out hb)
  clear hb d0 d1 d2 d3 B1
  rw [HFEW.out]
  have d0 := DX.out.c0; have d1 := DX.out.c1; have d2 := DX.out.c2; have d3 := DX.out.c3
  go_wp2_with fail
  refine (check_two 0 _ _ _ _ _ _ true true true m m _ (T0.out.below B2.out)).mono ?_
  rintro e w3 ⟨rfl, hb⟩
  have B3 := Lib.hid (bb B2.out hb)
  replace DX := Lib.hid (DX.out.below hb)
  have TX := Lib.hid (T0.out.below B3.out)
  clear hb d0 d1 d2 d3
  rw [if_pos HV.out]
  have d0 := DX.out.c0; have d1 := DX.out.c1; have d2 := DX.out.c2; have d3 := DX.out.c3
  go_wp2_with fail
  clear d0 d1 d2 d3
  refine wp_loop_rounds 3 ?_
  rw [rounds_succ]
  have S := Lib.hid (St.new (a := 0) (r := true) w3 TX.out)
  obtain ⟨W, hW⟩ : ∃ W, W = w3.alloc (.cells #[.int .i64 0, .slice (some ⟨b1, o1, none⟩) 2 c1, .slice (some ⟨b2, o2, none⟩) 2 c2, .bool true] 25) := ⟨_, rfl⟩
  rw [← hW] at S ⊢
  clear hW
  have s0 := S.out.d.c0; have s1 := S.out.d.c1; have s2 := S.out.d.c2; have s3 := S.out.d.c3
  go_wp2_with fail
  clear s0 s1 s2 s3
  refine (crash_two 0 _ _ _ _ _ _ true true true m m 0 1 false true m m false _ S.out.t HA.out).mono ?_
  rintro e W1 ⟨x1, x2, x3, x4, x5, x6, rfl, t, hb⟩
  replace S := Lib.hid (S.out.below hb)
  have TY := Lib.hid t
  clear t hb
  have hs := fun o => (S.out.d.alloc o).fr
  have s0 := fun o => (S.out.d.alloc o).c0; have s1 := fun o => (S.out.d.alloc o).c1; have s2 := fun o => (S.out.d.alloc o).c2; have s3 := fun o => (S.out.d.alloc o).c3
  go_wp2_with fail
  rw [rounds_succ]
  clear hs s0 s1 s2 s3
  replace S := Lib.hid ((S.out.below (below_one _ (.cells #[.int .i64 1, .slice (some ⟨x1, x2, none⟩) 2 x3, .slice (some ⟨x4, x5, none⟩) 2 x6, .bool false] 25))).store (a' := 1) (r' := false) (TY.out.below (below_one _ _)))
  clear TY
  revert S
  generalize World.setCell _ _ _ = Wa
  intro S
  have s0 := S.out.d.c0; have s1 := S.out.d.c1; have s2 := S.out.d.c2; have s3 := S.out.d.c3
  go_wp2_with fail
  clear s0 s1 s2 s3
  refine (crash_two 1 _ _ _ _ _ _ false false true m m 1 (-1) false false m m false _ S.out.t HB.out).mono ?_
  rintro e W3 ⟨y1, y2, y3, y4, y5, y6, rfl, t, hb⟩
  replace S := Lib.hid (S.out.below hb)
  have TY := Lib.hid t
  clear t hb
  have hs := fun o => (S.out.d.alloc o).fr
  have s0 := fun o => (S.out.d.alloc o).c0; have s1 := fun o => (S.out.d.alloc o).c1; have s2 := fun o => (S.out.d.alloc o).c2; have s3 := fun o => (S.out.d.alloc o).c3
  go_wp2_with fail
  rw [rounds_succ]
  clear hs s0 s1 s2 s3
  replace S := Lib.hid ((S.out.below (below_one _ (.cells #[.int .i64 (-1), .slice (some ⟨y1, y2, none⟩) 2 y3, .slice (some ⟨y4, y5, none⟩) 2 y6, .bool false] 25))).store (a' := (-1)) (r' := false) (TY.out.below (below_one _ _)))
  clear TY
  revert S
  generalize World.setCell _ _ _ = Wb
  intro S
  have s0 := S.out.d.c0; have s1 := S.out.d.c1; have s2 := S.out.d.c2; have s3 := S.out.d.c3
  go_wp2_with fail
  clear s0 s1 s2 s3
  refine (apply_err (-1) _ _ [false, false] _ _ [m, m] false 330 _ S.out.t.C1 S.out.t.k1 S.out.t.C2 S.out.t.k2 (by decide) HC.out).mono ?_
  rintro e W4 ⟨zA, zk, zB, zl, rfl, hb⟩
  replace S := Lib.hid (S.out.below hb)
  clear hb
  have s0 := fun o => (S.out.d.alloc o).c0; have s1 := fun o => (S.out.d.alloc o).c1; have s2 := fun o => (S.out.d.alloc o).c2; have s3 := fun o => (S.out.d.alloc o).c3
  go_wp2_with fail
  clear s0 s1 s2 s3
  refine (arm_err (-1) _ _ [false, false] _ _ [m, m] false 330 _ (S.out.t.below (below_one _ _)).C1 S.out.t.k1 (S.out.t.below (below_one _ _)).C2 S.out.t.k2 (by decide) HD.out).mono ?_
  rintro e W5 ⟨zA', zk', zB', zl', rfl, hb⟩
  replace S := Lib.hid (S.out.below (bb (below_one _ _) hb))
  clear hb
  have s0 := fun o => (S.out.d.alloc o).c0; have s1 := fun o => (S.out.d.alloc o).c1; have s2 := fun o => (S.out.d.alloc o).c2; have s3 := fun o => (S.out.d.alloc o).c3
  go_wp2_with fail
  clear s0 s1 s2 s3
  rw [HP.out]
  refine (restore_two (-1) _ _ _ _ _ _ false false false m m 0 0 true false m m false _ (S.out.t.below (below_one _ _)) HE.out).mono ?_
  rintro e W6 ⟨g1, g2, g3, g4, g5, g6, rfl, t, hb⟩
  replace S := Lib.hid (S.out.below (bb (below_one _ _) hb))
  have TG := Lib.hid t
  clear t hb
  have hp := HP.out
  go_wp2_with fail
  refine (check_two 0 _ _ _ _ _ _ false true false m m _ (TG.out.below (below_one _ _))).mono ?_
  rintro e W7 ⟨rfl, hb⟩
  replace S := Lib.hid (S.out.below (bb (below_one _ _) hb))
  clear hb
  rw [if_pos HV3.out]
  go_wp2_with fail
  go_ret
  exact ⟨rfl, bb B3.out S.out.b⟩

set_option maxHeartbeats 4000000 in
theorem law9_zttt1 (b1 o1 c1 b2 o2 c2 : Nat) (m : Int) (i : Int) (w : World) (ht : Two w b1 o1 c1 b2 o2 c2 true true m m) (q0 : 0 ≤ m) (q1 : m ≤ 1099511627776) (p0 : 0 ≤ m) (p1 : m ≤ 1099511627776) (hp : bits .and .i64 i 1 = 1) : Calls Try.prog 9 #[.agg #[.int .i64 0, .slice (some ⟨b1, o1, none⟩) 2 c1, .slice (some ⟨b2, o2, none⟩) 2 c2, .bool true], .int .i64 i] w (LawPost w) := by
  have H1 := Lib.hid ht.C1; have K1 := Lib.hid ht.k1; have H2 := Lib.hid ht.C2; have K2 := Lib.hid ht.k2
  have T0 := Lib.hid ht
  have HFEW : Hid (fewB [true, true] [m, m] = true) := Lib.hid rfl
  have z0 := oddB_no q0 q1; have z1 := oddB_no p0 p1
  have HV : Hid (validB 0 true true m m true = true) := Lib.hid (by simp [validB, z0, z1, knownB])
  have HV1 : Hid (validB 1 false true m m false = true) := Lib.hid (by simp [validB, z0, z1, knownB])
  have HV2 : Hid (validB (-1) false false m m false = true) := Lib.hid (by simp [validB, z0, z1, knownB])
  have HV3 : Hid (validB 1 false true m m false = true) := Lib.hid (by simp [validB, z0, z1, knownB])
  have HA : Hid (mirror_Crash.f 0 [true, true] [m, m] true 0 = some (1, [false, true], [m, m], false, 0)) := Lib.hid (by simp [mirror_Crash.f, HV.out, knownB, up])
  have HB : Hid (mirror_Crash.f 1 [false, true] [m, m] false 1 = some ((-1), [false, false], [m, m], false, 0)) := Lib.hid (by simp [mirror_Crash.f, HV1.out, knownB, up])
  have HC : Hid (applyF (-1) [false, false] [m, m] false = some (0, [], [], false, 330)) := Lib.hid (by simp [applyF, HV2.out])
  have HD : Hid (mirror_Arm.f (-1) [false, false] [m, m] false = some (0, [], [], false, 330)) := Lib.hid (by simp [mirror_Arm.f, HV2.out])
  have HE : Hid (mirror_Restore.f (-1) [false, false] [m, m] false 1 = some (1, [false, true], [m, m], false, 0)) := Lib.hid (by simp [mirror_Restore.f, HV2.out, knownB, up])
  have HP := Lib.hid hp
  clear z0 z1 hp
  clear ht
  go_enter Try.func9, Try.ntmps9
  go_wp2_with fail
  refine (sane_calls _).mono ?_
  rintro e w1 ⟨rfl, hb⟩
  have DX := Lib.hid ((DBlk.new w (a := 0) (s1 := .slice (some ⟨b1, o1, none⟩) 2 c1) (s2 := .slice (some ⟨b2, o2, none⟩) 2 c2) (r := true)).below hb)
  have B1 := Lib.hid (bb (below_one _ _) hb)
  clear hb
  have d0 := DX.out.c0; have d1 := DX.out.c1; have d2 := DX.out.c2; have d3 := DX.out.c3
  go_wp2_with fail
  refine (few_calls 0 _ _ [true, true] _ _ [m, m] true _ (Kd.C_below H1.out B1.out) K1.out (Kd.C_below H2.out B1.out) K2.out).mono ?_
  rintro e w2 ⟨rfl, hb⟩
  replace DX := Lib.hid (DX.out.below hb)
  have B2 := Lib.hid (bb B1.out hb)
  clear hb d0 d1 d2 d3 B1
  rw [HFEW.out]
  have d0 := DX.out.c0; have d1 := DX.out.c1; have d2 := DX.out.c2; have d3 := DX.out.c3
  go_wp2_with fail
  refine (check_two 0 _ _ _ _ _ _ true true true m m _ (T0.out.below B2.out)).mono ?_
  rintro e w3 ⟨rfl, hb⟩
  have B3 := Lib.hid (bb B2.out hb)
  replace DX := Lib.hid (DX.out.below hb)
  have TX := Lib.hid (T0.out.below B3.out)
  clear hb d0 d1 d2 d3
  rw [if_pos HV.out]
  have d0 := DX.out.c0; have d1 := DX.out.c1; have d2 := DX.out.c2; have d3 := DX.out.c3
  go_wp2_with fail
  clear d0 d1 d2 d3
  refine wp_loop_rounds 3 ?_
  rw [rounds_succ]
  have S := Lib.hid (St.new (a := 0) (r := true) w3 TX.out)
  obtain ⟨W, hW⟩ : ∃ W, W = w3.alloc (.cells #[.int .i64 0, .slice (some ⟨b1, o1, none⟩) 2 c1, .slice (some ⟨b2, o2, none⟩) 2 c2, .bool true] 25) := ⟨_, rfl⟩
  rw [← hW] at S ⊢
  clear hW
  have s0 := S.out.d.c0; have s1 := S.out.d.c1; have s2 := S.out.d.c2; have s3 := S.out.d.c3
  go_wp2_with fail
  clear s0 s1 s2 s3
  refine (crash_two 0 _ _ _ _ _ _ true true true m m 0 1 false true m m false _ S.out.t HA.out).mono ?_
  rintro e W1 ⟨x1, x2, x3, x4, x5, x6, rfl, t, hb⟩
  replace S := Lib.hid (S.out.below hb)
  have TY := Lib.hid t
  clear t hb
  have hs := fun o => (S.out.d.alloc o).fr
  have s0 := fun o => (S.out.d.alloc o).c0; have s1 := fun o => (S.out.d.alloc o).c1; have s2 := fun o => (S.out.d.alloc o).c2; have s3 := fun o => (S.out.d.alloc o).c3
  go_wp2_with fail
  rw [rounds_succ]
  clear hs s0 s1 s2 s3
  replace S := Lib.hid ((S.out.below (below_one _ (.cells #[.int .i64 1, .slice (some ⟨x1, x2, none⟩) 2 x3, .slice (some ⟨x4, x5, none⟩) 2 x6, .bool false] 25))).store (a' := 1) (r' := false) (TY.out.below (below_one _ _)))
  clear TY
  revert S
  generalize World.setCell _ _ _ = Wa
  intro S
  have s0 := S.out.d.c0; have s1 := S.out.d.c1; have s2 := S.out.d.c2; have s3 := S.out.d.c3
  go_wp2_with fail
  clear s0 s1 s2 s3
  refine (crash_two 1 _ _ _ _ _ _ false false true m m 1 (-1) false false m m false _ S.out.t HB.out).mono ?_
  rintro e W3 ⟨y1, y2, y3, y4, y5, y6, rfl, t, hb⟩
  replace S := Lib.hid (S.out.below hb)
  have TY := Lib.hid t
  clear t hb
  have hs := fun o => (S.out.d.alloc o).fr
  have s0 := fun o => (S.out.d.alloc o).c0; have s1 := fun o => (S.out.d.alloc o).c1; have s2 := fun o => (S.out.d.alloc o).c2; have s3 := fun o => (S.out.d.alloc o).c3
  go_wp2_with fail
  rw [rounds_succ]
  clear hs s0 s1 s2 s3
  replace S := Lib.hid ((S.out.below (below_one _ (.cells #[.int .i64 (-1), .slice (some ⟨y1, y2, none⟩) 2 y3, .slice (some ⟨y4, y5, none⟩) 2 y6, .bool false] 25))).store (a' := (-1)) (r' := false) (TY.out.below (below_one _ _)))
  clear TY
  revert S
  generalize World.setCell _ _ _ = Wb
  intro S
  have s0 := S.out.d.c0; have s1 := S.out.d.c1; have s2 := S.out.d.c2; have s3 := S.out.d.c3
  go_wp2_with fail
  clear s0 s1 s2 s3
  refine (apply_err (-1) _ _ [false, false] _ _ [m, m] false 330 _ S.out.t.C1 S.out.t.k1 S.out.t.C2 S.out.t.k2 (by decide) HC.out).mono ?_
  rintro e W4 ⟨zA, zk, zB, zl, rfl, hb⟩
  replace S := Lib.hid (S.out.below hb)
  clear hb
  have s0 := fun o => (S.out.d.alloc o).c0; have s1 := fun o => (S.out.d.alloc o).c1; have s2 := fun o => (S.out.d.alloc o).c2; have s3 := fun o => (S.out.d.alloc o).c3
  go_wp2_with fail
  clear s0 s1 s2 s3
  refine (arm_err (-1) _ _ [false, false] _ _ [m, m] false 330 _ (S.out.t.below (below_one _ _)).C1 S.out.t.k1 (S.out.t.below (below_one _ _)).C2 S.out.t.k2 (by decide) HD.out).mono ?_
  rintro e W5 ⟨zA', zk', zB', zl', rfl, hb⟩
  replace S := Lib.hid (S.out.below (bb (below_one _ _) hb))
  clear hb
  have s0 := fun o => (S.out.d.alloc o).c0; have s1 := fun o => (S.out.d.alloc o).c1; have s2 := fun o => (S.out.d.alloc o).c2; have s3 := fun o => (S.out.d.alloc o).c3
  go_wp2_with fail
  clear s0 s1 s2 s3
  rw [HP.out]
  refine (restore_two (-1) _ _ _ _ _ _ false false false m m 1 1 false true m m false _ (S.out.t.below (below_one _ _)) HE.out).mono ?_
  rintro e W6 ⟨g1, g2, g3, g4, g5, g6, rfl, t, hb⟩
  replace S := Lib.hid (S.out.below (bb (below_one _ _) hb))
  have TG := Lib.hid t
  clear t hb
  have hp := HP.out
  go_wp2_with fail
  refine (check_two 1 _ _ _ _ _ _ false false true m m _ (TG.out.below (below_one _ _))).mono ?_
  rintro e W7 ⟨rfl, hb⟩
  replace S := Lib.hid (S.out.below (bb (below_one _ _) hb))
  clear hb
  rw [if_pos HV3.out]
  go_wp2_with fail
  go_ret
  exact ⟨rfl, bb B3.out S.out.b⟩

set_option maxHeartbeats 4000000 in
theorem law9_zttf0 (b1 o1 c1 b2 o2 c2 : Nat) (m : Int) (i : Int) (w : World) (ht : Two w b1 o1 c1 b2 o2 c2 true true m m) (q0 : 0 ≤ m) (q1 : m ≤ 1099511627776) (p0 : 0 ≤ m) (p1 : m ≤ 1099511627776) (hp : bits .and .i64 i 1 = 0) : Calls Try.prog 9 #[.agg #[.int .i64 0, .slice (some ⟨b1, o1, none⟩) 2 c1, .slice (some ⟨b2, o2, none⟩) 2 c2, .bool false], .int .i64 i] w (LawPost w) := by
  have H1 := Lib.hid ht.C1; have K1 := Lib.hid ht.k1; have H2 := Lib.hid ht.C2; have K2 := Lib.hid ht.k2
  have T0 := Lib.hid ht
  have HFEW : Hid (fewB [true, true] [m, m] = true) := Lib.hid rfl
  have z0 := oddB_no q0 q1; have z1 := oddB_no p0 p1
  have HV : Hid (validB 0 true true m m false = true) := Lib.hid (by simp [validB, z0, z1, knownB])
  have HV1 : Hid (validB 1 false true m m false = true) := Lib.hid (by simp [validB, z0, z1, knownB])
  have HV2 : Hid (validB (-1) false false m m false = true) := Lib.hid (by simp [validB, z0, z1, knownB])
  have HV3 : Hid (validB 0 true false m m false = true) := Lib.hid (by simp [validB, z0, z1, knownB])
  have HA : Hid (mirror_Crash.f 0 [true, true] [m, m] false 0 = some (1, [false, true], [m, m], false, 0)) := Lib.hid (by simp [mirror_Crash.f, HV.out, knownB, up])
  have HB : Hid (mirror_Crash.f 1 [false, true] [m, m] false 1 = some ((-1), [false, false], [m, m], false, 0)) := Lib.hid (by simp [mirror_Crash.f, HV1.out, knownB, up])
  have HC : Hid (applyF (-1) [false, false] [m, m] false = some (0, [], [], false, 330)) := Lib.hid (by simp [applyF, HV2.out])
  have HD : Hid (mirror_Arm.f (-1) [false, false] [m, m] false = some (0, [], [], false, 330)) := Lib.hid (by simp [mirror_Arm.f, HV2.out])
  have HE : Hid (mirror_Restore.f (-1) [false, false] [m, m] false 0 = some (0, [true, false], [m, m], false, 0)) := Lib.hid (by simp [mirror_Restore.f, HV2.out, knownB, up])
  have HP := Lib.hid hp
  clear z0 z1 hp
  clear ht
  go_enter Try.func9, Try.ntmps9
  go_wp2_with fail
  refine (sane_calls _).mono ?_
  rintro e w1 ⟨rfl, hb⟩
  have DX := Lib.hid ((DBlk.new w (a := 0) (s1 := .slice (some ⟨b1, o1, none⟩) 2 c1) (s2 := .slice (some ⟨b2, o2, none⟩) 2 c2) (r := false)).below hb)
  have B1 := Lib.hid (bb (below_one _ _) hb)
  clear hb
  have d0 := DX.out.c0; have d1 := DX.out.c1; have d2 := DX.out.c2; have d3 := DX.out.c3
  go_wp2_with fail
  refine (few_calls 0 _ _ [true, true] _ _ [m, m] false _ (Kd.C_below H1.out B1.out) K1.out (Kd.C_below H2.out B1.out) K2.out).mono ?_
  rintro e w2 ⟨rfl, hb⟩
  replace DX := Lib.hid (DX.out.below hb)
  have B2 := Lib.hid (bb B1.out hb)
  clear hb d0 d1 d2 d3 B1
  rw [HFEW.out]
  have d0 := DX.out.c0; have d1 := DX.out.c1; have d2 := DX.out.c2; have d3 := DX.out.c3
  go_wp2_with fail
  refine (check_two 0 _ _ _ _ _ _ false true true m m _ (T0.out.below B2.out)).mono ?_
  rintro e w3 ⟨rfl, hb⟩
  have B3 := Lib.hid (bb B2.out hb)
  replace DX := Lib.hid (DX.out.below hb)
  have TX := Lib.hid (T0.out.below B3.out)
  clear hb d0 d1 d2 d3
  rw [if_pos HV.out]
  have d0 := DX.out.c0; have d1 := DX.out.c1; have d2 := DX.out.c2; have d3 := DX.out.c3
  go_wp2_with fail
  clear d0 d1 d2 d3
  refine wp_loop_rounds 3 ?_
  rw [rounds_succ]
  have S := Lib.hid (St.new (a := 0) (r := false) w3 TX.out)
  obtain ⟨W, hW⟩ : ∃ W, W = w3.alloc (.cells #[.int .i64 0, .slice (some ⟨b1, o1, none⟩) 2 c1, .slice (some ⟨b2, o2, none⟩) 2 c2, .bool false] 25) := ⟨_, rfl⟩
  rw [← hW] at S ⊢
  clear hW
  have s0 := S.out.d.c0; have s1 := S.out.d.c1; have s2 := S.out.d.c2; have s3 := S.out.d.c3
  go_wp2_with fail
  clear s0 s1 s2 s3
  refine (crash_two 0 _ _ _ _ _ _ false true true m m 0 1 false true m m false _ S.out.t HA.out).mono ?_
  rintro e W1 ⟨x1, x2, x3, x4, x5, x6, rfl, t, hb⟩
  replace S := Lib.hid (S.out.below hb)
  have TY := Lib.hid t
  clear t hb
  have hs := fun o => (S.out.d.alloc o).fr
  have s0 := fun o => (S.out.d.alloc o).c0; have s1 := fun o => (S.out.d.alloc o).c1; have s2 := fun o => (S.out.d.alloc o).c2; have s3 := fun o => (S.out.d.alloc o).c3
  go_wp2_with fail
  rw [rounds_succ]
  clear hs s0 s1 s2 s3
  replace S := Lib.hid ((S.out.below (below_one _ (.cells #[.int .i64 1, .slice (some ⟨x1, x2, none⟩) 2 x3, .slice (some ⟨x4, x5, none⟩) 2 x6, .bool false] 25))).store (a' := 1) (r' := false) (TY.out.below (below_one _ _)))
  clear TY
  revert S
  generalize World.setCell _ _ _ = Wa
  intro S
  have s0 := S.out.d.c0; have s1 := S.out.d.c1; have s2 := S.out.d.c2; have s3 := S.out.d.c3
  go_wp2_with fail
  clear s0 s1 s2 s3
  refine (crash_two 1 _ _ _ _ _ _ false false true m m 1 (-1) false false m m false _ S.out.t HB.out).mono ?_
  rintro e W3 ⟨y1, y2, y3, y4, y5, y6, rfl, t, hb⟩
  replace S := Lib.hid (S.out.below hb)
  have TY := Lib.hid t
  clear t hb
  have hs := fun o => (S.out.d.alloc o).fr
  have s0 := fun o => (S.out.d.alloc o).c0; have s1 := fun o => (S.out.d.alloc o).c1; have s2 := fun o => (S.out.d.alloc o).c2; have s3 := fun o => (S.out.d.alloc o).c3
  go_wp2_with fail
  rw [rounds_succ]
  clear hs s0 s1 s2 s3
  replace S := Lib.hid ((S.out.below (below_one _ (.cells #[.int .i64 (-1), .slice (some ⟨y1, y2, none⟩) 2 y3, .slice (some ⟨y4, y5, none⟩) 2 y6, .bool false] 25))).store (a' := (-1)) (r' := false) (TY.out.below (below_one _ _)))
  clear TY
  revert S
  generalize World.setCell _ _ _ = Wb
  intro S
  have s0 := S.out.d.c0; have s1 := S.out.d.c1; have s2 := S.out.d.c2; have s3 := S.out.d.c3
  go_wp2_with fail
  clear s0 s1 s2 s3
  refine (apply_err (-1) _ _ [false, false] _ _ [m, m] false 330 _ S.out.t.C1 S.out.t.k1 S.out.t.C2 S.out.t.k2 (by decide) HC.out).mono ?_
  rintro e W4 ⟨zA, zk, zB, zl, rfl, hb⟩
  replace S := Lib.hid (S.out.below hb)
  clear hb
  have s0 := fun o => (S.out.d.alloc o).c0; have s1 := fun o => (S.out.d.alloc o).c1; have s2 := fun o => (S.out.d.alloc o).c2; have s3 := fun o => (S.out.d.alloc o).c3
  go_wp2_with fail
  clear s0 s1 s2 s3
  refine (arm_err (-1) _ _ [false, false] _ _ [m, m] false 330 _ (S.out.t.below (below_one _ _)).C1 S.out.t.k1 (S.out.t.below (below_one _ _)).C2 S.out.t.k2 (by decide) HD.out).mono ?_
  rintro e W5 ⟨zA', zk', zB', zl', rfl, hb⟩
  replace S := Lib.hid (S.out.below (bb (below_one _ _) hb))
  clear hb
  have s0 := fun o => (S.out.d.alloc o).c0; have s1 := fun o => (S.out.d.alloc o).c1; have s2 := fun o => (S.out.d.alloc o).c2; have s3 := fun o => (S.out.d.alloc o).c3
  go_wp2_with fail
  clear s0 s1 s2 s3
  rw [HP.out]
  refine (restore_two (-1) _ _ _ _ _ _ false false false m m 0 0 true false m m false _ (S.out.t.below (below_one _ _)) HE.out).mono ?_
  rintro e W6 ⟨g1, g2, g3, g4, g5, g6, rfl, t, hb⟩
  replace S := Lib.hid (S.out.below (bb (below_one _ _) hb))
  have TG := Lib.hid t
  clear t hb
  have hp := HP.out
  go_wp2_with fail
  refine (check_two 0 _ _ _ _ _ _ false true false m m _ (TG.out.below (below_one _ _))).mono ?_
  rintro e W7 ⟨rfl, hb⟩
  replace S := Lib.hid (S.out.below (bb (below_one _ _) hb))
  clear hb
  rw [if_pos HV3.out]
  go_wp2_with fail
  go_ret
  exact ⟨rfl, bb B3.out S.out.b⟩

set_option maxHeartbeats 4000000 in
theorem law9_zttf1 (b1 o1 c1 b2 o2 c2 : Nat) (m : Int) (i : Int) (w : World) (ht : Two w b1 o1 c1 b2 o2 c2 true true m m) (q0 : 0 ≤ m) (q1 : m ≤ 1099511627776) (p0 : 0 ≤ m) (p1 : m ≤ 1099511627776) (hp : bits .and .i64 i 1 = 1) : Calls Try.prog 9 #[.agg #[.int .i64 0, .slice (some ⟨b1, o1, none⟩) 2 c1, .slice (some ⟨b2, o2, none⟩) 2 c2, .bool false], .int .i64 i] w (LawPost w) := by
  have H1 := Lib.hid ht.C1; have K1 := Lib.hid ht.k1; have H2 := Lib.hid ht.C2; have K2 := Lib.hid ht.k2
  have T0 := Lib.hid ht
  have HFEW : Hid (fewB [true, true] [m, m] = true) := Lib.hid rfl
  have z0 := oddB_no q0 q1; have z1 := oddB_no p0 p1
  have HV : Hid (validB 0 true true m m false = true) := Lib.hid (by simp [validB, z0, z1, knownB])
  have HV1 : Hid (validB 1 false true m m false = true) := Lib.hid (by simp [validB, z0, z1, knownB])
  have HV2 : Hid (validB (-1) false false m m false = true) := Lib.hid (by simp [validB, z0, z1, knownB])
  have HV3 : Hid (validB 1 false true m m false = true) := Lib.hid (by simp [validB, z0, z1, knownB])
  have HA : Hid (mirror_Crash.f 0 [true, true] [m, m] false 0 = some (1, [false, true], [m, m], false, 0)) := Lib.hid (by simp [mirror_Crash.f, HV.out, knownB, up])
  have HB : Hid (mirror_Crash.f 1 [false, true] [m, m] false 1 = some ((-1), [false, false], [m, m], false, 0)) := Lib.hid (by simp [mirror_Crash.f, HV1.out, knownB, up])
  have HC : Hid (applyF (-1) [false, false] [m, m] false = some (0, [], [], false, 330)) := Lib.hid (by simp [applyF, HV2.out])
  have HD : Hid (mirror_Arm.f (-1) [false, false] [m, m] false = some (0, [], [], false, 330)) := Lib.hid (by simp [mirror_Arm.f, HV2.out])
  have HE : Hid (mirror_Restore.f (-1) [false, false] [m, m] false 1 = some (1, [false, true], [m, m], false, 0)) := Lib.hid (by simp [mirror_Restore.f, HV2.out, knownB, up])
  have HP := Lib.hid hp
  clear z0 z1 hp
  clear ht
  go_enter Try.func9, Try.ntmps9
  go_wp2_with fail
  refine (sane_calls _).mono ?_
  rintro e w1 ⟨rfl, hb⟩
  have DX := Lib.hid ((DBlk.new w (a := 0) (s1 := .slice (some ⟨b1, o1, none⟩) 2 c1) (s2 := .slice (some ⟨b2, o2, none⟩) 2 c2) (r := false)).below hb)
  have B1 := Lib.hid (bb (below_one _ _) hb)
  clear hb
  have d0 := DX.out.c0; have d1 := DX.out.c1; have d2 := DX.out.c2; have d3 := DX.out.c3
  go_wp2_with fail
  refine (few_calls 0 _ _ [true, true] _ _ [m, m] false _ (Kd.C_below H1.out B1.out) K1.out (Kd.C_below H2.out B1.out) K2.out).mono ?_
  rintro e w2 ⟨rfl, hb⟩
  replace DX := Lib.hid (DX.out.below hb)
  have B2 := Lib.hid (bb B1.out hb)
  clear hb d0 d1 d2 d3 B1
  rw [HFEW.out]
  have d0 := DX.out.c0; have d1 := DX.out.c1; have d2 := DX.out.c2; have d3 := DX.out.c3
  go_wp2_with fail
  refine (check_two 0 _ _ _ _ _ _ false true true m m _ (T0.out.below B2.out)).mono ?_
  rintro e w3 ⟨rfl, hb⟩
  have B3 := Lib.hid (bb B2.out hb)
  replace DX := Lib.hid (DX.out.below hb)
  have TX := Lib.hid (T0.out.below B3.out)
  clear hb d0 d1 d2 d3
  rw [if_pos HV.out]
  have d0 := DX.out.c0; have d1 := DX.out.c1; have d2 := DX.out.c2; have d3 := DX.out.c3
  go_wp2_with fail
  clear d0 d1 d2 d3
  refine wp_loop_rounds 3 ?_
  rw [rounds_succ]
  have S := Lib.hid (St.new (a := 0) (r := false) w3 TX.out)
  obtain ⟨W, hW⟩ : ∃ W, W = w3.alloc (.cells #[.int .i64 0, .slice (some ⟨b1, o1, none⟩) 2 c1, .slice (some ⟨b2, o2, none⟩) 2 c2, .bool false] 25) := ⟨_, rfl⟩
  rw [← hW] at S ⊢
  clear hW
  have s0 := S.out.d.c0; have s1 := S.out.d.c1; have s2 := S.out.d.c2; have s3 := S.out.d.c3
  go_wp2_with fail
  clear s0 s1 s2 s3
  refine (crash_two 0 _ _ _ _ _ _ false true true m m 0 1 false true m m false _ S.out.t HA.out).mono ?_
  rintro e W1 ⟨x1, x2, x3, x4, x5, x6, rfl, t, hb⟩
  replace S := Lib.hid (S.out.below hb)
  have TY := Lib.hid t
  clear t hb
  have hs := fun o => (S.out.d.alloc o).fr
  have s0 := fun o => (S.out.d.alloc o).c0; have s1 := fun o => (S.out.d.alloc o).c1; have s2 := fun o => (S.out.d.alloc o).c2; have s3 := fun o => (S.out.d.alloc o).c3
  go_wp2_with fail
  rw [rounds_succ]
  clear hs s0 s1 s2 s3
  replace S := Lib.hid ((S.out.below (below_one _ (.cells #[.int .i64 1, .slice (some ⟨x1, x2, none⟩) 2 x3, .slice (some ⟨x4, x5, none⟩) 2 x6, .bool false] 25))).store (a' := 1) (r' := false) (TY.out.below (below_one _ _)))
  clear TY
  revert S
  generalize World.setCell _ _ _ = Wa
  intro S
  have s0 := S.out.d.c0; have s1 := S.out.d.c1; have s2 := S.out.d.c2; have s3 := S.out.d.c3
  go_wp2_with fail
  clear s0 s1 s2 s3
  refine (crash_two 1 _ _ _ _ _ _ false false true m m 1 (-1) false false m m false _ S.out.t HB.out).mono ?_
  rintro e W3 ⟨y1, y2, y3, y4, y5, y6, rfl, t, hb⟩
  replace S := Lib.hid (S.out.below hb)
  have TY := Lib.hid t
  clear t hb
  have hs := fun o => (S.out.d.alloc o).fr
  have s0 := fun o => (S.out.d.alloc o).c0; have s1 := fun o => (S.out.d.alloc o).c1; have s2 := fun o => (S.out.d.alloc o).c2; have s3 := fun o => (S.out.d.alloc o).c3
  go_wp2_with fail
  rw [rounds_succ]
  clear hs s0 s1 s2 s3
  replace S := Lib.hid ((S.out.below (below_one _ (.cells #[.int .i64 (-1), .slice (some ⟨y1, y2, none⟩) 2 y3, .slice (some ⟨y4, y5, none⟩) 2 y6, .bool false] 25))).store (a' := (-1)) (r' := false) (TY.out.below (below_one _ _)))
  clear TY
  revert S
  generalize World.setCell _ _ _ = Wb
  intro S
  have s0 := S.out.d.c0; have s1 := S.out.d.c1; have s2 := S.out.d.c2; have s3 := S.out.d.c3
  go_wp2_with fail
  clear s0 s1 s2 s3
  refine (apply_err (-1) _ _ [false, false] _ _ [m, m] false 330 _ S.out.t.C1 S.out.t.k1 S.out.t.C2 S.out.t.k2 (by decide) HC.out).mono ?_
  rintro e W4 ⟨zA, zk, zB, zl, rfl, hb⟩
  replace S := Lib.hid (S.out.below hb)
  clear hb
  have s0 := fun o => (S.out.d.alloc o).c0; have s1 := fun o => (S.out.d.alloc o).c1; have s2 := fun o => (S.out.d.alloc o).c2; have s3 := fun o => (S.out.d.alloc o).c3
  go_wp2_with fail
  clear s0 s1 s2 s3
  refine (arm_err (-1) _ _ [false, false] _ _ [m, m] false 330 _ (S.out.t.below (below_one _ _)).C1 S.out.t.k1 (S.out.t.below (below_one _ _)).C2 S.out.t.k2 (by decide) HD.out).mono ?_
  rintro e W5 ⟨zA', zk', zB', zl', rfl, hb⟩
  replace S := Lib.hid (S.out.below (bb (below_one _ _) hb))
  clear hb
  have s0 := fun o => (S.out.d.alloc o).c0; have s1 := fun o => (S.out.d.alloc o).c1; have s2 := fun o => (S.out.d.alloc o).c2; have s3 := fun o => (S.out.d.alloc o).c3
  go_wp2_with fail
  clear s0 s1 s2 s3
  rw [HP.out]
  refine (restore_two (-1) _ _ _ _ _ _ false false false m m 1 1 false true m m false _ (S.out.t.below (below_one _ _)) HE.out).mono ?_
  rintro e W6 ⟨g1, g2, g3, g4, g5, g6, rfl, t, hb⟩
  replace S := Lib.hid (S.out.below (bb (below_one _ _) hb))
  have TG := Lib.hid t
  clear t hb
  have hp := HP.out
  go_wp2_with fail
  refine (check_two 1 _ _ _ _ _ _ false false true m m _ (TG.out.below (below_one _ _))).mono ?_
  rintro e W7 ⟨rfl, hb⟩
  replace S := Lib.hid (S.out.below (bb (below_one _ _) hb))
  clear hb
  rw [if_pos HV3.out]
  go_wp2_with fail
  go_ret
  exact ⟨rfl, bb B3.out S.out.b⟩

set_option maxHeartbeats 4000000 in
theorem law9_ottt0 (b1 o1 c1 b2 o2 c2 : Nat) (m : Int) (i : Int) (w : World) (ht : Two w b1 o1 c1 b2 o2 c2 true true m m) (q0 : 0 ≤ m) (q1 : m ≤ 1099511627776) (p0 : 0 ≤ m) (p1 : m ≤ 1099511627776) (hp : bits .and .i64 i 1 = 0) : Calls Try.prog 9 #[.agg #[.int .i64 1, .slice (some ⟨b1, o1, none⟩) 2 c1, .slice (some ⟨b2, o2, none⟩) 2 c2, .bool true], .int .i64 i] w (LawPost w) := by
  have H1 := Lib.hid ht.C1; have K1 := Lib.hid ht.k1; have H2 := Lib.hid ht.C2; have K2 := Lib.hid ht.k2
  have T0 := Lib.hid ht
  have HFEW : Hid (fewB [true, true] [m, m] = true) := Lib.hid rfl
  have z0 := oddB_no q0 q1; have z1 := oddB_no p0 p1
  have HV : Hid (validB 1 true true m m true = true) := Lib.hid (by simp [validB, z0, z1, knownB])
  have HV1 : Hid (validB 1 false true m m true = true) := Lib.hid (by simp [validB, z0, z1, knownB])
  have HV2 : Hid (validB (-1) false false m m false = true) := Lib.hid (by simp [validB, z0, z1, knownB])
  have HV3 : Hid (validB 0 true false m m false = true) := Lib.hid (by simp [validB, z0, z1, knownB])
  have HA : Hid (mirror_Crash.f 1 [true, true] [m, m] true 0 = some (1, [false, true], [m, m], true, 0)) := Lib.hid (by simp [mirror_Crash.f, HV.out, knownB, up])
  have HB : Hid (mirror_Crash.f 1 [false, true] [m, m] true 1 = some ((-1), [false, false], [m, m], false, 0)) := Lib.hid (by simp [mirror_Crash.f, HV1.out, knownB, up])
  have HC : Hid (applyF (-1) [false, false] [m, m] false = some (0, [], [], false, 330)) := Lib.hid (by simp [applyF, HV2.out])
  have HD : Hid (mirror_Arm.f (-1) [false, false] [m, m] false = some (0, [], [], false, 330)) := Lib.hid (by simp [mirror_Arm.f, HV2.out])
  have HE : Hid (mirror_Restore.f (-1) [false, false] [m, m] false 0 = some (0, [true, false], [m, m], false, 0)) := Lib.hid (by simp [mirror_Restore.f, HV2.out, knownB, up])
  have HP := Lib.hid hp
  clear z0 z1 hp
  clear ht
  go_enter Try.func9, Try.ntmps9
  go_wp2_with fail
  refine (sane_calls _).mono ?_
  rintro e w1 ⟨rfl, hb⟩
  have DX := Lib.hid ((DBlk.new w (a := 1) (s1 := .slice (some ⟨b1, o1, none⟩) 2 c1) (s2 := .slice (some ⟨b2, o2, none⟩) 2 c2) (r := true)).below hb)
  have B1 := Lib.hid (bb (below_one _ _) hb)
  clear hb
  have d0 := DX.out.c0; have d1 := DX.out.c1; have d2 := DX.out.c2; have d3 := DX.out.c3
  go_wp2_with fail
  refine (few_calls 1 _ _ [true, true] _ _ [m, m] true _ (Kd.C_below H1.out B1.out) K1.out (Kd.C_below H2.out B1.out) K2.out).mono ?_
  rintro e w2 ⟨rfl, hb⟩
  replace DX := Lib.hid (DX.out.below hb)
  have B2 := Lib.hid (bb B1.out hb)
  clear hb d0 d1 d2 d3 B1
  rw [HFEW.out]
  have d0 := DX.out.c0; have d1 := DX.out.c1; have d2 := DX.out.c2; have d3 := DX.out.c3
  go_wp2_with fail
  refine (check_two 1 _ _ _ _ _ _ true true true m m _ (T0.out.below B2.out)).mono ?_
  rintro e w3 ⟨rfl, hb⟩
  have B3 := Lib.hid (bb B2.out hb)
  replace DX := Lib.hid (DX.out.below hb)
  have TX := Lib.hid (T0.out.below B3.out)
  clear hb d0 d1 d2 d3
  rw [if_pos HV.out]
  have d0 := DX.out.c0; have d1 := DX.out.c1; have d2 := DX.out.c2; have d3 := DX.out.c3
  go_wp2_with fail
  clear d0 d1 d2 d3
  refine wp_loop_rounds 3 ?_
  rw [rounds_succ]
  have S := Lib.hid (St.new (a := 1) (r := true) w3 TX.out)
  obtain ⟨W, hW⟩ : ∃ W, W = w3.alloc (.cells #[.int .i64 1, .slice (some ⟨b1, o1, none⟩) 2 c1, .slice (some ⟨b2, o2, none⟩) 2 c2, .bool true] 25) := ⟨_, rfl⟩
  rw [← hW] at S ⊢
  clear hW
  have s0 := S.out.d.c0; have s1 := S.out.d.c1; have s2 := S.out.d.c2; have s3 := S.out.d.c3
  go_wp2_with fail
  clear s0 s1 s2 s3
  refine (crash_two 1 _ _ _ _ _ _ true true true m m 0 1 false true m m true _ S.out.t HA.out).mono ?_
  rintro e W1 ⟨x1, x2, x3, x4, x5, x6, rfl, t, hb⟩
  replace S := Lib.hid (S.out.below hb)
  have TY := Lib.hid t
  clear t hb
  have hs := fun o => (S.out.d.alloc o).fr
  have s0 := fun o => (S.out.d.alloc o).c0; have s1 := fun o => (S.out.d.alloc o).c1; have s2 := fun o => (S.out.d.alloc o).c2; have s3 := fun o => (S.out.d.alloc o).c3
  go_wp2_with fail
  rw [rounds_succ]
  clear hs s0 s1 s2 s3
  replace S := Lib.hid ((S.out.below (below_one _ (.cells #[.int .i64 1, .slice (some ⟨x1, x2, none⟩) 2 x3, .slice (some ⟨x4, x5, none⟩) 2 x6, .bool true] 25))).store (a' := 1) (r' := true) (TY.out.below (below_one _ _)))
  clear TY
  revert S
  generalize World.setCell _ _ _ = Wa
  intro S
  have s0 := S.out.d.c0; have s1 := S.out.d.c1; have s2 := S.out.d.c2; have s3 := S.out.d.c3
  go_wp2_with fail
  clear s0 s1 s2 s3
  refine (crash_two 1 _ _ _ _ _ _ true false true m m 1 (-1) false false m m false _ S.out.t HB.out).mono ?_
  rintro e W3 ⟨y1, y2, y3, y4, y5, y6, rfl, t, hb⟩
  replace S := Lib.hid (S.out.below hb)
  have TY := Lib.hid t
  clear t hb
  have hs := fun o => (S.out.d.alloc o).fr
  have s0 := fun o => (S.out.d.alloc o).c0; have s1 := fun o => (S.out.d.alloc o).c1; have s2 := fun o => (S.out.d.alloc o).c2; have s3 := fun o => (S.out.d.alloc o).c3
  go_wp2_with fail
  rw [rounds_succ]
  clear hs s0 s1 s2 s3
  replace S := Lib.hid ((S.out.below (below_one _ (.cells #[.int .i64 (-1), .slice (some ⟨y1, y2, none⟩) 2 y3, .slice (some ⟨y4, y5, none⟩) 2 y6, .bool false] 25))).store (a' := (-1)) (r' := false) (TY.out.below (below_one _ _)))
  clear TY
  revert S
  generalize World.setCell _ _ _ = Wb
  intro S
  have s0 := S.out.d.c0; have s1 := S.out.d.c1; have s2 := S.out.d.c2; have s3 := S.out.d.c3
  go_wp2_with fail
  clear s0 s1 s2 s3
  refine (apply_err (-1) _ _ [false, false] _ _ [m, m] false 330 _ S.out.t.C1 S.out.t.k1 S.out.t.C2 S.out.t.k2 (by decide) HC.out).mono ?_
  rintro e W4 ⟨zA, zk, zB, zl, rfl, hb⟩
  replace S := Lib.hid (S.out.below hb)
  clear hb
  have s0 := fun o => (S.out.d.alloc o).c0; have s1 := fun o => (S.out.d.alloc o).c1; have s2 := fun o => (S.out.d.alloc o).c2; have s3 := fun o => (S.out.d.alloc o).c3
  go_wp2_with fail
  clear s0 s1 s2 s3
  refine (arm_err (-1) _ _ [false, false] _ _ [m, m] false 330 _ (S.out.t.below (below_one _ _)).C1 S.out.t.k1 (S.out.t.below (below_one _ _)).C2 S.out.t.k2 (by decide) HD.out).mono ?_
  rintro e W5 ⟨zA', zk', zB', zl', rfl, hb⟩
  replace S := Lib.hid (S.out.below (bb (below_one _ _) hb))
  clear hb
  have s0 := fun o => (S.out.d.alloc o).c0; have s1 := fun o => (S.out.d.alloc o).c1; have s2 := fun o => (S.out.d.alloc o).c2; have s3 := fun o => (S.out.d.alloc o).c3
  go_wp2_with fail
  clear s0 s1 s2 s3
  rw [HP.out]
  refine (restore_two (-1) _ _ _ _ _ _ false false false m m 0 0 true false m m false _ (S.out.t.below (below_one _ _)) HE.out).mono ?_
  rintro e W6 ⟨g1, g2, g3, g4, g5, g6, rfl, t, hb⟩
  replace S := Lib.hid (S.out.below (bb (below_one _ _) hb))
  have TG := Lib.hid t
  clear t hb
  have hp := HP.out
  go_wp2_with fail
  refine (check_two 0 _ _ _ _ _ _ false true false m m _ (TG.out.below (below_one _ _))).mono ?_
  rintro e W7 ⟨rfl, hb⟩
  replace S := Lib.hid (S.out.below (bb (below_one _ _) hb))
  clear hb
  rw [if_pos HV3.out]
  go_wp2_with fail
  go_ret
  exact ⟨rfl, bb B3.out S.out.b⟩

set_option maxHeartbeats 4000000 in
theorem law9_ottt1 (b1 o1 c1 b2 o2 c2 : Nat) (m : Int) (i : Int) (w : World) (ht : Two w b1 o1 c1 b2 o2 c2 true true m m) (q0 : 0 ≤ m) (q1 : m ≤ 1099511627776) (p0 : 0 ≤ m) (p1 : m ≤ 1099511627776) (hp : bits .and .i64 i 1 = 1) : Calls Try.prog 9 #[.agg #[.int .i64 1, .slice (some ⟨b1, o1, none⟩) 2 c1, .slice (some ⟨b2, o2, none⟩) 2 c2, .bool true], .int .i64 i] w (LawPost w) := by
  have H1 := Lib.hid ht.C1; have K1 := Lib.hid ht.k1; have H2 := Lib.hid ht.C2; have K2 := Lib.hid ht.k2
  have T0 := Lib.hid ht
  have HFEW : Hid (fewB [true, true] [m, m] = true) := Lib.hid rfl
  have z0 := oddB_no q0 q1; have z1 := oddB_no p0 p1
  have HV : Hid (validB 1 true true m m true = true) := Lib.hid (by simp [validB, z0, z1, knownB])
  have HV1 : Hid (validB 1 false true m m true = true) := Lib.hid (by simp [validB, z0, z1, knownB])
  have HV2 : Hid (validB (-1) false false m m false = true) := Lib.hid (by simp [validB, z0, z1, knownB])
  have HV3 : Hid (validB 1 false true m m false = true) := Lib.hid (by simp [validB, z0, z1, knownB])
  have HA : Hid (mirror_Crash.f 1 [true, true] [m, m] true 0 = some (1, [false, true], [m, m], true, 0)) := Lib.hid (by simp [mirror_Crash.f, HV.out, knownB, up])
  have HB : Hid (mirror_Crash.f 1 [false, true] [m, m] true 1 = some ((-1), [false, false], [m, m], false, 0)) := Lib.hid (by simp [mirror_Crash.f, HV1.out, knownB, up])
  have HC : Hid (applyF (-1) [false, false] [m, m] false = some (0, [], [], false, 330)) := Lib.hid (by simp [applyF, HV2.out])
  have HD : Hid (mirror_Arm.f (-1) [false, false] [m, m] false = some (0, [], [], false, 330)) := Lib.hid (by simp [mirror_Arm.f, HV2.out])
  have HE : Hid (mirror_Restore.f (-1) [false, false] [m, m] false 1 = some (1, [false, true], [m, m], false, 0)) := Lib.hid (by simp [mirror_Restore.f, HV2.out, knownB, up])
  have HP := Lib.hid hp
  clear z0 z1 hp
  clear ht
  go_enter Try.func9, Try.ntmps9
  go_wp2_with fail
  refine (sane_calls _).mono ?_
  rintro e w1 ⟨rfl, hb⟩
  have DX := Lib.hid ((DBlk.new w (a := 1) (s1 := .slice (some ⟨b1, o1, none⟩) 2 c1) (s2 := .slice (some ⟨b2, o2, none⟩) 2 c2) (r := true)).below hb)
  have B1 := Lib.hid (bb (below_one _ _) hb)
  clear hb
  have d0 := DX.out.c0; have d1 := DX.out.c1; have d2 := DX.out.c2; have d3 := DX.out.c3
  go_wp2_with fail
  refine (few_calls 1 _ _ [true, true] _ _ [m, m] true _ (Kd.C_below H1.out B1.out) K1.out (Kd.C_below H2.out B1.out) K2.out).mono ?_
  rintro e w2 ⟨rfl, hb⟩
  replace DX := Lib.hid (DX.out.below hb)
  have B2 := Lib.hid (bb B1.out hb)
  clear hb d0 d1 d2 d3 B1
  rw [HFEW.out]
  have d0 := DX.out.c0; have d1 := DX.out.c1; have d2 := DX.out.c2; have d3 := DX.out.c3
  go_wp2_with fail
  refine (check_two 1 _ _ _ _ _ _ true true true m m _ (T0.out.below B2.out)).mono ?_
  rintro e w3 ⟨rfl, hb⟩
  have B3 := Lib.hid (bb B2.out hb)
  replace DX := Lib.hid (DX.out.below hb)
  have TX := Lib.hid (T0.out.below B3.out)
  clear hb d0 d1 d2 d3
  rw [if_pos HV.out]
  have d0 := DX.out.c0; have d1 := DX.out.c1; have d2 := DX.out.c2; have d3 := DX.out.c3
  go_wp2_with fail
  clear d0 d1 d2 d3
  refine wp_loop_rounds 3 ?_
  rw [rounds_succ]
  have S := Lib.hid (St.new (a := 1) (r := true) w3 TX.out)
  obtain ⟨W, hW⟩ : ∃ W, W = w3.alloc (.cells #[.int .i64 1, .slice (some ⟨b1, o1, none⟩) 2 c1, .slice (some ⟨b2, o2, none⟩) 2 c2, .bool true] 25) := ⟨_, rfl⟩
  rw [← hW] at S ⊢
  clear hW
  have s0 := S.out.d.c0; have s1 := S.out.d.c1; have s2 := S.out.d.c2; have s3 := S.out.d.c3
  go_wp2_with fail
  clear s0 s1 s2 s3
  refine (crash_two 1 _ _ _ _ _ _ true true true m m 0 1 false true m m true _ S.out.t HA.out).mono ?_
  rintro e W1 ⟨x1, x2, x3, x4, x5, x6, rfl, t, hb⟩
  replace S := Lib.hid (S.out.below hb)
  have TY := Lib.hid t
  clear t hb
  have hs := fun o => (S.out.d.alloc o).fr
  have s0 := fun o => (S.out.d.alloc o).c0; have s1 := fun o => (S.out.d.alloc o).c1; have s2 := fun o => (S.out.d.alloc o).c2; have s3 := fun o => (S.out.d.alloc o).c3
  go_wp2_with fail
  rw [rounds_succ]
  clear hs s0 s1 s2 s3
  replace S := Lib.hid ((S.out.below (below_one _ (.cells #[.int .i64 1, .slice (some ⟨x1, x2, none⟩) 2 x3, .slice (some ⟨x4, x5, none⟩) 2 x6, .bool true] 25))).store (a' := 1) (r' := true) (TY.out.below (below_one _ _)))
  clear TY
  revert S
  generalize World.setCell _ _ _ = Wa
  intro S
  have s0 := S.out.d.c0; have s1 := S.out.d.c1; have s2 := S.out.d.c2; have s3 := S.out.d.c3
  go_wp2_with fail
  clear s0 s1 s2 s3
  refine (crash_two 1 _ _ _ _ _ _ true false true m m 1 (-1) false false m m false _ S.out.t HB.out).mono ?_
  rintro e W3 ⟨y1, y2, y3, y4, y5, y6, rfl, t, hb⟩
  replace S := Lib.hid (S.out.below hb)
  have TY := Lib.hid t
  clear t hb
  have hs := fun o => (S.out.d.alloc o).fr
  have s0 := fun o => (S.out.d.alloc o).c0; have s1 := fun o => (S.out.d.alloc o).c1; have s2 := fun o => (S.out.d.alloc o).c2; have s3 := fun o => (S.out.d.alloc o).c3
  go_wp2_with fail
  rw [rounds_succ]
  clear hs s0 s1 s2 s3
  replace S := Lib.hid ((S.out.below (below_one _ (.cells #[.int .i64 (-1), .slice (some ⟨y1, y2, none⟩) 2 y3, .slice (some ⟨y4, y5, none⟩) 2 y6, .bool false] 25))).store (a' := (-1)) (r' := false) (TY.out.below (below_one _ _)))
  clear TY
  revert S
  generalize World.setCell _ _ _ = Wb
  intro S
  have s0 := S.out.d.c0; have s1 := S.out.d.c1; have s2 := S.out.d.c2; have s3 := S.out.d.c3
  go_wp2_with fail
  clear s0 s1 s2 s3
  refine (apply_err (-1) _ _ [false, false] _ _ [m, m] false 330 _ S.out.t.C1 S.out.t.k1 S.out.t.C2 S.out.t.k2 (by decide) HC.out).mono ?_
  rintro e W4 ⟨zA, zk, zB, zl, rfl, hb⟩
  replace S := Lib.hid (S.out.below hb)
  clear hb
  have s0 := fun o => (S.out.d.alloc o).c0; have s1 := fun o => (S.out.d.alloc o).c1; have s2 := fun o => (S.out.d.alloc o).c2; have s3 := fun o => (S.out.d.alloc o).c3
  go_wp2_with fail
  clear s0 s1 s2 s3
  refine (arm_err (-1) _ _ [false, false] _ _ [m, m] false 330 _ (S.out.t.below (below_one _ _)).C1 S.out.t.k1 (S.out.t.below (below_one _ _)).C2 S.out.t.k2 (by decide) HD.out).mono ?_
  rintro e W5 ⟨zA', zk', zB', zl', rfl, hb⟩
  replace S := Lib.hid (S.out.below (bb (below_one _ _) hb))
  clear hb
  have s0 := fun o => (S.out.d.alloc o).c0; have s1 := fun o => (S.out.d.alloc o).c1; have s2 := fun o => (S.out.d.alloc o).c2; have s3 := fun o => (S.out.d.alloc o).c3
  go_wp2_with fail
  clear s0 s1 s2 s3
  rw [HP.out]
  refine (restore_two (-1) _ _ _ _ _ _ false false false m m 1 1 false true m m false _ (S.out.t.below (below_one _ _)) HE.out).mono ?_
  rintro e W6 ⟨g1, g2, g3, g4, g5, g6, rfl, t, hb⟩
  replace S := Lib.hid (S.out.below (bb (below_one _ _) hb))
  have TG := Lib.hid t
  clear t hb
  have hp := HP.out
  go_wp2_with fail
  refine (check_two 1 _ _ _ _ _ _ false false true m m _ (TG.out.below (below_one _ _))).mono ?_
  rintro e W7 ⟨rfl, hb⟩
  replace S := Lib.hid (S.out.below (bb (below_one _ _) hb))
  clear hb
  rw [if_pos HV3.out]
  go_wp2_with fail
  go_ret
  exact ⟨rfl, bb B3.out S.out.b⟩

set_option maxHeartbeats 4000000 in
theorem law9_ottf0 (b1 o1 c1 b2 o2 c2 : Nat) (m : Int) (i : Int) (w : World) (ht : Two w b1 o1 c1 b2 o2 c2 true true m m) (q0 : 0 ≤ m) (q1 : m ≤ 1099511627776) (p0 : 0 ≤ m) (p1 : m ≤ 1099511627776) (hp : bits .and .i64 i 1 = 0) : Calls Try.prog 9 #[.agg #[.int .i64 1, .slice (some ⟨b1, o1, none⟩) 2 c1, .slice (some ⟨b2, o2, none⟩) 2 c2, .bool false], .int .i64 i] w (LawPost w) := by
  have H1 := Lib.hid ht.C1; have K1 := Lib.hid ht.k1; have H2 := Lib.hid ht.C2; have K2 := Lib.hid ht.k2
  have T0 := Lib.hid ht
  have HFEW : Hid (fewB [true, true] [m, m] = true) := Lib.hid rfl
  have z0 := oddB_no q0 q1; have z1 := oddB_no p0 p1
  have HV : Hid (validB 1 true true m m false = true) := Lib.hid (by simp [validB, z0, z1, knownB])
  have HV1 : Hid (validB 1 false true m m false = true) := Lib.hid (by simp [validB, z0, z1, knownB])
  have HV2 : Hid (validB (-1) false false m m false = true) := Lib.hid (by simp [validB, z0, z1, knownB])
  have HV3 : Hid (validB 0 true false m m false = true) := Lib.hid (by simp [validB, z0, z1, knownB])
  have HA : Hid (mirror_Crash.f 1 [true, true] [m, m] false 0 = some (1, [false, true], [m, m], false, 0)) := Lib.hid (by simp [mirror_Crash.f, HV.out, knownB, up])
  have HB : Hid (mirror_Crash.f 1 [false, true] [m, m] false 1 = some ((-1), [false, false], [m, m], false, 0)) := Lib.hid (by simp [mirror_Crash.f, HV1.out, knownB, up])
  have HC : Hid (applyF (-1) [false, false] [m, m] false = some (0, [], [], false, 330)) := Lib.hid (by simp [applyF, HV2.out])
  have HD : Hid (mirror_Arm.f (-1) [false, false] [m, m] false = some (0, [], [], false, 330)) := Lib.hid (by simp [mirror_Arm.f, HV2.out])
  have HE : Hid (mirror_Restore.f (-1) [false, false] [m, m] false 0 = some (0, [true, false], [m, m], false, 0)) := Lib.hid (by simp [mirror_Restore.f, HV2.out, knownB, up])
  have HP := Lib.hid hp
  clear z0 z1 hp
  clear ht
  go_enter Try.func9, Try.ntmps9
  go_wp2_with fail
  refine (sane_calls _).mono ?_
  rintro e w1 ⟨rfl, hb⟩
  have DX := Lib.hid ((DBlk.new w (a := 1) (s1 := .slice (some ⟨b1, o1, none⟩) 2 c1) (s2 := .slice (some ⟨b2, o2, none⟩) 2 c2) (r := false)).below hb)
  have B1 := Lib.hid (bb (below_one _ _) hb)
  clear hb
  have d0 := DX.out.c0; have d1 := DX.out.c1; have d2 := DX.out.c2; have d3 := DX.out.c3
  go_wp2_with fail
  refine (few_calls 1 _ _ [true, true] _ _ [m, m] false _ (Kd.C_below H1.out B1.out) K1.out (Kd.C_below H2.out B1.out) K2.out).mono ?_
  rintro e w2 ⟨rfl, hb⟩
  replace DX := Lib.hid (DX.out.below hb)
  have B2 := Lib.hid (bb B1.out hb)
  clear hb d0 d1 d2 d3 B1
  rw [HFEW.out]
  have d0 := DX.out.c0; have d1 := DX.out.c1; have d2 := DX.out.c2; have d3 := DX.out.c3
  go_wp2_with fail
  refine (check_two 1 _ _ _ _ _ _ false true true m m _ (T0.out.below B2.out)).mono ?_
  rintro e w3 ⟨rfl, hb⟩
  have B3 := Lib.hid (bb B2.out hb)
  replace DX := Lib.hid (DX.out.below hb)
  have TX := Lib.hid (T0.out.below B3.out)
  clear hb d0 d1 d2 d3
  rw [if_pos HV.out]
  have d0 := DX.out.c0; have d1 := DX.out.c1; have d2 := DX.out.c2; have d3 := DX.out.c3
  go_wp2_with fail
  clear d0 d1 d2 d3
  refine wp_loop_rounds 3 ?_
  rw [rounds_succ]
  have S := Lib.hid (St.new (a := 1) (r := false) w3 TX.out)
  obtain ⟨W, hW⟩ : ∃ W, W = w3.alloc (.cells #[.int .i64 1, .slice (some ⟨b1, o1, none⟩) 2 c1, .slice (some ⟨b2, o2, none⟩) 2 c2, .bool false] 25) := ⟨_, rfl⟩
  rw [← hW] at S ⊢
  clear hW
  have s0 := S.out.d.c0; have s1 := S.out.d.c1; have s2 := S.out.d.c2; have s3 := S.out.d.c3
  go_wp2_with fail
  clear s0 s1 s2 s3
  refine (crash_two 1 _ _ _ _ _ _ false true true m m 0 1 false true m m false _ S.out.t HA.out).mono ?_
  rintro e W1 ⟨x1, x2, x3, x4, x5, x6, rfl, t, hb⟩
  replace S := Lib.hid (S.out.below hb)
  have TY := Lib.hid t
  clear t hb
  have hs := fun o => (S.out.d.alloc o).fr
  have s0 := fun o => (S.out.d.alloc o).c0; have s1 := fun o => (S.out.d.alloc o).c1; have s2 := fun o => (S.out.d.alloc o).c2; have s3 := fun o => (S.out.d.alloc o).c3
  go_wp2_with fail
  rw [rounds_succ]
  clear hs s0 s1 s2 s3
  replace S := Lib.hid ((S.out.below (below_one _ (.cells #[.int .i64 1, .slice (some ⟨x1, x2, none⟩) 2 x3, .slice (some ⟨x4, x5, none⟩) 2 x6, .bool false] 25))).store (a' := 1) (r' := false) (TY.out.below (below_one _ _)))
  clear TY
  revert S
  generalize World.setCell _ _ _ = Wa
  intro S
  have s0 := S.out.d.c0; have s1 := S.out.d.c1; have s2 := S.out.d.c2; have s3 := S.out.d.c3
  go_wp2_with fail
  clear s0 s1 s2 s3
  refine (crash_two 1 _ _ _ _ _ _ false false true m m 1 (-1) false false m m false _ S.out.t HB.out).mono ?_
  rintro e W3 ⟨y1, y2, y3, y4, y5, y6, rfl, t, hb⟩
  replace S := Lib.hid (S.out.below hb)
  have TY := Lib.hid t
  clear t hb
  have hs := fun o => (S.out.d.alloc o).fr
  have s0 := fun o => (S.out.d.alloc o).c0; have s1 := fun o => (S.out.d.alloc o).c1; have s2 := fun o => (S.out.d.alloc o).c2; have s3 := fun o => (S.out.d.alloc o).c3
  go_wp2_with fail
  rw [rounds_succ]
  clear hs s0 s1 s2 s3
  replace S := Lib.hid ((S.out.below (below_one _ (.cells #[.int .i64 (-1), .slice (some ⟨y1, y2, none⟩) 2 y3, .slice (some ⟨y4, y5, none⟩) 2 y6, .bool false] 25))).store (a' := (-1)) (r' := false) (TY.out.below (below_one _ _)))
  clear TY
  revert S
  generalize World.setCell _ _ _ = Wb
  intro S
  have s0 := S.out.d.c0; have s1 := S.out.d.c1; have s2 := S.out.d.c2; have s3 := S.out.d.c3
  go_wp2_with fail
  clear s0 s1 s2 s3
  refine (apply_err (-1) _ _ [false, false] _ _ [m, m] false 330 _ S.out.t.C1 S.out.t.k1 S.out.t.C2 S.out.t.k2 (by decide) HC.out).mono ?_
  rintro e W4 ⟨zA, zk, zB, zl, rfl, hb⟩
  replace S := Lib.hid (S.out.below hb)
  clear hb
  have s0 := fun o => (S.out.d.alloc o).c0; have s1 := fun o => (S.out.d.alloc o).c1; have s2 := fun o => (S.out.d.alloc o).c2; have s3 := fun o => (S.out.d.alloc o).c3
  go_wp2_with fail
  clear s0 s1 s2 s3
  refine (arm_err (-1) _ _ [false, false] _ _ [m, m] false 330 _ (S.out.t.below (below_one _ _)).C1 S.out.t.k1 (S.out.t.below (below_one _ _)).C2 S.out.t.k2 (by decide) HD.out).mono ?_
  rintro e W5 ⟨zA', zk', zB', zl', rfl, hb⟩
  replace S := Lib.hid (S.out.below (bb (below_one _ _) hb))
  clear hb
  have s0 := fun o => (S.out.d.alloc o).c0; have s1 := fun o => (S.out.d.alloc o).c1; have s2 := fun o => (S.out.d.alloc o).c2; have s3 := fun o => (S.out.d.alloc o).c3
  go_wp2_with fail
  clear s0 s1 s2 s3
  rw [HP.out]
  refine (restore_two (-1) _ _ _ _ _ _ false false false m m 0 0 true false m m false _ (S.out.t.below (below_one _ _)) HE.out).mono ?_
  rintro e W6 ⟨g1, g2, g3, g4, g5, g6, rfl, t, hb⟩
  replace S := Lib.hid (S.out.below (bb (below_one _ _) hb))
  have TG := Lib.hid t
  clear t hb
  have hp := HP.out
  go_wp2_with fail
  refine (check_two 0 _ _ _ _ _ _ false true false m m _ (TG.out.below (below_one _ _))).mono ?_
  rintro e W7 ⟨rfl, hb⟩
  replace S := Lib.hid (S.out.below (bb (below_one _ _) hb))
  clear hb
  rw [if_pos HV3.out]
  go_wp2_with fail
  go_ret
  exact ⟨rfl, bb B3.out S.out.b⟩

set_option maxHeartbeats 4000000 in
theorem law9_ottf1 (b1 o1 c1 b2 o2 c2 : Nat) (m : Int) (i : Int) (w : World) (ht : Two w b1 o1 c1 b2 o2 c2 true true m m) (q0 : 0 ≤ m) (q1 : m ≤ 1099511627776) (p0 : 0 ≤ m) (p1 : m ≤ 1099511627776) (hp : bits .and .i64 i 1 = 1) : Calls Try.prog 9 #[.agg #[.int .i64 1, .slice (some ⟨b1, o1, none⟩) 2 c1, .slice (some ⟨b2, o2, none⟩) 2 c2, .bool false], .int .i64 i] w (LawPost w) := by
  have H1 := Lib.hid ht.C1; have K1 := Lib.hid ht.k1; have H2 := Lib.hid ht.C2; have K2 := Lib.hid ht.k2
  have T0 := Lib.hid ht
  have HFEW : Hid (fewB [true, true] [m, m] = true) := Lib.hid rfl
  have z0 := oddB_no q0 q1; have z1 := oddB_no p0 p1
  have HV : Hid (validB 1 true true m m false = true) := Lib.hid (by simp [validB, z0, z1, knownB])
  have HV1 : Hid (validB 1 false true m m false = true) := Lib.hid (by simp [validB, z0, z1, knownB])
  have HV2 : Hid (validB (-1) false false m m false = true) := Lib.hid (by simp [validB, z0, z1, knownB])
  have HV3 : Hid (validB 1 false true m m false = true) := Lib.hid (by simp [validB, z0, z1, knownB])
  have HA : Hid (mirror_Crash.f 1 [true, true] [m, m] false 0 = some (1, [false, true], [m, m], false, 0)) := Lib.hid (by simp [mirror_Crash.f, HV.out, knownB, up])
  have HB : Hid (mirror_Crash.f 1 [false, true] [m, m] false 1 = some ((-1), [false, false], [m, m], false, 0)) := Lib.hid (by simp [mirror_Crash.f, HV1.out, knownB, up])
  have HC : Hid (applyF (-1) [false, false] [m, m] false = some (0, [], [], false, 330)) := Lib.hid (by simp [applyF, HV2.out])
  have HD : Hid (mirror_Arm.f (-1) [false, false] [m, m] false = some (0, [], [], false, 330)) := Lib.hid (by simp [mirror_Arm.f, HV2.out])
  have HE : Hid (mirror_Restore.f (-1) [false, false] [m, m] false 1 = some (1, [false, true], [m, m], false, 0)) := Lib.hid (by simp [mirror_Restore.f, HV2.out, knownB, up])
  have HP := Lib.hid hp
  clear z0 z1 hp
  clear ht
  go_enter Try.func9, Try.ntmps9
  go_wp2_with fail
  refine (sane_calls _).mono ?_
  rintro e w1 ⟨rfl, hb⟩
  have DX := Lib.hid ((DBlk.new w (a := 1) (s1 := .slice (some ⟨b1, o1, none⟩) 2 c1) (s2 := .slice (some ⟨b2, o2, none⟩) 2 c2) (r := false)).below hb)
  have B1 := Lib.hid (bb (below_one _ _) hb)
  clear hb
  have d0 := DX.out.c0; have d1 := DX.out.c1; have d2 := DX.out.c2; have d3 := DX.out.c3
  go_wp2_with fail
  refine (few_calls 1 _ _ [true, true] _ _ [m, m] false _ (Kd.C_below H1.out B1.out) K1.out (Kd.C_below H2.out B1.out) K2.out).mono ?_
  rintro e w2 ⟨rfl, hb⟩
  replace DX := Lib.hid (DX.out.below hb)
  have B2 := Lib.hid (bb B1.out hb)
  clear hb d0 d1 d2 d3 B1
  rw [HFEW.out]
  have d0 := DX.out.c0; have d1 := DX.out.c1; have d2 := DX.out.c2; have d3 := DX.out.c3
  go_wp2_with fail
  refine (check_two 1 _ _ _ _ _ _ false true true m m _ (T0.out.below B2.out)).mono ?_
  rintro e w3 ⟨rfl, hb⟩
  have B3 := Lib.hid (bb B2.out hb)
  replace DX := Lib.hid (DX.out.below hb)
  have TX := Lib.hid (T0.out.below B3.out)
  clear hb d0 d1 d2 d3
  rw [if_pos HV.out]
  have d0 := DX.out.c0; have d1 := DX.out.c1; have d2 := DX.out.c2; have d3 := DX.out.c3
  go_wp2_with fail
  clear d0 d1 d2 d3
  refine wp_loop_rounds 3 ?_
  rw [rounds_succ]
  have S := Lib.hid (St.new (a := 1) (r := false) w3 TX.out)
  obtain ⟨W, hW⟩ : ∃ W, W = w3.alloc (.cells #[.int .i64 1, .slice (some ⟨b1, o1, none⟩) 2 c1, .slice (some ⟨b2, o2, none⟩) 2 c2, .bool false] 25) := ⟨_, rfl⟩
  rw [← hW] at S ⊢
  clear hW
  have s0 := S.out.d.c0; have s1 := S.out.d.c1; have s2 := S.out.d.c2; have s3 := S.out.d.c3
  go_wp2_with fail
  clear s0 s1 s2 s3
  refine (crash_two 1 _ _ _ _ _ _ false true true m m 0 1 false true m m false _ S.out.t HA.out).mono ?_
  rintro e W1 ⟨x1, x2, x3, x4, x5, x6, rfl, t, hb⟩
  replace S := Lib.hid (S.out.below hb)
  have TY := Lib.hid t
  clear t hb
  have hs := fun o => (S.out.d.alloc o).fr
  have s0 := fun o => (S.out.d.alloc o).c0; have s1 := fun o => (S.out.d.alloc o).c1; have s2 := fun o => (S.out.d.alloc o).c2; have s3 := fun o => (S.out.d.alloc o).c3
  go_wp2_with fail
  rw [rounds_succ]
  clear hs s0 s1 s2 s3
  replace S := Lib.hid ((S.out.below (below_one _ (.cells #[.int .i64 1, .slice (some ⟨x1, x2, none⟩) 2 x3, .slice (some ⟨x4, x5, none⟩) 2 x6, .bool false] 25))).store (a' := 1) (r' := false) (TY.out.below (below_one _ _)))
  clear TY
  revert S
  generalize World.setCell _ _ _ = Wa
  intro S
  have s0 := S.out.d.c0; have s1 := S.out.d.c1; have s2 := S.out.d.c2; have s3 := S.out.d.c3
  go_wp2_with fail
  clear s0 s1 s2 s3
  refine (crash_two 1 _ _ _ _ _ _ false false true m m 1 (-1) false false m m false _ S.out.t HB.out).mono ?_
  rintro e W3 ⟨y1, y2, y3, y4, y5, y6, rfl, t, hb⟩
  replace S := Lib.hid (S.out.below hb)
  have TY := Lib.hid t
  clear t hb
  have hs := fun o => (S.out.d.alloc o).fr
  have s0 := fun o => (S.out.d.alloc o).c0; have s1 := fun o => (S.out.d.alloc o).c1; have s2 := fun o => (S.out.d.alloc o).c2; have s3 := fun o => (S.out.d.alloc o).c3
  go_wp2_with fail
  rw [rounds_succ]
  clear hs s0 s1 s2 s3
  replace S := Lib.hid ((S.out.below (below_one _ (.cells #[.int .i64 (-1), .slice (some ⟨y1, y2, none⟩) 2 y3, .slice (some ⟨y4, y5, none⟩) 2 y6, .bool false] 25))).store (a' := (-1)) (r' := false) (TY.out.below (below_one _ _)))
  clear TY
  revert S
  generalize World.setCell _ _ _ = Wb
  intro S
  have s0 := S.out.d.c0; have s1 := S.out.d.c1; have s2 := S.out.d.c2; have s3 := S.out.d.c3
  go_wp2_with fail
  clear s0 s1 s2 s3
  refine (apply_err (-1) _ _ [false, false] _ _ [m, m] false 330 _ S.out.t.C1 S.out.t.k1 S.out.t.C2 S.out.t.k2 (by decide) HC.out).mono ?_
  rintro e W4 ⟨zA, zk, zB, zl, rfl, hb⟩
  replace S := Lib.hid (S.out.below hb)
  clear hb
  have s0 := fun o => (S.out.d.alloc o).c0; have s1 := fun o => (S.out.d.alloc o).c1; have s2 := fun o => (S.out.d.alloc o).c2; have s3 := fun o => (S.out.d.alloc o).c3
  go_wp2_with fail
  clear s0 s1 s2 s3
  refine (arm_err (-1) _ _ [false, false] _ _ [m, m] false 330 _ (S.out.t.below (below_one _ _)).C1 S.out.t.k1 (S.out.t.below (below_one _ _)).C2 S.out.t.k2 (by decide) HD.out).mono ?_
  rintro e W5 ⟨zA', zk', zB', zl', rfl, hb⟩
  replace S := Lib.hid (S.out.below (bb (below_one _ _) hb))
  clear hb
  have s0 := fun o => (S.out.d.alloc o).c0; have s1 := fun o => (S.out.d.alloc o).c1; have s2 := fun o => (S.out.d.alloc o).c2; have s3 := fun o => (S.out.d.alloc o).c3
  go_wp2_with fail
  clear s0 s1 s2 s3
  rw [HP.out]
  refine (restore_two (-1) _ _ _ _ _ _ false false false m m 1 1 false true m m false _ (S.out.t.below (below_one _ _)) HE.out).mono ?_
  rintro e W6 ⟨g1, g2, g3, g4, g5, g6, rfl, t, hb⟩
  replace S := Lib.hid (S.out.below (bb (below_one _ _) hb))
  have TG := Lib.hid t
  clear t hb
  have hp := HP.out
  go_wp2_with fail
  refine (check_two 1 _ _ _ _ _ _ false false true m m _ (TG.out.below (below_one _ _))).mono ?_
  rintro e W7 ⟨rfl, hb⟩
  replace S := Lib.hid (S.out.below (bb (below_one _ _) hb))
  clear hb
  rw [if_pos HV3.out]
  go_wp2_with fail
  go_ret
  exact ⟨rfl, bb B3.out S.out.b⟩

set_option maxHeartbeats 4000000 in
theorem law9_ztft0 (b1 o1 c1 b2 o2 c2 : Nat) (m0 m1 : Int) (i : Int) (w : World) (ht : Two w b1 o1 c1 b2 o2 c2 true false m0 m1) (q0 : 0 ≤ m0) (q1 : m0 ≤ 1099511627776) (p0 : 0 ≤ m1) (p1 : m1 ≤ 1099511627776) (hp : bits .and .i64 i 1 = 0) : Calls Try.prog 9 #[.agg #[.int .i64 0, .slice (some ⟨b1, o1, none⟩) 2 c1, .slice (some ⟨b2, o2, none⟩) 2 c2, .bool true], .int .i64 i] w (LawPost w) := by
  have H1 := Lib.hid ht.C1; have K1 := Lib.hid ht.k1; have H2 := Lib.hid ht.C2; have K2 := Lib.hid ht.k2
  have T0 := Lib.hid ht
  have HFEW : Hid (fewB [true, false] [m0, m1] = true) := Lib.hid rfl
  have z0 := oddB_no q0 q1; have z1 := oddB_no p0 p1
  have HV : Hid (validB 0 true false m0 m1 true = true) := Lib.hid (by simp [validB, z0, z1, knownB])
  have HV1 : Hid (validB (-1) false false m0 m1 false = true) := Lib.hid (by simp [validB, z0, z1, knownB])
  have HV2 : Hid (validB (-1) false false m0 m1 false = true) := Lib.hid (by simp [validB, z0, z1, knownB])
  have HV3 : Hid (validB 0 true false m0 m1 false = true) := Lib.hid (by simp [validB, z0, z1, knownB])
  have HA : Hid (mirror_Crash.f 0 [true, false] [m0, m1] true 0 = some ((-1), [false, false], [m0, m1], false, 0)) := Lib.hid (by simp [mirror_Crash.f, HV.out, knownB, up])
  have HB : Hid (mirror_Crash.f (-1) [false, false] [m0, m1] false 1 = some (0, [], [], false, 330)) := Lib.hid (by simp [mirror_Crash.f, HV1.out, knownB, up])
  have HC : Hid (applyF (-1) [false, false] [m0, m1] false = some (0, [], [], false, 330)) := Lib.hid (by simp [applyF, HV2.out])
  have HD : Hid (mirror_Arm.f (-1) [false, false] [m0, m1] false = some (0, [], [], false, 330)) := Lib.hid (by simp [mirror_Arm.f, HV2.out])
  have HE : Hid (mirror_Restore.f (-1) [false, false] [m0, m1] false 0 = some (0, [true, false], [m0, m1], false, 0)) := Lib.hid (by simp [mirror_Restore.f, HV2.out, knownB, up])
  have HP := Lib.hid hp
  clear z0 z1 hp
  clear ht
  go_enter Try.func9, Try.ntmps9
  go_wp2_with fail
  refine (sane_calls _).mono ?_
  rintro e w1 ⟨rfl, hb⟩
  have DX := Lib.hid ((DBlk.new w (a := 0) (s1 := .slice (some ⟨b1, o1, none⟩) 2 c1) (s2 := .slice (some ⟨b2, o2, none⟩) 2 c2) (r := true)).below hb)
  have B1 := Lib.hid (bb (below_one _ _) hb)
  clear hb
  have d0 := DX.out.c0; have d1 := DX.out.c1; have d2 := DX.out.c2; have d3 := DX.out.c3
  go_wp2_with fail
  refine (few_calls 0 _ _ [true, false] _ _ [m0, m1] true _ (Kd.C_below H1.out B1.out) K1.out (Kd.C_below H2.out B1.out) K2.out).mono ?_
  rintro e w2 ⟨rfl, hb⟩
  replace DX := Lib.hid (DX.out.below hb)
  have B2 := Lib.hid (bb B1.out hb)
  clear hb d0 d1 d2 d3 B1
  rw [HFEW.out]
  have d0 := DX.out.c0; have d1 := DX.out.c1; have d2 := DX.out.c2; have d3 := DX.out.c3
  go_wp2_with fail
  refine (check_two 0 _ _ _ _ _ _ true true false m0 m1 _ (T0.out.below B2.out)).mono ?_
  rintro e w3 ⟨rfl, hb⟩
  have B3 := Lib.hid (bb B2.out hb)
  replace DX := Lib.hid (DX.out.below hb)
  have TX := Lib.hid (T0.out.below B3.out)
  clear hb d0 d1 d2 d3
  rw [if_pos HV.out]
  have d0 := DX.out.c0; have d1 := DX.out.c1; have d2 := DX.out.c2; have d3 := DX.out.c3
  go_wp2_with fail
  clear d0 d1 d2 d3
  refine wp_loop_rounds 3 ?_
  rw [rounds_succ]
  have S := Lib.hid (St.new (a := 0) (r := true) w3 TX.out)
  obtain ⟨W, hW⟩ : ∃ W, W = w3.alloc (.cells #[.int .i64 0, .slice (some ⟨b1, o1, none⟩) 2 c1, .slice (some ⟨b2, o2, none⟩) 2 c2, .bool true] 25) := ⟨_, rfl⟩
  rw [← hW] at S ⊢
  clear hW
  have s0 := S.out.d.c0; have s1 := S.out.d.c1; have s2 := S.out.d.c2; have s3 := S.out.d.c3
  go_wp2_with fail
  clear s0 s1 s2 s3
  refine (crash_two 0 _ _ _ _ _ _ true true false m0 m1 0 (-1) false false m0 m1 false _ S.out.t HA.out).mono ?_
  rintro e W1 ⟨x1, x2, x3, x4, x5, x6, rfl, t, hb⟩
  replace S := Lib.hid (S.out.below hb)
  have TY := Lib.hid t
  clear t hb
  have hs := fun o => (S.out.d.alloc o).fr
  have s0 := fun o => (S.out.d.alloc o).c0; have s1 := fun o => (S.out.d.alloc o).c1; have s2 := fun o => (S.out.d.alloc o).c2; have s3 := fun o => (S.out.d.alloc o).c3
  go_wp2_with fail
  rw [rounds_succ]
  clear hs s0 s1 s2 s3
  replace S := Lib.hid ((S.out.below (below_one _ (.cells #[.int .i64 (-1), .slice (some ⟨x1, x2, none⟩) 2 x3, .slice (some ⟨x4, x5, none⟩) 2 x6, .bool false] 25))).store (a' := (-1)) (r' := false) (TY.out.below (below_one _ _)))
  clear TY
  revert S
  generalize World.setCell _ _ _ = Wa
  intro S
  have s0 := S.out.d.c0; have s1 := S.out.d.c1; have s2 := S.out.d.c2; have s3 := S.out.d.c3
  go_wp2_with fail
  clear s0 s1 s2 s3
  refine (crash_err (-1) _ _ [false, false] _ _ [m0, m1] false 1 330 _ S.out.t.C1 S.out.t.k1 S.out.t.C2 S.out.t.k2 (by decide) HB.out).mono ?_
  rintro e W3 ⟨yA, yk, yB, yl, rfl, hb⟩
  replace S := Lib.hid (S.out.below (bb hb (below_one _ (.cells #[.int .i64 0, .slice yA 0 yk, .slice yB 0 yl, .bool false] 25))))
  clear hb
  go_wp2_with fail
  rw [rounds_succ]
  obtain ⟨Wb, hWb⟩ : ∃ Wb, Wb = W3.alloc (.cells #[.int .i64 0, .slice yA 0 yk, .slice yB 0 yl, .bool false] 25) := ⟨_, rfl⟩
  rw [← hWb] at S ⊢
  clear hWb
  have s0 := S.out.d.c0; have s1 := S.out.d.c1; have s2 := S.out.d.c2; have s3 := S.out.d.c3
  go_wp2_with fail
  clear s0 s1 s2 s3
  refine (apply_err (-1) _ _ [false, false] _ _ [m0, m1] false 330 _ S.out.t.C1 S.out.t.k1 S.out.t.C2 S.out.t.k2 (by decide) HC.out).mono ?_
  rintro e W4 ⟨zA, zk, zB, zl, rfl, hb⟩
  replace S := Lib.hid (S.out.below hb)
  clear hb
  have s0 := fun o => (S.out.d.alloc o).c0; have s1 := fun o => (S.out.d.alloc o).c1; have s2 := fun o => (S.out.d.alloc o).c2; have s3 := fun o => (S.out.d.alloc o).c3
  go_wp2_with fail
  clear s0 s1 s2 s3
  refine (arm_err (-1) _ _ [false, false] _ _ [m0, m1] false 330 _ (S.out.t.below (below_one _ _)).C1 S.out.t.k1 (S.out.t.below (below_one _ _)).C2 S.out.t.k2 (by decide) HD.out).mono ?_
  rintro e W5 ⟨zA', zk', zB', zl', rfl, hb⟩
  replace S := Lib.hid (S.out.below (bb (below_one _ _) hb))
  clear hb
  have s0 := fun o => (S.out.d.alloc o).c0; have s1 := fun o => (S.out.d.alloc o).c1; have s2 := fun o => (S.out.d.alloc o).c2; have s3 := fun o => (S.out.d.alloc o).c3
  go_wp2_with fail
  clear s0 s1 s2 s3
  rw [HP.out]
  refine (restore_two (-1) _ _ _ _ _ _ false false false m0 m1 0 0 true false m0 m1 false _ (S.out.t.below (below_one _ _)) HE.out).mono ?_
  rintro e W6 ⟨g1, g2, g3, g4, g5, g6, rfl, t, hb⟩
  replace S := Lib.hid (S.out.below (bb (below_one _ _) hb))
  have TG := Lib.hid t
  clear t hb
  have hp := HP.out
  go_wp2_with fail
  refine (check_two 0 _ _ _ _ _ _ false true false m0 m1 _ (TG.out.below (below_one _ _))).mono ?_
  rintro e W7 ⟨rfl, hb⟩
  replace S := Lib.hid (S.out.below (bb (below_one _ _) hb))
  clear hb
  rw [if_pos HV3.out]
  go_wp2_with fail
  go_ret
  exact ⟨rfl, bb B3.out S.out.b⟩

set_option maxHeartbeats 4000000 in
theorem law9_ztft1 (b1 o1 c1 b2 o2 c2 : Nat) (m0 m1 : Int) (i : Int) (w : World) (ht : Two w b1 o1 c1 b2 o2 c2 true false m0 m1) (q0 : 0 ≤ m0) (q1 : m0 ≤ 1099511627776) (p0 : 0 ≤ m1) (p1 : m1 ≤ 1099511627776) (hp : bits .and .i64 i 1 = 1) : Calls Try.prog 9 #[.agg #[.int .i64 0, .slice (some ⟨b1, o1, none⟩) 2 c1, .slice (some ⟨b2, o2, none⟩) 2 c2, .bool true], .int .i64 i] w (LawPost w) := by
  have H1 := Lib.hid ht.C1; have K1 := Lib.hid ht.k1; have H2 := Lib.hid ht.C2; have K2 := Lib.hid ht.k2
  have T0 := Lib.hid ht
  have HFEW : Hid (fewB [true, false] [m0, m1] = true) := Lib.hid rfl
  have z0 := oddB_no q0 q1; have z1 := oddB_no p0 p1
  have HV : Hid (validB 0 true false m0 m1 true = true) := Lib.hid (by simp [validB, z0, z1, knownB])
  have HV1 : Hid (validB (-1) false false m0 m1 false = true) := Lib.hid (by simp [validB, z0, z1, knownB])
  have HV2 : Hid (validB (-1) false false m0 m1 false = true) := Lib.hid (by simp [validB, z0, z1, knownB])
  have HV3 : Hid (validB 1 false true m0 m1 false = true) := Lib.hid (by simp [validB, z0, z1, knownB])
  have HA : Hid (mirror_Crash.f 0 [true, false] [m0, m1] true 0 = some ((-1), [false, false], [m0, m1], false, 0)) := Lib.hid (by simp [mirror_Crash.f, HV.out, knownB, up])
  have HB : Hid (mirror_Crash.f (-1) [false, false] [m0, m1] false 1 = some (0, [], [], false, 330)) := Lib.hid (by simp [mirror_Crash.f, HV1.out, knownB, up])
  have HC : Hid (applyF (-1) [false, false] [m0, m1] false = some (0, [], [], false, 330)) := Lib.hid (by simp [applyF, HV2.out])
  have HD : Hid (mirror_Arm.f (-1) [false, false] [m0, m1] false = some (0, [], [], false, 330)) := Lib.hid (by simp [mirror_Arm.f, HV2.out])
  have HE : Hid (mirror_Restore.f (-1) [false, false] [m0, m1] false 1 = some (1, [false, true], [m0, m1], false, 0)) := Lib.hid (by simp [mirror_Restore.f, HV2.out, knownB, up])
  have HP := Lib.hid hp
  clear z0 z1 hp
  clear ht
  go_enter Try.func9, Try.ntmps9
  go_wp2_with fail
  refine (sane_calls _).mono ?_
  rintro e w1 ⟨rfl, hb⟩
  have DX := Lib.hid ((DBlk.new w (a := 0) (s1 := .slice (some ⟨b1, o1, none⟩) 2 c1) (s2 := .slice (some ⟨b2, o2, none⟩) 2 c2) (r := true)).below hb)
  have B1 := Lib.hid (bb (below_one _ _) hb)
  clear hb
  have d0 := DX.out.c0; have d1 := DX.out.c1; have d2 := DX.out.c2; have d3 := DX.out.c3
  go_wp2_with fail
  refine (few_calls 0 _ _ [true, false] _ _ [m0, m1] true _ (Kd.C_below H1.out B1.out) K1.out (Kd.C_below H2.out B1.out) K2.out).mono ?_
  rintro e w2 ⟨rfl, hb⟩
  replace DX := Lib.hid (DX.out.below hb)
  have B2 := Lib.hid (bb B1.out hb)
  clear hb d0 d1 d2 d3 B1
  rw [HFEW.out]
  have d0 := DX.out.c0; have d1 := DX.out.c1; have d2 := DX.out.c2; have d3 := DX.out.c3
  go_wp2_with fail
  refine (check_two 0 _ _ _ _ _ _ true true false m0 m1 _ (T0.out.below B2.out)).mono ?_
  rintro e w3 ⟨rfl, hb⟩
  have B3 := Lib.hid (bb B2.out hb)
  replace DX := Lib.hid (DX.out.below hb)
  have TX := Lib.hid (T0.out.below B3.out)
  clear hb d0 d1 d2 d3
  rw [if_pos HV.out]
  have d0 := DX.out.c0; have d1 := DX.out.c1; have d2 := DX.out.c2; have d3 := DX.out.c3
  go_wp2_with fail
  clear d0 d1 d2 d3
  refine wp_loop_rounds 3 ?_
  rw [rounds_succ]
  have S := Lib.hid (St.new (a := 0) (r := true) w3 TX.out)
  obtain ⟨W, hW⟩ : ∃ W, W = w3.alloc (.cells #[.int .i64 0, .slice (some ⟨b1, o1, none⟩) 2 c1, .slice (some ⟨b2, o2, none⟩) 2 c2, .bool true] 25) := ⟨_, rfl⟩
  rw [← hW] at S ⊢
  clear hW
  have s0 := S.out.d.c0; have s1 := S.out.d.c1; have s2 := S.out.d.c2; have s3 := S.out.d.c3
  go_wp2_with fail
  clear s0 s1 s2 s3
  refine (crash_two 0 _ _ _ _ _ _ true true false m0 m1 0 (-1) false false m0 m1 false _ S.out.t HA.out).mono ?_
  rintro e W1 ⟨x1, x2, x3, x4, x5, x6, rfl, t, hb⟩
  replace S := Lib.hid (S.out.below hb)
  have TY := Lib.hid t
  clear t hb
  have hs := fun o => (S.out.d.alloc o).fr
  have s0 := fun o => (S.out.d.alloc o).c0; have s1 := fun o => (S.out.d.alloc o).c1; have s2 := fun o => (S.out.d.alloc o).c2; have s3 := fun o => (S.out.d.alloc o).c3
  go_wp2_with fail
  rw [rounds_succ]
  clear hs s0 s1 s2 s3
  replace S := Lib.hid ((S.out.below (below_one _ (.cells #[.int .i64 (-1), .slice (some ⟨x1, x2, none⟩) 2 x3, .slice (some ⟨x4, x5, none⟩) 2 x6, .bool false] 25))).store (a' := (-1)) (r' := false) (TY.out.below (below_one _ _)))
  clear TY
  revert S
  generalize World.setCell _ _ _ = Wa
  intro S
  have s0 := S.out.d.c0; have s1 := S.out.d.c1; have s2 := S.out.d.c2; have s3 := S.out.d.c3
  go_wp2_with fail
  clear s0 s1 s2 s3
  refine (crash_err (-1) _ _ [false, false] _ _ [m0, m1] false 1 330 _ S.out.t.C1 S.out.t.k1 S.out.t.C2 S.out.t.k2 (by decide) HB.out).mono ?_
  rintro e W3 ⟨yA, yk, yB, yl, rfl, hb⟩
  replace S := Lib.hid (S.out.below (bb hb (below_one _ (.cells #[.int .i64 0, .slice yA 0 yk, .slice yB 0 yl, .bool false] 25))))
  clear hb
  go_wp2_with fail
  rw [rounds_succ]
  obtain ⟨Wb, hWb⟩ : ∃ Wb, Wb = W3.alloc (.cells #[.int .i64 0, .slice yA 0 yk, .slice yB 0 yl, .bool false] 25) := ⟨_, rfl⟩
  rw [← hWb] at S ⊢
  clear hWb
  have s0 := S.out.d.c0; have s1 := S.out.d.c1; have s2 := S.out.d.c2; have s3 := S.out.d.c3
  go_wp2_with fail
  clear s0 s1 s2 s3
  refine (apply_err (-1) _ _ [false, false] _ _ [m0, m1] false 330 _ S.out.t.C1 S.out.t.k1 S.out.t.C2 S.out.t.k2 (by decide) HC.out).mono ?_
  rintro e W4 ⟨zA, zk, zB, zl, rfl, hb⟩
  replace S := Lib.hid (S.out.below hb)
  clear hb
  have s0 := fun o => (S.out.d.alloc o).c0; have s1 := fun o => (S.out.d.alloc o).c1; have s2 := fun o => (S.out.d.alloc o).c2; have s3 := fun o => (S.out.d.alloc o).c3
  go_wp2_with fail
  clear s0 s1 s2 s3
  refine (arm_err (-1) _ _ [false, false] _ _ [m0, m1] false 330 _ (S.out.t.below (below_one _ _)).C1 S.out.t.k1 (S.out.t.below (below_one _ _)).C2 S.out.t.k2 (by decide) HD.out).mono ?_
  rintro e W5 ⟨zA', zk', zB', zl', rfl, hb⟩
  replace S := Lib.hid (S.out.below (bb (below_one _ _) hb))
  clear hb
  have s0 := fun o => (S.out.d.alloc o).c0; have s1 := fun o => (S.out.d.alloc o).c1; have s2 := fun o => (S.out.d.alloc o).c2; have s3 := fun o => (S.out.d.alloc o).c3
  go_wp2_with fail
  clear s0 s1 s2 s3
  rw [HP.out]
  refine (restore_two (-1) _ _ _ _ _ _ false false false m0 m1 1 1 false true m0 m1 false _ (S.out.t.below (below_one _ _)) HE.out).mono ?_
  rintro e W6 ⟨g1, g2, g3, g4, g5, g6, rfl, t, hb⟩
  replace S := Lib.hid (S.out.below (bb (below_one _ _) hb))
  have TG := Lib.hid t
  clear t hb
  have hp := HP.out
  go_wp2_with fail
  refine (check_two 1 _ _ _ _ _ _ false false true m0 m1 _ (TG.out.below (below_one _ _))).mono ?_
  rintro e W7 ⟨rfl, hb⟩
  replace S := Lib.hid (S.out.below (bb (below_one _ _) hb))
  clear hb
  rw [if_pos HV3.out]
  go_wp2_with fail
  go_ret
  exact ⟨rfl, bb B3.out S.out.b⟩

set_option maxHeartbeats 4000000 in
theorem law9_ztff0 (b1 o1 c1 b2 o2 c2 : Nat) (m0 m1 : Int) (i : Int) (w : World) (ht : Two w b1 o1 c1 b2 o2 c2 true false m0 m1) (q0 : 0 ≤ m0) (q1 : m0 ≤ 1099511627776) (p0 : 0 ≤ m1) (p1 : m1 ≤ 1099511627776) (hp : bits .and .i64 i 1 = 0) : Calls Try.prog 9 #[.agg #[.int .i64 0, .slice (some ⟨b1, o1, none⟩) 2 c1, .slice (some ⟨b2, o2, none⟩) 2 c2, .bool false], .int .i64 i] w (LawPost w) := by
  have H1 := Lib.hid ht.C1; have K1 := Lib.hid ht.k1; have H2 := Lib.hid ht.C2; have K2 := Lib.hid ht.k2
  have T0 := Lib.hid ht
  have HFEW : Hid (fewB [true, false] [m0, m1] = true) := Lib.hid rfl
  have z0 := oddB_no q0 q1; have z1 := oddB_no p0 p1
  have HV : Hid (validB 0 true false m0 m1 false = true) := Lib.hid (by simp [validB, z0, z1, knownB])
  have HV1 : Hid (validB (-1) false false m0 m1 false = true) := Lib.hid (by simp [validB, z0, z1, knownB])
  have HV2 : Hid (validB (-1) false false m0 m1 false = true) := Lib.hid (by simp [validB, z0, z1, knownB])
  have HV3 : Hid (validB 0 true false m0 m1 false = true) := Lib.hid (by simp [validB, z0, z1, knownB])
  have HA : Hid (mirror_Crash.f 0 [true, false] [m0, m1] false 0 = some ((-1), [false, false], [m0, m1], false, 0)) := Lib.hid (by simp [mirror_Crash.f, HV.out, knownB, up])
  have HB : Hid (mirror_Crash.f (-1) [false, false] [m0, m1] false 1 = some (0, [], [], false, 330)) := Lib.hid (by simp [mirror_Crash.f, HV1.out, knownB, up])
  have HC : Hid (applyF (-1) [false, false] [m0, m1] false = some (0, [], [], false, 330)) := Lib.hid (by simp [applyF, HV2.out])
  have HD : Hid (mirror_Arm.f (-1) [false, false] [m0, m1] false = some (0, [], [], false, 330)) := Lib.hid (by simp [mirror_Arm.f, HV2.out])
  have HE : Hid (mirror_Restore.f (-1) [false, false] [m0, m1] false 0 = some (0, [true, false], [m0, m1], false, 0)) := Lib.hid (by simp [mirror_Restore.f, HV2.out, knownB, up])
  have HP := Lib.hid hp
  clear z0 z1 hp
  clear ht
  go_enter Try.func9, Try.ntmps9
  go_wp2_with fail
  refine (sane_calls _).mono ?_
  rintro e w1 ⟨rfl, hb⟩
  have DX := Lib.hid ((DBlk.new w (a := 0) (s1 := .slice (some ⟨b1, o1, none⟩) 2 c1) (s2 := .slice (some ⟨b2, o2, none⟩) 2 c2) (r := false)).below hb)
  have B1 := Lib.hid (bb (below_one _ _) hb)
  clear hb
  have d0 := DX.out.c0; have d1 := DX.out.c1; have d2 := DX.out.c2; have d3 := DX.out.c3
  go_wp2_with fail
  refine (few_calls 0 _ _ [true, false] _ _ [m0, m1] false _ (Kd.C_below H1.out B1.out) K1.out (Kd.C_below H2.out B1.out) K2.out).mono ?_
  rintro e w2 ⟨rfl, hb⟩
  replace DX := Lib.hid (DX.out.below hb)
  have B2 := Lib.hid (bb B1.out hb)
  clear hb d0 d1 d2 d3 B1
  rw [HFEW.out]
  have d0 := DX.out.c0; have d1 := DX.out.c1; have d2 := DX.out.c2; have d3 := DX.out.c3
  go_wp2_with fail
  refine (check_two 0 _ _ _ _ _ _ false true false m0 m1 _ (T0.out.below B2.out)).mono ?_
  rintro e w3 ⟨rfl, hb⟩
  have B3 := Lib.hid (bb B2.out hb)
  replace DX := Lib.hid (DX.out.below hb)
  have TX := Lib.hid (T0.out.below B3.out)
  clear hb d0 d1 d2 d3
  rw [if_pos HV.out]
  have d0 := DX.out.c0; have d1 := DX.out.c1; have d2 := DX.out.c2; have d3 := DX.out.c3
  go_wp2_with fail
  clear d0 d1 d2 d3
  refine wp_loop_rounds 3 ?_
  rw [rounds_succ]
  have S := Lib.hid (St.new (a := 0) (r := false) w3 TX.out)
  obtain ⟨W, hW⟩ : ∃ W, W = w3.alloc (.cells #[.int .i64 0, .slice (some ⟨b1, o1, none⟩) 2 c1, .slice (some ⟨b2, o2, none⟩) 2 c2, .bool false] 25) := ⟨_, rfl⟩
  rw [← hW] at S ⊢
  clear hW
  have s0 := S.out.d.c0; have s1 := S.out.d.c1; have s2 := S.out.d.c2; have s3 := S.out.d.c3
  go_wp2_with fail
  clear s0 s1 s2 s3
  refine (crash_two 0 _ _ _ _ _ _ false true false m0 m1 0 (-1) false false m0 m1 false _ S.out.t HA.out).mono ?_
  rintro e W1 ⟨x1, x2, x3, x4, x5, x6, rfl, t, hb⟩
  replace S := Lib.hid (S.out.below hb)
  have TY := Lib.hid t
  clear t hb
  have hs := fun o => (S.out.d.alloc o).fr
  have s0 := fun o => (S.out.d.alloc o).c0; have s1 := fun o => (S.out.d.alloc o).c1; have s2 := fun o => (S.out.d.alloc o).c2; have s3 := fun o => (S.out.d.alloc o).c3
  go_wp2_with fail
  rw [rounds_succ]
  clear hs s0 s1 s2 s3
  replace S := Lib.hid ((S.out.below (below_one _ (.cells #[.int .i64 (-1), .slice (some ⟨x1, x2, none⟩) 2 x3, .slice (some ⟨x4, x5, none⟩) 2 x6, .bool false] 25))).store (a' := (-1)) (r' := false) (TY.out.below (below_one _ _)))
  clear TY
  revert S
  generalize World.setCell _ _ _ = Wa
  intro S
  have s0 := S.out.d.c0; have s1 := S.out.d.c1; have s2 := S.out.d.c2; have s3 := S.out.d.c3
  go_wp2_with fail
  clear s0 s1 s2 s3
  refine (crash_err (-1) _ _ [false, false] _ _ [m0, m1] false 1 330 _ S.out.t.C1 S.out.t.k1 S.out.t.C2 S.out.t.k2 (by decide) HB.out).mono ?_
  rintro e W3 ⟨yA, yk, yB, yl, rfl, hb⟩
  replace S := Lib.hid (S.out.below (bb hb (below_one _ (.cells #[.int .i64 0, .slice yA 0 yk, .slice yB 0 yl, .bool false] 25))))
  clear hb
  go_wp2_with fail
  rw [rounds_succ]
  obtain ⟨Wb, hWb⟩ : ∃ Wb, Wb = W3.alloc (.cells #[.int .i64 0, .slice yA 0 yk, .slice yB 0 yl, .bool false] 25) := ⟨_, rfl⟩
  rw [← hWb] at S ⊢
  clear hWb
  have s0 := S.out.d.c0; have s1 := S.out.d.c1; have s2 := S.out.d.c2; have s3 := S.out.d.c3
  go_wp2_with fail
  clear s0 s1 s2 s3
  refine (apply_err (-1) _ _ [false, false] _ _ [m0, m1] false 330 _ S.out.t.C1 S.out.t.k1 S.out.t.C2 S.out.t.k2 (by decide) HC.out).mono ?_
  rintro e W4 ⟨zA, zk, zB, zl, rfl, hb⟩
  replace S := Lib.hid (S.out.below hb)
  clear hb
  have s0 := fun o => (S.out.d.alloc o).c0; have s1 := fun o => (S.out.d.alloc o).c1; have s2 := fun o => (S.out.d.alloc o).c2; have s3 := fun o => (S.out.d.alloc o).c3
  go_wp2_with fail
  clear s0 s1 s2 s3
  refine (arm_err (-1) _ _ [false, false] _ _ [m0, m1] false 330 _ (S.out.t.below (below_one _ _)).C1 S.out.t.k1 (S.out.t.below (below_one _ _)).C2 S.out.t.k2 (by decide) HD.out).mono ?_
  rintro e W5 ⟨zA', zk', zB', zl', rfl, hb⟩
  replace S := Lib.hid (S.out.below (bb (below_one _ _) hb))
  clear hb
  have s0 := fun o => (S.out.d.alloc o).c0; have s1 := fun o => (S.out.d.alloc o).c1; have s2 := fun o => (S.out.d.alloc o).c2; have s3 := fun o => (S.out.d.alloc o).c3
  go_wp2_with fail
  clear s0 s1 s2 s3
  rw [HP.out]
  refine (restore_two (-1) _ _ _ _ _ _ false false false m0 m1 0 0 true false m0 m1 false _ (S.out.t.below (below_one _ _)) HE.out).mono ?_
  rintro e W6 ⟨g1, g2, g3, g4, g5, g6, rfl, t, hb⟩
  replace S := Lib.hid (S.out.below (bb (below_one _ _) hb))
  have TG := Lib.hid t
  clear t hb
  have hp := HP.out
  go_wp2_with fail
  refine (check_two 0 _ _ _ _ _ _ false true false m0 m1 _ (TG.out.below (below_one _ _))).mono ?_
  rintro e W7 ⟨rfl, hb⟩
  replace S := Lib.hid (S.out.below (bb (below_one _ _) hb))
  clear hb
  rw [if_pos HV3.out]
  go_wp2_with fail
  go_ret
  exact ⟨rfl, bb B3.out S.out.b⟩

set_option maxHeartbeats 4000000 in
theorem law9_ztff1 (b1 o1 c1 b2 o2 c2 : Nat) (m0 m1 : Int) (i : Int) (w : World) (ht : Two w b1 o1 c1 b2 o2 c2 true false m0 m1) (q0 : 0 ≤ m0) (q1 : m0 ≤ 1099511627776) (p0 : 0 ≤ m1) (p1 : m1 ≤ 1099511627776) (hp : bits .and .i64 i 1 = 1) : Calls Try.prog 9 #[.agg #[.int .i64 0, .slice (some ⟨b1, o1, none⟩) 2 c1, .slice (some ⟨b2, o2, none⟩) 2 c2, .bool false], .int .i64 i] w (LawPost w) := by
  have H1 := Lib.hid ht.C1; have K1 := Lib.hid ht.k1; have H2 := Lib.hid ht.C2; have K2 := Lib.hid ht.k2
  have T0 := Lib.hid ht
  have HFEW : Hid (fewB [true, false] [m0, m1] = true) := Lib.hid rfl
  have z0 := oddB_no q0 q1; have z1 := oddB_no p0 p1
  have HV : Hid (validB 0 true false m0 m1 false = true) := Lib.hid (by simp [validB, z0, z1, knownB])
  have HV1 : Hid (validB (-1) false false m0 m1 false = true) := Lib.hid (by simp [validB, z0, z1, knownB])
  have HV2 : Hid (validB (-1) false false m0 m1 false = true) := Lib.hid (by simp [validB, z0, z1, knownB])
  have HV3 : Hid (validB 1 false true m0 m1 false = true) := Lib.hid (by simp [validB, z0, z1, knownB])
  have HA : Hid (mirror_Crash.f 0 [true, false] [m0, m1] false 0 = some ((-1), [false, false], [m0, m1], false, 0)) := Lib.hid (by simp [mirror_Crash.f, HV.out, knownB, up])
  have HB : Hid (mirror_Crash.f (-1) [false, false] [m0, m1] false 1 = some (0, [], [], false, 330)) := Lib.hid (by simp [mirror_Crash.f, HV1.out, knownB, up])
  have HC : Hid (applyF (-1) [false, false] [m0, m1] false = some (0, [], [], false, 330)) := Lib.hid (by simp [applyF, HV2.out])
  have HD : Hid (mirror_Arm.f (-1) [false, false] [m0, m1] false = some (0, [], [], false, 330)) := Lib.hid (by simp [mirror_Arm.f, HV2.out])
  have HE : Hid (mirror_Restore.f (-1) [false, false] [m0, m1] false 1 = some (1, [false, true], [m0, m1], false, 0)) := Lib.hid (by simp [mirror_Restore.f, HV2.out, knownB, up])
  have HP := Lib.hid hp
  clear z0 z1 hp
  clear ht
  go_enter Try.func9, Try.ntmps9
  go_wp2_with fail
  refine (sane_calls _).mono ?_
  rintro e w1 ⟨rfl, hb⟩
  have DX := Lib.hid ((DBlk.new w (a := 0) (s1 := .slice (some ⟨b1, o1, none⟩) 2 c1) (s2 := .slice (some ⟨b2, o2, none⟩) 2 c2) (r := false)).below hb)
  have B1 := Lib.hid (bb (below_one _ _) hb)
  clear hb
  have d0 := DX.out.c0; have d1 := DX.out.c1; have d2 := DX.out.c2; have d3 := DX.out.c3
  go_wp2_with fail
  refine (few_calls 0 _ _ [true, false] _ _ [m0, m1] false _ (Kd.C_below H1.out B1.out) K1.out (Kd.C_below H2.out B1.out) K2.out).mono ?_
  rintro e w2 ⟨rfl, hb⟩
  replace DX := Lib.hid (DX.out.below hb)
  have B2 := Lib.hid (bb B1.out hb)
  clear hb d0 d1 d2 d3 B1
  rw [HFEW.out]
  have d0 := DX.out.c0; have d1 := DX.out.c1; have d2 := DX.out.c2; have d3 := DX.out.c3
  go_wp2_with fail
  refine (check_two 0 _ _ _ _ _ _ false true false m0 m1 _ (T0.out.below B2.out)).mono ?_
  rintro e w3 ⟨rfl, hb⟩
  have B3 := Lib.hid (bb B2.out hb)
  replace DX := Lib.hid (DX.out.below hb)
  have TX := Lib.hid (T0.out.below B3.out)
  clear hb d0 d1 d2 d3
  rw [if_pos HV.out]
  have d0 := DX.out.c0; have d1 := DX.out.c1; have d2 := DX.out.c2; have d3 := DX.out.c3
  go_wp2_with fail
  clear d0 d1 d2 d3
  refine wp_loop_rounds 3 ?_
  rw [rounds_succ]
  have S := Lib.hid (St.new (a := 0) (r := false) w3 TX.out)
  obtain ⟨W, hW⟩ : ∃ W, W = w3.alloc (.cells #[.int .i64 0, .slice (some ⟨b1, o1, none⟩) 2 c1, .slice (some ⟨b2, o2, none⟩) 2 c2, .bool false] 25) := ⟨_, rfl⟩
  rw [← hW] at S ⊢
  clear hW
  have s0 := S.out.d.c0; have s1 := S.out.d.c1; have s2 := S.out.d.c2; have s3 := S.out.d.c3
  go_wp2_with fail
  clear s0 s1 s2 s3
  refine (crash_two 0 _ _ _ _ _ _ false true false m0 m1 0 (-1) false false m0 m1 false _ S.out.t HA.out).mono ?_
  rintro e W1 ⟨x1, x2, x3, x4, x5, x6, rfl, t, hb⟩
  replace S := Lib.hid (S.out.below hb)
  have TY := Lib.hid t
  clear t hb
  have hs := fun o => (S.out.d.alloc o).fr
  have s0 := fun o => (S.out.d.alloc o).c0; have s1 := fun o => (S.out.d.alloc o).c1; have s2 := fun o => (S.out.d.alloc o).c2; have s3 := fun o => (S.out.d.alloc o).c3
  go_wp2_with fail
  rw [rounds_succ]
  clear hs s0 s1 s2 s3
  replace S := Lib.hid ((S.out.below (below_one _ (.cells #[.int .i64 (-1), .slice (some ⟨x1, x2, none⟩) 2 x3, .slice (some ⟨x4, x5, none⟩) 2 x6, .bool false] 25))).store (a' := (-1)) (r' := false) (TY.out.below (below_one _ _)))
  clear TY
  revert S
  generalize World.setCell _ _ _ = Wa
  intro S
  have s0 := S.out.d.c0; have s1 := S.out.d.c1; have s2 := S.out.d.c2; have s3 := S.out.d.c3
  go_wp2_with fail
  clear s0 s1 s2 s3
  refine (crash_err (-1) _ _ [false, false] _ _ [m0, m1] false 1 330 _ S.out.t.C1 S.out.t.k1 S.out.t.C2 S.out.t.k2 (by decide) HB.out).mono ?_
  rintro e W3 ⟨yA, yk, yB, yl, rfl, hb⟩
  replace S := Lib.hid (S.out.below (bb hb (below_one _ (.cells #[.int .i64 0, .slice yA 0 yk, .slice yB 0 yl, .bool false] 25))))
  clear hb
  go_wp2_with fail
  rw [rounds_succ]
  obtain ⟨Wb, hWb⟩ : ∃ Wb, Wb = W3.alloc (.cells #[.int .i64 0, .slice yA 0 yk, .slice yB 0 yl, .bool false] 25) := ⟨_, rfl⟩
  rw [← hWb] at S ⊢
  clear hWb
  have s0 := S.out.d.c0; have s1 := S.out.d.c1; have s2 := S.out.d.c2; have s3 := S.out.d.c3
  go_wp2_with fail
  clear s0 s1 s2 s3
  refine (apply_err (-1) _ _ [false, false] _ _ [m0, m1] false 330 _ S.out.t.C1 S.out.t.k1 S.out.t.C2 S.out.t.k2 (by decide) HC.out).mono ?_
  rintro e W4 ⟨zA, zk, zB, zl, rfl, hb⟩
  replace S := Lib.hid (S.out.below hb)
  clear hb
  have s0 := fun o => (S.out.d.alloc o).c0; have s1 := fun o => (S.out.d.alloc o).c1; have s2 := fun o => (S.out.d.alloc o).c2; have s3 := fun o => (S.out.d.alloc o).c3
  go_wp2_with fail
  clear s0 s1 s2 s3
  refine (arm_err (-1) _ _ [false, false] _ _ [m0, m1] false 330 _ (S.out.t.below (below_one _ _)).C1 S.out.t.k1 (S.out.t.below (below_one _ _)).C2 S.out.t.k2 (by decide) HD.out).mono ?_
  rintro e W5 ⟨zA', zk', zB', zl', rfl, hb⟩
  replace S := Lib.hid (S.out.below (bb (below_one _ _) hb))
  clear hb
  have s0 := fun o => (S.out.d.alloc o).c0; have s1 := fun o => (S.out.d.alloc o).c1; have s2 := fun o => (S.out.d.alloc o).c2; have s3 := fun o => (S.out.d.alloc o).c3
  go_wp2_with fail
  clear s0 s1 s2 s3
  rw [HP.out]
  refine (restore_two (-1) _ _ _ _ _ _ false false false m0 m1 1 1 false true m0 m1 false _ (S.out.t.below (below_one _ _)) HE.out).mono ?_
  rintro e W6 ⟨g1, g2, g3, g4, g5, g6, rfl, t, hb⟩
  replace S := Lib.hid (S.out.below (bb (below_one _ _) hb))
  have TG := Lib.hid t
  clear t hb
  have hp := HP.out
  go_wp2_with fail
  refine (check_two 1 _ _ _ _ _ _ false false true m0 m1 _ (TG.out.below (below_one _ _))).mono ?_
  rintro e W7 ⟨rfl, hb⟩
  replace S := Lib.hid (S.out.below (bb (below_one _ _) hb))
  clear hb
  rw [if_pos HV3.out]
  go_wp2_with fail
  go_ret
  exact ⟨rfl, bb B3.out S.out.b⟩

set_option maxHeartbeats 4000000 in
theorem law9_oftt0 (b1 o1 c1 b2 o2 c2 : Nat) (m0 m1 : Int) (i : Int) (w : World) (ht : Two w b1 o1 c1 b2 o2 c2 false true m0 m1) (q0 : 0 ≤ m0) (q1 : m0 ≤ 1099511627776) (p0 : 0 ≤ m1) (p1 : m1 ≤ 1099511627776) (hp : bits .and .i64 i 1 = 0) : Calls Try.prog 9 #[.agg #[.int .i64 1, .slice (some ⟨b1, o1, none⟩) 2 c1, .slice (some ⟨b2, o2, none⟩) 2 c2, .bool true], .int .i64 i] w (LawPost w) := by
  have H1 := Lib.hid ht.C1; have K1 := Lib.hid ht.k1; have H2 := Lib.hid ht.C2; have K2 := Lib.hid ht.k2
  have T0 := Lib.hid ht
  have HFEW : Hid (fewB [false, true] [m0, m1] = true) := Lib.hid rfl
  have z0 := oddB_no q0 q1; have z1 := oddB_no p0 p1
  have HV : Hid (validB 1 false true m0 m1 true = true) := Lib.hid (by simp [validB, z0, z1, knownB])
  have HV1 : Hid (validB 1 false true m0 m1 true = true) := Lib.hid (by simp [validB, z0, z1, knownB])
  have HV2 : Hid (validB (-1) false false m0 m1 false = true) := Lib.hid (by simp [validB, z0, z1, knownB])
  have HV3 : Hid (validB 0 true false m0 m1 false = true) := Lib.hid (by simp [validB, z0, z1, knownB])
  have HA : Hid (mirror_Crash.f 1 [false, true] [m0, m1] true 0 = some (0, [], [], false, 330)) := Lib.hid (by simp [mirror_Crash.f, HV.out, knownB, up])
  have HB : Hid (mirror_Crash.f 1 [false, true] [m0, m1] true 1 = some ((-1), [false, false], [m0, m1], false, 0)) := Lib.hid (by simp [mirror_Crash.f, HV1.out, knownB, up])
  have HC : Hid (applyF (-1) [false, false] [m0, m1] false = some (0, [], [], false, 330)) := Lib.hid (by simp [applyF, HV2.out])
  have HD : Hid (mirror_Arm.f (-1) [false, false] [m0, m1] false = some (0, [], [], false, 330)) := Lib.hid (by simp [mirror_Arm.f, HV2.out])
  have HE : Hid (mirror_Restore.f (-1) [false, false] [m0, m1] false 0 = some (0, [true, false], [m0, m1], false, 0)) := Lib.hid (by simp [mirror_Restore.f, HV2.out, knownB, up])
  have HP := Lib.hid hp
  clear z0 z1 hp
  clear ht
  go_enter Try.func9, Try.ntmps9
  go_wp2_with fail
  refine (sane_calls _).mono ?_
  rintro e w1 ⟨rfl, hb⟩
  have DX := Lib.hid ((DBlk.new w (a := 1) (s1 := .slice (some ⟨b1, o1, none⟩) 2 c1) (s2 := .slice (some ⟨b2, o2, none⟩) 2 c2) (r := true)).below hb)
  have B1 := Lib.hid (bb (below_one _ _) hb)
  clear hb
  have d0 := DX.out.c0; have d1 := DX.out.c1; have d2 := DX.out.c2; have d3 := DX.out.c3
  go_wp2_with fail
  refine (few_calls 1 _ _ [false, true] _ _ [m0, m1] true _ (Kd.C_below H1.out B1.out) K1.out (Kd.C_below H2.out B1.out) K2.out).mono ?_
  rintro e w2 ⟨rfl, hb⟩
  replace DX := Lib.hid (DX.out.below hb)
  have B2 := Lib.hid (bb B1.out hb)
  clear hb d0 d1 d2 d3 B1
  rw [HFEW.out]
  have d0 := DX.out.c0; have d1 := DX.out.c1; have d2 := DX.out.c2; have d3 := DX.out.c3
  go_wp2_with fail
  refine (check_two 1 _ _ _ _ _ _ true false true m0 m1 _ (T0.out.below B2.out)).mono ?_
  rintro e w3 ⟨rfl, hb⟩
  have B3 := Lib.hid (bb B2.out hb)
  replace DX := Lib.hid (DX.out.below hb)
  have TX := Lib.hid (T0.out.below B3.out)
  clear hb d0 d1 d2 d3
  rw [if_pos HV.out]
  have d0 := DX.out.c0; have d1 := DX.out.c1; have d2 := DX.out.c2; have d3 := DX.out.c3
  go_wp2_with fail
  clear d0 d1 d2 d3
  refine wp_loop_rounds 3 ?_
  rw [rounds_succ]
  have S := Lib.hid (St.new (a := 1) (r := true) w3 TX.out)
  obtain ⟨W, hW⟩ : ∃ W, W = w3.alloc (.cells #[.int .i64 1, .slice (some ⟨b1, o1, none⟩) 2 c1, .slice (some ⟨b2, o2, none⟩) 2 c2, .bool true] 25) := ⟨_, rfl⟩
  rw [← hW] at S ⊢
  clear hW
  have s0 := S.out.d.c0; have s1 := S.out.d.c1; have s2 := S.out.d.c2; have s3 := S.out.d.c3
  go_wp2_with fail
  clear s0 s1 s2 s3
  refine (crash_err 1 _ _ [false, true] _ _ [m0, m1] true 0 330 _ S.out.t.C1 S.out.t.k1 S.out.t.C2 S.out.t.k2 (by decide) HA.out).mono ?_
  rintro e W1 ⟨yA, yk, yB, yl, rfl, hb⟩
  replace S := Lib.hid (S.out.below (bb hb (below_one _ (.cells #[.int .i64 0, .slice yA 0 yk, .slice yB 0 yl, .bool false] 25))))
  clear hb
  go_wp2_with fail
  rw [rounds_succ]
  obtain ⟨Wa, hWa⟩ : ∃ Wa, Wa = W1.alloc (.cells #[.int .i64 0, .slice yA 0 yk, .slice yB 0 yl, .bool false] 25) := ⟨_, rfl⟩
  rw [← hWa] at S ⊢
  clear hWa
  have s0 := S.out.d.c0; have s1 := S.out.d.c1; have s2 := S.out.d.c2; have s3 := S.out.d.c3
  go_wp2_with fail
  clear s0 s1 s2 s3
  refine (crash_two 1 _ _ _ _ _ _ true false true m0 m1 1 (-1) false false m0 m1 false _ S.out.t HB.out).mono ?_
  rintro e W3 ⟨y1, y2, y3, y4, y5, y6, rfl, t, hb⟩
  replace S := Lib.hid (S.out.below hb)
  have TY := Lib.hid t
  clear t hb
  have hs := fun o => (S.out.d.alloc o).fr
  have s0 := fun o => (S.out.d.alloc o).c0; have s1 := fun o => (S.out.d.alloc o).c1; have s2 := fun o => (S.out.d.alloc o).c2; have s3 := fun o => (S.out.d.alloc o).c3
  go_wp2_with fail
  rw [rounds_succ]
  clear hs s0 s1 s2 s3
  replace S := Lib.hid ((S.out.below (below_one _ (.cells #[.int .i64 (-1), .slice (some ⟨y1, y2, none⟩) 2 y3, .slice (some ⟨y4, y5, none⟩) 2 y6, .bool false] 25))).store (a' := (-1)) (r' := false) (TY.out.below (below_one _ _)))
  clear TY
  revert S
  generalize World.setCell _ _ _ = Wb
  intro S
  have s0 := S.out.d.c0; have s1 := S.out.d.c1; have s2 := S.out.d.c2; have s3 := S.out.d.c3
  go_wp2_with fail
  clear s0 s1 s2 s3
  refine (apply_err (-1) _ _ [false, false] _ _ [m0, m1] false 330 _ S.out.t.C1 S.out.t.k1 S.out.t.C2 S.out.t.k2 (by decide) HC.out).mono ?_
  rintro e W4 ⟨zA, zk, zB, zl, rfl, hb⟩
  replace S := Lib.hid (S.out.below hb)
  clear hb
  have s0 := fun o => (S.out.d.alloc o).c0; have s1 := fun o => (S.out.d.alloc o).c1; have s2 := fun o => (S.out.d.alloc o).c2; have s3 := fun o => (S.out.d.alloc o).c3
  go_wp2_with fail
  clear s0 s1 s2 s3
  refine (arm_err (-1) _ _ [false, false] _ _ [m0, m1] false 330 _ (S.out.t.below (below_one _ _)).C1 S.out.t.k1 (S.out.t.below (below_one _ _)).C2 S.out.t.k2 (by decide) HD.out).mono ?_
  rintro e W5 ⟨zA', zk', zB', zl', rfl, hb⟩
  replace S := Lib.hid (S.out.below (bb (below_one _ _) hb))
  clear hb
  have s0 := fun o => (S.out.d.alloc o).c0; have s1 := fun o => (S.out.d.alloc o).c1; have s2 := fun o => (S.out.d.alloc o).c2; have s3 := fun o => (S.out.d.alloc o).c3
  go_wp2_with fail
  clear s0 s1 s2 s3
  rw [HP.out]
  refine (restore_two (-1) _ _ _ _ _ _ false false false m0 m1 0 0 true false m0 m1 false _ (S.out.t.below (below_one _ _)) HE.out).mono ?_
  rintro e W6 ⟨g1, g2, g3, g4, g5, g6, rfl, t, hb⟩
  replace S := Lib.hid (S.out.below (bb (below_one _ _) hb))
  have TG := Lib.hid t
  clear t hb
  have hp := HP.out
  go_wp2_with fail
  refine (check_two 0 _ _ _ _ _ _ false true false m0 m1 _ (TG.out.below (below_one _ _))).mono ?_
  rintro e W7 ⟨rfl, hb⟩
  replace S := Lib.hid (S.out.below (bb (below_one _ _) hb))
  clear hb
  rw [if_pos HV3.out]
  go_wp2_with fail
  go_ret
  exact ⟨rfl, bb B3.out S.out.b⟩

set_option maxHeartbeats 4000000 in
theorem law9_oftt1 (b1 o1 c1 b2 o2 c2 : Nat) (m0 m1 : Int) (i : Int) (w : World) (ht : Two w b1 o1 c1 b2 o2 c2 false true m0 m1) (q0 : 0 ≤ m0) (q1 : m0 ≤ 1099511627776) (p0 : 0 ≤ m1) (p1 : m1 ≤ 1099511627776) (hp : bits .and .i64 i 1 = 1) : Calls Try.prog 9 #[.agg #[.int .i64 1, .slice (some ⟨b1, o1, none⟩) 2 c1, .slice (some ⟨b2, o2, none⟩) 2 c2, .bool true], .int .i64 i] w (LawPost w) := by
  have H1 := Lib.hid ht.C1; have K1 := Lib.hid ht.k1; have H2 := Lib.hid ht.C2; have K2 := Lib.hid ht.k2
  have T0 := Lib.hid ht
  have HFEW : Hid (fewB [false, true] [m0, m1] = true) := Lib.hid rfl
  have z0 := oddB_no q0 q1; have z1 := oddB_no p0 p1
  have HV : Hid (validB 1 false true m0 m1 true = true) := Lib.hid (by simp [validB, z0, z1, knownB])
  have HV1 : Hid (validB 1 false true m0 m1 true = true) := Lib.hid (by simp [validB, z0, z1, knownB])
  have HV2 : Hid (validB (-1) false false m0 m1 false = true) := Lib.hid (by simp [validB, z0, z1, knownB])
  have HV3 : Hid (validB 1 false true m0 m1 false = true) := Lib.hid (by simp [validB, z0, z1, knownB])
  have HA : Hid (mirror_Crash.f 1 [false, true] [m0, m1] true 0 = some (0, [], [], false, 330)) := Lib.hid (by simp [mirror_Crash.f, HV.out, knownB, up])
  have HB : Hid (mirror_Crash.f 1 [false, true] [m0, m1] true 1 = some ((-1), [false, false], [m0, m1], false, 0)) := Lib.hid (by simp [mirror_Crash.f, HV1.out, knownB, up])
  have HC : Hid (applyF (-1) [false, false] [m0, m1] false = some (0, [], [], false, 330)) := Lib.hid (by simp [applyF, HV2.out])
  have HD : Hid (mirror_Arm.f (-1) [false, false] [m0, m1] false = some (0, [], [], false, 330)) := Lib.hid (by simp [mirror_Arm.f, HV2.out])
  have HE : Hid (mirror_Restore.f (-1) [false, false] [m0, m1] false 1 = some (1, [false, true], [m0, m1], false, 0)) := Lib.hid (by simp [mirror_Restore.f, HV2.out, knownB, up])
  have HP := Lib.hid hp
  clear z0 z1 hp
  clear ht
  go_enter Try.func9, Try.ntmps9
  go_wp2_with fail
  refine (sane_calls _).mono ?_
  rintro e w1 ⟨rfl, hb⟩
  have DX := Lib.hid ((DBlk.new w (a := 1) (s1 := .slice (some ⟨b1, o1, none⟩) 2 c1) (s2 := .slice (some ⟨b2, o2, none⟩) 2 c2) (r := true)).below hb)
  have B1 := Lib.hid (bb (below_one _ _) hb)
  clear hb
  have d0 := DX.out.c0; have d1 := DX.out.c1; have d2 := DX.out.c2; have d3 := DX.out.c3
  go_wp2_with fail
  refine (few_calls 1 _ _ [false, true] _ _ [m0, m1] true _ (Kd.C_below H1.out B1.out) K1.out (Kd.C_below H2.out B1.out) K2.out).mono ?_
  rintro e w2 ⟨rfl, hb⟩
  replace DX := Lib.hid (DX.out.below hb)
  have B2 := Lib.hid (bb B1.out hb)
  clear hb d0 d1 d2 d3 B1
  rw [HFEW.out]
  have d0 := DX.out.c0; have d1 := DX.out.c1; have d2 := DX.out.c2; have d3 := DX.out.c3
  go_wp2_with fail
  refine (check_two 1 _ _ _ _ _ _ true false true m0 m1 _ (T0.out.below B2.out)).mono ?_
  rintro e w3 ⟨rfl, hb⟩
  have B3 := Lib.hid (bb B2.out hb)
  replace DX := Lib.hid (DX.out.below hb)
  have TX := Lib.hid (T0.out.below B3.out)
  clear hb d0 d1 d2 d3
  rw [if_pos HV.out]
  have d0 := DX.out.c0; have d1 := DX.out.c1; have d2 := DX.out.c2; have d3 := DX.out.c3
  go_wp2_with fail
  clear d0 d1 d2 d3
  refine wp_loop_rounds 3 ?_
  rw [rounds_succ]
  have S := Lib.hid (St.new (a := 1) (r := true) w3 TX.out)
  obtain ⟨W, hW⟩ : ∃ W, W = w3.alloc (.cells #[.int .i64 1, .slice (some ⟨b1, o1, none⟩) 2 c1, .slice (some ⟨b2, o2, none⟩) 2 c2, .bool true] 25) := ⟨_, rfl⟩
  rw [← hW] at S ⊢
  clear hW
  have s0 := S.out.d.c0; have s1 := S.out.d.c1; have s2 := S.out.d.c2; have s3 := S.out.d.c3
  go_wp2_with fail
  clear s0 s1 s2 s3
  refine (crash_err 1 _ _ [false, true] _ _ [m0, m1] true 0 330 _ S.out.t.C1 S.out.t.k1 S.out.t.C2 S.out.t.k2 (by decide) HA.out).mono ?_
  rintro e W1 ⟨yA, yk, yB, yl, rfl, hb⟩
  replace S := Lib.hid (S.out.below (bb hb (below_one _ (.cells #[.int .i64 0, .slice yA 0 yk, .slice yB 0 yl, .bool false] 25))))
  clear hb
  go_wp2_with fail
  rw [rounds_succ]
  obtain ⟨Wa, hWa⟩ : ∃ Wa, Wa = W1.alloc (.cells #[.int .i64 0, .slice yA 0 yk, .slice yB 0 yl, .bool false] 25) := ⟨_, rfl⟩
  rw [← hWa] at S ⊢
  clear hWa
  have s0 := S.out.d.c0; have s1 := S.out.d.c1; have s2 := S.out.d.c2; have s3 := S.out.d.c3
  go_wp2_with fail
  clear s0 s1 s2 s3
  refine (crash_two 1 _ _ _ _ _ _ true false true m0 m1 1 (-1) false false m0 m1 false _ S.out.t HB.out).mono ?_
  rintro e W3 ⟨y1, y2, y3, y4, y5, y6, rfl, t, hb⟩
  replace S := Lib.hid (S.out.below hb)
  have TY := Lib.hid t
  clear t hb
  have hs := fun o => (S.out.d.alloc o).fr
  have s0 := fun o => (S.out.d.alloc o).c0; have s1 := fun o => (S.out.d.alloc o).c1; have s2 := fun o => (S.out.d.alloc o).c2; have s3 := fun o => (S.out.d.alloc o).c3
  go_wp2_with fail
  rw [rounds_succ]
  clear hs s0 s1 s2 s3
  replace S := Lib.hid ((S.out.below (below_one _ (.cells #[.int .i64 (-1), .slice (some ⟨y1, y2, none⟩) 2 y3, .slice (some ⟨y4, y5, none⟩) 2 y6, .bool false] 25))).store (a' := (-1)) (r' := false) (TY.out.below (below_one _ _)))
  clear TY
  revert S
  generalize World.setCell _ _ _ = Wb
  intro S
  have s0 := S.out.d.c0; have s1 := S.out.d.c1; have s2 := S.out.d.c2; have s3 := S.out.d.c3
  go_wp2_with fail
  clear s0 s1 s2 s3
  refine (apply_err (-1) _ _ [false, false] _ _ [m0, m1] false 330 _ S.out.t.C1 S.out.t.k1 S.out.t.C2 S.out.t.k2 (by decide) HC.out).mono ?_
  rintro e W4 ⟨zA, zk, zB, zl, rfl, hb⟩
  replace S := Lib.hid (S.out.below hb)
  clear hb
  have s0 := fun o => (S.out.d.alloc o).c0; have s1 := fun o => (S.out.d.alloc o).c1; have s2 := fun o => (S.out.d.alloc o).c2; have s3 := fun o => (S.out.d.alloc o).c3
  go_wp2_with fail
  clear s0 s1 s2 s3
  refine (arm_err (-1) _ _ [false, false] _ _ [m0, m1] false 330 _ (S.out.t.below (below_one _ _)).C1 S.out.t.k1 (S.out.t.below (below_one _ _)).C2 S.out.t.k2 (by decide) HD.out).mono ?_
  rintro e W5 ⟨zA', zk', zB', zl', rfl, hb⟩
  replace S := Lib.hid (S.out.below (bb (below_one _ _) hb))
  clear hb
  have s0 := fun o => (S.out.d.alloc o).c0; have s1 := fun o => (S.out.d.alloc o).c1; have s2 := fun o => (S.out.d.alloc o).c2; have s3 := fun o => (S.out.d.alloc o).c3
  go_wp2_with fail
  clear s0 s1 s2 s3
  rw [HP.out]
  refine (restore_two (-1) _ _ _ _ _ _ false false false m0 m1 1 1 false true m0 m1 false _ (S.out.t.below (below_one _ _)) HE.out).mono ?_
  rintro e W6 ⟨g1, g2, g3, g4, g5, g6, rfl, t, hb⟩
  replace S := Lib.hid (S.out.below (bb (below_one _ _) hb))
  have TG := Lib.hid t
  clear t hb
  have hp := HP.out
  go_wp2_with fail
  refine (check_two 1 _ _ _ _ _ _ false false true m0 m1 _ (TG.out.below (below_one _ _))).mono ?_
  rintro e W7 ⟨rfl, hb⟩
  replace S := Lib.hid (S.out.below (bb (below_one _ _) hb))
  clear hb
  rw [if_pos HV3.out]
  go_wp2_with fail
  go_ret
  exact ⟨rfl, bb B3.out S.out.b⟩

set_option maxHeartbeats 4000000 in
theorem law9_oftf0 (b1 o1 c1 b2 o2 c2 : Nat) (m0 m1 : Int) (i : Int) (w : World) (ht : Two w b1 o1 c1 b2 o2 c2 false true m0 m1) (q0 : 0 ≤ m0) (q1 : m0 ≤ 1099511627776) (p0 : 0 ≤ m1) (p1 : m1 ≤ 1099511627776) (hp : bits .and .i64 i 1 = 0) : Calls Try.prog 9 #[.agg #[.int .i64 1, .slice (some ⟨b1, o1, none⟩) 2 c1, .slice (some ⟨b2, o2, none⟩) 2 c2, .bool false], .int .i64 i] w (LawPost w) := by
  have H1 := Lib.hid ht.C1; have K1 := Lib.hid ht.k1; have H2 := Lib.hid ht.C2; have K2 := Lib.hid ht.k2
  have T0 := Lib.hid ht
  have HFEW : Hid (fewB [false, true] [m0, m1] = true) := Lib.hid rfl
  have z0 := oddB_no q0 q1; have z1 := oddB_no p0 p1
  have HV : Hid (validB 1 false true m0 m1 false = true) := Lib.hid (by simp [validB, z0, z1, knownB])
  have HV1 : Hid (validB 1 false true m0 m1 false = true) := Lib.hid (by simp [validB, z0, z1, knownB])
  have HV2 : Hid (validB (-1) false false m0 m1 false = true) := Lib.hid (by simp [validB, z0, z1, knownB])
  have HV3 : Hid (validB 0 true false m0 m1 false = true) := Lib.hid (by simp [validB, z0, z1, knownB])
  have HA : Hid (mirror_Crash.f 1 [false, true] [m0, m1] false 0 = some (0, [], [], false, 330)) := Lib.hid (by simp [mirror_Crash.f, HV.out, knownB, up])
  have HB : Hid (mirror_Crash.f 1 [false, true] [m0, m1] false 1 = some ((-1), [false, false], [m0, m1], false, 0)) := Lib.hid (by simp [mirror_Crash.f, HV1.out, knownB, up])
  have HC : Hid (applyF (-1) [false, false] [m0, m1] false = some (0, [], [], false, 330)) := Lib.hid (by simp [applyF, HV2.out])
  have HD : Hid (mirror_Arm.f (-1) [false, false] [m0, m1] false = some (0, [], [], false, 330)) := Lib.hid (by simp [mirror_Arm.f, HV2.out])
  have HE : Hid (mirror_Restore.f (-1) [false, false] [m0, m1] false 0 = some (0, [true, false], [m0, m1], false, 0)) := Lib.hid (by simp [mirror_Restore.f, HV2.out, knownB, up])
  have HP := Lib.hid hp
  clear z0 z1 hp
  clear ht
  go_enter Try.func9, Try.ntmps9
  go_wp2_with fail
  refine (sane_calls _).mono ?_
  rintro e w1 ⟨rfl, hb⟩
  have DX := Lib.hid ((DBlk.new w (a := 1) (s1 := .slice (some ⟨b1, o1, none⟩) 2 c1) (s2 := .slice (some ⟨b2, o2, none⟩) 2 c2) (r := false)).below hb)
  have B1 := Lib.hid (bb (below_one _ _) hb)
  clear hb
  have d0 := DX.out.c0; have d1 := DX.out.c1; have d2 := DX.out.c2; have d3 := DX.out.c3
  go_wp2_with fail
  refine (few_calls 1 _ _ [false, true] _ _ [m0, m1] false _ (Kd.C_below H1.out B1.out) K1.out (Kd.C_below H2.out B1.out) K2.out).mono ?_
  rintro e w2 ⟨rfl, hb⟩
  replace DX := Lib.hid (DX.out.below hb)
  have B2 := Lib.hid (bb B1.out hb)
  clear hb d0 d1 d2 d3 B1
  rw [HFEW.out]
  have d0 := DX.out.c0; have d1 := DX.out.c1; have d2 := DX.out.c2; have d3 := DX.out.c3
  go_wp2_with fail
  refine (check_two 1 _ _ _ _ _ _ false false true m0 m1 _ (T0.out.below B2.out)).mono ?_
  rintro e w3 ⟨rfl, hb⟩
  have B3 := Lib.hid (bb B2.out hb)
  replace DX := Lib.hid (DX.out.below hb)
  have TX := Lib.hid (T0.out.below B3.out)
  clear hb d0 d1 d2 d3
  rw [if_pos HV.out]
  have d0 := DX.out.c0; have d1 := DX.out.c1; have d2 := DX.out.c2; have d3 := DX.out.c3
  go_wp2_with fail
  clear d0 d1 d2 d3
  refine wp_loop_rounds 3 ?_
  rw [rounds_succ]
  have S := Lib.hid (St.new (a := 1) (r := false) w3 TX.out)
  obtain ⟨W, hW⟩ : ∃ W, W = w3.alloc (.cells #[.int .i64 1, .slice (some ⟨b1, o1, none⟩) 2 c1, .slice (some ⟨b2, o2, none⟩) 2 c2, .bool false] 25) := ⟨_, rfl⟩
  rw [← hW] at S ⊢
  clear hW
  have s0 := S.out.d.c0; have s1 := S.out.d.c1; have s2 := S.out.d.c2; have s3 := S.out.d.c3
  go_wp2_with fail
  clear s0 s1 s2 s3
  refine (crash_err 1 _ _ [false, true] _ _ [m0, m1] false 0 330 _ S.out.t.C1 S.out.t.k1 S.out.t.C2 S.out.t.k2 (by decide) HA.out).mono ?_
  rintro e W1 ⟨yA, yk, yB, yl, rfl, hb⟩
  replace S := Lib.hid (S.out.below (bb hb (below_one _ (.cells #[.int .i64 0, .slice yA 0 yk, .slice yB 0 yl, .bool false] 25))))
  clear hb
  go_wp2_with fail
  rw [rounds_succ]
  obtain ⟨Wa, hWa⟩ : ∃ Wa, Wa = W1.alloc (.cells #[.int .i64 0, .slice yA 0 yk, .slice yB 0 yl, .bool false] 25) := ⟨_, rfl⟩
  rw [← hWa] at S ⊢
  clear hWa
  have s0 := S.out.d.c0; have s1 := S.out.d.c1; have s2 := S.out.d.c2; have s3 := S.out.d.c3
  go_wp2_with fail
  clear s0 s1 s2 s3
  refine (crash_two 1 _ _ _ _ _ _ false false true m0 m1 1 (-1) false false m0 m1 false _ S.out.t HB.out).mono ?_
  rintro e W3 ⟨y1, y2, y3, y4, y5, y6, rfl, t, hb⟩
  replace S := Lib.hid (S.out.below hb)
  have TY := Lib.hid t
  clear t hb
  have hs := fun o => (S.out.d.alloc o).fr
  have s0 := fun o => (S.out.d.alloc o).c0; have s1 := fun o => (S.out.d.alloc o).c1; have s2 := fun o => (S.out.d.alloc o).c2; have s3 := fun o => (S.out.d.alloc o).c3
  go_wp2_with fail
  rw [rounds_succ]
  clear hs s0 s1 s2 s3
  replace S := Lib.hid ((S.out.below (below_one _ (.cells #[.int .i64 (-1), .slice (some ⟨y1, y2, none⟩) 2 y3, .slice (some ⟨y4, y5, none⟩) 2 y6, .bool false] 25))).store (a' := (-1)) (r' := false) (TY.out.below (below_one _ _)))
  clear TY
  revert S
  generalize World.setCell _ _ _ = Wb
  intro S
  have s0 := S.out.d.c0; have s1 := S.out.d.c1; have s2 := S.out.d.c2; have s3 := S.out.d.c3
  go_wp2_with fail
  clear s0 s1 s2 s3
  refine (apply_err (-1) _ _ [false, false] _ _ [m0, m1] false 330 _ S.out.t.C1 S.out.t.k1 S.out.t.C2 S.out.t.k2 (by decide) HC.out).mono ?_
  rintro e W4 ⟨zA, zk, zB, zl, rfl, hb⟩
  replace S := Lib.hid (S.out.below hb)
  clear hb
  have s0 := fun o => (S.out.d.alloc o).c0; have s1 := fun o => (S.out.d.alloc o).c1; have s2 := fun o => (S.out.d.alloc o).c2; have s3 := fun o => (S.out.d.alloc o).c3
  go_wp2_with fail
  clear s0 s1 s2 s3
  refine (arm_err (-1) _ _ [false, false] _ _ [m0, m1] false 330 _ (S.out.t.below (below_one _ _)).C1 S.out.t.k1 (S.out.t.below (below_one _ _)).C2 S.out.t.k2 (by decide) HD.out).mono ?_
  rintro e W5 ⟨zA', zk', zB', zl', rfl, hb⟩
  replace S := Lib.hid (S.out.below (bb (below_one _ _) hb))
  clear hb
  have s0 := fun o => (S.out.d.alloc o).c0; have s1 := fun o => (S.out.d.alloc o).c1; have s2 := fun o => (S.out.d.alloc o).c2; have s3 := fun o => (S.out.d.alloc o).c3
  go_wp2_with fail
  clear s0 s1 s2 s3
  rw [HP.out]
  refine (restore_two (-1) _ _ _ _ _ _ false false false m0 m1 0 0 true false m0 m1 false _ (S.out.t.below (below_one _ _)) HE.out).mono ?_
  rintro e W6 ⟨g1, g2, g3, g4, g5, g6, rfl, t, hb⟩
  replace S := Lib.hid (S.out.below (bb (below_one _ _) hb))
  have TG := Lib.hid t
  clear t hb
  have hp := HP.out
  go_wp2_with fail
  refine (check_two 0 _ _ _ _ _ _ false true false m0 m1 _ (TG.out.below (below_one _ _))).mono ?_
  rintro e W7 ⟨rfl, hb⟩
  replace S := Lib.hid (S.out.below (bb (below_one _ _) hb))
  clear hb
  rw [if_pos HV3.out]
  go_wp2_with fail
  go_ret
  exact ⟨rfl, bb B3.out S.out.b⟩

set_option maxHeartbeats 4000000 in
theorem law9_oftf1 (b1 o1 c1 b2 o2 c2 : Nat) (m0 m1 : Int) (i : Int) (w : World) (ht : Two w b1 o1 c1 b2 o2 c2 false true m0 m1) (q0 : 0 ≤ m0) (q1 : m0 ≤ 1099511627776) (p0 : 0 ≤ m1) (p1 : m1 ≤ 1099511627776) (hp : bits .and .i64 i 1 = 1) : Calls Try.prog 9 #[.agg #[.int .i64 1, .slice (some ⟨b1, o1, none⟩) 2 c1, .slice (some ⟨b2, o2, none⟩) 2 c2, .bool false], .int .i64 i] w (LawPost w) := by
  have H1 := Lib.hid ht.C1; have K1 := Lib.hid ht.k1; have H2 := Lib.hid ht.C2; have K2 := Lib.hid ht.k2
  have T0 := Lib.hid ht
  have HFEW : Hid (fewB [false, true] [m0, m1] = true) := Lib.hid rfl
  have z0 := oddB_no q0 q1; have z1 := oddB_no p0 p1
  have HV : Hid (validB 1 false true m0 m1 false = true) := Lib.hid (by simp [validB, z0, z1, knownB])
  have HV1 : Hid (validB 1 false true m0 m1 false = true) := Lib.hid (by simp [validB, z0, z1, knownB])
  have HV2 : Hid (validB (-1) false false m0 m1 false = true) := Lib.hid (by simp [validB, z0, z1, knownB])
  have HV3 : Hid (validB 1 false true m0 m1 false = true) := Lib.hid (by simp [validB, z0, z1, knownB])
  have HA : Hid (mirror_Crash.f 1 [false, true] [m0, m1] false 0 = some (0, [], [], false, 330)) := Lib.hid (by simp [mirror_Crash.f, HV.out, knownB, up])
  have HB : Hid (mirror_Crash.f 1 [false, true] [m0, m1] false 1 = some ((-1), [false, false], [m0, m1], false, 0)) := Lib.hid (by simp [mirror_Crash.f, HV1.out, knownB, up])
  have HC : Hid (applyF (-1) [false, false] [m0, m1] false = some (0, [], [], false, 330)) := Lib.hid (by simp [applyF, HV2.out])
  have HD : Hid (mirror_Arm.f (-1) [false, false] [m0, m1] false = some (0, [], [], false, 330)) := Lib.hid (by simp [mirror_Arm.f, HV2.out])
  have HE : Hid (mirror_Restore.f (-1) [false, false] [m0, m1] false 1 = some (1, [false, true], [m0, m1], false, 0)) := Lib.hid (by simp [mirror_Restore.f, HV2.out, knownB, up])
  have HP := Lib.hid hp
  clear z0 z1 hp
  clear ht
  go_enter Try.func9, Try.ntmps9
  go_wp2_with fail
  refine (sane_calls _).mono ?_
  rintro e w1 ⟨rfl, hb⟩
  have DX := Lib.hid ((DBlk.new w (a := 1) (s1 := .slice (some ⟨b1, o1, none⟩) 2 c1) (s2 := .slice (some ⟨b2, o2, none⟩) 2 c2) (r := false)).below hb)
  have B1 := Lib.hid (bb (below_one _ _) hb)
  clear hb
  have d0 := DX.out.c0; have d1 := DX.out.c1; have d2 := DX.out.c2; have d3 := DX.out.c3
  go_wp2_with fail
  refine (few_calls 1 _ _ [false, true] _ _ [m0, m1] false _ (Kd.C_below H1.out B1.out) K1.out (Kd.C_below H2.out B1.out) K2.out).mono ?_
  rintro e w2 ⟨rfl, hb⟩
  replace DX := Lib.hid (DX.out.below hb)
  have B2 := Lib.hid (bb B1.out hb)
  clear hb d0 d1 d2 d3 B1
  rw [HFEW.out]
  have d0 := DX.out.c0; have d1 := DX.out.c1; have d2 := DX.out.c2; have d3 := DX.out.c3
  go_wp2_with fail
  refine (check_two 1 _ _ _ _ _ _ false false true m0 m1 _ (T0.out.below B2.out)).mono ?_
  rintro e w3 ⟨rfl, hb⟩
  have B3 := Lib.hid (bb B2.out hb)
  replace DX := Lib.hid (DX.out.below hb)
  have TX := Lib.hid (T0.out.below B3.out)
  clear hb d0 d1 d2 d3
  rw [if_pos HV.out]
  have d0 := DX.out.c0; have d1 := DX.out.c1; have d2 := DX.out.c2; have d3 := DX.out.c3
  go_wp2_with fail
  clear d0 d1 d2 d3
  refine wp_loop_rounds 3 ?_
  rw [rounds_succ]
  have S := Lib.hid (St.new (a := 1) (r := false) w3 TX.out)
  obtain ⟨W, hW⟩ : ∃ W, W = w3.alloc (.cells #[.int .i64 1, .slice (some ⟨b1, o1, none⟩) 2 c1, .slice (some ⟨b2, o2, none⟩) 2 c2, .bool false] 25) := ⟨_, rfl⟩
  rw [← hW] at S ⊢
  clear hW
  have s0 := S.out.d.c0; have s1 := S.out.d.c1; have s2 := S.out.d.c2; have s3 := S.out.d.c3
  go_wp2_with fail
  clear s0 s1 s2 s3
  refine (crash_err 1 _ _ [false, true] _ _ [m0, m1] false 0 330 _ S.out.t.C1 S.out.t.k1 S.out.t.C2 S.out.t.k2 (by decide) HA.out).mono ?_
  rintro e W1 ⟨yA, yk, yB, yl, rfl, hb⟩
  replace S := Lib.hid (S.out.below (bb hb (below_one _ (.cells #[.int .i64 0, .slice yA 0 yk, .slice yB 0 yl, .bool false] 25))))
  clear hb
  go_wp2_with fail
  rw [rounds_succ]
  obtain ⟨Wa, hWa⟩ : ∃ Wa, Wa = W1.alloc (.cells #[.int .i64 0, .slice yA 0 yk, .slice yB 0 yl, .bool false] 25) := ⟨_, rfl⟩
  rw [← hWa] at S ⊢
  clear hWa
  have s0 := S.out.d.c0; have s1 := S.out.d.c1; have s2 := S.out.d.c2; have s3 := S.out.d.c3
  go_wp2_with fail
  clear s0 s1 s2 s3
  refine (crash_two 1 _ _ _ _ _ _ false false true m0 m1 1 (-1) false false m0 m1 false _ S.out.t HB.out).mono ?_
  rintro e W3 ⟨y1, y2, y3, y4, y5, y6, rfl, t, hb⟩
  replace S := Lib.hid (S.out.below hb)
  have TY := Lib.hid t
  clear t hb
  have hs := fun o => (S.out.d.alloc o).fr
  have s0 := fun o => (S.out.d.alloc o).c0; have s1 := fun o => (S.out.d.alloc o).c1; have s2 := fun o => (S.out.d.alloc o).c2; have s3 := fun o => (S.out.d.alloc o).c3
  go_wp2_with fail
  rw [rounds_succ]
  clear hs s0 s1 s2 s3
  replace S := Lib.hid ((S.out.below (below_one _ (.cells #[.int .i64 (-1), .slice (some ⟨y1, y2, none⟩) 2 y3, .slice (some ⟨y4, y5, none⟩) 2 y6, .bool false] 25))).store (a' := (-1)) (r' := false) (TY.out.below (below_one _ _)))
  clear TY
  revert S
  generalize World.setCell _ _ _ = Wb
  intro S
  have s0 := S.out.d.c0; have s1 := S.out.d.c1; have s2 := S.out.d.c2; have s3 := S.out.d.c3
  go_wp2_with fail
  clear s0 s1 s2 s3
  refine (apply_err (-1) _ _ [false, false] _ _ [m0, m1] false 330 _ S.out.t.C1 S.out.t.k1 S.out.t.C2 S.out.t.k2 (by decide) HC.out).mono ?_
  rintro e W4 ⟨zA, zk, zB, zl, rfl, hb⟩
  replace S := Lib.hid (S.out.below hb)
  clear hb
  have s0 := fun o => (S.out.d.alloc o).c0; have s1 := fun o => (S.out.d.alloc o).c1; have s2 := fun o => (S.out.d.alloc o).c2; have s3 := fun o => (S.out.d.alloc o).c3
  go_wp2_with fail
  clear s0 s1 s2 s3
  refine (arm_err (-1) _ _ [false, false] _ _ [m0, m1] false 330 _ (S.out.t.below (below_one _ _)).C1 S.out.t.k1 (S.out.t.below (below_one _ _)).C2 S.out.t.k2 (by decide) HD.out).mono ?_
  rintro e W5 ⟨zA', zk', zB', zl', rfl, hb⟩
  replace S := Lib.hid (S.out.below (bb (below_one _ _) hb))
  clear hb
  have s0 := fun o => (S.out.d.alloc o).c0; have s1 := fun o => (S.out.d.alloc o).c1; have s2 := fun o => (S.out.d.alloc o).c2; have s3 := fun o => (S.out.d.alloc o).c3
  go_wp2_with fail
  clear s0 s1 s2 s3
  rw [HP.out]
  refine (restore_two (-1) _ _ _ _ _ _ false false false m0 m1 1 1 false true m0 m1 false _ (S.out.t.below (below_one _ _)) HE.out).mono ?_
  rintro e W6 ⟨g1, g2, g3, g4, g5, g6, rfl, t, hb⟩
  replace S := Lib.hid (S.out.below (bb (below_one _ _) hb))
  have TG := Lib.hid t
  clear t hb
  have hp := HP.out
  go_wp2_with fail
  refine (check_two 1 _ _ _ _ _ _ false false true m0 m1 _ (TG.out.below (below_one _ _))).mono ?_
  rintro e W7 ⟨rfl, hb⟩
  replace S := Lib.hid (S.out.below (bb (below_one _ _) hb))
  clear hb
  rw [if_pos HV3.out]
  go_wp2_with fail
  go_ret
  exact ⟨rfl, bb B3.out S.out.b⟩

set_option maxHeartbeats 4000000 in
theorem law9_mfff0 (b1 o1 c1 b2 o2 c2 : Nat) (m0 m1 : Int) (i : Int) (w : World) (ht : Two w b1 o1 c1 b2 o2 c2 false false m0 m1) (q0 : 0 ≤ m0) (q1 : m0 ≤ 1099511627776) (p0 : 0 ≤ m1) (p1 : m1 ≤ 1099511627776) (hp : bits .and .i64 i 1 = 0) : Calls Try.prog 9 #[.agg #[.int .i64 (-1), .slice (some ⟨b1, o1, none⟩) 2 c1, .slice (some ⟨b2, o2, none⟩) 2 c2, .bool false], .int .i64 i] w (LawPost w) := by
  have H1 := Lib.hid ht.C1; have K1 := Lib.hid ht.k1; have H2 := Lib.hid ht.C2; have K2 := Lib.hid ht.k2
  have T0 := Lib.hid ht
  have HFEW : Hid (fewB [false, false] [m0, m1] = true) := Lib.hid rfl
  have z0 := oddB_no q0 q1; have z1 := oddB_no p0 p1
  have HV : Hid (validB (-1) false false m0 m1 false = true) := Lib.hid (by simp [validB, z0, z1, knownB])
  have HV1 : Hid (validB (-1) false false m0 m1 false = true) := Lib.hid (by simp [validB, z0, z1, knownB])
  have HV2 : Hid (validB (-1) false false m0 m1 false = true) := Lib.hid (by simp [validB, z0, z1, knownB])
  have HV3 : Hid (validB 0 true false m0 m1 false = true) := Lib.hid (by simp [validB, z0, z1, knownB])
  have HA : Hid (mirror_Crash.f (-1) [false, false] [m0, m1] false 0 = some (0, [], [], false, 330)) := Lib.hid (by simp [mirror_Crash.f, HV.out, knownB, up])
  have HB : Hid (mirror_Crash.f (-1) [false, false] [m0, m1] false 1 = some (0, [], [], false, 330)) := Lib.hid (by simp [mirror_Crash.f, HV1.out, knownB, up])
  have HC : Hid (applyF (-1) [false, false] [m0, m1] false = some (0, [], [], false, 330)) := Lib.hid (by simp [applyF, HV2.out])
  have HD : Hid (mirror_Arm.f (-1) [false, false] [m0, m1] false = some (0, [], [], false, 330)) := Lib.hid (by simp [mirror_Arm.f, HV2.out])
  have HE : Hid (mirror_Restore.f (-1) [false, false] [m0, m1] false 0 = some (0, [true, false], [m0, m1], false, 0)) := Lib.hid (by simp [mirror_Restore.f, HV2.out, knownB, up])
  have HP := Lib.hid hp
  clear z0 z1 hp
  clear ht
  go_enter Try.func9, Try.ntmps9
  go_wp2_with fail
  refine (sane_calls _).mono ?_
  rintro e w1 ⟨rfl, hb⟩
  have DX := Lib.hid ((DBlk.new w (a := (-1)) (s1 := .slice (some ⟨b1, o1, none⟩) 2 c1) (s2 := .slice (some ⟨b2, o2, none⟩) 2 c2) (r := false)).below hb)
  have B1 := Lib.hid (bb (below_one _ _) hb)
  clear hb
  have d0 := DX.out.c0; have d1 := DX.out.c1; have d2 := DX.out.c2; have d3 := DX.out.c3
  go_wp2_with fail
  refine (few_calls (-1) _ _ [false, false] _ _ [m0, m1] false _ (Kd.C_below H1.out B1.out) K1.out (Kd.C_below H2.out B1.out) K2.out).mono ?_
  rintro e w2 ⟨rfl, hb⟩
  replace DX := Lib.hid (DX.out.below hb)
  have B2 := Lib.hid (bb B1.out hb)
  clear hb d0 d1 d2 d3 B1
  rw [HFEW.out]
  have d0 := DX.out.c0; have d1 := DX.out.c1; have d2 := DX.out.c2; have d3 := DX.out.c3
  go_wp2_with fail
  refine (check_two (-1) _ _ _ _ _ _ false false false m0 m1 _ (T0.out.below B2.out)).mono ?_
  rintro e w3 ⟨rfl, hb⟩
  have B3 := Lib.hid (bb B2.out hb)
  replace DX := Lib.hid (DX.out.below hb)
  have TX := Lib.hid (T0.out.below B3.out)
  clear hb d0 d1 d2 d3
  rw [if_pos HV.out]
  have d0 := DX.out.c0; have d1 := DX.out.c1; have d2 := DX.out.c2; have d3 := DX.out.c3
  go_wp2_with fail
  clear d0 d1 d2 d3
  refine wp_loop_rounds 3 ?_
  rw [rounds_succ]
  have S := Lib.hid (St.new (a := (-1)) (r := false) w3 TX.out)
  obtain ⟨W, hW⟩ : ∃ W, W = w3.alloc (.cells #[.int .i64 (-1), .slice (some ⟨b1, o1, none⟩) 2 c1, .slice (some ⟨b2, o2, none⟩) 2 c2, .bool false] 25) := ⟨_, rfl⟩
  rw [← hW] at S ⊢
  clear hW
  have s0 := S.out.d.c0; have s1 := S.out.d.c1; have s2 := S.out.d.c2; have s3 := S.out.d.c3
  go_wp2_with fail
  clear s0 s1 s2 s3
  refine (crash_err (-1) _ _ [false, false] _ _ [m0, m1] false 0 330 _ S.out.t.C1 S.out.t.k1 S.out.t.C2 S.out.t.k2 (by decide) HA.out).mono ?_
  rintro e W1 ⟨yA, yk, yB, yl, rfl, hb⟩
  replace S := Lib.hid (S.out.below (bb hb (below_one _ (.cells #[.int .i64 0, .slice yA 0 yk, .slice yB 0 yl, .bool false] 25))))
  clear hb
  go_wp2_with fail
  rw [rounds_succ]
  obtain ⟨Wa, hWa⟩ : ∃ Wa, Wa = W1.alloc (.cells #[.int .i64 0, .slice yA 0 yk, .slice yB 0 yl, .bool false] 25) := ⟨_, rfl⟩
  rw [← hWa] at S ⊢
  clear hWa
  have s0 := S.out.d.c0; have s1 := S.out.d.c1; have s2 := S.out.d.c2; have s3 := S.out.d.c3
  go_wp2_with fail
  clear s0 s1 s2 s3
  refine (crash_err (-1) _ _ [false, false] _ _ [m0, m1] false 1 330 _ S.out.t.C1 S.out.t.k1 S.out.t.C2 S.out.t.k2 (by decide) HB.out).mono ?_
  rintro e W3 ⟨yA, yk, yB, yl, rfl, hb⟩
  replace S := Lib.hid (S.out.below (bb hb (below_one _ (.cells #[.int .i64 0, .slice yA 0 yk, .slice yB 0 yl, .bool false] 25))))
  clear hb
  go_wp2_with fail
  rw [rounds_succ]
  obtain ⟨Wb, hWb⟩ : ∃ Wb, Wb = W3.alloc (.cells #[.int .i64 0, .slice yA 0 yk, .slice yB 0 yl, .bool false] 25) := ⟨_, rfl⟩
  rw [← hWb] at S ⊢
  clear hWb
  have s0 := S.out.d.c0; have s1 := S.out.d.c1; have s2 := S.out.d.c2; have s3 := S.out.d.c3
  go_wp2_with fail
  clear s0 s1 s2 s3
  refine (apply_err (-1) _ _ [false, false] _ _ [m0, m1] false 330 _ S.out.t.C1 S.out.t.k1 S.out.t.C2 S.out.t.k2 (by decide) HC.out).mono ?_
  rintro e W4 ⟨zA, zk, zB, zl, rfl, hb⟩
  replace S := Lib.hid (S.out.below hb)
  clear hb
  have s0 := fun o => (S.out.d.alloc o).c0; have s1 := fun o => (S.out.d.alloc o).c1; have s2 := fun o => (S.out.d.alloc o).c2; have s3 := fun o => (S.out.d.alloc o).c3
  go_wp2_with fail
  clear s0 s1 s2 s3
  refine (arm_err (-1) _ _ [false, false] _ _ [m0, m1] false 330 _ (S.out.t.below (below_one _ _)).C1 S.out.t.k1 (S.out.t.below (below_one _ _)).C2 S.out.t.k2 (by decide) HD.out).mono ?_
  rintro e W5 ⟨zA', zk', zB', zl', rfl, hb⟩
  replace S := Lib.hid (S.out.below (bb (below_one _ _) hb))
  clear hb
  have s0 := fun o => (S.out.d.alloc o).c0; have s1 := fun o => (S.out.d.alloc o).c1; have s2 := fun o => (S.out.d.alloc o).c2; have s3 := fun o => (S.out.d.alloc o).c3
  go_wp2_with fail
  clear s0 s1 s2 s3
  rw [HP.out]
  refine (restore_two (-1) _ _ _ _ _ _ false false false m0 m1 0 0 true false m0 m1 false _ (S.out.t.below (below_one _ _)) HE.out).mono ?_
  rintro e W6 ⟨g1, g2, g3, g4, g5, g6, rfl, t, hb⟩
  replace S := Lib.hid (S.out.below (bb (below_one _ _) hb))
  have TG := Lib.hid t
  clear t hb
  have hp := HP.out
  go_wp2_with fail
  refine (check_two 0 _ _ _ _ _ _ false true false m0 m1 _ (TG.out.below (below_one _ _))).mono ?_
  rintro e W7 ⟨rfl, hb⟩
  replace S := Lib.hid (S.out.below (bb (below_one _ _) hb))
  clear hb
  rw [if_pos HV3.out]
  go_wp2_with fail
  go_ret
  exact ⟨rfl, bb B3.out S.out.b⟩

set_option maxHeartbeats 4000000 in
theorem law9_mfff1 (b1 o1 c1 b2 o2 c2 : Nat) (m0 m1 : Int) (i : Int) (w : World) (ht : Two w b1 o1 c1 b2 o2 c2 false false m0 m1) (q0 : 0 ≤ m0) (q1 : m0 ≤ 1099511627776) (p0 : 0 ≤ m1) (p1 : m1 ≤ 1099511627776) (hp : bits .and .i64 i 1 = 1) : Calls Try.prog 9 #[.agg #[.int .i64 (-1), .slice (some ⟨b1, o1, none⟩) 2 c1, .slice (some ⟨b2, o2, none⟩) 2 c2, .bool false], .int .i64 i] w (LawPost w) := by
  have H1 := Lib.hid ht.C1; have K1 := Lib.hid ht.k1; have H2 := Lib.hid ht.C2; have K2 := Lib.hid ht.k2
  have T0 := Lib.hid ht
  have HFEW : Hid (fewB [false, false] [m0, m1] = true) := Lib.hid rfl
  have z0 := oddB_no q0 q1; have z1 := oddB_no p0 p1
  have HV : Hid (validB (-1) false false m0 m1 false = true) := Lib.hid (by simp [validB, z0, z1, knownB])
  have HV1 : Hid (validB (-1) false false m0 m1 false = true) := Lib.hid (by simp [validB, z0, z1, knownB])
  have HV2 : Hid (validB (-1) false false m0 m1 false = true) := Lib.hid (by simp [validB, z0, z1, knownB])
  have HV3 : Hid (validB 1 false true m0 m1 false = true) := Lib.hid (by simp [validB, z0, z1, knownB])
  have HA : Hid (mirror_Crash.f (-1) [false, false] [m0, m1] false 0 = some (0, [], [], false, 330)) := Lib.hid (by simp [mirror_Crash.f, HV.out, knownB, up])
  have HB : Hid (mirror_Crash.f (-1) [false, false] [m0, m1] false 1 = some (0, [], [], false, 330)) := Lib.hid (by simp [mirror_Crash.f, HV1.out, knownB, up])
  have HC : Hid (applyF (-1) [false, false] [m0, m1] false = some (0, [], [], false, 330)) := Lib.hid (by simp [applyF, HV2.out])
  have HD : Hid (mirror_Arm.f (-1) [false, false] [m0, m1] false = some (0, [], [], false, 330)) := Lib.hid (by simp [mirror_Arm.f, HV2.out])
  have HE : Hid (mirror_Restore.f (-1) [false, false] [m0, m1] false 1 = some (1, [false, true], [m0, m1], false, 0)) := Lib.hid (by simp [mirror_Restore.f, HV2.out, knownB, up])
  have HP := Lib.hid hp
  clear z0 z1 hp
  clear ht
  go_enter Try.func9, Try.ntmps9
  go_wp2_with fail
  refine (sane_calls _).mono ?_
  rintro e w1 ⟨rfl, hb⟩
  have DX := Lib.hid ((DBlk.new w (a := (-1)) (s1 := .slice (some ⟨b1, o1, none⟩) 2 c1) (s2 := .slice (some ⟨b2, o2, none⟩) 2 c2) (r := false)).below hb)
  have B1 := Lib.hid (bb (below_one _ _) hb)
  clear hb
  have d0 := DX.out.c0; have d1 := DX.out.c1; have d2 := DX.out.c2; have d3 := DX.out.c3
  go_wp2_with fail
  refine (few_calls (-1) _ _ [false, false] _ _ [m0, m1] false _ (Kd.C_below H1.out B1.out) K1.out (Kd.C_below H2.out B1.out) K2.out).mono ?_
  rintro e w2 ⟨rfl, hb⟩
  replace DX := Lib.hid (DX.out.below hb)
  have B2 := Lib.hid (bb B1.out hb)
  clear hb d0 d1 d2 d3 B1
  rw [HFEW.out]
  have d0 := DX.out.c0; have d1 := DX.out.c1; have d2 := DX.out.c2; have d3 := DX.out.c3
  go_wp2_with fail
  refine (check_two (-1) _ _ _ _ _ _ false false false m0 m1 _ (T0.out.below B2.out)).mono ?_
  rintro e w3 ⟨rfl, hb⟩
  have B3 := Lib.hid (bb B2.out hb)
  replace DX := Lib.hid (DX.out.below hb)
  have TX := Lib.hid (T0.out.below B3.out)
  clear hb d0 d1 d2 d3
  rw [if_pos HV.out]
  have d0 := DX.out.c0; have d1 := DX.out.c1; have d2 := DX.out.c2; have d3 := DX.out.c3
  go_wp2_with fail
  clear d0 d1 d2 d3
  refine wp_loop_rounds 3 ?_
  rw [rounds_succ]
  have S := Lib.hid (St.new (a := (-1)) (r := false) w3 TX.out)
  obtain ⟨W, hW⟩ : ∃ W, W = w3.alloc (.cells #[.int .i64 (-1), .slice (some ⟨b1, o1, none⟩) 2 c1, .slice (some ⟨b2, o2, none⟩) 2 c2, .bool false] 25) := ⟨_, rfl⟩
  rw [← hW] at S ⊢
  clear hW
  have s0 := S.out.d.c0; have s1 := S.out.d.c1; have s2 := S.out.d.c2; have s3 := S.out.d.c3
  go_wp2_with fail
  clear s0 s1 s2 s3
  refine (crash_err (-1) _ _ [false, false] _ _ [m0, m1] false 0 330 _ S.out.t.C1 S.out.t.k1 S.out.t.C2 S.out.t.k2 (by decide) HA.out).mono ?_
  rintro e W1 ⟨yA, yk, yB, yl, rfl, hb⟩
  replace S := Lib.hid (S.out.below (bb hb (below_one _ (.cells #[.int .i64 0, .slice yA 0 yk, .slice yB 0 yl, .bool false] 25))))
  clear hb
  go_wp2_with fail
  rw [rounds_succ]
  obtain ⟨Wa, hWa⟩ : ∃ Wa, Wa = W1.alloc (.cells #[.int .i64 0, .slice yA 0 yk, .slice yB 0 yl, .bool false] 25) := ⟨_, rfl⟩
  rw [← hWa] at S ⊢
  clear hWa
  have s0 := S.out.d.c0; have s1 := S.out.d.c1; have s2 := S.out.d.c2; have s3 := S.out.d.c3
  go_wp2_with fail
  clear s0 s1 s2 s3
  refine (crash_err (-1) _ _ [false, false] _ _ [m0, m1] false 1 330 _ S.out.t.C1 S.out.t.k1 S.out.t.C2 S.out.t.k2 (by decide) HB.out).mono ?_
  rintro e W3 ⟨yA, yk, yB, yl, rfl, hb⟩
  replace S := Lib.hid (S.out.below (bb hb (below_one _ (.cells #[.int .i64 0, .slice yA 0 yk, .slice yB 0 yl, .bool false] 25))))
  clear hb
  go_wp2_with fail
  rw [rounds_succ]
  obtain ⟨Wb, hWb⟩ : ∃ Wb, Wb = W3.alloc (.cells #[.int .i64 0, .slice yA 0 yk, .slice yB 0 yl, .bool false] 25) := ⟨_, rfl⟩
  rw [← hWb] at S ⊢
  clear hWb
  have s0 := S.out.d.c0; have s1 := S.out.d.c1; have s2 := S.out.d.c2; have s3 := S.out.d.c3
  go_wp2_with fail
  clear s0 s1 s2 s3
  refine (apply_err (-1) _ _ [false, false] _ _ [m0, m1] false 330 _ S.out.t.C1 S.out.t.k1 S.out.t.C2 S.out.t.k2 (by decide) HC.out).mono ?_
  rintro e W4 ⟨zA, zk, zB, zl, rfl, hb⟩
  replace S := Lib.hid (S.out.below hb)
  clear hb
  have s0 := fun o => (S.out.d.alloc o).c0; have s1 := fun o => (S.out.d.alloc o).c1; have s2 := fun o => (S.out.d.alloc o).c2; have s3 := fun o => (S.out.d.alloc o).c3
  go_wp2_with fail
  clear s0 s1 s2 s3
  refine (arm_err (-1) _ _ [false, false] _ _ [m0, m1] false 330 _ (S.out.t.below (below_one _ _)).C1 S.out.t.k1 (S.out.t.below (below_one _ _)).C2 S.out.t.k2 (by decide) HD.out).mono ?_
  rintro e W5 ⟨zA', zk', zB', zl', rfl, hb⟩
  replace S := Lib.hid (S.out.below (bb (below_one _ _) hb))
  clear hb
  have s0 := fun o => (S.out.d.alloc o).c0; have s1 := fun o => (S.out.d.alloc o).c1; have s2 := fun o => (S.out.d.alloc o).c2; have s3 := fun o => (S.out.d.alloc o).c3
  go_wp2_with fail
  clear s0 s1 s2 s3
  rw [HP.out]
  refine (restore_two (-1) _ _ _ _ _ _ false false false m0 m1 1 1 false true m0 m1 false _ (S.out.t.below (below_one _ _)) HE.out).mono ?_
  rintro e W6 ⟨g1, g2, g3, g4, g5, g6, rfl, t, hb⟩
  replace S := Lib.hid (S.out.below (bb (below_one _ _) hb))
  have TG := Lib.hid t
  clear t hb
  have hp := HP.out
  go_wp2_with fail
  refine (check_two 1 _ _ _ _ _ _ false false true m0 m1 _ (TG.out.below (below_one _ _))).mono ?_
  rintro e W7 ⟨rfl, hb⟩
  replace S := Lib.hid (S.out.below (bb (below_one _ _) hb))
  clear hb
  rw [if_pos HV3.out]
  go_wp2_with fail
  go_ret
  exact ⟨rfl, bb B3.out S.out.b⟩

theorem law9_walk (a : Int) (A1 : Option Addr) (c1 : Nat) (l1 : List Bool) (A2 : Option Addr) (c2 : Nat) (l2 : List Int) (r : Bool) (i : Int) (w : World) (hr1 : Kd.C Kd.bool w A1 l1.length l1) (hc1 : l1.length ≤ c1) (hr2 : Kd.C (Kd.int .i64) w A2 l2.length l2) (hc2 : l2.length ≤ c2) : Calls Try.prog 9 #[.agg #[.int .i64 a, .slice A1 l1.length c1, .slice A2 l2.length c2, .bool r], .int .i64 i] w (LawPost w) := by
  cases hf : fewB l1 l2
  · exact law9_big a A1 c1 l1 A2 c2 l2 r i w hr1 hc1 hr2 hc2 hf
  · rcases check_cases (a := a) (l1 := l1) (l2 := l2) (r := r) with ⟨c, hc, h⟩ | ⟨u0, u1, m0, m1, rfl, rfl, hv⟩
    · exact law9_odd a A1 c1 l1 A2 c2 l2 r i c w hr1 hc1 hr2 hc2 hf hc h
    · obtain ⟨b1, o1, rfl, k1⟩ := C_bools hr1
      obtain ⟨b2, o2, rfl, k2⟩ := C_ints hr2
      have ht : Two w b1 o1 c1 b2 o2 c2 u0 u1 m0 m1 := ⟨hc1, hc2, by simpa [Addr.add] using k1 0 _ rfl, by simpa [Addr.add] using k1 1 _ rfl, by simpa [Addr.add] using k2 0 _ rfl, by simpa [Addr.add] using k2 1 _ rfl⟩
      obtain ⟨⟨q0, q1⟩, p0, p1⟩ := valid_m hv
      cases u0
      · cases u1
        · obtain ⟨rfl, rfl⟩ : a = -1 ∧ r = false := by simp [validB] at hv; exact hv.2
          rcases and_one i with hp | hp
          · exact law9_mfff0 b1 o1 c1 b2 o2 c2 m0 m1 i w ht q0 q1 p0 p1 hp
          · exact law9_mfff1 b1 o1 c1 b2 o2 c2 m0 m1 i w ht q0 q1 p0 p1 hp
        · obtain rfl : a = 1 := by simp [validB, knownB] at hv; omega
          cases r
          · rcases and_one i with hp | hp
            · exact law9_oftf0 b1 o1 c1 b2 o2 c2 m0 m1 i w ht q0 q1 p0 p1 hp
            · exact law9_oftf1 b1 o1 c1 b2 o2 c2 m0 m1 i w ht q0 q1 p0 p1 hp
          · rcases and_one i with hp | hp
            · exact law9_oftt0 b1 o1 c1 b2 o2 c2 m0 m1 i w ht q0 q1 p0 p1 hp
            · exact law9_oftt1 b1 o1 c1 b2 o2 c2 m0 m1 i w ht q0 q1 p0 p1 hp
      · cases u1
        · obtain rfl : a = 0 := by simp [validB, knownB] at hv; omega
          cases r
          · rcases and_one i with hp | hp
            · exact law9_ztff0 b1 o1 c1 b2 o2 c2 m0 m1 i w ht q0 q1 p0 p1 hp
            · exact law9_ztff1 b1 o1 c1 b2 o2 c2 m0 m1 i w ht q0 q1 p0 p1 hp
          · rcases and_one i with hp | hp
            · exact law9_ztft0 b1 o1 c1 b2 o2 c2 m0 m1 i w ht q0 q1 p0 p1 hp
            · exact law9_ztft1 b1 o1 c1 b2 o2 c2 m0 m1 i w ht q0 q1 p0 p1 hp
        · obtain rfl := valid_both hv
          rcases valid_a hv with rfl | rfl | rfl
          · simp [validB, knownB] at hv
          · skip
            cases r
            · rcases and_one i with hp | hp
              · exact law9_zttf0 b1 o1 c1 b2 o2 c2 m0 i w ht q0 q1 p0 p1 hp
              · exact law9_zttf1 b1 o1 c1 b2 o2 c2 m0 i w ht q0 q1 p0 p1 hp
            · rcases and_one i with hp | hp
              · exact law9_zttt0 b1 o1 c1 b2 o2 c2 m0 i w ht q0 q1 p0 p1 hp
              · exact law9_zttt1 b1 o1 c1 b2 o2 c2 m0 i w ht q0 q1 p0 p1 hp
          · skip
            cases r
            · rcases and_one i with hp | hp
              · exact law9_ottf0 b1 o1 c1 b2 o2 c2 m0 i w ht q0 q1 p0 p1 hp
              · exact law9_ottf1 b1 o1 c1 b2 o2 c2 m0 i w ht q0 q1 p0 p1 hp
            · rcases and_one i with hp | hp
              · exact law9_ottt0 b1 o1 c1 b2 o2 c2 m0 i w ht q0 q1 p0 p1 hp
              · exact law9_ottt1 b1 o1 c1 b2 o2 c2 m0 i w ht q0 q1 p0 p1 hp

end Go.Proofs.Ytfjboaanpiceaaa.P
