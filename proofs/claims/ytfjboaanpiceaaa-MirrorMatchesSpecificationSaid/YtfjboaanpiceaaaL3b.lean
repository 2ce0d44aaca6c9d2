import Derived.Test.YtfjboaanpiceaaaL3a
namespace Go.Proofs.Ytfjboaanpiceaaa.P
open Go.RowKit Go.Proofs.YtfjboaanpiceaaaW.PrintWords Go.Proofs.YtfjboaanpiceaaaW.PrintLast Go.Proofs.YtfjboaanpiceaaaW.PrintMore
set_option linter.unusedVariables false
set_option linter.unusedSimpArgs false
/-- A pair that is read, of given lists. -/
def RAny (r1 : Int) (r2 : List Bool) (r3 : List Int) (r4 : Bool) (r5 : Int) (w : World) (e : Ending) (w' : World) : Prop := ∃ A1 k1 A2 k2, e = .returned (.tuple #[.agg #[.int .i64 r1, .slice A1 r2.length k1, .slice A2 r3.length k2, .bool r4], .int .i64 r5]) ∧ r2.length ≤ k1 ∧ r3.length ≤ k2 ∧ Kd.C Kd.bool w' A1 r2.length r2 ∧ Kd.C (Kd.int .i64) w' A2 r3.length r3 ∧ Below w.heap.size w w'
theorem armed_copy (a : Int) (b1 o1 c1 b2 o2 c2 : Nat) (r : Bool) (u0 u1 : Bool) (m0 m1 : Int) (w : World) (ht : Two w b1 o1 c1 b2 o2 c2 u0 u1 m0 m1) (k1 : 2 ≤ c1) : Calls Try.prog 33 #[.agg #[.int .i64 a, .slice (some ⟨b1, o1, none⟩) 2 c1, .slice (some ⟨b2, o2, none⟩) 2 c2, .bool r]] w fun e w' => ∃ y1 y2 y3 y4 y5 y6, e = .returned (.agg #[.int .i64 a, .slice (some ⟨y1, y2, none⟩) 2 y3, .slice (some ⟨y4, y5, none⟩) 2 y6, .bool r]) ∧ Two w' y1 y2 y3 y4 y5 y6 u0 u1 m0 m1 ∧ Below w.heap.size w w' := by
  refine (crossbarref33_copied.calls a _ c1 [u0, u1] _ c2 [m0, m1] r a [u0, u1] [m0, m1] r w ht.C1 ht.k1 ht.C2 ht.k2 rfl).mono ?_
  rintro e w' ⟨v1, v2, he, h1, h2, hb⟩
  obtain ⟨A1, c1, rfl, hl1, hc1⟩ := Kd.R_reads h1
  obtain ⟨A2, c2, rfl, hl2, hc2⟩ := Kd.R_reads h2
  obtain ⟨b1, o1, rfl, k1⟩ := C_bools hc1
  obtain ⟨b2, o2, rfl, k2⟩ := C_ints hc2
  exact ⟨b1, o1, c1, b2, o2, c2, he, ⟨hl1, hl2, by simpa [Addr.add] using k1 0 _ rfl, by simpa [Addr.add] using k1 1 _ rfl, by simpa [Addr.add] using k2 0 _ rfl, by simpa [Addr.add] using k2 1 _ rfl⟩, hb⟩
set_option maxHeartbeats 1000000 in
theorem refarm_ok (a : Int) (b1 o1 c1 b2 o2 c2 : Nat) (u0 u1 : Bool) (m0 m1 : Int) (w : World) (ht : Two w b1 o1 c1 b2 o2 c2 u0 u1 m0 m1) (hv : validB a u0 u1 m0 m1 false = true) (ha : 0 ≤ a) :
    Calls Try.prog 17 #[.agg #[.int .i64 a, .slice (some ⟨b1, o1, none⟩) 2 c1, .slice (some ⟨b2, o2, none⟩) 2 c2, .bool false]] w (RTwo a u0 u1 m0 m1 true w) := by
  have T0 := Lib.hid ht
  have HV := Lib.hid (show crossbarref33_Check.f 10 a [u0, u1] [m0, m1] false = some 0 by rw [refCheck_two, if_pos hv])
  have hlt : decide (a < 0) = false := by simp; omega
  clear ht hv
  go_enter Try.func17, Try.ntmps17
  go_wp2_with fail
  obtain ⟨W0, hW0⟩ : ∃ W0, W0 = (w.alloc (.cells #[.int .i64 a, .slice (some ⟨b1, o1, none⟩) 2 c1, .slice (some ⟨b2, o2, none⟩) 2 c2, .bool false] 25)).alloc (.cells #[.int .i64 0, .slice none 0 0, .slice none 0 0, .bool false] 25) := ⟨_, rfl⟩
  rw [← hW0]
  have bW : Below w.heap.size w W0 := by rw [hW0]; exact below_alloc (below_one _ _) _
  have D0 : DBlk W0 w.heap.size a (.slice (some ⟨b1, o1, none⟩) 2 c1) (.slice (some ⟨b2, o2, none⟩) 2 c2) false := by rw [hW0]; exact (DBlk.new w).alloc _
  have Z0 : DBlk W0 (w.heap.size + 1) 0 (.slice none 0 0) (.slice none 0 0) false := by
    rw [hW0]
    have h := DBlk.new0 (w.alloc (.cells #[.int .i64 a, .slice (some ⟨b1, o1, none⟩) 2 c1, .slice (some ⟨b2, o2, none⟩) 2 c2, .bool false] 25))
    rw [show (w.alloc (.cells #[.int .i64 a, .slice (some ⟨b1, o1, none⟩) 2 c1, .slice (some ⟨b2, o2, none⟩) 2 c2, .bool false] 25)).heap.size = w.heap.size + 1 by simp] at h
    exact h
  clear hW0
  refine (crossbarref33_Check.calls 10 a _ _ [u0, u1] _ _ [m0, m1] false 0 _ (T0.out.below bW).C1 T0.out.k1 (T0.out.below bW).C2 T0.out.k2 HV.out).mono ?_
  rintro e W1 ⟨rfl, hb⟩
  have B1 := Lib.hid (bb bW hb)
  have D1 := Lib.hid (D0.below hb)
  have Z1 := Lib.hid (Z0.below hb)
  clear bW D0 Z0 hb
  have d0 := D1.out.c0; have d1 := D1.out.c1; have d2 := D1.out.c2; have d3 := D1.out.c3
  go_wp2_with fail
  clear d0 d1 d2 d3
  refine (armed_copy a _ _ _ _ _ _ false u0 u1 m0 m1 _ (T0.out.below B1.out) T0.out.k1).mono ?_
  rintro e W2 ⟨y1, y2, y3, y4, y5, y6, rfl, t, hb⟩
  have B2 := Lib.hid (bb B1.out hb)
  have Z2 := Lib.hid (Z1.out.below hb)
  have TY := Lib.hid t
  clear t hb
  have q0 := fun o => (Z2.out.alloc o).c0; have q1 := fun o => (Z2.out.alloc o).c1; have q2 := fun o => (Z2.out.alloc o).c2; have q3 := fun o => (Z2.out.alloc o).c3; have qf := fun o => (Z2.out.alloc o).fr
  go_wp2_with fail
  clear q0 q1 q2 q3 qf
  have F3 := (Z2.out.alloc (.cells #[.int .i64 a, .slice (some ⟨y1, y2, none⟩) 2 y3, .slice (some ⟨y4, y5, none⟩) 2 y6, .bool true] 25)).set4 a (.slice (some ⟨y1, y2, none⟩) 2 y3) (.slice (some ⟨y4, y5, none⟩) 2 y6) true
  have r0 := F3.c0; have r1 := F3.c1; have r2 := F3.c2; have r3 := F3.c3
  obtain ⟨ne1, ne2⟩ := TY.out.far Z2.out
  have t := TY.out.below (below_one W2 (.cells #[.int .i64 a, .slice (some ⟨y1, y2, none⟩) 2 y3, .slice (some ⟨y4, y5, none⟩) 2 y6, .bool true] 25))
  refine bodyPost_ret (v := .tuple #[.agg #[.int .i64 a, .slice (some ⟨y1, y2, none⟩) 2 y3, .slice (some ⟨y4, y5, none⟩) 2 y6, .bool true], .int .i64 0]) (by simp [results, Try.results17, go_sem, r0, r1, r2, r3]) rfl ⟨_, _, _, _, _, _, rfl, ?_, ?_⟩
  · exact (((t.set ne1 ne2 _ _).set ne1 ne2 _ _).set ne1 ne2 _ _).set ne1 ne2 _ _
  · exact Below.setCell (Below.setCell (Below.setCell (Below.setCell (below_alloc B2.out _) (by simp) _) (by simp) _) (by simp) _) (by simp) _
set_option maxHeartbeats 1000000 in
theorem refarm_bad (a : Int) (A1 : Option Addr) (c1 : Nat) (l1 : List Bool) (A2 : Option Addr) (c2 : Nat) (l2 : List Int) (r : Bool) (c : Int) (w : World) (hr1 : Kd.C Kd.bool w A1 l1.length l1) (hc1 : l1.length ≤ c1) (hr2 : Kd.C (Kd.int .i64) w A2 l2.length l2) (hc2 : l2.length ≤ c2) (hc : ¬ c = 0) (h : crossbarref33_Check.f 10 a l1 l2 r = some c) :
    Calls Try.prog 17 #[.agg #[.int .i64 a, .slice A1 l1.length c1, .slice A2 l2.length c2, .bool r]] w (RErr c w) := by
  have H1 := Lib.hid hr1; have K1 := Lib.hid hc1; have H2 := Lib.hid hr2; have K2 := Lib.hid hc2
  have HV := Lib.hid h
  have hb0 : (c == 0) = false := by simpa using hc
  have hb1 : (c != 0) = true := by simpa using hc
  clear hr1 hc1 hr2 hc2 h hc
  go_enter Try.func17, Try.ntmps17
  go_wp2_with fail
  obtain ⟨W0, hW0⟩ : ∃ W0, W0 = (w.alloc (.cells #[.int .i64 a, .slice A1 l1.length c1, .slice A2 l2.length c2, .bool r] 25)).alloc (.cells #[.int .i64 0, .slice none 0 0, .slice none 0 0, .bool false] 25) := ⟨_, rfl⟩
  rw [← hW0]
  have bW : Below w.heap.size w W0 := by rw [hW0]; exact below_alloc (below_one _ _) _
  have Z0 : DBlk W0 (w.heap.size + 1) 0 (.slice none 0 0) (.slice none 0 0) false := by
    rw [hW0]
    have h := DBlk.new0 (w.alloc (.cells #[.int .i64 a, .slice A1 l1.length c1, .slice A2 l2.length c2, .bool r] 25))
    rw [show (w.alloc (.cells #[.int .i64 a, .slice A1 l1.length c1, .slice A2 l2.length c2, .bool r] 25)).heap.size = w.heap.size + 1 by simp] at h
    exact h
  clear hW0
  refine (crossbarref33_Check.calls 10 a _ _ l1 _ _ l2 r c _ (Kd.C_below H1.out bW) K1.out (Kd.C_below H2.out bW) K2.out HV.out).mono ?_
  rintro e W1 ⟨rfl, hb⟩
  have B1 := Lib.hid (bb bW hb)
  have Z1 := Lib.hid (Z0.below hb)
  clear bW Z0 hb
  have q0 := Z1.out.c0; have q1 := Z1.out.c1; have q2 := Z1.out.c2; have q3 := Z1.out.c3; have qf := Z1.out.fr
  go_wp2_with fail
  clear q0 q1 q2 q3 qf
  have F3 := Z1.out.set4 0 (.slice none 0 0) (.slice none 0 0) false
  have r0 := F3.c0; have r1 := F3.c1; have r2 := F3.c2; have r3 := F3.c3
  refine bodyPost_ret (v := .tuple #[.agg #[.int .i64 0, .slice none 0 0, .slice none 0 0, .bool false], .int .i64 c]) (by simp [results, Try.results17, go_sem, r0, r1, r2, r3]) rfl ⟨none, 0, none, 0, rfl, ?_⟩
  exact Below.setCell (Below.setCell (Below.setCell (Below.setCell B1.out (by simp) _) (by simp) _) (by simp) _) (by simp) _
set_option maxHeartbeats 1000000 in
theorem refarm_down (a : Int) (b1 o1 c1 b2 o2 c2 : Nat) (r : Bool) (u0 u1 : Bool) (m0 m1 : Int) (w : World) (ht : Two w b1 o1 c1 b2 o2 c2 u0 u1 m0 m1) (hv : validB a u0 u1 m0 m1 r = true) (ha : a < 0) :
    Calls Try.prog 17 #[.agg #[.int .i64 a, .slice (some ⟨b1, o1, none⟩) 2 c1, .slice (some ⟨b2, o2, none⟩) 2 c2, .bool r]] w (RErr 330 w) := by
  have T0 := Lib.hid ht
  have HV := Lib.hid (show crossbarref33_Check.f 10 a [u0, u1] [m0, m1] r = some 0 by rw [refCheck_two, if_pos hv])
  have hlt : decide (a < 0) = true := by simpa using ha
  clear ha
  clear ht hv
  go_enter Try.func17, Try.ntmps17
  go_wp2_with fail
  obtain ⟨W0, hW0⟩ : ∃ W0, W0 = (w.alloc (.cells #[.int .i64 a, .slice (some ⟨b1, o1, none⟩) 2 c1, .slice (some ⟨b2, o2, none⟩) 2 c2, .bool r] 25)).alloc (.cells #[.int .i64 0, .slice none 0 0, .slice none 0 0, .bool false] 25) := ⟨_, rfl⟩
  rw [← hW0]
  have bW : Below w.heap.size w W0 := by rw [hW0]; exact below_alloc (below_one _ _) _
  have D0 : DBlk W0 w.heap.size a (.slice (some ⟨b1, o1, none⟩) 2 c1) (.slice (some ⟨b2, o2, none⟩) 2 c2) r := by rw [hW0]; exact (DBlk.new w).alloc _
  have Z0 : DBlk W0 (w.heap.size + 1) 0 (.slice none 0 0) (.slice none 0 0) false := by
    rw [hW0]
    have h := DBlk.new0 (w.alloc (.cells #[.int .i64 a, .slice (some ⟨b1, o1, none⟩) 2 c1, .slice (some ⟨b2, o2, none⟩) 2 c2, .bool r] 25))
    rw [show (w.alloc (.cells #[.int .i64 a, .slice (some ⟨b1, o1, none⟩) 2 c1, .slice (some ⟨b2, o2, none⟩) 2 c2, .bool r] 25)).heap.size = w.heap.size + 1 by simp] at h
    exact h
  clear hW0
  refine (crossbarref33_Check.calls 10 a _ _ [u0, u1] _ _ [m0, m1] r 0 _ (T0.out.below bW).C1 T0.out.k1 (T0.out.below bW).C2 T0.out.k2 HV.out).mono ?_
  rintro e W1 ⟨rfl, hb⟩
  have B1 := Lib.hid (bb bW hb)
  have D1 := Lib.hid (D0.below hb)
  have Z1 := Lib.hid (Z0.below hb)
  clear bW D0 Z0 hb
  have d0 := D1.out.c0; have d1 := D1.out.c1; have d2 := D1.out.c2; have d3 := D1.out.c3
  have q0 := Z1.out.c0; have q1 := Z1.out.c1; have q2 := Z1.out.c2; have q3 := Z1.out.c3; have qf := Z1.out.fr
  go_wp2_with fail
  clear q0 q1 q2 q3 qf
  have F3 := Z1.out.set4 0 (.slice none 0 0) (.slice none 0 0) false
  have r0 := F3.c0; have r1 := F3.c1; have r2 := F3.c2; have r3 := F3.c3
  refine bodyPost_ret (v := .tuple #[.agg #[.int .i64 0, .slice none 0 0, .slice none 0 0, .bool false], .int .i64 330]) (by simp [results, Try.results17, go_sem, r0, r1, r2, r3]) rfl ⟨none, 0, none, 0, rfl, ?_⟩
  exact Below.setCell (Below.setCell (Below.setCell (Below.setCell B1.out (by simp) _) (by simp) _) (by simp) _) (by simp) _
set_option maxHeartbeats 1000000 in
theorem refarm_armed (a : Int) (b1 o1 c1 b2 o2 c2 : Nat) (u0 u1 : Bool) (m0 m1 : Int) (w : World) (ht : Two w b1 o1 c1 b2 o2 c2 u0 u1 m0 m1) (hv : validB a u0 u1 m0 m1 true = true) (ha : 0 ≤ a) :
    Calls Try.prog 17 #[.agg #[.int .i64 a, .slice (some ⟨b1, o1, none⟩) 2 c1, .slice (some ⟨b2, o2, none⟩) 2 c2, .bool true]] w (RErr 330 w) := by
  have T0 := Lib.hid ht
  have HV := Lib.hid (show crossbarref33_Check.f 10 a [u0, u1] [m0, m1] true = some 0 by rw [refCheck_two, if_pos hv])
  have hlt : decide (a < 0) = false := by simp; omega
  clear ha
  clear ht hv
  go_enter Try.func17, Try.ntmps17
  go_wp2_with fail
  obtain ⟨W0, hW0⟩ : ∃ W0, W0 = (w.alloc (.cells #[.int .i64 a, .slice (some ⟨b1, o1, none⟩) 2 c1, .slice (some ⟨b2, o2, none⟩) 2 c2, .bool true] 25)).alloc (.cells #[.int .i64 0, .slice none 0 0, .slice none 0 0, .bool false] 25) := ⟨_, rfl⟩
  rw [← hW0]
  have bW : Below w.heap.size w W0 := by rw [hW0]; exact below_alloc (below_one _ _) _
  have D0 : DBlk W0 w.heap.size a (.slice (some ⟨b1, o1, none⟩) 2 c1) (.slice (some ⟨b2, o2, none⟩) 2 c2) true := by rw [hW0]; exact (DBlk.new w).alloc _
  have Z0 : DBlk W0 (w.heap.size + 1) 0 (.slice none 0 0) (.slice none 0 0) false := by
    rw [hW0]
    have h := DBlk.new0 (w.alloc (.cells #[.int .i64 a, .slice (some ⟨b1, o1, none⟩) 2 c1, .slice (some ⟨b2, o2, none⟩) 2 c2, .bool true] 25))
    rw [show (w.alloc (.cells #[.int .i64 a, .slice (some ⟨b1, o1, none⟩) 2 c1, .slice (some ⟨b2, o2, none⟩) 2 c2, .bool true] 25)).heap.size = w.heap.size + 1 by simp] at h
    exact h
  clear hW0
  refine (crossbarref33_Check.calls 10 a _ _ [u0, u1] _ _ [m0, m1] true 0 _ (T0.out.below bW).C1 T0.out.k1 (T0.out.below bW).C2 T0.out.k2 HV.out).mono ?_
  rintro e W1 ⟨rfl, hb⟩
  have B1 := Lib.hid (bb bW hb)
  have D1 := Lib.hid (D0.below hb)
  have Z1 := Lib.hid (Z0.below hb)
  clear bW D0 Z0 hb
  have d0 := D1.out.c0; have d1 := D1.out.c1; have d2 := D1.out.c2; have d3 := D1.out.c3
  have q0 := Z1.out.c0; have q1 := Z1.out.c1; have q2 := Z1.out.c2; have q3 := Z1.out.c3; have qf := Z1.out.fr
  go_wp2_with fail
  clear q0 q1 q2 q3 qf
  have F3 := Z1.out.set4 0 (.slice none 0 0) (.slice none 0 0) false
  have r0 := F3.c0; have r1 := F3.c1; have r2 := F3.c2; have r3 := F3.c3
  refine bodyPost_ret (v := .tuple #[.agg #[.int .i64 0, .slice none 0 0, .slice none 0 0, .bool false], .int .i64 330]) (by simp [results, Try.results17, go_sem, r0, r1, r2, r3]) rfl ⟨none, 0, none, 0, rfl, ?_⟩
  exact Below.setCell (Below.setCell (Below.setCell (Below.setCell B1.out (by simp) _) (by simp) _) (by simp) _) (by simp) _

theorem mirror_any {f : Option (Int × List Bool × List Int × Bool × Int)} {n : Nat} {args : Array Value} {w : World}
    (h : ∀ r1 r2 r3 r4 r5, f = some (r1, r2, r3, r4, r5) → Calls Try.prog n args w fun e w' => ∃ v1_ v2_ : Value, e = .returned (.tuple #[.agg #[.int .i64 r1, v1_, v2_, .bool r4], .int .i64 r5]) ∧ Kd.V Kd.bool 4 w' w.heap.size (fun k_ => (w.heap.size ≤ k_)) v1_ r2 ∧ Kd.V (Kd.int .i64) 3 w' w.heap.size (fun k_ => (w.heap.size ≤ k_)) v2_ r3 ∧ Below w.heap.size w w')
    {r1 : Int} {r2 : List Bool} {r3 : List Int} {r4 : Bool} {r5 : Int} (hf : f = some (r1, r2, r3, r4, r5)) : Calls Try.prog n args w (RAny r1 r2 r3 r4 r5 w) := by
  refine (h r1 r2 r3 r4 r5 hf).mono ?_
  rintro e w' ⟨v1, v2, rfl, ⟨A1, k1, rfl, hl1, hf1⟩, ⟨A2, k2, rfl, hl2, hf2⟩, hb⟩
  exact ⟨A1, k1, A2, k2, rfl, hl1, hl2, Kd.F_now hf1, Kd.F_now hf2, hb⟩
theorem ref_any {f : Option (Int × List Bool × List Int × Bool × Int)} {n : Nat} {args : Array Value} {w : World}
    (h : ∀ r1 r2 r3 r4 r5, f = some (r1, r2, r3, r4, r5) → Calls Try.prog n args w fun e w' => ∃ v1_ v2_ : Value, e = .returned (.tuple #[.agg #[.int .i64 r1, v1_, v2_, .bool r4], .int .i64 r5]) ∧ Kd.R Kd.bool 4 w' w.heap.size (fun _ => True) v1_ r2 ∧ Kd.R (Kd.int .i64) 3 w' w.heap.size (fun _ => True) v2_ r3 ∧ Below w.heap.size w w')
    {r1 : Int} {r2 : List Bool} {r3 : List Int} {r4 : Bool} {r5 : Int} (hf : f = some (r1, r2, r3, r4, r5)) : Calls Try.prog n args w (RAny r1 r2 r3 r4 r5 w) := by
  refine (h r1 r2 r3 r4 r5 hf).mono ?_
  rintro e w' ⟨v1, v2, rfl, h1, h2, hb⟩
  obtain ⟨A1, c1, rfl, hl1, hc1⟩ := Kd.R_reads h1
  obtain ⟨A2, c2, rfl, hl2, hc2⟩ := Kd.R_reads h2
  exact ⟨A1, c1, A2, c2, rfl, hl1, hl2, hc1, hc2, hb⟩
