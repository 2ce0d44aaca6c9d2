import Derived.Test.YtfjboaanpiceaaaL9
namespace Go.Proofs.Ytfjboaanpiceaaa.P
open Go.RowKit Go.Proofs.YtfjboaanpiceaaaW.PrintWords Go.Proofs.YtfjboaanpiceaaaW.PrintLast Go.Proofs.YtfjboaanpiceaaaW.PrintMore
set_option linter.unusedVariables false
set_option linter.unusedSimpArgs false
set_option linter.unusedVariables false
set_option linter.unusedSimpArgs false

def STwo (a : Int) (u0 u1 : Bool) (m0 m1 : Int) (r d : Bool) (c : Int) (w : World) (e : Ending) (w' : World) : Prop := ∃ b1 o1 c1 b2 o2 c2, e = .returned (.tuple #[.agg #[.int .i64 a, .slice (some ⟨b1, o1, none⟩) 2 c1, .slice (some ⟨b2, o2, none⟩) 2 c2, .bool r], .bool d, .int .i64 c]) ∧ Two w' b1 o1 c1 b2 o2 c2 u0 u1 m0 m1 ∧ Below w.heap.size w w'
def OBlk (w : World) (g : Nat) (k p : Int) : Prop := w.heap[g]? = some (.cells #[.int .i64 k, .int .i64 p] 41 (0, 0))
section
variable {w w' : World} {g : Nat} {k p : Int}
theorem OBlk.lt (h : OBlk w g k p) : g < w.heap.size := by
  by_cases hlt : g < w.heap.size
  · exact hlt
  · unfold OBlk at h; rw [Array.getElem?_eq_none (by omega)] at h; cases h
theorem OBlk.c0 (h : OBlk w g k p) : w.cell? ⟨g, 0, none⟩ = some (.int .i64 k) := (cell_of_row w g 0 _ 41 (0, 0) h).trans rfl
theorem OBlk.c1 (h : OBlk w g k p) : w.cell? ⟨g, 1, none⟩ = some (.int .i64 p) := (cell_of_row w g 1 _ 41 (0, 0) h).trans rfl
theorem OBlk.below (h : OBlk w g k p) (hb : Below w.heap.size w w') : OBlk w' g k p := (hb.block g h.lt).trans h
theorem OBlk.new (w : World) : OBlk (w.alloc (.cells #[.int .i64 k, .int .i64 p] 41)) w.heap.size k p := heap_alloc_new w _
end
/-- What stands in memory while a step runs. -/
structure Fr (w W : World) (a : Int) (s1 s2 : Value) (r : Bool) (k p : Int) (a' : Int) (t1 t2 : Value) (r' : Bool) : Prop where
  d : DBlk W w.heap.size a s1 s2 r
  o : OBlk W (w.heap.size + 1) k p
  z : DBlk W (w.heap.size + 1 + 1) 0 (.slice none 0 0) (.slice none 0 0) false
  x : DBlk W (w.heap.size + 1 + 1 + 1) a' t1 t2 r'
  b : Below w.heap.size w W
theorem Fr.below {w W W' : World} {a : Int} {s1 s2 : Value} {r : Bool} {k p : Int} {a' : Int} {t1 t2 : Value} {r' : Bool} (h : Fr w W a s1 s2 r k p a' t1 t2 r') (hb : Below W.heap.size W W') : Fr w W' a s1 s2 r k p a' t1 t2 r' :=
  ⟨h.d.below hb, h.o.below hb, h.z.below hb, h.x.below hb, bb h.b hb⟩
theorem Fr.new {w : World} {a : Int} {s1 s2 : Value} {r : Bool} {k p : Int} :
    Fr w ((((w.alloc (.cells #[.int .i64 a, s1, s2, .bool r] 25)).alloc (.cells #[.int .i64 k, .int .i64 p] 41)).alloc (.cells #[.int .i64 0, .slice none 0 0, .slice none 0 0, .bool false] 25)).alloc (.cells #[.int .i64 a, s1, s2, .bool r] 25)) a s1 s2 r k p a s1 s2 r := by
  have e1 : (w.alloc (.cells #[.int .i64 a, s1, s2, .bool r] 25)).heap.size = w.heap.size + 1 := by simp
  have e2 : ((w.alloc (.cells #[.int .i64 a, s1, s2, .bool r] 25)).alloc (.cells #[.int .i64 k, .int .i64 p] 41)).heap.size = w.heap.size + 1 + 1 := by simp
  have e3 : (((w.alloc (.cells #[.int .i64 a, s1, s2, .bool r] 25)).alloc (.cells #[.int .i64 k, .int .i64 p] 41)).alloc (.cells #[.int .i64 0, .slice none 0 0, .slice none 0 0, .bool false] 25)).heap.size = w.heap.size + 1 + 1 + 1 := by simp
  refine ⟨(((DBlk.new w).alloc _).alloc _).alloc _, ?_, ?_, ?_, below_alloc (below_alloc (below_alloc (below_one _ _) _) _) _⟩
  · have h := OBlk.new (k := k) (p := p) (w.alloc (.cells #[.int .i64 a, s1, s2, .bool r] 25))
    rw [e1] at h
    exact (h.below (below_one _ _)).below (below_one _ _)
  · have h := DBlk.new0 ((w.alloc (.cells #[.int .i64 a, s1, s2, .bool r] 25)).alloc (.cells #[.int .i64 k, .int .i64 p] 41))
    rw [e2] at h
    exact h.alloc _
  · have h := DBlk.new (a := a) (s1 := s1) (s2 := s2) (r := r) (((w.alloc (.cells #[.int .i64 a, s1, s2, .bool r] 25)).alloc (.cells #[.int .i64 k, .int .i64 p] 41)).alloc (.cells #[.int .i64 0, .slice none 0 0, .slice none 0 0, .bool false] 25))
    rw [e3] at h
    exact h
theorem Fr.set {w W : World} {a : Int} {s1 s2 : Value} {r : Bool} {k p : Int} {a' : Int} {t1 t2 : Value} {r' : Bool} (h : Fr w W a s1 s2 r k p a' t1 t2 r') (a2 : Int) (q1 q2 : Value) (r2 : Bool) :
    Fr w ((((W.setCell ⟨w.heap.size + 1 + 1 + 1, 0, none⟩ (.int .i64 a2)).setCell ⟨w.heap.size + 1 + 1 + 1, 1, none⟩ q1).setCell ⟨w.heap.size + 1 + 1 + 1, 2, none⟩ q2).setCell ⟨w.heap.size + 1 + 1 + 1, 3, none⟩ (.bool r2)) a s1 s2 r k p a2 q1 q2 r2 := by
  refine ⟨?_, ?_, ?_, h.x.set4 _ _ _ _, Below.setCell (Below.setCell (Below.setCell (Below.setCell h.b (by simp; omega) _) (by simp; omega) _) (by simp; omega) _) (by simp; omega) _⟩
  · exact (((h.d.far (by simp; omega) _).far (by simp; omega) _).far (by simp; omega) _).far (by simp; omega) _
  · unfold OBlk
    rw [Below.heap_setCell _ _ _ _ (by simp), Below.heap_setCell _ _ _ _ (by simp), Below.heap_setCell _ _ _ _ (by simp), Below.heap_setCell _ _ _ _ (by simp)]
    exact h.o
  · exact (((h.z.far (by simp) _).far (by simp) _).far (by simp) _).far (by simp) _

set_option maxHeartbeats 1000000 in
theorem step_apply_ok (a : Int) (b1 o1 c1 b2 o2 c2 : Nat) (r u0 u1 : Bool) (m0 m1 : Int) (p : Int) (a' : Int) (v0 v1 : Bool) (n0 n1 : Int) (r' : Bool) (w : World) (ht : Two w b1 o1 c1 b2 o2 c2 u0 u1 m0 m1) (h : applyF a [u0, u1] [m0, m1] r = some (a', [v0, v1], [n0, n1], r', 0)) :
    Calls Try.prog 25 #[.agg #[.int .i64 a, .slice (some ⟨b1, o1, none⟩) 2 c1, .slice (some ⟨b2, o2, none⟩) 2 c2, .bool r], .agg #[.int .i64 0, .int .i64 p]] w (STwo a' v0 v1 n0 n1 r' (!r) 0 w) := by
  have T0 := Lib.hid ht
  have HA := Lib.hid h
  clear ht h
  go_enter Try.func25, Try.ntmps25
  go_wp2_with fail
  have F := Lib.hid (Fr.new (w := w) (a := a) (s1 := .slice (some ⟨b1, o1, none⟩) 2 c1) (s2 := .slice (some ⟨b2, o2, none⟩) 2 c2) (r := r) (k := 0) (p := p))
  revert F
  generalize ((((w.alloc _).alloc _).alloc _).alloc _) = W0
  intro F
  refine (apply_two a _ _ _ _ _ _ r u0 u1 m0 m1 a' v0 v1 n0 n1 r' _ (T0.out.below F.out.b) HA.out).mono ?_
  rintro e W1 ⟨x1, x2, x3, x4, x5, x6, rfl, t, hb⟩
  have TY := Lib.hid t
  clear t
  replace F := Lib.hid (F.out.below hb)
  have B1 := Lib.hid F.out.b
  clear hb
  generalize hq : (!r) = dd
  have HQ := Lib.hid hq
  clear hq
  have f0 := F.out.x.fr
  have x0' := F.out.x.c0; have x1' := F.out.x.c1; have x2' := F.out.x.c2; have x3' := F.out.x.c3
  have F2 := Lib.hid (F.out.set (a') (.slice (some ⟨x1, x2, none⟩) 2 x3) (.slice (some ⟨x4, x5, none⟩) 2 x6) r')
  have g0 := F2.out.z.fr
  have z0 := F2.out.z.c0; have z1 := F2.out.z.c1; have z2 := F2.out.z.c2; have z3 := F2.out.z.c3
  have y0 := F2.out.x.c0; have y1 := F2.out.x.c1; have y2 := F2.out.x.c2; have y3 := F2.out.x.c3
  go_wp2_with fail
  clear f0 x0' x1' x2' x3' g0 z0 z1 z2 z3 y0 y1 y2 y3
  have F3 := F2.out.z.set4 a' (.slice (some ⟨x1, x2, none⟩) 2 x3) (.slice (some ⟨x4, x5, none⟩) 2 x6) r'
  have r0 := F3.c0; have r1 := F3.c1; have r2 := F3.c2; have r3 := F3.c3
  obtain ⟨ne1, ne2⟩ := (TY.out).far F.out.x
  obtain ⟨ne3, ne4⟩ := (TY.out).far F.out.z
  refine bodyPost_ret (v := (.tuple #[.agg #[.int .i64 a', .slice (some ⟨x1, x2, none⟩) 2 x3, .slice (some ⟨x4, x5, none⟩) 2 x6, .bool r'], .bool dd, .int .i64 0])) (by simp [results, Try.results25, go_sem, r0, r1, r2, r3]) rfl ⟨_, _, _, _, _, _, by rw [HQ.out], ?_, ?_⟩
  · exact (((((((TY.out.set ne1 ne2 _ _).set ne1 ne2 _ _).set ne1 ne2 _ _).set ne1 ne2 _ _).set ne3 ne4 _ _).set ne3 ne4 _ _).set ne3 ne4 _ _).set ne3 ne4 _ _
  · exact Below.setCell (Below.setCell (Below.setCell (Below.setCell F2.out.b (by simp; omega) _) (by simp; omega) _) (by simp; omega) _) (by simp; omega) _

set_option maxHeartbeats 1000000 in
theorem step_apply_err (a : Int) (b1 o1 c1 b2 o2 c2 : Nat) (r u0 u1 : Bool) (m0 m1 : Int) (p : Int) (c : Int) (hc : ¬ c = 0) (w : World) (ht : Two w b1 o1 c1 b2 o2 c2 u0 u1 m0 m1) (h : applyF a [u0, u1] [m0, m1] r = some (0, [], [], false, c)) :
    Calls Try.prog 25 #[.agg #[.int .i64 a, .slice (some ⟨b1, o1, none⟩) 2 c1, .slice (some ⟨b2, o2, none⟩) 2 c2, .bool r], .agg #[.int .i64 0, .int .i64 p]] w (STwo a u0 u1 m0 m1 r false c w) := by
  have T0 := Lib.hid ht
  have HA := Lib.hid h
  clear ht h
  have HC := Lib.hid hc
  have hb0 : (c == 0) = false := by simpa using hc
  have hb1 : (c != 0) = true := by simpa using hc
  clear hc
  go_enter Try.func25, Try.ntmps25
  go_wp2_with fail
  have F := Lib.hid (Fr.new (w := w) (a := a) (s1 := .slice (some ⟨b1, o1, none⟩) 2 c1) (s2 := .slice (some ⟨b2, o2, none⟩) 2 c2) (r := r) (k := 0) (p := p))
  revert F
  generalize ((((w.alloc _).alloc _).alloc _).alloc _) = W0
  intro F
  refine (apply_err a _ _ [u0, u1] _ _ [m0, m1] r c _ (T0.out.below F.out.b).C1 T0.out.k1 (T0.out.below F.out.b).C2 T0.out.k2 HC.out HA.out).mono ?_
  rintro e W1 ⟨xA, xk, xB, xl, rfl, hb⟩
  replace F := Lib.hid (F.out.below hb)
  have B1 := Lib.hid F.out.b
  clear hb
  have f0 := F.out.x.fr
  have x0' := F.out.x.c0; have x1' := F.out.x.c1; have x2' := F.out.x.c2; have x3' := F.out.x.c3
  have F2 := Lib.hid (F.out.set (0) (.slice xA 0 xk) (.slice xB 0 xl) false)
  have g0 := F2.out.z.fr
  have z0 := F2.out.z.c0; have z1 := F2.out.z.c1; have z2 := F2.out.z.c2; have z3 := F2.out.z.c3
  have y0 := F2.out.d.c0; have y1 := F2.out.d.c1; have y2 := F2.out.d.c2; have y3 := F2.out.d.c3
  go_wp2_with fail
  clear f0 x0' x1' x2' x3' g0 z0 z1 z2 z3 y0 y1 y2 y3
  have F3 := F2.out.z.set4 a (.slice (some ⟨b1, o1, none⟩) 2 c1) (.slice (some ⟨b2, o2, none⟩) 2 c2) r
  have r0 := F3.c0; have r1 := F3.c1; have r2 := F3.c2; have r3 := F3.c3
  obtain ⟨ne1, ne2⟩ := (T0.out.below B1.out).far F.out.x
  obtain ⟨ne3, ne4⟩ := (T0.out.below B1.out).far F.out.z
  refine bodyPost_ret (v := (.tuple #[.agg #[.int .i64 a, .slice (some ⟨b1, o1, none⟩) 2 c1, .slice (some ⟨b2, o2, none⟩) 2 c2, .bool r], .bool false, .int .i64 c])) (by simp [results, Try.results25, go_sem, r0, r1, r2, r3]) rfl ⟨_, _, _, _, _, _, rfl, ?_, ?_⟩
  · exact ((((((((T0.out.below B1.out).set ne1 ne2 _ _).set ne1 ne2 _ _).set ne1 ne2 _ _).set ne1 ne2 _ _).set ne3 ne4 _ _).set ne3 ne4 _ _).set ne3 ne4 _ _).set ne3 ne4 _ _
  · exact Below.setCell (Below.setCell (Below.setCell (Below.setCell F2.out.b (by simp; omega) _) (by simp; omega) _) (by simp; omega) _) (by simp; omega) _

set_option maxHeartbeats 1000000 in
theorem step_crash_ok (a : Int) (b1 o1 c1 b2 o2 c2 : Nat) (r u0 u1 : Bool) (m0 m1 : Int) (p : Int) (a' : Int) (v0 v1 : Bool) (n0 n1 : Int) (r' : Bool) (w : World) (ht : Two w b1 o1 c1 b2 o2 c2 u0 u1 m0 m1) (h : mirror_Crash.f a [u0, u1] [m0, m1] r p = some (a', [v0, v1], [n0, n1], r', 0)) :
    Calls Try.prog 25 #[.agg #[.int .i64 a, .slice (some ⟨b1, o1, none⟩) 2 c1, .slice (some ⟨b2, o2, none⟩) 2 c2, .bool r], .agg #[.int .i64 1, .int .i64 p]] w (STwo a' v0 v1 n0 n1 r' false 0 w) := by
  have T0 := Lib.hid ht
  have HA := Lib.hid h
  clear ht h
  go_enter Try.func25, Try.ntmps25
  go_wp2_with fail
  have F := Lib.hid (Fr.new (w := w) (a := a) (s1 := .slice (some ⟨b1, o1, none⟩) 2 c1) (s2 := .slice (some ⟨b2, o2, none⟩) 2 c2) (r := r) (k := 1) (p := p))
  revert F
  generalize ((((w.alloc _).alloc _).alloc _).alloc _) = W0
  intro F
  refine (crash_two a _ _ _ _ _ _ r u0 u1 m0 m1 p a' v0 v1 n0 n1 r' _ (T0.out.below F.out.b) HA.out).mono ?_
  rintro e W1 ⟨x1, x2, x3, x4, x5, x6, rfl, t, hb⟩
  have TY := Lib.hid t
  clear t
  replace F := Lib.hid (F.out.below hb)
  have B1 := Lib.hid F.out.b
  clear hb
  have f0 := F.out.x.fr
  have x0' := F.out.x.c0; have x1' := F.out.x.c1; have x2' := F.out.x.c2; have x3' := F.out.x.c3
  have F2 := Lib.hid (F.out.set (a') (.slice (some ⟨x1, x2, none⟩) 2 x3) (.slice (some ⟨x4, x5, none⟩) 2 x6) r')
  have g0 := F2.out.z.fr
  have z0 := F2.out.z.c0; have z1 := F2.out.z.c1; have z2 := F2.out.z.c2; have z3 := F2.out.z.c3
  have y0 := F2.out.x.c0; have y1 := F2.out.x.c1; have y2 := F2.out.x.c2; have y3 := F2.out.x.c3
  go_wp2_with fail
  clear f0 x0' x1' x2' x3' g0 z0 z1 z2 z3 y0 y1 y2 y3
  have F3 := F2.out.z.set4 a' (.slice (some ⟨x1, x2, none⟩) 2 x3) (.slice (some ⟨x4, x5, none⟩) 2 x6) r'
  have r0 := F3.c0; have r1 := F3.c1; have r2 := F3.c2; have r3 := F3.c3
  obtain ⟨ne1, ne2⟩ := (TY.out).far F.out.x
  obtain ⟨ne3, ne4⟩ := (TY.out).far F.out.z
  refine bodyPost_ret (v := (.tuple #[.agg #[.int .i64 a', .slice (some ⟨x1, x2, none⟩) 2 x3, .slice (some ⟨x4, x5, none⟩) 2 x6, .bool r'], .bool false, .int .i64 0])) (by simp [results, Try.results25, go_sem, r0, r1, r2, r3]) rfl ⟨_, _, _, _, _, _, rfl, ?_, ?_⟩
  · exact (((((((TY.out.set ne1 ne2 _ _).set ne1 ne2 _ _).set ne1 ne2 _ _).set ne1 ne2 _ _).set ne3 ne4 _ _).set ne3 ne4 _ _).set ne3 ne4 _ _).set ne3 ne4 _ _
  · exact Below.setCell (Below.setCell (Below.setCell (Below.setCell F2.out.b (by simp; omega) _) (by simp; omega) _) (by simp; omega) _) (by simp; omega) _

set_option maxHeartbeats 1000000 in
theorem step_crash_err (a : Int) (b1 o1 c1 b2 o2 c2 : Nat) (r u0 u1 : Bool) (m0 m1 : Int) (p : Int) (c : Int) (hc : ¬ c = 0) (w : World) (ht : Two w b1 o1 c1 b2 o2 c2 u0 u1 m0 m1) (h : mirror_Crash.f a [u0, u1] [m0, m1] r p = some (0, [], [], false, c)) :
    Calls Try.prog 25 #[.agg #[.int .i64 a, .slice (some ⟨b1, o1, none⟩) 2 c1, .slice (some ⟨b2, o2, none⟩) 2 c2, .bool r], .agg #[.int .i64 1, .int .i64 p]] w (STwo a u0 u1 m0 m1 r false c w) := by
  have T0 := Lib.hid ht
  have HA := Lib.hid h
  clear ht h
  have HC := Lib.hid hc
  have hb0 : (c == 0) = false := by simpa using hc
  have hb1 : (c != 0) = true := by simpa using hc
  clear hc
  go_enter Try.func25, Try.ntmps25
  go_wp2_with fail
  have F := Lib.hid (Fr.new (w := w) (a := a) (s1 := .slice (some ⟨b1, o1, none⟩) 2 c1) (s2 := .slice (some ⟨b2, o2, none⟩) 2 c2) (r := r) (k := 1) (p := p))
  revert F
  generalize ((((w.alloc _).alloc _).alloc _).alloc _) = W0
  intro F
  refine (crash_err a _ _ [u0, u1] _ _ [m0, m1] r p c _ (T0.out.below F.out.b).C1 T0.out.k1 (T0.out.below F.out.b).C2 T0.out.k2 HC.out HA.out).mono ?_
  rintro e W1 ⟨xA, xk, xB, xl, rfl, hb⟩
  replace F := Lib.hid (F.out.below hb)
  have B1 := Lib.hid F.out.b
  clear hb
  have f0 := F.out.x.fr
  have x0' := F.out.x.c0; have x1' := F.out.x.c1; have x2' := F.out.x.c2; have x3' := F.out.x.c3
  have F2 := Lib.hid (F.out.set (0) (.slice xA 0 xk) (.slice xB 0 xl) false)
  have g0 := F2.out.z.fr
  have z0 := F2.out.z.c0; have z1 := F2.out.z.c1; have z2 := F2.out.z.c2; have z3 := F2.out.z.c3
  have y0 := F2.out.d.c0; have y1 := F2.out.d.c1; have y2 := F2.out.d.c2; have y3 := F2.out.d.c3
  go_wp2_with fail
  clear f0 x0' x1' x2' x3' g0 z0 z1 z2 z3 y0 y1 y2 y3
  have F3 := F2.out.z.set4 a (.slice (some ⟨b1, o1, none⟩) 2 c1) (.slice (some ⟨b2, o2, none⟩) 2 c2) r
  have r0 := F3.c0; have r1 := F3.c1; have r2 := F3.c2; have r3 := F3.c3
  obtain ⟨ne1, ne2⟩ := (T0.out.below B1.out).far F.out.x
  obtain ⟨ne3, ne4⟩ := (T0.out.below B1.out).far F.out.z
  refine bodyPost_ret (v := (.tuple #[.agg #[.int .i64 a, .slice (some ⟨b1, o1, none⟩) 2 c1, .slice (some ⟨b2, o2, none⟩) 2 c2, .bool r], .bool false, .int .i64 c])) (by simp [results, Try.results25, go_sem, r0, r1, r2, r3]) rfl ⟨_, _, _, _, _, _, rfl, ?_, ?_⟩
  · exact ((((((((T0.out.below B1.out).set ne1 ne2 _ _).set ne1 ne2 _ _).set ne1 ne2 _ _).set ne1 ne2 _ _).set ne3 ne4 _ _).set ne3 ne4 _ _).set ne3 ne4 _ _).set ne3 ne4 _ _
  · exact Below.setCell (Below.setCell (Below.setCell (Below.setCell F2.out.b (by simp; omega) _) (by simp; omega) _) (by simp; omega) _) (by simp; omega) _

set_option maxHeartbeats 1000000 in
theorem step_arm_ok (a : Int) (b1 o1 c1 b2 o2 c2 : Nat) (r u0 u1 : Bool) (m0 m1 : Int) (p : Int) (a' : Int) (v0 v1 : Bool) (n0 n1 : Int) (r' : Bool) (w : World) (ht : Two w b1 o1 c1 b2 o2 c2 u0 u1 m0 m1) (h : mirror_Arm.f a [u0, u1] [m0, m1] r = some (a', [v0, v1], [n0, n1], r', 0)) :
    Calls Try.prog 25 #[.agg #[.int .i64 a, .slice (some ⟨b1, o1, none⟩) 2 c1, .slice (some ⟨b2, o2, none⟩) 2 c2, .bool r], .agg #[.int .i64 2, .int .i64 p]] w (STwo a' v0 v1 n0 n1 r' false 0 w) := by
  have T0 := Lib.hid ht
  have HA := Lib.hid h
  clear ht h
  go_enter Try.func25, Try.ntmps25
  go_wp2_with fail
  have F := Lib.hid (Fr.new (w := w) (a := a) (s1 := .slice (some ⟨b1, o1, none⟩) 2 c1) (s2 := .slice (some ⟨b2, o2, none⟩) 2 c2) (r := r) (k := 2) (p := p))
  revert F
  generalize ((((w.alloc _).alloc _).alloc _).alloc _) = W0
  intro F
  refine (arm_two a _ _ _ _ _ _ r u0 u1 m0 m1 a' v0 v1 n0 n1 r' _ (T0.out.below F.out.b) HA.out).mono ?_
  rintro e W1 ⟨x1, x2, x3, x4, x5, x6, rfl, t, hb⟩
  have TY := Lib.hid t
  clear t
  replace F := Lib.hid (F.out.below hb)
  have B1 := Lib.hid F.out.b
  clear hb
  have f0 := F.out.x.fr
  have x0' := F.out.x.c0; have x1' := F.out.x.c1; have x2' := F.out.x.c2; have x3' := F.out.x.c3
  have F2 := Lib.hid (F.out.set (a') (.slice (some ⟨x1, x2, none⟩) 2 x3) (.slice (some ⟨x4, x5, none⟩) 2 x6) r')
  have g0 := F2.out.z.fr
  have z0 := F2.out.z.c0; have z1 := F2.out.z.c1; have z2 := F2.out.z.c2; have z3 := F2.out.z.c3
  have y0 := F2.out.x.c0; have y1 := F2.out.x.c1; have y2 := F2.out.x.c2; have y3 := F2.out.x.c3
  go_wp2_with fail
  clear f0 x0' x1' x2' x3' g0 z0 z1 z2 z3 y0 y1 y2 y3
  have F3 := F2.out.z.set4 a' (.slice (some ⟨x1, x2, none⟩) 2 x3) (.slice (some ⟨x4, x5, none⟩) 2 x6) r'
  have r0 := F3.c0; have r1 := F3.c1; have r2 := F3.c2; have r3 := F3.c3
  obtain ⟨ne1, ne2⟩ := (TY.out).far F.out.x
  obtain ⟨ne3, ne4⟩ := (TY.out).far F.out.z
  refine bodyPost_ret (v := (.tuple #[.agg #[.int .i64 a', .slice (some ⟨x1, x2, none⟩) 2 x3, .slice (some ⟨x4, x5, none⟩) 2 x6, .bool r'], .bool false, .int .i64 0])) (by simp [results, Try.results25, go_sem, r0, r1, r2, r3]) rfl ⟨_, _, _, _, _, _, rfl, ?_, ?_⟩
  · exact (((((((TY.out.set ne1 ne2 _ _).set ne1 ne2 _ _).set ne1 ne2 _ _).set ne1 ne2 _ _).set ne3 ne4 _ _).set ne3 ne4 _ _).set ne3 ne4 _ _).set ne3 ne4 _ _
  · exact Below.setCell (Below.setCell (Below.setCell (Below.setCell F2.out.b (by simp; omega) _) (by simp; omega) _) (by simp; omega) _) (by simp; omega) _

set_option maxHeartbeats 1000000 in
theorem step_arm_err (a : Int) (b1 o1 c1 b2 o2 c2 : Nat) (r u0 u1 : Bool) (m0 m1 : Int) (p : Int) (c : Int) (hc : ¬ c = 0) (w : World) (ht : Two w b1 o1 c1 b2 o2 c2 u0 u1 m0 m1) (h : mirror_Arm.f a [u0, u1] [m0, m1] r = some (0, [], [], false, c)) :
    Calls Try.prog 25 #[.agg #[.int .i64 a, .slice (some ⟨b1, o1, none⟩) 2 c1, .slice (some ⟨b2, o2, none⟩) 2 c2, .bool r], .agg #[.int .i64 2, .int .i64 p]] w (STwo a u0 u1 m0 m1 r false c w) := by
  have T0 := Lib.hid ht
  have HA := Lib.hid h
  clear ht h
  have HC := Lib.hid hc
  have hb0 : (c == 0) = false := by simpa using hc
  have hb1 : (c != 0) = true := by simpa using hc
  clear hc
  go_enter Try.func25, Try.ntmps25
  go_wp2_with fail
  have F := Lib.hid (Fr.new (w := w) (a := a) (s1 := .slice (some ⟨b1, o1, none⟩) 2 c1) (s2 := .slice (some ⟨b2, o2, none⟩) 2 c2) (r := r) (k := 2) (p := p))
  revert F
  generalize ((((w.alloc _).alloc _).alloc _).alloc _) = W0
  intro F
  refine (arm_err a _ _ [u0, u1] _ _ [m0, m1] r c _ (T0.out.below F.out.b).C1 T0.out.k1 (T0.out.below F.out.b).C2 T0.out.k2 HC.out HA.out).mono ?_
  rintro e W1 ⟨xA, xk, xB, xl, rfl, hb⟩
  replace F := Lib.hid (F.out.below hb)
  have B1 := Lib.hid F.out.b
  clear hb
  have f0 := F.out.x.fr
  have x0' := F.out.x.c0; have x1' := F.out.x.c1; have x2' := F.out.x.c2; have x3' := F.out.x.c3
  have F2 := Lib.hid (F.out.set (0) (.slice xA 0 xk) (.slice xB 0 xl) false)
  have g0 := F2.out.z.fr
  have z0 := F2.out.z.c0; have z1 := F2.out.z.c1; have z2 := F2.out.z.c2; have z3 := F2.out.z.c3
  have y0 := F2.out.d.c0; have y1 := F2.out.d.c1; have y2 := F2.out.d.c2; have y3 := F2.out.d.c3
  go_wp2_with fail
  clear f0 x0' x1' x2' x3' g0 z0 z1 z2 z3 y0 y1 y2 y3
  have F3 := F2.out.z.set4 a (.slice (some ⟨b1, o1, none⟩) 2 c1) (.slice (some ⟨b2, o2, none⟩) 2 c2) r
  have r0 := F3.c0; have r1 := F3.c1; have r2 := F3.c2; have r3 := F3.c3
  obtain ⟨ne1, ne2⟩ := (T0.out.below B1.out).far F.out.x
  obtain ⟨ne3, ne4⟩ := (T0.out.below B1.out).far F.out.z
  refine bodyPost_ret (v := (.tuple #[.agg #[.int .i64 a, .slice (some ⟨b1, o1, none⟩) 2 c1, .slice (some ⟨b2, o2, none⟩) 2 c2, .bool r], .bool false, .int .i64 c])) (by simp [results, Try.results25, go_sem, r0, r1, r2, r3]) rfl ⟨_, _, _, _, _, _, rfl, ?_, ?_⟩
  · exact ((((((((T0.out.below B1.out).set ne1 ne2 _ _).set ne1 ne2 _ _).set ne1 ne2 _ _).set ne1 ne2 _ _).set ne3 ne4 _ _).set ne3 ne4 _ _).set ne3 ne4 _ _).set ne3 ne4 _ _
  · exact Below.setCell (Below.setCell (Below.setCell (Below.setCell F2.out.b (by simp; omega) _) (by simp; omega) _) (by simp; omega) _) (by simp; omega) _

set_option maxHeartbeats 1000000 in
theorem step_restore_ok (a : Int) (b1 o1 c1 b2 o2 c2 : Nat) (r u0 u1 : Bool) (m0 m1 : Int) (k : Int) (k0 : ¬ k = 0) (k1 : ¬ k = 1) (k2 : ¬ k = 2) (p : Int) (a' : Int) (v0 v1 : Bool) (n0 n1 : Int) (r' : Bool) (w : World) (ht : Two w b1 o1 c1 b2 o2 c2 u0 u1 m0 m1) (h : mirror_Restore.f a [u0, u1] [m0, m1] r p = some (a', [v0, v1], [n0, n1], r', 0)) :
    Calls Try.prog 25 #[.agg #[.int .i64 a, .slice (some ⟨b1, o1, none⟩) 2 c1, .slice (some ⟨b2, o2, none⟩) 2 c2, .bool r], .agg #[.int .i64 k, .int .i64 p]] w (STwo a' v0 v1 n0 n1 r' false 0 w) := by
  have T0 := Lib.hid ht
  have HA := Lib.hid h
  clear ht h
  have hk0 : (k == 0) = false := by simpa using k0
  have hk1 : (k == 1) = false := by simpa using k1
  have hk2 : (k == 2) = false := by simpa using k2
  clear k0 k1 k2
  go_enter Try.func25, Try.ntmps25
  go_wp2_with fail
  have F := Lib.hid (Fr.new (w := w) (a := a) (s1 := .slice (some ⟨b1, o1, none⟩) 2 c1) (s2 := .slice (some ⟨b2, o2, none⟩) 2 c2) (r := r) (k := k) (p := p))
  revert F
  generalize ((((w.alloc _).alloc _).alloc _).alloc _) = W0
  intro F
  refine (restore_two a _ _ _ _ _ _ r u0 u1 m0 m1 p a' v0 v1 n0 n1 r' _ (T0.out.below F.out.b) HA.out).mono ?_
  rintro e W1 ⟨x1, x2, x3, x4, x5, x6, rfl, t, hb⟩
  have TY := Lib.hid t
  clear t
  replace F := Lib.hid (F.out.below hb)
  have B1 := Lib.hid F.out.b
  clear hb
  have f0 := F.out.x.fr
  have x0' := F.out.x.c0; have x1' := F.out.x.c1; have x2' := F.out.x.c2; have x3' := F.out.x.c3
  have F2 := Lib.hid (F.out.set (a') (.slice (some ⟨x1, x2, none⟩) 2 x3) (.slice (some ⟨x4, x5, none⟩) 2 x6) r')
  have g0 := F2.out.z.fr
  have z0 := F2.out.z.c0; have z1 := F2.out.z.c1; have z2 := F2.out.z.c2; have z3 := F2.out.z.c3
  have y0 := F2.out.x.c0; have y1 := F2.out.x.c1; have y2 := F2.out.x.c2; have y3 := F2.out.x.c3
  go_wp2_with fail
  clear f0 x0' x1' x2' x3' g0 z0 z1 z2 z3 y0 y1 y2 y3
  have F3 := F2.out.z.set4 a' (.slice (some ⟨x1, x2, none⟩) 2 x3) (.slice (some ⟨x4, x5, none⟩) 2 x6) r'
  have r0 := F3.c0; have r1 := F3.c1; have r2 := F3.c2; have r3 := F3.c3
  obtain ⟨ne1, ne2⟩ := (TY.out).far F.out.x
  obtain ⟨ne3, ne4⟩ := (TY.out).far F.out.z
  refine bodyPost_ret (v := (.tuple #[.agg #[.int .i64 a', .slice (some ⟨x1, x2, none⟩) 2 x3, .slice (some ⟨x4, x5, none⟩) 2 x6, .bool r'], .bool false, .int .i64 0])) (by simp [results, Try.results25, go_sem, r0, r1, r2, r3]) rfl ⟨_, _, _, _, _, _, rfl, ?_, ?_⟩
  · exact (((((((TY.out.set ne1 ne2 _ _).set ne1 ne2 _ _).set ne1 ne2 _ _).set ne1 ne2 _ _).set ne3 ne4 _ _).set ne3 ne4 _ _).set ne3 ne4 _ _).set ne3 ne4 _ _
  · exact Below.setCell (Below.setCell (Below.setCell (Below.setCell F2.out.b (by simp; omega) _) (by simp; omega) _) (by simp; omega) _) (by simp; omega) _

set_option maxHeartbeats 1000000 in
theorem step_restore_err (a : Int) (b1 o1 c1 b2 o2 c2 : Nat) (r u0 u1 : Bool) (m0 m1 : Int) (k : Int) (k0 : ¬ k = 0) (k1 : ¬ k = 1) (k2 : ¬ k = 2) (p : Int) (c : Int) (hc : ¬ c = 0) (w : World) (ht : Two w b1 o1 c1 b2 o2 c2 u0 u1 m0 m1) (h : mirror_Restore.f a [u0, u1] [m0, m1] r p = some (0, [], [], false, c)) :
    Calls Try.prog 25 #[.agg #[.int .i64 a, .slice (some ⟨b1, o1, none⟩) 2 c1, .slice (some ⟨b2, o2, none⟩) 2 c2, .bool r], .agg #[.int .i64 k, .int .i64 p]] w (STwo a u0 u1 m0 m1 r false c w) := by
  have T0 := Lib.hid ht
  have HA := Lib.hid h
  clear ht h
  have HC := Lib.hid hc
  have hb0 : (c == 0) = false := by simpa using hc
  have hb1 : (c != 0) = true := by simpa using hc
  clear hc
  have hk0 : (k == 0) = false := by simpa using k0
  have hk1 : (k == 1) = false := by simpa using k1
  have hk2 : (k == 2) = false := by simpa using k2
  clear k0 k1 k2
  go_enter Try.func25, Try.ntmps25
  go_wp2_with fail
  have F := Lib.hid (Fr.new (w := w) (a := a) (s1 := .slice (some ⟨b1, o1, none⟩) 2 c1) (s2 := .slice (some ⟨b2, o2, none⟩) 2 c2) (r := r) (k := k) (p := p))
  revert F
  generalize ((((w.alloc _).alloc _).alloc _).alloc _) = W0
  intro F
  refine (restore_err a _ _ [u0, u1] _ _ [m0, m1] r p c _ (T0.out.below F.out.b).C1 T0.out.k1 (T0.out.below F.out.b).C2 T0.out.k2 HC.out HA.out).mono ?_
  rintro e W1 ⟨xA, xk, xB, xl, rfl, hb⟩
  replace F := Lib.hid (F.out.below hb)
  have B1 := Lib.hid F.out.b
  clear hb
  have f0 := F.out.x.fr
  have x0' := F.out.x.c0; have x1' := F.out.x.c1; have x2' := F.out.x.c2; have x3' := F.out.x.c3
  have F2 := Lib.hid (F.out.set (0) (.slice xA 0 xk) (.slice xB 0 xl) false)
  have g0 := F2.out.z.fr
  have z0 := F2.out.z.c0; have z1 := F2.out.z.c1; have z2 := F2.out.z.c2; have z3 := F2.out.z.c3
  have y0 := F2.out.d.c0; have y1 := F2.out.d.c1; have y2 := F2.out.d.c2; have y3 := F2.out.d.c3
  go_wp2_with fail
  clear f0 x0' x1' x2' x3' g0 z0 z1 z2 z3 y0 y1 y2 y3
  have F3 := F2.out.z.set4 a (.slice (some ⟨b1, o1, none⟩) 2 c1) (.slice (some ⟨b2, o2, none⟩) 2 c2) r
  have r0 := F3.c0; have r1 := F3.c1; have r2 := F3.c2; have r3 := F3.c3
  obtain ⟨ne1, ne2⟩ := (T0.out.below B1.out).far F.out.x
  obtain ⟨ne3, ne4⟩ := (T0.out.below B1.out).far F.out.z
  refine bodyPost_ret (v := (.tuple #[.agg #[.int .i64 a, .slice (some ⟨b1, o1, none⟩) 2 c1, .slice (some ⟨b2, o2, none⟩) 2 c2, .bool r], .bool false, .int .i64 c])) (by simp [results, Try.results25, go_sem, r0, r1, r2, r3]) rfl ⟨_, _, _, _, _, _, rfl, ?_, ?_⟩
  · exact ((((((((T0.out.below B1.out).set ne1 ne2 _ _).set ne1 ne2 _ _).set ne1 ne2 _ _).set ne1 ne2 _ _).set ne3 ne4 _ _).set ne3 ne4 _ _).set ne3 ne4 _ _).set ne3 ne4 _ _
  · exact Below.setCell (Below.setCell (Below.setCell (Below.setCell F2.out.b (by simp; omega) _) (by simp; omega) _) (by simp; omega) _) (by simp; omega) _

/-- The active processor holds the effect of n inputs. -/
def InvB (n a : Int) (u0 u1 : Bool) (m0 m1 : Int) (r : Bool) : Prop := validB a u0 u1 m0 m1 r = true ∧ ((a = 0 ∧ m0 = n) ∨ (a = 1 ∧ m1 = n))
/-- What a step may leave. -/
def NextB (n : Int) (d : Bool) (a : Int) (u0 u1 : Bool) (m0 m1 : Int) (r : Bool) : Prop := validB a u0 u1 m0 m1 r = true ∧ ((a = -1 ∧ d = false) ∨ (a = 0 ∧ m0 = if d then n + 1 else n) ∨ (a = 1 ∧ m1 = if d then n + 1 else n))
theorem InvB.next {n a : Int} {u0 u1 : Bool} {m0 m1 : Int} {r : Bool} (h : InvB n a u0 u1 m0 m1 r) : NextB n false a u0 u1 m0 m1 r := by
  obtain ⟨h, h'⟩ := h
  refine ⟨h, ?_⟩
  rcases h' with h' | h'
  · exact .inr (.inl (by simpa using h'))
  · exact .inr (.inr (by simpa using h'))
theorem crash_next {n a : Int} {u0 u1 : Bool} {m0 m1 : Int} {r : Bool} {p : Int} (h : InvB n a u0 u1 m0 m1 r) :
    mirror_Crash.f a [u0, u1] [m0, m1] r p = some (0, [], [], false, 330) ∨
    ∃ a' v0 v1 n0 n1 r', mirror_Crash.f a [u0, u1] [m0, m1] r p = some (a', [v0, v1], [n0, n1], r', 0) ∧ NextB n false a' v0 v1 n0 n1 r' := by
  obtain ⟨hv, h'⟩ := h
  obtain ⟨⟨q0, q1⟩, p0, p1⟩ := valid_m hv
  have z0 := oddB_no q0 q1; have z1 := oddB_no p0 p1
  cases hk : (knownB p && up u0 u1 p)
  · exact .inl (by unfold mirror_Crash.f; simp [hv, hk])
  · have hp : p = 0 ∨ p = 1 := by simp [knownB] at hk; omega
    refine .inr ?_
    rcases hp with rfl | rfl
    · refine ⟨_, _, _, _, _, _, by unfold mirror_Crash.f; simp only [hv, hk, if_true]; rfl, ?_⟩
      have hu : u0 = true := by simpa [up, knownB] using hk
      subst hu
      rcases h' with ⟨rfl, rfl⟩ | ⟨rfl, rfl⟩
      · cases u1
        · simp [NextB, validB, z0, z1, knownB]
        · obtain rfl := valid_both hv
          simp [NextB, validB, z0, z1, knownB]
      · obtain rfl := valid_up1 hv
        obtain rfl := valid_both hv
        simp [NextB, validB, z0, z1, knownB]
    · refine ⟨_, _, _, _, _, _, by unfold mirror_Crash.f; simp only [hv, hk, if_true, show ¬ ((1 : Int) = 0) by omega, if_false]; rfl, ?_⟩
      have hu : u1 = true := by simpa [up, knownB] using hk
      subst hu
      rcases h' with ⟨rfl, rfl⟩ | ⟨rfl, rfl⟩
      · obtain rfl := valid_up0 hv
        obtain rfl := valid_both hv
        simp [NextB, validB, z0, z1, knownB]
      · cases u0
        · simp [NextB, validB, z0, z1, knownB]
        · obtain rfl := valid_both hv
          simp [NextB, validB, z0, z1, knownB]
theorem restore_next {n a : Int} {u0 u1 : Bool} {m0 m1 : Int} {r : Bool} {p : Int} (h : InvB n a u0 u1 m0 m1 r) :
    mirror_Restore.f a [u0, u1] [m0, m1] r p = some (0, [], [], false, 330) ∨
    ∃ a' v0 v1 n0 n1 r', mirror_Restore.f a [u0, u1] [m0, m1] r p = some (a', [v0, v1], [n0, n1], r', 0) ∧ NextB n false a' v0 v1 n0 n1 r' := by
  obtain ⟨hv, h'⟩ := h
  obtain ⟨⟨q0, q1⟩, p0, p1⟩ := valid_m hv
  have z0 := oddB_no q0 q1; have z1 := oddB_no p0 p1
  cases hk : (knownB p && !up u0 u1 p)
  · exact .inl (by unfold mirror_Restore.f; simp [hv, hk])
  · have hp : p = 0 ∨ p = 1 := by simp [knownB] at hk; omega
    have ha : ¬ a = -1 := by omega
    refine .inr ?_
    rcases hp with rfl | rfl
    · refine ⟨_, _, _, _, _, _, by unfold mirror_Restore.f; simp only [hv, hk, if_true, ha, if_false]; rfl, ?_⟩
      have hu : u0 = false := by simpa [up, knownB] using hk
      subst hu
      rcases h' with ⟨rfl, rfl⟩ | ⟨rfl, rfl⟩
      · cases u1 <;> simp [validB] at hv
      · obtain rfl := valid_up1 hv
        simp [NextB, validB, z0, z1, knownB]
    · refine ⟨_, _, _, _, _, _, by unfold mirror_Restore.f; simp only [hv, hk, if_true, show ¬ ((1 : Int) = 0) by omega, ha, if_false]; rfl, ?_⟩
      have hu : u1 = false := by simpa [up, knownB] using hk
      subst hu
      rcases h' with ⟨rfl, rfl⟩ | ⟨rfl, rfl⟩
      · obtain rfl := valid_up0 hv
        simp [NextB, validB, z0, z1, knownB]
      · cases u0 <;> simp [validB] at hv
theorem arm_next {n a : Int} {u0 u1 : Bool} {m0 m1 : Int} {r : Bool} (h : InvB n a u0 u1 m0 m1 r) :
    mirror_Arm.f a [u0, u1] [m0, m1] r = some (0, [], [], false, 330) ∨
    ∃ a' v0 v1 n0 n1 r', mirror_Arm.f a [u0, u1] [m0, m1] r = some (a', [v0, v1], [n0, n1], r', 0) ∧ NextB n false a' v0 v1 n0 n1 r' := by
  obtain ⟨hv, h'⟩ := h
  have ha : 0 ≤ a := by omega
  cases r
  · refine .inr ⟨_, _, _, _, _, _, by unfold mirror_Arm.f; simp [hv, ha]; exact ⟨rfl, ⟨rfl, rfl⟩, ⟨rfl, rfl⟩, rfl⟩, ?_, ?_⟩
    · rcases h' with ⟨rfl, rfl⟩ | ⟨rfl, rfl⟩
      · cases u0 <;> cases u1 <;> first | (simp [validB, knownB] at hv; done) | (simpa [validB, knownB] using hv)
      · cases u0 <;> cases u1 <;> first | (simp [validB, knownB] at hv; done) | (simpa [validB, knownB] using hv)
    · rcases h' with h' | h'
      · exact .inr (.inl (by simpa using h'))
      · exact .inr (.inr (by simpa using h'))
  · exact .inl (by unfold mirror_Arm.f; simp [hv])
theorem apply_next {n a : Int} {u0 u1 : Bool} {m0 m1 : Int} {r : Bool} (h : InvB n a u0 u1 m0 m1 r) (hn : n ≤ 300) :
    ∃ a' v0 v1 n0 n1 r', applyF a [u0, u1] [m0, m1] r = some (a', [v0, v1], [n0, n1], r', 0) ∧ NextB n (!r) a' v0 v1 n0 n1 r' := by
  obtain ⟨hv, h'⟩ := h
  obtain ⟨⟨q0, q1⟩, p0, p1⟩ := valid_m hv
  have z0 := oddB_no q0 q1; have z1 := oddB_no p0 p1
  rcases h' with ⟨rfl, rfl⟩ | ⟨rfl, rfl⟩
  · have z2 : oddB (m0 + 1) = false := oddB_no (by omega) (by omega)
    have hl : ¬ m0 = 1099511627776 := by omega
    obtain rfl := valid_up0 hv
    cases u1
    · cases r
      · exact ⟨_, _, _, _, _, _, by unfold applyF; simp only [hv, hl, if_true, if_false, cnt, show ¬ ((0 : Int) = -1) by omega]; rfl, by simp [NextB, validB, z0, z1, z2, knownB]⟩
      · exact ⟨_, _, _, _, _, _, by unfold applyF; simp only [hv, hl, if_true, if_false, cnt, show ¬ ((0 : Int) = -1) by omega]; rfl, by simp [NextB, validB, z0, z1, z2, knownB]⟩
    · obtain rfl := valid_both hv
      cases r
      · exact ⟨_, _, _, _, _, _, by unfold applyF; simp only [hv, hl, if_true, if_false, cnt, show ¬ ((0 : Int) = -1) by omega]; rfl, by simp [NextB, validB, z0, z1, z2, knownB]⟩
      · exact ⟨_, _, _, _, _, _, by unfold applyF; simp only [hv, hl, if_true, if_false, cnt, show ¬ ((0 : Int) = -1) by omega]; rfl, by simp [NextB, validB, z0, z1, z2, knownB]⟩
  · have z2 : oddB (m1 + 1) = false := oddB_no (by omega) (by omega)
    have hl : ¬ m1 = 1099511627776 := by omega
    obtain rfl := valid_up1 hv
    cases u0
    · cases r
      · exact ⟨_, _, _, _, _, _, by unfold applyF; simp only [hv, hl, if_true, if_false, cnt, show ¬ ((1 : Int) = -1) by omega, show ¬ ((1 : Int) = 0) by omega]; rfl, by simp [NextB, validB, z0, z1, z2, knownB]⟩
      · exact ⟨_, _, _, _, _, _, by unfold applyF; simp only [hv, hl, if_true, if_false, cnt, show ¬ ((1 : Int) = -1) by omega, show ¬ ((1 : Int) = 0) by omega]; rfl, by simp [NextB, validB, z0, z1, z2, knownB]⟩
    · obtain rfl := valid_both hv
      cases r
      · exact ⟨_, _, _, _, _, _, by unfold applyF; simp only [hv, hl, if_true, if_false, cnt, show ¬ ((1 : Int) = -1) by omega, show ¬ ((1 : Int) = 0) by omega]; rfl, by simp [NextB, validB, z0, z1, z2, knownB]⟩
      · exact ⟨_, _, _, _, _, _, by unfold applyF; simp only [hv, hl, if_true, if_false, cnt, show ¬ ((1 : Int) = -1) by omega, show ¬ ((1 : Int) = 0) by omega]; rfl, by simp [NextB, validB, z0, z1, z2, knownB]⟩

theorem step_calls (n a : Int) (b1 o1 c1 b2 o2 c2 : Nat) (u0 u1 : Bool) (m0 m1 : Int) (r : Bool) (k p : Int) (w : World) (ht : Two w b1 o1 c1 b2 o2 c2 u0 u1 m0 m1) (h : InvB n a u0 u1 m0 m1 r) (hn : n ≤ 300) :
    Calls Try.prog 25 #[.agg #[.int .i64 a, .slice (some ⟨b1, o1, none⟩) 2 c1, .slice (some ⟨b2, o2, none⟩) 2 c2, .bool r], .agg #[.int .i64 k, .int .i64 p]] w fun e w' => ∃ a' v0 v1 n0 n1 r' d c, STwo a' v0 v1 n0 n1 r' d c w e w' ∧ (c = 0 ∨ c = 330) ∧ NextB n d a' v0 v1 n0 n1 r' := by
  by_cases k0 : k = 0
  · subst k0
    obtain ⟨a', v0, v1, n0, n1, r', e, hx⟩ := apply_next h hn
    exact (step_apply_ok a b1 o1 c1 b2 o2 c2 r u0 u1 m0 m1 p a' v0 v1 n0 n1 r' w ht e).mono fun _ _ hp => ⟨a', v0, v1, n0, n1, r', !r, 0, hp, .inl rfl, hx⟩
  by_cases k1 : k = 1
  · subst k1
    rcases crash_next (p := p) h with e | ⟨a', v0, v1, n0, n1, r', e, hx⟩
    · exact (step_crash_err a b1 o1 c1 b2 o2 c2 r u0 u1 m0 m1 p 330 (by omega) w ht e).mono fun _ _ hp => ⟨_, _, _, _, _, _, _, _, hp, .inr rfl, h.next⟩
    · exact (step_crash_ok a b1 o1 c1 b2 o2 c2 r u0 u1 m0 m1 p a' v0 v1 n0 n1 r' w ht e).mono fun _ _ hp => ⟨a', v0, v1, n0, n1, r', _, 0, hp, .inl rfl, hx⟩
  by_cases k2 : k = 2
  · subst k2
    rcases arm_next h with e | ⟨a', v0, v1, n0, n1, r', e, hx⟩
    · exact (step_arm_err a b1 o1 c1 b2 o2 c2 r u0 u1 m0 m1 p 330 (by omega) w ht e).mono fun _ _ hp => ⟨_, _, _, _, _, _, _, _, hp, .inr rfl, h.next⟩
    · exact (step_arm_ok a b1 o1 c1 b2 o2 c2 r u0 u1 m0 m1 p a' v0 v1 n0 n1 r' w ht e).mono fun _ _ hp => ⟨a', v0, v1, n0, n1, r', _, 0, hp, .inl rfl, hx⟩
  rcases restore_next (p := p) h with e | ⟨a', v0, v1, n0, n1, r', e, hx⟩
  · exact (step_restore_err a b1 o1 c1 b2 o2 c2 r u0 u1 m0 m1 k k0 k1 k2 p 330 (by omega) w ht e).mono fun _ _ hp => ⟨_, _, _, _, _, _, _, _, hp, .inr rfl, h.next⟩
  · exact (step_restore_ok a b1 o1 c1 b2 o2 c2 r u0 u1 m0 m1 k k0 k1 k2 p a' v0 v1 n0 n1 r' w ht e).mono fun _ _ hp => ⟨a', v0, v1, n0, n1, r', _, 0, hp, .inl rfl, hx⟩

end Go.Proofs.Ytfjboaanpiceaaa.P
