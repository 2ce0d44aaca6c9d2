import Derived.Test.YtfjboaanpiceaaaL3
import Derived.Deep.RegionWith
import Derived.Deep.RegionHeld3
namespace Go.Proofs.Ytfjboaanpiceaaa.P
open Go.RowKit Go.Proofs.YtfjboaanpiceaaaW.PrintWords Go.Proofs.YtfjboaanpiceaaaW.PrintLast Go.Proofs.YtfjboaanpiceaaaW.PrintMore
set_option linter.unusedVariables false
set_option linter.unusedSimpArgs false
set_option linter.unusedVariables false
set_option linter.unusedSimpArgs false

set_option maxHeartbeats 1000000 in
theorem law3_big (a : Int) (A1 : Option Addr) (c1 : Nat) (l1 : List Bool) (A2 : Option Addr) (c2 : Nat) (l2 : List Int) (r : Bool) (i : Int) (w : World) (hr1 : Kd.C Kd.bool w A1 l1.length l1) (hc1 : l1.length ≤ c1) (hr2 : Kd.C (Kd.int .i64) w A2 l2.length l2) (hc2 : l2.length ≤ c2) (hf : fewB l1 l2 = false) : Calls Try.prog 3 #[.agg #[.int .i64 a, .slice A1 l1.length c1, .slice A2 l2.length c2, .bool r], .int .i64 i] w (LawPost w) := by
  have H1 := Lib.hid hr1; have K1 := Lib.hid hc1; have H2 := Lib.hid hr2; have K2 := Lib.hid hc2
  clear hr1 hc1 hr2 hc2
  have HFEW := Lib.hid hf
  clear hf
  go_enter Try.func3, Try.ntmps3
  go_wp2_with fail
  refine (sane_calls _).mono ?_
  rintro e w1 ⟨rfl, hb⟩
  have DX := Lib.hid ((DBlk.new w (a := a) (s1 := .slice A1 l1.length c1) (s2 := .slice A2 l2.length c2) (r := r)).below hb)
  have B1 := Lib.hid (bb (below_one _ _) hb)
  clear hb
  have d0 := DX.out.c0; have d1 := DX.out.c1; have d2 := DX.out.c2; have d3 := DX.out.c3
  go_wp2_with fail
  refine (few_calls a _ _ l1 _ _ l2 r _ (Kd.C_below H1.out B1.out) K1.out (Kd.C_below H2.out B1.out) K2.out).mono ?_
  rintro e w2 ⟨rfl, hb⟩
  replace DX := Lib.hid (DX.out.below hb)
  have B2 := Lib.hid (bb B1.out hb)
  clear hb d0 d1 d2 d3 B1
  rw [HFEW.out]
  have d0 := DX.out.c0; have d1 := DX.out.c1; have d2 := DX.out.c2; have d3 := DX.out.c3
  go_wp2_with fail
  go_ret
  exact ⟨rfl, B2.out⟩

theorem refnew_two (w : World) : Calls Try.prog 22 #[] w fun e w' => ∃ b1 o1 c1 b2 o2 c2, e = .returned (.agg #[.int .i64 0, .slice (some ⟨b1, o1, none⟩) 2 c1, .slice (some ⟨b2, o2, none⟩) 2 c2, .bool false]) ∧ Two w' b1 o1 c1 b2 o2 c2 true true 0 0 ∧ Below w.heap.size w w' := by
  refine (crossbarref33_New.calls 0 [true, true] [0, 0] false w rfl).mono ?_
  rintro e w' ⟨v1, v2, he, h1, h2, hb⟩
  obtain ⟨A1, c1, rfl, hl1, hc1⟩ := Kd.R_reads h1
  obtain ⟨A2, c2, rfl, hl2, hc2⟩ := Kd.R_reads h2
  obtain ⟨b1, o1, rfl, k1⟩ := C_bools hc1
  obtain ⟨b2, o2, rfl, k2⟩ := C_ints hc2
  exact ⟨b1, o1, c1, b2, o2, c2, he, ⟨hl1, hl2, by simpa [Addr.add] using k1 0 _ rfl, by simpa [Addr.add] using k1 1 _ rfl, by simpa [Addr.add] using k2 0 _ rfl, by simpa [Addr.add] using k2 1 _ rfl⟩, hb⟩
theorem Two.an {w : World} {b1 o1 c1 b2 o2 c2 : Nat} {a : Int} {u0 u1 : Bool} {m0 m1 : Int} {r : Bool} (t : Two w b1 o1 c1 b2 o2 c2 u0 u1 m0 m1) : An w (some ⟨b1, o1, none⟩) c1 (some ⟨b2, o2, none⟩) c2 a [u0, u1] [m0, m1] r :=
  ⟨t.k1, t.k2, t.C1, t.C2⟩

set_option maxHeartbeats 20000000 in
theorem law3_small (a : Int) (A1 : Option Addr) (c1 : Nat) (l1 : List Bool) (A2 : Option Addr) (c2 : Nat) (l2 : List Int) (r : Bool) (i : Int) (w : World) (hr1 : Kd.C Kd.bool w A1 l1.length l1) (hc1 : l1.length ≤ c1) (hr2 : Kd.C (Kd.int .i64) w A2 l2.length l2) (hc2 : l2.length ≤ c2) (hf : fewB l1 l2 = true) : Calls Try.prog 3 #[.agg #[.int .i64 a, .slice A1 l1.length c1, .slice A2 l2.length c2, .bool r], .int .i64 i] w (LawPost w) := by
  have H1 := Lib.hid hr1; have K1 := Lib.hid hc1; have H2 := Lib.hid hr2; have K2 := Lib.hid hc2
  clear hr1 hc1 hr2 hc2
  have HFEW := Lib.hid hf
  clear hf
  obtain ⟨p1, p2, p3, p4, p5, p6, fa, sa⟩ := apply_some a l1 l2 r
  obtain ⟨c1', c2', c3', c4', c5', fc, sc⟩ := crash_some a l1 l2 r i
  obtain ⟨m1', m2', m3', m4', m5', fm, sm⟩ := arm_some a l1 l2 r
  obtain ⟨t1', t2', t3', t4', t5', ft, st⟩ := restore_some a l1 l2 r i
  obtain ⟨cc, fk⟩ := check_some a l1 l2 r
  have FA := Lib.hid fa; have FC := Lib.hid fc; have FM := Lib.hid fm; have FT := Lib.hid ft; have FK := Lib.hid fk
  have SA := Lib.hid sa; have SC := Lib.hid sc; have SM := Lib.hid sm; have ST := Lib.hid st
  clear fa sa fc sc fm sm ft st fk
  go_enter Try.func3, Try.ntmps3
  go_wp2_with fail
  refine (sane_calls _).mono ?_
  rintro e w1 ⟨rfl, hb⟩
  have DX := Lib.hid ((DBlk.new w (a := a) (s1 := .slice A1 l1.length c1) (s2 := .slice A2 l2.length c2) (r := r)).below hb)
  have B1 := Lib.hid (bb (below_one _ _) hb)
  clear hb
  have d0 := DX.out.c0; have d1 := DX.out.c1; have d2 := DX.out.c2; have d3 := DX.out.c3
  go_wp2_with fail
  refine (few_calls a _ _ l1 _ _ l2 r _ (Kd.C_below H1.out B1.out) K1.out (Kd.C_below H2.out B1.out) K2.out).mono ?_
  rintro e w2 ⟨rfl, hb⟩
  replace DX := Lib.hid (DX.out.below hb)
  have B2 := Lib.hid (bb B1.out hb)
  clear hb d0 d1 d2 d3 B1
  rw [HFEW.out]
  have d0 := DX.out.c0; have d1 := DX.out.c1; have d2 := DX.out.c2; have d3 := DX.out.c3
  go_wp2_with fail
  have B := Lib.hid B2.out
  clear B2
  clear d0 d1 d2 d3
  refine (mapply_any a _ _ l1 _ _ l2 r _ (Kd.C_below H1.out B.out) K1.out (Kd.C_below H2.out B.out) K2.out FA.out).mono ?_
  rintro e v0 ⟨xA0, xk0, xB0, xl0, rfl, g1, g2, g3, g4, hb⟩
  have N0 := Lib.hid (show An v0 xA0 xk0 xB0 xl0 p1 p2 p3 p4 from ⟨g1, g2, g3, g4⟩)
  have hc := hb
  replace B := Lib.hid (bb B.out hc)
  replace DX := Lib.hid (DX.out.below hc)
  clear g1 g2 g3 g4 hb hc
  have d0 := fun o => (DX.out.alloc o).c0; have d1 := fun o => (DX.out.alloc o).c1; have d2 := fun o => (DX.out.alloc o).c2; have d3 := fun o => (DX.out.alloc o).c3
  go_wp2_with fail
  clear d0 d1 d2 d3
  refine (rapply_any a _ _ l1 _ _ l2 r _ (Kd.C_below H1.out (bb B.out (below_one _ _))) K1.out (Kd.C_below H2.out (bb B.out (below_one _ _))) K2.out FA.out).mono ?_
  rintro e v1 ⟨xA1, xk1, xB1, xl1, rfl, g1, g2, g3, g4, hb⟩
  have N1 := Lib.hid (show An v1 xA1 xk1 xB1 xl1 p1 p2 p3 p4 from ⟨g1, g2, g3, g4⟩)
  have hc := bb (below_one _ _) hb
  have X0 := Lib.hid ((DBlk.new v0 (a := p1) (s1 := .slice xA0 p2.length xk0) (s2 := .slice xB0 p3.length xl0) (r := p4)).below hb)
  replace N0 := Lib.hid (N0.out.below hc)
  replace B := Lib.hid (bb B.out hc)
  replace DX := Lib.hid (DX.out.below hc)
  clear g1 g2 g3 g4 hb hc
  have d0 := fun o => (DX.out.alloc o).c0; have d1 := fun o => (DX.out.alloc o).c1; have d2 := fun o => (DX.out.alloc o).c2; have d3 := fun o => (DX.out.alloc o).c3
  go_wp2_with fail
  clear d0 d1 d2 d3
  refine (mcrash_any a _ _ l1 _ _ l2 r _ (Kd.C_below H1.out (bb B.out (below_one _ _))) K1.out (Kd.C_below H2.out (bb B.out (below_one _ _))) K2.out i FC.out).mono ?_
  rintro e v2 ⟨xA2, xk2, xB2, xl2, rfl, g1, g2, g3, g4, hb⟩
  have N2 := Lib.hid (show An v2 xA2 xk2 xB2 xl2 c1' c2' c3' c4' from ⟨g1, g2, g3, g4⟩)
  have hc := bb (below_one _ _) hb
  have X1 := Lib.hid ((DBlk.new v1 (a := p1) (s1 := .slice xA1 p2.length xk1) (s2 := .slice xB1 p3.length xl1) (r := p4)).below hb)
  replace N0 := Lib.hid (N0.out.below hc)
  replace X0 := Lib.hid (X0.out.below hc)
  replace N1 := Lib.hid (N1.out.below hc)
  replace B := Lib.hid (bb B.out hc)
  replace DX := Lib.hid (DX.out.below hc)
  clear g1 g2 g3 g4 hb hc
  have d0 := fun o => (DX.out.alloc o).c0; have d1 := fun o => (DX.out.alloc o).c1; have d2 := fun o => (DX.out.alloc o).c2; have d3 := fun o => (DX.out.alloc o).c3
  go_wp2_with fail
  clear d0 d1 d2 d3
  refine (rcrash_any a _ _ l1 _ _ l2 r _ (Kd.C_below H1.out (bb B.out (below_one _ _))) K1.out (Kd.C_below H2.out (bb B.out (below_one _ _))) K2.out i FC.out).mono ?_
  rintro e v3 ⟨xA3, xk3, xB3, xl3, rfl, g1, g2, g3, g4, hb⟩
  have N3 := Lib.hid (show An v3 xA3 xk3 xB3 xl3 c1' c2' c3' c4' from ⟨g1, g2, g3, g4⟩)
  have hc := bb (below_one _ _) hb
  have X2 := Lib.hid ((DBlk.new v2 (a := c1') (s1 := .slice xA2 c2'.length xk2) (s2 := .slice xB2 c3'.length xl2) (r := c4')).below hb)
  replace N0 := Lib.hid (N0.out.below hc)
  replace X0 := Lib.hid (X0.out.below hc)
  replace N1 := Lib.hid (N1.out.below hc)
  replace X1 := Lib.hid (X1.out.below hc)
  replace N2 := Lib.hid (N2.out.below hc)
  replace B := Lib.hid (bb B.out hc)
  replace DX := Lib.hid (DX.out.below hc)
  clear g1 g2 g3 g4 hb hc
  have d0 := fun o => (DX.out.alloc o).c0; have d1 := fun o => (DX.out.alloc o).c1; have d2 := fun o => (DX.out.alloc o).c2; have d3 := fun o => (DX.out.alloc o).c3
  go_wp2_with fail
  clear d0 d1 d2 d3
  refine (marm_any a _ _ l1 _ _ l2 r _ (Kd.C_below H1.out (bb B.out (below_one _ _))) K1.out (Kd.C_below H2.out (bb B.out (below_one _ _))) K2.out FM.out).mono ?_
  rintro e v4 ⟨xA4, xk4, xB4, xl4, rfl, g1, g2, g3, g4, hb⟩
  have N4 := Lib.hid (show An v4 xA4 xk4 xB4 xl4 m1' m2' m3' m4' from ⟨g1, g2, g3, g4⟩)
  have hc := bb (below_one _ _) hb
  have X3 := Lib.hid ((DBlk.new v3 (a := c1') (s1 := .slice xA3 c2'.length xk3) (s2 := .slice xB3 c3'.length xl3) (r := c4')).below hb)
  replace N0 := Lib.hid (N0.out.below hc)
  replace X0 := Lib.hid (X0.out.below hc)
  replace N1 := Lib.hid (N1.out.below hc)
  replace X1 := Lib.hid (X1.out.below hc)
  replace N2 := Lib.hid (N2.out.below hc)
  replace X2 := Lib.hid (X2.out.below hc)
  replace N3 := Lib.hid (N3.out.below hc)
  replace B := Lib.hid (bb B.out hc)
  replace DX := Lib.hid (DX.out.below hc)
  clear g1 g2 g3 g4 hb hc
  have d0 := fun o => (DX.out.alloc o).c0; have d1 := fun o => (DX.out.alloc o).c1; have d2 := fun o => (DX.out.alloc o).c2; have d3 := fun o => (DX.out.alloc o).c3
  go_wp2_with fail
  clear d0 d1 d2 d3
  refine (refarm_any a _ _ l1 _ _ l2 r m1' m2' m3' m4' m5' _ (Kd.C_below H1.out (bb B.out (below_one _ _))) K1.out (Kd.C_below H2.out (bb B.out (below_one _ _))) K2.out FM.out).mono ?_
  rintro e v5 ⟨xA5, xk5, xB5, xl5, rfl, g1, g2, g3, g4, hb⟩
  have N5 := Lib.hid (show An v5 xA5 xk5 xB5 xl5 m1' m2' m3' m4' from ⟨g1, g2, g3, g4⟩)
  have hc := bb (below_one _ _) hb
  have X4 := Lib.hid ((DBlk.new v4 (a := m1') (s1 := .slice xA4 m2'.length xk4) (s2 := .slice xB4 m3'.length xl4) (r := m4')).below hb)
  replace N0 := Lib.hid (N0.out.below hc)
  replace X0 := Lib.hid (X0.out.below hc)
  replace N1 := Lib.hid (N1.out.below hc)
  replace X1 := Lib.hid (X1.out.below hc)
  replace N2 := Lib.hid (N2.out.below hc)
  replace X2 := Lib.hid (X2.out.below hc)
  replace N3 := Lib.hid (N3.out.below hc)
  replace X3 := Lib.hid (X3.out.below hc)
  replace N4 := Lib.hid (N4.out.below hc)
  replace B := Lib.hid (bb B.out hc)
  replace DX := Lib.hid (DX.out.below hc)
  clear g1 g2 g3 g4 hb hc
  have d0 := fun o => (DX.out.alloc o).c0; have d1 := fun o => (DX.out.alloc o).c1; have d2 := fun o => (DX.out.alloc o).c2; have d3 := fun o => (DX.out.alloc o).c3
  go_wp2_with fail
  clear d0 d1 d2 d3
  refine (mrestore_any a _ _ l1 _ _ l2 r _ (Kd.C_below H1.out (bb B.out (below_one _ _))) K1.out (Kd.C_below H2.out (bb B.out (below_one _ _))) K2.out i FT.out).mono ?_
  rintro e v6 ⟨xA6, xk6, xB6, xl6, rfl, g1, g2, g3, g4, hb⟩
  have N6 := Lib.hid (show An v6 xA6 xk6 xB6 xl6 t1' t2' t3' t4' from ⟨g1, g2, g3, g4⟩)
  have hc := bb (below_one _ _) hb
  have X5 := Lib.hid ((DBlk.new v5 (a := m1') (s1 := .slice xA5 m2'.length xk5) (s2 := .slice xB5 m3'.length xl5) (r := m4')).below hb)
  replace N0 := Lib.hid (N0.out.below hc)
  replace X0 := Lib.hid (X0.out.below hc)
  replace N1 := Lib.hid (N1.out.below hc)
  replace X1 := Lib.hid (X1.out.below hc)
  replace N2 := Lib.hid (N2.out.below hc)
  replace X2 := Lib.hid (X2.out.below hc)
  replace N3 := Lib.hid (N3.out.below hc)
  replace X3 := Lib.hid (X3.out.below hc)
  replace N4 := Lib.hid (N4.out.below hc)
  replace X4 := Lib.hid (X4.out.below hc)
  replace N5 := Lib.hid (N5.out.below hc)
  replace B := Lib.hid (bb B.out hc)
  replace DX := Lib.hid (DX.out.below hc)
  clear g1 g2 g3 g4 hb hc
  have d0 := fun o => (DX.out.alloc o).c0; have d1 := fun o => (DX.out.alloc o).c1; have d2 := fun o => (DX.out.alloc o).c2; have d3 := fun o => (DX.out.alloc o).c3
  go_wp2_with fail
  clear d0 d1 d2 d3
  refine (rrestore_any a _ _ l1 _ _ l2 r _ (Kd.C_below H1.out (bb B.out (below_one _ _))) K1.out (Kd.C_below H2.out (bb B.out (below_one _ _))) K2.out i FT.out).mono ?_
  rintro e v7 ⟨xA7, xk7, xB7, xl7, rfl, g1, g2, g3, g4, hb⟩
  have N7 := Lib.hid (show An v7 xA7 xk7 xB7 xl7 t1' t2' t3' t4' from ⟨g1, g2, g3, g4⟩)
  have hc := bb (below_one _ _) hb
  have X6 := Lib.hid ((DBlk.new v6 (a := t1') (s1 := .slice xA6 t2'.length xk6) (s2 := .slice xB6 t3'.length xl6) (r := t4')).below hb)
  replace N0 := Lib.hid (N0.out.below hc)
  replace X0 := Lib.hid (X0.out.below hc)
  replace N1 := Lib.hid (N1.out.below hc)
  replace X1 := Lib.hid (X1.out.below hc)
  replace N2 := Lib.hid (N2.out.below hc)
  replace X2 := Lib.hid (X2.out.below hc)
  replace N3 := Lib.hid (N3.out.below hc)
  replace X3 := Lib.hid (X3.out.below hc)
  replace N4 := Lib.hid (N4.out.below hc)
  replace X4 := Lib.hid (X4.out.below hc)
  replace N5 := Lib.hid (N5.out.below hc)
  replace X5 := Lib.hid (X5.out.below hc)
  replace N6 := Lib.hid (N6.out.below hc)
  replace B := Lib.hid (bb B.out hc)
  replace DX := Lib.hid (DX.out.below hc)
  clear g1 g2 g3 g4 hb hc
  have d0 := fun o => (DX.out.alloc o).c0; have d1 := fun o => (DX.out.alloc o).c1; have d2 := fun o => (DX.out.alloc o).c2; have d3 := fun o => (DX.out.alloc o).c3
  have e0 := fun o => (X0.out.alloc o).c0; have e1 := fun o => (X0.out.alloc o).c1; have e2 := fun o => (X0.out.alloc o).c2; have e3 := fun o => (X0.out.alloc o).c3
  have f0 := fun o => (X1.out.alloc o).c0; have f1 := fun o => (X1.out.alloc o).c1; have f2 := fun o => (X1.out.alloc o).c2; have f3 := fun o => (X1.out.alloc o).c3
  go_wp2_with fail
  clear d0 d1 d2 d3 e0 e1 e2 e3 f0 f1 f2 f3
  refine (same_any (N0.out.below (below_one _ _)) (N1.out.below (below_one _ _)) SA.out).mono ?_
  rintro e s0 ⟨rfl, hb⟩
  have hc := bb (below_one _ _) hb
  have X7 := Lib.hid ((DBlk.new v7 (a := t1') (s1 := .slice xA7 t2'.length xk7) (s2 := .slice xB7 t3'.length xl7) (r := t4')).below hb)
  replace N2 := Lib.hid (N2.out.below hc)
  replace X2 := Lib.hid (X2.out.below hc)
  replace N3 := Lib.hid (N3.out.below hc)
  replace X3 := Lib.hid (X3.out.below hc)
  replace N4 := Lib.hid (N4.out.below hc)
  replace X4 := Lib.hid (X4.out.below hc)
  replace N5 := Lib.hid (N5.out.below hc)
  replace X5 := Lib.hid (X5.out.below hc)
  replace N6 := Lib.hid (N6.out.below hc)
  replace X6 := Lib.hid (X6.out.below hc)
  replace N7 := Lib.hid (N7.out.below hc)
  replace B := Lib.hid (bb B.out hc)
  replace DX := Lib.hid (DX.out.below hc)
  clear hb hc
  have e0 := X2.out.c0; have e1 := X2.out.c1; have e2 := X2.out.c2; have e3 := X2.out.c3
  have f0 := X3.out.c0; have f1 := X3.out.c1; have f2 := X3.out.c2; have f3 := X3.out.c3
  go_wp2_with fail
  clear e0 e1 e2 e3 f0 f1 f2 f3
  refine (same_any N2.out N3.out SC.out).mono ?_
  rintro e s1 ⟨rfl, hb⟩
  have hc := hb
  replace N4 := Lib.hid (N4.out.below hc)
  replace X4 := Lib.hid (X4.out.below hc)
  replace N5 := Lib.hid (N5.out.below hc)
  replace X5 := Lib.hid (X5.out.below hc)
  replace N6 := Lib.hid (N6.out.below hc)
  replace X6 := Lib.hid (X6.out.below hc)
  replace N7 := Lib.hid (N7.out.below hc)
  replace X7 := Lib.hid (X7.out.below hc)
  replace B := Lib.hid (bb B.out hc)
  replace DX := Lib.hid (DX.out.below hc)
  clear hb hc
  have e0 := X4.out.c0; have e1 := X4.out.c1; have e2 := X4.out.c2; have e3 := X4.out.c3
  have f0 := X5.out.c0; have f1 := X5.out.c1; have f2 := X5.out.c2; have f3 := X5.out.c3
  go_wp2_with fail
  clear e0 e1 e2 e3 f0 f1 f2 f3
  refine (same_any N4.out N5.out SM.out).mono ?_
  rintro e s2 ⟨rfl, hb⟩
  have hc := hb
  replace N6 := Lib.hid (N6.out.below hc)
  replace X6 := Lib.hid (X6.out.below hc)
  replace N7 := Lib.hid (N7.out.below hc)
  replace X7 := Lib.hid (X7.out.below hc)
  replace B := Lib.hid (bb B.out hc)
  replace DX := Lib.hid (DX.out.below hc)
  clear hb hc
  have e0 := X6.out.c0; have e1 := X6.out.c1; have e2 := X6.out.c2; have e3 := X6.out.c3
  have f0 := X7.out.c0; have f1 := X7.out.c1; have f2 := X7.out.c2; have f3 := X7.out.c3
  go_wp2_with fail
  clear e0 e1 e2 e3 f0 f1 f2 f3
  refine (same_any N6.out N7.out ST.out).mono ?_
  rintro e s3 ⟨rfl, hb⟩
  have hc := hb
  replace B := Lib.hid (bb B.out hc)
  replace DX := Lib.hid (DX.out.below hc)
  clear hb hc
  go_wp2_with fail
  refine (new_two _).mono ?_
  rintro e nw ⟨b1, o1, cc1, b2, o2, cc2, rfl, t, hb⟩
  have T1 := Lib.hid t
  replace B := Lib.hid (bb B.out hb)
  replace DX := Lib.hid (DX.out.below hb)
  clear t hb
  go_wp2_with fail
  refine (refnew_two _).mono ?_
  rintro e nv ⟨y1, y2, y3, y4, y5, y6, rfl, t, hb⟩
  have T2 := Lib.hid t
  replace T1 := Lib.hid (T1.out.below hb)
  replace B := Lib.hid (bb B.out hb)
  replace DX := Lib.hid (DX.out.below hb)
  clear t hb
  go_wp2_with fail
  refine (same_any (r1 := 0) (r2 := [true, true]) (r3 := [0, 0]) (r4 := false) T1.out.an T2.out.an (refSame_two _ _ _ _ _ _)).mono ?_
  rintro e sv ⟨rfl, hb⟩
  replace B := Lib.hid (bb B.out hb)
  replace DX := Lib.hid (DX.out.below hb)
  clear hb
  have d0 := DX.out.c0; have d1 := DX.out.c1; have d2 := DX.out.c2; have d3 := DX.out.c3
  go_wp2_with fail
  clear T1 T2 SA SC SM ST FA FC FM FT HFEW N0 N1 N2 N3 N4 N5 N6 N7 X0 X1 X2 X3 X4 X5 X6 X7
  go_region_held3 (fun w' => w'.cell? ⟨w.heap.size, 0, none⟩ = some (.int .i64 a) ∧ w'.cell? ⟨w.heap.size, 1, none⟩ = some (.slice A1 l1.length c1) ∧ w'.cell? ⟨w.heap.size, 2, none⟩ = some (.slice A2 l2.length c2) ∧ w'.cell? ⟨w.heap.size, 3, none⟩ = some (.bool r))
    (first
      | go_keep
      | exact ⟨(DX.out.below hb3).c0, (DX.out.below hb3).c1, (DX.out.below hb3).c2, (DX.out.below hb3).c3⟩
      | exact ⟨(DX.out.below hb').c0, (DX.out.below hb').c1, (DX.out.below hb').c2, (DX.out.below hb').c3⟩)
    (first
    | (go_at_call 23; refine (mirror_Check.calls a _ _ l1 _ _ l2 r cc _ (Kd.C_below H1.out (bb B.out (by first | exact Below.refl _ _ | exact below_drew (Below.refl _ _) | exact pw_below_drewN (Below.refl _ _) _))) K1.out (Kd.C_below H2.out (bb B.out (by first | exact Below.refl _ _ | exact below_drew (Below.refl _ _) | exact pw_below_drewN (Below.refl _ _) _))) K2.out FK.out).mono ?_; rintro e cw ⟨rfl, hb⟩; have hb' : Below sv.heap.size sv cw := bb (by first | exact Below.refl _ _ | exact below_drew (Below.refl _ _) | exact pw_below_drewN (Below.refl _ _) _) hb)
    | (go_at_call 24; refine (crossbarref33_Check.calls 10 a _ _ l1 _ _ l2 r cc _ (Kd.C_below H1.out (bb B.out (bb hb' (by first | exact Below.refl _ _ | exact below_drew (Below.refl _ _) | exact pw_below_drewN (Below.refl _ _) _)))) K1.out (Kd.C_below H2.out (bb B.out (bb hb' (by first | exact Below.refl _ _ | exact below_drew (Below.refl _ _) | exact pw_below_drewN (Below.refl _ _) _)))) K2.out (by rw [refCheck_eq]; exact FK.out)).mono ?_; rintro e rw ⟨rfl, hb2⟩; have hb3 : Below sv.heap.size sv rw := bb hb' (bb (by first | exact Below.refl _ _ | exact below_drew (Below.refl _ _) | exact pw_below_drewN (Below.refl _ _) _) hb2)))

  all_goals go_wp2_with fail
  all_goals go_ret
  all_goals exact ⟨rfl, by first | exact bb B.out hb3 | exact below_drew (bb B.out hb3) | exact pw_below_drewN (bb B.out hb3) _⟩

theorem law3_walk (a : Int) (A1 : Option Addr) (c1 : Nat) (l1 : List Bool) (A2 : Option Addr) (c2 : Nat) (l2 : List Int) (r : Bool) (i : Int) (w : World) (hr1 : Kd.C Kd.bool w A1 l1.length l1) (hc1 : l1.length ≤ c1) (hr2 : Kd.C (Kd.int .i64) w A2 l2.length l2) (hc2 : l2.length ≤ c2) : Calls Try.prog 3 #[.agg #[.int .i64 a, .slice A1 l1.length c1, .slice A2 l2.length c2, .bool r], .int .i64 i] w (LawPost w) := by
  cases hf : fewB l1 l2
  · exact law3_big a A1 c1 l1 A2 c2 l2 r i w hr1 hc1 hr2 hc2 hf
  · exact law3_small a A1 c1 l1 A2 c2 l2 r i w hr1 hc1 hr2 hc2 hf

end Go.Proofs.Ytfjboaanpiceaaa.P
