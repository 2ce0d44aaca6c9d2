import Derived.Test.YtfjboaanpiceaaaExtT
namespace Go.Proofs.Ytfjboaanpiceaaa.P
open Go.RowKit Go.Proofs.YtfjboaanpiceaaaW.PrintWords Go.Proofs.YtfjboaanpiceaaaW.PrintLast Go.Proofs.YtfjboaanpiceaaaW.PrintMore
set_option linter.unusedVariables false
set_option linter.unusedSimpArgs false

theorem check_nil (w : World) : Calls Try.prog 23 #[.agg #[.int .i64 0, .slice none 0 0, .slice none 0 0, .bool false]] w fun e w' => e = .returned (.int .i64 1) ∧ Below w.heap.size w w' :=
  mirror_Check.calls 0 none 0 [] none 0 [] false 1 w (Kd.C_nil _ _) (Nat.le_refl _) (Kd.C_nil _ _) (Nat.le_refl _) rfl
theorem al {w W : World} (h : Below w.heap.size w W) (o : Obj) : Below w.heap.size w (W.alloc o) := below_alloc h o
theorem bb {w w1 w2 : World} (h : Below w.heap.size w w1) (k : Below w1.heap.size w1 w2) : Below w.heap.size w w2 := below_then h h.size k
theorem below_one (w : World) (o : Obj) : Below w.heap.size w (w.alloc o) := below_alloc (Below.refl _ _) o

set_option maxHeartbeats 4000000 in
set_option maxRecDepth 100000 in
theorem sane_calls (w : World) : Calls Try.prog 10 #[] w fun e w' => e = .returned (.bool true) ∧ Below w.heap.size w w' := by
  go_enter Try.func10, Try.ntmps10
  go_wp2_with fail
  refine (new_two w).mono ?_
  rintro e w1 ⟨p1, p2, p3, p4, p5, p6, rfl, t0, hb0⟩
  have TN := Lib.hid t0; have B1 := Lib.hid hb0; clear t0 hb0
  go_wp2_with fail
  refine (apply_two 0 _ _ _ _ _ _ false true true 0 0 0 true true 1 1 false _ TN.out rfl).mono ?_
  rintro e w2 ⟨a1, a2, a3, a4, a5, a6, rfl, t, hb⟩
  have hc := hb
  have B2 := Lib.hid (bb B1.out hc)
  replace TN := Lib.hid (TN.out.below hc)
  have TA := Lib.hid t
  clear t hb hc B1
  go_wp2_with fail
  refine (arm_two 0 _ _ _ _ _ _ false true true 1 1 0 true true 1 1 true _ (TA.out.below (below_one _ _)) rfl).mono ?_
  rintro e w3 ⟨b1, b2, b3, b4, b5, b6, rfl, t, hb⟩
  have hc := (bb (below_one _ _) hb)
  have B3 := Lib.hid (bb B2.out hc)
  have DA := Lib.hid (((DBlk.new w2) : DBlk (w2.alloc (.cells #[.int .i64 0, .slice (some ⟨a1, a2, none⟩) 2 a3, .slice (some ⟨a4, a5, none⟩) 2 a6, .bool false] 25)) _ _ _ _ _).below hb)
  replace TN := Lib.hid (TN.out.below hc)
  replace TA := Lib.hid (TA.out.below hc)
  have TB := Lib.hid t
  clear t hb hc B2
  go_wp2_with fail
  refine (apply_two 0 _ _ _ _ _ _ true true true 1 1 1 false true 1 1 false _ (TB.out.below (below_one _ _)) rfl).mono ?_
  rintro e w4 ⟨c1, c2, c3, c4, c5, c6, rfl, t, hb⟩
  have hc := (bb (below_one _ _) hb)
  have B4 := Lib.hid (bb B3.out hc)
  replace DA := Lib.hid (DA.out.below hc)
  replace TN := Lib.hid (TN.out.below hc)
  replace TA := Lib.hid (TA.out.below hc)
  replace TB := Lib.hid (TB.out.below hc)
  have TC := Lib.hid t
  clear t hb hc B3
  go_wp2_with fail
  refine (apply_two 1 _ _ _ _ _ _ false false true 1 1 1 false true 1 2 false _ (TC.out.below (below_one _ _)) rfl).mono ?_
  rintro e w5 ⟨d1, d2, d3, d4, d5, d6, rfl, t, hb⟩
  have hc := (bb (below_one _ _) hb)
  have B5 := Lib.hid (bb B4.out hc)
  have DC := Lib.hid (((DBlk.new w4) : DBlk (w4.alloc (.cells #[.int .i64 1, .slice (some ⟨c1, c2, none⟩) 2 c3, .slice (some ⟨c4, c5, none⟩) 2 c6, .bool false] 25)) _ _ _ _ _).below hb)
  replace DA := Lib.hid (DA.out.below hc)
  replace TN := Lib.hid (TN.out.below hc)
  replace TA := Lib.hid (TA.out.below hc)
  replace TB := Lib.hid (TB.out.below hc)
  replace TC := Lib.hid (TC.out.below hc)
  have TD := Lib.hid t
  clear t hb hc B4
  go_wp2_with fail
  refine (restore_two 1 _ _ _ _ _ _ false false true 1 2 0 1 true true 2 2 false _ (TD.out.below (below_one _ _)) rfl).mono ?_
  rintro e w6 ⟨x1, x2, x3, x4, x5, x6, rfl, t, hb⟩
  have hc := (bb (below_one _ _) hb)
  have B6 := Lib.hid (bb B5.out hc)
  have DD := Lib.hid (((DBlk.new w5) : DBlk (w5.alloc (.cells #[.int .i64 1, .slice (some ⟨d1, d2, none⟩) 2 d3, .slice (some ⟨d4, d5, none⟩) 2 d6, .bool false] 25)) _ _ _ _ _).below hb)
  replace DA := Lib.hid (DA.out.below hc)
  replace DC := Lib.hid (DC.out.below hc)
  replace TN := Lib.hid (TN.out.below hc)
  replace TA := Lib.hid (TA.out.below hc)
  replace TB := Lib.hid (TB.out.below hc)
  replace TC := Lib.hid (TC.out.below hc)
  replace TD := Lib.hid (TD.out.below hc)
  have TX := Lib.hid t
  clear t hb hc B5
  go_wp2_with fail
  refine (restore_err 1 _ _ [true, true] _ _ [2, 2] false 0 330 _ (TX.out.below (below_one _ _)).C1 TX.out.k1 (TX.out.below (below_one _ _)).C2 TX.out.k2 (by decide) rfl).mono ?_
  rintro e w7 ⟨yA, yk, yB, yl, rfl, hb⟩
  have hc := (bb (below_one _ _) hb)
  have B7 := Lib.hid (bb B6.out hc)
  have DX := Lib.hid (((DBlk.new w6) : DBlk (w6.alloc (.cells #[.int .i64 1, .slice (some ⟨x1, x2, none⟩) 2 x3, .slice (some ⟨x4, x5, none⟩) 2 x6, .bool false] 25)) _ _ _ _ _).below hb)
  replace DA := Lib.hid (DA.out.below hc)
  replace DC := Lib.hid (DC.out.below hc)
  replace DD := Lib.hid (DD.out.below hc)
  replace TN := Lib.hid (TN.out.below hc)
  replace TA := Lib.hid (TA.out.below hc)
  replace TB := Lib.hid (TB.out.below hc)
  replace TC := Lib.hid (TC.out.below hc)
  replace TD := Lib.hid (TD.out.below hc)
  replace TX := Lib.hid (TX.out.below hc)
  clear hb hc B6
  have qC0 := fun o => (DC.out.alloc o).c0; have qC1 := fun o => (DC.out.alloc o).c1; have qC2 := fun o => (DC.out.alloc o).c2; have qC3 := fun o => (DC.out.alloc o).c3
  go_wp2_with fail
  refine (crash_err 1 _ _ [false, true] _ _ [1, 1] false 0 330 _ (TC.out.below (below_one _ _)).C1 TC.out.k1 (TC.out.below (below_one _ _)).C2 TC.out.k2 (by decide) rfl).mono ?_
  rintro e w8 ⟨zA, zk, zB, zl, rfl, hb⟩
  have hc := (bb (below_one _ _) hb)
  have B8 := Lib.hid (bb B7.out hc)
  replace DA := Lib.hid (DA.out.below hc)
  replace DC := Lib.hid (DC.out.below hc)
  replace DD := Lib.hid (DD.out.below hc)
  replace DX := Lib.hid (DX.out.below hc)
  replace TN := Lib.hid (TN.out.below hc)
  replace TA := Lib.hid (TA.out.below hc)
  replace TB := Lib.hid (TB.out.below hc)
  replace TC := Lib.hid (TC.out.below hc)
  replace TD := Lib.hid (TD.out.below hc)
  replace TX := Lib.hid (TX.out.below hc)
  clear hb hc B7
  clear qC0 qC1 qC2 qC3
  have hA := DA.out; have hC := DC.out; have hD := DD.out; have hX := DX.out
  have tA := TA.out; have tC := TC.out; have tD := TD.out; have tX := TX.out
  have qA0 := fun o => (hA.alloc o).c0; have qA1 := fun o => (hA.alloc o).c1; have qA2 := fun o => (hA.alloc o).c2; have qA3 := fun o => (hA.alloc o).c3
  have rA0 := fun o => (tA.below (below_one _ o)).y0; have rA1 := fun o => (tA.below (below_one _ o)).y1
  have qC0 := fun o => (hC.alloc o).c0; have qC1 := fun o => (hC.alloc o).c1; have qC2 := fun o => (hC.alloc o).c2; have qC3 := fun o => (hC.alloc o).c3
  have rC0 := fun o => (tC.below (below_one _ o)).y0; have rC1 := fun o => (tC.below (below_one _ o)).y1
  have qD0 := fun o => (hD.alloc o).c0; have qD1 := fun o => (hD.alloc o).c1; have qD2 := fun o => (hD.alloc o).c2; have qD3 := fun o => (hD.alloc o).c3
  have rD0 := fun o => (tD.below (below_one _ o)).y0; have rD1 := fun o => (tD.below (below_one _ o)).y1
  have qX0 := fun o => (hX.alloc o).c0; have qX1 := fun o => (hX.alloc o).c1; have qX2 := fun o => (hX.alloc o).c2; have qX3 := fun o => (hX.alloc o).c3
  have rX0 := fun o => (tX.below (below_one _ o)).y0; have rX1 := fun o => (tX.below (below_one _ o)).y1
  clear hA hC hD hX tA tC tD tX
  go_wp2_with fail
  refine (check_two 1 _ _ _ _ _ _ false true true 2 2 _ (TX.out.below (below_one _ _))).mono ?_
  rintro e w9 ⟨rfl, hb⟩
  have B9 := Lib.hid (bb B8.out (bb (below_one _ _) hb))
  clear hb
  rw [show (if validB 1 true true 2 2 false then (0 : Int) else 1) = 0 from rfl]
  go_wp2_with fail
  refine (check_nil _).mono ?_
  rintro e w10 ⟨rfl, hb⟩
  have B10 := Lib.hid (bb B9.out hb)
  clear hb
  go_wp2_with fail
  go_ret
  exact ⟨rfl, B10.out⟩
end Go.Proofs.Ytfjboaanpiceaaa.P
