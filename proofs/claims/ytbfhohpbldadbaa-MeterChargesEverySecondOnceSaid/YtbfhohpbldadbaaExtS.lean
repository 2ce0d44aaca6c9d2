import Derived.Test.YtbfhohpbldadbaaExt
import Derived.Test.YtbfhohpbldadbaaPx4
namespace Go.Proofs.Ytbfhohpbldadbaa.P
open Go Go.RowKit Go.Proofs.YtbfhohpbldadbaaW.PrintWords Go.Proofs.YtbfhohpbldadbaaW.PrintLast Go.Proofs.YtbfhohpbldadbaaW.PrintMore
set_option linter.unusedVariables false
set_option linter.unusedSimpArgs false
def p4930 : ByteArray := ⟨#[52, 57, 51, 48]⟩
def m0 : S33 := ⟨7, 1, 0, p4930, 28790⟩
def ex27 : List S110 := [⟨0, 1⟩, ⟨28800, 3⟩]
def rec1 : S39 := ⟨7, 1, 0, p4930, 28790, 28800, 1, 10⟩
def rec2 : S39 := ⟨7, 1, 0, p4930, 28800, 28802, 3, 6⟩
theorem s1 : meter_Start.f [] 7 1 0 p4930 28790 = some ([m0], 0) := by kernel_rfl
theorem s2 : meter_Start.f [m0] 7 1 0 p4930 28790 = some ([], 270) := by kernel_rfl
theorem s3 : meter_Advance.f [m0] ex27 28795 = some ([m0], [], 0) := by kernel_rfl
theorem s4 : meter_Stop.f [m0] ex27 7 28802 = some ([], [rec1, rec2], 0) := by kernel_rfl
theorem s5 : meter_Stop.f [] ex27 7 28802 = some ([], [], 270) := by kernel_rfl
theorem s6 : meter_Advance.f [m0] ex27 28789 = some ([], [], 1) := by kernel_rfl
theorem s7 : meter_Total.f 5 [rec1, rec2] 7 1 = some (16, 12) := by kernel_rfl
theorem C2B (W : World) (a b c d : Int) : Kd.C k110 (W.alloc (.cells #[.int .i64 a, .int .i64 b, .int .i64 c, .int .i64 d] 110)) (some ⟨W.heap.size, 0, none⟩) 2 [⟨a, b⟩, ⟨c, d⟩] := by
  have h := heap_alloc_new W (.cells #[.int .i64 a, .int .i64 b, .int .i64 c, .int .i64 d] 110)
  refine ⟨rfl, by simp, fun _ => ⟨_, rfl, fun j p hj => ?_⟩⟩
  match j, hj with
  | 0, hj =>
    obtain rfl : (⟨a, b⟩ : S110) = p := by simpa using hj
    refine ⟨[.int .i64 a, .int .i64 b], rfl, ⟨_, _, rfl, rfl, rfl⟩, fun i u hi => ?_⟩
    match i, hi with
    | 0, hi => obtain rfl := (by simpa using hi); exact (blk_cell h 0).trans rfl
    | 1, hi => obtain rfl := (by simpa using hi); exact (blk_cell h 1).trans rfl
    | (n + 2), hi => simp at hi
  | 1, hj =>
    obtain rfl : (⟨c, d⟩ : S110) = p := by simpa using hj
    refine ⟨[.int .i64 c, .int .i64 d], rfl, ⟨_, _, rfl, rfl, rfl⟩, fun i u hi => ?_⟩
    match i, hi with
    | 0, hi => obtain rfl := (by simpa using hi); exact (blk_cell h 2).trans rfl
    | 1, hi => obtain rfl := (by simpa using hi); exact (blk_cell h 3).trans rfl
    | (n + 2), hi => simp at hi
  | (n + 2), hj => simp at hj
set_option maxHeartbeats 1000000 in
set_option maxRecDepth 100000 in
theorem example_calls (w : World) : Calls Try.prog 47 #[] w fun e w' => ∃ A, e = .returned (.agg #[.slice A 2 2]) ∧ Kd.C k110 w' A 2 ex27 ∧ Below w.heap.size w w' := by
  go_enter Try.func47, Try.ntmps47
  go_wp2_with fail
  have q0 := (Bx.new w 25 (.slice (some ⟨w.heap.size + 1, 0, none⟩) 2 2)).below (below_one _ (.cells #[.int .i64 0, .int .i64 1, .int .i64 28800, .int .i64 3] 110))
  have q1 := q0.c0
  refine bodyPost_ret (v := .agg #[.slice (some ⟨w.heap.size + 1, 0, none⟩) 2 2]) (by simp [results, Try.results47, go_sem, q1]) rfl ⟨some ⟨w.heap.size + 1, 0, none⟩, rfl, ?_, al (below_one _ _) _⟩
  have h := C2B (w.alloc (.cells #[.slice (some ⟨w.heap.size + 1, 0, none⟩) 2 2] 25)) 0 1 28800 3
  rwa [World.size_alloc] at h
def crossbarlaw27_sane.f  : Option (Bool) := some true
set_option maxHeartbeats 8000000 in
set_option maxRecDepth 100000 in
theorem sane27_calls (w : World) : Calls Try.prog 17 #[] w fun e w' => e = .returned (.bool true) ∧ Below w.heap.size w w' := by
  have hp : p4930 = ⟨#[52, 57, 51, 48]⟩ := rfl
  have HP := Lib.hid hp
  clear hp
  go_enter Try.func17, Try.ntmps17
  rw [← HP.out]
  have X := Lib.hid (MBlk.new w m0)
  have B := Lib.hid (below_one w (.cells #[.int .i64 m0.f0, .int .i64 m0.f1, .int .i64 m0.f2, .string m0.f3, .int .i64 m0.f4] 33))
  go_wp2_with fail
  refine (meter_Start.calls none 0 [] 7 1 0 p4930 28790 [m0] 0 _ ⟨rfl, by simp, fun h => absurd h (by simp)⟩ (Nat.le_refl _) s1).mono ?_
  rintro e W ⟨v, rfl, hV, hb⟩
  replace B := Lib.hid (bb B.out hb)
  replace X := Lib.hid (X.out.below hb)
  obtain ⟨A1, c1, rfl⟩ := Kd.V_slice hV
  have L := Lib.hid (Kd.V_reads' hV).2
  clear hV
  clear hb
  have x0 : W.cell? ⟨w.heap.size, 0, none⟩ = some (.int .i64 7) := X.out.c0; have x1 : W.cell? ⟨w.heap.size, 1, none⟩ = some (.int .i64 1) := X.out.c1; have x2 : W.cell? ⟨w.heap.size, 2, none⟩ = some (.int .i64 0) := X.out.c2; have x3 : W.cell? ⟨w.heap.size, 3, none⟩ = some (.string p4930) := X.out.c3; have x4 : W.cell? ⟨w.heap.size, 4, none⟩ = some (.int .i64 28790) := X.out.c4
  go_wp2_with fail
  clear x0 x1 x2 x3 x4
  refine (meter_Start.calls A1 c1 [m0] 7 1 0 p4930 28790 [] 270 _ L.out.2 L.out.1 s2).mono ?_
  rintro e W ⟨v, rfl, hV, hb⟩
  replace B := Lib.hid (bb B.out hb)
  replace X := Lib.hid (X.out.below hb)
  replace L := Lib.hid (And.intro L.out.1 (Kd.C_below L.out.2 hb))
  obtain ⟨A2, c2, rfl⟩ := Kd.V_slice hV
  clear hV
  clear hb
  go_wp2_with fail
  refine (example_calls _).mono ?_
  rintro e W ⟨Ae, rfl, hE, hb⟩
  replace B := Lib.hid (bb B.out hb)
  replace X := Lib.hid (X.out.below hb)
  replace L := Lib.hid (And.intro L.out.1 (Kd.C_below L.out.2 hb))
  have E := Lib.hid hE
  clear hE
  clear hb
  go_wp2_with fail
  refine (meter_Advance.calls A1 c1 [m0] Ae 2 ex27 28795 [m0] [] 0 _ L.out.2 L.out.1 E.out (by decide) s3).mono ?_
  rintro e W ⟨v, v', rfl, hV, hV', hb⟩
  replace B := Lib.hid (bb B.out hb)
  replace X := Lib.hid (X.out.below hb)
  replace L := Lib.hid (And.intro L.out.1 (Kd.C_below L.out.2 hb))
  obtain ⟨A3, c3, rfl⟩ := Kd.V_slice hV
  obtain ⟨A4, c4, rfl⟩ := Kd.V_slice hV'
  have X6 := Lib.hid (Kd.V_reads' hV).2
  clear hV hV' E
  clear hb
  go_wp2_with fail
  refine (example_calls _).mono ?_
  rintro e W ⟨Ae, rfl, hE, hb⟩
  replace B := Lib.hid (bb B.out hb)
  replace X := Lib.hid (X.out.below hb)
  replace L := Lib.hid (And.intro L.out.1 (Kd.C_below L.out.2 hb))
  replace X6 := Lib.hid (And.intro X6.out.1 (Kd.C_below X6.out.2 hb))
  have E := Lib.hid hE
  clear hE
  clear hb
  go_wp2_with fail
  refine (meter_Stop.calls A3 c3 [m0] Ae 2 ex27 7 28802 [] [rec1, rec2] 0 _ X6.out.2 X6.out.1 E.out (by decide) s4).mono ?_
  rintro e W ⟨v, v', rfl, hV, hV', hb⟩
  replace B := Lib.hid (bb B.out hb)
  replace X := Lib.hid (X.out.below hb)
  replace L := Lib.hid (And.intro L.out.1 (Kd.C_below L.out.2 hb))
  replace X6 := Lib.hid (And.intro X6.out.1 (Kd.C_below X6.out.2 hb))
  obtain ⟨A5, c5, rfl⟩ := Kd.V_slice hV
  obtain ⟨A6, c6, rfl⟩ := Kd.V_slice hV'
  have RR := Lib.hid (Kd.V_reads' hV').2; have Y := Lib.hid (Kd.V_reads' hV).2
  clear hV hV' E
  clear hb
  go_wp2_with fail
  refine (example_calls _).mono ?_
  rintro e W ⟨Ae, rfl, hE, hb⟩
  replace B := Lib.hid (bb B.out hb)
  replace X := Lib.hid (X.out.below hb)
  replace L := Lib.hid (And.intro L.out.1 (Kd.C_below L.out.2 hb))
  replace X6 := Lib.hid (And.intro X6.out.1 (Kd.C_below X6.out.2 hb))
  replace RR := Lib.hid (And.intro RR.out.1 (Kd.C_below RR.out.2 hb))
  replace Y := Lib.hid (And.intro Y.out.1 (Kd.C_below Y.out.2 hb))
  have E := Lib.hid hE
  clear hE
  clear hb
  go_wp2_with fail
  refine (meter_Stop.calls A5 c5 [] Ae 2 ex27 7 28802 [] [] 270 _ Y.out.2 Y.out.1 E.out (by decide) s5).mono ?_
  rintro e W ⟨v, v', rfl, hV, hV', hb⟩
  replace B := Lib.hid (bb B.out hb)
  replace X := Lib.hid (X.out.below hb)
  replace L := Lib.hid (And.intro L.out.1 (Kd.C_below L.out.2 hb))
  replace X6 := Lib.hid (And.intro X6.out.1 (Kd.C_below X6.out.2 hb))
  replace RR := Lib.hid (And.intro RR.out.1 (Kd.C_below RR.out.2 hb))
  replace Y := Lib.hid (And.intro Y.out.1 (Kd.C_below Y.out.2 hb))
  obtain ⟨A7, c7, rfl⟩ := Kd.V_slice hV
  obtain ⟨A8, c8, rfl⟩ := Kd.V_slice hV'
  clear hV hV' E
  clear hb
  go_wp2_with fail
  refine (example_calls _).mono ?_
  rintro e W ⟨Ae, rfl, hE, hb⟩
  replace B := Lib.hid (bb B.out hb)
  replace X := Lib.hid (X.out.below hb)
  replace L := Lib.hid (And.intro L.out.1 (Kd.C_below L.out.2 hb))
  replace X6 := Lib.hid (And.intro X6.out.1 (Kd.C_below X6.out.2 hb))
  replace RR := Lib.hid (And.intro RR.out.1 (Kd.C_below RR.out.2 hb))
  replace Y := Lib.hid (And.intro Y.out.1 (Kd.C_below Y.out.2 hb))
  have E := Lib.hid hE
  clear hE
  clear hb
  go_wp2_with fail
  refine (meter_Advance.calls A1 c1 [m0] Ae 2 ex27 28789 [] [] 1 _ L.out.2 L.out.1 E.out (by decide) s6).mono ?_
  rintro e W ⟨v, v', rfl, hV, hV', hb⟩
  replace B := Lib.hid (bb B.out hb)
  replace X := Lib.hid (X.out.below hb)
  replace L := Lib.hid (And.intro L.out.1 (Kd.C_below L.out.2 hb))
  replace X6 := Lib.hid (And.intro X6.out.1 (Kd.C_below X6.out.2 hb))
  replace RR := Lib.hid (And.intro RR.out.1 (Kd.C_below RR.out.2 hb))
  replace Y := Lib.hid (And.intro Y.out.1 (Kd.C_below Y.out.2 hb))
  obtain ⟨A9, c9, rfl⟩ := Kd.V_slice hV
  obtain ⟨A10, c10, rfl⟩ := Kd.V_slice hV'
  clear hV hV' E
  clear hb
  go_wp2_with fail
  refine (meter_Total.calls 5 A6 c6 [rec1, rec2] 7 1 16 12 _ RR.out.2 RR.out.1 s7).mono ?_
  rintro e W ⟨rfl, hb⟩
  replace B := Lib.hid (bb B.out hb)
  replace X := Lib.hid (X.out.below hb)
  replace L := Lib.hid (And.intro L.out.1 (Kd.C_below L.out.2 hb))
  replace X6 := Lib.hid (And.intro X6.out.1 (Kd.C_below X6.out.2 hb))
  replace RR := Lib.hid (And.intro RR.out.1 (Kd.C_below RR.out.2 hb))
  replace Y := Lib.hid (And.intro Y.out.1 (Kd.C_below Y.out.2 hb))
  clear hb
  go_wp2_with fail
  obtain ⟨ad, hA6, r0, r1, r2, r3, r4, r5, r6, r7⟩ := at_T39 RR.out.2 0 (by omega) (by decide)
  obtain ⟨ad', hA6', u0, u1, u2, u3, u4, u5, u6, u7⟩ := at_T39 RR.out.2 1 (by omega) (by decide)
  rw [hA6] at hA6'
  cases hA6'
  obtain ⟨am, hA3, y0, y1, y2, y3, y4⟩ := at_T33 X6.out.2 0 (by omega) (by decide)
  subst hA6 hA3
  have e39a : ∀ W, (binOp .eql 39 (.agg #[.int .i64 7, .int .i64 1, .int .i64 0, .string p4930, .int .i64 28790, .int .i64 28800, .int .i64 1, .int .i64 10]) (.agg #[.int .i64 7, .int .i64 1, .int .i64 0, .string p4930, .int .i64 28790, .int .i64 28800, .int .i64 1, .int .i64 10])).run Try.prog W = .ok (.bool true) W := fun W => by kernel_rfl
  have e39b : ∀ W, (binOp .eql 39 (.agg #[.int .i64 7, .int .i64 1, .int .i64 0, .string p4930, .int .i64 28800, .int .i64 28802, .int .i64 3, .int .i64 6]) (.agg #[.int .i64 7, .int .i64 1, .int .i64 0, .string p4930, .int .i64 28800, .int .i64 28802, .int .i64 3, .int .i64 6])).run Try.prog W = .ok (.bool true) W := fun W => by kernel_rfl
  have e33 : ∀ W, (binOp .eql 33 (.agg #[.int .i64 7, .int .i64 1, .int .i64 0, .string p4930, .int .i64 28790]) (.agg #[.int .i64 7, .int .i64 1, .int .i64 0, .string p4930, .int .i64 28790])).run Try.prog W = .ok (.bool true) W := fun W => by kernel_rfl
  obtain ⟨W9, hW9⟩ : ∃ W9, W9 = (W.alloc (.cells #[.int .i64 7, .int .i64 1, .int .i64 0, .string p4930, .int .i64 28790, .int .i64 28800, .int .i64 1, .int .i64 10] 39)).alloc (.cells #[.int .i64 7, .int .i64 1, .int .i64 0, .string p4930, .int .i64 28800, .int .i64 28802, .int .i64 3, .int .i64 6] 39) := ⟨_, rfl⟩
  rw [← hW9]
  have hb9 : Below W.heap.size W W9 := by rw [hW9]; exact al (below_one _ _) _
  have b1 : W9.heap[W.heap.size]? = some (.cells #[.int .i64 7, .int .i64 1, .int .i64 0, .string p4930, .int .i64 28790, .int .i64 28800, .int .i64 1, .int .i64 10] 39 (0, 0)) := by rw [hW9]; exact ((below_one _ _).block _ (by simp)).trans (heap_alloc_new W _)
  have b2 : W9.heap[W.heap.size + 1]? = some (.cells #[.int .i64 7, .int .i64 1, .int .i64 0, .string p4930, .int .i64 28800, .int .i64 28802, .int .i64 3, .int .i64 6] 39 (0, 0)) := by rw [hW9]; have h := heap_alloc_new (W.alloc (.cells #[.int .i64 7, .int .i64 1, .int .i64 0, .string p4930, .int .i64 28790, .int .i64 28800, .int .i64 1, .int .i64 10] 39)) (.cells #[.int .i64 7, .int .i64 1, .int .i64 0, .string p4930, .int .i64 28800, .int .i64 28802, .int .i64 3, .int .i64 6] 39); rwa [World.size_alloc] at h
  have X9 := Lib.hid (X.out.below hb9)
  have mv : ∀ {a : Addr} {v : Value}, W.cell? a = some v → W9.cell? a = some v := fun h => (hb9.cell (World.block_lt_of_cell? W _ h)).trans h
  have hH : W9.cell? ad = some (.int .i64 7) ∧ W9.cell? ⟨ad.block, ad.off + 1, none⟩ = some (.int .i64 1) ∧ W9.cell? ⟨ad.block, ad.off + 2, none⟩ = some (.int .i64 0) ∧ W9.cell? ⟨ad.block, ad.off + 3, none⟩ = some (.string p4930) ∧ W9.cell? ⟨ad.block, ad.off + 4, none⟩ = some (.int .i64 28790) ∧ W9.cell? ⟨ad.block, ad.off + 5, none⟩ = some (.int .i64 28800) ∧ W9.cell? ⟨ad.block, ad.off + 6, none⟩ = some (.int .i64 1) ∧ W9.cell? ⟨ad.block, ad.off + 7, none⟩ = some (.int .i64 10) ∧ W9.cell? ⟨ad.block, ad.off + 8, none⟩ = some (.int .i64 7) ∧ W9.cell? ⟨ad.block, ad.off + 8 + 1, none⟩ = some (.int .i64 1) ∧ W9.cell? ⟨ad.block, ad.off + 8 + 2, none⟩ = some (.int .i64 0) ∧ W9.cell? ⟨ad.block, ad.off + 8 + 3, none⟩ = some (.string p4930) ∧ W9.cell? ⟨ad.block, ad.off + 8 + 4, none⟩ = some (.int .i64 28800) ∧ W9.cell? ⟨ad.block, ad.off + 8 + 5, none⟩ = some (.int .i64 28802) ∧ W9.cell? ⟨ad.block, ad.off + 8 + 6, none⟩ = some (.int .i64 3) ∧ W9.cell? ⟨ad.block, ad.off + 8 + 7, none⟩ = some (.int .i64 6) ∧ W9.cell? ⟨W.heap.size, 0, none⟩ = some (.int .i64 7) ∧ W9.cell? ⟨W.heap.size, 1, none⟩ = some (.int .i64 1) ∧ W9.cell? ⟨W.heap.size, 2, none⟩ = some (.int .i64 0) ∧ W9.cell? ⟨W.heap.size, 3, none⟩ = some (.string p4930) ∧ W9.cell? ⟨W.heap.size, 4, none⟩ = some (.int .i64 28790) ∧ W9.cell? ⟨W.heap.size, 5, none⟩ = some (.int .i64 28800) ∧ W9.cell? ⟨W.heap.size, 6, none⟩ = some (.int .i64 1) ∧ W9.cell? ⟨W.heap.size, 7, none⟩ = some (.int .i64 10) ∧ W9.cell? ⟨W.heap.size + 1, 0, none⟩ = some (.int .i64 7) ∧ W9.cell? ⟨W.heap.size + 1, 1, none⟩ = some (.int .i64 1) ∧ W9.cell? ⟨W.heap.size + 1, 2, none⟩ = some (.int .i64 0) ∧ W9.cell? ⟨W.heap.size + 1, 3, none⟩ = some (.string p4930) ∧ W9.cell? ⟨W.heap.size + 1, 4, none⟩ = some (.int .i64 28800) ∧ W9.cell? ⟨W.heap.size + 1, 5, none⟩ = some (.int .i64 28802) ∧ W9.cell? ⟨W.heap.size + 1, 6, none⟩ = some (.int .i64 3) ∧ W9.cell? ⟨W.heap.size + 1, 7, none⟩ = some (.int .i64 6) ∧ W9.cell? am = some (.int .i64 7) ∧ W9.cell? ⟨am.block, am.off + 1, none⟩ = some (.int .i64 1) ∧ W9.cell? ⟨am.block, am.off + 2, none⟩ = some (.int .i64 0) ∧ W9.cell? ⟨am.block, am.off + 3, none⟩ = some (.string p4930) ∧ W9.cell? ⟨am.block, am.off + 4, none⟩ = some (.int .i64 28790) ∧ W9.cell? ⟨w.heap.size, 0, none⟩ = some (.int .i64 7) ∧ W9.cell? ⟨w.heap.size, 1, none⟩ = some (.int .i64 1) ∧ W9.cell? ⟨w.heap.size, 2, none⟩ = some (.int .i64 0) ∧ W9.cell? ⟨w.heap.size, 3, none⟩ = some (.string p4930) ∧ W9.cell? ⟨w.heap.size, 4, none⟩ = some (.int .i64 28790) := ⟨mv r0, mv r1, mv r2, mv r3, mv r4, mv r5, mv r6, mv r7, mv u0, mv u1, mv u2, mv u3, mv u4, mv u5, mv u6, mv u7, (blk_cell b1 0).trans rfl, (blk_cell b1 1).trans rfl, (blk_cell b1 2).trans rfl, (blk_cell b1 3).trans rfl, (blk_cell b1 4).trans rfl, (blk_cell b1 5).trans rfl, (blk_cell b1 6).trans rfl, (blk_cell b1 7).trans rfl, (blk_cell b2 0).trans rfl, (blk_cell b2 1).trans rfl, (blk_cell b2 2).trans rfl, (blk_cell b2 3).trans rfl, (blk_cell b2 4).trans rfl, (blk_cell b2 5).trans rfl, (blk_cell b2 6).trans rfl, (blk_cell b2 7).trans rfl, mv y0, mv y1, mv y2, mv y3, mv y4, X9.out.c0, X9.out.c1, X9.out.c2, X9.out.c3, X9.out.c4⟩
  have HH := Lib.hid hH
  have BB := Lib.hid (bb B.out hb9)
  clear hH mv b1 b2 hb9 hW9 r0 r1 r2 r3 r4 r5 r6 r7 u0 u1 u2 u3 u4 u5 u6 u7 y0 y1 y2 y3 y4
  obtain ⟨k0, k1, k2, k3, k4, k5, k6, k7, k8, k9, k10, k11, k12, k13, k14, k15, k16, k17, k18, k19, k20, k21, k22, k23, k24, k25, k26, k27, k28, k29, k30, k31, k32, k33, k34, k35, k36, k37, k38, k39, k40, k41⟩ := HH.out
  go_region_held3 (fun w' => w'.cell? ad = some (.int .i64 7) ∧ w'.cell? ⟨ad.block, ad.off + 1, none⟩ = some (.int .i64 1) ∧ w'.cell? ⟨ad.block, ad.off + 2, none⟩ = some (.int .i64 0) ∧ w'.cell? ⟨ad.block, ad.off + 3, none⟩ = some (.string p4930) ∧ w'.cell? ⟨ad.block, ad.off + 4, none⟩ = some (.int .i64 28790) ∧ w'.cell? ⟨ad.block, ad.off + 5, none⟩ = some (.int .i64 28800) ∧ w'.cell? ⟨ad.block, ad.off + 6, none⟩ = some (.int .i64 1) ∧ w'.cell? ⟨ad.block, ad.off + 7, none⟩ = some (.int .i64 10) ∧ w'.cell? ⟨ad.block, ad.off + 8, none⟩ = some (.int .i64 7) ∧ w'.cell? ⟨ad.block, ad.off + 8 + 1, none⟩ = some (.int .i64 1) ∧ w'.cell? ⟨ad.block, ad.off + 8 + 2, none⟩ = some (.int .i64 0) ∧ w'.cell? ⟨ad.block, ad.off + 8 + 3, none⟩ = some (.string p4930) ∧ w'.cell? ⟨ad.block, ad.off + 8 + 4, none⟩ = some (.int .i64 28800) ∧ w'.cell? ⟨ad.block, ad.off + 8 + 5, none⟩ = some (.int .i64 28802) ∧ w'.cell? ⟨ad.block, ad.off + 8 + 6, none⟩ = some (.int .i64 3) ∧ w'.cell? ⟨ad.block, ad.off + 8 + 7, none⟩ = some (.int .i64 6) ∧ w'.cell? ⟨W.heap.size, 0, none⟩ = some (.int .i64 7) ∧ w'.cell? ⟨W.heap.size, 1, none⟩ = some (.int .i64 1) ∧ w'.cell? ⟨W.heap.size, 2, none⟩ = some (.int .i64 0) ∧ w'.cell? ⟨W.heap.size, 3, none⟩ = some (.string p4930) ∧ w'.cell? ⟨W.heap.size, 4, none⟩ = some (.int .i64 28790) ∧ w'.cell? ⟨W.heap.size, 5, none⟩ = some (.int .i64 28800) ∧ w'.cell? ⟨W.heap.size, 6, none⟩ = some (.int .i64 1) ∧ w'.cell? ⟨W.heap.size, 7, none⟩ = some (.int .i64 10) ∧ w'.cell? ⟨W.heap.size + 1, 0, none⟩ = some (.int .i64 7) ∧ w'.cell? ⟨W.heap.size + 1, 1, none⟩ = some (.int .i64 1) ∧ w'.cell? ⟨W.heap.size + 1, 2, none⟩ = some (.int .i64 0) ∧ w'.cell? ⟨W.heap.size + 1, 3, none⟩ = some (.string p4930) ∧ w'.cell? ⟨W.heap.size + 1, 4, none⟩ = some (.int .i64 28800) ∧ w'.cell? ⟨W.heap.size + 1, 5, none⟩ = some (.int .i64 28802) ∧ w'.cell? ⟨W.heap.size + 1, 6, none⟩ = some (.int .i64 3) ∧ w'.cell? ⟨W.heap.size + 1, 7, none⟩ = some (.int .i64 6) ∧ w'.cell? am = some (.int .i64 7) ∧ w'.cell? ⟨am.block, am.off + 1, none⟩ = some (.int .i64 1) ∧ w'.cell? ⟨am.block, am.off + 2, none⟩ = some (.int .i64 0) ∧ w'.cell? ⟨am.block, am.off + 3, none⟩ = some (.string p4930) ∧ w'.cell? ⟨am.block, am.off + 4, none⟩ = some (.int .i64 28790) ∧ w'.cell? ⟨w.heap.size, 0, none⟩ = some (.int .i64 7) ∧ w'.cell? ⟨w.heap.size, 1, none⟩ = some (.int .i64 1) ∧ w'.cell? ⟨w.heap.size, 2, none⟩ = some (.int .i64 0) ∧ w'.cell? ⟨w.heap.size, 3, none⟩ = some (.string p4930) ∧ w'.cell? ⟨w.heap.size, 4, none⟩ = some (.int .i64 28790)) (go_keep) (fail)
  go_wp2_with fail
  go_ret
  exact ⟨rfl, below_drew BB.out⟩
theorem crossbarlaw27_sane.calls  (r : Bool) (w : World) (h : crossbarlaw27_sane.f  = some r) :
    Calls Try.prog 17 #[] w fun e w' => e = .returned (.bool r) ∧ Below w.heap.size w w' := by
  cases h
  exact sane27_calls w
end Go.Proofs.Ytbfhohpbldadbaa.P
