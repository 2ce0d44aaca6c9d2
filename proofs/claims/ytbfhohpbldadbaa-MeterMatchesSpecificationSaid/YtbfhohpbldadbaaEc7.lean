/- Texts of this claim, merged and cut to what its theorem reaches, by a program of this session: words and contracts that the print (or a changed scratch copy of it) wrote, and own proofs. -/
import Derived.Test.YtbfhohpbldadbaaEcS1
import Derived.Below
import Derived.Deep.Draws
import Derived.Deep.AppendLies
import Derived.Maps.AppendAt
import Derived.OwnWalk
import Derived.Laws.BytesArg
import Derived.Laws.MakeOwn
import Derived.Laws.OwnMore
import Derived.Deep.OwnRows
import Derived.Tactics
import Derived.Lib.ConvBytes
import Derived.Laws.Slices
import Derived.WalkKit
import Derived.KernelRfl
import Derived.RowKit3
import Derived.Deep.LoopGhost
import Derived.Deep.QuietTactic
import Derived.BigQuiet
import Derived.WideLaws
import Derived.Deep.DeepCutAuto
import Derived.Deep.CutBlock
import Derived.Deep.RegionHeld3
import Derived.Laws.Rows
import Derived.Lib.AppendStr
import Derived.ArgAppend
import Derived.Laws.IdiomCopy
import Derived.RowKit
import Derived.Laws.StructEq
import Derived.Test.YtbfhohpbldadbaaProg
import Derived.OrdersHeld
import Derived.Laws.BitsLemmas
import Derived.Lib.Hide
import Derived.WalkSpells
import Derived.Lib.OthersKept
import Derived.Lib.TrimU
import Derived.Laws.RangeAny
import Derived.Maps.Keyed
import Derived.WideKeyRuns
import Derived.Lib.SliceRun
import Derived.Deep.RegionWith
import Derived.RangeFuncNested
import Derived.RangeFuncBound
import Derived.RangeFuncCalls
import Derived.RangeFuncLeaves
import Derived.Shelf.Abstract
import Derived.Shelf.RegionOpen
import Derived.OwnWalkIn
import Derived.TacticsInMore
import Derived.LoopNIn
import Derived.LoopIn
import Derived.ProofKit
import Derived.OpenShut
import Derived.ChangeOld
import Derived.SizedLaws
import Derived.Deep.Slices
import Derived.Lib.SmallJoins
import Derived.Test.YtbfhohpbldadbaaEc6
namespace Go.Proofs.Ytbfhohpbldadbaa.P
open Go Go.RowKit Go.Proofs.YtbfhohpbldadbaaW.PrintWords Go.Proofs.YtbfhohpbldadbaaW.PrintLast Go.Proofs.YtbfhohpbldadbaaW.PrintMore
set_option linter.unusedVariables false
set_option linter.unusedSimpArgs false
def p4930 : ByteArray := ⟨#[52, 57, 51, 48]⟩
def m0 : S33 := ⟨7, 1, 0, p4930, 28790⟩
def ex27 : List S110 := [⟨0, 1⟩, ⟨28800, 3⟩]
def rec1 : S39 := ⟨7, 1, 0, p4930, 28790, 28800, 1, 10⟩
def rec2 : S39 := ⟨7, 1, 0, p4930, 28800, 28802, 3, 6⟩
theorem s1 : meter_Start.f [] 7 1 0 p4930 28790 = some ([m0], 0) := by kernel_rfl
theorem s2 : meter_Start.f [m0] 7 1 0 p4930 28790 = some ([], 270) := by kernel_rfl
theorem s3 : meter_Advance.f [m0] ex27 28795 = some ([m0], [], 0) := by kernel_rfl
theorem s4 : meter_Stop.f [m0] ex27 7 28802 = some ([], [rec1, rec2], 0) := by kernel_rfl
theorem s5 : meter_Stop.f [] ex27 7 28802 = some ([], [], 270) := by kernel_rfl
theorem s6 : meter_Advance.f [m0] ex27 28789 = some ([], [], 1) := by kernel_rfl
theorem s7 : meter_Total.f 5 [rec1, rec2] 7 1 = some (16, 12) := by kernel_rfl
theorem C2B (W : World) (a b c d : Int) : Kd.C k110 (W.alloc (.cells #[.int .i64 a, .int .i64 b, .int .i64 c, .int .i64 d] 110)) (some ⟨W.heap.size, 0, none⟩) 2 [⟨a, b⟩, ⟨c, d⟩] := by
  have h := heap_alloc_new W (.cells #[.int .i64 a, .int .i64 b, .int .i64 c, .int .i64 d] 110)
  refine ⟨rfl, by simp, fun _ => ⟨_, rfl, fun j p hj => ?_⟩⟩
  match j, hj with
  | 0, hj =>
    obtain rfl : (⟨a, b⟩ : S110) = p := by simpa using hj
    refine ⟨[.int .i64 a, .int .i64 b], rfl, ⟨_, _, rfl, rfl, rfl⟩, fun i u hi => ?_⟩
    match i, hi with
    | 0, hi => obtain rfl := (by simpa using hi); exact (blk_cell h 0).trans rfl
    | 1, hi => obtain rfl := (by simpa using hi); exact (blk_cell h 1).trans rfl
    | (n + 2), hi => simp at hi
  | 1, hj =>
    obtain rfl : (⟨c, d⟩ : S110) = p := by simpa using hj
    refine ⟨[.int .i64 c, .int .i64 d], rfl, ⟨_, _, rfl, rfl, rfl⟩, fun i u hi => ?_⟩
    match i, hi with
    | 0, hi => obtain rfl := (by simpa using hi); exact (blk_cell h 2).trans rfl
    | 1, hi => obtain rfl := (by simpa using hi); exact (blk_cell h 3).trans rfl
    | (n + 2), hi => simp at hi
  | (n + 2), hj => simp at hj
set_option maxHeartbeats 1000000 in
set_option maxRecDepth 100000 in
theorem example_calls (w : World) : Calls Try.prog 47 #[] w fun e w' => ∃ A, e = .returned (.agg #[.slice A 2 2]) ∧ Kd.C k110 w' A 2 ex27 ∧ Below w.heap.size w w' := by
  go_enter Try.func47, Try.ntmps47
  go_wp2_with fail
  have q0 := (Bx.new w 25 (.slice (some ⟨w.heap.size + 1, 0, none⟩) 2 2)).below (below_one _ (.cells #[.int .i64 0, .int .i64 1, .int .i64 28800, .int .i64 3] 110))
  have q1 := q0.c0
  refine bodyPost_ret (v := .agg #[.slice (some ⟨w.heap.size + 1, 0, none⟩) 2 2]) (by simp [results, Try.results47, go_sem, q1]) rfl ⟨some ⟨w.heap.size + 1, 0, none⟩, rfl, ?_, al (below_one _ _) _⟩
  have h := C2B (w.alloc (.cells #[.slice (some ⟨w.heap.size + 1, 0, none⟩) 2 2] 25)) 0 1 28800 3
  rwa [World.size_alloc] at h
def crossbarlaw27_sane.f  : Option (Bool) := some true
set_option maxHeartbeats 8000000 in
set_option maxRecDepth 100000 in
theorem sane27_calls (w : World) : Calls Try.prog 17 #[] w fun e w' => e = .returned (.bool true) ∧ Below w.heap.size w w' := by
  have hp : p4930 = ⟨#[52, 57, 51, 48]⟩ := rfl
  have HP := Lib.hid hp
  clear hp
  go_enter Try.func17, Try.ntmps17
  rw [← HP.out]
  have X := Lib.hid (MBlk.new w m0)
  have B := Lib.hid (below_one w (.cells #[.int .i64 m0.f0, .int .i64 m0.f1, .int .i64 m0.f2, .string m0.f3, .int .i64 m0.f4] 33))
  go_wp2_with fail
  refine (meter_Start.calls none 0 [] 7 1 0 p4930 28790 [m0] 0 _ ⟨rfl, by simp, fun h => absurd h (by simp)⟩ (Nat.le_refl _) s1).mono ?_
  rintro e W ⟨v, rfl, hV, hb⟩
  replace B := Lib.hid (bb B.out hb)
  replace X := Lib.hid (X.out.below hb)
  obtain ⟨A1, c1, rfl⟩ := Kd.V_slice hV
  have L := Lib.hid (Kd.V_reads' hV).2
  clear hV
  clear hb
  have x0 : W.cell? ⟨w.heap.size, 0, none⟩ = some (.int .i64 7) := X.out.c0; have x1 : W.cell? ⟨w.heap.size, 1, none⟩ = some (.int .i64 1) := X.out.c1; have x2 : W.cell? ⟨w.heap.size, 2, none⟩ = some (.int .i64 0) := X.out.c2; have x3 : W.cell? ⟨w.heap.size, 3, none⟩ = some (.string p4930) := X.out.c3; have x4 : W.cell? ⟨w.heap.size, 4, none⟩ = some (.int .i64 28790) := X.out.c4
  go_wp2_with fail
  clear x0 x1 x2 x3 x4
  refine (meter_Start.calls A1 c1 [m0] 7 1 0 p4930 28790 [] 270 _ L.out.2 L.out.1 s2).mono ?_
  rintro e W ⟨v, rfl, hV, hb⟩
  replace B := Lib.hid (bb B.out hb)
  replace X := Lib.hid (X.out.below hb)
  replace L := Lib.hid (And.intro L.out.1 (Kd.C_below L.out.2 hb))
  obtain ⟨A2, c2, rfl⟩ := Kd.V_slice hV
  clear hV
  clear hb
  go_wp2_with fail
  refine (example_calls _).mono ?_
  rintro e W ⟨Ae, rfl, hE, hb⟩
  replace B := Lib.hid (bb B.out hb)
  replace X := Lib.hid (X.out.below hb)
  replace L := Lib.hid (And.intro L.out.1 (Kd.C_below L.out.2 hb))
  have E := Lib.hid hE
  clear hE
  clear hb
  go_wp2_with fail
  refine (meter_Advance.calls A1 c1 [m0] Ae 2 ex27 28795 [m0] [] 0 _ L.out.2 L.out.1 E.out (by decide) s3).mono ?_
  rintro e W ⟨v, v', rfl, hV, hV', hb⟩
  replace B := Lib.hid (bb B.out hb)
  replace X := Lib.hid (X.out.below hb)
  replace L := Lib.hid (And.intro L.out.1 (Kd.C_below L.out.2 hb))
  obtain ⟨A3, c3, rfl⟩ := Kd.V_slice hV
  obtain ⟨A4, c4, rfl⟩ := Kd.V_slice hV'
  have X6 := Lib.hid (Kd.V_reads' hV).2
  clear hV hV' E
  clear hb
  go_wp2_with fail
  refine (example_calls _).mono ?_
  rintro e W ⟨Ae, rfl, hE, hb⟩
  replace B := Lib.hid (bb B.out hb)
  replace X := Lib.hid (X.out.below hb)
  replace L := Lib.hid (And.intro L.out.1 (Kd.C_below L.out.2 hb))
  replace X6 := Lib.hid (And.intro X6.out.1 (Kd.C_below X6.out.2 hb))
  have E := Lib.hid hE
  clear hE
  clear hb
  go_wp2_with fail
  refine (meter_Stop.calls A3 c3 [m0] Ae 2 ex27 7 28802 [] [rec1, rec2] 0 _ X6.out.2 X6.out.1 E.out (by decide) s4).mono ?_
  rintro e W ⟨v, v', rfl, hV, hV', hb⟩
  replace B := Lib.hid (bb B.out hb)
  replace X := Lib.hid (X.out.below hb)
  replace L := Lib.hid (And.intro L.out.1 (Kd.C_below L.out.2 hb))
  replace X6 := Lib.hid (And.intro X6.out.1 (Kd.C_below X6.out.2 hb))
  obtain ⟨A5, c5, rfl⟩ := Kd.V_slice hV
  obtain ⟨A6, c6, rfl⟩ := Kd.V_slice hV'
  have RR := Lib.hid (Kd.V_reads' hV').2; have Y := Lib.hid (Kd.V_reads' hV).2
  clear hV hV' E
  clear hb
  go_wp2_with fail
  refine (example_calls _).mono ?_
  rintro e W ⟨Ae, rfl, hE, hb⟩
  replace B := Lib.hid (bb B.out hb)
  replace X := Lib.hid (X.out.below hb)
  replace L := Lib.hid (And.intro L.out.1 (Kd.C_below L.out.2 hb))
  replace X6 := Lib.hid (And.intro X6.out.1 (Kd.C_below X6.out.2 hb))
  replace RR := Lib.hid (And.intro RR.out.1 (Kd.C_below RR.out.2 hb))
  replace Y := Lib.hid (And.intro Y.out.1 (Kd.C_below Y.out.2 hb))
  have E := Lib.hid hE
  clear hE
  clear hb
  go_wp2_with fail
  refine (meter_Stop.calls A5 c5 [] Ae 2 ex27 7 28802 [] [] 270 _ Y.out.2 Y.out.1 E.out (by decide) s5).mono ?_
  rintro e W ⟨v, v', rfl, hV, hV', hb⟩
  replace B := Lib.hid (bb B.out hb)
  replace X := Lib.hid (X.out.below hb)
  replace L := Lib.hid (And.intro L.out.1 (Kd.C_below L.out.2 hb))
  replace X6 := Lib.hid (And.intro X6.out.1 (Kd.C_below X6.out.2 hb))
  replace RR := Lib.hid (And.intro RR.out.1 (Kd.C_below RR.out.2 hb))
  replace Y := Lib.hid (And.intro Y.out.1 (Kd.C_below Y.out.2 hb))
  obtain ⟨A7, c7, rfl⟩ := Kd.V_slice hV
  obtain ⟨A8, c8, rfl⟩ := Kd.V_slice hV'
  clear hV hV' E
  clear hb
  go_wp2_with fail
  refine (example_calls _).mono ?_
  rintro e W ⟨Ae, rfl, hE, hb⟩
  replace B := Lib.hid (bb B.out hb)
  replace X := Lib.hid (X.out.below hb)
  replace L := Lib.hid (And.intro L.out.1 (Kd.C_below L.out.2 hb))
  replace X6 := Lib.hid (And.intro X6.out.1 (Kd.C_below X6.out.2 hb))
  replace RR := Lib.hid (And.intro RR.out.1 (Kd.C_below RR.out.2 hb))
  replace Y := Lib.hid (And.intro Y.out.1 (Kd.C_below Y.out.2 hb))
  have E := Lib.hid hE
  clear hE
  clear hb
  go_wp2_with fail
  refine (meter_Advance.calls A1 c1 [m0] Ae 2 ex27 28789 [] [] 1 _ L.out.2 L.out.1 E.out (by decide) s6).mono ?_
  rintro e W ⟨v, v', rfl, hV, hV', hb⟩
  replace B := Lib.hid (bb B.out hb)
  replace X := Lib.hid (X.out.below hb)
  replace L := Lib.hid (And.intro L.out.1 (Kd.C_below L.out.2 hb))
  replace X6 := Lib.hid (And.intro X6.out.1 (Kd.C_below X6.out.2 hb))
  replace RR := Lib.hid (And.intro RR.out.1 (Kd.C_below RR.out.2 hb))
  replace Y := Lib.hid (And.intro Y.out.1 (Kd.C_below Y.out.2 hb))
  obtain ⟨A9, c9, rfl⟩ := Kd.V_slice hV
  obtain ⟨A10, c10, rfl⟩ := Kd.V_slice hV'
  clear hV hV' E
  clear hb
  go_wp2_with fail
  refine (meter_Total.calls 5 A6 c6 [rec1, rec2] 7 1 16 12 _ RR.out.2 RR.out.1 s7).mono ?_
  rintro e W ⟨rfl, hb⟩
  replace B := Lib.hid (bb B.out hb)
  replace X := Lib.hid (X.out.below hb)
  replace L := Lib.hid (And.intro L.out.1 (Kd.C_below L.out.2 hb))
  replace X6 := Lib.hid (And.intro X6.out.1 (Kd.C_below X6.out.2 hb))
  replace RR := Lib.hid (And.intro RR.out.1 (Kd.C_below RR.out.2 hb))
  replace Y := Lib.hid (And.intro Y.out.1 (Kd.C_below Y.out.2 hb))
  clear hb
  go_wp2_with fail
  obtain ⟨ad, hA6, r0, r1, r2, r3, r4, r5, r6, r7⟩ := at_T39 RR.out.2 0 (by omega) (by decide)
  obtain ⟨ad', hA6', u0, u1, u2, u3, u4, u5, u6, u7⟩ := at_T39 RR.out.2 1 (by omega) (by decide)
  rw [hA6] at hA6'
  cases hA6'
  obtain ⟨am, hA3, y0, y1, y2, y3, y4⟩ := at_T33 X6.out.2 0 (by omega) (by decide)
  subst hA6 hA3
  have e39a : ∀ W, (binOp .eql 39 (.agg #[.int .i64 7, .int .i64 1, .int .i64 0, .string p4930, .int .i64 28790, .int .i64 28800, .int .i64 1, .int .i64 10]) (.agg #[.int .i64 7, .int .i64 1, .int .i64 0, .string p4930, .int .i64 28790, .int .i64 28800, .int .i64 1, .int .i64 10])).run Try.prog W = .ok (.bool true) W := fun W => by kernel_rfl
  have e39b : ∀ W, (binOp .eql 39 (.agg #[.int .i64 7, .int .i64 1, .int .i64 0, .string p4930, .int .i64 28800, .int .i64 28802, .int .i64 3, .int .i64 6]) (.agg #[.int .i64 7, .int .i64 1, .int .i64 0, .string p4930, .int .i64 28800, .int .i64 28802, .int .i64 3, .int .i64 6])).run Try.prog W = .ok (.bool true) W := fun W => by kernel_rfl
  have e33 : ∀ W, (binOp .eql 33 (.agg #[.int .i64 7, .int .i64 1, .int .i64 0, .string p4930, .int .i64 28790]) (.agg #[.int .i64 7, .int .i64 1, .int .i64 0, .string p4930, .int .i64 28790])).run Try.prog W = .ok (.bool true) W := fun W => by kernel_rfl
  obtain ⟨W9, hW9⟩ : ∃ W9, W9 = (W.alloc (.cells #[.int .i64 7, .int .i64 1, .int .i64 0, .string p4930, .int .i64 28790, .int .i64 28800, .int .i64 1, .int .i64 10] 39)).alloc (.cells #[.int .i64 7, .int .i64 1, .int .i64 0, .string p4930, .int .i64 28800, .int .i64 28802, .int .i64 3, .int .i64 6] 39) := ⟨_, rfl⟩
  rw [← hW9]
  have hb9 : Below W.heap.size W W9 := by rw [hW9]; exact al (below_one _ _) _
  have b1 : W9.heap[W.heap.size]? = some (.cells #[.int .i64 7, .int .i64 1, .int .i64 0, .string p4930, .int .i64 28790, .int .i64 28800, .int .i64 1, .int .i64 10] 39 (0, 0)) := by rw [hW9]; exact ((below_one _ _).block _ (by simp)).trans (heap_alloc_new W _)
  have b2 : W9.heap[W.heap.size + 1]? = some (.cells #[.int .i64 7, .int .i64 1, .int .i64 0, .string p4930, .int .i64 28800, .int .i64 28802, .int .i64 3, .int .i64 6] 39 (0, 0)) := by rw [hW9]; have h := heap_alloc_new (W.alloc (.cells #[.int .i64 7, .int .i64 1, .int .i64 0, .string p4930, .int .i64 28790, .int .i64 28800, .int .i64 1, .int .i64 10] 39)) (.cells #[.int .i64 7, .int .i64 1, .int .i64 0, .string p4930, .int .i64 28800, .int .i64 28802, .int .i64 3, .int .i64 6] 39); rwa [World.size_alloc] at h
  have X9 := Lib.hid (X.out.below hb9)
  have mv : ∀ {a : Addr} {v : Value}, W.cell? a = some v → W9.cell? a = some v := fun h => (hb9.cell (World.block_lt_of_cell? W _ h)).trans h
  have hH : W9.cell? ad = some (.int .i64 7) ∧ W9.cell? ⟨ad.block, ad.off + 1, none⟩ = some (.int .i64 1) ∧ W9.cell? ⟨ad.block, ad.off + 2, none⟩ = some (.int .i64 0) ∧ W9.cell? ⟨ad.block, ad.off + 3, none⟩ = some (.string p4930) ∧ W9.cell? ⟨ad.block, ad.off + 4, none⟩ = some (.int .i64 28790) ∧ W9.cell? ⟨ad.block, ad.off + 5, none⟩ = some (.int .i64 28800) ∧ W9.cell? ⟨ad.block, ad.off + 6, none⟩ = some (.int .i64 1) ∧ W9.cell? ⟨ad.block, ad.off + 7, none⟩ = some (.int .i64 10) ∧ W9.cell? ⟨ad.block, ad.off + 8, none⟩ = some (.int .i64 7) ∧ W9.cell? ⟨ad.block, ad.off + 8 + 1, none⟩ = some (.int .i64 1) ∧ W9.cell? ⟨ad.block, ad.off + 8 + 2, none⟩ = some (.int .i64 0) ∧ W9.cell? ⟨ad.block, ad.off + 8 + 3, none⟩ = some (.string p4930) ∧ W9.cell? ⟨ad.block, ad.off + 8 + 4, none⟩ = some (.int .i64 28800) ∧ W9.cell? ⟨ad.block, ad.off + 8 + 5, none⟩ = some (.int .i64 28802) ∧ W9.cell? ⟨ad.block, ad.off + 8 + 6, none⟩ = some (.int .i64 3) ∧ W9.cell? ⟨ad.block, ad.off + 8 + 7, none⟩ = some (.int .i64 6) ∧ W9.cell? ⟨W.heap.size, 0, none⟩ = some (.int .i64 7) ∧ W9.cell? ⟨W.heap.size, 1, none⟩ = some (.int .i64 1) ∧ W9.cell? ⟨W.heap.size, 2, none⟩ = some (.int .i64 0) ∧ W9.cell? ⟨W.heap.size, 3, none⟩ = some (.string p4930) ∧ W9.cell? ⟨W.heap.size, 4, none⟩ = some (.int .i64 28790) ∧ W9.cell? ⟨W.heap.size, 5, none⟩ = some (.int .i64 28800) ∧ W9.cell? ⟨W.heap.size, 6, none⟩ = some (.int .i64 1) ∧ W9.cell? ⟨W.heap.size, 7, none⟩ = some (.int .i64 10) ∧ W9.cell? ⟨W.heap.size + 1, 0, none⟩ = some (.int .i64 7) ∧ W9.cell? ⟨W.heap.size + 1, 1, none⟩ = some (.int .i64 1) ∧ W9.cell? ⟨W.heap.size + 1, 2, none⟩ = some (.int .i64 0) ∧ W9.cell? ⟨W.heap.size + 1, 3, none⟩ = some (.string p4930) ∧ W9.cell? ⟨W.heap.size + 1, 4, none⟩ = some (.int .i64 28800) ∧ W9.cell? ⟨W.heap.size + 1, 5, none⟩ = some (.int .i64 28802) ∧ W9.cell? ⟨W.heap.size + 1, 6, none⟩ = some (.int .i64 3) ∧ W9.cell? ⟨W.heap.size + 1, 7, none⟩ = some (.int .i64 6) ∧ W9.cell? am = some (.int .i64 7) ∧ W9.cell? ⟨am.block, am.off + 1, none⟩ = some (.int .i64 1) ∧ W9.cell? ⟨am.block, am.off + 2, none⟩ = some (.int .i64 0) ∧ W9.cell? ⟨am.block, am.off + 3, none⟩ = some (.string p4930) ∧ W9.cell? ⟨am.block, am.off + 4, none⟩ = some (.int .i64 28790) ∧ W9.cell? ⟨w.heap.size, 0, none⟩ = some (.int .i64 7) ∧ W9.cell? ⟨w.heap.size, 1, none⟩ = some (.int .i64 1) ∧ W9.cell? ⟨w.heap.size, 2, none⟩ = some (.int .i64 0) ∧ W9.cell? ⟨w.heap.size, 3, none⟩ = some (.string p4930) ∧ W9.cell? ⟨w.heap.size, 4, none⟩ = some (.int .i64 28790) := ⟨mv r0, mv r1, mv r2, mv r3, mv r4, mv r5, mv r6, mv r7, mv u0, mv u1, mv u2, mv u3, mv u4, mv u5, mv u6, mv u7, (blk_cell b1 0).trans rfl, (blk_cell b1 1).trans rfl, (blk_cell b1 2).trans rfl, (blk_cell b1 3).trans rfl, (blk_cell b1 4).trans rfl, (blk_cell b1 5).trans rfl, (blk_cell b1 6).trans rfl, (blk_cell b1 7).trans rfl, (blk_cell b2 0).trans rfl, (blk_cell b2 1).trans rfl, (blk_cell b2 2).trans rfl, (blk_cell b2 3).trans rfl, (blk_cell b2 4).trans rfl, (blk_cell b2 5).trans rfl, (blk_cell b2 6).trans rfl, (blk_cell b2 7).trans rfl, mv y0, mv y1, mv y2, mv y3, mv y4, X9.out.c0, X9.out.c1, X9.out.c2, X9.out.c3, X9.out.c4⟩
  have HH := Lib.hid hH
  have BB := Lib.hid (bb B.out hb9)
  clear hH mv b1 b2 hb9 hW9 r0 r1 r2 r3 r4 r5 r6 r7 u0 u1 u2 u3 u4 u5 u6 u7 y0 y1 y2 y3 y4
  obtain ⟨k0, k1, k2, k3, k4, k5, k6, k7, k8, k9, k10, k11, k12, k13, k14, k15, k16, k17, k18, k19, k20, k21, k22, k23, k24, k25, k26, k27, k28, k29, k30, k31, k32, k33, k34, k35, k36, k37, k38, k39, k40, k41⟩ := HH.out
  go_region_held3 (fun w' => w'.cell? ad = some (.int .i64 7) ∧ w'.cell? ⟨ad.block, ad.off + 1, none⟩ = some (.int .i64 1) ∧ w'.cell? ⟨ad.block, ad.off + 2, none⟩ = some (.int .i64 0) ∧ w'.cell? ⟨ad.block, ad.off + 3, none⟩ = some (.string p4930) ∧ w'.cell? ⟨ad.block, ad.off + 4, none⟩ = some (.int .i64 28790) ∧ w'.cell? ⟨ad.block, ad.off + 5, none⟩ = some (.int .i64 28800) ∧ w'.cell? ⟨ad.block, ad.off + 6, none⟩ = some (.int .i64 1) ∧ w'.cell? ⟨ad.block, ad.off + 7, none⟩ = some (.int .i64 10) ∧ w'.cell? ⟨ad.block, ad.off + 8, none⟩ = some (.int .i64 7) ∧ w'.cell? ⟨ad.block, ad.off + 8 + 1, none⟩ = some (.int .i64 1) ∧ w'.cell? ⟨ad.block, ad.off + 8 + 2, none⟩ = some (.int .i64 0) ∧ w'.cell? ⟨ad.block, ad.off + 8 + 3, none⟩ = some (.string p4930) ∧ w'.cell? ⟨ad.block, ad.off + 8 + 4, none⟩ = some (.int .i64 28800) ∧ w'.cell? ⟨ad.block, ad.off + 8 + 5, none⟩ = some (.int .i64 28802) ∧ w'.cell? ⟨ad.block, ad.off + 8 + 6, none⟩ = some (.int .i64 3) ∧ w'.cell? ⟨ad.block, ad.off + 8 + 7, none⟩ = some (.int .i64 6) ∧ w'.cell? ⟨W.heap.size, 0, none⟩ = some (.int .i64 7) ∧ w'.cell? ⟨W.heap.size, 1, none⟩ = some (.int .i64 1) ∧ w'.cell? ⟨W.heap.size, 2, none⟩ = some (.int .i64 0) ∧ w'.cell? ⟨W.heap.size, 3, none⟩ = some (.string p4930) ∧ w'.cell? ⟨W.heap.size, 4, none⟩ = some (.int .i64 28790) ∧ w'.cell? ⟨W.heap.size, 5, none⟩ = some (.int .i64 28800) ∧ w'.cell? ⟨W.heap.size, 6, none⟩ = some (.int .i64 1) ∧ w'.cell? ⟨W.heap.size, 7, none⟩ = some (.int .i64 10) ∧ w'.cell? ⟨W.heap.size + 1, 0, none⟩ = some (.int .i64 7) ∧ w'.cell? ⟨W.heap.size + 1, 1, none⟩ = some (.int .i64 1) ∧ w'.cell? ⟨W.heap.size + 1, 2, none⟩ = some (.int .i64 0) ∧ w'.cell? ⟨W.heap.size + 1, 3, none⟩ = some (.string p4930) ∧ w'.cell? ⟨W.heap.size + 1, 4, none⟩ = some (.int .i64 28800) ∧ w'.cell? ⟨W.heap.size + 1, 5, none⟩ = some (.int .i64 28802) ∧ w'.cell? ⟨W.heap.size + 1, 6, none⟩ = some (.int .i64 3) ∧ w'.cell? ⟨W.heap.size + 1, 7, none⟩ = some (.int .i64 6) ∧ w'.cell? am = some (.int .i64 7) ∧ w'.cell? ⟨am.block, am.off + 1, none⟩ = some (.int .i64 1) ∧ w'.cell? ⟨am.block, am.off + 2, none⟩ = some (.int .i64 0) ∧ w'.cell? ⟨am.block, am.off + 3, none⟩ = some (.string p4930) ∧ w'.cell? ⟨am.block, am.off + 4, none⟩ = some (.int .i64 28790) ∧ w'.cell? ⟨w.heap.size, 0, none⟩ = some (.int .i64 7) ∧ w'.cell? ⟨w.heap.size, 1, none⟩ = some (.int .i64 1) ∧ w'.cell? ⟨w.heap.size, 2, none⟩ = some (.int .i64 0) ∧ w'.cell? ⟨w.heap.size, 3, none⟩ = some (.string p4930) ∧ w'.cell? ⟨w.heap.size, 4, none⟩ = some (.int .i64 28790)) (go_keep) (fail)
  go_wp2_with fail
  go_ret
  exact ⟨rfl, below_drew BB.out⟩
end Go.Proofs.Ytbfhohpbldadbaa.P

-- Written by a program of this session out of the translation (a changed scratch copy of the print). Not trusted: Lean checks it.
namespace Go.Proofs.Ytbfhohpbldadbaa.P
open Go.RowKit Go.Proofs.YtbfhohpbldadbaaW.PrintWords Go.Proofs.YtbfhohpbldadbaaW.PrintLast Go.Proofs.YtbfhohpbldadbaaW.PrintMore
attribute [local go_sem] max2_int min2_int max_two min_two max_three min_three max_four min_four   -- for this text's walks alone
set_option linter.unusedVariables false
set_option linter.unusedSimpArgs false

attribute [local go_sem high] eqA39
/-! ### crossbarref27_SameRecords: function 28 -/
def crossbarref27_SameRecords.l0 : Nat → List (S39) → List (S39) → Int → Option (Bool)
  | 0, _, _, _ => none
  | k + 1, x0, x1, x5 => if x5 < (x0.length : Int) then (if 0 ≤ x5 then (if x5 < (x1.length : Int) then (if (!(((rd_T39 x0 x5).f0) == ((rd_T39 x1 x5).f0)) || (!(((rd_T39 x0 x5).f1) == ((rd_T39 x1 x5).f1)) || (!(((rd_T39 x0 x5).f2) == ((rd_T39 x1 x5).f2)) || (!((((rd_T39 x0 x5).f3).toList) == (((rd_T39 x1 x5).f3).toList)) || (!(((rd_T39 x0 x5).f4) == ((rd_T39 x1 x5).f4)) || (!(((rd_T39 x0 x5).f5) == ((rd_T39 x1 x5).f5)) || (!(((rd_T39 x0 x5).f6) == ((rd_T39 x1 x5).f6)) || (!(((rd_T39 x0 x5).f7) == ((rd_T39 x1 x5).f7)))))))))) = true then (some false) else (crossbarref27_SameRecords.l0 k x0 x1 (wrap64 (x5 + 1)))) else (none)) else (none)) else (some true)
def crossbarref27_SameRecords.f (k : Nat) (l0 : List (S39)) (l1 : List (S39)) : Option (Bool) := if (l0.length : Int) = (l1.length : Int) then (crossbarref27_SameRecords.l0 k l0 l1 0) else (some false)
theorem crossbarref27_SameRecords.mono_l : ∀ k, (∀ y0 y1 y2, LeO (crossbarref27_SameRecords.l0 k y0 y1 y2) (crossbarref27_SameRecords.l0 (k + 1) y0 y1 y2))
  | 0 => fun _ _ _ r h => by simp [crossbarref27_SameRecords.l0] at h
  | k + 1 => by
    have ih0 := crossbarref27_SameRecords.mono_l k
    · intro y0 y1 y2
      unfold crossbarref27_SameRecords.l0
      repeat' first
      | (with_reducible exact ih0 _ _ _)
      | (with_reducible exact LeO.refl _)
      | (with_reducible exact LeO.none _)
      | (with_reducible refine LeO.ite ?_ ?_)
      | (with_reducible refine LeO.bind ?_ (fun _ => ?_))
      | exact ih0 _ _ _
      | exact LeO.none _
      | refine LeO.ite ?_ ?_
      | refine LeO.bind ?_ (fun _ => ?_)
theorem crossbarref27_SameRecords.mono : ∀ a0 a1 k, LeO (crossbarref27_SameRecords.f k a0 a1) (crossbarref27_SameRecords.f (k + 1) a0 a1) := by
  intro a0 a1 k
  have ih0 := crossbarref27_SameRecords.mono_l k
  unfold crossbarref27_SameRecords.f
  repeat' first
      | (with_reducible exact ih0 _ _ _)
      | (with_reducible exact LeO.refl _)
      | (with_reducible exact LeO.none _)
      | (with_reducible refine LeO.ite ?_ ?_)
      | (with_reducible refine LeO.bind ?_ (fun _ => ?_))
      | exact ih0 _ _ _
      | exact LeO.none _
      | refine LeO.ite ?_ ?_
      | refine LeO.bind ?_ (fun _ => ?_)
set_option maxHeartbeats 8000000 in
set_option maxRecDepth 100000 in
theorem crossbarref27_SameRecords.calls (k : Nat) (A0 : Option Addr) (c0 : Nat) (l0 : List (S39)) (A1 : Option Addr) (c1 : Nat) (l1 : List (S39)) (r : Bool) (w : World) (hr0 : Kd.C k39 w A0 l0.length l0) (hc0 : l0.length ≤ c0) (hr1 : Kd.C k39 w A1 l1.length l1) (hc1 : l1.length ≤ c1) (h : crossbarref27_SameRecords.f k l0 l1 = some r) :
    Calls Try.prog 28 #[.slice A0 l0.length c0, .slice A1 l1.length c1] w fun e w' => e = .returned (.bool r) ∧ Drawn0 w w' := by
  have hu39 := Try.underlying39
  have HR0 := Aside0.mk hr0
  have HC0 := Aside0.mk hc0
  clear hr0 hc0
  have HR1 := Aside0.mk hr1
  have HC1 := Aside0.mk hc1
  clear hr1 hc1
  have H : (if (l0.length : Int) = (l1.length : Int) then (crossbarref27_SameRecords.l0 k l0 l1 0) else (some false)) = some r := h
  clear h
  by_cases c3 : (l0.length : Int) = (l1.length : Int)
  · rw [if_pos c3] at H
    have c3b0 : ((l0.length : Int) == (l1.length : Int)) = true := beq_iff_eq.mpr c3
    have c3b1 : ((l0.length : Int) != (l1.length : Int)) = false := bne_eq_false_iff_eq.mpr c3
    have c3b2 : (l0.length == l1.length) = true := by first | simpa using c3 | (simp at c3 ⊢; omega)
    clear c3
    have H' := Aside0.mk H
    clear H
    go_enter Try.func28, Try.ntmps28
    go_wp2
    repeat (go_quiet (fail); try go_wp2)
    go_loopg [5] k (fun kq v5 w' => ∃ (x5_1 : Int), v5 = .int .i64 x5_1 ∧ Aside0 (crossbarref27_SameRecords.l0 kq l0 l1 x5_1 = some r) ∧ Aside0 (kq ≤ k) ∧ Drawn0 w w')
    case atStart => exact ⟨(0), (by first | rfl | (simp; done) | (simp [*]; done)), H', ⟨Nat.le_refl _⟩, by repeat (first | exact Drawn0.refl _ | apply Drawn0.step)⟩
    case round =>
      clear H'
      try clear c1
      try clear c2
      try clear p2
      try clear c3
      try clear c3b0
      try clear c3b1
      try clear c3b2
      obtain ⟨x5_1, rfl, HA, HK1, ⟨m1, rfl⟩⟩ := hrel
      cases gk with
      | zero => exact absurd HA.out (by simp [crossbarref27_SameRecords.l0])
      | succ k1 =>
        have H := HA.out
        clear HA
        simp only [crossbarref27_SameRecords.l0] at H
        by_cases c4 : x5_1 < (l0.length : Int)
        · rw [if_pos c4] at H
          have c4b0 : decide (x5_1 < (l0.length : Int)) = true := decide_eq_true c4
          clear c4
          by_cases c5 : 0 ≤ x5_1
          · rw [if_pos c5] at H
            have c5b0 : decide (0 ≤ x5_1) = true := decide_eq_true c5
            clear c5
            by_cases c6 : x5_1 < (l1.length : Int)
            · rw [if_pos c6] at H
              have c6b0 : decide (x5_1 < (l1.length : Int)) = true := decide_eq_true c6
              clear c6
              by_cases c7 : (!(((rd_T39 l0 x5_1).f0) == ((rd_T39 l1 x5_1).f0)) || (!(((rd_T39 l0 x5_1).f1) == ((rd_T39 l1 x5_1).f1)) || (!(((rd_T39 l0 x5_1).f2) == ((rd_T39 l1 x5_1).f2)) || (!((((rd_T39 l0 x5_1).f3).toList) == (((rd_T39 l1 x5_1).f3).toList)) || (!(((rd_T39 l0 x5_1).f4) == ((rd_T39 l1 x5_1).f4)) || (!(((rd_T39 l0 x5_1).f5) == ((rd_T39 l1 x5_1).f5)) || (!(((rd_T39 l0 x5_1).f6) == ((rd_T39 l1 x5_1).f6)) || (!(((rd_T39 l0 x5_1).f7) == ((rd_T39 l1 x5_1).f7)))))))))) = true
              · rw [if_pos c7] at H
                have c7b0 : (!(((rd_T39 l0 x5_1).f0) == ((rd_T39 l1 x5_1).f0)) || (!(((rd_T39 l0 x5_1).f1) == ((rd_T39 l1 x5_1).f1)) || (!(((rd_T39 l0 x5_1).f2) == ((rd_T39 l1 x5_1).f2)) || (!((((rd_T39 l0 x5_1).f3).toList) == (((rd_T39 l1 x5_1).f3).toList)) || (!(((rd_T39 l0 x5_1).f4) == ((rd_T39 l1 x5_1).f4)) || (!(((rd_T39 l0 x5_1).f5) == ((rd_T39 l1 x5_1).f5)) || (!(((rd_T39 l0 x5_1).f6) == ((rd_T39 l1 x5_1).f6)) || (!(((rd_T39 l0 x5_1).f7) == ((rd_T39 l1 x5_1).f7)))))))))) = true := c7
                clear c7
                obtain rfl := Option.some.inj H
                have p269 : 0 ≤ (x5_1 : Int) := of_decide_eq_true (by first | (with_reducible assumption) | assumption)
                have q269 : x5_1 < (l0.length : Int) := of_decide_eq_true (by first | (with_reducible assumption) | assumption)
                obtain ⟨ad269, e269, hx269_0, hx269_1, hx269_2, hx269_3, hx269_4, hx269_5, hx269_6, hx269_7⟩ := at_T39 HR0.out x5_1 p269 q269
                cases e269
                replace p269 := eq_true p269
                replace q269 := eq_true q269
                have p270 : 0 ≤ (x5_1 : Int) := of_decide_eq_true (by first | (with_reducible assumption) | assumption)
                have q270 : x5_1 < (l1.length : Int) := of_decide_eq_true (by first | (with_reducible assumption) | assumption)
                obtain ⟨ad270, e270, hx270_0, hx270_1, hx270_2, hx270_3, hx270_4, hx270_5, hx270_6, hx270_7⟩ := at_T39 HR1.out x5_1 p270 q270
                cases e270
                replace p270 := eq_true p270
                replace q270 := eq_true q270
                go_wp2
                repeat (go_quiet (fail); try go_wp2)
                go_ret
                exact ⟨by first | rfl | (simp; done) | (simp [*]; done), by repeat (first | exact Drawn0.refl _ | apply Drawn0.step)⟩
              · rw [if_neg c7] at H
                have c7b0 : (!(((rd_T39 l0 x5_1).f0) == ((rd_T39 l1 x5_1).f0)) || (!(((rd_T39 l0 x5_1).f1) == ((rd_T39 l1 x5_1).f1)) || (!(((rd_T39 l0 x5_1).f2) == ((rd_T39 l1 x5_1).f2)) || (!((((rd_T39 l0 x5_1).f3).toList) == (((rd_T39 l1 x5_1).f3).toList)) || (!(((rd_T39 l0 x5_1).f4) == ((rd_T39 l1 x5_1).f4)) || (!(((rd_T39 l0 x5_1).f5) == ((rd_T39 l1 x5_1).f5)) || (!(((rd_T39 l0 x5_1).f6) == ((rd_T39 l1 x5_1).f6)) || (!(((rd_T39 l0 x5_1).f7) == ((rd_T39 l1 x5_1).f7)))))))))) = false := by simpa using c7
                clear c7
                have H' := Aside0.mk H
                clear H
                have p269 : 0 ≤ (x5_1 : Int) := of_decide_eq_true (by first | (with_reducible assumption) | assumption)
                have q269 : x5_1 < (l0.length : Int) := of_decide_eq_true (by first | (with_reducible assumption) | assumption)
                obtain ⟨ad269, e269, hx269_0, hx269_1, hx269_2, hx269_3, hx269_4, hx269_5, hx269_6, hx269_7⟩ := at_T39 HR0.out x5_1 p269 q269
                cases e269
                replace p269 := eq_true p269
                replace q269 := eq_true q269
                have p270 : 0 ≤ (x5_1 : Int) := of_decide_eq_true (by first | (with_reducible assumption) | assumption)
                have q270 : x5_1 < (l1.length : Int) := of_decide_eq_true (by first | (with_reducible assumption) | assumption)
                obtain ⟨ad270, e270, hx270_0, hx270_1, hx270_2, hx270_3, hx270_4, hx270_5, hx270_6, hx270_7⟩ := at_T39 HR1.out x5_1 p270 q270
                cases e270
                replace p270 := eq_true p270
                replace q270 := eq_true q270
                go_wp2
                repeat (go_quiet (fail); try go_wp2)
                go_roundg k1
                case measure => have := HK1.out; omega
                case rel => exact ⟨(wrap64 (x5_1 + 1)), (by first | rfl | (simp; done) | (simp [*]; done)), H', ⟨by have := HK1.out; omega⟩, by repeat (first | exact Drawn0.refl _ | apply Drawn0.step)⟩
            · rw [if_neg c6] at H
              exact absurd H (by simp)
          · rw [if_neg c5] at H
            exact absurd H (by simp)
        · rw [if_neg c4] at H
          have c4b0 : decide (x5_1 < (l0.length : Int)) = false := decide_eq_false c4
          clear c4
          obtain rfl := Option.some.inj H
          go_wp2
          repeat (go_quiet (fail); try go_wp2)
          go_ret
          exact ⟨by first | rfl | (simp; done) | (simp [*]; done), by repeat (first | exact Drawn0.refl _ | apply Drawn0.step)⟩
  · rw [if_neg c3] at H
    have c3b0 : ((l0.length : Int) == (l1.length : Int)) = false := beq_eq_false_iff_ne.mpr c3
    have c3b1 : ((l0.length : Int) != (l1.length : Int)) = true := bne_iff_ne.mpr c3
    have c3b2 : (l0.length == l1.length) = false := by first | simpa using c3 | (simp at c3 ⊢; omega)
    obtain rfl := Option.some.inj H
    go_enter Try.func28, Try.ntmps28
    go_wp2
    repeat (go_quiet (fail); try go_wp2)
    go_ret
    exact ⟨by first | rfl | (simp; done) | (simp [*]; done), by repeat (first | exact Drawn0.refl _ | apply Drawn0.step)⟩

-- NOT PRINTED: function 4 (crossbarlaw27_MeterMatchesSpecification)

/-! ### crossbarref27_Total: function 29 -/
def crossbarref27_Total.l0 : Nat → List (S39) → Int → Int → Int → Int → Int → Option (Int × Int)
  | 0, _, _, _, _, _, _ => none
  | k + 1, x0, x1, x2, x8, x9, x10 => if x10 < (x0.length : Int) then (if 0 ≤ x10 then (if ((rd_T39 x0 x10).f0) = x1 then (if ((rd_T39 x0 x10).f1) = x2 then (crossbarref27_Total.l0 k x0 x1 x2 (wrap64 (x8 + ((rd_T39 x0 x10).f7))) (wrap64 ((wrap64 (x9 + ((rd_T39 x0 x10).f5))) - ((rd_T39 x0 x10).f4))) (wrap64 (x10 + 1))) else (crossbarref27_Total.l0 k x0 x1 x2 x8 x9 (wrap64 (x10 + 1)))) else (crossbarref27_Total.l0 k x0 x1 x2 x8 x9 (wrap64 (x10 + 1)))) else (none)) else (some (x8, x9))
def crossbarref27_Total.f (k : Nat) (l0 : List (S39)) (a1 : Int) (a2 : Int) : Option (Int × Int) := crossbarref27_Total.l0 k l0 a1 a2 0 0 0
theorem crossbarref27_Total.mono_l : ∀ k, (∀ y0 y1 y2 y3 y4 y5, LeO (crossbarref27_Total.l0 k y0 y1 y2 y3 y4 y5) (crossbarref27_Total.l0 (k + 1) y0 y1 y2 y3 y4 y5))
  | 0 => fun _ _ _ _ _ _ r h => by simp [crossbarref27_Total.l0] at h
  | k + 1 => by
    have ih0 := crossbarref27_Total.mono_l k
    · intro y0 y1 y2 y3 y4 y5
      unfold crossbarref27_Total.l0
      repeat' first
      | (with_reducible exact ih0 _ _ _ _ _ _)
      | (with_reducible exact LeO.refl _)
      | (with_reducible exact LeO.none _)
      | (with_reducible refine LeO.ite ?_ ?_)
      | (with_reducible refine LeO.bind ?_ (fun _ => ?_))
      | exact ih0 _ _ _ _ _ _
      | exact LeO.none _
      | refine LeO.ite ?_ ?_
      | refine LeO.bind ?_ (fun _ => ?_)
theorem crossbarref27_Total.mono : ∀ a0 a1 a2 k, LeO (crossbarref27_Total.f k a0 a1 a2) (crossbarref27_Total.f (k + 1) a0 a1 a2) := by
  intro a0 a1 a2 k
  have ih0 := crossbarref27_Total.mono_l k
  unfold crossbarref27_Total.f
  repeat' first
      | (with_reducible exact ih0 _ _ _ _ _ _)
      | (with_reducible exact LeO.refl _)
      | (with_reducible exact LeO.none _)
      | (with_reducible refine LeO.ite ?_ ?_)
      | (with_reducible refine LeO.bind ?_ (fun _ => ?_))
      | exact ih0 _ _ _ _ _ _
      | exact LeO.none _
      | refine LeO.ite ?_ ?_
      | refine LeO.bind ?_ (fun _ => ?_)
/-! ### crossbarlaw27_MeterTotalsMatchSpecification: function 5 -/
def crossbarlaw27_MeterTotalsMatchSpecification.f (k : Nat) (l0 : List (S39)) (a1 : Int) (a2 : Int) (a3 : Int) : Option (Bool) := (crossbarlaw27_sane.f).bind fun t325 => (if t325 = true then (if (l0.length : Int) > 200 then (some true) else ((meter_Total.f k l0 a1 a2).bind fun bt326 => ((crossbarref27_Total.f k l0 a1 a2).bind fun bt328 => (if (wrap64 ((l0.length : Int) + 1)) = 0 then (none) else (if 0 ≤ (Int.tmod (Go.bits .and .i64 a3 65535) (wrap64 ((l0.length : Int) + 1))) then (if (Int.tmod (Go.bits .and .i64 a3 65535) (wrap64 ((l0.length : Int) + 1))) ≤ (l0.length : Int) then ((meter_Total.f k (l0.take ((Int.tmod (Go.bits .and .i64 a3 65535) (wrap64 ((l0.length : Int) + 1))) : Int).toNat) a1 a2).bind fun bt334 => ((meter_Total.f k (l0.drop ((Int.tmod (Go.bits .and .i64 a3 65535) (wrap64 ((l0.length : Int) + 1))) : Int).toNat) a1 a2).bind fun bt340 => (if bt326.1 = bt328.1 then (if bt326.2 = bt328.2 then (if (wrap64 (bt334.1 + bt340.1)) = bt326.1 then (some ((wrap64 (bt334.2 + bt340.2)) == bt326.2)) else (some false)) else (some false)) else (some false)))) else (none)) else (none)))))) else (some false))
theorem crossbarlaw27_MeterTotalsMatchSpecification.mono : ∀ a0 a1 a2 a3 k, LeO (crossbarlaw27_MeterTotalsMatchSpecification.f k a0 a1 a2 a3) (crossbarlaw27_MeterTotalsMatchSpecification.f (k + 1) a0 a1 a2 a3) := by
  intro a0 a1 a2 a3 k
  unfold crossbarlaw27_MeterTotalsMatchSpecification.f
  repeat' first
      | (with_reducible exact crossbarref27_Total.mono _ _ _ _)
      | (with_reducible exact meter_Total.mono _ _ _ _)
      | (with_reducible exact LeO.refl _)
      | (with_reducible exact LeO.none _)
      | (with_reducible refine LeO.ite ?_ ?_)
      | (with_reducible refine LeO.bind ?_ (fun _ => ?_))
      | exact crossbarref27_Total.mono _ _ _ _
      | exact meter_Total.mono _ _ _ _
      | exact LeO.none _
      | refine LeO.ite ?_ ?_
      | refine LeO.bind ?_ (fun _ => ?_)
end Go.Proofs.Ytbfhohpbldadbaa.P

namespace Go.Proofs.Ytbfhohpbldadbaa.P
open Go Go.RowKit Go.Proofs.YtbfhohpbldadbaaW.PrintWords Go.Proofs.YtbfhohpbldadbaaW.PrintLast Go.Proofs.YtbfhohpbldadbaaW.PrintMore
set_option linter.unusedVariables false
set_option linter.unusedSimpArgs false
theorem same27_l0 (a : List S39) (hl : a.length ≤ 1000000) : ∀ (d i k : Nat), i + d = a.length → d + 1 ≤ k → crossbarref27_SameRecords.l0 k a a (i : Int) = some true
  | d, i, 0, _, hk => absurd hk (by omega)
  | 0, i, k + 1, hi, _ => by
    unfold crossbarref27_SameRecords.l0
    rw [if_neg (show ¬ ((i : Int) < (a.length : Int)) by omega)]
  | d + 1, i, k + 1, hi, hk => by
    unfold crossbarref27_SameRecords.l0
    rw [if_pos (show (i : Int) < (a.length : Int) by omega), if_pos (show (0 : Int) ≤ i by omega), if_pos (show (i : Int) < (a.length : Int) by omega), if_neg (by simp), inc (by omega)]
    exact same27_l0 a hl d (i + 1) k (by omega) (by omega)
theorem same27_refl (a : List S39) (hl : a.length ≤ 1000000) : crossbarref27_SameRecords.f (a.length + 1) a a = some true := by
  unfold crossbarref27_SameRecords.f
  rw [if_pos rfl]
  exact same27_l0 a hl a.length 0 _ (by omega) (by omega)
theorem startF_len (l : List S33) (m : S33) : (startF l m).1.length ≤ l.length + 1 := by
  unfold startF
  repeat' split
  all_goals simp
theorem advF4_len (l : List S33) (bs : List S110) (nx rt : Int → Int) (now chk : Int) : (advanceF l bs nx rt now chk).1.length ≤ l.length ∧ (advanceF l bs nx rt now chk).2.1.length ≤ 1024 := by
  unfold advanceF
  split
  · split
    · simp
    · next h =>
      have := advFold_n bs nx rt now l ([], [])
      unfold advFold at h ⊢
      simp only [List.length_nil] at this
      exact ⟨by show (l.foldl (advStep bs nx rt now) ([], [])).1.length ≤ _; omega, by show (l.foldl (advStep bs nx rt now) ([], [])).2.length ≤ _; omega⟩
  · simp
theorem stopF4_len (l : List S33) (bs : List S110) (nx rt : Int → Int) (ref now chk : Int) : (stopF l bs nx rt ref now chk).1.length ≤ l.length ∧ (stopF l bs nx rt ref now chk).2.1.length ≤ 1024 := by
  unfold stopF
  split
  · simp
  · split
    · split
      · split
        · simp
        · next h =>
          have := stopFold_n bs nx rt ref now l ([], [])
          unfold stopFold at h ⊢
          simp only [List.length_nil] at this
          exact ⟨by show (l.foldl (stopStep bs nx rt ref now) ([], [])).1.length ≤ _; omega, by show (l.foldl (stopStep bs nx rt ref now) ([], [])).2.length ≤ _; omega⟩
      · simp
    · simp
/-- SameMeters at twice the same list. -/
theorem sameM4 (A1 : Option Addr) (c1 : Nat) (A2 : Option Addr) (c2 : Nat) (a : List S33) (w : World) (h1 : a.length = a.length ∧ a.length ≤ c1 ∧ Kd.C k33 w A1 a.length a) (h2 : a.length = a.length ∧ a.length ≤ c2 ∧ Kd.C k33 w A2 a.length a) (hl : a.length ≤ 1000000) :
    Calls Try.prog 22 #[.slice A1 a.length c1, .slice A2 a.length c2] w fun e w' => e = .returned (.bool true) ∧ Below w.heap.size w w' := by
  refine (crossbarref27_SameMeters.calls (a.length + 1) A1 c1 a A2 c2 a true w h1.2.2 h1.2.1 h2.2.2 h2.2.1 (same_self a hl (Nat.lt_succ_self _))).mono ?_
  rintro e w' ⟨h, hd⟩
  exact ⟨h, hd.below⟩
theorem sameR4 (A1 : Option Addr) (c1 : Nat) (A2 : Option Addr) (c2 : Nat) (a : List S39) (w : World) (h1 : a.length = a.length ∧ a.length ≤ c1 ∧ Kd.C k39 w A1 a.length a) (h2 : a.length = a.length ∧ a.length ≤ c2 ∧ Kd.C k39 w A2 a.length a) (hl : a.length ≤ 1000000) :
    Calls Try.prog 28 #[.slice A1 a.length c1, .slice A2 a.length c2] w fun e w' => e = .returned (.bool true) ∧ Below w.heap.size w w' := by
  refine (crossbarref27_SameRecords.calls (a.length + 1) A1 c1 a A2 c2 a true w h1.2.2 h1.2.1 h2.2.2 h2.2.1 (same27_refl a hl)).mono ?_
  rintro e w' ⟨h, hd⟩
  exact ⟨h, hd.below⟩
/-- A list that can be read. -/
def RdM (w : World) (A : Option Addr) (c : Nat) (a : List S33) : Prop := a.length = a.length ∧ a.length ≤ c ∧ Kd.C k33 w A a.length a
def RdR (w : World) (A : Option Addr) (c : Nat) (a : List S39) : Prop := a.length = a.length ∧ a.length ≤ c ∧ Kd.C k39 w A a.length a
theorem RdM.below {w w' : World} {A : Option Addr} {c : Nat} {a : List S33} (h : RdM w A c a) (hb : Below w.heap.size w w') : RdM w' A c a := ⟨rfl, h.2.1, Kd.C_below h.2.2 hb⟩
theorem RdR.below {w w' : World} {A : Option Addr} {c : Nat} {a : List S39} (h : RdR w A c a) (hb : Below w.heap.size w w') : RdR w' A c a := ⟨rfl, h.2.1, Kd.C_below h.2.2 hb⟩
theorem adv4_f (l : List S33) (bs : List S110) (now : Int) (hl : l.length ≤ 1000000) : meter_Advance.f l bs now = some (advanceF l bs (nxB bs) (rtB bs) now (chkB bs)) := by
  unfold meter_Advance.f; rw [if_pos hl]
theorem stop4_f (l : List S33) (bs : List S110) (ref now : Int) (hl : l.length ≤ 1000000) : meter_Stop.f l bs ref now = some (stopF l bs (nxB bs) (rtB bs) ref now (chkB bs)) := by
  unfold meter_Stop.f; rw [if_pos hl]
set_option maxHeartbeats 16000000 in
set_option maxRecDepth 100000 in
theorem law4_walk (A0 : Option Addr) (c0 : Nat) (l : List S33) (m : S33) (A2 : Option Addr) (c2 : Nat) (bs : List S110) (ref now : Int) (w : World) (hr0 : Kd.C k33 w A0 l.length l) (hc0 : l.length ≤ c0) (hr2 : Kd.C k110 w A2 bs.length bs) (hc2 : bs.length ≤ c2) :
    Calls Try.prog 4 #[.slice A0 l.length c0, .agg #[.int .i64 m.f0, .int .i64 m.f1, .int .i64 m.f2, .string m.f3, .int .i64 m.f4], .agg #[.slice A2 bs.length c2], .int .i64 ref, .int .i64 now] w (fun e w' => e = .returned (.bool true) ∧ Below w.heap.size w w') := by
  have HR0 := Lib.hid hr0; have HC0 := Lib.hid hc0; have HR2 := Lib.hid hr2; have HC2 := Lib.hid hc2
  clear hr0 hc0 hr2 hc2
  go_enter Try.func4, Try.ntmps4
  go_wp2_with fail
  obtain ⟨w1, hw1⟩ : ∃ w1, w1 = (w.alloc (.cells #[.int .i64 m.f0, .int .i64 m.f1, .int .i64 m.f2, .string m.f3, .int .i64 m.f4] 33)).alloc (.cells #[.slice A2 bs.length c2] 25) := ⟨_, rfl⟩
  rw [← hw1]
  have B := Lib.hid (show Below w.heap.size w w1 by rw [hw1]; exact al (below_one _ _) _)
  have X := Lib.hid (show MBlk w1 w.heap.size m by rw [hw1]; exact (MBlk.new w m).below (below_one _ _))
  have T := Lib.hid (show Bx w1 (w.heap.size + 1) 25 (.slice A2 bs.length c2) by rw [hw1]; have h := Bx.new (w.alloc (.cells #[.int .i64 m.f0, .int .i64 m.f1, .int .i64 m.f2, .string m.f3, .int .i64 m.f4] 33)) 25 (.slice A2 bs.length c2); rwa [World.size_alloc] at h)
  clear hw1
  refine (sane27_calls _).mono ?_
  rintro e w2 ⟨rfl, hb⟩
  replace X := Lib.hid (X.out.below hb); replace T := Lib.hid (T.out.below hb); replace B := Lib.hid (bb B.out hb)
  clear hb
  have q0 := T.out.c0
  go_wp2_with fail
  obtain ⟨b, hfw, hl⟩ := few_ex l bs
  have HFL := Lib.hid hl
  refine (crossbarref27_Few.calls 100 A0 c0 l A2 c2 bs b w2 (Kd.C_below HR0.out B.out) HC0.out (Kd.C_below HR2.out B.out) HC2.out (hfw 100 (Nat.le_refl _))).mono ?_
  clear hfw hl
  rintro e w3 ⟨rfl, hb⟩
  replace X := Lib.hid (X.out.below hb); replace T := Lib.hid (T.out.below hb); replace B := Lib.hid (bb B.out hb)
  clear hb q0
  have x3 := X.out.c3
  cases b
  · go_wp2_with fail
    go_ret
    exact ⟨rfl, B.out⟩
  · have HL := Lib.hid (HFL.out rfl)
    clear HFL
    by_cases hp : (60 : Int) < (m.f3.size : Int)
    · go_wp2_with fail
      go_ret
      exact ⟨rfl, B.out⟩
    · obtain ⟨rs, hrs⟩ : ∃ r, r = startF l m := ⟨_, rfl⟩
      obtain ⟨ra, hra⟩ : ∃ r, r = advanceF l bs (nxB bs) (rtB bs) now (chkB bs) := ⟨_, rfl⟩
      obtain ⟨rp, hrp⟩ : ∃ r, r = stopF l bs (nxB bs) (rtB bs) ref now (chkB bs) := ⟨_, rfl⟩
      have hl40 := HL.out
      have S1 := Lib.hid (show meter_Start.f l m.f0 m.f1 m.f2 m.f3 m.f4 = some (rs.1, rs.2) by rw [hrs]; rfl)
      have S2 := Lib.hid (show crossbarref27_Start.f 6000 l m.f0 m.f1 m.f2 m.f3 m.f4 = some (rs.1, rs.2) by rw [start27_eq l (by omega) m (by omega), hrs])
      have A1 := Lib.hid (show meter_Advance.f l bs now = some (ra.1, ra.2.1, ra.2.2) by rw [adv4_f l bs now (by omega), hra])
      have A3 := Lib.hid (show crossbarref27_Advance.f 6000 l bs now = some (ra.1, ra.2.1, ra.2.2) by rw [advance27_eq l (by omega) bs now (Nat.le_refl _), hra])
      have P1 := Lib.hid (show meter_Stop.f l bs ref now = some (rp.1, rp.2.1, rp.2.2) by rw [stop4_f l bs ref now (by omega), hrp])
      have P2 := Lib.hid (show crossbarref27_Stop.f 6000 l bs ref now = some (rp.1, rp.2.1, rp.2.2) by rw [stop27_eq l (by omega) bs ref now (Nat.le_refl _), hrp])
      have LS := Lib.hid (show rs.1.length ≤ 1000000 by rw [hrs]; have := startF_len l m; omega)
      have LA := Lib.hid (show ra.1.length ≤ 1000000 ∧ ra.2.1.length ≤ 1000000 by rw [hra]; have := advF4_len l bs (nxB bs) (rtB bs) now (chkB bs); omega)
      have LP := Lib.hid (show rp.1.length ≤ 1000000 ∧ rp.2.1.length ≤ 1000000 by rw [hrp]; have := stopF4_len l bs (nxB bs) (rtB bs) ref now (chkB bs); omega)
      clear hrs hra hrp hl40
      have x0 := X.out.c0; have x1 := X.out.c1; have x2 := X.out.c2; have x4 := X.out.c4
      go_wp2_with fail
      refine (meter_Start.calls A0 c0 l m.f0 m.f1 m.f2 m.f3 m.f4 rs.1 rs.2 w3 (Kd.C_below HR0.out B.out) HC0.out S1.out).mono ?_
      rintro e w4 ⟨v, rfl, hV, hb⟩
      obtain ⟨D1, k1, rfl⟩ := Kd.V_slice hV
      have R1 := Lib.hid (show RdM w4 D1 k1 rs.1 from Kd.V_reads' hV)
      replace X := Lib.hid (X.out.below hb); replace T := Lib.hid (T.out.below hb); replace B := Lib.hid (bb B.out hb)
      clear hV hb x0 x1 x2 x3 x4
      have x0 := X.out.c0; have x1 := X.out.c1; have x2 := X.out.c2; have x3 := X.out.c3; have x4 := X.out.c4
      go_wp2_with fail
      refine (crossbarref27_Start.calls 6000 A0 c0 l m.f0 m.f1 m.f2 m.f3 m.f4 rs.1 rs.2 w4 (Kd.C_below HR0.out B.out) HC0.out S2.out).mono ?_
      rintro e w5 ⟨v, rfl, hV, hb⟩
      obtain ⟨D2, k2, rfl⟩ := Kd.R_slice hV
      have R2 := Lib.hid (show RdM w5 D2 k2 rs.1 from Kd.R_reads' hV)
      replace R1 := Lib.hid (R1.out.below hb)
      replace T := Lib.hid (T.out.below hb); replace B := Lib.hid (bb B.out hb)
      clear hV hb x0 x1 x2 x3 x4 X
      have q0 := T.out.c0
      go_wp2_with fail
      refine (meter_Advance.calls A0 c0 l A2 c2 bs now ra.1 ra.2.1 ra.2.2 w5 (Kd.C_below HR0.out B.out) HC0.out (Kd.C_below HR2.out B.out) HC2.out A1.out).mono ?_
      rintro e w6 ⟨v, v', rfl, hV, hV', hb⟩
      obtain ⟨D3, k3, rfl⟩ := Kd.V_slice hV
      obtain ⟨E3, j3, rfl⟩ := Kd.V_slice hV'
      have R3 := Lib.hid (show RdM w6 D3 k3 ra.1 from Kd.V_reads' hV)
      have Q3 := Lib.hid (show RdR w6 E3 j3 ra.2.1 from Kd.V_reads' hV')
      replace R1 := Lib.hid (R1.out.below hb); replace R2 := Lib.hid (R2.out.below hb)
      replace T := Lib.hid (T.out.below hb); replace B := Lib.hid (bb B.out hb)
      clear hV hV' hb q0
      have q0 := T.out.c0
      go_wp2_with fail
      refine (crossbarref27_Advance.calls 6000 A0 c0 l A2 c2 bs now ra.1 ra.2.1 ra.2.2 w6 (Kd.C_below HR0.out B.out) HC0.out (Kd.C_below HR2.out B.out) HC2.out A3.out).mono ?_
      rintro e w7 ⟨v, v', rfl, hV, hV', hb⟩
      obtain ⟨D4, k4, rfl⟩ := Kd.R_slice hV
      obtain ⟨E4, j4, rfl⟩ := Kd.R_slice hV'
      have R4 := Lib.hid (show RdM w7 D4 k4 ra.1 from Kd.R_reads' hV)
      have Q4 := Lib.hid (show RdR w7 E4 j4 ra.2.1 from Kd.R_reads' hV')
      replace R1 := Lib.hid (R1.out.below hb); replace R2 := Lib.hid (R2.out.below hb); replace R3 := Lib.hid (R3.out.below hb); replace Q3 := Lib.hid (Q3.out.below hb)
      replace T := Lib.hid (T.out.below hb); replace B := Lib.hid (bb B.out hb)
      clear hV hV' hb q0
      have q0 := T.out.c0
      go_wp2_with fail
      refine (meter_Stop.calls A0 c0 l A2 c2 bs ref now rp.1 rp.2.1 rp.2.2 w7 (Kd.C_below HR0.out B.out) HC0.out (Kd.C_below HR2.out B.out) HC2.out P1.out).mono ?_
      rintro e w8 ⟨v, v', rfl, hV, hV', hb⟩
      obtain ⟨D5, k5, rfl⟩ := Kd.V_slice hV
      obtain ⟨E5, j5, rfl⟩ := Kd.V_slice hV'
      have R5 := Lib.hid (show RdM w8 D5 k5 rp.1 from Kd.V_reads' hV)
      have Q5 := Lib.hid (show RdR w8 E5 j5 rp.2.1 from Kd.V_reads' hV')
      replace R1 := Lib.hid (R1.out.below hb); replace R2 := Lib.hid (R2.out.below hb); replace R3 := Lib.hid (R3.out.below hb); replace Q3 := Lib.hid (Q3.out.below hb); replace R4 := Lib.hid (R4.out.below hb); replace Q4 := Lib.hid (Q4.out.below hb)
      replace T := Lib.hid (T.out.below hb); replace B := Lib.hid (bb B.out hb)
      clear hV hV' hb q0
      have q0 := T.out.c0
      go_wp2_with fail
      refine (crossbarref27_Stop.calls 6000 A0 c0 l A2 c2 bs ref now rp.1 rp.2.1 rp.2.2 w8 (Kd.C_below HR0.out B.out) HC0.out (Kd.C_below HR2.out B.out) HC2.out P2.out).mono ?_
      rintro e w9 ⟨v, v', rfl, hV, hV', hb⟩
      obtain ⟨D6, k6, rfl⟩ := Kd.R_slice hV
      obtain ⟨E6, j6, rfl⟩ := Kd.R_slice hV'
      have R6 := Lib.hid (show RdM w9 D6 k6 rp.1 from Kd.R_reads' hV)
      have Q6 := Lib.hid (show RdR w9 E6 j6 rp.2.1 from Kd.R_reads' hV')
      replace R1 := Lib.hid (R1.out.below hb); replace R2 := Lib.hid (R2.out.below hb); replace R3 := Lib.hid (R3.out.below hb); replace Q3 := Lib.hid (Q3.out.below hb); replace R4 := Lib.hid (R4.out.below hb); replace Q4 := Lib.hid (Q4.out.below hb); replace R5 := Lib.hid (R5.out.below hb); replace Q5 := Lib.hid (Q5.out.below hb)
      replace B := Lib.hid (bb B.out hb)
      clear hV hV' hb q0 T
      go_wp2_with fail
      refine (sameM4 D1 k1 D2 k2 rs.1 w9 R1.out R2.out LS.out).mono ?_
      rintro e w10 ⟨rfl, hb⟩
      replace R3 := Lib.hid (R3.out.below hb); replace Q3 := Lib.hid (Q3.out.below hb); replace R4 := Lib.hid (R4.out.below hb); replace Q4 := Lib.hid (Q4.out.below hb); replace R5 := Lib.hid (R5.out.below hb); replace Q5 := Lib.hid (Q5.out.below hb); replace R6 := Lib.hid (R6.out.below hb); replace Q6 := Lib.hid (Q6.out.below hb)
      replace B := Lib.hid (bb B.out hb)
      clear hb
      go_wp2_with fail
      refine (sameM4 D3 k3 D4 k4 ra.1 w10 R3.out R4.out LA.out.1).mono ?_
      rintro e w11 ⟨rfl, hb⟩
      replace Q3 := Lib.hid (Q3.out.below hb); replace Q4 := Lib.hid (Q4.out.below hb); replace R5 := Lib.hid (R5.out.below hb); replace Q5 := Lib.hid (Q5.out.below hb); replace R6 := Lib.hid (R6.out.below hb); replace Q6 := Lib.hid (Q6.out.below hb)
      replace B := Lib.hid (bb B.out hb)
      clear hb
      go_wp2_with fail
      refine (sameM4 D5 k5 D6 k6 rp.1 w11 R5.out R6.out LP.out.1).mono ?_
      rintro e w12 ⟨rfl, hb⟩
      replace Q3 := Lib.hid (Q3.out.below hb); replace Q4 := Lib.hid (Q4.out.below hb); replace Q5 := Lib.hid (Q5.out.below hb); replace Q6 := Lib.hid (Q6.out.below hb)
      replace B := Lib.hid (bb B.out hb)
      clear hb
      go_wp2_with fail
      refine (sameR4 E3 j3 E4 j4 ra.2.1 w12 Q3.out Q4.out LA.out.2).mono ?_
      rintro e w13 ⟨rfl, hb⟩
      replace Q5 := Lib.hid (Q5.out.below hb); replace Q6 := Lib.hid (Q6.out.below hb)
      replace B := Lib.hid (bb B.out hb)
      clear hb
      go_wp2_with fail
      refine (sameR4 E5 j5 E6 j6 rp.2.1 w13 Q5.out Q6.out LP.out.2).mono ?_
      rintro e w14 ⟨rfl, hb⟩
      replace B := Lib.hid (bb B.out hb)
      clear hb
      go_wp2_with fail
      go_ret
      exact ⟨by simp, B.out⟩
end Go.Proofs.Ytbfhohpbldadbaa.P

namespace Go.Proofs.Ytbfhohpbldadbaa.P
open Go.RowKit Go.Proofs.YtbfhohpbldadbaaW.PrintWords Go.Proofs.YtbfhohpbldadbaaW.PrintLast Go.Proofs.YtbfhohpbldadbaaW.PrintMore
set_option linter.unusedVariables false
set_option linter.unusedSimpArgs false
open Go.ChangeShapes Go.WideShapes Go.ChangeAt Go.Joins Go.Deep
set_option linter.unusedVariables false

/-- What can be read of a type is of a kind. -/
def Opens {α : Type} (P : Program) (t : TypeId) (d : Kd α) (ok : α → Prop) : Prop :=
  ∀ {H : Type} {enc : TypeId × Value → H} {w : World} {base : Nat} {spare : Nat → Bool} {held : Bool} {fuel : Nat} {cs : List Value} {x : DataW H × List MemPlace}, DataW.trod enc P w base spare held fuel t cs = some x → ∃ a, d.K w a cs ∧ ok a
theorem opens_int {P : Program} {t : TypeId} {k : IntKind} (ht : P.underlying t = some (.int k)) : Opens P t (Kd.int k) (fun n => (Lit.int k n).wf = true) := by
  intro H enc w base spare held fuel cs x h
  obtain ⟨n, rfl, _, hw⟩ := DataW.trod_int ht h
  exact ⟨n, rfl, hw⟩
theorem opens_string {P : Program} {t : TypeId} (ht : P.underlying t = some .string) : Opens P t Kd.string (fun s => s.size ≤ maxLen) := by
  intro H enc w base spare held fuel cs x h
  obtain ⟨s, rfl, _, hs⟩ := DataW.trod_string ht h
  exact ⟨s, rfl, hs⟩
theorem choose_list {α : Type} {n : Nat} {p : Nat → α → Prop} (h : ∀ i, i < n → ∃ x, p i x) : ∃ l : List α, l.length = n ∧ ∀ i x, l[i]? = some x → p i x := by
  induction n with
  | zero => exact ⟨[], rfl, fun i x hx => by simp at hx⟩
  | succ n ih =>
    obtain ⟨l, hl, hp⟩ := ih (fun i hi => h i (by omega))
    obtain ⟨y, hy⟩ := h n (by omega)
    refine ⟨l ++ [y], by simp [hl], fun i x hx => ?_⟩
    by_cases hi : i < n
    · rw [List.getElem?_append_left (by omega)] at hx
      exact hp i x hx
    · have hin : i = n := by
        have := (List.getElem?_eq_some_iff.1 hx).1
        simp [hl] at this
        omega
      subst hin
      rw [List.getElem?_append_right (by omega)] at hx
      simp [hl] at hx
      subst hx
      exact hy
theorem opens_slice {α : Type} {P : Program} {t e : TypeId} {d : Kd α} {ok : α → Prop} (ht : P.underlying t = some (.slice e)) (he : Opens P e d ok) (hc : P.cellsOf e = d.sz) : Opens P t (Kd.slice e d) (fun xs => ∀ x ∈ xs, ok x) := by
  intro H enc w base spare held fuel cs x h
  rcases open_slice ht h with ⟨rfl, _⟩ | ⟨a, len, cap, m, n, D, Pl, rfl, _, hl, hm, hmm, _, hx⟩
  · exact ⟨[], ⟨none, 0, rfl, Nat.le_refl _, Kd.C_nil _ _⟩, by simp⟩
  · have hlm : len ≤ m := by rw [hmm]; split <;> omega
    obtain ⟨xs, hlen, hxs⟩ := choose_list (α := α) (n := len) (p := fun i y => ok y ∧ ∃ c, c.length = d.sz ∧ d.K w y c ∧ ∀ j u, c[j]? = some u → w.cell? (a.add (i * d.sz + j)) = some u) (fun i hi => by
      obtain ⟨cs', h1, h2⟩ := hx i (by omega)
      obtain ⟨y, hy, hok⟩ := he h2
      obtain ⟨_, hcl, hat⟩ := World.cells?_some h1
      rw [hc] at hcl hat
      refine ⟨y, hok, cs', hcl, hy, fun j u hj => ?_⟩
      have hjl : j < cs'.length := (List.getElem?_eq_some_iff.1 hj).1
      have := hat j (by omega)
      rw [Go.Deep.add_add] at this
      rw [this, hj])
    refine ⟨xs, ⟨some a, cap, by rw [hlen], by omega, ?_⟩, ?_⟩
    · refine ⟨rfl, by rw [hlen]; unfold maxLen at hm; omega, fun _ => ⟨a, rfl, fun j p hj => ?_⟩⟩
      obtain ⟨_, c, h1, h2, h3⟩ := hxs j p hj
      exact ⟨c, h1, h2, h3⟩
    · intro y hy
      obtain ⟨i, hi⟩ := List.getElem?_of_mem hy
      exact (hxs i y hi).1

theorem own : ownKnob Try.prog.godebug = none := by kernel_rfl
theorem laidOut : laidOutB Try.prog = true := by kernel_rfl
theorem cells3 : Try.prog.cellsOf 3 = 1 := by kernel_rfl
theorem cells9 : Try.prog.cellsOf 9 = 1 := by kernel_rfl
theorem cells23 : Try.prog.cellsOf 23 = 1 := by kernel_rfl
set_option maxRecDepth 100000 in
theorem opens_band : Opens Try.prog 110 k110 (fun _ => True) := by
  intro H enc w base spare held fuel cs x h
  obtain ⟨xs, n, _, rfl, hl, hlen, hf⟩ := DataW.trod_struct Try.underlying110 h
  rw [show Try.prog.cellsOf 110 = 2 by kernel_rfl] at hl
  match xs, hlen, cs, hl with
  | [y0, y1], _, [c0, c1], _ =>
    have h0 : DataW.trod enc Try.prog w base spare held n 3 [c0] = some y0 := by have := hf 0 _ rfl; simpa [cells3, cells9] using this
    obtain ⟨a0, e0, _⟩ := opens_int Try.underlying3 h0
    have h1 : DataW.trod enc Try.prog w base spare held n 3 [c1] = some y1 := by have := hf 1 _ rfl; simpa [cells3, cells9] using this
    obtain ⟨a1, e1, _⟩ := opens_int Try.underlying3 h1
    exact ⟨(⟨a0, a1⟩ : S110), ⟨[c0], [c1], rfl, e0, e1⟩, trivial⟩
set_option maxRecDepth 100000 in
theorem opens_meter : Opens Try.prog 33 k33 (fun _ => True) := by
  intro H enc w base spare held fuel cs x h
  obtain ⟨xs, n, _, rfl, hl, hlen, hf⟩ := DataW.trod_struct Try.underlying33 h
  rw [show Try.prog.cellsOf 33 = 5 by kernel_rfl] at hl
  match xs, hlen, cs, hl with
  | [y0, y1, y2, y3, y4], _, [c0, c1, c2, c3, c4], _ =>
    have h0 : DataW.trod enc Try.prog w base spare held n 3 [c0] = some y0 := by have := hf 0 _ rfl; simpa [cells3, cells9] using this
    obtain ⟨a0, e0, _⟩ := opens_int Try.underlying3 h0
    have h1 : DataW.trod enc Try.prog w base spare held n 3 [c1] = some y1 := by have := hf 1 _ rfl; simpa [cells3, cells9] using this
    obtain ⟨a1, e1, _⟩ := opens_int Try.underlying3 h1
    have h2 : DataW.trod enc Try.prog w base spare held n 3 [c2] = some y2 := by have := hf 2 _ rfl; simpa [cells3, cells9] using this
    obtain ⟨a2, e2, _⟩ := opens_int Try.underlying3 h2
    have h3 : DataW.trod enc Try.prog w base spare held n 9 [c3] = some y3 := by have := hf 3 _ rfl; simpa [cells3, cells9] using this
    obtain ⟨a3, e3, _⟩ := opens_string Try.underlying9 h3
    have h4 : DataW.trod enc Try.prog w base spare held n 3 [c4] = some y4 := by have := hf 4 _ rfl; simpa [cells3, cells9] using this
    obtain ⟨a4, e4, _⟩ := opens_int Try.underlying3 h4
    exact ⟨(⟨a0, a1, a2, a3, a4⟩ : S33), ⟨[c0], [c1, c2, c3, c4], rfl, e0, ⟨[c1], [c2, c3, c4], rfl, e1, ⟨[c2], [c3, c4], rfl, e2, ⟨[c3], [c4], rfl, e3, e4⟩⟩⟩⟩, trivial⟩
set_option maxRecDepth 100000 in
theorem open_meters {H : Type} {enc : TypeId × Value → H} {w : World} {base : Nat} {spare : Nat → Bool} {held : Bool} {r : Reach} {b0 : Nat} {v : Value} {d : DataW H} {p : List MemPlace}
    (hv : Value.okWide Try.prog w r b0 22 v) (h : DataW.Trod enc Try.prog w base spare held 22 v d p) :
    ∃ (A : Option Addr) (c : Nat) (l : List (S33)), v = .slice A l.length c ∧ Kd.C k33 w A l.length l ∧ l.length ≤ c := by
  obtain ⟨A1, n1, c1, rfl⟩ := okWide_slice Try.underlying22 hv
  obtain ⟨m, hm⟩ := h
  obtain ⟨l, ⟨A, c, e, hl, hc⟩, _⟩ := opens_slice Try.underlying22 opens_meter (by kernel_rfl) hm
  have e1 : Value.slice A1 n1 c1 = .slice A l.length c := by simpa [Value.cells] using e
  exact ⟨A, c, l, e1, hc, hl⟩
set_option maxRecDepth 100000 in
theorem open_tariff {H : Type} {enc : TypeId × Value → H} {w : World} {base : Nat} {spare : Nat → Bool} {held : Bool} {r : Reach} {b0 : Nat} {v : Value} {d : DataW H} {p : List MemPlace}
    (hv : Value.okWide Try.prog w r b0 25 v) (h : DataW.Trod enc Try.prog w base spare held 25 v d p) :
    ∃ (A : Option Addr) (c : Nat) (l : List S110), v = .agg #[.slice A l.length c] ∧ Kd.C k110 w A l.length l ∧ l.length ≤ c := by
  obtain ⟨cs, rfl, hsz⟩ := okWide_struct Try.underlying25 hv
  obtain ⟨m, hm⟩ := h
  obtain ⟨xs, n, _, _, hl, hlen, hf⟩ := DataW.trod_struct Try.underlying25 hm
  rw [show Try.prog.cellsOf 25 = 1 by kernel_rfl] at hsz
  obtain ⟨l0⟩ := cs
  match l0, hsz, xs, hlen with
  | [c0], _, [y0], _ =>
    have h0' : DataW.trod enc Try.prog w base spare held n 23 [c0] = some y0 := by have := hf 0 _ rfl; simpa [Value.cells, cells23] using this
    obtain ⟨l, ⟨A, c, e, hlc, hc⟩, _⟩ := opens_slice Try.underlying23 opens_band (by kernel_rfl) h0'
    have e1 : c0 = .slice A l.length c := by simpa using e
    subst e1
    exact ⟨A, c, l, rfl, hc, hlc⟩
set_option maxRecDepth 100000 in
theorem open_meter {H : Type} {enc : TypeId × Value → H} {w : World} {base : Nat} {spare : Nat → Bool} {held : Bool} {r : Reach} {b0 : Nat} {v : Value} {d : DataW H} {p : List MemPlace}
    (hv : Value.okWide Try.prog w r b0 33 v) (h : DataW.Trod enc Try.prog w base spare held 33 v d p) :
    ∃ m : S33, v = .agg #[.int .i64 m.f0, .int .i64 m.f1, .int .i64 m.f2, .string m.f3, .int .i64 m.f4] := by
  obtain ⟨cs, rfl, hsz⟩ := okWide_struct Try.underlying33 hv
  obtain ⟨m, hm⟩ := h
  obtain ⟨x, hK, _⟩ := opens_meter hm
  have e := k33_open hK
  have e' : cs.toList = _ := e
  exact ⟨x, congrArg Value.agg (by rw [← Array.toArray_toList (xs := cs), e'])⟩
end Go.Proofs.Ytbfhohpbldadbaa.P

