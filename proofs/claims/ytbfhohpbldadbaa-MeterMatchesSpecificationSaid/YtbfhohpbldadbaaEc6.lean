/- Texts of this claim, merged and cut to what its theorem reaches, by a program of this session: words and contracts that the print (or a changed scratch copy of it) wrote, and own proofs. -/
import Derived.Test.YtbfhohpbldadbaaEcS1
import Derived.Below
import Derived.Deep.Draws
import Derived.Deep.AppendLies
import Derived.Maps.AppendAt
import Derived.OwnWalk
import Derived.Laws.BytesArg
import Derived.Laws.MakeOwn
import Derived.Laws.OwnMore
import Derived.Deep.OwnRows
import Derived.Tactics
import Derived.Lib.ConvBytes
import Derived.Laws.Slices
import Derived.WalkKit
import Derived.KernelRfl
import Derived.RowKit3
import Derived.Deep.LoopGhost
import Derived.Deep.QuietTactic
import Derived.BigQuiet
import Derived.WideLaws
import Derived.Deep.DeepCutAuto
import Derived.Deep.CutBlock
import Derived.Deep.RegionHeld3
import Derived.Laws.Rows
import Derived.Lib.AppendStr
import Derived.ArgAppend
import Derived.Laws.IdiomCopy
import Derived.RowKit
import Derived.Laws.StructEq
import Derived.Test.YtbfhohpbldadbaaProg
import Derived.OrdersHeld
import Derived.Laws.BitsLemmas
import Derived.Lib.Hide
import Derived.WalkSpells
import Derived.Lib.OthersKept
import Derived.Lib.TrimU
import Derived.Laws.RangeAny
import Derived.Maps.Keyed
import Derived.WideKeyRuns
import Derived.Lib.SliceRun
import Derived.Deep.RegionWith
import Derived.RangeFuncNested
import Derived.RangeFuncBound
import Derived.RangeFuncCalls
import Derived.RangeFuncLeaves
import Derived.Shelf.Abstract
import Derived.Shelf.RegionOpen
import Derived.OwnWalkIn
import Derived.TacticsInMore
import Derived.LoopNIn
import Derived.LoopIn
import Derived.Test.YtbfhohpbldadbaaEc5
-- Written by a program of this session out of the translation (a changed scratch copy of the print). Not trusted: Lean checks it.
namespace Go.Proofs.Ytbfhohpbldadbaa.P
open Go.RowKit Go.Proofs.YtbfhohpbldadbaaW.PrintWords Go.Proofs.YtbfhohpbldadbaaW.PrintLast Go.Proofs.YtbfhohpbldadbaaW.PrintMore
attribute [local go_sem] max2_int min2_int max_two min_two max_three min_three max_four min_four   -- for this text's walks alone
set_option linter.unusedVariables false
set_option linter.unusedSimpArgs false

/-! ### crossbarref27_Stop: function 27 -/
mutual
def crossbarref27_Stop.j0 : Nat → List (S33) → Int → Int → Bool → List (S110) → Option ((List (S33)) × (List (S39)) × Int)
  | 0, _, _, _, _, _ => none
  | k + 1, x0, x2, x3, x31, x237000 => if x31 = true then (some (([] : List (S33)), ([] : List (S39)), 1)) else (crossbarref27_Stop.l0 k x0 x2 x3 0 0 x237000)
def crossbarref27_Stop.l0 : Nat → List (S33) → Int → Int → Int → Int → List (S110) → Option ((List (S33)) × (List (S39)) × Int)
  | 0, _, _, _, _, _, _ => none
  | k + 1, x0, x2, x3, x11, x12, x237000 => if x12 < (x0.length : Int) then (if 0 ≤ x12 then (if ((rd_T33 x0 x12).f0) = x2 then (if ((rd_T33 x0 x12).f4) > x3 then (some (([] : List (S33)), ([] : List (S39)), 1)) else (crossbarref27_Stop.l0 k x0 x2 x3 (wrap64 (x11 + 1)) (wrap64 (x12 + 1)) x237000)) else (crossbarref27_Stop.l0 k x0 x2 x3 x11 (wrap64 (x12 + 1)) x237000)) else (none)) else ((crossbarref26_Check.f k x237000).bind fun t242 => (if t242 = 0 then (if x11 = 0 then (some (([] : List (S33)), ([] : List (S39)), 270)) else (crossbarref27_Stop.l1 k x0 x2 x3 ([] : List (S33)) ([] : List (S39)) 0 x237000)) else (some (([] : List (S33)), ([] : List (S39)), t242))))
def crossbarref27_Stop.l1 : Nat → List (S33) → Int → Int → List (S33) → List (S39) → Int → List (S110) → Option ((List (S33)) × (List (S39)) × Int)
  | 0, _, _, _, _, _, _, _ => none
  | k + 1, x0, x2, x3, x14, x15, x16, x237000 => if x16 < (x0.length : Int) then (if 0 ≤ x16 then (if ((rd_T33 x0 x16).f0) = x2 then ((crossbarref27_advanced.f k x237000 ((rd_T33 x0 x16).f0) ((rd_T33 x0 x16).f1) ((rd_T33 x0 x16).f2) ((rd_T33 x0 x16).f3) ((rd_T33 x0 x16).f4) x3 x15).bind fun bt249 => (if bt249.2.2.2.2.1 < x3 then ((crossbarref27_record.f k x237000 bt249.1 bt249.2.1 bt249.2.2.1 bt249.2.2.2.1 bt249.2.2.2.2.1 x3).bind fun bt258 => (if bt249.2.2.2.2.2.length < 1954687338268 then (crossbarref27_Stop.l1 k x0 x2 x3 x14 (bt249.2.2.2.2.2 ++ [(⟨bt258.1, bt258.2.1, bt258.2.2.1, bt258.2.2.2.1, bt258.2.2.2.2.1, bt258.2.2.2.2.2.1, bt258.2.2.2.2.2.2.1, bt258.2.2.2.2.2.2.2⟩ : S39)]) (wrap64 (x16 + 1)) x237000) else (none))) else (crossbarref27_Stop.l1 k x0 x2 x3 x14 bt249.2.2.2.2.2 (wrap64 (x16 + 1)) x237000))) else (if x14.length < 2932031007402 then (crossbarref27_Stop.l1 k x0 x2 x3 (x14 ++ [(⟨(rd_T33 x0 x16).f0, (rd_T33 x0 x16).f1, (rd_T33 x0 x16).f2, (rd_T33 x0 x16).f3, (rd_T33 x0 x16).f4⟩ : S33)]) x15 (wrap64 (x16 + 1)) x237000) else (none))) else (none)) else (if (x15.length : Int) > 1024 then (some (([] : List (S33)), ([] : List (S39)), 2)) else (some (x14, x15, 0)))
end
def crossbarref27_Stop.f (k : Nat) (l0 : List (S33)) (l1_0 : List (S110)) (a2 : Int) (a3 : Int) : Option ((List (S33)) × (List (S39)) × Int) := (crossbarref27_Valid.f k l0).bind fun t237 => (if t237 = true then ((crossbarref27_time.f a2).bind fun t238 => (if t238 = true then ((crossbarref27_time.f a3).bind fun t239 => (crossbarref27_Stop.j0 k l0 a2 a3 (!t239) l1_0)) else (crossbarref27_Stop.j0 k l0 a2 a3 true l1_0))) else (crossbarref27_Stop.j0 k l0 a2 a3 true l1_0))
theorem crossbarref27_Stop.mono_l : ∀ k, (∀ y0 y1 y2 y3 y4, LeO (crossbarref27_Stop.j0 k y0 y1 y2 y3 y4) (crossbarref27_Stop.j0 (k + 1) y0 y1 y2 y3 y4)) ∧ (∀ y0 y1 y2 y3 y4 y5, LeO (crossbarref27_Stop.l0 k y0 y1 y2 y3 y4 y5) (crossbarref27_Stop.l0 (k + 1) y0 y1 y2 y3 y4 y5)) ∧ (∀ y0 y1 y2 y3 y4 y5 y6, LeO (crossbarref27_Stop.l1 k y0 y1 y2 y3 y4 y5 y6) (crossbarref27_Stop.l1 (k + 1) y0 y1 y2 y3 y4 y5 y6))
  | 0 => ⟨fun _ _ _ _ _ r h => by simp [crossbarref27_Stop.j0] at h, fun _ _ _ _ _ _ r h => by simp [crossbarref27_Stop.l0] at h, fun _ _ _ _ _ _ _ r h => by simp [crossbarref27_Stop.l1] at h⟩
  | k + 1 => by
    obtain ⟨ih0, ih1, ih2⟩ := crossbarref27_Stop.mono_l k
    refine ⟨?_, ?_, ?_⟩
    · intro y0 y1 y2 y3 y4
      unfold crossbarref27_Stop.j0
      repeat' first
      | (with_reducible exact ih0 _ _ _ _ _)
      | (with_reducible exact ih1 _ _ _ _ _ _)
      | (with_reducible exact ih2 _ _ _ _ _ _ _)
      | (with_reducible exact crossbarref26_Check.mono _ _)
      | (with_reducible exact crossbarref27_Valid.mono _ _)
      | (with_reducible exact crossbarref27_advanced.mono _ _ _ _ _ _ _ _ _)
      | (with_reducible exact crossbarref27_record.mono _ _ _ _ _ _ _ _)
      | (with_reducible exact LeO.refl _)
      | (with_reducible exact LeO.none _)
      | (with_reducible refine LeO.ite ?_ ?_)
      | (with_reducible refine LeO.bind ?_ (fun _ => ?_))
      | exact ih0 _ _ _ _ _
      | exact ih1 _ _ _ _ _ _
      | exact ih2 _ _ _ _ _ _ _
      | exact crossbarref26_Check.mono _ _
      | exact crossbarref27_Valid.mono _ _
      | exact crossbarref27_advanced.mono _ _ _ _ _ _ _ _ _
      | exact crossbarref27_record.mono _ _ _ _ _ _ _ _
      | exact LeO.none _
      | refine LeO.ite ?_ ?_
      | refine LeO.bind ?_ (fun _ => ?_)
    · intro y0 y1 y2 y3 y4 y5
      unfold crossbarref27_Stop.l0
      repeat' first
      | (with_reducible exact ih0 _ _ _ _ _)
      | (with_reducible exact ih1 _ _ _ _ _ _)
      | (with_reducible exact ih2 _ _ _ _ _ _ _)
      | (with_reducible exact crossbarref26_Check.mono _ _)
      | (with_reducible exact crossbarref27_Valid.mono _ _)
      | (with_reducible exact crossbarref27_advanced.mono _ _ _ _ _ _ _ _ _)
      | (with_reducible exact crossbarref27_record.mono _ _ _ _ _ _ _ _)
      | (with_reducible exact LeO.refl _)
      | (with_reducible exact LeO.none _)
      | (with_reducible refine LeO.ite ?_ ?_)
      | (with_reducible refine LeO.bind ?_ (fun _ => ?_))
      | exact ih0 _ _ _ _ _
      | exact ih1 _ _ _ _ _ _
      | exact ih2 _ _ _ _ _ _ _
      | exact crossbarref26_Check.mono _ _
      | exact crossbarref27_Valid.mono _ _
      | exact crossbarref27_advanced.mono _ _ _ _ _ _ _ _ _
      | exact crossbarref27_record.mono _ _ _ _ _ _ _ _
      | exact LeO.none _
      | refine LeO.ite ?_ ?_
      | refine LeO.bind ?_ (fun _ => ?_)
    · intro y0 y1 y2 y3 y4 y5 y6
      unfold crossbarref27_Stop.l1
      repeat' first
      | (with_reducible exact ih0 _ _ _ _ _)
      | (with_reducible exact ih1 _ _ _ _ _ _)
      | (with_reducible exact ih2 _ _ _ _ _ _ _)
      | (with_reducible exact crossbarref26_Check.mono _ _)
      | (with_reducible exact crossbarref27_Valid.mono _ _)
      | (with_reducible exact crossbarref27_advanced.mono _ _ _ _ _ _ _ _ _)
      | (with_reducible exact crossbarref27_record.mono _ _ _ _ _ _ _ _)
      | (with_reducible exact LeO.refl _)
      | (with_reducible exact LeO.none _)
      | (with_reducible refine LeO.ite ?_ ?_)
      | (with_reducible refine LeO.bind ?_ (fun _ => ?_))
      | exact ih0 _ _ _ _ _
      | exact ih1 _ _ _ _ _ _
      | exact ih2 _ _ _ _ _ _ _
      | exact crossbarref26_Check.mono _ _
      | exact crossbarref27_Valid.mono _ _
      | exact crossbarref27_advanced.mono _ _ _ _ _ _ _ _ _
      | exact crossbarref27_record.mono _ _ _ _ _ _ _ _
      | exact LeO.none _
      | refine LeO.ite ?_ ?_
      | refine LeO.bind ?_ (fun _ => ?_)
theorem crossbarref27_Stop.mono : ∀ a0 a1 a2 a3 k, LeO (crossbarref27_Stop.f k a0 a1 a2 a3) (crossbarref27_Stop.f (k + 1) a0 a1 a2 a3) := by
  intro a0 a1 a2 a3 k
  obtain ⟨ih0, ih1, ih2⟩ := crossbarref27_Stop.mono_l k
  unfold crossbarref27_Stop.f
  repeat' first
      | (with_reducible exact ih0 _ _ _ _ _)
      | (with_reducible exact ih1 _ _ _ _ _ _)
      | (with_reducible exact ih2 _ _ _ _ _ _ _)
      | (with_reducible exact crossbarref26_Check.mono _ _)
      | (with_reducible exact crossbarref27_Valid.mono _ _)
      | (with_reducible exact crossbarref27_advanced.mono _ _ _ _ _ _ _ _ _)
      | (with_reducible exact crossbarref27_record.mono _ _ _ _ _ _ _ _)
      | (with_reducible exact LeO.refl _)
      | (with_reducible exact LeO.none _)
      | (with_reducible refine LeO.ite ?_ ?_)
      | (with_reducible refine LeO.bind ?_ (fun _ => ?_))
      | exact ih0 _ _ _ _ _
      | exact ih1 _ _ _ _ _ _
      | exact ih2 _ _ _ _ _ _ _
      | exact crossbarref26_Check.mono _ _
      | exact crossbarref27_Valid.mono _ _
      | exact crossbarref27_advanced.mono _ _ _ _ _ _ _ _ _
      | exact crossbarref27_record.mono _ _ _ _ _ _ _ _
      | exact LeO.none _
      | refine LeO.ite ?_ ?_
      | refine LeO.bind ?_ (fun _ => ?_)
def crossbarref27_Stop.T23 : Bool × List (List Nat × List Nat) := (true, [([], []), ([], []), ([], []), ([1, 2], [1, 2]), ([3], [3]), ([], []), ([], []), ([0, 4, 5, 6], [0, 4, 5, 6]), ([7], [7]), ([8], [8]), ([8], [8]), ([], []), ([11, 9, 7, 0, 1, 2, 3, 4, 5, 6, 7, 8, 9, 11], [9, 11]), ([10, 12, 0, 1, 2, 3, 4, 5, 6, 7, 8, 9, 10, 11, 12], [10])])
def crossbarref27_Stop.B23 : List Nat := [0, 0, 0, 6, 14, 0, 0, 127, 255, 511, 511, 0, 3071, 8191]
theorem crossbarref27_Stop.tab23 : rtab .any (opsOf Try.f27 23) = crossbarref27_Stop.T23 := by kernel_rfl
theorem crossbarref27_Stop.bits23 : waitsOk crossbarref27_Stop.T23.2 crossbarref27_Stop.B23 = true := by kernel_rfl
set_option maxHeartbeats 8000000 in
set_option maxRecDepth 100000 in
theorem crossbarref27_Stop.calls (k : Nat) (A0 : Option Addr) (c0 : Nat) (l0 : List (S33)) (A1_0 : Option Addr) (c1_0 : Nat) (l1_0 : List (S110)) (a2 : Int) (a3 : Int) (r1 : List (S33)) (r2 : List (S39)) (r3 : Int) (w : World) (hr0 : Kd.C k33 w A0 l0.length l0) (hc0 : l0.length ≤ c0) (hr1_0 : Kd.C k110 w A1_0 l1_0.length l1_0) (hc1_0 : l1_0.length ≤ c1_0) (h : crossbarref27_Stop.f k l0 l1_0 a2 a3 = some (r1, r2, r3)) :
    Calls Try.prog 27 #[.slice A0 l0.length c0, .agg #[.slice A1_0 l1_0.length c1_0], .int .i64 a2, .int .i64 a3] w fun e w' => ∃ v0_ v1_ : Value, e = .returned (.tuple #[v0_, v1_, .int .i64 r3]) ∧ Kd.R k33 33 w' w.heap.size (fun _ => True) v0_ r1 ∧ Kd.R k39 39 w' w.heap.size (fun _ => True) v1_ r2 ∧ Below w.heap.size w w' := by
  have hu25 := Try.underlying25
  have hu33 := Try.underlying33
  have HR0 := Aside0.mk hr0
  have HC0 := Aside0.mk hc0
  clear hr0 hc0
  have HR1_0 := Aside0.mk hr1_0
  have HC1_0 := Aside0.mk hc1_0
  clear hr1_0 hc1_0
  have HB := Aside0.mk (Below.refl w.heap.size w)
  have H : ((crossbarref27_Valid.f k l0).bind fun t237 => (if t237 = true then ((crossbarref27_time.f a2).bind fun t238 => (if t238 = true then ((crossbarref27_time.f a3).bind fun t239 => (crossbarref27_Stop.j0 k l0 a2 a3 (!t239) l1_0)) else (crossbarref27_Stop.j0 k l0 a2 a3 true l1_0))) else (crossbarref27_Stop.j0 k l0 a2 a3 true l1_0))) = some (r1, r2, r3) := h
  clear h
  have HC5 := Aside0.mk H
  clear H
  go_enter Try.func27, Try.ntmps27
  go_upto_region 1 with (first | ((with_reducible refine gate_dst (N := 5) rfl ?_); refine box_event ?hg (N := 5) ?hd (cs := #[.slice A1_0 l1_0.length c1_0]) (t := 25) ?hr ?_; (case hd => rfl); (case hg => rfl); (case hr => first | (go_simp; done) | (go_simp; rfl)); intro gb236 hg w6 hbox hb; have n0_ := Aside0.mk (below_step (by repeat (first | (with_reducible first | exact HB.out | apply below_alloc | apply pw_below_drewN | apply below_drew1) | exact HB.out)) hb); have n1_ := Aside0.mk (hbox); have n2_ := Aside0.mk ((by rw [hg]; exact (below_size (by repeat (first | (with_reducible first | exact HB.out | apply below_alloc | apply pw_below_drewN | apply below_drew1) | exact HB.out))) : w.heap.size ≤ gb236)); have n3_ := Aside0.mk ((by rw [hg]; exact (below_size (by repeat (first | (with_reducible first | exact HB.out | apply below_alloc | apply pw_below_drewN | apply below_drew1) | exact HB.out))) : w.heap.size ≤ gb236)); clear HB; have HB := n0_; have BK236 := n1_; have GW236 := n2_; have GE236 := n3_; clear n0_ n1_ n2_ n3_; clear hb hbox hg))
  (try simp only [Act.put, List.setIfInBounds_toArray, List.set_cons_zero, List.set_cons_succ])
  go_cut [31] (fun v31 wc => ∃ (kq : Nat) (x31_4 : Bool), v31 = .bool x31_4 ∧ Aside0 (crossbarref27_Stop.j0 kq l0 a2 a3 x31_4 l1_0 = some (r1, r2, r3)) ∧ Aside0 (kq ≤ k) ∧ Aside0 (wc.heap[gb236]? = some (.cells #[(.slice A1_0 l1_0.length c1_0)] 25 (0, 0))) ∧ Aside0 (Below w.heap.size w wc))
  case first =>
    have H := HC5.out
    clear HC5
    replace H := Option.bind_eq_some_iff.mp H
    obtain ⟨t237, A70, H⟩ := H
    replace H : (if t237 = true then ((crossbarref27_time.f a2).bind fun t238 => (if t238 = true then ((crossbarref27_time.f a3).bind fun t239 => (crossbarref27_Stop.j0 k l0 a2 a3 (!t239) l1_0)) else (crossbarref27_Stop.j0 k l0 a2 a3 true l1_0))) else (crossbarref27_Stop.j0 k l0 a2 a3 true l1_0)) = some (r1, r2, r3) := H
    have A7 := Aside0.mk A70
    clear A70
    by_cases c8 : t237 = true
    · subst c8
      have H1 : ((crossbarref27_time.f a2).bind fun t238 => (if t238 = true then ((crossbarref27_time.f a3).bind fun t239 => (crossbarref27_Stop.j0 k l0 a2 a3 (!t239) l1_0)) else (crossbarref27_Stop.j0 k l0 a2 a3 true l1_0))) = some (r1, r2, r3) := by rw [if_pos rfl] at H; exact H
      clear H
      have H := H1
      clear H1
      replace H := Option.bind_eq_some_iff.mp H
      obtain ⟨t238, A90, H⟩ := H
      replace H : (if t238 = true then ((crossbarref27_time.f a3).bind fun t239 => (crossbarref27_Stop.j0 k l0 a2 a3 (!t239) l1_0)) else (crossbarref27_Stop.j0 k l0 a2 a3 true l1_0)) = some (r1, r2, r3) := H
      have A9 := Aside0.mk A90
      clear A90
      by_cases c10 : t238 = true
      · subst c10
        have H1 : ((crossbarref27_time.f a3).bind fun t239 => (crossbarref27_Stop.j0 k l0 a2 a3 (!t239) l1_0)) = some (r1, r2, r3) := by rw [if_pos rfl] at H; exact H
        clear H
        have H := H1
        clear H1
        replace H := Option.bind_eq_some_iff.mp H
        obtain ⟨t239, A110, H⟩ := H
        replace H : (crossbarref27_Stop.j0 k l0 a2 a3 (!t239) l1_0) = some (r1, r2, r3) := H
        have A11 := Aside0.mk A110
        clear A110
        have H' := Aside0.mk H
        clear H
        go_wp2_with (first | ((with_reducible refine gate_callee (f := 60) rfl ?_); refine goesL_ (some 20) rfl rfl Try.func60 (by kernel_rfl) rfl #[.slice A0 l0.length c0] rfl (by (try simp only [List.map_toArray, List.map_cons, List.map_nil]); first | done | rfl | (simp only [List.length_drop, List.length_take]; rfl)) ?_; (with_reducible refine (crossbarref27_Valid.calls k _ _ l0 true _ ?side1 ?side2 A7.out).mono ?_); (case side1 => repeat (first | exact (Kd.C_below HR0.out HB.out) | (with_reducible refine Kd.C_alloc ?_ _) | (with_reducible refine Kd.C_drewN ?_ _) | (with_reducible refine Kd.C_drew ?_))); (case side2 => exact HC0.out); rintro e w12 ⟨rfl, hb⟩; refine ⟨_, rfl, ?_⟩; have n0_ := Aside0.mk (blk_below (g := gb236) (o := .cells #[.slice A1_0 l1_0.length c1_0] 25 (0, 0)) (by (with_reducible repeat (first | refine blk_drewN ?_ _ | refine blk_drew ?_ | refine blk_alloc ?_ _)); exact BK236.out) hb); have n1_ := Aside0.mk (below_step (by repeat (first | (with_reducible first | exact HB.out | apply below_alloc | apply pw_below_drewN | apply below_drew1 | refine below_set ?_ GE236.out) | exact HB.out)) hb); clear BK236; clear HB; have BK236 := n0_; have HB := n1_; clear n0_ n1_; (try clear hb); (try clear hb2); (try clear hk); (try clear hi)) | (go_at_call 63; (with_reducible refine (crossbarref27_time.calls a2 true _ A9.out).mono ?_); rintro e w' ⟨rfl, ⟨nd, rfl⟩⟩) | (go_at_call 63; (with_reducible refine (crossbarref27_time.calls a3 t239 _ A11.out).mono ?_); rintro e w' ⟨rfl, ⟨nd, rfl⟩⟩))
        go_meet
        case rel => exact ⟨_, (!t239), (by first | rfl | (simp; done) | (simp [*]; done)), H', ⟨by first | omega | exact Nat.le_refl _⟩, ⟨by (with_reducible repeat (first | refine blk_drewN ?_ _ | refine blk_drew ?_ | refine blk_alloc ?_ _)); exact BK236.out⟩, ⟨by repeat (first | (with_reducible first | exact HB.out | apply below_alloc | apply pw_below_drewN | apply below_drew1 | refine below_set ?_ GE236.out) | exact HB.out)⟩⟩
      · replace c10 := Bool.eq_false_iff.mpr c10
        subst c10
        have H1 : (crossbarref27_Stop.j0 k l0 a2 a3 true l1_0) = some (r1, r2, r3) := by rw [if_neg (show ¬ (false = true) by decide)] at H; exact H
        clear H
        have H := H1
        clear H1
        have H' := Aside0.mk H
        clear H
        go_wp2_with (first | ((with_reducible refine gate_callee (f := 60) rfl ?_); refine goesL_ (some 20) rfl rfl Try.func60 (by kernel_rfl) rfl #[.slice A0 l0.length c0] rfl (by (try simp only [List.map_toArray, List.map_cons, List.map_nil]); first | done | rfl | (simp only [List.length_drop, List.length_take]; rfl)) ?_; (with_reducible refine (crossbarref27_Valid.calls k _ _ l0 true _ ?side1 ?side2 A7.out).mono ?_); (case side1 => repeat (first | exact (Kd.C_below HR0.out HB.out) | (with_reducible refine Kd.C_alloc ?_ _) | (with_reducible refine Kd.C_drewN ?_ _) | (with_reducible refine Kd.C_drew ?_))); (case side2 => exact HC0.out); rintro e w13 ⟨rfl, hb⟩; refine ⟨_, rfl, ?_⟩; have n0_ := Aside0.mk (blk_below (g := gb236) (o := .cells #[.slice A1_0 l1_0.length c1_0] 25 (0, 0)) (by (with_reducible repeat (first | refine blk_drewN ?_ _ | refine blk_drew ?_ | refine blk_alloc ?_ _)); exact BK236.out) hb); have n1_ := Aside0.mk (below_step (by repeat (first | (with_reducible first | exact HB.out | apply below_alloc | apply pw_below_drewN | apply below_drew1 | refine below_set ?_ GE236.out) | exact HB.out)) hb); clear BK236; clear HB; have BK236 := n0_; have HB := n1_; clear n0_ n1_; (try clear hb); (try clear hb2); (try clear hk); (try clear hi)) | (go_at_call 63; (with_reducible refine (crossbarref27_time.calls a2 false _ A9.out).mono ?_); rintro e w' ⟨rfl, ⟨nd, rfl⟩⟩))
        go_meet
        case rel => exact ⟨_, (true), (by first | rfl | (simp; done) | (simp [*]; done)), H', ⟨by first | omega | exact Nat.le_refl _⟩, ⟨by (with_reducible repeat (first | refine blk_drewN ?_ _ | refine blk_drew ?_ | refine blk_alloc ?_ _)); exact BK236.out⟩, ⟨by repeat (first | (with_reducible first | exact HB.out | apply below_alloc | apply pw_below_drewN | apply below_drew1 | refine below_set ?_ GE236.out) | exact HB.out)⟩⟩
    · replace c8 := Bool.eq_false_iff.mpr c8
      subst c8
      have H1 : (crossbarref27_Stop.j0 k l0 a2 a3 true l1_0) = some (r1, r2, r3) := by rw [if_neg (show ¬ (false = true) by decide)] at H; exact H
      clear H
      have H := H1
      clear H1
      have H' := Aside0.mk H
      clear H
      go_wp2_with (first | ((with_reducible refine gate_callee (f := 60) rfl ?_); refine goesL_ (some 20) rfl rfl Try.func60 (by kernel_rfl) rfl #[.slice A0 l0.length c0] rfl (by (try simp only [List.map_toArray, List.map_cons, List.map_nil]); first | done | rfl | (simp only [List.length_drop, List.length_take]; rfl)) ?_; (with_reducible refine (crossbarref27_Valid.calls k _ _ l0 false _ ?side1 ?side2 A7.out).mono ?_); (case side1 => repeat (first | exact (Kd.C_below HR0.out HB.out) | (with_reducible refine Kd.C_alloc ?_ _) | (with_reducible refine Kd.C_drewN ?_ _) | (with_reducible refine Kd.C_drew ?_))); (case side2 => exact HC0.out); rintro e w14 ⟨rfl, hb⟩; refine ⟨_, rfl, ?_⟩; have n0_ := Aside0.mk (blk_below (g := gb236) (o := .cells #[.slice A1_0 l1_0.length c1_0] 25 (0, 0)) (by (with_reducible repeat (first | refine blk_drewN ?_ _ | refine blk_drew ?_ | refine blk_alloc ?_ _)); exact BK236.out) hb); have n1_ := Aside0.mk (below_step (by repeat (first | (with_reducible first | exact HB.out | apply below_alloc | apply pw_below_drewN | apply below_drew1 | refine below_set ?_ GE236.out) | exact HB.out)) hb); clear BK236; clear HB; have BK236 := n0_; have HB := n1_; clear n0_ n1_; (try clear hb); (try clear hb2); (try clear hk); (try clear hi)))
      go_meet
      case rel => exact ⟨_, (true), (by first | rfl | (simp; done) | (simp [*]; done)), H', ⟨by first | omega | exact Nat.le_refl _⟩, ⟨by (with_reducible repeat (first | refine blk_drewN ?_ _ | refine blk_drew ?_ | refine blk_alloc ?_ _)); exact BK236.out⟩, ⟨by repeat (first | (with_reducible first | exact HB.out | apply below_alloc | apply pw_below_drewN | apply below_drew1 | refine below_set ?_ GE236.out) | exact HB.out)⟩⟩
  case rest =>
    clear HC5
    try clear c1
    try clear c2
    try clear p2
    try clear c6
    try clear c8
    try clear c10
    obtain ⟨kq, x31_4, rfl, HA, HJ4, BK236, HB⟩ := hcut
    cases kq with
    | zero => exact absurd HA.out (by simp [crossbarref27_Stop.j0])
    | succ kj4 =>
      have H := HA.out
      clear HA
      simp only [crossbarref27_Stop.j0] at H
      by_cases c15 : x31_4 = true
      · subst c15
        have H1 : (some (([] : List (S33)), ([] : List (S39)), 1)) = some (r1, r2, r3) := by rw [if_pos rfl] at H; exact H
        clear H
        have H := H1
        clear H1
        simp only [Option.some.injEq, Prod.mk.injEq] at H
        obtain ⟨rfl, rfl, rfl⟩ := H
        go_wp2
        go_ret3
        exact ⟨_, _, by first | rfl | (simp [errW_none, errW_some] <;> rfl) | (simp [*, errW_none, errW_some] <;> rfl), by first | exact Kd.R_nil _ _ _ _ _ | exact Kd.N_nil _ _ _ _ _ | exact Kd.V_nil _ _ _ _ _ | exact Kd.Q_nil _ _ _ _ _ | exact Kd.S_nil _ _ _ _ _, by first | exact Kd.R_nil _ _ _ _ _ | exact Kd.N_nil _ _ _ _ _ | exact Kd.V_nil _ _ _ _ _ | exact Kd.Q_nil _ _ _ _ _ | exact Kd.S_nil _ _ _ _ _, by repeat (first | (with_reducible first | exact HB.out | apply below_alloc | apply pw_below_drewN | apply below_drew1 | refine below_set ?_ GE236.out) | exact HB.out)⟩
      · replace c15 := Bool.eq_false_iff.mpr c15
        subst c15
        have H1 : (crossbarref27_Stop.l0 kj4 l0 a2 a3 0 0 l1_0) = some (r1, r2, r3) := by rw [if_neg (show ¬ (false = true) by decide)] at H; exact H
        clear H
        have H := H1
        clear H1
        have H' := Aside0.mk H
        clear H
        go_wp2
        go_loopg [11, 12] kj4 (fun kq v11 v12 w' => ∃ (x11_2 : Int) (x12_2 : Int), v11 = .int .i64 x11_2 ∧ v12 = .int .i64 x12_2 ∧ Aside0 (crossbarref27_Stop.l0 kq l0 a2 a3 x11_2 x12_2 l1_0 = some (r1, r2, r3)) ∧ Aside0 (kq ≤ kj4) ∧ Aside0 (w'.heap[gb236]? = some (.cells #[(.slice A1_0 l1_0.length c1_0)] 25 (0, 0))) ∧ Aside0 (Below w.heap.size w w'))
        case atStart => exact ⟨(0), (0), (by first | rfl | (simp; done) | (simp [*]; done)), (by first | rfl | (simp; done) | (simp [*]; done)), H', ⟨Nat.le_refl _⟩, ⟨by (with_reducible repeat (first | refine blk_drewN ?_ _ | refine blk_drew ?_ | refine blk_alloc ?_ _)); exact BK236.out⟩, ⟨by repeat (first | (with_reducible first | exact HB.out | apply below_alloc | apply pw_below_drewN | apply below_drew1 | refine below_set ?_ GE236.out) | exact HB.out)⟩⟩
        case round =>
          clear H'
          try clear c1
          try clear c2
          try clear p2
          try clear c6
          try clear c8
          try clear c10
          try clear c15
          try clear p2
          obtain ⟨x11_2, x12_2, rfl, rfl, HA, HK2, BK236, HB⟩ := hrel
          cases gk with
          | zero => exact absurd HA.out (by simp [crossbarref27_Stop.l0])
          | succ k2 =>
            have H := HA.out
            clear HA
            simp only [crossbarref27_Stop.l0] at H
            by_cases c16 : x12_2 < (l0.length : Int)
            · rw [if_pos c16] at H
              have c16b0 : decide (x12_2 < (l0.length : Int)) = true := decide_eq_true c16
              clear c16
              by_cases c17 : 0 ≤ x12_2
              · rw [if_pos c17] at H
                have c17b0 : decide (0 ≤ x12_2) = true := decide_eq_true c17
                clear c17
                by_cases c18 : ((rd_T33 l0 x12_2).f0) = a2
                · rw [if_pos c18] at H
                  have c18b0 : (((rd_T33 l0 x12_2).f0) == a2) = true := beq_iff_eq.mpr c18
                  have c18b1 : (((rd_T33 l0 x12_2).f0) != a2) = false := bne_eq_false_iff_eq.mpr c18
                  clear c18
                  by_cases c19 : ((rd_T33 l0 x12_2).f4) > a3
                  · rw [if_pos c19] at H
                    have c19b0 : decide (a3 < ((rd_T33 l0 x12_2).f4)) = true := decide_eq_true c19
                    clear c19
                    simp only [Option.some.injEq, Prod.mk.injEq] at H
                    obtain ⟨rfl, rfl, rfl⟩ := H
                    have p240 : 0 ≤ (x12_2 : Int) := of_decide_eq_true (by first | (with_reducible assumption) | assumption)
                    have q240 : x12_2 < (l0.length : Int) := of_decide_eq_true (by first | (with_reducible assumption) | assumption)
                    obtain ⟨ad240, e240, hx240_0, hx240_1, hx240_2, hx240_3, hx240_4⟩ := at_T33 HR0.out x12_2 p240 q240
                    cases e240
                    replace hx240_0 := (HB.out.cell (World.block_lt_of_cell? w _ hx240_0)).trans hx240_0
                    replace hx240_1 := (HB.out.cell (World.block_lt_of_cell? w _ hx240_1)).trans hx240_1
                    replace hx240_2 := (HB.out.cell (World.block_lt_of_cell? w _ hx240_2)).trans hx240_2
                    replace hx240_3 := (HB.out.cell (World.block_lt_of_cell? w _ hx240_3)).trans hx240_3
                    replace hx240_4 := (HB.out.cell (World.block_lt_of_cell? w _ hx240_4)).trans hx240_4
                    replace p240 := eq_true p240
                    replace q240 := eq_true q240
                    have p241 : 0 ≤ (x12_2 : Int) := of_decide_eq_true (by first | (with_reducible assumption) | assumption)
                    have q241 : x12_2 < (l0.length : Int) := of_decide_eq_true (by first | (with_reducible assumption) | assumption)
                    obtain ⟨ad241, e241, hx241_0, hx241_1, hx241_2, hx241_3, hx241_4⟩ := at_T33 HR0.out x12_2 p241 q241
                    obtain rfl : ad240 = ad241 := (by injection e241)
                    replace hx241_0 := (HB.out.cell (World.block_lt_of_cell? w _ hx241_0)).trans hx241_0
                    replace hx241_1 := (HB.out.cell (World.block_lt_of_cell? w _ hx241_1)).trans hx241_1
                    replace hx241_2 := (HB.out.cell (World.block_lt_of_cell? w _ hx241_2)).trans hx241_2
                    replace hx241_3 := (HB.out.cell (World.block_lt_of_cell? w _ hx241_3)).trans hx241_3
                    replace hx241_4 := (HB.out.cell (World.block_lt_of_cell? w _ hx241_4)).trans hx241_4
                    replace p241 := eq_true p241
                    replace q241 := eq_true q241
                    go_wp2
                    go_ret3
                    exact ⟨_, _, by first | rfl | (simp [errW_none, errW_some] <;> rfl) | (simp [*, errW_none, errW_some] <;> rfl), by first | exact Kd.R_nil _ _ _ _ _ | exact Kd.N_nil _ _ _ _ _ | exact Kd.V_nil _ _ _ _ _ | exact Kd.Q_nil _ _ _ _ _ | exact Kd.S_nil _ _ _ _ _, by first | exact Kd.R_nil _ _ _ _ _ | exact Kd.N_nil _ _ _ _ _ | exact Kd.V_nil _ _ _ _ _ | exact Kd.Q_nil _ _ _ _ _ | exact Kd.S_nil _ _ _ _ _, by repeat (first | (with_reducible first | exact HB.out | apply below_alloc | apply pw_below_drewN | apply below_drew1 | refine below_set ?_ GE236.out) | exact HB.out)⟩
                  · rw [if_neg c19] at H
                    have c19b0 : decide (a3 < ((rd_T33 l0 x12_2).f4)) = false := decide_eq_false c19
                    clear c19
                    have H' := Aside0.mk H
                    clear H
                    have p240 : 0 ≤ (x12_2 : Int) := of_decide_eq_true (by first | (with_reducible assumption) | assumption)
                    have q240 : x12_2 < (l0.length : Int) := of_decide_eq_true (by first | (with_reducible assumption) | assumption)
                    obtain ⟨ad240, e240, hx240_0, hx240_1, hx240_2, hx240_3, hx240_4⟩ := at_T33 HR0.out x12_2 p240 q240
                    cases e240
                    replace hx240_0 := (HB.out.cell (World.block_lt_of_cell? w _ hx240_0)).trans hx240_0
                    replace hx240_1 := (HB.out.cell (World.block_lt_of_cell? w _ hx240_1)).trans hx240_1
                    replace hx240_2 := (HB.out.cell (World.block_lt_of_cell? w _ hx240_2)).trans hx240_2
                    replace hx240_3 := (HB.out.cell (World.block_lt_of_cell? w _ hx240_3)).trans hx240_3
                    replace hx240_4 := (HB.out.cell (World.block_lt_of_cell? w _ hx240_4)).trans hx240_4
                    replace p240 := eq_true p240
                    replace q240 := eq_true q240
                    have p241 : 0 ≤ (x12_2 : Int) := of_decide_eq_true (by first | (with_reducible assumption) | assumption)
                    have q241 : x12_2 < (l0.length : Int) := of_decide_eq_true (by first | (with_reducible assumption) | assumption)
                    obtain ⟨ad241, e241, hx241_0, hx241_1, hx241_2, hx241_3, hx241_4⟩ := at_T33 HR0.out x12_2 p241 q241
                    obtain rfl : ad240 = ad241 := (by injection e241)
                    replace hx241_0 := (HB.out.cell (World.block_lt_of_cell? w _ hx241_0)).trans hx241_0
                    replace hx241_1 := (HB.out.cell (World.block_lt_of_cell? w _ hx241_1)).trans hx241_1
                    replace hx241_2 := (HB.out.cell (World.block_lt_of_cell? w _ hx241_2)).trans hx241_2
                    replace hx241_3 := (HB.out.cell (World.block_lt_of_cell? w _ hx241_3)).trans hx241_3
                    replace hx241_4 := (HB.out.cell (World.block_lt_of_cell? w _ hx241_4)).trans hx241_4
                    replace p241 := eq_true p241
                    replace q241 := eq_true q241
                    go_wp2
                    go_roundg k2
                    case measure => have := HJ4.out; have := HK2.out; omega
                    case rel => exact ⟨(wrap64 (x11_2 + 1)), (wrap64 (x12_2 + 1)), (by first | rfl | (simp; done) | (simp [*]; done)), (by first | rfl | (simp; done) | (simp [*]; done)), H', ⟨by have := HJ4.out; have := HK2.out; omega⟩, ⟨by (with_reducible repeat (first | refine blk_drewN ?_ _ | refine blk_drew ?_ | refine blk_alloc ?_ _)); exact BK236.out⟩, ⟨by repeat (first | (with_reducible first | exact HB.out | apply below_alloc | apply pw_below_drewN | apply below_drew1 | refine below_set ?_ GE236.out) | exact HB.out)⟩⟩
                · rw [if_neg c18] at H
                  have c18b0 : (((rd_T33 l0 x12_2).f0) == a2) = false := beq_eq_false_iff_ne.mpr c18
                  have c18b1 : (((rd_T33 l0 x12_2).f0) != a2) = true := bne_iff_ne.mpr c18
                  have H' := Aside0.mk H
                  clear H
                  have p240 : 0 ≤ (x12_2 : Int) := of_decide_eq_true (by first | (with_reducible assumption) | assumption)
                  have q240 : x12_2 < (l0.length : Int) := of_decide_eq_true (by first | (with_reducible assumption) | assumption)
                  obtain ⟨ad240, e240, hx240_0, hx240_1, hx240_2, hx240_3, hx240_4⟩ := at_T33 HR0.out x12_2 p240 q240
                  cases e240
                  replace hx240_0 := (HB.out.cell (World.block_lt_of_cell? w _ hx240_0)).trans hx240_0
                  replace hx240_1 := (HB.out.cell (World.block_lt_of_cell? w _ hx240_1)).trans hx240_1
                  replace hx240_2 := (HB.out.cell (World.block_lt_of_cell? w _ hx240_2)).trans hx240_2
                  replace hx240_3 := (HB.out.cell (World.block_lt_of_cell? w _ hx240_3)).trans hx240_3
                  replace hx240_4 := (HB.out.cell (World.block_lt_of_cell? w _ hx240_4)).trans hx240_4
                  replace p240 := eq_true p240
                  replace q240 := eq_true q240
                  go_wp2
                  go_roundg k2
                  case measure => have := HJ4.out; have := HK2.out; omega
                  case rel => exact ⟨(x11_2), (wrap64 (x12_2 + 1)), (by first | rfl | (simp; done) | (simp [*]; done)), (by first | rfl | (simp; done) | (simp [*]; done)), H', ⟨by have := HJ4.out; have := HK2.out; omega⟩, ⟨by (with_reducible repeat (first | refine blk_drewN ?_ _ | refine blk_drew ?_ | refine blk_alloc ?_ _)); exact BK236.out⟩, ⟨by repeat (first | (with_reducible first | exact HB.out | apply below_alloc | apply pw_below_drewN | apply below_drew1 | refine below_set ?_ GE236.out) | exact HB.out)⟩⟩
              · rw [if_neg c17] at H
                exact absurd H (by simp)
            · rw [if_neg c16] at H
              have c16b0 : decide (x12_2 < (l0.length : Int)) = false := decide_eq_false c16
              clear c16
              replace H := Option.bind_eq_some_iff.mp H
              obtain ⟨t242, A200, H⟩ := H
              replace H : (if t242 = 0 then (if x11_2 = 0 then (some (([] : List (S33)), ([] : List (S39)), 270)) else (crossbarref27_Stop.l1 k2 l0 a2 a3 ([] : List (S33)) ([] : List (S39)) 0 l1_0)) else (some (([] : List (S33)), ([] : List (S39)), t242))) = some (r1, r2, r3) := H
              have A20 := Aside0.mk A200
              clear A200
              by_cases c21 : t242 = 0
              · rw [if_pos c21] at H
                have c21b0 : (t242 == 0) = true := beq_iff_eq.mpr c21
                have c21b1 : (t242 != 0) = false := bne_eq_false_iff_eq.mpr c21
                clear c21
                by_cases c22 : x11_2 = 0
                · rw [if_pos c22] at H
                  have c22b0 : (x11_2 == 0) = true := beq_iff_eq.mpr c22
                  have c22b1 : (x11_2 != 0) = false := bne_eq_false_iff_eq.mpr c22
                  clear c22
                  simp only [Option.some.injEq, Prod.mk.injEq] at H
                  obtain ⟨rfl, rfl, rfl⟩ := H
                  have hcz23_0 : wr.cell? ⟨gb236, 0, none⟩ = some (.slice A1_0 l1_0.length c1_0) := (blk_cell BK236.out 0).trans rfl
                  have hfz23_0 := blk_frozen BK236.out 0
                  go_wp2_with (first | ((with_reducible refine gate_callee (f := 64) rfl ?_); refine goesL_ (some 55) rfl rfl Try.func64 (by kernel_rfl) rfl #[.agg #[.slice A1_0 l1_0.length c1_0]] rfl (by (try simp only [List.map_toArray, List.map_cons, List.map_nil]); first | done | rfl | (simp only [List.length_drop, List.length_take]; rfl)) ?_; (with_reducible refine (crossbarref26_Check.calls k2 _ _ l1_0 t242 _ ?side1 ?side2 A20.out).mono ?_); (case side1 => repeat (first | exact (Kd.C_below HR1_0.out HB.out) | (with_reducible refine Kd.C_alloc ?_ _) | (with_reducible refine Kd.C_drewN ?_ _) | (with_reducible refine Kd.C_drew ?_))); (case side2 => exact HC1_0.out); rintro e w24 ⟨rfl, hb⟩; refine ⟨_, rfl, ?_⟩; have n0_ := Aside0.mk (blk_below (g := gb236) (o := .cells #[.slice A1_0 l1_0.length c1_0] 25 (0, 0)) (by (with_reducible repeat (first | refine blk_drewN ?_ _ | refine blk_drew ?_ | refine blk_alloc ?_ _)); exact BK236.out) hb); have n1_ := Aside0.mk (below_step (by repeat (first | (with_reducible first | exact HB.out | apply below_alloc | apply pw_below_drewN | apply below_drew1 | refine below_set ?_ GE236.out) | exact HB.out)) hb); clear BK236; clear HB; have BK236 := n0_; have HB := n1_; clear n0_ n1_; (try clear hb); (try clear hb2); (try clear hk); (try clear hi)))
                  go_ret3
                  exact ⟨_, _, by first | rfl | (simp [errW_none, errW_some] <;> rfl) | (simp [*, errW_none, errW_some] <;> rfl), by first | exact Kd.R_nil _ _ _ _ _ | exact Kd.N_nil _ _ _ _ _ | exact Kd.V_nil _ _ _ _ _ | exact Kd.Q_nil _ _ _ _ _ | exact Kd.S_nil _ _ _ _ _, by first | exact Kd.R_nil _ _ _ _ _ | exact Kd.N_nil _ _ _ _ _ | exact Kd.V_nil _ _ _ _ _ | exact Kd.Q_nil _ _ _ _ _ | exact Kd.S_nil _ _ _ _ _, by repeat (first | (with_reducible first | exact HB.out | apply below_alloc | apply pw_below_drewN | apply below_drew1 | refine below_set ?_ GE236.out) | exact HB.out)⟩
                · rw [if_neg c22] at H
                  have c22b0 : (x11_2 == 0) = false := beq_eq_false_iff_ne.mpr c22
                  have c22b1 : (x11_2 != 0) = true := bne_iff_ne.mpr c22
                  have H' := Aside0.mk H
                  clear H
                  have hcz25_0 : wr.cell? ⟨gb236, 0, none⟩ = some (.slice A1_0 l1_0.length c1_0) := (blk_cell BK236.out 0).trans rfl
                  have hfz25_0 := blk_frozen BK236.out 0
                  go_wp2_with (first | ((with_reducible refine gate_callee (f := 64) rfl ?_); refine goesL_ (some 55) rfl rfl Try.func64 (by kernel_rfl) rfl #[.agg #[.slice A1_0 l1_0.length c1_0]] rfl (by (try simp only [List.map_toArray, List.map_cons, List.map_nil]); first | done | rfl | (simp only [List.length_drop, List.length_take]; rfl)) ?_; (with_reducible refine (crossbarref26_Check.calls k2 _ _ l1_0 t242 _ ?side1 ?side2 A20.out).mono ?_); (case side1 => repeat (first | exact (Kd.C_below HR1_0.out HB.out) | (with_reducible refine Kd.C_alloc ?_ _) | (with_reducible refine Kd.C_drewN ?_ _) | (with_reducible refine Kd.C_drew ?_))); (case side2 => exact HC1_0.out); rintro e w26 ⟨rfl, hb⟩; refine ⟨_, rfl, ?_⟩; have n0_ := Aside0.mk (blk_below (g := gb236) (o := .cells #[.slice A1_0 l1_0.length c1_0] 25 (0, 0)) (by (with_reducible repeat (first | refine blk_drewN ?_ _ | refine blk_drew ?_ | refine blk_alloc ?_ _)); exact BK236.out) hb); have n1_ := Aside0.mk (below_step (by repeat (first | (with_reducible first | exact HB.out | apply below_alloc | apply pw_below_drewN | apply below_drew1 | refine below_set ?_ GE236.out) | exact HB.out)) hb); clear BK236; clear HB; have BK236 := n0_; have HB := n1_; clear n0_ n1_; (try clear hb); (try clear hb2); (try clear hk); (try clear hi)))
                  go_loopg [14, 15, 16] k2 (fun kq v14 v15 v16 w' => ∃ (x14_3 : List (S33)) (x15_3 : List (S39)) (x16_3 : Int), v16 = .int .i64 x16_3 ∧ Aside0 (crossbarref27_Stop.l1 kq l0 a2 a3 x14_3 x15_3 x16_3 l1_0 = some (r1, r2, r3)) ∧ Aside0 (kq ≤ k2) ∧ Aside0 (Kd.R k33 33 w' w.heap.size (fun _ => True) v14 x14_3) ∧ Aside0 (Kd.R k39 39 w' w.heap.size (fun _ => True) v15 x15_3) ∧ Aside0 (w'.heap[gb236]? = some (.cells #[(.slice A1_0 l1_0.length c1_0)] 25 (0, 0))) ∧ Aside0 (Below w.heap.size w w'))
                  case atStart => exact ⟨(([] : List (S33))), (([] : List (S39))), (0), (by first | rfl | (simp; done) | (simp [*]; done)), H', ⟨Nat.le_refl _⟩, ⟨by first | exact Kd.R_nil _ _ _ _ _ | exact Kd.N_nil _ _ _ _ _ | exact Kd.V_nil _ _ _ _ _ | exact Kd.Q_nil _ _ _ _ _ | exact Kd.S_nil _ _ _ _ _⟩, ⟨by first | exact Kd.R_nil _ _ _ _ _ | exact Kd.N_nil _ _ _ _ _ | exact Kd.V_nil _ _ _ _ _ | exact Kd.Q_nil _ _ _ _ _ | exact Kd.S_nil _ _ _ _ _⟩, ⟨by (with_reducible repeat (first | refine blk_drewN ?_ _ | refine blk_drew ?_ | refine blk_alloc ?_ _)); exact BK236.out⟩, ⟨by repeat (first | (with_reducible first | exact HB.out | apply below_alloc | apply pw_below_drewN | apply below_drew1 | refine below_set ?_ GE236.out) | exact HB.out)⟩⟩
                  case round =>
                    clear H'
                    try clear c1
                    try clear c2
                    try clear p2
                    try clear q2
                    try clear hx2
                    try clear c6
                    try clear p6
                    try clear c8
                    try clear c10
                    try clear c15
                    try clear c16
                    try clear c16b0
                    try clear c17
                    try clear c17b0
                    try clear c18
                    try clear c18b0
                    try clear c18b1
                    try clear c19
                    try clear c19b0
                    try clear c21
                    try clear c21b0
                    try clear c21b1
                    try clear c22
                    try clear c22b0
                    try clear c22b1
                    try clear p24
                    try clear q24
                    try clear hx24
                    try clear hcz23_0
                    try clear hcz25_0
                    try clear hfz23_0
                    try clear hfz25_0
                    try clear hx240_0
                    try clear hx240_1
                    try clear hx240_2
                    try clear hx240_3
                    try clear hx240_4
                    try clear hx241_0
                    try clear hx241_1
                    try clear hx241_2
                    try clear hx241_3
                    try clear hx241_4
                    try clear p2
                    try clear p240
                    try clear p241
                    try clear q240
                    try clear q241
                    obtain ⟨x14_3, x15_3, x16_3, rfl, HA, HK3, HO_14, HO_15, BK236, HB⟩ := hrel
                    cases gk with
                    | zero => exact absurd HA.out (by simp [crossbarref27_Stop.l1])
                    | succ k3 =>
                      have H := HA.out
                      clear HA
                      simp only [crossbarref27_Stop.l1] at H
                      by_cases c27 : x16_3 < (l0.length : Int)
                      · rw [if_pos c27] at H
                        have c27b0 : decide (x16_3 < (l0.length : Int)) = true := decide_eq_true c27
                        clear c27
                        by_cases c28 : 0 ≤ x16_3
                        · rw [if_pos c28] at H
                          have c28b0 : decide (0 ≤ x16_3) = true := decide_eq_true c28
                          clear c28
                          by_cases c29 : ((rd_T33 l0 x16_3).f0) = a2
                          · rw [if_pos c29] at H
                            have c29b0 : (((rd_T33 l0 x16_3).f0) == a2) = true := beq_iff_eq.mpr c29
                            have c29b1 : (((rd_T33 l0 x16_3).f0) != a2) = false := bne_eq_false_iff_eq.mpr c29
                            clear c29
                            replace H := Option.bind_eq_some_iff.mp H
                            obtain ⟨⟨t249, t250, t251, t252, t253, t254⟩, A300, H⟩ := H
                            replace H : (if t253 < a3 then ((crossbarref27_record.f k3 l1_0 t249 t250 t251 t252 t253 a3).bind fun bt258 => (if t254.length < 1954687338268 then (crossbarref27_Stop.l1 k3 l0 a2 a3 x14_3 (t254 ++ [(⟨bt258.1, bt258.2.1, bt258.2.2.1, bt258.2.2.2.1, bt258.2.2.2.2.1, bt258.2.2.2.2.2.1, bt258.2.2.2.2.2.2.1, bt258.2.2.2.2.2.2.2⟩ : S39)]) (wrap64 (x16_3 + 1)) l1_0) else (none))) else (crossbarref27_Stop.l1 k3 l0 a2 a3 x14_3 t254 (wrap64 (x16_3 + 1)) l1_0)) = some (r1, r2, r3) := H
                            have A30 := Aside0.mk A300
                            clear A300
                            by_cases c31 : t253 < a3
                            · rw [if_pos c31] at H
                              have c31b0 : decide (t253 < a3) = true := decide_eq_true c31
                              clear c31
                              replace H := Option.bind_eq_some_iff.mp H
                              obtain ⟨⟨t258, t259, t260, t261, t262, t263, t264, t265⟩, A320, H⟩ := H
                              replace H : (if t254.length < 1954687338268 then (crossbarref27_Stop.l1 k3 l0 a2 a3 x14_3 (t254 ++ [(⟨t258, t259, t260, t261, t262, t263, t264, t265⟩ : S39)]) (wrap64 (x16_3 + 1)) l1_0) else (none)) = some (r1, r2, r3) := H
                              have A32 := Aside0.mk A320
                              clear A320
                              by_cases c33 : t254.length < 1954687338268
                              · rw [if_pos c33] at H
                                have LMc33 := Aside0.mk c33
                                clear c33
                                obtain ⟨y266, hy266⟩ : ∃ y_ : List (S39), y_ = (t254 ++ [(⟨t258, t259, t260, t261, t262, t263, t264, t265⟩ : S39)]) := ⟨_, rfl⟩
                                replace H : (crossbarref27_Stop.l1 k3 l0 a2 a3 x14_3 y266 (wrap64 (x16_3 + 1)) l1_0) = some (r1, r2, r3) := by first | (rw [hy266]; with_reducible exact H) | (have H2_ := (Option.bind_some _ _).symm.trans H; rw [hy266]; with_reducible exact H2_) | (have H2_ := (Option.bind_some _ _).symm.trans H; with_reducible exact H2_) | with_reducible exact H | (rw [hy266]; exact H) | exact H
                                have Ny266 := Aside0.mk hy266
                                clear hy266
                                have H' := Aside0.mk H
                                clear H
                                have p243 : 0 ≤ (x16_3 : Int) := of_decide_eq_true (by first | (with_reducible assumption) | assumption)
                                have q243 : x16_3 < (l0.length : Int) := of_decide_eq_true (by first | (with_reducible assumption) | assumption)
                                obtain ⟨ad243, e243, hx243_0, hx243_1, hx243_2, hx243_3, hx243_4⟩ := at_T33 HR0.out x16_3 p243 q243
                                cases e243
                                replace hx243_0 := (HB.out.cell (World.block_lt_of_cell? w _ hx243_0)).trans hx243_0
                                replace hx243_1 := (HB.out.cell (World.block_lt_of_cell? w _ hx243_1)).trans hx243_1
                                replace hx243_2 := (HB.out.cell (World.block_lt_of_cell? w _ hx243_2)).trans hx243_2
                                replace hx243_3 := (HB.out.cell (World.block_lt_of_cell? w _ hx243_3)).trans hx243_3
                                replace hx243_4 := (HB.out.cell (World.block_lt_of_cell? w _ hx243_4)).trans hx243_4
                                replace p243 := eq_true p243
                                replace q243 := eq_true q243
                                obtain ⟨Ao34, co34, eo34⟩ := Kd.R_slice HO_15.out
                                subst eo34
                                try go_wp2
                                have n0_ := Aside0.mk (Kd.R_drew HO_14.out)
                                have n1_ := Aside0.mk (Kd.R_drew HO_15.out)
                                have n2_ := Aside0.mk (blk_drew BK236.out)
                                have n3_ := Aside0.mk (below_drew1 HB.out)
                                clear HO_14
                                clear HO_15
                                clear BK236
                                clear HB
                                have HO_14 := n0_
                                have HO_15 := n1_
                                have BK236 := n2_
                                have HB := n3_
                                clear n0_ n1_ n2_ n3_
                                have p248 : 0 ≤ (x16_3 : Int) := of_decide_eq_true (by first | (with_reducible assumption) | assumption)
                                have q248 : x16_3 < (l0.length : Int) := of_decide_eq_true (by first | (with_reducible assumption) | assumption)
                                obtain ⟨ad248, e248, hx248_0, hx248_1, hx248_2, hx248_3, hx248_4⟩ := at_T33 HR0.out x16_3 p248 q248
                                have hw248_4 := hx248_4
                                have hw248_3 := hx248_3
                                have hw248_2 := hx248_2
                                have hw248_1 := hx248_1
                                have hw248_0 := hx248_0
                                obtain rfl : ad243 = ad248 := (by injection e248)
                                replace hx248_0 := (HB.out.cell (World.block_lt_of_cell? w _ hx248_0)).trans hx248_0
                                replace hx248_1 := (HB.out.cell (World.block_lt_of_cell? w _ hx248_1)).trans hx248_1
                                replace hx248_2 := (HB.out.cell (World.block_lt_of_cell? w _ hx248_2)).trans hx248_2
                                replace hx248_3 := (HB.out.cell (World.block_lt_of_cell? w _ hx248_3)).trans hx248_3
                                replace hx248_4 := (HB.out.cell (World.block_lt_of_cell? w _ hx248_4)).trans hx248_4
                                replace p248 := eq_true p248
                                replace q248 := eq_true q248
                                refine start_ (n := 14) (S := fun w' => w'.cell? ⟨gb236, 0, none⟩ = some (.slice A1_0 l1_0.length c1_0) ∧ w'.cell? (ad243.add ((x16_3).toNat * 5)) = some (.int .i64 ((rd_T33 l0 x16_3).f0)) ∧ w'.cell? ⟨(ad243.add ((x16_3).toNat * 5)).block, (ad243.add ((x16_3).toNat * 5)).off + 1, none⟩ = some (.int .i64 ((rd_T33 l0 x16_3).f1)) ∧ w'.cell? ⟨(ad243.add ((x16_3).toNat * 5)).block, (ad243.add ((x16_3).toNat * 5)).off + 2, none⟩ = some (.int .i64 ((rd_T33 l0 x16_3).f2)) ∧ w'.cell? ⟨(ad243.add ((x16_3).toNat * 5)).block, (ad243.add ((x16_3).toNat * 5)).off + 3, none⟩ = some (.string ((rd_T33 l0 x16_3).f3)) ∧ w'.cell? ⟨(ad243.add ((x16_3).toNat * 5)).block, (ad243.add ((x16_3).toNat * 5)).off + 4, none⟩ = some (.int .i64 ((rd_T33 l0 x16_3).f4))) (ds := []) #[false, false, false, false, false, false, false, false, false, false, false, false, false, false] (by kernel_rfl) rfl rfl ⟨(blk_cell BK236.out 0).trans rfl, ((HB.out.cell (World.block_lt_of_cell? w _ hw248_0)).trans hw248_0), ((HB.out.cell (World.block_lt_of_cell? w _ hw248_1)).trans hw248_1), ((HB.out.cell (World.block_lt_of_cell? w _ hw248_2)).trans hw248_2), ((HB.out.cell (World.block_lt_of_cell? w _ hw248_3)).trans hw248_3), ((HB.out.cell (World.block_lt_of_cell? w _ hw248_4)).trans hw248_4)⟩ (fun hHeld => ?_); refine with_tabW crossbarref27_Stop.tab23 crossbarref27_Stop.bits23 (fun HT_ HW_ => ?_)
                                generalize wr.drew = w35 at HO_14 HO_15 BK236 HB hx248_0 hx248_1 hx248_2 hx248_3 hx248_4 hHeld ⊢
                                refine pure_ (i := 1) (N := some 83) (v := ?_) (a' := ?_) #[false, true, false, false, false, false, false, false, false, false, false, false, false, false] rfl rfl (any_of HT_.out (by kernel_rfl)) (fun _ _ _ h => h) (Or.inl ⟨by rfl, ?_⟩) ?_ ?_
                                rotate_left
                                · intro w'
                                  go_simp
                                  with_reducible rfl
                                rotate_left
                                · simp only [Act.put, List.setIfInBounds_toArray, List.set_cons_zero, List.set_cons_succ, i64_w, i32_w]
                                  rfl
                                refine pure_ (i := 2) (N := some 84) (v := ?_) (a' := ?_) #[false, true, true, false, false, false, false, false, false, false, false, false, false, false] rfl rfl (any_of HT_.out (by kernel_rfl)) (fun _ _ _ h => h) (Or.inl ⟨by rfl, ?_⟩) ?_ ?_
                                rotate_left
                                · intro w'
                                  go_simp
                                  with_reducible rfl
                                rotate_left
                                · simp only [Act.put, List.setIfInBounds_toArray, List.set_cons_zero, List.set_cons_succ, i64_w, i32_w]
                                  rfl
                                refine pure_ (i := 3) (N := some 85) (v := ?_) (a' := ?_) #[false, true, true, true, false, false, false, false, false, false, false, false, false, false] rfl rfl (any_of HT_.out (by kernel_rfl)) (fun _ _ _ h => h) (Or.inl ⟨by rfl, ?_⟩) ?_ ?_
                                rotate_left
                                · intro w'
                                  go_simp
                                  with_reducible rfl
                                rotate_left
                                · simp only [Act.put, List.setIfInBounds_toArray, List.set_cons_zero, List.set_cons_succ, i64_w, i32_w]
                                  rfl
                                refine pure_ (i := 5) (N := some 87) (v := ?_) (a' := ?_) #[false, true, true, true, false, true, false, false, false, false, false, false, false, false] rfl rfl (any_of HT_.out (by kernel_rfl)) (fun _ _ _ h => h) (Or.inl ⟨by rfl, ?_⟩) ?_ ?_
                                rotate_left
                                · intro w'
                                  go_simp
                                  with_reducible rfl
                                rotate_left
                                · simp only [Act.put, List.setIfInBounds_toArray, List.set_cons_zero, List.set_cons_succ, i64_w, i32_w]
                                  rfl
                                refine pure_ (i := 6) (N := some 88) (v := ?_) (a' := ?_) #[false, true, true, true, false, true, true, false, false, false, false, false, false, false] rfl rfl (any_of HT_.out (by kernel_rfl)) (fun _ _ _ h => h) (Or.inl ⟨by rfl, ?_⟩) ?_ ?_
                                rotate_left
                                · intro w'
                                  go_simp
                                  with_reducible rfl
                                rotate_left
                                · simp only [Act.put, List.setIfInBounds_toArray, List.set_cons_zero, List.set_cons_succ, i64_w, i32_w]
                                  rfl
                                refine take_ (i := 0) (N := some 82) (v := ?_) (a' := ?_) #[true, true, true, true, false, true, true, false, false, false, false, false, false, false] rfl rfl (take_ofW HT_.out HW_.out (by kernel_rfl)) (fun _ _ _ h => h) (Or.inl ⟨by rfl, ?_⟩) hHeld ?_ ?_
                                rotate_left
                                · rintro w' ⟨s0, s1, s2, s3, s4, s5⟩
                                  go_simp
                                  with_reducible rfl
                                rotate_left
                                · simp only [Act.put, List.setIfInBounds_toArray, List.set_cons_zero, List.set_cons_succ, i64_w, i32_w]
                                  rfl
                                refine take_ (i := 4) (N := some 86) (v := ?_) (a' := ?_) #[true, true, true, true, true, true, true, false, false, false, false, false, false, false] rfl rfl (take_ofW HT_.out HW_.out (by kernel_rfl)) (fun _ _ _ h => h) (Or.inl ⟨by rfl, ?_⟩) hHeld ?_ ?_
                                rotate_left
                                · rintro w' ⟨s0, s1, s2, s3, s4, s5⟩
                                  go_simp
                                  with_reducible rfl
                                rotate_left
                                · simp only [Act.put, List.setIfInBounds_toArray, List.set_cons_zero, List.set_cons_succ, i64_w, i32_w]
                                  rfl
                                refine join_ (σ := Value × Nat) 2 #[true, true, true, true, true, true, true, true, true, true, true, true, false, false] (fun s_ => [(89, .tuple #[.agg #[.int .i64 t249, .int .i64 t250, .int .i64 t251, .string t252, .int .i64 t253], s_.1]), (17, .pointer (some ⟨s_.2, 0, none⟩)), (81, .tuple #[.agg #[.int .i64 t249, .int .i64 t250, .int .i64 t251, .string t252, .int .i64 t253], s_.1]), (90, .agg #[.int .i64 t249, .int .i64 t250, .int .i64 t251, .string t252, .int .i64 t253]), (91, s_.1)]) (fun s_ w' => (w'.cell? ⟨gb236, 0, none⟩ = some (.slice A1_0 l1_0.length c1_0) ∧ w'.cell? (ad243.add ((x16_3).toNat * 5)) = some (.int .i64 ((rd_T33 l0 x16_3).f0)) ∧ w'.cell? ⟨(ad243.add ((x16_3).toNat * 5)).block, (ad243.add ((x16_3).toNat * 5)).off + 1, none⟩ = some (.int .i64 ((rd_T33 l0 x16_3).f1)) ∧ w'.cell? ⟨(ad243.add ((x16_3).toNat * 5)).block, (ad243.add ((x16_3).toNat * 5)).off + 2, none⟩ = some (.int .i64 ((rd_T33 l0 x16_3).f2)) ∧ w'.cell? ⟨(ad243.add ((x16_3).toNat * 5)).block, (ad243.add ((x16_3).toNat * 5)).off + 3, none⟩ = some (.string ((rd_T33 l0 x16_3).f3)) ∧ w'.cell? ⟨(ad243.add ((x16_3).toNat * 5)).block, (ad243.add ((x16_3).toNat * 5)).off + 4, none⟩ = some (.int .i64 ((rd_T33 l0 x16_3).f4))) ∧ (Kd.R k39 39 w' w.heap.size (fun _ => True) s_.1 t254) ∧ (Kd.R k33 33 w' w.heap.size (fun k_ => k_ ≠ s_.2) u14 x14_3) ∧ (w'.heap[gb236]? = some (.cells #[.slice A1_0 l1_0.length c1_0] 25 (0, 0))) ∧ (w'.heap[s_.2]? = some (.cells #[.int .i64 0, .int .i64 0, .int .i64 0, .string (⟨#[]⟩ : ByteArray), .int .i64 0] 33 (0, 0))) ∧ (w.heap.size ≤ s_.2) ∧ (w.heap.size ≤ s_.2) ∧ (gb236 ≠ s_.2) ∧ (s_.2 ≠ gb236) ∧ (Below w.heap.size w w')) ?_ ?_
                                rotate_left
                                · intro hCont
                                  refine two_ (i := 7) (j := 11) (Ni := some 89) (Nj := some 17) #[true, true, true, true, true, true, true, true, false, false, false, false, false, false] #[true, true, true, true, true, true, true, false, false, false, false, true, false, false] rfl rfl rfl rfl (two_of HT_.out (by kernel_rfl)) (by decide) (by decide) (fun K hK => ?_) (fun K hK => ?_)
                                  · skip
                                    refine goes_ Try.func65 (by kernel_rfl) rfl #[.agg #[.slice A1_0 l1_0.length c1_0], .agg #[.int .i64 ((rd_T33 l0 x16_3).f0), .int .i64 ((rd_T33 l0 x16_3).f1), .int .i64 ((rd_T33 l0 x16_3).f2), .string ((rd_T33 l0 x16_3).f3), .int .i64 ((rd_T33 l0 x16_3).f4)], .int .i64 a3, .slice Ao34 x15_3.length co34] (by rfl) rfl rfl (by (try simp only [List.map_toArray, List.map_cons, List.map_nil]); first | done | rfl | (simp only [List.length_drop, List.length_take]; rfl)) ?_
                                    with_reducible refine (crossbarref27_advanced.calls k3 _ _ l1_0 ((rd_T33 l0 x16_3).f0) ((rd_T33 l0 x16_3).f1) ((rd_T33 l0 x16_3).f2) ((rd_T33 l0 x16_3).f3) ((rd_T33 l0 x16_3).f4) a3 (fun k_ => some k_ = (.slice Ao34 x15_3.length co34 : Value).ownBlock) (.slice Ao34 x15_3.length co34) x15_3 t249 t250 t251 t252 t253 t254 w _ ?side1 ?side2 ?side3 ?side4 A30.out).mono ?_
                                    (case side1 => repeat (first | (with_reducible first | exact HB.out | apply below_alloc | apply pw_below_drewN | apply below_drew1 | refine below_set ?_ GE236.out) | exact HB.out))
                                    (case side2 => exact Kd.C_kept_came k110_heap HR1_0.out (by repeat (first | (with_reducible first | exact HB.out | apply below_alloc | apply pw_below_drewN | apply below_drew1 | refine below_set ?_ GE236.out) | exact HB.out)) (fun k_ hs_ => (fun e_ => Kd.R_base HO_15.out k_ e_.symm) hs_))
                                    (case side3 => exact HC1_0.out)
                                    (case side4 => exact Kd.R_tight rfl HO_15.out)
                                    rintro e w36 ⟨v255, rfl, ho0, hb, hkp⟩
                                    refine ⟨_, rfl, ?_⟩
                                    have n0_ := Aside0.mk (Kd.R_mono (ok' := fun k_ => True) (Kd.R_keptB ((Kd.R_apart' HO_14.out (Kd.R_typed HO_15.out) (by decide))) hkp (fun k_ hk_ hs_ => (hk_.2) hs_)) (fun k_ hk_ => trivial))
                                    have n1_ := Aside0.mk (blk_kept (by (with_reducible repeat (first | refine blk_drewN ?_ _ | refine blk_drew ?_ | refine blk_alloc ?_ _)); exact BK236.out) hkp (fun hs_ => (fun e_ => (Kd.R_ne HO_15.out BK236.out (by decide)) e_) hs_))
                                    have n2_ := Aside0.mk (Kd.R_mono (ok' := fun k_ => True) ho0 (fun k_ hk_ => trivial))
                                    have n3_ := Aside0.mk (hb)
                                    clear HO_14
                                    clear BK236
                                    clear HB
                                    clear HO_15
                                    have HO_14 := n0_
                                    have BK236 := n1_
                                    have HO256 := n2_
                                    have HB := n3_
                                    clear n0_ n1_ n2_ n3_
                                    (try clear hb)
                                    (try clear hkp)
                                    (try clear ho0)
                                    refine hK.out _ _ ⟨(blk_cell BK236.out 0).trans rfl, ((HB.out.cell (World.block_lt_of_cell? w _ hw248_0)).trans hw248_0), ((HB.out.cell (World.block_lt_of_cell? w _ hw248_1)).trans hw248_1), ((HB.out.cell (World.block_lt_of_cell? w _ hw248_2)).trans hw248_2), ((HB.out.cell (World.block_lt_of_cell? w _ hw248_3)).trans hw248_3), ((HB.out.cell (World.block_lt_of_cell? w _ hw248_4)).trans hw248_4)⟩ (fun hHeld => ?_)
                                    clear hK K
                                    refine norm_ (a' := ?_) ?_ ?_
                                    rotate_left
                                    · show Act.put _ (some 89) _ = _
                                      simp only [Act.put, List.setIfInBounds_toArray, List.set_cons_zero, List.set_cons_succ, i64_w, i32_w]
                                      rfl
                                    refine pure_ (i := 8) (N := some 81) (v := ?_) (a' := ?_) #[true, true, true, true, true, true, true, true, true, false, false, false, false, false] rfl rfl (any_of HT_.out (by kernel_rfl)) (fun _ _ _ h => h) (Or.inl ⟨by rfl, ?_⟩) ?_ ?_
                                    rotate_left
                                    · intro w'
                                      go_simp
                                      with_reducible rfl
                                    rotate_left
                                    · simp only [Act.put, List.setIfInBounds_toArray, List.set_cons_zero, List.set_cons_succ, i64_w, i32_w]
                                      rfl
                                    refine pure_ (i := 9) (N := some 90) (v := ?_) (a' := ?_) #[true, true, true, true, true, true, true, true, true, true, false, false, false, false] rfl rfl (any_of HT_.out (by kernel_rfl)) (fun _ _ _ h => h) (Or.inl ⟨by rfl, ?_⟩) ?_ ?_
                                    rotate_left
                                    · intro w'
                                      go_simp
                                      with_reducible rfl
                                    rotate_left
                                    · simp only [Act.put, List.setIfInBounds_toArray, List.set_cons_zero, List.set_cons_succ, i64_w, i32_w]
                                      rfl
                                    refine pure_ (i := 10) (N := some 91) (v := ?_) (a' := ?_) #[true, true, true, true, true, true, true, true, true, true, true, false, false, false] rfl rfl (any_of HT_.out (by kernel_rfl)) (fun _ _ _ h => h) (Or.inl ⟨by rfl, ?_⟩) ?_ ?_
                                    rotate_left
                                    · intro w'
                                      go_simp
                                      with_reducible rfl
                                    rotate_left
                                    · simp only [Act.put, List.setIfInBounds_toArray, List.set_cons_zero, List.set_cons_succ, i64_w, i32_w]
                                      rfl
                                    refine one_ (i := 11) (N := some 17) #[true, true, true, true, true, true, true, true, true, true, true, true, false, false] rfl rfl (one_of HT_.out (by kernel_rfl)) (by decide) (fun K hK => ?_)
                                    refine box_step ?hg (N := 17) ?hd (cs := #[.int .i64 0, .int .i64 0, .int .i64 0, .string (⟨#[]⟩ : ByteArray), .int .i64 0]) (t := 33) ?hr ?_; (case hd => rfl); (case hg => rfl); (case hr => first | (go_simp; done) | (go_simp; rfl))
                                    intro gb257 hg w37 hbox hb
                                    have n0_ := Aside0.mk (Kd.R_below (Kd.R_elderB (by (with_reducible repeat (first | apply Kd.R_alloc | apply Kd.R_drewN | apply Kd.R_drew)); exact HO_14.out) gb257 (Nat.le_of_eq hg.symm)) hb)
                                    have n1_ := Aside0.mk (Kd.R_below (by (with_reducible repeat (first | apply Kd.R_alloc | apply Kd.R_drewN | apply Kd.R_drew)); exact HO256.out) hb)
                                    have n2_ := Aside0.mk (blk_below (g := gb236) (o := .cells #[.slice A1_0 l1_0.length c1_0] 25 (0, 0)) (by (with_reducible repeat (first | refine blk_drewN ?_ _ | refine blk_drew ?_ | refine blk_alloc ?_ _)); exact BK236.out) hb)
                                    have n3_ := Aside0.mk (below_step (by repeat (first | (with_reducible first | exact HB.out | apply below_alloc | apply pw_below_drewN | apply below_drew1 | refine below_set ?_ GE236.out) | exact HB.out)) hb)
                                    have n4_ := Aside0.mk (hbox)
                                    have n5_ := Aside0.mk ((by rw [hg]; exact (below_size (by repeat (first | (with_reducible first | exact HB.out | apply below_alloc | apply pw_below_drewN | apply below_drew1 | refine below_set ?_ GE236.out) | exact HB.out))) : w.heap.size ≤ gb257))
                                    have n6_ := Aside0.mk ((by rw [hg]; exact (below_size (by repeat (first | (with_reducible first | exact HB.out | apply below_alloc | apply pw_below_drewN | apply below_drew1 | refine below_set ?_ GE236.out) | exact HB.out))) : w.heap.size ≤ gb257))
                                    have n7_ := Aside0.mk ((by rw [hg]; exact Nat.ne_of_lt (blk_lt (g := gb236) (o := .cells #[.slice A1_0 l1_0.length c1_0] 25 (0, 0)) (by (with_reducible repeat (first | refine blk_drewN ?_ _ | refine blk_drew ?_ | refine blk_alloc ?_ _)); exact BK236.out)) : gb236 ≠ gb257))
                                    have n8_ := Aside0.mk ((by rw [hg]; exact Nat.ne_of_gt (blk_lt (g := gb236) (o := .cells #[.slice A1_0 l1_0.length c1_0] 25 (0, 0)) (by (with_reducible repeat (first | refine blk_drewN ?_ _ | refine blk_drew ?_ | refine blk_alloc ?_ _)); exact BK236.out)) : gb257 ≠ gb236))
                                    clear HO_14
                                    clear HO256
                                    clear BK236
                                    clear HB
                                    have HO_14 := n0_
                                    have HO256 := n1_
                                    have BK236 := n2_
                                    have HB := n3_
                                    have BK257 := n4_
                                    have GW257 := n5_
                                    have GE257 := n6_
                                    have NB236_257 := n7_
                                    have NB257_236 := n8_
                                    clear n0_ n1_ n2_ n3_ n4_ n5_ n6_ n7_ n8_
                                    clear hb hbox hg
                                    refine hK.out _ _ ⟨(blk_cell BK236.out 0).trans rfl, ((HB.out.cell (World.block_lt_of_cell? w _ hw248_0)).trans hw248_0), ((HB.out.cell (World.block_lt_of_cell? w _ hw248_1)).trans hw248_1), ((HB.out.cell (World.block_lt_of_cell? w _ hw248_2)).trans hw248_2), ((HB.out.cell (World.block_lt_of_cell? w _ hw248_3)).trans hw248_3), ((HB.out.cell (World.block_lt_of_cell? w _ hw248_4)).trans hw248_4)⟩ (fun hHeld => ?_)
                                    clear hK K
                                    refine norm_ (a' := ?_) ?_ ?_
                                    rotate_left
                                    · show Act.put _ (some 17) _ = _
                                      simp only [Act.put, List.setIfInBounds_toArray, List.set_cons_zero, List.set_cons_succ, i64_w, i32_w]
                                      rfl
                                    exact norm_ (by simp only [putAll, Act.put, List.setIfInBounds_toArray, List.set_cons_zero, List.set_cons_succ]) (hCont (v255, gb257) _ ⟨hHeld, (by (with_reducible repeat (first | apply Kd.R_alloc | apply Kd.R_drewN | apply Kd.R_drew)); exact HO256.out), (by (with_reducible repeat (first | apply Kd.R_alloc | apply Kd.R_drewN | apply Kd.R_drew)); exact Kd.R_mono HO_14.out (fun _ hk => hk.2)), (by (with_reducible repeat (first | refine blk_drewN ?_ _ | refine blk_drew ?_ | refine blk_alloc ?_ _)); exact BK236.out), (by (with_reducible repeat (first | refine blk_drewN ?_ _ | refine blk_drew ?_ | refine blk_alloc ?_ _)); exact BK257.out), GW257.out, GE257.out, NB236_257.out, NB257_236.out, (by repeat (first | (with_reducible first | exact HB.out | apply below_alloc | apply pw_below_drewN | apply below_drew1 | refine below_set ?_ GE236.out | refine below_set ?_ GE257.out) | exact HB.out))⟩)
                                  · skip
                                    refine box_step ?hg (N := 17) ?hd (cs := #[.int .i64 0, .int .i64 0, .int .i64 0, .string (⟨#[]⟩ : ByteArray), .int .i64 0]) (t := 33) ?hr ?_; (case hd => rfl); (case hg => rfl); (case hr => first | (go_simp; done) | (go_simp; rfl))
                                    intro gb257 hg w36 hbox hb
                                    have n0_ := Aside0.mk (Kd.R_below (Kd.R_elderB (by (with_reducible repeat (first | apply Kd.R_alloc | apply Kd.R_drewN | apply Kd.R_drew)); exact HO_14.out) gb257 (Nat.le_of_eq hg.symm)) hb)
                                    have n1_ := Aside0.mk (Kd.R_below (by (with_reducible repeat (first | apply Kd.R_alloc | apply Kd.R_drewN | apply Kd.R_drew)); exact HO_15.out) hb)
                                    have n2_ := Aside0.mk (blk_below (g := gb236) (o := .cells #[.slice A1_0 l1_0.length c1_0] 25 (0, 0)) (by (with_reducible repeat (first | refine blk_drewN ?_ _ | refine blk_drew ?_ | refine blk_alloc ?_ _)); exact BK236.out) hb)
                                    have n3_ := Aside0.mk (below_step (by repeat (first | (with_reducible first | exact HB.out | apply below_alloc | apply pw_below_drewN | apply below_drew1 | refine below_set ?_ GE236.out) | exact HB.out)) hb)
                                    have n4_ := Aside0.mk (hbox)
                                    have n5_ := Aside0.mk ((by rw [hg]; exact (below_size (by repeat (first | (with_reducible first | exact HB.out | apply below_alloc | apply pw_below_drewN | apply below_drew1 | refine below_set ?_ GE236.out) | exact HB.out))) : w.heap.size ≤ gb257))
                                    have n6_ := Aside0.mk ((by rw [hg]; exact (below_size (by repeat (first | (with_reducible first | exact HB.out | apply below_alloc | apply pw_below_drewN | apply below_drew1 | refine below_set ?_ GE236.out) | exact HB.out))) : w.heap.size ≤ gb257))
                                    have n7_ := Aside0.mk ((by rw [hg]; exact Nat.ne_of_lt (blk_lt (g := gb236) (o := .cells #[.slice A1_0 l1_0.length c1_0] 25 (0, 0)) (by (with_reducible repeat (first | refine blk_drewN ?_ _ | refine blk_drew ?_ | refine blk_alloc ?_ _)); exact BK236.out)) : gb236 ≠ gb257))
                                    have n8_ := Aside0.mk ((by rw [hg]; exact Nat.ne_of_gt (blk_lt (g := gb236) (o := .cells #[.slice A1_0 l1_0.length c1_0] 25 (0, 0)) (by (with_reducible repeat (first | refine blk_drewN ?_ _ | refine blk_drew ?_ | refine blk_alloc ?_ _)); exact BK236.out)) : gb257 ≠ gb236))
                                    clear HO_14
                                    clear HO_15
                                    clear BK236
                                    clear HB
                                    have HO_14 := n0_
                                    have HO_15 := n1_
                                    have BK236 := n2_
                                    have HB := n3_
                                    have BK257 := n4_
                                    have GW257 := n5_
                                    have GE257 := n6_
                                    have NB236_257 := n7_
                                    have NB257_236 := n8_
                                    clear n0_ n1_ n2_ n3_ n4_ n5_ n6_ n7_ n8_
                                    clear hb hbox hg
                                    refine hK.out _ _ ⟨(blk_cell BK236.out 0).trans rfl, ((HB.out.cell (World.block_lt_of_cell? w _ hw248_0)).trans hw248_0), ((HB.out.cell (World.block_lt_of_cell? w _ hw248_1)).trans hw248_1), ((HB.out.cell (World.block_lt_of_cell? w _ hw248_2)).trans hw248_2), ((HB.out.cell (World.block_lt_of_cell? w _ hw248_3)).trans hw248_3), ((HB.out.cell (World.block_lt_of_cell? w _ hw248_4)).trans hw248_4)⟩ (fun hHeld => ?_)
                                    clear hK K
                                    refine norm_ (a' := ?_) ?_ ?_
                                    rotate_left
                                    · show Act.put _ (some 17) _ = _
                                      simp only [Act.put, List.setIfInBounds_toArray, List.set_cons_zero, List.set_cons_succ, i64_w, i32_w]
                                      rfl
                                    refine one_ (i := 7) (N := some 89) #[true, true, true, true, true, true, true, true, false, false, false, true, false, false] rfl rfl (one_of HT_.out (by kernel_rfl)) (by decide) (fun K hK => ?_)
                                    refine goes_ Try.func65 (by kernel_rfl) rfl #[.agg #[.slice A1_0 l1_0.length c1_0], .agg #[.int .i64 ((rd_T33 l0 x16_3).f0), .int .i64 ((rd_T33 l0 x16_3).f1), .int .i64 ((rd_T33 l0 x16_3).f2), .string ((rd_T33 l0 x16_3).f3), .int .i64 ((rd_T33 l0 x16_3).f4)], .int .i64 a3, .slice Ao34 x15_3.length co34] (by rfl) rfl rfl (by (try simp only [List.map_toArray, List.map_cons, List.map_nil]); first | done | rfl | (simp only [List.length_drop, List.length_take]; rfl)) ?_
                                    with_reducible refine (crossbarref27_advanced.calls k3 _ _ l1_0 ((rd_T33 l0 x16_3).f0) ((rd_T33 l0 x16_3).f1) ((rd_T33 l0 x16_3).f2) ((rd_T33 l0 x16_3).f3) ((rd_T33 l0 x16_3).f4) a3 (fun k_ => some k_ = (.slice Ao34 x15_3.length co34 : Value).ownBlock) (.slice Ao34 x15_3.length co34) x15_3 t249 t250 t251 t252 t253 t254 w _ ?side1 ?side2 ?side3 ?side4 A30.out).mono ?_
                                    (case side1 => repeat (first | (with_reducible first | exact HB.out | apply below_alloc | apply pw_below_drewN | apply below_drew1 | refine below_set ?_ GE236.out | refine below_set ?_ GE257.out) | exact HB.out))
                                    (case side2 => exact Kd.C_kept_came k110_heap HR1_0.out (by repeat (first | (with_reducible first | exact HB.out | apply below_alloc | apply pw_below_drewN | apply below_drew1 | refine below_set ?_ GE236.out | refine below_set ?_ GE257.out) | exact HB.out)) (fun k_ hs_ => (fun e_ => Kd.R_base HO_15.out k_ e_.symm) hs_))
                                    (case side3 => exact HC1_0.out)
                                    (case side4 => exact Kd.R_tight rfl HO_15.out)
                                    rintro e w37 ⟨v255, rfl, ho0, hb, hkp⟩
                                    refine ⟨_, rfl, ?_⟩
                                    have n0_ := Aside0.mk (Kd.R_mono (ok' := fun k_ => k_ ≠ gb257) (Kd.R_keptB ((Kd.R_apart' HO_14.out (Kd.R_typed HO_15.out) (by decide))) hkp (fun k_ hk_ hs_ => (hk_.2) hs_)) (fun k_ hk_ => hk_.1.1.2))
                                    have n1_ := Aside0.mk (blk_kept (by (with_reducible repeat (first | refine blk_drewN ?_ _ | refine blk_drew ?_ | refine blk_alloc ?_ _)); exact BK236.out) hkp (fun hs_ => (fun e_ => (Kd.R_ne HO_15.out BK236.out (by decide)) e_) hs_))
                                    have n2_ := Aside0.mk (blk_kept (by (with_reducible repeat (first | refine blk_drewN ?_ _ | refine blk_drew ?_ | refine blk_alloc ?_ _)); exact BK257.out) hkp (fun hs_ => (fun e_ => (Kd.R_ne HO_15.out BK257.out (by decide)) e_) hs_))
                                    have n3_ := Aside0.mk (Kd.R_mono (ok' := fun k_ => True) ho0 (fun k_ hk_ => trivial))
                                    have n4_ := Aside0.mk (hb)
                                    clear HO_14
                                    clear BK236
                                    clear BK257
                                    clear HB
                                    clear HO_15
                                    have HO_14 := n0_
                                    have BK236 := n1_
                                    have BK257 := n2_
                                    have HO256 := n3_
                                    have HB := n4_
                                    clear n0_ n1_ n2_ n3_ n4_
                                    (try clear hb)
                                    (try clear hkp)
                                    (try clear ho0)
                                    refine hK.out _ _ ⟨(blk_cell BK236.out 0).trans rfl, ((HB.out.cell (World.block_lt_of_cell? w _ hw248_0)).trans hw248_0), ((HB.out.cell (World.block_lt_of_cell? w _ hw248_1)).trans hw248_1), ((HB.out.cell (World.block_lt_of_cell? w _ hw248_2)).trans hw248_2), ((HB.out.cell (World.block_lt_of_cell? w _ hw248_3)).trans hw248_3), ((HB.out.cell (World.block_lt_of_cell? w _ hw248_4)).trans hw248_4)⟩ (fun hHeld => ?_)
                                    clear hK K
                                    refine norm_ (a' := ?_) ?_ ?_
                                    rotate_left
                                    · show Act.put _ (some 89) _ = _
                                      simp only [Act.put, List.setIfInBounds_toArray, List.set_cons_zero, List.set_cons_succ, i64_w, i32_w]
                                      rfl
                                    refine pure_ (i := 8) (N := some 81) (v := ?_) (a' := ?_) #[true, true, true, true, true, true, true, true, true, false, false, true, false, false] rfl rfl (any_of HT_.out (by kernel_rfl)) (fun _ _ _ h => h) (Or.inl ⟨by rfl, ?_⟩) ?_ ?_
                                    rotate_left
                                    · intro w'
                                      go_simp
                                      with_reducible rfl
                                    rotate_left
                                    · simp only [Act.put, List.setIfInBounds_toArray, List.set_cons_zero, List.set_cons_succ, i64_w, i32_w]
                                      rfl
                                    refine pure_ (i := 9) (N := some 90) (v := ?_) (a' := ?_) #[true, true, true, true, true, true, true, true, true, true, false, true, false, false] rfl rfl (any_of HT_.out (by kernel_rfl)) (fun _ _ _ h => h) (Or.inl ⟨by rfl, ?_⟩) ?_ ?_
                                    rotate_left
                                    · intro w'
                                      go_simp
                                      with_reducible rfl
                                    rotate_left
                                    · simp only [Act.put, List.setIfInBounds_toArray, List.set_cons_zero, List.set_cons_succ, i64_w, i32_w]
                                      rfl
                                    refine pure_ (i := 10) (N := some 91) (v := ?_) (a' := ?_) #[true, true, true, true, true, true, true, true, true, true, true, true, false, false] rfl rfl (any_of HT_.out (by kernel_rfl)) (fun _ _ _ h => h) (Or.inl ⟨by rfl, ?_⟩) ?_ ?_
                                    rotate_left
                                    · intro w'
                                      go_simp
                                      with_reducible rfl
                                    rotate_left
                                    · simp only [Act.put, List.setIfInBounds_toArray, List.set_cons_zero, List.set_cons_succ, i64_w, i32_w]
                                      rfl
                                    exact norm_ (by simp only [putAll, Act.put, List.setIfInBounds_toArray, List.set_cons_zero, List.set_cons_succ]) (hCont (v255, gb257) _ ⟨hHeld, (by (with_reducible repeat (first | apply Kd.R_alloc | apply Kd.R_drewN | apply Kd.R_drew)); exact HO256.out), (by (with_reducible repeat (first | apply Kd.R_alloc | apply Kd.R_drewN | apply Kd.R_drew)); exact HO_14.out), (by (with_reducible repeat (first | refine blk_drewN ?_ _ | refine blk_drew ?_ | refine blk_alloc ?_ _)); exact BK236.out), (by (with_reducible repeat (first | refine blk_drewN ?_ _ | refine blk_drew ?_ | refine blk_alloc ?_ _)); exact BK257.out), GW257.out, GE257.out, NB236_257.out, NB257_236.out, (by repeat (first | (with_reducible first | exact HB.out | apply below_alloc | apply pw_below_drewN | apply below_drew1 | refine below_set ?_ GE236.out | refine below_set ?_ GE257.out) | exact HB.out))⟩)
                                rintro ⟨v255, gb257⟩ w38 ⟨hS_, h0_, h1_, h2_, h3_, h4_, h5_, h6_, h7_, h8_⟩
                                have n0_ : Aside0 (Kd.R k39 39 w38 w.heap.size (fun _ => True) v255 t254) := ⟨h0_⟩
                                have n1_ : Aside0 (Kd.R k33 33 w38 w.heap.size (fun k_ => k_ ≠ gb257) u14 x14_3) := ⟨h1_⟩
                                have n2_ : Aside0 (w38.heap[gb236]? = some (.cells #[.slice A1_0 l1_0.length c1_0] 25 (0, 0))) := ⟨h2_⟩
                                have n3_ : Aside0 (w38.heap[gb257]? = some (.cells #[.int .i64 0, .int .i64 0, .int .i64 0, .string (⟨#[]⟩ : ByteArray), .int .i64 0] 33 (0, 0))) := ⟨h3_⟩
                                have n4_ : Aside0 (w.heap.size ≤ gb257) := ⟨h4_⟩
                                have n5_ : Aside0 (w.heap.size ≤ gb257) := ⟨h5_⟩
                                have n6_ : Aside0 (gb236 ≠ gb257) := ⟨h6_⟩
                                have n7_ : Aside0 (gb257 ≠ gb236) := ⟨h7_⟩
                                have n8_ : Aside0 (Below w.heap.size w w38) := ⟨h8_⟩
                                clear HO_14
                                clear HO_15
                                clear BK236
                                clear HB
                                clear h0_ h1_ h2_ h3_ h4_ h5_ h6_ h7_ h8_
                                have HO256 := n0_
                                have HO_14 := n1_
                                have BK236 := n2_
                                have BK257 := n3_
                                have GW257 := n4_
                                have GE257 := n5_
                                have NB236_257 := n6_
                                have NB257_236 := n7_
                                have HB := n8_
                                clear n0_ n1_ n2_ n3_ n4_ n5_ n6_ n7_ n8_
                                have hHeld : w38.cell? ⟨gb236, 0, none⟩ = some (.slice A1_0 l1_0.length c1_0) ∧ w38.cell? (ad243.add ((x16_3).toNat * 5)) = some (.int .i64 ((rd_T33 l0 x16_3).f0)) ∧ w38.cell? ⟨(ad243.add ((x16_3).toNat * 5)).block, (ad243.add ((x16_3).toNat * 5)).off + 1, none⟩ = some (.int .i64 ((rd_T33 l0 x16_3).f1)) ∧ w38.cell? ⟨(ad243.add ((x16_3).toNat * 5)).block, (ad243.add ((x16_3).toNat * 5)).off + 2, none⟩ = some (.int .i64 ((rd_T33 l0 x16_3).f2)) ∧ w38.cell? ⟨(ad243.add ((x16_3).toNat * 5)).block, (ad243.add ((x16_3).toNat * 5)).off + 3, none⟩ = some (.string ((rd_T33 l0 x16_3).f3)) ∧ w38.cell? ⟨(ad243.add ((x16_3).toNat * 5)).block, (ad243.add ((x16_3).toNat * 5)).off + 4, none⟩ = some (.int .i64 ((rd_T33 l0 x16_3).f4)) := hS_
                                refine norm_ (a' := ?_) ?_ ?_
                                rotate_left
                                · simp only [putAll, Act.put, List.setIfInBounds_toArray, List.set_cons_zero, List.set_cons_succ]
                                  rfl
                                refine one_ (i := 12) (N := none) #[true, true, true, true, true, true, true, true, true, true, true, true, true, false] rfl rfl (one_of HT_.out (by kernel_rfl)) (by decide) (fun K hK => ?_)
                                have hs39 : w38.cell? ⟨gb257, 0, none⟩ = some (.int .i64 0) := (blk_cell BK257.out 0).trans rfl
                                have hfs39 := blk_frozen BK257.out 0
                                have hns39_0 := NB236_257.out
                                have hms39_0 := NB257_236.out
                                have hs40 : w38.cell? ⟨gb257, 1, none⟩ = some (.int .i64 0) := (blk_cell BK257.out 1).trans rfl
                                have hfs40 := blk_frozen BK257.out 1
                                have hns40_0 := NB236_257.out
                                have hms40_0 := NB257_236.out
                                have hs41 : w38.cell? ⟨gb257, 2, none⟩ = some (.int .i64 0) := (blk_cell BK257.out 2).trans rfl
                                have hfs41 := blk_frozen BK257.out 2
                                have hns41_0 := NB236_257.out
                                have hms41_0 := NB257_236.out
                                have hs42 : w38.cell? ⟨gb257, 3, none⟩ = some (.string (⟨#[]⟩ : ByteArray)) := (blk_cell BK257.out 3).trans rfl
                                have hfs42 := blk_frozen BK257.out 3
                                have hns42_0 := NB236_257.out
                                have hms42_0 := NB257_236.out
                                have hs43 : w38.cell? ⟨gb257, 4, none⟩ = some (.int .i64 0) := (blk_cell BK257.out 4).trans rfl
                                have hfs43 := blk_frozen BK257.out 4
                                have hns43_0 := NB236_257.out
                                have hms43_0 := NB257_236.out
                                refine skip_ (w1 := ?_) (by rfl) rfl ?_ ?_
                                rotate_left
                                · go_simp
                                  rfl
                                refine hK.out _ _ ⟨((cell_far (p := ⟨gb257, _, none⟩) NB236_257.out _).trans (((cell_far (p := ⟨gb257, _, none⟩) NB236_257.out _).trans (((cell_far (p := ⟨gb257, _, none⟩) NB236_257.out _).trans (((cell_far (p := ⟨gb257, _, none⟩) NB236_257.out _).trans (((cell_far (p := ⟨gb257, _, none⟩) NB236_257.out _).trans (hHeld.1)))))))))), ((cell_far (p := ⟨gb257, _, none⟩) (by first | exact Nat.ne_of_lt (Nat.lt_of_lt_of_le (by have := World.block_lt_of_cell? _ _ hw248_0; first | rwa [add_block] at this | exact this) GW257.out) | (rw [add_block]; exact Nat.ne_of_lt (Nat.lt_of_lt_of_le (by have := World.block_lt_of_cell? _ _ hw248_0; first | rwa [add_block] at this | exact this) GW257.out)) | (show (Addr.add _ _).block ≠ _; rw [add_block]; exact Nat.ne_of_lt (Nat.lt_of_lt_of_le (by have := World.block_lt_of_cell? _ _ hw248_0; first | rwa [add_block] at this | exact this) GW257.out)) | (dsimp only; exact Nat.ne_of_lt (Nat.lt_of_lt_of_le (by have := World.block_lt_of_cell? _ _ hw248_0; first | rwa [add_block] at this | exact this) GW257.out))) _).trans (((cell_far (p := ⟨gb257, _, none⟩) (by first | exact Nat.ne_of_lt (Nat.lt_of_lt_of_le (by have := World.block_lt_of_cell? _ _ hw248_0; first | rwa [add_block] at this | exact this) GW257.out) | (rw [add_block]; exact Nat.ne_of_lt (Nat.lt_of_lt_of_le (by have := World.block_lt_of_cell? _ _ hw248_0; first | rwa [add_block] at this | exact this) GW257.out)) | (show (Addr.add _ _).block ≠ _; rw [add_block]; exact Nat.ne_of_lt (Nat.lt_of_lt_of_le (by have := World.block_lt_of_cell? _ _ hw248_0; first | rwa [add_block] at this | exact this) GW257.out)) | (dsimp only; exact Nat.ne_of_lt (Nat.lt_of_lt_of_le (by have := World.block_lt_of_cell? _ _ hw248_0; first | rwa [add_block] at this | exact this) GW257.out))) _).trans (((cell_far (p := ⟨gb257, _, none⟩) (by first | exact Nat.ne_of_lt (Nat.lt_of_lt_of_le (by have := World.block_lt_of_cell? _ _ hw248_0; first | rwa [add_block] at this | exact this) GW257.out) | (rw [add_block]; exact Nat.ne_of_lt (Nat.lt_of_lt_of_le (by have := World.block_lt_of_cell? _ _ hw248_0; first | rwa [add_block] at this | exact this) GW257.out)) | (show (Addr.add _ _).block ≠ _; rw [add_block]; exact Nat.ne_of_lt (Nat.lt_of_lt_of_le (by have := World.block_lt_of_cell? _ _ hw248_0; first | rwa [add_block] at this | exact this) GW257.out)) | (dsimp only; exact Nat.ne_of_lt (Nat.lt_of_lt_of_le (by have := World.block_lt_of_cell? _ _ hw248_0; first | rwa [add_block] at this | exact this) GW257.out))) _).trans (((cell_far (p := ⟨gb257, _, none⟩) (by first | exact Nat.ne_of_lt (Nat.lt_of_lt_of_le (by have := World.block_lt_of_cell? _ _ hw248_0; first | rwa [add_block] at this | exact this) GW257.out) | (rw [add_block]; exact Nat.ne_of_lt (Nat.lt_of_lt_of_le (by have := World.block_lt_of_cell? _ _ hw248_0; first | rwa [add_block] at this | exact this) GW257.out)) | (show (Addr.add _ _).block ≠ _; rw [add_block]; exact Nat.ne_of_lt (Nat.lt_of_lt_of_le (by have := World.block_lt_of_cell? _ _ hw248_0; first | rwa [add_block] at this | exact this) GW257.out)) | (dsimp only; exact Nat.ne_of_lt (Nat.lt_of_lt_of_le (by have := World.block_lt_of_cell? _ _ hw248_0; first | rwa [add_block] at this | exact this) GW257.out))) _).trans (((cell_far (p := ⟨gb257, _, none⟩) (by first | exact Nat.ne_of_lt (Nat.lt_of_lt_of_le (by have := World.block_lt_of_cell? _ _ hw248_0; first | rwa [add_block] at this | exact this) GW257.out) | (rw [add_block]; exact Nat.ne_of_lt (Nat.lt_of_lt_of_le (by have := World.block_lt_of_cell? _ _ hw248_0; first | rwa [add_block] at this | exact this) GW257.out)) | (show (Addr.add _ _).block ≠ _; rw [add_block]; exact Nat.ne_of_lt (Nat.lt_of_lt_of_le (by have := World.block_lt_of_cell? _ _ hw248_0; first | rwa [add_block] at this | exact this) GW257.out)) | (dsimp only; exact Nat.ne_of_lt (Nat.lt_of_lt_of_le (by have := World.block_lt_of_cell? _ _ hw248_0; first | rwa [add_block] at this | exact this) GW257.out))) _).trans (hHeld.2.1)))))))))), ((cell_far (p := ⟨gb257, _, none⟩) (by first | exact Nat.ne_of_lt (Nat.lt_of_lt_of_le (by have := World.block_lt_of_cell? _ _ hw248_1; first | rwa [add_block] at this | exact this) GW257.out) | (rw [add_block]; exact Nat.ne_of_lt (Nat.lt_of_lt_of_le (by have := World.block_lt_of_cell? _ _ hw248_1; first | rwa [add_block] at this | exact this) GW257.out)) | (show (Addr.add _ _).block ≠ _; rw [add_block]; exact Nat.ne_of_lt (Nat.lt_of_lt_of_le (by have := World.block_lt_of_cell? _ _ hw248_1; first | rwa [add_block] at this | exact this) GW257.out)) | (dsimp only; exact Nat.ne_of_lt (Nat.lt_of_lt_of_le (by have := World.block_lt_of_cell? _ _ hw248_1; first | rwa [add_block] at this | exact this) GW257.out))) _).trans (((cell_far (p := ⟨gb257, _, none⟩) (by first | exact Nat.ne_of_lt (Nat.lt_of_lt_of_le (by have := World.block_lt_of_cell? _ _ hw248_1; first | rwa [add_block] at this | exact this) GW257.out) | (rw [add_block]; exact Nat.ne_of_lt (Nat.lt_of_lt_of_le (by have := World.block_lt_of_cell? _ _ hw248_1; first | rwa [add_block] at this | exact this) GW257.out)) | (show (Addr.add _ _).block ≠ _; rw [add_block]; exact Nat.ne_of_lt (Nat.lt_of_lt_of_le (by have := World.block_lt_of_cell? _ _ hw248_1; first | rwa [add_block] at this | exact this) GW257.out)) | (dsimp only; exact Nat.ne_of_lt (Nat.lt_of_lt_of_le (by have := World.block_lt_of_cell? _ _ hw248_1; first | rwa [add_block] at this | exact this) GW257.out))) _).trans (((cell_far (p := ⟨gb257, _, none⟩) (by first | exact Nat.ne_of_lt (Nat.lt_of_lt_of_le (by have := World.block_lt_of_cell? _ _ hw248_1; first | rwa [add_block] at this | exact this) GW257.out) | (rw [add_block]; exact Nat.ne_of_lt (Nat.lt_of_lt_of_le (by have := World.block_lt_of_cell? _ _ hw248_1; first | rwa [add_block] at this | exact this) GW257.out)) | (show (Addr.add _ _).block ≠ _; rw [add_block]; exact Nat.ne_of_lt (Nat.lt_of_lt_of_le (by have := World.block_lt_of_cell? _ _ hw248_1; first | rwa [add_block] at this | exact this) GW257.out)) | (dsimp only; exact Nat.ne_of_lt (Nat.lt_of_lt_of_le (by have := World.block_lt_of_cell? _ _ hw248_1; first | rwa [add_block] at this | exact this) GW257.out))) _).trans (((cell_far (p := ⟨gb257, _, none⟩) (by first | exact Nat.ne_of_lt (Nat.lt_of_lt_of_le (by have := World.block_lt_of_cell? _ _ hw248_1; first | rwa [add_block] at this | exact this) GW257.out) | (rw [add_block]; exact Nat.ne_of_lt (Nat.lt_of_lt_of_le (by have := World.block_lt_of_cell? _ _ hw248_1; first | rwa [add_block] at this | exact this) GW257.out)) | (show (Addr.add _ _).block ≠ _; rw [add_block]; exact Nat.ne_of_lt (Nat.lt_of_lt_of_le (by have := World.block_lt_of_cell? _ _ hw248_1; first | rwa [add_block] at this | exact this) GW257.out)) | (dsimp only; exact Nat.ne_of_lt (Nat.lt_of_lt_of_le (by have := World.block_lt_of_cell? _ _ hw248_1; first | rwa [add_block] at this | exact this) GW257.out))) _).trans (((cell_far (p := ⟨gb257, _, none⟩) (by first | exact Nat.ne_of_lt (Nat.lt_of_lt_of_le (by have := World.block_lt_of_cell? _ _ hw248_1; first | rwa [add_block] at this | exact this) GW257.out) | (rw [add_block]; exact Nat.ne_of_lt (Nat.lt_of_lt_of_le (by have := World.block_lt_of_cell? _ _ hw248_1; first | rwa [add_block] at this | exact this) GW257.out)) | (show (Addr.add _ _).block ≠ _; rw [add_block]; exact Nat.ne_of_lt (Nat.lt_of_lt_of_le (by have := World.block_lt_of_cell? _ _ hw248_1; first | rwa [add_block] at this | exact this) GW257.out)) | (dsimp only; exact Nat.ne_of_lt (Nat.lt_of_lt_of_le (by have := World.block_lt_of_cell? _ _ hw248_1; first | rwa [add_block] at this | exact this) GW257.out))) _).trans (hHeld.2.2.1)))))))))), ((cell_far (p := ⟨gb257, _, none⟩) (by first | exact Nat.ne_of_lt (Nat.lt_of_lt_of_le (by have := World.block_lt_of_cell? _ _ hw248_2; first | rwa [add_block] at this | exact this) GW257.out) | (rw [add_block]; exact Nat.ne_of_lt (Nat.lt_of_lt_of_le (by have := World.block_lt_of_cell? _ _ hw248_2; first | rwa [add_block] at this | exact this) GW257.out)) | (show (Addr.add _ _).block ≠ _; rw [add_block]; exact Nat.ne_of_lt (Nat.lt_of_lt_of_le (by have := World.block_lt_of_cell? _ _ hw248_2; first | rwa [add_block] at this | exact this) GW257.out)) | (dsimp only; exact Nat.ne_of_lt (Nat.lt_of_lt_of_le (by have := World.block_lt_of_cell? _ _ hw248_2; first | rwa [add_block] at this | exact this) GW257.out))) _).trans (((cell_far (p := ⟨gb257, _, none⟩) (by first | exact Nat.ne_of_lt (Nat.lt_of_lt_of_le (by have := World.block_lt_of_cell? _ _ hw248_2; first | rwa [add_block] at this | exact this) GW257.out) | (rw [add_block]; exact Nat.ne_of_lt (Nat.lt_of_lt_of_le (by have := World.block_lt_of_cell? _ _ hw248_2; first | rwa [add_block] at this | exact this) GW257.out)) | (show (Addr.add _ _).block ≠ _; rw [add_block]; exact Nat.ne_of_lt (Nat.lt_of_lt_of_le (by have := World.block_lt_of_cell? _ _ hw248_2; first | rwa [add_block] at this | exact this) GW257.out)) | (dsimp only; exact Nat.ne_of_lt (Nat.lt_of_lt_of_le (by have := World.block_lt_of_cell? _ _ hw248_2; first | rwa [add_block] at this | exact this) GW257.out))) _).trans (((cell_far (p := ⟨gb257, _, none⟩) (by first | exact Nat.ne_of_lt (Nat.lt_of_lt_of_le (by have := World.block_lt_of_cell? _ _ hw248_2; first | rwa [add_block] at this | exact this) GW257.out) | (rw [add_block]; exact Nat.ne_of_lt (Nat.lt_of_lt_of_le (by have := World.block_lt_of_cell? _ _ hw248_2; first | rwa [add_block] at this | exact this) GW257.out)) | (show (Addr.add _ _).block ≠ _; rw [add_block]; exact Nat.ne_of_lt (Nat.lt_of_lt_of_le (by have := World.block_lt_of_cell? _ _ hw248_2; first | rwa [add_block] at this | exact this) GW257.out)) | (dsimp only; exact Nat.ne_of_lt (Nat.lt_of_lt_of_le (by have := World.block_lt_of_cell? _ _ hw248_2; first | rwa [add_block] at this | exact this) GW257.out))) _).trans (((cell_far (p := ⟨gb257, _, none⟩) (by first | exact Nat.ne_of_lt (Nat.lt_of_lt_of_le (by have := World.block_lt_of_cell? _ _ hw248_2; first | rwa [add_block] at this | exact this) GW257.out) | (rw [add_block]; exact Nat.ne_of_lt (Nat.lt_of_lt_of_le (by have := World.block_lt_of_cell? _ _ hw248_2; first | rwa [add_block] at this | exact this) GW257.out)) | (show (Addr.add _ _).block ≠ _; rw [add_block]; exact Nat.ne_of_lt (Nat.lt_of_lt_of_le (by have := World.block_lt_of_cell? _ _ hw248_2; first | rwa [add_block] at this | exact this) GW257.out)) | (dsimp only; exact Nat.ne_of_lt (Nat.lt_of_lt_of_le (by have := World.block_lt_of_cell? _ _ hw248_2; first | rwa [add_block] at this | exact this) GW257.out))) _).trans (((cell_far (p := ⟨gb257, _, none⟩) (by first | exact Nat.ne_of_lt (Nat.lt_of_lt_of_le (by have := World.block_lt_of_cell? _ _ hw248_2; first | rwa [add_block] at this | exact this) GW257.out) | (rw [add_block]; exact Nat.ne_of_lt (Nat.lt_of_lt_of_le (by have := World.block_lt_of_cell? _ _ hw248_2; first | rwa [add_block] at this | exact this) GW257.out)) | (show (Addr.add _ _).block ≠ _; rw [add_block]; exact Nat.ne_of_lt (Nat.lt_of_lt_of_le (by have := World.block_lt_of_cell? _ _ hw248_2; first | rwa [add_block] at this | exact this) GW257.out)) | (dsimp only; exact Nat.ne_of_lt (Nat.lt_of_lt_of_le (by have := World.block_lt_of_cell? _ _ hw248_2; first | rwa [add_block] at this | exact this) GW257.out))) _).trans (hHeld.2.2.2.1)))))))))), ((cell_far (p := ⟨gb257, _, none⟩) (by first | exact Nat.ne_of_lt (Nat.lt_of_lt_of_le (by have := World.block_lt_of_cell? _ _ hw248_3; first | rwa [add_block] at this | exact this) GW257.out) | (rw [add_block]; exact Nat.ne_of_lt (Nat.lt_of_lt_of_le (by have := World.block_lt_of_cell? _ _ hw248_3; first | rwa [add_block] at this | exact this) GW257.out)) | (show (Addr.add _ _).block ≠ _; rw [add_block]; exact Nat.ne_of_lt (Nat.lt_of_lt_of_le (by have := World.block_lt_of_cell? _ _ hw248_3; first | rwa [add_block] at this | exact this) GW257.out)) | (dsimp only; exact Nat.ne_of_lt (Nat.lt_of_lt_of_le (by have := World.block_lt_of_cell? _ _ hw248_3; first | rwa [add_block] at this | exact this) GW257.out))) _).trans (((cell_far (p := ⟨gb257, _, none⟩) (by first | exact Nat.ne_of_lt (Nat.lt_of_lt_of_le (by have := World.block_lt_of_cell? _ _ hw248_3; first | rwa [add_block] at this | exact this) GW257.out) | (rw [add_block]; exact Nat.ne_of_lt (Nat.lt_of_lt_of_le (by have := World.block_lt_of_cell? _ _ hw248_3; first | rwa [add_block] at this | exact this) GW257.out)) | (show (Addr.add _ _).block ≠ _; rw [add_block]; exact Nat.ne_of_lt (Nat.lt_of_lt_of_le (by have := World.block_lt_of_cell? _ _ hw248_3; first | rwa [add_block] at this | exact this) GW257.out)) | (dsimp only; exact Nat.ne_of_lt (Nat.lt_of_lt_of_le (by have := World.block_lt_of_cell? _ _ hw248_3; first | rwa [add_block] at this | exact this) GW257.out))) _).trans (((cell_far (p := ⟨gb257, _, none⟩) (by first | exact Nat.ne_of_lt (Nat.lt_of_lt_of_le (by have := World.block_lt_of_cell? _ _ hw248_3; first | rwa [add_block] at this | exact this) GW257.out) | (rw [add_block]; exact Nat.ne_of_lt (Nat.lt_of_lt_of_le (by have := World.block_lt_of_cell? _ _ hw248_3; first | rwa [add_block] at this | exact this) GW257.out)) | (show (Addr.add _ _).block ≠ _; rw [add_block]; exact Nat.ne_of_lt (Nat.lt_of_lt_of_le (by have := World.block_lt_of_cell? _ _ hw248_3; first | rwa [add_block] at this | exact this) GW257.out)) | (dsimp only; exact Nat.ne_of_lt (Nat.lt_of_lt_of_le (by have := World.block_lt_of_cell? _ _ hw248_3; first | rwa [add_block] at this | exact this) GW257.out))) _).trans (((cell_far (p := ⟨gb257, _, none⟩) (by first | exact Nat.ne_of_lt (Nat.lt_of_lt_of_le (by have := World.block_lt_of_cell? _ _ hw248_3; first | rwa [add_block] at this | exact this) GW257.out) | (rw [add_block]; exact Nat.ne_of_lt (Nat.lt_of_lt_of_le (by have := World.block_lt_of_cell? _ _ hw248_3; first | rwa [add_block] at this | exact this) GW257.out)) | (show (Addr.add _ _).block ≠ _; rw [add_block]; exact Nat.ne_of_lt (Nat.lt_of_lt_of_le (by have := World.block_lt_of_cell? _ _ hw248_3; first | rwa [add_block] at this | exact this) GW257.out)) | (dsimp only; exact Nat.ne_of_lt (Nat.lt_of_lt_of_le (by have := World.block_lt_of_cell? _ _ hw248_3; first | rwa [add_block] at this | exact this) GW257.out))) _).trans (((cell_far (p := ⟨gb257, _, none⟩) (by first | exact Nat.ne_of_lt (Nat.lt_of_lt_of_le (by have := World.block_lt_of_cell? _ _ hw248_3; first | rwa [add_block] at this | exact this) GW257.out) | (rw [add_block]; exact Nat.ne_of_lt (Nat.lt_of_lt_of_le (by have := World.block_lt_of_cell? _ _ hw248_3; first | rwa [add_block] at this | exact this) GW257.out)) | (show (Addr.add _ _).block ≠ _; rw [add_block]; exact Nat.ne_of_lt (Nat.lt_of_lt_of_le (by have := World.block_lt_of_cell? _ _ hw248_3; first | rwa [add_block] at this | exact this) GW257.out)) | (dsimp only; exact Nat.ne_of_lt (Nat.lt_of_lt_of_le (by have := World.block_lt_of_cell? _ _ hw248_3; first | rwa [add_block] at this | exact this) GW257.out))) _).trans (hHeld.2.2.2.2.1)))))))))), ((cell_far (p := ⟨gb257, _, none⟩) (by first | exact Nat.ne_of_lt (Nat.lt_of_lt_of_le (by have := World.block_lt_of_cell? _ _ hw248_4; first | rwa [add_block] at this | exact this) GW257.out) | (rw [add_block]; exact Nat.ne_of_lt (Nat.lt_of_lt_of_le (by have := World.block_lt_of_cell? _ _ hw248_4; first | rwa [add_block] at this | exact this) GW257.out)) | (show (Addr.add _ _).block ≠ _; rw [add_block]; exact Nat.ne_of_lt (Nat.lt_of_lt_of_le (by have := World.block_lt_of_cell? _ _ hw248_4; first | rwa [add_block] at this | exact this) GW257.out)) | (dsimp only; exact Nat.ne_of_lt (Nat.lt_of_lt_of_le (by have := World.block_lt_of_cell? _ _ hw248_4; first | rwa [add_block] at this | exact this) GW257.out))) _).trans (((cell_far (p := ⟨gb257, _, none⟩) (by first | exact Nat.ne_of_lt (Nat.lt_of_lt_of_le (by have := World.block_lt_of_cell? _ _ hw248_4; first | rwa [add_block] at this | exact this) GW257.out) | (rw [add_block]; exact Nat.ne_of_lt (Nat.lt_of_lt_of_le (by have := World.block_lt_of_cell? _ _ hw248_4; first | rwa [add_block] at this | exact this) GW257.out)) | (show (Addr.add _ _).block ≠ _; rw [add_block]; exact Nat.ne_of_lt (Nat.lt_of_lt_of_le (by have := World.block_lt_of_cell? _ _ hw248_4; first | rwa [add_block] at this | exact this) GW257.out)) | (dsimp only; exact Nat.ne_of_lt (Nat.lt_of_lt_of_le (by have := World.block_lt_of_cell? _ _ hw248_4; first | rwa [add_block] at this | exact this) GW257.out))) _).trans (((cell_far (p := ⟨gb257, _, none⟩) (by first | exact Nat.ne_of_lt (Nat.lt_of_lt_of_le (by have := World.block_lt_of_cell? _ _ hw248_4; first | rwa [add_block] at this | exact this) GW257.out) | (rw [add_block]; exact Nat.ne_of_lt (Nat.lt_of_lt_of_le (by have := World.block_lt_of_cell? _ _ hw248_4; first | rwa [add_block] at this | exact this) GW257.out)) | (show (Addr.add _ _).block ≠ _; rw [add_block]; exact Nat.ne_of_lt (Nat.lt_of_lt_of_le (by have := World.block_lt_of_cell? _ _ hw248_4; first | rwa [add_block] at this | exact this) GW257.out)) | (dsimp only; exact Nat.ne_of_lt (Nat.lt_of_lt_of_le (by have := World.block_lt_of_cell? _ _ hw248_4; first | rwa [add_block] at this | exact this) GW257.out))) _).trans (((cell_far (p := ⟨gb257, _, none⟩) (by first | exact Nat.ne_of_lt (Nat.lt_of_lt_of_le (by have := World.block_lt_of_cell? _ _ hw248_4; first | rwa [add_block] at this | exact this) GW257.out) | (rw [add_block]; exact Nat.ne_of_lt (Nat.lt_of_lt_of_le (by have := World.block_lt_of_cell? _ _ hw248_4; first | rwa [add_block] at this | exact this) GW257.out)) | (show (Addr.add _ _).block ≠ _; rw [add_block]; exact Nat.ne_of_lt (Nat.lt_of_lt_of_le (by have := World.block_lt_of_cell? _ _ hw248_4; first | rwa [add_block] at this | exact this) GW257.out)) | (dsimp only; exact Nat.ne_of_lt (Nat.lt_of_lt_of_le (by have := World.block_lt_of_cell? _ _ hw248_4; first | rwa [add_block] at this | exact this) GW257.out))) _).trans (((cell_far (p := ⟨gb257, _, none⟩) (by first | exact Nat.ne_of_lt (Nat.lt_of_lt_of_le (by have := World.block_lt_of_cell? _ _ hw248_4; first | rwa [add_block] at this | exact this) GW257.out) | (rw [add_block]; exact Nat.ne_of_lt (Nat.lt_of_lt_of_le (by have := World.block_lt_of_cell? _ _ hw248_4; first | rwa [add_block] at this | exact this) GW257.out)) | (show (Addr.add _ _).block ≠ _; rw [add_block]; exact Nat.ne_of_lt (Nat.lt_of_lt_of_le (by have := World.block_lt_of_cell? _ _ hw248_4; first | rwa [add_block] at this | exact this) GW257.out)) | (dsimp only; exact Nat.ne_of_lt (Nat.lt_of_lt_of_le (by have := World.block_lt_of_cell? _ _ hw248_4; first | rwa [add_block] at this | exact this) GW257.out))) _).trans (hHeld.2.2.2.2.2))))))))))⟩ (fun hHeld => ?_)
                                clear hK K
                                refine pure_ (i := 13) (N := some 18) (v := ?_) (a' := ?_) #[true, true, true, true, true, true, true, true, true, true, true, true, true, true] rfl rfl (any_of HT_.out (by kernel_rfl)) (fun _ _ _ h => h) (Or.inl ⟨by rfl, ?_⟩) ?_ ?_
                                rotate_left
                                · intro w'
                                  go_simp
                                  with_reducible rfl
                                rotate_left
                                · simp only [Act.put, List.setIfInBounds_toArray, List.set_cons_zero, List.set_cons_succ, i64_w, i32_w]
                                  rfl
                                refine done_ (done_of HT_.out (by kernel_rfl)) ?_
                                have hnb44 := NB257_236.out
                                have hnc44 := NB236_257.out
                                have hcz45_0 : w38.cell? ⟨gb257, 0, none⟩ = some (.int .i64 0) := (blk_cell BK257.out 0).trans rfl
                                have hcz45_1 : w38.cell? ⟨gb257, 1, none⟩ = some (.int .i64 0) := (blk_cell BK257.out 1).trans rfl
                                have hcz45_2 : w38.cell? ⟨gb257, 2, none⟩ = some (.int .i64 0) := (blk_cell BK257.out 2).trans rfl
                                have hcz45_3 : w38.cell? ⟨gb257, 3, none⟩ = some (.string (⟨#[]⟩ : ByteArray)) := (blk_cell BK257.out 3).trans rfl
                                have hcz45_4 : w38.cell? ⟨gb257, 4, none⟩ = some (.int .i64 0) := (blk_cell BK257.out 4).trans rfl
                                have hfz45_0 := blk_frozen BK257.out 0
                                have hfz45_1 := blk_frozen BK257.out 1
                                have hfz45_2 := blk_frozen BK257.out 2
                                have hfz45_3 := blk_frozen BK257.out 3
                                have hfz45_4 := blk_frozen BK257.out 4
                                have hcz46_0 : w38.cell? ⟨gb236, 0, none⟩ = some (.slice A1_0 l1_0.length c1_0) := (blk_cell BK236.out 0).trans rfl
                                have hfz46_0 := blk_frozen BK236.out 0
                                try go_wp2_with (first | ((with_reducible refine gate_callee (f := 66) rfl ?_); refine goesL_ (some 101) rfl rfl Try.func66 (by kernel_rfl) rfl #[.agg #[.slice A1_0 l1_0.length c1_0], .agg #[.int .i64 t249, .int .i64 t250, .int .i64 t251, .string t252, .int .i64 t253], .int .i64 a3] rfl (by (try simp only [List.map_toArray, List.map_cons, List.map_nil]); first | done | rfl | (simp only [List.length_drop, List.length_take]; rfl)) ?_; (with_reducible refine (crossbarref27_record.calls k3 _ _ l1_0 t249 t250 t251 t252 t253 a3 t258 t259 t260 t261 t262 t263 t264 t265 _ ?side1 ?side2 A32.out).mono ?_); (case side1 => exact Kd.C_below HR1_0.out (by repeat (first | (with_reducible first | exact HB.out | apply below_alloc | apply pw_below_drewN | apply below_drew1 | refine below_set ?_ GE236.out | refine below_set ?_ GE257.out) | exact HB.out))); (case side2 => exact HC1_0.out); rintro e w47 ⟨rfl, hb⟩; refine ⟨_, rfl, ?_⟩; have n0_ := Aside0.mk (Kd.R_below (by (with_reducible repeat (first | apply Kd.R_alloc | apply Kd.R_drewN | apply Kd.R_drew)); exact (Kd.R_mono (Kd.R_far (p := ⟨gb257, 4, none⟩) (Kd.R_far (p := ⟨gb257, 3, none⟩) (Kd.R_far (p := ⟨gb257, 2, none⟩) (Kd.R_far (p := ⟨gb257, 1, none⟩) (Kd.R_far (p := ⟨gb257, 0, none⟩) (Kd.R_mono HO_14.out (fun k_ hk => (⟨hk, hk⟩ : _ ∧ k_ ≠ gb257))) (fun _ hk => hk.2) (.int .i64 t249)) (fun _ hk => hk.2) (.int .i64 t250)) (fun _ hk => hk.2) (.int .i64 t251)) (fun _ hk => hk.2) (.string t252)) (fun _ hk => hk.2) (.int .i64 t253)) (fun _ h_ => h_.1))) hb); have n1_ := Aside0.mk (Kd.R_below (by (with_reducible repeat (first | apply Kd.R_alloc | apply Kd.R_drewN | apply Kd.R_drew)); exact (Kd.R_mono (Kd.R_far (p := ⟨gb257, 4, none⟩) (Kd.R_far (p := ⟨gb257, 3, none⟩) (Kd.R_far (p := ⟨gb257, 2, none⟩) (Kd.R_far (p := ⟨gb257, 1, none⟩) (Kd.R_far (p := ⟨gb257, 0, none⟩) (Kd.R_types HO256.out BK257.out (by decide)) (fun _ hk => hk.2) (.int .i64 t249)) (fun _ hk => hk.2) (.int .i64 t250)) (fun _ hk => hk.2) (.int .i64 t251)) (fun _ hk => hk.2) (.string t252)) (fun _ hk => hk.2) (.int .i64 t253)) (fun _ h_ => h_.1))) hb); have n2_ := Aside0.mk (blk_below (g := gb236) (o := .cells #[.slice A1_0 l1_0.length c1_0] 25 (0, 0)) (by (with_reducible repeat (first | refine blk_drewN ?_ _ | refine blk_drew ?_ | refine blk_alloc ?_ _)); refine blk_far ?_ NB236_257.out _; (with_reducible repeat (first | refine blk_drewN ?_ _ | refine blk_drew ?_ | refine blk_alloc ?_ _)); refine blk_far ?_ NB236_257.out _; (with_reducible repeat (first | refine blk_drewN ?_ _ | refine blk_drew ?_ | refine blk_alloc ?_ _)); refine blk_far ?_ NB236_257.out _; (with_reducible repeat (first | refine blk_drewN ?_ _ | refine blk_drew ?_ | refine blk_alloc ?_ _)); refine blk_far ?_ NB236_257.out _; (with_reducible repeat (first | refine blk_drewN ?_ _ | refine blk_drew ?_ | refine blk_alloc ?_ _)); refine blk_far ?_ NB236_257.out _; (with_reducible repeat (first | refine blk_drewN ?_ _ | refine blk_drew ?_ | refine blk_alloc ?_ _)); exact BK236.out) hb); have n3_ := Aside0.mk (blk_below (g := gb257) (o := .cells #[.int .i64 t249, .int .i64 t250, .int .i64 t251, .string t252, .int .i64 t253] 33 (0, 0)) (by (with_reducible repeat (first | refine blk_drewN ?_ _ | refine blk_drew ?_ | refine blk_alloc ?_ _)); refine blk_put (cs := #[.int .i64 t249, .int .i64 t250, .int .i64 t251, .string t252, .int .i64 0]) ?_ 4 _ rfl; (with_reducible repeat (first | refine blk_drewN ?_ _ | refine blk_drew ?_ | refine blk_alloc ?_ _)); refine blk_put (cs := #[.int .i64 t249, .int .i64 t250, .int .i64 t251, .string (⟨#[]⟩ : ByteArray), .int .i64 0]) ?_ 3 _ rfl; (with_reducible repeat (first | refine blk_drewN ?_ _ | refine blk_drew ?_ | refine blk_alloc ?_ _)); refine blk_put (cs := #[.int .i64 t249, .int .i64 t250, .int .i64 0, .string (⟨#[]⟩ : ByteArray), .int .i64 0]) ?_ 2 _ rfl; (with_reducible repeat (first | refine blk_drewN ?_ _ | refine blk_drew ?_ | refine blk_alloc ?_ _)); refine blk_put (cs := #[.int .i64 t249, .int .i64 0, .int .i64 0, .string (⟨#[]⟩ : ByteArray), .int .i64 0]) ?_ 1 _ rfl; (with_reducible repeat (first | refine blk_drewN ?_ _ | refine blk_drew ?_ | refine blk_alloc ?_ _)); refine blk_put (cs := #[.int .i64 0, .int .i64 0, .int .i64 0, .string (⟨#[]⟩ : ByteArray), .int .i64 0]) ?_ 0 _ rfl; (with_reducible repeat (first | refine blk_drewN ?_ _ | refine blk_drew ?_ | refine blk_alloc ?_ _)); exact BK257.out) hb); have n4_ := Aside0.mk (below_step (by repeat (first | (with_reducible first | exact HB.out | apply below_alloc | apply pw_below_drewN | apply below_drew1 | refine below_set ?_ GE236.out | refine below_set ?_ GE257.out) | exact HB.out)) hb); clear HO_14; clear HO256; clear BK236; clear BK257; clear HB; have HO_14 := n0_; have HO256 := n1_; have BK236 := n2_; have BK257 := n3_; have HB := n4_; clear n0_ n1_ n2_ n3_ n4_; (try clear hb); (try clear hb2); (try clear hk); (try clear hi)) | ((with_reducible refine gate_builtin (b := .append) (xs := #[.tmp 97, .tmp 102]) rfl ?_); at_builtin; refine Kd.R_append k39 (w0 := w) w.heap.size rfl (.tmp 97) (.tmp 102) 28 39 (.agg #[(.int .i64 0), (.int .i64 0), (.int .i64 0), (.string ⟨#[]⟩), (.int .i64 0), (.int .i64 0), (.int .i64 0), (.int .i64 0)]) 72 rfl Try.underlying28 info39 rfl (by decide) (by omega) v255 t254 (⟨t258, t259, t260, t261, t262, t263, t264, t265⟩ : S39) [.int .i64 t258, .int .i64 t259, .int .i64 t260, .string t261, .int .i64 t262, .int .i64 t263, .int .i64 t264, .int .i64 t265] (fun _ => True) (fun _ => False) rfl rfl ?aP (fun _ hk => hk.elim) ?aF ?aO ?aB ?aS ?aL ?_; (case aP => exact k39_mkM _ _ _ (⟨t258, t259, t260, t261, t262, t263, t264, t265⟩ : S39)); (case aB => exact (by repeat (first | (with_reducible first | exact HB.out | apply below_alloc | apply pw_below_drewN | apply below_drew1 | refine below_set ?_ GE236.out | refine below_set ?_ GE257.out) | exact HB.out))); (case aF => exact (fun _ _ => trivial)); (case aO => exact (by (with_reducible repeat (first | apply Kd.R_alloc | apply Kd.R_drewN | apply Kd.R_drew)); exact HO256.out)); (case aS => exact (below_size (by repeat (first | (with_reducible first | exact HB.out | apply below_alloc | apply pw_below_drewN | apply below_drew1 | refine below_set ?_ GE236.out | refine below_set ?_ GE257.out) | exact HB.out)))); (case aL => have := LMc33.out; omega); intro v267 w48 ho hb hg hat; rw [← Ny266.out] at ho; have n0_ := Aside0.mk (Kd.R_over' (by (with_reducible repeat (first | apply Kd.R_alloc | apply Kd.R_drewN | apply Kd.R_drew)); exact HO_14.out) (Kd.R_typed (by (with_reducible repeat (first | apply Kd.R_alloc | apply Kd.R_drewN | apply Kd.R_drew)); exact HO256.out)) (by decide) hg); have n1_ := Aside0.mk (blk_grown (g := gb236) (o := .cells #[.slice A1_0 l1_0.length c1_0] 25 (0, 0)) (by (with_reducible repeat (first | refine blk_drewN ?_ _ | refine blk_drew ?_ | refine blk_alloc ?_ _)); exact BK236.out) hg (Kd.R_ne HO256.out BK236.out (by decide))); have n2_ := Aside0.mk (blk_grown (g := gb257) (o := .cells #[.int .i64 t249, .int .i64 t250, .int .i64 t251, .string t252, .int .i64 t253] 33 (0, 0)) (by (with_reducible repeat (first | refine blk_drewN ?_ _ | refine blk_drew ?_ | refine blk_alloc ?_ _)); exact BK257.out) hg (Kd.R_ne HO256.out BK257.out (by decide))); have n3_ := Aside0.mk (hb); have n4_ := Aside0.mk (ho); clear HO_14; clear BK236; clear BK257; clear HB; clear HO256; have HO_14 := n0_; have BK236 := n1_; have BK257 := n2_; have HB := n3_; have HO268 := n4_; clear n0_ n1_ n2_ n3_ n4_; clear ho hb hg hat))
                                go_roundg k3
                                case measure => have := HJ4.out; have := HK2.out; have := HK3.out; omega
                                case rel => exact ⟨(x14_3), (y266), (wrap64 (x16_3 + 1)), (by first | rfl | (simp; done) | (simp [*]; done)), H', ⟨by have := HJ4.out; have := HK2.out; have := HK3.out; omega⟩, ⟨by (with_reducible repeat (first | apply Kd.R_alloc | apply Kd.R_drewN | apply Kd.R_drew)); exact Kd.R_mono HO_14.out (fun _ hk => trivial)⟩, ⟨by (with_reducible repeat (first | apply Kd.R_alloc | apply Kd.R_drewN | apply Kd.R_drew)); exact HO268.out⟩, ⟨by (with_reducible repeat (first | refine blk_drewN ?_ _ | refine blk_drew ?_ | refine blk_alloc ?_ _)); exact BK236.out⟩, ⟨by repeat (first | (with_reducible first | exact HB.out | apply below_alloc | apply pw_below_drewN | apply below_drew1 | refine below_set ?_ GE236.out | refine below_set ?_ GE257.out) | exact HB.out)⟩⟩
                              · rw [if_neg c33] at H
                                exact absurd H (by simp)
                            · rw [if_neg c31] at H
                              have c31b0 : decide (t253 < a3) = false := decide_eq_false c31
                              clear c31
                              have H' := Aside0.mk H
                              clear H
                              have p243 : 0 ≤ (x16_3 : Int) := of_decide_eq_true (by first | (with_reducible assumption) | assumption)
                              have q243 : x16_3 < (l0.length : Int) := of_decide_eq_true (by first | (with_reducible assumption) | assumption)
                              obtain ⟨ad243, e243, hx243_0, hx243_1, hx243_2, hx243_3, hx243_4⟩ := at_T33 HR0.out x16_3 p243 q243
                              cases e243
                              replace hx243_0 := (HB.out.cell (World.block_lt_of_cell? w _ hx243_0)).trans hx243_0
                              replace hx243_1 := (HB.out.cell (World.block_lt_of_cell? w _ hx243_1)).trans hx243_1
                              replace hx243_2 := (HB.out.cell (World.block_lt_of_cell? w _ hx243_2)).trans hx243_2
                              replace hx243_3 := (HB.out.cell (World.block_lt_of_cell? w _ hx243_3)).trans hx243_3
                              replace hx243_4 := (HB.out.cell (World.block_lt_of_cell? w _ hx243_4)).trans hx243_4
                              replace p243 := eq_true p243
                              replace q243 := eq_true q243
                              obtain ⟨Ao49, co49, eo49⟩ := Kd.R_slice HO_15.out
                              subst eo49
                              try go_wp2
                              have n0_ := Aside0.mk (Kd.R_drew HO_14.out)
                              have n1_ := Aside0.mk (Kd.R_drew HO_15.out)
                              have n2_ := Aside0.mk (blk_drew BK236.out)
                              have n3_ := Aside0.mk (below_drew1 HB.out)
                              clear HO_14
                              clear HO_15
                              clear BK236
                              clear HB
                              have HO_14 := n0_
                              have HO_15 := n1_
                              have BK236 := n2_
                              have HB := n3_
                              clear n0_ n1_ n2_ n3_
                              have p248 : 0 ≤ (x16_3 : Int) := of_decide_eq_true (by first | (with_reducible assumption) | assumption)
                              have q248 : x16_3 < (l0.length : Int) := of_decide_eq_true (by first | (with_reducible assumption) | assumption)
                              obtain ⟨ad248, e248, hx248_0, hx248_1, hx248_2, hx248_3, hx248_4⟩ := at_T33 HR0.out x16_3 p248 q248
                              have hw248_4 := hx248_4
                              have hw248_3 := hx248_3
                              have hw248_2 := hx248_2
                              have hw248_1 := hx248_1
                              have hw248_0 := hx248_0
                              obtain rfl : ad243 = ad248 := (by injection e248)
                              replace hx248_0 := (HB.out.cell (World.block_lt_of_cell? w _ hx248_0)).trans hx248_0
                              replace hx248_1 := (HB.out.cell (World.block_lt_of_cell? w _ hx248_1)).trans hx248_1
                              replace hx248_2 := (HB.out.cell (World.block_lt_of_cell? w _ hx248_2)).trans hx248_2
                              replace hx248_3 := (HB.out.cell (World.block_lt_of_cell? w _ hx248_3)).trans hx248_3
                              replace hx248_4 := (HB.out.cell (World.block_lt_of_cell? w _ hx248_4)).trans hx248_4
                              replace p248 := eq_true p248
                              replace q248 := eq_true q248
                              refine start_ (n := 14) (S := fun w' => w'.cell? ⟨gb236, 0, none⟩ = some (.slice A1_0 l1_0.length c1_0) ∧ w'.cell? (ad243.add ((x16_3).toNat * 5)) = some (.int .i64 ((rd_T33 l0 x16_3).f0)) ∧ w'.cell? ⟨(ad243.add ((x16_3).toNat * 5)).block, (ad243.add ((x16_3).toNat * 5)).off + 1, none⟩ = some (.int .i64 ((rd_T33 l0 x16_3).f1)) ∧ w'.cell? ⟨(ad243.add ((x16_3).toNat * 5)).block, (ad243.add ((x16_3).toNat * 5)).off + 2, none⟩ = some (.int .i64 ((rd_T33 l0 x16_3).f2)) ∧ w'.cell? ⟨(ad243.add ((x16_3).toNat * 5)).block, (ad243.add ((x16_3).toNat * 5)).off + 3, none⟩ = some (.string ((rd_T33 l0 x16_3).f3)) ∧ w'.cell? ⟨(ad243.add ((x16_3).toNat * 5)).block, (ad243.add ((x16_3).toNat * 5)).off + 4, none⟩ = some (.int .i64 ((rd_T33 l0 x16_3).f4))) (ds := []) #[false, false, false, false, false, false, false, false, false, false, false, false, false, false] (by kernel_rfl) rfl rfl ⟨(blk_cell BK236.out 0).trans rfl, ((HB.out.cell (World.block_lt_of_cell? w _ hw248_0)).trans hw248_0), ((HB.out.cell (World.block_lt_of_cell? w _ hw248_1)).trans hw248_1), ((HB.out.cell (World.block_lt_of_cell? w _ hw248_2)).trans hw248_2), ((HB.out.cell (World.block_lt_of_cell? w _ hw248_3)).trans hw248_3), ((HB.out.cell (World.block_lt_of_cell? w _ hw248_4)).trans hw248_4)⟩ (fun hHeld => ?_); refine with_tabW crossbarref27_Stop.tab23 crossbarref27_Stop.bits23 (fun HT_ HW_ => ?_)
                              generalize wr.drew = w50 at HO_14 HO_15 BK236 HB hx248_0 hx248_1 hx248_2 hx248_3 hx248_4 hHeld ⊢
                              refine pure_ (i := 1) (N := some 83) (v := ?_) (a' := ?_) #[false, true, false, false, false, false, false, false, false, false, false, false, false, false] rfl rfl (any_of HT_.out (by kernel_rfl)) (fun _ _ _ h => h) (Or.inl ⟨by rfl, ?_⟩) ?_ ?_
                              rotate_left
                              · intro w'
                                go_simp
                                with_reducible rfl
                              rotate_left
                              · simp only [Act.put, List.setIfInBounds_toArray, List.set_cons_zero, List.set_cons_succ, i64_w, i32_w]
                                rfl
                              refine pure_ (i := 2) (N := some 84) (v := ?_) (a' := ?_) #[false, true, true, false, false, false, false, false, false, false, false, false, false, false] rfl rfl (any_of HT_.out (by kernel_rfl)) (fun _ _ _ h => h) (Or.inl ⟨by rfl, ?_⟩) ?_ ?_
                              rotate_left
                              · intro w'
                                go_simp
                                with_reducible rfl
                              rotate_left
                              · simp only [Act.put, List.setIfInBounds_toArray, List.set_cons_zero, List.set_cons_succ, i64_w, i32_w]
                                rfl
                              refine pure_ (i := 3) (N := some 85) (v := ?_) (a' := ?_) #[false, true, true, true, false, false, false, false, false, false, false, false, false, false] rfl rfl (any_of HT_.out (by kernel_rfl)) (fun _ _ _ h => h) (Or.inl ⟨by rfl, ?_⟩) ?_ ?_
                              rotate_left
                              · intro w'
                                go_simp
                                with_reducible rfl
                              rotate_left
                              · simp only [Act.put, List.setIfInBounds_toArray, List.set_cons_zero, List.set_cons_succ, i64_w, i32_w]
                                rfl
                              refine pure_ (i := 5) (N := some 87) (v := ?_) (a' := ?_) #[false, true, true, true, false, true, false, false, false, false, false, false, false, false] rfl rfl (any_of HT_.out (by kernel_rfl)) (fun _ _ _ h => h) (Or.inl ⟨by rfl, ?_⟩) ?_ ?_
                              rotate_left
                              · intro w'
                                go_simp
                                with_reducible rfl
                              rotate_left
                              · simp only [Act.put, List.setIfInBounds_toArray, List.set_cons_zero, List.set_cons_succ, i64_w, i32_w]
                                rfl
                              refine pure_ (i := 6) (N := some 88) (v := ?_) (a' := ?_) #[false, true, true, true, false, true, true, false, false, false, false, false, false, false] rfl rfl (any_of HT_.out (by kernel_rfl)) (fun _ _ _ h => h) (Or.inl ⟨by rfl, ?_⟩) ?_ ?_
                              rotate_left
                              · intro w'
                                go_simp
                                with_reducible rfl
                              rotate_left
                              · simp only [Act.put, List.setIfInBounds_toArray, List.set_cons_zero, List.set_cons_succ, i64_w, i32_w]
                                rfl
                              refine take_ (i := 0) (N := some 82) (v := ?_) (a' := ?_) #[true, true, true, true, false, true, true, false, false, false, false, false, false, false] rfl rfl (take_ofW HT_.out HW_.out (by kernel_rfl)) (fun _ _ _ h => h) (Or.inl ⟨by rfl, ?_⟩) hHeld ?_ ?_
                              rotate_left
                              · rintro w' ⟨s0, s1, s2, s3, s4, s5⟩
                                go_simp
                                with_reducible rfl
                              rotate_left
                              · simp only [Act.put, List.setIfInBounds_toArray, List.set_cons_zero, List.set_cons_succ, i64_w, i32_w]
                                rfl
                              refine take_ (i := 4) (N := some 86) (v := ?_) (a' := ?_) #[true, true, true, true, true, true, true, false, false, false, false, false, false, false] rfl rfl (take_ofW HT_.out HW_.out (by kernel_rfl)) (fun _ _ _ h => h) (Or.inl ⟨by rfl, ?_⟩) hHeld ?_ ?_
                              rotate_left
                              · rintro w' ⟨s0, s1, s2, s3, s4, s5⟩
                                go_simp
                                with_reducible rfl
                              rotate_left
                              · simp only [Act.put, List.setIfInBounds_toArray, List.set_cons_zero, List.set_cons_succ, i64_w, i32_w]
                                rfl
                              refine join_ (σ := Value × Nat) 2 #[true, true, true, true, true, true, true, true, true, true, true, true, false, false] (fun s_ => [(89, .tuple #[.agg #[.int .i64 t249, .int .i64 t250, .int .i64 t251, .string t252, .int .i64 t253], s_.1]), (17, .pointer (some ⟨s_.2, 0, none⟩)), (81, .tuple #[.agg #[.int .i64 t249, .int .i64 t250, .int .i64 t251, .string t252, .int .i64 t253], s_.1]), (90, .agg #[.int .i64 t249, .int .i64 t250, .int .i64 t251, .string t252, .int .i64 t253]), (91, s_.1)]) (fun s_ w' => (w'.cell? ⟨gb236, 0, none⟩ = some (.slice A1_0 l1_0.length c1_0) ∧ w'.cell? (ad243.add ((x16_3).toNat * 5)) = some (.int .i64 ((rd_T33 l0 x16_3).f0)) ∧ w'.cell? ⟨(ad243.add ((x16_3).toNat * 5)).block, (ad243.add ((x16_3).toNat * 5)).off + 1, none⟩ = some (.int .i64 ((rd_T33 l0 x16_3).f1)) ∧ w'.cell? ⟨(ad243.add ((x16_3).toNat * 5)).block, (ad243.add ((x16_3).toNat * 5)).off + 2, none⟩ = some (.int .i64 ((rd_T33 l0 x16_3).f2)) ∧ w'.cell? ⟨(ad243.add ((x16_3).toNat * 5)).block, (ad243.add ((x16_3).toNat * 5)).off + 3, none⟩ = some (.string ((rd_T33 l0 x16_3).f3)) ∧ w'.cell? ⟨(ad243.add ((x16_3).toNat * 5)).block, (ad243.add ((x16_3).toNat * 5)).off + 4, none⟩ = some (.int .i64 ((rd_T33 l0 x16_3).f4))) ∧ (Kd.R k39 39 w' w.heap.size (fun _ => True) s_.1 t254) ∧ (Kd.R k33 33 w' w.heap.size (fun k_ => k_ ≠ s_.2) u14 x14_3) ∧ (w'.heap[gb236]? = some (.cells #[.slice A1_0 l1_0.length c1_0] 25 (0, 0))) ∧ (w'.heap[s_.2]? = some (.cells #[.int .i64 0, .int .i64 0, .int .i64 0, .string (⟨#[]⟩ : ByteArray), .int .i64 0] 33 (0, 0))) ∧ (w.heap.size ≤ s_.2) ∧ (w.heap.size ≤ s_.2) ∧ (gb236 ≠ s_.2) ∧ (s_.2 ≠ gb236) ∧ (Below w.heap.size w w')) ?_ ?_
                              rotate_left
                              · intro hCont
                                refine two_ (i := 7) (j := 11) (Ni := some 89) (Nj := some 17) #[true, true, true, true, true, true, true, true, false, false, false, false, false, false] #[true, true, true, true, true, true, true, false, false, false, false, true, false, false] rfl rfl rfl rfl (two_of HT_.out (by kernel_rfl)) (by decide) (by decide) (fun K hK => ?_) (fun K hK => ?_)
                                · skip
                                  refine goes_ Try.func65 (by kernel_rfl) rfl #[.agg #[.slice A1_0 l1_0.length c1_0], .agg #[.int .i64 ((rd_T33 l0 x16_3).f0), .int .i64 ((rd_T33 l0 x16_3).f1), .int .i64 ((rd_T33 l0 x16_3).f2), .string ((rd_T33 l0 x16_3).f3), .int .i64 ((rd_T33 l0 x16_3).f4)], .int .i64 a3, .slice Ao49 x15_3.length co49] (by rfl) rfl rfl (by (try simp only [List.map_toArray, List.map_cons, List.map_nil]); first | done | rfl | (simp only [List.length_drop, List.length_take]; rfl)) ?_
                                  with_reducible refine (crossbarref27_advanced.calls k3 _ _ l1_0 ((rd_T33 l0 x16_3).f0) ((rd_T33 l0 x16_3).f1) ((rd_T33 l0 x16_3).f2) ((rd_T33 l0 x16_3).f3) ((rd_T33 l0 x16_3).f4) a3 (fun k_ => some k_ = (.slice Ao49 x15_3.length co49 : Value).ownBlock) (.slice Ao49 x15_3.length co49) x15_3 t249 t250 t251 t252 t253 t254 w _ ?side1 ?side2 ?side3 ?side4 A30.out).mono ?_
                                  (case side1 => repeat (first | (with_reducible first | exact HB.out | apply below_alloc | apply pw_below_drewN | apply below_drew1 | refine below_set ?_ GE236.out) | exact HB.out))
                                  (case side2 => exact Kd.C_kept_came k110_heap HR1_0.out (by repeat (first | (with_reducible first | exact HB.out | apply below_alloc | apply pw_below_drewN | apply below_drew1 | refine below_set ?_ GE236.out) | exact HB.out)) (fun k_ hs_ => (fun e_ => Kd.R_base HO_15.out k_ e_.symm) hs_))
                                  (case side3 => exact HC1_0.out)
                                  (case side4 => exact Kd.R_tight rfl HO_15.out)
                                  rintro e w51 ⟨v255, rfl, ho0, hb, hkp⟩
                                  refine ⟨_, rfl, ?_⟩
                                  have n0_ := Aside0.mk (Kd.R_mono (ok' := fun k_ => True) (Kd.R_keptB ((Kd.R_apart' HO_14.out (Kd.R_typed HO_15.out) (by decide))) hkp (fun k_ hk_ hs_ => (hk_.2) hs_)) (fun k_ hk_ => trivial))
                                  have n1_ := Aside0.mk (blk_kept (by (with_reducible repeat (first | refine blk_drewN ?_ _ | refine blk_drew ?_ | refine blk_alloc ?_ _)); exact BK236.out) hkp (fun hs_ => (fun e_ => (Kd.R_ne HO_15.out BK236.out (by decide)) e_) hs_))
                                  have n2_ := Aside0.mk (Kd.R_mono (ok' := fun k_ => True) ho0 (fun k_ hk_ => trivial))
                                  have n3_ := Aside0.mk (hb)
                                  clear HO_14
                                  clear BK236
                                  clear HB
                                  clear HO_15
                                  have HO_14 := n0_
                                  have BK236 := n1_
                                  have HO256 := n2_
                                  have HB := n3_
                                  clear n0_ n1_ n2_ n3_
                                  (try clear hb)
                                  (try clear hkp)
                                  (try clear ho0)
                                  refine hK.out _ _ ⟨(blk_cell BK236.out 0).trans rfl, ((HB.out.cell (World.block_lt_of_cell? w _ hw248_0)).trans hw248_0), ((HB.out.cell (World.block_lt_of_cell? w _ hw248_1)).trans hw248_1), ((HB.out.cell (World.block_lt_of_cell? w _ hw248_2)).trans hw248_2), ((HB.out.cell (World.block_lt_of_cell? w _ hw248_3)).trans hw248_3), ((HB.out.cell (World.block_lt_of_cell? w _ hw248_4)).trans hw248_4)⟩ (fun hHeld => ?_)
                                  clear hK K
                                  refine norm_ (a' := ?_) ?_ ?_
                                  rotate_left
                                  · show Act.put _ (some 89) _ = _
                                    simp only [Act.put, List.setIfInBounds_toArray, List.set_cons_zero, List.set_cons_succ, i64_w, i32_w]
                                    rfl
                                  refine pure_ (i := 8) (N := some 81) (v := ?_) (a' := ?_) #[true, true, true, true, true, true, true, true, true, false, false, false, false, false] rfl rfl (any_of HT_.out (by kernel_rfl)) (fun _ _ _ h => h) (Or.inl ⟨by rfl, ?_⟩) ?_ ?_
                                  rotate_left
                                  · intro w'
                                    go_simp
                                    with_reducible rfl
                                  rotate_left
                                  · simp only [Act.put, List.setIfInBounds_toArray, List.set_cons_zero, List.set_cons_succ, i64_w, i32_w]
                                    rfl
                                  refine pure_ (i := 9) (N := some 90) (v := ?_) (a' := ?_) #[true, true, true, true, true, true, true, true, true, true, false, false, false, false] rfl rfl (any_of HT_.out (by kernel_rfl)) (fun _ _ _ h => h) (Or.inl ⟨by rfl, ?_⟩) ?_ ?_
                                  rotate_left
                                  · intro w'
                                    go_simp
                                    with_reducible rfl
                                  rotate_left
                                  · simp only [Act.put, List.setIfInBounds_toArray, List.set_cons_zero, List.set_cons_succ, i64_w, i32_w]
                                    rfl
                                  refine pure_ (i := 10) (N := some 91) (v := ?_) (a' := ?_) #[true, true, true, true, true, true, true, true, true, true, true, false, false, false] rfl rfl (any_of HT_.out (by kernel_rfl)) (fun _ _ _ h => h) (Or.inl ⟨by rfl, ?_⟩) ?_ ?_
                                  rotate_left
                                  · intro w'
                                    go_simp
                                    with_reducible rfl
                                  rotate_left
                                  · simp only [Act.put, List.setIfInBounds_toArray, List.set_cons_zero, List.set_cons_succ, i64_w, i32_w]
                                    rfl
                                  refine one_ (i := 11) (N := some 17) #[true, true, true, true, true, true, true, true, true, true, true, true, false, false] rfl rfl (one_of HT_.out (by kernel_rfl)) (by decide) (fun K hK => ?_)
                                  refine box_step ?hg (N := 17) ?hd (cs := #[.int .i64 0, .int .i64 0, .int .i64 0, .string (⟨#[]⟩ : ByteArray), .int .i64 0]) (t := 33) ?hr ?_; (case hd => rfl); (case hg => rfl); (case hr => first | (go_simp; done) | (go_simp; rfl))
                                  intro gb257 hg w52 hbox hb
                                  have n0_ := Aside0.mk (Kd.R_below (Kd.R_elderB (by (with_reducible repeat (first | apply Kd.R_alloc | apply Kd.R_drewN | apply Kd.R_drew)); exact HO_14.out) gb257 (Nat.le_of_eq hg.symm)) hb)
                                  have n1_ := Aside0.mk (Kd.R_below (by (with_reducible repeat (first | apply Kd.R_alloc | apply Kd.R_drewN | apply Kd.R_drew)); exact HO256.out) hb)
                                  have n2_ := Aside0.mk (blk_below (g := gb236) (o := .cells #[.slice A1_0 l1_0.length c1_0] 25 (0, 0)) (by (with_reducible repeat (first | refine blk_drewN ?_ _ | refine blk_drew ?_ | refine blk_alloc ?_ _)); exact BK236.out) hb)
                                  have n3_ := Aside0.mk (below_step (by repeat (first | (with_reducible first | exact HB.out | apply below_alloc | apply pw_below_drewN | apply below_drew1 | refine below_set ?_ GE236.out) | exact HB.out)) hb)
                                  have n4_ := Aside0.mk (hbox)
                                  have n5_ := Aside0.mk ((by rw [hg]; exact (below_size (by repeat (first | (with_reducible first | exact HB.out | apply below_alloc | apply pw_below_drewN | apply below_drew1 | refine below_set ?_ GE236.out) | exact HB.out))) : w.heap.size ≤ gb257))
                                  have n6_ := Aside0.mk ((by rw [hg]; exact (below_size (by repeat (first | (with_reducible first | exact HB.out | apply below_alloc | apply pw_below_drewN | apply below_drew1 | refine below_set ?_ GE236.out) | exact HB.out))) : w.heap.size ≤ gb257))
                                  have n7_ := Aside0.mk ((by rw [hg]; exact Nat.ne_of_lt (blk_lt (g := gb236) (o := .cells #[.slice A1_0 l1_0.length c1_0] 25 (0, 0)) (by (with_reducible repeat (first | refine blk_drewN ?_ _ | refine blk_drew ?_ | refine blk_alloc ?_ _)); exact BK236.out)) : gb236 ≠ gb257))
                                  have n8_ := Aside0.mk ((by rw [hg]; exact Nat.ne_of_gt (blk_lt (g := gb236) (o := .cells #[.slice A1_0 l1_0.length c1_0] 25 (0, 0)) (by (with_reducible repeat (first | refine blk_drewN ?_ _ | refine blk_drew ?_ | refine blk_alloc ?_ _)); exact BK236.out)) : gb257 ≠ gb236))
                                  clear HO_14
                                  clear HO256
                                  clear BK236
                                  clear HB
                                  have HO_14 := n0_
                                  have HO256 := n1_
                                  have BK236 := n2_
                                  have HB := n3_
                                  have BK257 := n4_
                                  have GW257 := n5_
                                  have GE257 := n6_
                                  have NB236_257 := n7_
                                  have NB257_236 := n8_
                                  clear n0_ n1_ n2_ n3_ n4_ n5_ n6_ n7_ n8_
                                  clear hb hbox hg
                                  refine hK.out _ _ ⟨(blk_cell BK236.out 0).trans rfl, ((HB.out.cell (World.block_lt_of_cell? w _ hw248_0)).trans hw248_0), ((HB.out.cell (World.block_lt_of_cell? w _ hw248_1)).trans hw248_1), ((HB.out.cell (World.block_lt_of_cell? w _ hw248_2)).trans hw248_2), ((HB.out.cell (World.block_lt_of_cell? w _ hw248_3)).trans hw248_3), ((HB.out.cell (World.block_lt_of_cell? w _ hw248_4)).trans hw248_4)⟩ (fun hHeld => ?_)
                                  clear hK K
                                  refine norm_ (a' := ?_) ?_ ?_
                                  rotate_left
                                  · show Act.put _ (some 17) _ = _
                                    simp only [Act.put, List.setIfInBounds_toArray, List.set_cons_zero, List.set_cons_succ, i64_w, i32_w]
                                    rfl
                                  exact norm_ (by simp only [putAll, Act.put, List.setIfInBounds_toArray, List.set_cons_zero, List.set_cons_succ]) (hCont (v255, gb257) _ ⟨hHeld, (by (with_reducible repeat (first | apply Kd.R_alloc | apply Kd.R_drewN | apply Kd.R_drew)); exact HO256.out), (by (with_reducible repeat (first | apply Kd.R_alloc | apply Kd.R_drewN | apply Kd.R_drew)); exact Kd.R_mono HO_14.out (fun _ hk => hk.2)), (by (with_reducible repeat (first | refine blk_drewN ?_ _ | refine blk_drew ?_ | refine blk_alloc ?_ _)); exact BK236.out), (by (with_reducible repeat (first | refine blk_drewN ?_ _ | refine blk_drew ?_ | refine blk_alloc ?_ _)); exact BK257.out), GW257.out, GE257.out, NB236_257.out, NB257_236.out, (by repeat (first | (with_reducible first | exact HB.out | apply below_alloc | apply pw_below_drewN | apply below_drew1 | refine below_set ?_ GE236.out | refine below_set ?_ GE257.out) | exact HB.out))⟩)
                                · skip
                                  refine box_step ?hg (N := 17) ?hd (cs := #[.int .i64 0, .int .i64 0, .int .i64 0, .string (⟨#[]⟩ : ByteArray), .int .i64 0]) (t := 33) ?hr ?_; (case hd => rfl); (case hg => rfl); (case hr => first | (go_simp; done) | (go_simp; rfl))
                                  intro gb257 hg w51 hbox hb
                                  have n0_ := Aside0.mk (Kd.R_below (Kd.R_elderB (by (with_reducible repeat (first | apply Kd.R_alloc | apply Kd.R_drewN | apply Kd.R_drew)); exact HO_14.out) gb257 (Nat.le_of_eq hg.symm)) hb)
                                  have n1_ := Aside0.mk (Kd.R_below (by (with_reducible repeat (first | apply Kd.R_alloc | apply Kd.R_drewN | apply Kd.R_drew)); exact HO_15.out) hb)
                                  have n2_ := Aside0.mk (blk_below (g := gb236) (o := .cells #[.slice A1_0 l1_0.length c1_0] 25 (0, 0)) (by (with_reducible repeat (first | refine blk_drewN ?_ _ | refine blk_drew ?_ | refine blk_alloc ?_ _)); exact BK236.out) hb)
                                  have n3_ := Aside0.mk (below_step (by repeat (first | (with_reducible first | exact HB.out | apply below_alloc | apply pw_below_drewN | apply below_drew1 | refine below_set ?_ GE236.out) | exact HB.out)) hb)
                                  have n4_ := Aside0.mk (hbox)
                                  have n5_ := Aside0.mk ((by rw [hg]; exact (below_size (by repeat (first | (with_reducible first | exact HB.out | apply below_alloc | apply pw_below_drewN | apply below_drew1 | refine below_set ?_ GE236.out) | exact HB.out))) : w.heap.size ≤ gb257))
                                  have n6_ := Aside0.mk ((by rw [hg]; exact (below_size (by repeat (first | (with_reducible first | exact HB.out | apply below_alloc | apply pw_below_drewN | apply below_drew1 | refine below_set ?_ GE236.out) | exact HB.out))) : w.heap.size ≤ gb257))
                                  have n7_ := Aside0.mk ((by rw [hg]; exact Nat.ne_of_lt (blk_lt (g := gb236) (o := .cells #[.slice A1_0 l1_0.length c1_0] 25 (0, 0)) (by (with_reducible repeat (first | refine blk_drewN ?_ _ | refine blk_drew ?_ | refine blk_alloc ?_ _)); exact BK236.out)) : gb236 ≠ gb257))
                                  have n8_ := Aside0.mk ((by rw [hg]; exact Nat.ne_of_gt (blk_lt (g := gb236) (o := .cells #[.slice A1_0 l1_0.length c1_0] 25 (0, 0)) (by (with_reducible repeat (first | refine blk_drewN ?_ _ | refine blk_drew ?_ | refine blk_alloc ?_ _)); exact BK236.out)) : gb257 ≠ gb236))
                                  clear HO_14
                                  clear HO_15
                                  clear BK236
                                  clear HB
                                  have HO_14 := n0_
                                  have HO_15 := n1_
                                  have BK236 := n2_
                                  have HB := n3_
                                  have BK257 := n4_
                                  have GW257 := n5_
                                  have GE257 := n6_
                                  have NB236_257 := n7_
                                  have NB257_236 := n8_
                                  clear n0_ n1_ n2_ n3_ n4_ n5_ n6_ n7_ n8_
                                  clear hb hbox hg
                                  refine hK.out _ _ ⟨(blk_cell BK236.out 0).trans rfl, ((HB.out.cell (World.block_lt_of_cell? w _ hw248_0)).trans hw248_0), ((HB.out.cell (World.block_lt_of_cell? w _ hw248_1)).trans hw248_1), ((HB.out.cell (World.block_lt_of_cell? w _ hw248_2)).trans hw248_2), ((HB.out.cell (World.block_lt_of_cell? w _ hw248_3)).trans hw248_3), ((HB.out.cell (World.block_lt_of_cell? w _ hw248_4)).trans hw248_4)⟩ (fun hHeld => ?_)
                                  clear hK K
                                  refine norm_ (a' := ?_) ?_ ?_
                                  rotate_left
                                  · show Act.put _ (some 17) _ = _
                                    simp only [Act.put, List.setIfInBounds_toArray, List.set_cons_zero, List.set_cons_succ, i64_w, i32_w]
                                    rfl
                                  refine one_ (i := 7) (N := some 89) #[true, true, true, true, true, true, true, true, false, false, false, true, false, false] rfl rfl (one_of HT_.out (by kernel_rfl)) (by decide) (fun K hK => ?_)
                                  refine goes_ Try.func65 (by kernel_rfl) rfl #[.agg #[.slice A1_0 l1_0.length c1_0], .agg #[.int .i64 ((rd_T33 l0 x16_3).f0), .int .i64 ((rd_T33 l0 x16_3).f1), .int .i64 ((rd_T33 l0 x16_3).f2), .string ((rd_T33 l0 x16_3).f3), .int .i64 ((rd_T33 l0 x16_3).f4)], .int .i64 a3, .slice Ao49 x15_3.length co49] (by rfl) rfl rfl (by (try simp only [List.map_toArray, List.map_cons, List.map_nil]); first | done | rfl | (simp only [List.length_drop, List.length_take]; rfl)) ?_
                                  with_reducible refine (crossbarref27_advanced.calls k3 _ _ l1_0 ((rd_T33 l0 x16_3).f0) ((rd_T33 l0 x16_3).f1) ((rd_T33 l0 x16_3).f2) ((rd_T33 l0 x16_3).f3) ((rd_T33 l0 x16_3).f4) a3 (fun k_ => some k_ = (.slice Ao49 x15_3.length co49 : Value).ownBlock) (.slice Ao49 x15_3.length co49) x15_3 t249 t250 t251 t252 t253 t254 w _ ?side1 ?side2 ?side3 ?side4 A30.out).mono ?_
                                  (case side1 => repeat (first | (with_reducible first | exact HB.out | apply below_alloc | apply pw_below_drewN | apply below_drew1 | refine below_set ?_ GE236.out | refine below_set ?_ GE257.out) | exact HB.out))
                                  (case side2 => exact Kd.C_kept_came k110_heap HR1_0.out (by repeat (first | (with_reducible first | exact HB.out | apply below_alloc | apply pw_below_drewN | apply below_drew1 | refine below_set ?_ GE236.out | refine below_set ?_ GE257.out) | exact HB.out)) (fun k_ hs_ => (fun e_ => Kd.R_base HO_15.out k_ e_.symm) hs_))
                                  (case side3 => exact HC1_0.out)
                                  (case side4 => exact Kd.R_tight rfl HO_15.out)
                                  rintro e w52 ⟨v255, rfl, ho0, hb, hkp⟩
                                  refine ⟨_, rfl, ?_⟩
                                  have n0_ := Aside0.mk (Kd.R_mono (ok' := fun k_ => k_ ≠ gb257) (Kd.R_keptB ((Kd.R_apart' HO_14.out (Kd.R_typed HO_15.out) (by decide))) hkp (fun k_ hk_ hs_ => (hk_.2) hs_)) (fun k_ hk_ => hk_.1.1.2))
                                  have n1_ := Aside0.mk (blk_kept (by (with_reducible repeat (first | refine blk_drewN ?_ _ | refine blk_drew ?_ | refine blk_alloc ?_ _)); exact BK236.out) hkp (fun hs_ => (fun e_ => (Kd.R_ne HO_15.out BK236.out (by decide)) e_) hs_))
                                  have n2_ := Aside0.mk (blk_kept (by (with_reducible repeat (first | refine blk_drewN ?_ _ | refine blk_drew ?_ | refine blk_alloc ?_ _)); exact BK257.out) hkp (fun hs_ => (fun e_ => (Kd.R_ne HO_15.out BK257.out (by decide)) e_) hs_))
                                  have n3_ := Aside0.mk (Kd.R_mono (ok' := fun k_ => True) ho0 (fun k_ hk_ => trivial))
                                  have n4_ := Aside0.mk (hb)
                                  clear HO_14
                                  clear BK236
                                  clear BK257
                                  clear HB
                                  clear HO_15
                                  have HO_14 := n0_
                                  have BK236 := n1_
                                  have BK257 := n2_
                                  have HO256 := n3_
                                  have HB := n4_
                                  clear n0_ n1_ n2_ n3_ n4_
                                  (try clear hb)
                                  (try clear hkp)
                                  (try clear ho0)
                                  refine hK.out _ _ ⟨(blk_cell BK236.out 0).trans rfl, ((HB.out.cell (World.block_lt_of_cell? w _ hw248_0)).trans hw248_0), ((HB.out.cell (World.block_lt_of_cell? w _ hw248_1)).trans hw248_1), ((HB.out.cell (World.block_lt_of_cell? w _ hw248_2)).trans hw248_2), ((HB.out.cell (World.block_lt_of_cell? w _ hw248_3)).trans hw248_3), ((HB.out.cell (World.block_lt_of_cell? w _ hw248_4)).trans hw248_4)⟩ (fun hHeld => ?_)
                                  clear hK K
                                  refine norm_ (a' := ?_) ?_ ?_
                                  rotate_left
                                  · show Act.put _ (some 89) _ = _
                                    simp only [Act.put, List.setIfInBounds_toArray, List.set_cons_zero, List.set_cons_succ, i64_w, i32_w]
                                    rfl
                                  refine pure_ (i := 8) (N := some 81) (v := ?_) (a' := ?_) #[true, true, true, true, true, true, true, true, true, false, false, true, false, false] rfl rfl (any_of HT_.out (by kernel_rfl)) (fun _ _ _ h => h) (Or.inl ⟨by rfl, ?_⟩) ?_ ?_
                                  rotate_left
                                  · intro w'
                                    go_simp
                                    with_reducible rfl
                                  rotate_left
                                  · simp only [Act.put, List.setIfInBounds_toArray, List.set_cons_zero, List.set_cons_succ, i64_w, i32_w]
                                    rfl
                                  refine pure_ (i := 9) (N := some 90) (v := ?_) (a' := ?_) #[true, true, true, true, true, true, true, true, true, true, false, true, false, false] rfl rfl (any_of HT_.out (by kernel_rfl)) (fun _ _ _ h => h) (Or.inl ⟨by rfl, ?_⟩) ?_ ?_
                                  rotate_left
                                  · intro w'
                                    go_simp
                                    with_reducible rfl
                                  rotate_left
                                  · simp only [Act.put, List.setIfInBounds_toArray, List.set_cons_zero, List.set_cons_succ, i64_w, i32_w]
                                    rfl
                                  refine pure_ (i := 10) (N := some 91) (v := ?_) (a' := ?_) #[true, true, true, true, true, true, true, true, true, true, true, true, false, false] rfl rfl (any_of HT_.out (by kernel_rfl)) (fun _ _ _ h => h) (Or.inl ⟨by rfl, ?_⟩) ?_ ?_
                                  rotate_left
                                  · intro w'
                                    go_simp
                                    with_reducible rfl
                                  rotate_left
                                  · simp only [Act.put, List.setIfInBounds_toArray, List.set_cons_zero, List.set_cons_succ, i64_w, i32_w]
                                    rfl
                                  exact norm_ (by simp only [putAll, Act.put, List.setIfInBounds_toArray, List.set_cons_zero, List.set_cons_succ]) (hCont (v255, gb257) _ ⟨hHeld, (by (with_reducible repeat (first | apply Kd.R_alloc | apply Kd.R_drewN | apply Kd.R_drew)); exact HO256.out), (by (with_reducible repeat (first | apply Kd.R_alloc | apply Kd.R_drewN | apply Kd.R_drew)); exact HO_14.out), (by (with_reducible repeat (first | refine blk_drewN ?_ _ | refine blk_drew ?_ | refine blk_alloc ?_ _)); exact BK236.out), (by (with_reducible repeat (first | refine blk_drewN ?_ _ | refine blk_drew ?_ | refine blk_alloc ?_ _)); exact BK257.out), GW257.out, GE257.out, NB236_257.out, NB257_236.out, (by repeat (first | (with_reducible first | exact HB.out | apply below_alloc | apply pw_below_drewN | apply below_drew1 | refine below_set ?_ GE236.out | refine below_set ?_ GE257.out) | exact HB.out))⟩)
                              rintro ⟨v255, gb257⟩ w53 ⟨hS_, h0_, h1_, h2_, h3_, h4_, h5_, h6_, h7_, h8_⟩
                              have n0_ : Aside0 (Kd.R k39 39 w53 w.heap.size (fun _ => True) v255 t254) := ⟨h0_⟩
                              have n1_ : Aside0 (Kd.R k33 33 w53 w.heap.size (fun k_ => k_ ≠ gb257) u14 x14_3) := ⟨h1_⟩
                              have n2_ : Aside0 (w53.heap[gb236]? = some (.cells #[.slice A1_0 l1_0.length c1_0] 25 (0, 0))) := ⟨h2_⟩
                              have n3_ : Aside0 (w53.heap[gb257]? = some (.cells #[.int .i64 0, .int .i64 0, .int .i64 0, .string (⟨#[]⟩ : ByteArray), .int .i64 0] 33 (0, 0))) := ⟨h3_⟩
                              have n4_ : Aside0 (w.heap.size ≤ gb257) := ⟨h4_⟩
                              have n5_ : Aside0 (w.heap.size ≤ gb257) := ⟨h5_⟩
                              have n6_ : Aside0 (gb236 ≠ gb257) := ⟨h6_⟩
                              have n7_ : Aside0 (gb257 ≠ gb236) := ⟨h7_⟩
                              have n8_ : Aside0 (Below w.heap.size w w53) := ⟨h8_⟩
                              clear HO_14
                              clear HO_15
                              clear BK236
                              clear HB
                              clear h0_ h1_ h2_ h3_ h4_ h5_ h6_ h7_ h8_
                              have HO256 := n0_
                              have HO_14 := n1_
                              have BK236 := n2_
                              have BK257 := n3_
                              have GW257 := n4_
                              have GE257 := n5_
                              have NB236_257 := n6_
                              have NB257_236 := n7_
                              have HB := n8_
                              clear n0_ n1_ n2_ n3_ n4_ n5_ n6_ n7_ n8_
                              have hHeld : w53.cell? ⟨gb236, 0, none⟩ = some (.slice A1_0 l1_0.length c1_0) ∧ w53.cell? (ad243.add ((x16_3).toNat * 5)) = some (.int .i64 ((rd_T33 l0 x16_3).f0)) ∧ w53.cell? ⟨(ad243.add ((x16_3).toNat * 5)).block, (ad243.add ((x16_3).toNat * 5)).off + 1, none⟩ = some (.int .i64 ((rd_T33 l0 x16_3).f1)) ∧ w53.cell? ⟨(ad243.add ((x16_3).toNat * 5)).block, (ad243.add ((x16_3).toNat * 5)).off + 2, none⟩ = some (.int .i64 ((rd_T33 l0 x16_3).f2)) ∧ w53.cell? ⟨(ad243.add ((x16_3).toNat * 5)).block, (ad243.add ((x16_3).toNat * 5)).off + 3, none⟩ = some (.string ((rd_T33 l0 x16_3).f3)) ∧ w53.cell? ⟨(ad243.add ((x16_3).toNat * 5)).block, (ad243.add ((x16_3).toNat * 5)).off + 4, none⟩ = some (.int .i64 ((rd_T33 l0 x16_3).f4)) := hS_
                              refine norm_ (a' := ?_) ?_ ?_
                              rotate_left
                              · simp only [putAll, Act.put, List.setIfInBounds_toArray, List.set_cons_zero, List.set_cons_succ]
                                rfl
                              refine one_ (i := 12) (N := none) #[true, true, true, true, true, true, true, true, true, true, true, true, true, false] rfl rfl (one_of HT_.out (by kernel_rfl)) (by decide) (fun K hK => ?_)
                              have hs54 : w53.cell? ⟨gb257, 0, none⟩ = some (.int .i64 0) := (blk_cell BK257.out 0).trans rfl
                              have hfs54 := blk_frozen BK257.out 0
                              have hns54_0 := NB236_257.out
                              have hms54_0 := NB257_236.out
                              have hs55 : w53.cell? ⟨gb257, 1, none⟩ = some (.int .i64 0) := (blk_cell BK257.out 1).trans rfl
                              have hfs55 := blk_frozen BK257.out 1
                              have hns55_0 := NB236_257.out
                              have hms55_0 := NB257_236.out
                              have hs56 : w53.cell? ⟨gb257, 2, none⟩ = some (.int .i64 0) := (blk_cell BK257.out 2).trans rfl
                              have hfs56 := blk_frozen BK257.out 2
                              have hns56_0 := NB236_257.out
                              have hms56_0 := NB257_236.out
                              have hs57 : w53.cell? ⟨gb257, 3, none⟩ = some (.string (⟨#[]⟩ : ByteArray)) := (blk_cell BK257.out 3).trans rfl
                              have hfs57 := blk_frozen BK257.out 3
                              have hns57_0 := NB236_257.out
                              have hms57_0 := NB257_236.out
                              have hs58 : w53.cell? ⟨gb257, 4, none⟩ = some (.int .i64 0) := (blk_cell BK257.out 4).trans rfl
                              have hfs58 := blk_frozen BK257.out 4
                              have hns58_0 := NB236_257.out
                              have hms58_0 := NB257_236.out
                              refine skip_ (w1 := ?_) (by rfl) rfl ?_ ?_
                              rotate_left
                              · go_simp
                                rfl
                              refine hK.out _ _ ⟨((cell_far (p := ⟨gb257, _, none⟩) NB236_257.out _).trans (((cell_far (p := ⟨gb257, _, none⟩) NB236_257.out _).trans (((cell_far (p := ⟨gb257, _, none⟩) NB236_257.out _).trans (((cell_far (p := ⟨gb257, _, none⟩) NB236_257.out _).trans (((cell_far (p := ⟨gb257, _, none⟩) NB236_257.out _).trans (hHeld.1)))))))))), ((cell_far (p := ⟨gb257, _, none⟩) (by first | exact Nat.ne_of_lt (Nat.lt_of_lt_of_le (by have := World.block_lt_of_cell? _ _ hw248_0; first | rwa [add_block] at this | exact this) GW257.out) | (rw [add_block]; exact Nat.ne_of_lt (Nat.lt_of_lt_of_le (by have := World.block_lt_of_cell? _ _ hw248_0; first | rwa [add_block] at this | exact this) GW257.out)) | (show (Addr.add _ _).block ≠ _; rw [add_block]; exact Nat.ne_of_lt (Nat.lt_of_lt_of_le (by have := World.block_lt_of_cell? _ _ hw248_0; first | rwa [add_block] at this | exact this) GW257.out)) | (dsimp only; exact Nat.ne_of_lt (Nat.lt_of_lt_of_le (by have := World.block_lt_of_cell? _ _ hw248_0; first | rwa [add_block] at this | exact this) GW257.out))) _).trans (((cell_far (p := ⟨gb257, _, none⟩) (by first | exact Nat.ne_of_lt (Nat.lt_of_lt_of_le (by have := World.block_lt_of_cell? _ _ hw248_0; first | rwa [add_block] at this | exact this) GW257.out) | (rw [add_block]; exact Nat.ne_of_lt (Nat.lt_of_lt_of_le (by have := World.block_lt_of_cell? _ _ hw248_0; first | rwa [add_block] at this | exact this) GW257.out)) | (show (Addr.add _ _).block ≠ _; rw [add_block]; exact Nat.ne_of_lt (Nat.lt_of_lt_of_le (by have := World.block_lt_of_cell? _ _ hw248_0; first | rwa [add_block] at this | exact this) GW257.out)) | (dsimp only; exact Nat.ne_of_lt (Nat.lt_of_lt_of_le (by have := World.block_lt_of_cell? _ _ hw248_0; first | rwa [add_block] at this | exact this) GW257.out))) _).trans (((cell_far (p := ⟨gb257, _, none⟩) (by first | exact Nat.ne_of_lt (Nat.lt_of_lt_of_le (by have := World.block_lt_of_cell? _ _ hw248_0; first | rwa [add_block] at this | exact this) GW257.out) | (rw [add_block]; exact Nat.ne_of_lt (Nat.lt_of_lt_of_le (by have := World.block_lt_of_cell? _ _ hw248_0; first | rwa [add_block] at this | exact this) GW257.out)) | (show (Addr.add _ _).block ≠ _; rw [add_block]; exact Nat.ne_of_lt (Nat.lt_of_lt_of_le (by have := World.block_lt_of_cell? _ _ hw248_0; first | rwa [add_block] at this | exact this) GW257.out)) | (dsimp only; exact Nat.ne_of_lt (Nat.lt_of_lt_of_le (by have := World.block_lt_of_cell? _ _ hw248_0; first | rwa [add_block] at this | exact this) GW257.out))) _).trans (((cell_far (p := ⟨gb257, _, none⟩) (by first | exact Nat.ne_of_lt (Nat.lt_of_lt_of_le (by have := World.block_lt_of_cell? _ _ hw248_0; first | rwa [add_block] at this | exact this) GW257.out) | (rw [add_block]; exact Nat.ne_of_lt (Nat.lt_of_lt_of_le (by have := World.block_lt_of_cell? _ _ hw248_0; first | rwa [add_block] at this | exact this) GW257.out)) | (show (Addr.add _ _).block ≠ _; rw [add_block]; exact Nat.ne_of_lt (Nat.lt_of_lt_of_le (by have := World.block_lt_of_cell? _ _ hw248_0; first | rwa [add_block] at this | exact this) GW257.out)) | (dsimp only; exact Nat.ne_of_lt (Nat.lt_of_lt_of_le (by have := World.block_lt_of_cell? _ _ hw248_0; first | rwa [add_block] at this | exact this) GW257.out))) _).trans (((cell_far (p := ⟨gb257, _, none⟩) (by first | exact Nat.ne_of_lt (Nat.lt_of_lt_of_le (by have := World.block_lt_of_cell? _ _ hw248_0; first | rwa [add_block] at this | exact this) GW257.out) | (rw [add_block]; exact Nat.ne_of_lt (Nat.lt_of_lt_of_le (by have := World.block_lt_of_cell? _ _ hw248_0; first | rwa [add_block] at this | exact this) GW257.out)) | (show (Addr.add _ _).block ≠ _; rw [add_block]; exact Nat.ne_of_lt (Nat.lt_of_lt_of_le (by have := World.block_lt_of_cell? _ _ hw248_0; first | rwa [add_block] at this | exact this) GW257.out)) | (dsimp only; exact Nat.ne_of_lt (Nat.lt_of_lt_of_le (by have := World.block_lt_of_cell? _ _ hw248_0; first | rwa [add_block] at this | exact this) GW257.out))) _).trans (hHeld.2.1)))))))))), ((cell_far (p := ⟨gb257, _, none⟩) (by first | exact Nat.ne_of_lt (Nat.lt_of_lt_of_le (by have := World.block_lt_of_cell? _ _ hw248_1; first | rwa [add_block] at this | exact this) GW257.out) | (rw [add_block]; exact Nat.ne_of_lt (Nat.lt_of_lt_of_le (by have := World.block_lt_of_cell? _ _ hw248_1; first | rwa [add_block] at this | exact this) GW257.out)) | (show (Addr.add _ _).block ≠ _; rw [add_block]; exact Nat.ne_of_lt (Nat.lt_of_lt_of_le (by have := World.block_lt_of_cell? _ _ hw248_1; first | rwa [add_block] at this | exact this) GW257.out)) | (dsimp only; exact Nat.ne_of_lt (Nat.lt_of_lt_of_le (by have := World.block_lt_of_cell? _ _ hw248_1; first | rwa [add_block] at this | exact this) GW257.out))) _).trans (((cell_far (p := ⟨gb257, _, none⟩) (by first | exact Nat.ne_of_lt (Nat.lt_of_lt_of_le (by have := World.block_lt_of_cell? _ _ hw248_1; first | rwa [add_block] at this | exact this) GW257.out) | (rw [add_block]; exact Nat.ne_of_lt (Nat.lt_of_lt_of_le (by have := World.block_lt_of_cell? _ _ hw248_1; first | rwa [add_block] at this | exact this) GW257.out)) | (show (Addr.add _ _).block ≠ _; rw [add_block]; exact Nat.ne_of_lt (Nat.lt_of_lt_of_le (by have := World.block_lt_of_cell? _ _ hw248_1; first | rwa [add_block] at this | exact this) GW257.out)) | (dsimp only; exact Nat.ne_of_lt (Nat.lt_of_lt_of_le (by have := World.block_lt_of_cell? _ _ hw248_1; first | rwa [add_block] at this | exact this) GW257.out))) _).trans (((cell_far (p := ⟨gb257, _, none⟩) (by first | exact Nat.ne_of_lt (Nat.lt_of_lt_of_le (by have := World.block_lt_of_cell? _ _ hw248_1; first | rwa [add_block] at this | exact this) GW257.out) | (rw [add_block]; exact Nat.ne_of_lt (Nat.lt_of_lt_of_le (by have := World.block_lt_of_cell? _ _ hw248_1; first | rwa [add_block] at this | exact this) GW257.out)) | (show (Addr.add _ _).block ≠ _; rw [add_block]; exact Nat.ne_of_lt (Nat.lt_of_lt_of_le (by have := World.block_lt_of_cell? _ _ hw248_1; first | rwa [add_block] at this | exact this) GW257.out)) | (dsimp only; exact Nat.ne_of_lt (Nat.lt_of_lt_of_le (by have := World.block_lt_of_cell? _ _ hw248_1; first | rwa [add_block] at this | exact this) GW257.out))) _).trans (((cell_far (p := ⟨gb257, _, none⟩) (by first | exact Nat.ne_of_lt (Nat.lt_of_lt_of_le (by have := World.block_lt_of_cell? _ _ hw248_1; first | rwa [add_block] at this | exact this) GW257.out) | (rw [add_block]; exact Nat.ne_of_lt (Nat.lt_of_lt_of_le (by have := World.block_lt_of_cell? _ _ hw248_1; first | rwa [add_block] at this | exact this) GW257.out)) | (show (Addr.add _ _).block ≠ _; rw [add_block]; exact Nat.ne_of_lt (Nat.lt_of_lt_of_le (by have := World.block_lt_of_cell? _ _ hw248_1; first | rwa [add_block] at this | exact this) GW257.out)) | (dsimp only; exact Nat.ne_of_lt (Nat.lt_of_lt_of_le (by have := World.block_lt_of_cell? _ _ hw248_1; first | rwa [add_block] at this | exact this) GW257.out))) _).trans (((cell_far (p := ⟨gb257, _, none⟩) (by first | exact Nat.ne_of_lt (Nat.lt_of_lt_of_le (by have := World.block_lt_of_cell? _ _ hw248_1; first | rwa [add_block] at this | exact this) GW257.out) | (rw [add_block]; exact Nat.ne_of_lt (Nat.lt_of_lt_of_le (by have := World.block_lt_of_cell? _ _ hw248_1; first | rwa [add_block] at this | exact this) GW257.out)) | (show (Addr.add _ _).block ≠ _; rw [add_block]; exact Nat.ne_of_lt (Nat.lt_of_lt_of_le (by have := World.block_lt_of_cell? _ _ hw248_1; first | rwa [add_block] at this | exact this) GW257.out)) | (dsimp only; exact Nat.ne_of_lt (Nat.lt_of_lt_of_le (by have := World.block_lt_of_cell? _ _ hw248_1; first | rwa [add_block] at this | exact this) GW257.out))) _).trans (hHeld.2.2.1)))))))))), ((cell_far (p := ⟨gb257, _, none⟩) (by first | exact Nat.ne_of_lt (Nat.lt_of_lt_of_le (by have := World.block_lt_of_cell? _ _ hw248_2; first | rwa [add_block] at this | exact this) GW257.out) | (rw [add_block]; exact Nat.ne_of_lt (Nat.lt_of_lt_of_le (by have := World.block_lt_of_cell? _ _ hw248_2; first | rwa [add_block] at this | exact this) GW257.out)) | (show (Addr.add _ _).block ≠ _; rw [add_block]; exact Nat.ne_of_lt (Nat.lt_of_lt_of_le (by have := World.block_lt_of_cell? _ _ hw248_2; first | rwa [add_block] at this | exact this) GW257.out)) | (dsimp only; exact Nat.ne_of_lt (Nat.lt_of_lt_of_le (by have := World.block_lt_of_cell? _ _ hw248_2; first | rwa [add_block] at this | exact this) GW257.out))) _).trans (((cell_far (p := ⟨gb257, _, none⟩) (by first | exact Nat.ne_of_lt (Nat.lt_of_lt_of_le (by have := World.block_lt_of_cell? _ _ hw248_2; first | rwa [add_block] at this | exact this) GW257.out) | (rw [add_block]; exact Nat.ne_of_lt (Nat.lt_of_lt_of_le (by have := World.block_lt_of_cell? _ _ hw248_2; first | rwa [add_block] at this | exact this) GW257.out)) | (show (Addr.add _ _).block ≠ _; rw [add_block]; exact Nat.ne_of_lt (Nat.lt_of_lt_of_le (by have := World.block_lt_of_cell? _ _ hw248_2; first | rwa [add_block] at this | exact this) GW257.out)) | (dsimp only; exact Nat.ne_of_lt (Nat.lt_of_lt_of_le (by have := World.block_lt_of_cell? _ _ hw248_2; first | rwa [add_block] at this | exact this) GW257.out))) _).trans (((cell_far (p := ⟨gb257, _, none⟩) (by first | exact Nat.ne_of_lt (Nat.lt_of_lt_of_le (by have := World.block_lt_of_cell? _ _ hw248_2; first | rwa [add_block] at this | exact this) GW257.out) | (rw [add_block]; exact Nat.ne_of_lt (Nat.lt_of_lt_of_le (by have := World.block_lt_of_cell? _ _ hw248_2; first | rwa [add_block] at this | exact this) GW257.out)) | (show (Addr.add _ _).block ≠ _; rw [add_block]; exact Nat.ne_of_lt (Nat.lt_of_lt_of_le (by have := World.block_lt_of_cell? _ _ hw248_2; first | rwa [add_block] at this | exact this) GW257.out)) | (dsimp only; exact Nat.ne_of_lt (Nat.lt_of_lt_of_le (by have := World.block_lt_of_cell? _ _ hw248_2; first | rwa [add_block] at this | exact this) GW257.out))) _).trans (((cell_far (p := ⟨gb257, _, none⟩) (by first | exact Nat.ne_of_lt (Nat.lt_of_lt_of_le (by have := World.block_lt_of_cell? _ _ hw248_2; first | rwa [add_block] at this | exact this) GW257.out) | (rw [add_block]; exact Nat.ne_of_lt (Nat.lt_of_lt_of_le (by have := World.block_lt_of_cell? _ _ hw248_2; first | rwa [add_block] at this | exact this) GW257.out)) | (show (Addr.add _ _).block ≠ _; rw [add_block]; exact Nat.ne_of_lt (Nat.lt_of_lt_of_le (by have := World.block_lt_of_cell? _ _ hw248_2; first | rwa [add_block] at this | exact this) GW257.out)) | (dsimp only; exact Nat.ne_of_lt (Nat.lt_of_lt_of_le (by have := World.block_lt_of_cell? _ _ hw248_2; first | rwa [add_block] at this | exact this) GW257.out))) _).trans (((cell_far (p := ⟨gb257, _, none⟩) (by first | exact Nat.ne_of_lt (Nat.lt_of_lt_of_le (by have := World.block_lt_of_cell? _ _ hw248_2; first | rwa [add_block] at this | exact this) GW257.out) | (rw [add_block]; exact Nat.ne_of_lt (Nat.lt_of_lt_of_le (by have := World.block_lt_of_cell? _ _ hw248_2; first | rwa [add_block] at this | exact this) GW257.out)) | (show (Addr.add _ _).block ≠ _; rw [add_block]; exact Nat.ne_of_lt (Nat.lt_of_lt_of_le (by have := World.block_lt_of_cell? _ _ hw248_2; first | rwa [add_block] at this | exact this) GW257.out)) | (dsimp only; exact Nat.ne_of_lt (Nat.lt_of_lt_of_le (by have := World.block_lt_of_cell? _ _ hw248_2; first | rwa [add_block] at this | exact this) GW257.out))) _).trans (hHeld.2.2.2.1)))))))))), ((cell_far (p := ⟨gb257, _, none⟩) (by first | exact Nat.ne_of_lt (Nat.lt_of_lt_of_le (by have := World.block_lt_of_cell? _ _ hw248_3; first | rwa [add_block] at this | exact this) GW257.out) | (rw [add_block]; exact Nat.ne_of_lt (Nat.lt_of_lt_of_le (by have := World.block_lt_of_cell? _ _ hw248_3; first | rwa [add_block] at this | exact this) GW257.out)) | (show (Addr.add _ _).block ≠ _; rw [add_block]; exact Nat.ne_of_lt (Nat.lt_of_lt_of_le (by have := World.block_lt_of_cell? _ _ hw248_3; first | rwa [add_block] at this | exact this) GW257.out)) | (dsimp only; exact Nat.ne_of_lt (Nat.lt_of_lt_of_le (by have := World.block_lt_of_cell? _ _ hw248_3; first | rwa [add_block] at this | exact this) GW257.out))) _).trans (((cell_far (p := ⟨gb257, _, none⟩) (by first | exact Nat.ne_of_lt (Nat.lt_of_lt_of_le (by have := World.block_lt_of_cell? _ _ hw248_3; first | rwa [add_block] at this | exact this) GW257.out) | (rw [add_block]; exact Nat.ne_of_lt (Nat.lt_of_lt_of_le (by have := World.block_lt_of_cell? _ _ hw248_3; first | rwa [add_block] at this | exact this) GW257.out)) | (show (Addr.add _ _).block ≠ _; rw [add_block]; exact Nat.ne_of_lt (Nat.lt_of_lt_of_le (by have := World.block_lt_of_cell? _ _ hw248_3; first | rwa [add_block] at this | exact this) GW257.out)) | (dsimp only; exact Nat.ne_of_lt (Nat.lt_of_lt_of_le (by have := World.block_lt_of_cell? _ _ hw248_3; first | rwa [add_block] at this | exact this) GW257.out))) _).trans (((cell_far (p := ⟨gb257, _, none⟩) (by first | exact Nat.ne_of_lt (Nat.lt_of_lt_of_le (by have := World.block_lt_of_cell? _ _ hw248_3; first | rwa [add_block] at this | exact this) GW257.out) | (rw [add_block]; exact Nat.ne_of_lt (Nat.lt_of_lt_of_le (by have := World.block_lt_of_cell? _ _ hw248_3; first | rwa [add_block] at this | exact this) GW257.out)) | (show (Addr.add _ _).block ≠ _; rw [add_block]; exact Nat.ne_of_lt (Nat.lt_of_lt_of_le (by have := World.block_lt_of_cell? _ _ hw248_3; first | rwa [add_block] at this | exact this) GW257.out)) | (dsimp only; exact Nat.ne_of_lt (Nat.lt_of_lt_of_le (by have := World.block_lt_of_cell? _ _ hw248_3; first | rwa [add_block] at this | exact this) GW257.out))) _).trans (((cell_far (p := ⟨gb257, _, none⟩) (by first | exact Nat.ne_of_lt (Nat.lt_of_lt_of_le (by have := World.block_lt_of_cell? _ _ hw248_3; first | rwa [add_block] at this | exact this) GW257.out) | (rw [add_block]; exact Nat.ne_of_lt (Nat.lt_of_lt_of_le (by have := World.block_lt_of_cell? _ _ hw248_3; first | rwa [add_block] at this | exact this) GW257.out)) | (show (Addr.add _ _).block ≠ _; rw [add_block]; exact Nat.ne_of_lt (Nat.lt_of_lt_of_le (by have := World.block_lt_of_cell? _ _ hw248_3; first | rwa [add_block] at this | exact this) GW257.out)) | (dsimp only; exact Nat.ne_of_lt (Nat.lt_of_lt_of_le (by have := World.block_lt_of_cell? _ _ hw248_3; first | rwa [add_block] at this | exact this) GW257.out))) _).trans (((cell_far (p := ⟨gb257, _, none⟩) (by first | exact Nat.ne_of_lt (Nat.lt_of_lt_of_le (by have := World.block_lt_of_cell? _ _ hw248_3; first | rwa [add_block] at this | exact this) GW257.out) | (rw [add_block]; exact Nat.ne_of_lt (Nat.lt_of_lt_of_le (by have := World.block_lt_of_cell? _ _ hw248_3; first | rwa [add_block] at this | exact this) GW257.out)) | (show (Addr.add _ _).block ≠ _; rw [add_block]; exact Nat.ne_of_lt (Nat.lt_of_lt_of_le (by have := World.block_lt_of_cell? _ _ hw248_3; first | rwa [add_block] at this | exact this) GW257.out)) | (dsimp only; exact Nat.ne_of_lt (Nat.lt_of_lt_of_le (by have := World.block_lt_of_cell? _ _ hw248_3; first | rwa [add_block] at this | exact this) GW257.out))) _).trans (hHeld.2.2.2.2.1)))))))))), ((cell_far (p := ⟨gb257, _, none⟩) (by first | exact Nat.ne_of_lt (Nat.lt_of_lt_of_le (by have := World.block_lt_of_cell? _ _ hw248_4; first | rwa [add_block] at this | exact this) GW257.out) | (rw [add_block]; exact Nat.ne_of_lt (Nat.lt_of_lt_of_le (by have := World.block_lt_of_cell? _ _ hw248_4; first | rwa [add_block] at this | exact this) GW257.out)) | (show (Addr.add _ _).block ≠ _; rw [add_block]; exact Nat.ne_of_lt (Nat.lt_of_lt_of_le (by have := World.block_lt_of_cell? _ _ hw248_4; first | rwa [add_block] at this | exact this) GW257.out)) | (dsimp only; exact Nat.ne_of_lt (Nat.lt_of_lt_of_le (by have := World.block_lt_of_cell? _ _ hw248_4; first | rwa [add_block] at this | exact this) GW257.out))) _).trans (((cell_far (p := ⟨gb257, _, none⟩) (by first | exact Nat.ne_of_lt (Nat.lt_of_lt_of_le (by have := World.block_lt_of_cell? _ _ hw248_4; first | rwa [add_block] at this | exact this) GW257.out) | (rw [add_block]; exact Nat.ne_of_lt (Nat.lt_of_lt_of_le (by have := World.block_lt_of_cell? _ _ hw248_4; first | rwa [add_block] at this | exact this) GW257.out)) | (show (Addr.add _ _).block ≠ _; rw [add_block]; exact Nat.ne_of_lt (Nat.lt_of_lt_of_le (by have := World.block_lt_of_cell? _ _ hw248_4; first | rwa [add_block] at this | exact this) GW257.out)) | (dsimp only; exact Nat.ne_of_lt (Nat.lt_of_lt_of_le (by have := World.block_lt_of_cell? _ _ hw248_4; first | rwa [add_block] at this | exact this) GW257.out))) _).trans (((cell_far (p := ⟨gb257, _, none⟩) (by first | exact Nat.ne_of_lt (Nat.lt_of_lt_of_le (by have := World.block_lt_of_cell? _ _ hw248_4; first | rwa [add_block] at this | exact this) GW257.out) | (rw [add_block]; exact Nat.ne_of_lt (Nat.lt_of_lt_of_le (by have := World.block_lt_of_cell? _ _ hw248_4; first | rwa [add_block] at this | exact this) GW257.out)) | (show (Addr.add _ _).block ≠ _; rw [add_block]; exact Nat.ne_of_lt (Nat.lt_of_lt_of_le (by have := World.block_lt_of_cell? _ _ hw248_4; first | rwa [add_block] at this | exact this) GW257.out)) | (dsimp only; exact Nat.ne_of_lt (Nat.lt_of_lt_of_le (by have := World.block_lt_of_cell? _ _ hw248_4; first | rwa [add_block] at this | exact this) GW257.out))) _).trans (((cell_far (p := ⟨gb257, _, none⟩) (by first | exact Nat.ne_of_lt (Nat.lt_of_lt_of_le (by have := World.block_lt_of_cell? _ _ hw248_4; first | rwa [add_block] at this | exact this) GW257.out) | (rw [add_block]; exact Nat.ne_of_lt (Nat.lt_of_lt_of_le (by have := World.block_lt_of_cell? _ _ hw248_4; first | rwa [add_block] at this | exact this) GW257.out)) | (show (Addr.add _ _).block ≠ _; rw [add_block]; exact Nat.ne_of_lt (Nat.lt_of_lt_of_le (by have := World.block_lt_of_cell? _ _ hw248_4; first | rwa [add_block] at this | exact this) GW257.out)) | (dsimp only; exact Nat.ne_of_lt (Nat.lt_of_lt_of_le (by have := World.block_lt_of_cell? _ _ hw248_4; first | rwa [add_block] at this | exact this) GW257.out))) _).trans (((cell_far (p := ⟨gb257, _, none⟩) (by first | exact Nat.ne_of_lt (Nat.lt_of_lt_of_le (by have := World.block_lt_of_cell? _ _ hw248_4; first | rwa [add_block] at this | exact this) GW257.out) | (rw [add_block]; exact Nat.ne_of_lt (Nat.lt_of_lt_of_le (by have := World.block_lt_of_cell? _ _ hw248_4; first | rwa [add_block] at this | exact this) GW257.out)) | (show (Addr.add _ _).block ≠ _; rw [add_block]; exact Nat.ne_of_lt (Nat.lt_of_lt_of_le (by have := World.block_lt_of_cell? _ _ hw248_4; first | rwa [add_block] at this | exact this) GW257.out)) | (dsimp only; exact Nat.ne_of_lt (Nat.lt_of_lt_of_le (by have := World.block_lt_of_cell? _ _ hw248_4; first | rwa [add_block] at this | exact this) GW257.out))) _).trans (hHeld.2.2.2.2.2))))))))))⟩ (fun hHeld => ?_)
                              clear hK K
                              refine pure_ (i := 13) (N := some 18) (v := ?_) (a' := ?_) #[true, true, true, true, true, true, true, true, true, true, true, true, true, true] rfl rfl (any_of HT_.out (by kernel_rfl)) (fun _ _ _ h => h) (Or.inl ⟨by rfl, ?_⟩) ?_ ?_
                              rotate_left
                              · intro w'
                                go_simp
                                with_reducible rfl
                              rotate_left
                              · simp only [Act.put, List.setIfInBounds_toArray, List.set_cons_zero, List.set_cons_succ, i64_w, i32_w]
                                rfl
                              refine done_ (done_of HT_.out (by kernel_rfl)) ?_
                              have hnb59 := NB257_236.out
                              have hnc59 := NB236_257.out
                              have hcz60_0 : w53.cell? ⟨gb257, 0, none⟩ = some (.int .i64 0) := (blk_cell BK257.out 0).trans rfl
                              have hcz60_1 : w53.cell? ⟨gb257, 1, none⟩ = some (.int .i64 0) := (blk_cell BK257.out 1).trans rfl
                              have hcz60_2 : w53.cell? ⟨gb257, 2, none⟩ = some (.int .i64 0) := (blk_cell BK257.out 2).trans rfl
                              have hcz60_3 : w53.cell? ⟨gb257, 3, none⟩ = some (.string (⟨#[]⟩ : ByteArray)) := (blk_cell BK257.out 3).trans rfl
                              have hcz60_4 : w53.cell? ⟨gb257, 4, none⟩ = some (.int .i64 0) := (blk_cell BK257.out 4).trans rfl
                              have hfz60_0 := blk_frozen BK257.out 0
                              have hfz60_1 := blk_frozen BK257.out 1
                              have hfz60_2 := blk_frozen BK257.out 2
                              have hfz60_3 := blk_frozen BK257.out 3
                              have hfz60_4 := blk_frozen BK257.out 4
                              try go_wp2
                              go_roundg k3
                              case measure => have := HJ4.out; have := HK2.out; have := HK3.out; omega
                              case rel => exact ⟨(x14_3), (t254), (wrap64 (x16_3 + 1)), (by first | rfl | (simp; done) | (simp [*]; done)), H', ⟨by have := HJ4.out; have := HK2.out; have := HK3.out; omega⟩, ⟨by (with_reducible repeat (first | apply Kd.R_alloc | apply Kd.R_drewN | apply Kd.R_drew)); exact Kd.R_mono (Kd.R_far (p := ⟨gb257, 4, none⟩) (Kd.R_far (p := ⟨gb257, 3, none⟩) (Kd.R_far (p := ⟨gb257, 2, none⟩) (Kd.R_far (p := ⟨gb257, 1, none⟩) (Kd.R_far (p := ⟨gb257, 0, none⟩) (Kd.R_mono HO_14.out (fun k_ hk => (⟨hk, hk⟩ : _ ∧ k_ ≠ gb257))) (fun _ hk => hk.2) (.int .i64 t249)) (fun _ hk => hk.2) (.int .i64 t250)) (fun _ hk => hk.2) (.int .i64 t251)) (fun _ hk => hk.2) (.string t252)) (fun _ hk => hk.2) (.int .i64 t253)) (fun _ hk => trivial)⟩, ⟨by (with_reducible repeat (first | apply Kd.R_alloc | apply Kd.R_drewN | apply Kd.R_drew)); exact Kd.R_mono (Kd.R_far (p := ⟨gb257, 4, none⟩) (Kd.R_far (p := ⟨gb257, 3, none⟩) (Kd.R_far (p := ⟨gb257, 2, none⟩) (Kd.R_far (p := ⟨gb257, 1, none⟩) (Kd.R_far (p := ⟨gb257, 0, none⟩) (Kd.R_types HO256.out BK257.out (by decide)) (fun _ hk => hk.2) (.int .i64 t249)) (fun _ hk => hk.2) (.int .i64 t250)) (fun _ hk => hk.2) (.int .i64 t251)) (fun _ hk => hk.2) (.string t252)) (fun _ hk => hk.2) (.int .i64 t253)) (fun _ hk => trivial)⟩, ⟨by (with_reducible repeat (first | refine blk_drewN ?_ _ | refine blk_drew ?_ | refine blk_alloc ?_ _)); refine blk_far ?_ NB236_257.out _; (with_reducible repeat (first | refine blk_drewN ?_ _ | refine blk_drew ?_ | refine blk_alloc ?_ _)); refine blk_far ?_ NB236_257.out _; (with_reducible repeat (first | refine blk_drewN ?_ _ | refine blk_drew ?_ | refine blk_alloc ?_ _)); refine blk_far ?_ NB236_257.out _; (with_reducible repeat (first | refine blk_drewN ?_ _ | refine blk_drew ?_ | refine blk_alloc ?_ _)); refine blk_far ?_ NB236_257.out _; (with_reducible repeat (first | refine blk_drewN ?_ _ | refine blk_drew ?_ | refine blk_alloc ?_ _)); refine blk_far ?_ NB236_257.out _; (with_reducible repeat (first | refine blk_drewN ?_ _ | refine blk_drew ?_ | refine blk_alloc ?_ _)); exact BK236.out⟩, ⟨by repeat (first | (with_reducible first | exact HB.out | apply below_alloc | apply pw_below_drewN | apply below_drew1 | refine below_set ?_ GE236.out | refine below_set ?_ GE257.out) | exact HB.out)⟩⟩
                          · rw [if_neg c29] at H
                            have c29b0 : (((rd_T33 l0 x16_3).f0) == a2) = false := beq_eq_false_iff_ne.mpr c29
                            have c29b1 : (((rd_T33 l0 x16_3).f0) != a2) = true := bne_iff_ne.mpr c29
                            by_cases c61 : x14_3.length < 2932031007402
                            · rw [if_pos c61] at H
                              have LMc61 := Aside0.mk c61
                              clear c61
                              obtain ⟨y245, hy245⟩ : ∃ y_ : List (S33), y_ = (x14_3 ++ [(⟨(rd_T33 l0 x16_3).f0, (rd_T33 l0 x16_3).f1, (rd_T33 l0 x16_3).f2, (rd_T33 l0 x16_3).f3, (rd_T33 l0 x16_3).f4⟩ : S33)]) := ⟨_, rfl⟩
                              replace H : (crossbarref27_Stop.l1 k3 l0 a2 a3 y245 x15_3 (wrap64 (x16_3 + 1)) l1_0) = some (r1, r2, r3) := by first | (rw [hy245]; with_reducible exact H) | (have H2_ := (Option.bind_some _ _).symm.trans H; rw [hy245]; with_reducible exact H2_) | (have H2_ := (Option.bind_some _ _).symm.trans H; with_reducible exact H2_) | with_reducible exact H | (rw [hy245]; exact H) | exact H
                              have Ny245 := Aside0.mk hy245
                              clear hy245
                              have H' := Aside0.mk H
                              clear H
                              have p243 : 0 ≤ (x16_3 : Int) := of_decide_eq_true (by first | (with_reducible assumption) | assumption)
                              have q243 : x16_3 < (l0.length : Int) := of_decide_eq_true (by first | (with_reducible assumption) | assumption)
                              obtain ⟨ad243, e243, hx243_0, hx243_1, hx243_2, hx243_3, hx243_4⟩ := at_T33 HR0.out x16_3 p243 q243
                              cases e243
                              replace hx243_0 := (HB.out.cell (World.block_lt_of_cell? w _ hx243_0)).trans hx243_0
                              replace hx243_1 := (HB.out.cell (World.block_lt_of_cell? w _ hx243_1)).trans hx243_1
                              replace hx243_2 := (HB.out.cell (World.block_lt_of_cell? w _ hx243_2)).trans hx243_2
                              replace hx243_3 := (HB.out.cell (World.block_lt_of_cell? w _ hx243_3)).trans hx243_3
                              replace hx243_4 := (HB.out.cell (World.block_lt_of_cell? w _ hx243_4)).trans hx243_4
                              replace p243 := eq_true p243
                              replace q243 := eq_true q243
                              have p244 : 0 ≤ (x16_3 : Int) := of_decide_eq_true (by first | (with_reducible assumption) | assumption)
                              have q244 : x16_3 < (l0.length : Int) := of_decide_eq_true (by first | (with_reducible assumption) | assumption)
                              obtain ⟨ad244, e244, hx244_0, hx244_1, hx244_2, hx244_3, hx244_4⟩ := at_T33 HR0.out x16_3 p244 q244
                              obtain rfl : ad243 = ad244 := (by injection e244)
                              replace hx244_0 := (HB.out.cell (World.block_lt_of_cell? w _ hx244_0)).trans hx244_0
                              replace hx244_1 := (HB.out.cell (World.block_lt_of_cell? w _ hx244_1)).trans hx244_1
                              replace hx244_2 := (HB.out.cell (World.block_lt_of_cell? w _ hx244_2)).trans hx244_2
                              replace hx244_3 := (HB.out.cell (World.block_lt_of_cell? w _ hx244_3)).trans hx244_3
                              replace hx244_4 := (HB.out.cell (World.block_lt_of_cell? w _ hx244_4)).trans hx244_4
                              replace p244 := eq_true p244
                              replace q244 := eq_true q244
                              go_wp2_with (first | ((with_reducible refine gate_builtin (b := .append) (xs := #[.tmp 74, .tmp 79]) rfl ?_); at_builtin; refine Kd.R_append k33 (w0 := w) w.heap.size rfl (.tmp 74) (.tmp 79) 22 33 (.agg #[(.int .i64 0), (.int .i64 0), (.int .i64 0), (.string ⟨#[]⟩), (.int .i64 0)]) 48 rfl Try.underlying22 info33 rfl (by decide) (by omega) u14 x14_3 (⟨(rd_T33 l0 x16_3).f0, (rd_T33 l0 x16_3).f1, (rd_T33 l0 x16_3).f2, (rd_T33 l0 x16_3).f3, (rd_T33 l0 x16_3).f4⟩ : S33) [.int .i64 ((rd_T33 l0 x16_3).f0), .int .i64 ((rd_T33 l0 x16_3).f1), .int .i64 ((rd_T33 l0 x16_3).f2), .string ((rd_T33 l0 x16_3).f3), .int .i64 ((rd_T33 l0 x16_3).f4)] (fun _ => True) (fun _ => False) rfl rfl ?aP (fun _ hk => hk.elim) ?aF ?aO ?aB ?aS ?aL ?_; (case aP => exact k33_mkM _ _ _ (⟨(rd_T33 l0 x16_3).f0, (rd_T33 l0 x16_3).f1, (rd_T33 l0 x16_3).f2, (rd_T33 l0 x16_3).f3, (rd_T33 l0 x16_3).f4⟩ : S33)); (case aB => exact (by repeat (first | (with_reducible first | exact HB.out | apply below_alloc | apply pw_below_drewN | apply below_drew1 | refine below_set ?_ GE236.out) | exact HB.out))); (case aF => exact (fun _ _ => trivial)); (case aO => exact (by (with_reducible repeat (first | apply Kd.R_alloc | apply Kd.R_drewN | apply Kd.R_drew)); exact HO_14.out)); (case aS => exact (below_size (by repeat (first | (with_reducible first | exact HB.out | apply below_alloc | apply pw_below_drewN | apply below_drew1 | refine below_set ?_ GE236.out) | exact HB.out)))); (case aL => have := LMc61.out; omega); intro v246 w62 ho hb hg hat; rw [← Ny245.out] at ho; have n0_ := Aside0.mk (Kd.R_over' (by (with_reducible repeat (first | apply Kd.R_alloc | apply Kd.R_drewN | apply Kd.R_drew)); exact HO_15.out) (Kd.R_typed (by (with_reducible repeat (first | apply Kd.R_alloc | apply Kd.R_drewN | apply Kd.R_drew)); exact HO_14.out)) (by decide) hg); have n1_ := Aside0.mk (blk_grown (g := gb236) (o := .cells #[.slice A1_0 l1_0.length c1_0] 25 (0, 0)) (by (with_reducible repeat (first | refine blk_drewN ?_ _ | refine blk_drew ?_ | refine blk_alloc ?_ _)); exact BK236.out) hg (Kd.R_ne HO_14.out BK236.out (by decide))); have n2_ := Aside0.mk (hb); have n3_ := Aside0.mk (ho); clear HO_15; clear BK236; clear HB; clear HO_14; have HO_15 := n0_; have BK236 := n1_; have HB := n2_; have HO247 := n3_; clear n0_ n1_ n2_ n3_; clear ho hb hg hat))
                              go_roundg k3
                              case measure => have := HJ4.out; have := HK2.out; have := HK3.out; omega
                              case rel => exact ⟨(y245), (x15_3), (wrap64 (x16_3 + 1)), (by first | rfl | (simp; done) | (simp [*]; done)), H', ⟨by have := HJ4.out; have := HK2.out; have := HK3.out; omega⟩, ⟨by (with_reducible repeat (first | apply Kd.R_alloc | apply Kd.R_drewN | apply Kd.R_drew)); exact HO247.out⟩, ⟨by (with_reducible repeat (first | apply Kd.R_alloc | apply Kd.R_drewN | apply Kd.R_drew)); exact HO_15.out⟩, ⟨by (with_reducible repeat (first | refine blk_drewN ?_ _ | refine blk_drew ?_ | refine blk_alloc ?_ _)); exact BK236.out⟩, ⟨by repeat (first | (with_reducible first | exact HB.out | apply below_alloc | apply pw_below_drewN | apply below_drew1 | refine below_set ?_ GE236.out) | exact HB.out)⟩⟩
                            · rw [if_neg c61] at H
                              exact absurd H (by simp)
                        · rw [if_neg c28] at H
                          exact absurd H (by simp)
                      · rw [if_neg c27] at H
                        have c27b0 : decide (x16_3 < (l0.length : Int)) = false := decide_eq_false c27
                        clear c27
                        by_cases c63 : (x15_3.length : Int) > 1024
                        · rw [if_pos c63] at H
                          have c63b0 : decide (1024 < (x15_3.length : Int)) = true := decide_eq_true c63
                          have c63b1 : decide (1024 < x15_3.length) = true := decide_eq_true (by omega)
                          clear c63
                          simp only [Option.some.injEq, Prod.mk.injEq] at H
                          obtain ⟨rfl, rfl, rfl⟩ := H
                          obtain ⟨Ao64, co64, eo64⟩ := Kd.R_slice HO_15.out
                          subst eo64
                          go_wp2
                          go_ret3
                          exact ⟨_, _, by first | rfl | (simp [errW_none, errW_some] <;> rfl) | (simp [*, errW_none, errW_some] <;> rfl), by first | exact Kd.R_nil _ _ _ _ _ | exact Kd.N_nil _ _ _ _ _ | exact Kd.V_nil _ _ _ _ _ | exact Kd.Q_nil _ _ _ _ _ | exact Kd.S_nil _ _ _ _ _, by first | exact Kd.R_nil _ _ _ _ _ | exact Kd.N_nil _ _ _ _ _ | exact Kd.V_nil _ _ _ _ _ | exact Kd.Q_nil _ _ _ _ _ | exact Kd.S_nil _ _ _ _ _, by repeat (first | (with_reducible first | exact HB.out | apply below_alloc | apply pw_below_drewN | apply below_drew1 | refine below_set ?_ GE236.out) | exact HB.out)⟩
                        · rw [if_neg c63] at H
                          have c63b0 : decide (1024 < (x15_3.length : Int)) = false := decide_eq_false c63
                          have c63b1 : decide (1024 < x15_3.length) = false := decide_eq_false (by omega)
                          clear c63
                          simp only [Option.some.injEq, Prod.mk.injEq] at H
                          obtain ⟨rfl, rfl, rfl⟩ := H
                          obtain ⟨Ao65, co65, eo65⟩ := Kd.R_slice HO_15.out
                          subst eo65
                          go_wp2
                          go_ret3
                          exact ⟨_, _, by first | rfl | (simp [errW_none, errW_some] <;> rfl) | (simp [*, errW_none, errW_some] <;> rfl), by (with_reducible repeat (first | apply Kd.R_alloc | apply Kd.R_drewN | apply Kd.R_drew)); exact HO_14.out, by (with_reducible repeat (first | apply Kd.R_alloc | apply Kd.R_drewN | apply Kd.R_drew)); exact HO_15.out, by repeat (first | (with_reducible first | exact HB.out | apply below_alloc | apply pw_below_drewN | apply below_drew1 | refine below_set ?_ GE236.out) | exact HB.out)⟩
              · rw [if_neg c21] at H
                have c21b0 : (t242 == 0) = false := beq_eq_false_iff_ne.mpr c21
                have c21b1 : (t242 != 0) = true := bne_iff_ne.mpr c21
                simp only [Option.some.injEq, Prod.mk.injEq] at H
                obtain ⟨rfl, rfl, rfl⟩ := H
                have hcz66_0 : wr.cell? ⟨gb236, 0, none⟩ = some (.slice A1_0 l1_0.length c1_0) := (blk_cell BK236.out 0).trans rfl
                have hfz66_0 := blk_frozen BK236.out 0
                go_wp2_with (first | ((with_reducible refine gate_callee (f := 64) rfl ?_); refine goesL_ (some 55) rfl rfl Try.func64 (by kernel_rfl) rfl #[.agg #[.slice A1_0 l1_0.length c1_0]] rfl (by (try simp only [List.map_toArray, List.map_cons, List.map_nil]); first | done | rfl | (simp only [List.length_drop, List.length_take]; rfl)) ?_; (with_reducible refine (crossbarref26_Check.calls k2 _ _ l1_0 t242 _ ?side1 ?side2 A20.out).mono ?_); (case side1 => repeat (first | exact (Kd.C_below HR1_0.out HB.out) | (with_reducible refine Kd.C_alloc ?_ _) | (with_reducible refine Kd.C_drewN ?_ _) | (with_reducible refine Kd.C_drew ?_))); (case side2 => exact HC1_0.out); rintro e w67 ⟨rfl, hb⟩; refine ⟨_, rfl, ?_⟩; have n0_ := Aside0.mk (blk_below (g := gb236) (o := .cells #[.slice A1_0 l1_0.length c1_0] 25 (0, 0)) (by (with_reducible repeat (first | refine blk_drewN ?_ _ | refine blk_drew ?_ | refine blk_alloc ?_ _)); exact BK236.out) hb); have n1_ := Aside0.mk (below_step (by repeat (first | (with_reducible first | exact HB.out | apply below_alloc | apply pw_below_drewN | apply below_drew1 | refine below_set ?_ GE236.out) | exact HB.out)) hb); clear BK236; clear HB; have BK236 := n0_; have HB := n1_; clear n0_ n1_; (try clear hb); (try clear hb2); (try clear hk); (try clear hi)))
                go_ret3
                exact ⟨_, _, by first | rfl | (simp [errW_none, errW_some] <;> rfl) | (simp [*, errW_none, errW_some] <;> rfl), by first | exact Kd.R_nil _ _ _ _ _ | exact Kd.N_nil _ _ _ _ _ | exact Kd.V_nil _ _ _ _ _ | exact Kd.Q_nil _ _ _ _ _ | exact Kd.S_nil _ _ _ _ _, by first | exact Kd.R_nil _ _ _ _ _ | exact Kd.N_nil _ _ _ _ _ | exact Kd.V_nil _ _ _ _ _ | exact Kd.Q_nil _ _ _ _ _ | exact Kd.S_nil _ _ _ _ _, by repeat (first | (with_reducible first | exact HB.out | apply below_alloc | apply pw_below_drewN | apply below_drew1 | refine below_set ?_ GE236.out) | exact HB.out)⟩

end Go.Proofs.Ytbfhohpbldadbaa.P

namespace Go.Proofs.Ytbfhohpbldadbaa.P
open Go Go.RowKit Go.Proofs.YtbfhohpbldadbaaW.PrintWords Go.Proofs.YtbfhohpbldadbaaW.PrintLast Go.Proofs.YtbfhohpbldadbaaW.PrintMore
set_option linter.unusedVariables false
set_option linter.unusedSimpArgs false
def lastT : Int → List Int → Int
  | cur, [] => cur
  | _, y :: L => lastT y L
/-- A chain of changes. -/
def Chain (nx : Int → Int) : Int → List Int → Prop
  | _, [] => True
  | cur, y :: L => y = nx cur ∧ Chain nx y L
theorem Chain.take {nx : Int → Int} : ∀ {L : List Int} {cur : Int} (n : Nat), Chain nx cur L → Chain nx cur (L.take n)
  | [], _, n, _ => by rw [List.take_nil]; trivial
  | y :: L, _, 0, _ => trivial
  | y :: L, _, n + 1, h => ⟨h.1, Chain.take n h.2⟩
theorem cuts_range {bs : List S110} (hc : chkB bs = 0) {now cur : Int} (hn : now ≤ 1099511627776) (h0 : 0 ≤ cur) (h1 : cur ≤ 1099511627776) : ∀ y ∈ cutsOf bs (nxB bs) now cur, 0 ≤ y ∧ y ≤ 1099511627776 :=
  cutsOf_range (tar_of hc (Nat.le_refl 26)) hn h0 h1
theorem cuts_flat {bs : List S110} (hf : flatB bs = true) (now cur : Int) : cutsOf bs (nxB bs) now cur = [] := by unfold cutsOf; rw [if_pos hf]
end Go.Proofs.Ytbfhohpbldadbaa.P

-- Written by a program of this session out of the translation (a changed scratch copy of the print). Not trusted: Lean checks it.
namespace Go.Proofs.Ytbfhohpbldadbaa.P
open Go.RowKit Go.Proofs.YtbfhohpbldadbaaW.PrintWords Go.Proofs.YtbfhohpbldadbaaW.PrintLast Go.Proofs.YtbfhohpbldadbaaW.PrintMore
attribute [local go_sem] max2_int min2_int max_two min_two max_three min_three max_four min_four   -- for this text's walks alone
set_option linter.unusedVariables false
set_option linter.unusedSimpArgs false

theorem eqA33 (d : Nat) (w : World) (x0 y0 : Int) (x1 y1 : Int) (x2 y2 : Int) (x3 y3 : ByteArray) (x4 y4 : Int) :
    (Op.equalIn (d + 2) 33 (.agg #[.int .i64 x0, .int .i64 x1, .int .i64 x2, .string x3, .int .i64 x4]) (.agg #[.int .i64 y0, .int .i64 y1, .int .i64 y2, .string y3, .int .i64 y4])).run Try.prog w = .ok (x0 == y0 && (x1 == y1 && (x2 == y2 && (x3.toList == y3.toList && (x4 == y4))))) w := by
  refine eqA_of Try.underlying33 (by kernel_rfl) ?_
  refine eqf_cons (by rfl) (by go_simp; rfl) (by go_simp; rfl) (by go_simp) ?_
  refine eqf_cons (by rfl) (by go_simp; rfl) (by go_simp; rfl) (by go_simp) ?_
  refine eqf_cons (by rfl) (by go_simp; rfl) (by go_simp; rfl) (by go_simp) ?_
  refine eqf_cons (by rfl) (by go_simp; rfl) (by go_simp; rfl) (by go_simp) ?_
  exact eqf_last (by rfl) (by go_simp; rfl) (by go_simp; rfl) (by go_simp)
end Go.Proofs.Ytbfhohpbldadbaa.P

-- Written by a program of this session out of the translation (a changed scratch copy of the print). Not trusted: Lean checks it.
namespace Go.Proofs.Ytbfhohpbldadbaa.P
open Go.RowKit Go.Proofs.YtbfhohpbldadbaaW.PrintWords Go.Proofs.YtbfhohpbldadbaaW.PrintLast Go.Proofs.YtbfhohpbldadbaaW.PrintMore
attribute [local go_sem] max2_int min2_int max_two min_two max_three min_three max_four min_four   -- for this text's walks alone
set_option linter.unusedVariables false
set_option linter.unusedSimpArgs false

attribute [local go_sem high] eqA33
/-! ### meter_Total: function 21 -/
def meter_Total.l0 : Nat → Int → Int → Int → Int → List (S39) → Int → Int → Option (Int × Int)
  | 0, _, _, _, _, _, _, _ => none
  | k + 1, x1, x2, x6, x7, x10, x11, x12 => if x12 < x11 then (if 0 ≤ x12 then (if x12 < (x10.length : Int) then (if ((rd_T39 x10 x12).f0) = x1 then (if ((rd_T39 x10 x12).f1) = x2 then (meter_Total.l0 k x1 x2 (wrap64 (x6 + ((rd_T39 x10 x12).f7))) (wrap64 (x7 + (wrap64 (((rd_T39 x10 x12).f5) - ((rd_T39 x10 x12).f4))))) x10 x11 (wrap64 (x12 + 1))) else (meter_Total.l0 k x1 x2 x6 x7 x10 x11 (wrap64 (x12 + 1)))) else (meter_Total.l0 k x1 x2 x6 x7 x10 x11 (wrap64 (x12 + 1)))) else (none)) else (none)) else (some (x6, x7))
def meter_Total.f (k : Nat) (l0 : List (S39)) (a1 : Int) (a2 : Int) : Option (Int × Int) := meter_Total.l0 k a1 a2 0 0 l0 (l0.length : Int) 0
theorem meter_Total.mono_l : ∀ k, (∀ y0 y1 y2 y3 y4 y5 y6, LeO (meter_Total.l0 k y0 y1 y2 y3 y4 y5 y6) (meter_Total.l0 (k + 1) y0 y1 y2 y3 y4 y5 y6))
  | 0 => fun _ _ _ _ _ _ _ r h => by simp [meter_Total.l0] at h
  | k + 1 => by
    have ih0 := meter_Total.mono_l k
    · intro y0 y1 y2 y3 y4 y5 y6
      unfold meter_Total.l0
      repeat' first
      | (with_reducible exact ih0 _ _ _ _ _ _ _)
      | (with_reducible exact LeO.refl _)
      | (with_reducible exact LeO.none _)
      | (with_reducible refine LeO.ite ?_ ?_)
      | (with_reducible refine LeO.bind ?_ (fun _ => ?_))
      | exact ih0 _ _ _ _ _ _ _
      | exact LeO.none _
      | refine LeO.ite ?_ ?_
      | refine LeO.bind ?_ (fun _ => ?_)
theorem meter_Total.mono : ∀ a0 a1 a2 k, LeO (meter_Total.f k a0 a1 a2) (meter_Total.f (k + 1) a0 a1 a2) := by
  intro a0 a1 a2 k
  have ih0 := meter_Total.mono_l k
  unfold meter_Total.f
  repeat' first
      | (with_reducible exact ih0 _ _ _ _ _ _ _)
      | (with_reducible exact LeO.refl _)
      | (with_reducible exact LeO.none _)
      | (with_reducible refine LeO.ite ?_ ?_)
      | (with_reducible refine LeO.bind ?_ (fun _ => ?_))
      | exact ih0 _ _ _ _ _ _ _
      | exact LeO.none _
      | refine LeO.ite ?_ ?_
      | refine LeO.bind ?_ (fun _ => ?_)
set_option maxHeartbeats 8000000 in
set_option maxRecDepth 100000 in
theorem meter_Total.calls (k : Nat) (A0 : Option Addr) (c0 : Nat) (l0 : List (S39)) (a1 : Int) (a2 : Int) (r1 : Int) (r2 : Int) (w : World) (hr0 : Kd.C k39 w A0 l0.length l0) (hc0 : l0.length ≤ c0) (h : meter_Total.f k l0 a1 a2 = some (r1, r2)) :
    Calls Try.prog 21 #[.slice A0 l0.length c0, .int .i64 a1, .int .i64 a2] w fun e w' => e = .returned (.tuple #[.int .i64 r1, .int .i64 r2]) ∧ Below w.heap.size w w' := by
  have hu39 := Try.underlying39
  have HR0 := Aside0.mk hr0
  have HC0 := Aside0.mk hc0
  clear hr0 hc0
  have HB := Aside0.mk (Below.refl w.heap.size w)
  have H : (meter_Total.l0 k a1 a2 0 0 l0 (l0.length : Int) 0) = some (r1, r2) := h
  clear h
  have H' := Aside0.mk H
  clear H
  go_enter Try.func21, Try.ntmps21
  go_wp2
  go_loopg [6, 7, 12] k (fun kq v6 v7 v12 w' => ∃ (x6_1 : Int) (x7_1 : Int) (x12_1 : Int), v6 = .int .i64 x6_1 ∧ v7 = .int .i64 x7_1 ∧ v12 = .int .i64 x12_1 ∧ Aside0 (meter_Total.l0 kq a1 a2 x6_1 x7_1 l0 (l0.length : Int) x12_1 = some (r1, r2)) ∧ Aside0 (kq ≤ k) ∧ Aside0 (Below w.heap.size w w'))
  case atStart => exact ⟨(0), (0), (0), (by first | rfl | (simp; done) | (simp [*]; done)), (by first | rfl | (simp; done) | (simp [*]; done)), (by first | rfl | (simp; done) | (simp [*]; done)), H', ⟨Nat.le_refl _⟩, ⟨by repeat (first | (with_reducible first | exact HB.out | apply below_alloc | apply pw_below_drewN | apply below_drew1) | exact HB.out)⟩⟩
  case round =>
    clear H'
    try clear c2
    try clear p2
    obtain ⟨x6_1, x7_1, x12_1, rfl, rfl, rfl, HA, HK1, HB⟩ := hrel
    cases gk with
    | zero => exact absurd HA.out (by simp [meter_Total.l0])
    | succ k1 =>
      have H := HA.out
      clear HA
      simp only [meter_Total.l0] at H
      by_cases c4 : x12_1 < (l0.length : Int)
      · rw [if_pos c4] at H
        have c4b0 : decide (x12_1 < (l0.length : Int)) = true := decide_eq_true c4
        clear c4
        by_cases c5 : 0 ≤ x12_1
        · rw [if_pos c5] at H
          have c5b0 : decide (0 ≤ x12_1) = true := decide_eq_true c5
          clear c5
          by_cases c6 : x12_1 < (l0.length : Int)
          · rw [if_pos c6] at H
            have c6b0 : decide (x12_1 < (l0.length : Int)) = true := decide_eq_true c6
            clear c6
            by_cases c7 : ((rd_T39 l0 x12_1).f0) = a1
            · rw [if_pos c7] at H
              have c7b0 : (((rd_T39 l0 x12_1).f0) == a1) = true := beq_iff_eq.mpr c7
              have c7b1 : (((rd_T39 l0 x12_1).f0) != a1) = false := bne_eq_false_iff_eq.mpr c7
              clear c7
              by_cases c8 : ((rd_T39 l0 x12_1).f1) = a2
              · rw [if_pos c8] at H
                have c8b0 : (((rd_T39 l0 x12_1).f1) == a2) = true := beq_iff_eq.mpr c8
                have c8b1 : (((rd_T39 l0 x12_1).f1) != a2) = false := bne_eq_false_iff_eq.mpr c8
                clear c8
                have H' := Aside0.mk H
                clear H
                have p117 : 0 ≤ (x12_1 : Int) := of_decide_eq_true (by first | (with_reducible assumption) | assumption)
                have q117 : x12_1 < (l0.length : Int) := of_decide_eq_true (by first | (with_reducible assumption) | assumption)
                obtain ⟨ad117, e117, hx117_0, hx117_1, hx117_2, hx117_3, hx117_4, hx117_5, hx117_6, hx117_7⟩ := at_T39 HR0.out x12_1 p117 q117
                cases e117
                replace hx117_0 := (HB.out.cell (World.block_lt_of_cell? w _ hx117_0)).trans hx117_0
                replace hx117_1 := (HB.out.cell (World.block_lt_of_cell? w _ hx117_1)).trans hx117_1
                replace hx117_2 := (HB.out.cell (World.block_lt_of_cell? w _ hx117_2)).trans hx117_2
                replace hx117_3 := (HB.out.cell (World.block_lt_of_cell? w _ hx117_3)).trans hx117_3
                replace hx117_4 := (HB.out.cell (World.block_lt_of_cell? w _ hx117_4)).trans hx117_4
                replace hx117_5 := (HB.out.cell (World.block_lt_of_cell? w _ hx117_5)).trans hx117_5
                replace hx117_6 := (HB.out.cell (World.block_lt_of_cell? w _ hx117_6)).trans hx117_6
                replace hx117_7 := (HB.out.cell (World.block_lt_of_cell? w _ hx117_7)).trans hx117_7
                replace p117 := eq_true p117
                replace q117 := eq_true q117
                go_wp2_with (first | ((with_reducible refine gate_dst (N := 9) rfl ?_); refine box_event ?hg (N := 9) ?hd (cs := #[.int .i64 0, .int .i64 0, .int .i64 0, .string (⟨#[]⟩ : ByteArray), .int .i64 0, .int .i64 0, .int .i64 0, .int .i64 0]) (t := 39) ?hr ?_; (case hd => rfl); (case hg => rfl); (case hr => first | (go_simp; done) | (go_simp; rfl)); intro gb118 hg w9 hbox hb; have n0_ := Aside0.mk (below_step (by repeat (first | (with_reducible first | exact HB.out | apply below_alloc | apply pw_below_drewN | apply below_drew1) | exact HB.out)) hb); have n1_ := Aside0.mk (hbox); have n2_ := Aside0.mk ((by rw [hg]; exact (below_size (by repeat (first | (with_reducible first | exact HB.out | apply below_alloc | apply pw_below_drewN | apply below_drew1) | exact HB.out))) : w.heap.size ≤ gb118)); have n3_ := Aside0.mk ((by rw [hg]; exact (below_size (by repeat (first | (with_reducible first | exact HB.out | apply below_alloc | apply pw_below_drewN | apply below_drew1) | exact HB.out))) : w.heap.size ≤ gb118)); clear HB; have HB := n0_; have BK118 := n1_; have GW118 := n2_; have GE118 := n3_; clear n0_ n1_ n2_ n3_; clear hb hbox hg; have hcz10_0 : w9.cell? ⟨gb118, 0, none⟩ = some (.int .i64 0) := (blk_cell BK118.out 0).trans rfl; have hcz10_1 : w9.cell? ⟨gb118, 1, none⟩ = some (.int .i64 0) := (blk_cell BK118.out 1).trans rfl; have hcz10_2 : w9.cell? ⟨gb118, 2, none⟩ = some (.int .i64 0) := (blk_cell BK118.out 2).trans rfl; have hcz10_3 : w9.cell? ⟨gb118, 3, none⟩ = some (.string (⟨#[]⟩ : ByteArray)) := (blk_cell BK118.out 3).trans rfl; have hcz10_4 : w9.cell? ⟨gb118, 4, none⟩ = some (.int .i64 0) := (blk_cell BK118.out 4).trans rfl; have hcz10_5 : w9.cell? ⟨gb118, 5, none⟩ = some (.int .i64 0) := (blk_cell BK118.out 5).trans rfl; have hcz10_6 : w9.cell? ⟨gb118, 6, none⟩ = some (.int .i64 0) := (blk_cell BK118.out 6).trans rfl; have hcz10_7 : w9.cell? ⟨gb118, 7, none⟩ = some (.int .i64 0) := (blk_cell BK118.out 7).trans rfl; have hfz10_0 := blk_frozen BK118.out 0; have hfz10_1 := blk_frozen BK118.out 1; have hfz10_2 := blk_frozen BK118.out 2; have hfz10_3 := blk_frozen BK118.out 3; have hfz10_4 := blk_frozen BK118.out 4; have hfz10_5 := blk_frozen BK118.out 5; have hfz10_6 := blk_frozen BK118.out 6; have hfz10_7 := blk_frozen BK118.out 7))
                go_roundg k1
                case measure => have := HK1.out; omega
                case rel => exact ⟨(wrap64 (x6_1 + ((rd_T39 l0 x12_1).f7))), (wrap64 (x7_1 + (wrap64 (((rd_T39 l0 x12_1).f5) - ((rd_T39 l0 x12_1).f4))))), (wrap64 (x12_1 + 1)), (by first | rfl | (simp; done) | (simp [*]; done)), (by first | rfl | (simp; done) | (simp [*]; done)), (by first | rfl | (simp; done) | (simp [*]; done)), H', ⟨by have := HK1.out; omega⟩, ⟨by repeat (first | (with_reducible first | exact HB.out | apply below_alloc | apply pw_below_drewN | apply below_drew1 | refine below_set ?_ GE118.out) | exact HB.out)⟩⟩
              · rw [if_neg c8] at H
                have c8b0 : (((rd_T39 l0 x12_1).f1) == a2) = false := beq_eq_false_iff_ne.mpr c8
                have c8b1 : (((rd_T39 l0 x12_1).f1) != a2) = true := bne_iff_ne.mpr c8
                have H' := Aside0.mk H
                clear H
                have p117 : 0 ≤ (x12_1 : Int) := of_decide_eq_true (by first | (with_reducible assumption) | assumption)
                have q117 : x12_1 < (l0.length : Int) := of_decide_eq_true (by first | (with_reducible assumption) | assumption)
                obtain ⟨ad117, e117, hx117_0, hx117_1, hx117_2, hx117_3, hx117_4, hx117_5, hx117_6, hx117_7⟩ := at_T39 HR0.out x12_1 p117 q117
                cases e117
                replace hx117_0 := (HB.out.cell (World.block_lt_of_cell? w _ hx117_0)).trans hx117_0
                replace hx117_1 := (HB.out.cell (World.block_lt_of_cell? w _ hx117_1)).trans hx117_1
                replace hx117_2 := (HB.out.cell (World.block_lt_of_cell? w _ hx117_2)).trans hx117_2
                replace hx117_3 := (HB.out.cell (World.block_lt_of_cell? w _ hx117_3)).trans hx117_3
                replace hx117_4 := (HB.out.cell (World.block_lt_of_cell? w _ hx117_4)).trans hx117_4
                replace hx117_5 := (HB.out.cell (World.block_lt_of_cell? w _ hx117_5)).trans hx117_5
                replace hx117_6 := (HB.out.cell (World.block_lt_of_cell? w _ hx117_6)).trans hx117_6
                replace hx117_7 := (HB.out.cell (World.block_lt_of_cell? w _ hx117_7)).trans hx117_7
                replace p117 := eq_true p117
                replace q117 := eq_true q117
                go_wp2_with (first | ((with_reducible refine gate_dst (N := 9) rfl ?_); refine box_event ?hg (N := 9) ?hd (cs := #[.int .i64 0, .int .i64 0, .int .i64 0, .string (⟨#[]⟩ : ByteArray), .int .i64 0, .int .i64 0, .int .i64 0, .int .i64 0]) (t := 39) ?hr ?_; (case hd => rfl); (case hg => rfl); (case hr => first | (go_simp; done) | (go_simp; rfl)); intro gb118 hg w11 hbox hb; have n0_ := Aside0.mk (below_step (by repeat (first | (with_reducible first | exact HB.out | apply below_alloc | apply pw_below_drewN | apply below_drew1) | exact HB.out)) hb); have n1_ := Aside0.mk (hbox); have n2_ := Aside0.mk ((by rw [hg]; exact (below_size (by repeat (first | (with_reducible first | exact HB.out | apply below_alloc | apply pw_below_drewN | apply below_drew1) | exact HB.out))) : w.heap.size ≤ gb118)); have n3_ := Aside0.mk ((by rw [hg]; exact (below_size (by repeat (first | (with_reducible first | exact HB.out | apply below_alloc | apply pw_below_drewN | apply below_drew1) | exact HB.out))) : w.heap.size ≤ gb118)); clear HB; have HB := n0_; have BK118 := n1_; have GW118 := n2_; have GE118 := n3_; clear n0_ n1_ n2_ n3_; clear hb hbox hg; have hcz12_0 : w11.cell? ⟨gb118, 0, none⟩ = some (.int .i64 0) := (blk_cell BK118.out 0).trans rfl; have hcz12_1 : w11.cell? ⟨gb118, 1, none⟩ = some (.int .i64 0) := (blk_cell BK118.out 1).trans rfl; have hcz12_2 : w11.cell? ⟨gb118, 2, none⟩ = some (.int .i64 0) := (blk_cell BK118.out 2).trans rfl; have hcz12_3 : w11.cell? ⟨gb118, 3, none⟩ = some (.string (⟨#[]⟩ : ByteArray)) := (blk_cell BK118.out 3).trans rfl; have hcz12_4 : w11.cell? ⟨gb118, 4, none⟩ = some (.int .i64 0) := (blk_cell BK118.out 4).trans rfl; have hcz12_5 : w11.cell? ⟨gb118, 5, none⟩ = some (.int .i64 0) := (blk_cell BK118.out 5).trans rfl; have hcz12_6 : w11.cell? ⟨gb118, 6, none⟩ = some (.int .i64 0) := (blk_cell BK118.out 6).trans rfl; have hcz12_7 : w11.cell? ⟨gb118, 7, none⟩ = some (.int .i64 0) := (blk_cell BK118.out 7).trans rfl; have hfz12_0 := blk_frozen BK118.out 0; have hfz12_1 := blk_frozen BK118.out 1; have hfz12_2 := blk_frozen BK118.out 2; have hfz12_3 := blk_frozen BK118.out 3; have hfz12_4 := blk_frozen BK118.out 4; have hfz12_5 := blk_frozen BK118.out 5; have hfz12_6 := blk_frozen BK118.out 6; have hfz12_7 := blk_frozen BK118.out 7))
                go_roundg k1
                case measure => have := HK1.out; omega
                case rel => exact ⟨(x6_1), (x7_1), (wrap64 (x12_1 + 1)), (by first | rfl | (simp; done) | (simp [*]; done)), (by first | rfl | (simp; done) | (simp [*]; done)), (by first | rfl | (simp; done) | (simp [*]; done)), H', ⟨by have := HK1.out; omega⟩, ⟨by repeat (first | (with_reducible first | exact HB.out | apply below_alloc | apply pw_below_drewN | apply below_drew1 | refine below_set ?_ GE118.out) | exact HB.out)⟩⟩
            · rw [if_neg c7] at H
              have c7b0 : (((rd_T39 l0 x12_1).f0) == a1) = false := beq_eq_false_iff_ne.mpr c7
              have c7b1 : (((rd_T39 l0 x12_1).f0) != a1) = true := bne_iff_ne.mpr c7
              have H' := Aside0.mk H
              clear H
              have p117 : 0 ≤ (x12_1 : Int) := of_decide_eq_true (by first | (with_reducible assumption) | assumption)
              have q117 : x12_1 < (l0.length : Int) := of_decide_eq_true (by first | (with_reducible assumption) | assumption)
              obtain ⟨ad117, e117, hx117_0, hx117_1, hx117_2, hx117_3, hx117_4, hx117_5, hx117_6, hx117_7⟩ := at_T39 HR0.out x12_1 p117 q117
              cases e117
              replace hx117_0 := (HB.out.cell (World.block_lt_of_cell? w _ hx117_0)).trans hx117_0
              replace hx117_1 := (HB.out.cell (World.block_lt_of_cell? w _ hx117_1)).trans hx117_1
              replace hx117_2 := (HB.out.cell (World.block_lt_of_cell? w _ hx117_2)).trans hx117_2
              replace hx117_3 := (HB.out.cell (World.block_lt_of_cell? w _ hx117_3)).trans hx117_3
              replace hx117_4 := (HB.out.cell (World.block_lt_of_cell? w _ hx117_4)).trans hx117_4
              replace hx117_5 := (HB.out.cell (World.block_lt_of_cell? w _ hx117_5)).trans hx117_5
              replace hx117_6 := (HB.out.cell (World.block_lt_of_cell? w _ hx117_6)).trans hx117_6
              replace hx117_7 := (HB.out.cell (World.block_lt_of_cell? w _ hx117_7)).trans hx117_7
              replace p117 := eq_true p117
              replace q117 := eq_true q117
              go_wp2_with (first | ((with_reducible refine gate_dst (N := 9) rfl ?_); refine box_event ?hg (N := 9) ?hd (cs := #[.int .i64 0, .int .i64 0, .int .i64 0, .string (⟨#[]⟩ : ByteArray), .int .i64 0, .int .i64 0, .int .i64 0, .int .i64 0]) (t := 39) ?hr ?_; (case hd => rfl); (case hg => rfl); (case hr => first | (go_simp; done) | (go_simp; rfl)); intro gb118 hg w13 hbox hb; have n0_ := Aside0.mk (below_step (by repeat (first | (with_reducible first | exact HB.out | apply below_alloc | apply pw_below_drewN | apply below_drew1) | exact HB.out)) hb); have n1_ := Aside0.mk (hbox); have n2_ := Aside0.mk ((by rw [hg]; exact (below_size (by repeat (first | (with_reducible first | exact HB.out | apply below_alloc | apply pw_below_drewN | apply below_drew1) | exact HB.out))) : w.heap.size ≤ gb118)); have n3_ := Aside0.mk ((by rw [hg]; exact (below_size (by repeat (first | (with_reducible first | exact HB.out | apply below_alloc | apply pw_below_drewN | apply below_drew1) | exact HB.out))) : w.heap.size ≤ gb118)); clear HB; have HB := n0_; have BK118 := n1_; have GW118 := n2_; have GE118 := n3_; clear n0_ n1_ n2_ n3_; clear hb hbox hg; have hcz14_0 : w13.cell? ⟨gb118, 0, none⟩ = some (.int .i64 0) := (blk_cell BK118.out 0).trans rfl; have hcz14_1 : w13.cell? ⟨gb118, 1, none⟩ = some (.int .i64 0) := (blk_cell BK118.out 1).trans rfl; have hcz14_2 : w13.cell? ⟨gb118, 2, none⟩ = some (.int .i64 0) := (blk_cell BK118.out 2).trans rfl; have hcz14_3 : w13.cell? ⟨gb118, 3, none⟩ = some (.string (⟨#[]⟩ : ByteArray)) := (blk_cell BK118.out 3).trans rfl; have hcz14_4 : w13.cell? ⟨gb118, 4, none⟩ = some (.int .i64 0) := (blk_cell BK118.out 4).trans rfl; have hcz14_5 : w13.cell? ⟨gb118, 5, none⟩ = some (.int .i64 0) := (blk_cell BK118.out 5).trans rfl; have hcz14_6 : w13.cell? ⟨gb118, 6, none⟩ = some (.int .i64 0) := (blk_cell BK118.out 6).trans rfl; have hcz14_7 : w13.cell? ⟨gb118, 7, none⟩ = some (.int .i64 0) := (blk_cell BK118.out 7).trans rfl; have hfz14_0 := blk_frozen BK118.out 0; have hfz14_1 := blk_frozen BK118.out 1; have hfz14_2 := blk_frozen BK118.out 2; have hfz14_3 := blk_frozen BK118.out 3; have hfz14_4 := blk_frozen BK118.out 4; have hfz14_5 := blk_frozen BK118.out 5; have hfz14_6 := blk_frozen BK118.out 6; have hfz14_7 := blk_frozen BK118.out 7))
              go_roundg k1
              case measure => have := HK1.out; omega
              case rel => exact ⟨(x6_1), (x7_1), (wrap64 (x12_1 + 1)), (by first | rfl | (simp; done) | (simp [*]; done)), (by first | rfl | (simp; done) | (simp [*]; done)), (by first | rfl | (simp; done) | (simp [*]; done)), H', ⟨by have := HK1.out; omega⟩, ⟨by repeat (first | (with_reducible first | exact HB.out | apply below_alloc | apply pw_below_drewN | apply below_drew1 | refine below_set ?_ GE118.out) | exact HB.out)⟩⟩
          · rw [if_neg c6] at H
            exact absurd H (by simp)
        · rw [if_neg c5] at H
          exact absurd H (by simp)
      · rw [if_neg c4] at H
        have c4b0 : decide (x12_1 < (l0.length : Int)) = false := decide_eq_false c4
        clear c4
        simp only [Option.some.injEq, Prod.mk.injEq] at H
        obtain ⟨rfl, rfl⟩ := H
        go_wp2
        go_ret2
        exact ⟨by first | rfl | (simp [errW_none, errW_some] <;> rfl) | (simp [*, errW_none, errW_some] <;> rfl), by repeat (first | (with_reducible first | exact HB.out | apply below_alloc | apply pw_below_drewN | apply below_drew1) | exact HB.out)⟩

/-! ### crossbarref27_SameMeters: function 22 -/
def crossbarref27_SameMeters.l0 : Nat → List (S33) → List (S33) → Int → Option (Bool)
  | 0, _, _, _ => none
  | k + 1, x0, x1, x5 => if x5 < (x0.length : Int) then (if 0 ≤ x5 then (if x5 < (x1.length : Int) then (if (!(((rd_T33 x0 x5).f0) == ((rd_T33 x1 x5).f0)) || (!(((rd_T33 x0 x5).f1) == ((rd_T33 x1 x5).f1)) || (!(((rd_T33 x0 x5).f2) == ((rd_T33 x1 x5).f2)) || (!((((rd_T33 x0 x5).f3).toList) == (((rd_T33 x1 x5).f3).toList)) || (!(((rd_T33 x0 x5).f4) == ((rd_T33 x1 x5).f4))))))) = true then (some false) else (crossbarref27_SameMeters.l0 k x0 x1 (wrap64 (x5 + 1)))) else (none)) else (none)) else (some true)
def crossbarref27_SameMeters.f (k : Nat) (l0 : List (S33)) (l1 : List (S33)) : Option (Bool) := if (l0.length : Int) = (l1.length : Int) then (crossbarref27_SameMeters.l0 k l0 l1 0) else (some false)
theorem crossbarref27_SameMeters.mono_l : ∀ k, (∀ y0 y1 y2, LeO (crossbarref27_SameMeters.l0 k y0 y1 y2) (crossbarref27_SameMeters.l0 (k + 1) y0 y1 y2))
  | 0 => fun _ _ _ r h => by simp [crossbarref27_SameMeters.l0] at h
  | k + 1 => by
    have ih0 := crossbarref27_SameMeters.mono_l k
    · intro y0 y1 y2
      unfold crossbarref27_SameMeters.l0
      repeat' first
      | (with_reducible exact ih0 _ _ _)
      | (with_reducible exact LeO.refl _)
      | (with_reducible exact LeO.none _)
      | (with_reducible refine LeO.ite ?_ ?_)
      | (with_reducible refine LeO.bind ?_ (fun _ => ?_))
      | exact ih0 _ _ _
      | exact LeO.none _
      | refine LeO.ite ?_ ?_
      | refine LeO.bind ?_ (fun _ => ?_)
theorem crossbarref27_SameMeters.mono : ∀ a0 a1 k, LeO (crossbarref27_SameMeters.f k a0 a1) (crossbarref27_SameMeters.f (k + 1) a0 a1) := by
  intro a0 a1 k
  have ih0 := crossbarref27_SameMeters.mono_l k
  unfold crossbarref27_SameMeters.f
  repeat' first
      | (with_reducible exact ih0 _ _ _)
      | (with_reducible exact LeO.refl _)
      | (with_reducible exact LeO.none _)
      | (with_reducible refine LeO.ite ?_ ?_)
      | (with_reducible refine LeO.bind ?_ (fun _ => ?_))
      | exact ih0 _ _ _
      | exact LeO.none _
      | refine LeO.ite ?_ ?_
      | refine LeO.bind ?_ (fun _ => ?_)
set_option maxHeartbeats 8000000 in
set_option maxRecDepth 100000 in
theorem crossbarref27_SameMeters.calls (k : Nat) (A0 : Option Addr) (c0 : Nat) (l0 : List (S33)) (A1 : Option Addr) (c1 : Nat) (l1 : List (S33)) (r : Bool) (w : World) (hr0 : Kd.C k33 w A0 l0.length l0) (hc0 : l0.length ≤ c0) (hr1 : Kd.C k33 w A1 l1.length l1) (hc1 : l1.length ≤ c1) (h : crossbarref27_SameMeters.f k l0 l1 = some r) :
    Calls Try.prog 22 #[.slice A0 l0.length c0, .slice A1 l1.length c1] w fun e w' => e = .returned (.bool r) ∧ Drawn0 w w' := by
  have hu33 := Try.underlying33
  have HR0 := Aside0.mk hr0
  have HC0 := Aside0.mk hc0
  clear hr0 hc0
  have HR1 := Aside0.mk hr1
  have HC1 := Aside0.mk hc1
  clear hr1 hc1
  have H : (if (l0.length : Int) = (l1.length : Int) then (crossbarref27_SameMeters.l0 k l0 l1 0) else (some false)) = some r := h
  clear h
  by_cases c3 : (l0.length : Int) = (l1.length : Int)
  · rw [if_pos c3] at H
    have c3b0 : ((l0.length : Int) == (l1.length : Int)) = true := beq_iff_eq.mpr c3
    have c3b1 : ((l0.length : Int) != (l1.length : Int)) = false := bne_eq_false_iff_eq.mpr c3
    have c3b2 : (l0.length == l1.length) = true := by first | simpa using c3 | (simp at c3 ⊢; omega)
    clear c3
    have H' := Aside0.mk H
    clear H
    go_enter Try.func22, Try.ntmps22
    go_wp2
    repeat (go_quiet (fail); try go_wp2)
    go_loopg [5] k (fun kq v5 w' => ∃ (x5_1 : Int), v5 = .int .i64 x5_1 ∧ Aside0 (crossbarref27_SameMeters.l0 kq l0 l1 x5_1 = some r) ∧ Aside0 (kq ≤ k) ∧ Drawn0 w w')
    case atStart => exact ⟨(0), (by first | rfl | (simp; done) | (simp [*]; done)), H', ⟨Nat.le_refl _⟩, by repeat (first | exact Drawn0.refl _ | apply Drawn0.step)⟩
    case round =>
      clear H'
      try clear c1
      try clear c2
      try clear p2
      try clear c3
      try clear c3b0
      try clear c3b1
      try clear c3b2
      obtain ⟨x5_1, rfl, HA, HK1, ⟨m1, rfl⟩⟩ := hrel
      cases gk with
      | zero => exact absurd HA.out (by simp [crossbarref27_SameMeters.l0])
      | succ k1 =>
        have H := HA.out
        clear HA
        simp only [crossbarref27_SameMeters.l0] at H
        by_cases c4 : x5_1 < (l0.length : Int)
        · rw [if_pos c4] at H
          have c4b0 : decide (x5_1 < (l0.length : Int)) = true := decide_eq_true c4
          clear c4
          by_cases c5 : 0 ≤ x5_1
          · rw [if_pos c5] at H
            have c5b0 : decide (0 ≤ x5_1) = true := decide_eq_true c5
            clear c5
            by_cases c6 : x5_1 < (l1.length : Int)
            · rw [if_pos c6] at H
              have c6b0 : decide (x5_1 < (l1.length : Int)) = true := decide_eq_true c6
              clear c6
              by_cases c7 : (!(((rd_T33 l0 x5_1).f0) == ((rd_T33 l1 x5_1).f0)) || (!(((rd_T33 l0 x5_1).f1) == ((rd_T33 l1 x5_1).f1)) || (!(((rd_T33 l0 x5_1).f2) == ((rd_T33 l1 x5_1).f2)) || (!((((rd_T33 l0 x5_1).f3).toList) == (((rd_T33 l1 x5_1).f3).toList)) || (!(((rd_T33 l0 x5_1).f4) == ((rd_T33 l1 x5_1).f4))))))) = true
              · rw [if_pos c7] at H
                have c7b0 : (!(((rd_T33 l0 x5_1).f0) == ((rd_T33 l1 x5_1).f0)) || (!(((rd_T33 l0 x5_1).f1) == ((rd_T33 l1 x5_1).f1)) || (!(((rd_T33 l0 x5_1).f2) == ((rd_T33 l1 x5_1).f2)) || (!((((rd_T33 l0 x5_1).f3).toList) == (((rd_T33 l1 x5_1).f3).toList)) || (!(((rd_T33 l0 x5_1).f4) == ((rd_T33 l1 x5_1).f4))))))) = true := c7
                clear c7
                obtain rfl := Option.some.inj H
                have p119 : 0 ≤ (x5_1 : Int) := of_decide_eq_true (by first | (with_reducible assumption) | assumption)
                have q119 : x5_1 < (l0.length : Int) := of_decide_eq_true (by first | (with_reducible assumption) | assumption)
                obtain ⟨ad119, e119, hx119_0, hx119_1, hx119_2, hx119_3, hx119_4⟩ := at_T33 HR0.out x5_1 p119 q119
                cases e119
                replace p119 := eq_true p119
                replace q119 := eq_true q119
                have p120 : 0 ≤ (x5_1 : Int) := of_decide_eq_true (by first | (with_reducible assumption) | assumption)
                have q120 : x5_1 < (l1.length : Int) := of_decide_eq_true (by first | (with_reducible assumption) | assumption)
                obtain ⟨ad120, e120, hx120_0, hx120_1, hx120_2, hx120_3, hx120_4⟩ := at_T33 HR1.out x5_1 p120 q120
                cases e120
                replace p120 := eq_true p120
                replace q120 := eq_true q120
                go_wp2
                repeat (go_quiet (fail); try go_wp2)
                go_ret
                exact ⟨by first | rfl | (simp; done) | (simp [*]; done), by repeat (first | exact Drawn0.refl _ | apply Drawn0.step)⟩
              · rw [if_neg c7] at H
                have c7b0 : (!(((rd_T33 l0 x5_1).f0) == ((rd_T33 l1 x5_1).f0)) || (!(((rd_T33 l0 x5_1).f1) == ((rd_T33 l1 x5_1).f1)) || (!(((rd_T33 l0 x5_1).f2) == ((rd_T33 l1 x5_1).f2)) || (!((((rd_T33 l0 x5_1).f3).toList) == (((rd_T33 l1 x5_1).f3).toList)) || (!(((rd_T33 l0 x5_1).f4) == ((rd_T33 l1 x5_1).f4))))))) = false := by simpa using c7
                clear c7
                have H' := Aside0.mk H
                clear H
                have p119 : 0 ≤ (x5_1 : Int) := of_decide_eq_true (by first | (with_reducible assumption) | assumption)
                have q119 : x5_1 < (l0.length : Int) := of_decide_eq_true (by first | (with_reducible assumption) | assumption)
                obtain ⟨ad119, e119, hx119_0, hx119_1, hx119_2, hx119_3, hx119_4⟩ := at_T33 HR0.out x5_1 p119 q119
                cases e119
                replace p119 := eq_true p119
                replace q119 := eq_true q119
                have p120 : 0 ≤ (x5_1 : Int) := of_decide_eq_true (by first | (with_reducible assumption) | assumption)
                have q120 : x5_1 < (l1.length : Int) := of_decide_eq_true (by first | (with_reducible assumption) | assumption)
                obtain ⟨ad120, e120, hx120_0, hx120_1, hx120_2, hx120_3, hx120_4⟩ := at_T33 HR1.out x5_1 p120 q120
                cases e120
                replace p120 := eq_true p120
                replace q120 := eq_true q120
                go_wp2
                repeat (go_quiet (fail); try go_wp2)
                go_roundg k1
                case measure => have := HK1.out; omega
                case rel => exact ⟨(wrap64 (x5_1 + 1)), (by first | rfl | (simp; done) | (simp [*]; done)), H', ⟨by have := HK1.out; omega⟩, by repeat (first | exact Drawn0.refl _ | apply Drawn0.step)⟩
            · rw [if_neg c6] at H
              exact absurd H (by simp)
          · rw [if_neg c5] at H
            exact absurd H (by simp)
        · rw [if_neg c4] at H
          have c4b0 : decide (x5_1 < (l0.length : Int)) = false := decide_eq_false c4
          clear c4
          obtain rfl := Option.some.inj H
          go_wp2
          repeat (go_quiet (fail); try go_wp2)
          go_ret
          exact ⟨by first | rfl | (simp; done) | (simp [*]; done), by repeat (first | exact Drawn0.refl _ | apply Drawn0.step)⟩
  · rw [if_neg c3] at H
    have c3b0 : ((l0.length : Int) == (l1.length : Int)) = false := beq_eq_false_iff_ne.mpr c3
    have c3b1 : ((l0.length : Int) != (l1.length : Int)) = true := bne_iff_ne.mpr c3
    have c3b2 : (l0.length == l1.length) = false := by first | simpa using c3 | (simp at c3 ⊢; omega)
    obtain rfl := Option.some.inj H
    go_enter Try.func22, Try.ntmps22
    go_wp2
    repeat (go_quiet (fail); try go_wp2)
    go_ret
    exact ⟨by first | rfl | (simp; done) | (simp [*]; done), by repeat (first | exact Drawn0.refl _ | apply Drawn0.step)⟩

end Go.Proofs.Ytbfhohpbldadbaa.P

namespace Go.Proofs.Ytbfhohpbldadbaa.P
open Go Go.RowKit Go.Proofs.YtbfhohpbldadbaaW.PrintWords Go.Proofs.YtbfhohpbldadbaaW.PrintLast Go.Proofs.YtbfhohpbldadbaaW.PrintMore
set_option linter.unusedVariables false
set_option linter.unusedSimpArgs false
theorem Ch.lim {nx : Int → Int} {now : Int} : ∀ {L : List Int} {cur : Int}, cur ≤ now → Ch nx now cur L → lastT cur L ≤ now
  | [], _, h, _ => h
  | y :: L, _, _, h => Ch.lim (L := L) h.2.1 h.2.2
end Go.Proofs.Ytbfhohpbldadbaa.P

namespace Go.Proofs.Ytbfhohpbldadbaa.P
open Go Go.RowKit Go.Proofs.YtbfhohpbldadbaaW.PrintWords Go.Proofs.YtbfhohpbldadbaaW.PrintLast Go.Proofs.YtbfhohpbldadbaaW.PrintMore
set_option linter.unusedVariables false
set_option linter.unusedSimpArgs false
theorem few_exit (l : List S33) (bs : List S110) (k : Nat) (i : Int) : ∃ b, crossbarref27_Few.j1 (k + 1) l i false bs = some b ∧ (b = true → l.length ≤ 40) := by
  unfold crossbarref27_Few.j1
  rw [if_neg (by decide)]
  by_cases h : (l.length : Int) ≤ 40
  · rw [if_pos h]
    exact ⟨_, rfl, fun _ => by omega⟩
  · rw [if_neg h]
    exact ⟨false, rfl, fun h => by cases h⟩
theorem few_l0 (l : List S33) (bs : List S110) : ∀ (n i k : Nat), i + n = 40 → 2 * n + 2 ≤ k → ∃ b, crossbarref27_Few.l0 k l (i : Int) bs = some b ∧ (b = true → l.length ≤ 40)
  | n, i, 0, hi, hk => by omega
  | n, i, 1, hi, hk => by omega
  | n, i, k + 2, hi, hk => by
    unfold crossbarref27_Few.l0
    by_cases hlt : (i : Int) < (l.length : Int)
    · rw [if_pos hlt]
      cases n with
      | zero =>
        rw [show decide ((i : Int) < 40) = false from by simp; omega]
        exact few_exit l bs k i
      | succ n =>
        rw [show decide ((i : Int) < 40) = true from by simp; omega]
        unfold crossbarref27_Few.j1
        rw [if_pos rfl, if_pos (by omega), if_pos hlt]
        split
        · exact ⟨false, rfl, fun h => by cases h⟩
        · rw [wr (by omega) (by omega), show ((i : Int) + 1) = ((i + 1 : Nat) : Int) from by omega]
          exact few_l0 l bs n (i + 1) k (by omega) (by omega)
    · rw [if_neg hlt]
      exact few_exit l bs k i
theorem few_ex (l : List S33) (bs : List S110) : ∃ b, (∀ k, 100 ≤ k → crossbarref27_Few.f k l bs = some b) ∧ (b = true → l.length ≤ 40) := by
  obtain ⟨b, hb, hl⟩ := few_l0 l bs 40 0 100 (by omega) (by omega)
  refine ⟨b, fun k hk => ?_, hl⟩
  obtain ⟨d, rfl⟩ : ∃ d, k = 100 + d := ⟨k - 100, by omega⟩
  have h : ∀ d, crossbarref27_Few.f (100 + d) l bs = some b := by
    intro d
    induction d with
    | zero => exact hb
    | succ d ih => exact crossbarref27_Few.mono l bs (100 + d) b ih
  exact h d
theorem same_l0 (l : List S33) (hl : l.length ≤ 1000000) : ∀ (d i k : Nat), i + d = l.length → d < k → crossbarref27_SameMeters.l0 k l l (i : Int) = some true
  | 0, i, k + 1, hi, hk => by
    unfold crossbarref27_SameMeters.l0
    rw [if_neg (by omega)]
  | d + 1, i, k + 1, hi, hk => by
    unfold crossbarref27_SameMeters.l0
    rw [if_pos (by omega), if_pos (by omega), if_pos (by omega), if_neg (by simp), wr (by omega) (by omega), show ((i : Int) + 1) = ((i + 1 : Nat) : Int) from by omega]
    exact same_l0 l hl d (i + 1) k (by omega) (by omega)
theorem same_self (l : List S33) (hl : l.length ≤ 1000000) {k : Nat} (hk : l.length < k) : crossbarref27_SameMeters.f k l l = some true := by
  unfold crossbarref27_SameMeters.f
  rw [if_pos rfl]
  exact same_l0 l hl l.length 0 k (by omega) hk
end Go.Proofs.Ytbfhohpbldadbaa.P

namespace Go.Proofs.Ytbfhohpbldadbaa.P
open Go Go.RowKit Go.Proofs.YtbfhohpbldadbaaW.PrintWords Go.Proofs.YtbfhohpbldadbaaW.PrintLast Go.Proofs.YtbfhohpbldadbaaW.PrintMore
set_option linter.unusedVariables false
set_option linter.unusedSimpArgs false
/-! ### How many cuts a day can bring -/
theorem nxL_rate {bs : List S110} (hc : chkB bs = 0) (rate : Int) : ∀ (s i : Nat) (day : Int), (hi : i < bs.length) → day % 86400 = 0 → 0 ≤ day → (∃ j, j < s ∧ (rd_T110 bs (((i + 1 + j) % bs.length : Nat) : Int)).f1 ≠ rate) → rtB bs (nxL bs rate s i day) ≠ rate
  | 0, i, day, hi, hd, hday, hw => by obtain ⟨j, hj, _⟩ := hw; omega
  | s + 1, i, day, hi, hd, hday, hw => by
    obtain ⟨g1, g2, g3, g4⟩ := good_of_chk hc
    obtain ⟨j, hj, hne⟩ := hw
    unfold nxL
    by_cases hwrap : i + 1 = bs.length
    · rw [if_pos hwrap]
      have e0 : rd_T110 bs 0 = bs[0]'(by omega) := rd_at (i := 0) (by omega)
      by_cases hr2 : (rd_T110 bs 0).f1 = rate
      · rw [if_pos hr2]
        refine nxL_rate hc rate s 0 (day + 86400) (by omega) (by omega) (by omega) ?_
        cases j with
        | zero => rw [Nat.add_zero, hwrap, Nat.mod_self] at hne; exact absurd hr2 hne
        | succ j => exact ⟨j, by omega, by rw [show i + 1 + (j + 1) = (0 + 1 + j) + bs.length from by omega, Nat.add_mod_right] at hne; exact hne⟩
      · rw [if_neg hr2, e0, rt_seg hc (i := 0) (day := day + 86400) (by omega) (by omega) (Int.le_refl _) (by rw [← e0, g3]; omega) (fun h => by have := good_sorted bs 0 g4 0 (0 + 1) h (by omega); omega), ← e0]
        exact hr2
    · rw [if_neg hwrap]
      have hi1 : i + 1 < bs.length := by omega
      have e1 : rd_T110 bs ((i + 1 : Nat) : Int) = bs[i + 1] := rd_at hi1
      have hb1 := good_at bs 0 g4 (i + 1) hi1
      by_cases hr2 : (rd_T110 bs ((i + 1 : Nat) : Int)).f1 = rate
      · rw [if_pos hr2]
        refine nxL_rate hc rate s (i + 1) day hi1 hd hday ?_
        cases j with
        | zero => rw [Nat.add_zero, Nat.mod_eq_of_lt (by omega)] at hne; exact absurd hr2 hne
        | succ j => exact ⟨j, by omega, by rw [show i + 1 + (j + 1) = i + 1 + 1 + j from by omega] at hne; exact hne⟩
      · rw [if_neg hr2, e1, rt_seg hc (i := i + 1) (day := day) hi1 hd (Int.le_refl _) (by omega) (fun h => by have := good_sorted bs 0 g4 (i + 1) (i + 1 + 1) h (by omega); omega), ← e1]
        exact hr2
theorem rt_next {bs : List S110} (hc : chkB bs = 0) (hf : flatB bs = false) {t : Int} (h0 : 0 ≤ t) : rtB bs (nxB bs t) ≠ rtB bs t := by
  obtain ⟨g1, g2, g3, g4⟩ := good_of_chk hc
  obtain ⟨s0, s1⟩ := sec_range t
  obtain ⟨b0, b1⟩ := band_range g1 g3 s0
  unfold nxB
  exact nxL_rate hc (rtB bs t) bs.length _ (t - secOf t) (by omega) (by unfold secOf; omega) (by unfold secOf; omega) (meets hf g1 _ _)
end Go.Proofs.Ytbfhohpbldadbaa.P

namespace Go.Proofs.Ytbfhohpbldadbaa.P
open Go Go.RowKit Go.Proofs.YtbfhohpbldadbaaW.PrintWords Go.Proofs.YtbfhohpbldadbaaW.PrintLast Go.Proofs.YtbfhohpbldadbaaW.PrintMore
set_option linter.unusedVariables false
set_option linter.unusedSimpArgs false
theorem check26_l0 (bs : List S110) (hl : bs.length ≤ 24) : ∀ (d i k : Nat) (least : Int), i + d = bs.length → 1 ≤ i → d < k → (∀ h : i - 1 < bs.length, least = (bs[i - 1]'h).f0 + 1) → 0 ≤ least → crossbarref26_Check.l0 k bs (bs.length : Int) (i : Int) bs = some (if goodFrom least (bs.drop i) = true then 0 else 260)
  | 0, i, k + 1, least, hi, h1, hk, _, _ => by
    unfold crossbarref26_Check.l0
    rw [if_neg (by omega), List.drop_of_length_le (by omega)]
    rfl
  | d + 1, i, k + 1, least, hi, h1, hk, hp, hm => by
    have hlt : i < bs.length := by omega
    have hlt1 : i - 1 < bs.length := by omega
    have hp1 := hp hlt1
    have ih := check26_l0 bs hl d (i + 1) k (bs[i].f0 + 1) (by omega) (by omega) (by omega) (fun h => by simp)
    have ew : wrap64 ((i : Int) - 1) = ((i - 1 : Nat) : Int) := by rw [wr (by omega) (by omega)]; omega
    unfold crossbarref26_Check.l0
    rw [if_pos (by omega), if_pos (by omega), if_pos (by omega), List.drop_eq_getElem_cons hlt, rd_at hlt, ew, rd_at hlt1, if_pos (show (i : Int) > 0 by omega), if_pos (show (0 : Int) ≤ ((i - 1 : Nat) : Int) by omega), if_pos (show ((i - 1 : Nat) : Int) < (bs.length : Int) by omega), inc (by omega)]
    simp only [goodFrom]
    by_cases c0 : bs[i].f0 < 0
    · rw [if_pos c0]; simp [show ¬ least ≤ bs[i].f0 by omega]
    · rw [if_neg c0]
      by_cases c1 : bs[i].f0 ≥ 86400
      · rw [if_pos c1]; simp [show ¬ bs[i].f0 ≤ 86399 by omega]
      · rw [if_neg c1]
        by_cases c2 : bs[i].f0 ≤ bs[i - 1].f0
        · rw [if_pos c2]; simp [show ¬ least ≤ bs[i].f0 by omega]
        · rw [if_neg c2]
          by_cases c3 : bs[i].f1 < 0
          · rw [if_pos c3]; simp [show ¬ 0 ≤ bs[i].f1 by omega]
          · rw [if_neg c3]
            by_cases c4 : bs[i].f1 > 1000000
            · rw [if_pos c4]; simp [show ¬ bs[i].f1 ≤ 1000000 by omega]
            · rw [if_neg c4, ih (by omega)]
              simp [show least ≤ bs[i].f0 by omega, show bs[i].f0 ≤ 86399 by omega, show 0 ≤ bs[i].f1 by omega, show bs[i].f1 ≤ 1000000 by omega]
theorem check26_eq (bs : List S110) {k : Nat} (hk : 30 ≤ k) : crossbarref26_Check.f k bs = some (chkB bs) := by
  obtain ⟨k, rfl⟩ : ∃ j, k = j + 2 := ⟨k - 2, by omega⟩
  unfold crossbarref26_Check.f chkB goodB
  have hj : crossbarref26_Check.j0 (k + 2) true bs = some 260 := by rw [crossbarref26_Check.j0, if_pos rfl]
  by_cases c0 : 1 ≤ bs.length
  · rw [if_neg (by omega)]
    by_cases c1 : bs.length ≤ 24
    · have hlt : 0 < bs.length := c0
      have e0 : rd_T110 bs 0 = bs[0] := rd_at (i := 0) hlt
      rw [if_neg (by omega), if_pos (by omega), e0]
      have hg : goodFrom 0 bs = (decide ((0 : Int) ≤ bs[0].f0) && decide (bs[0].f0 ≤ 86399) && decide ((0 : Int) ≤ bs[0].f1) && decide (bs[0].f1 ≤ 1000000) && goodFrom (bs[0].f0 + 1) (bs.drop 1)) := by
        cases bs with
        | nil => simp at hlt
        | cons b l => rfl
      rw [hg]
      by_cases z : bs[0].f0 = 0
      · have ih := check26_l0 bs c1 (bs.length - 1) 1 k (bs[0].f0 + 1) (by omega) (by omega) (by omega) (fun h => by simp) (by omega)
        rw [crossbarref26_Check.j0, if_neg (by simp [z]), crossbarref26_Check.l0]
        have w2 : wrap64 (0 + 1) = ((1 : Nat) : Int) := wr (by omega) (by omega)
        rw [if_pos (by omega), if_pos (by omega), if_pos (by omega), e0, if_neg (by omega), if_neg (by omega), if_neg (show ¬ ((0 : Int) > 0) by omega), w2, ih]
        by_cases c3 : bs[0].f1 < 0
        · rw [if_pos c3, decide_eq_false (show ¬ (0 : Int) ≤ bs[0].f1 by omega)]; simp
        · rw [if_neg c3]
          by_cases c4 : bs[0].f1 > 1000000
          · rw [if_pos c4, decide_eq_false (show ¬ bs[0].f1 ≤ 1000000 by omega)]; simp
          · rw [if_neg c4, decide_eq_true (show (0 : Int) ≤ bs[0].f1 by omega), decide_eq_true (show bs[0].f1 ≤ 1000000 by omega)]; simp [z, c0, c1]
      · have hz : (bs[0].f0 != 0) = true := by simpa using z
        rw [hz, hj]; simp [z]
    · rw [if_pos (by omega), hj]; simp [c1]
  · rw [if_pos (by omega), hj]; simp [c0]
theorem at26_l0 {bs : List S110} (hc : chkB bs = 0) {t : Int} (h0 : 0 ≤ t) : ∀ (d i k : Nat) (acc : Int), i + d = bs.length → d < k → (bandIdx bs (secOf t) < (i : Int) → acc = rtB bs t) → crossbarref26_At.l0 k t acc bs (bs.length : Int) (i : Int) = some (rtB bs t)
  | 0, i, k + 1, acc, hi, hk, ha => by
    obtain ⟨g1, g2, g3, g4⟩ := good_of_chk hc
    obtain ⟨b0, b1⟩ := band_range g1 g3 (sec_range t).1
    unfold crossbarref26_At.l0
    rw [if_neg (by omega), ha (by omega)]
  | d + 1, i, k + 1, acc, hi, hk, ha => by
    obtain ⟨g1, g2, g3, g4⟩ := good_of_chk hc
    obtain ⟨b0, b1⟩ := band_range g1 g3 (sec_range t).1
    have hlt : i < bs.length := by omega
    unfold crossbarref26_At.l0
    rw [if_pos (by omega), if_pos (by omega), if_pos (by omega), rd_at hlt, tmod_sec h0, inc (by omega)]
    obtain ⟨q, hq⟩ : ∃ q : Nat, bandIdx bs (secOf t) = (q : Int) := ⟨(bandIdx bs (secOf t)).toNat, by omega⟩
    have hqlt : q < bs.length := by omega
    have hst := band_start hqlt hq
    by_cases c : bs[i].f0 ≤ secOf t
    · rw [if_pos c]
      have hiq : i ≤ q := by
        rcases Nat.lt_or_ge q i with h | h
        · have := band_later g4 (s := secOf t) i hlt (by omega); omega
        · exact h
      refine at26_l0 hc h0 d (i + 1) k _ (by omega) (by omega) (fun h => ?_)
      have : i = q := by omega
      subst this
      unfold rtB
      rw [hq, rd_at hqlt]
    · rw [if_neg c]
      refine at26_l0 hc h0 d (i + 1) k _ (by omega) (by omega) (fun h => ha ?_)
      rcases Nat.lt_or_ge q i with h1 | h1
      · omega
      · exfalso
        rcases Nat.lt_or_eq_of_le h1 with h2 | h2
        · have := good_sorted bs 0 g4 i q hqlt h2; omega
        · subst h2; exact c hst
theorem at26_eq {bs : List S110} (hc : chkB bs = 0) {k : Nat} (hk : 26 ≤ k) {t : Int} (h0 : 0 ≤ t) : crossbarref26_At.f k bs t = some (rtB bs t) := by
  obtain ⟨g1, g2, g3, g4⟩ := good_of_chk hc
  obtain ⟨b0, b1⟩ := band_range g1 g3 (sec_range t).1
  unfold crossbarref26_At.f
  exact at26_l0 hc h0 bs.length 0 k 0 (by omega) (by omega) (fun h => by omega)
theorem record27_eq {bs : List S110} (hc : chkB bs = 0) {k : Nat} (hk : 26 ≤ k) (m : S33) (h0 : 0 ≤ m.f4) (v : Int) : crossbarref27_record.f k bs m.f0 m.f1 m.f2 m.f3 m.f4 v = some (m.f0, m.f1, m.f2, m.f3, m.f4, v, rtB bs m.f4, wrap64 (rtB bs m.f4 * wrap64 (v - m.f4))) := by
  unfold crossbarref27_record.f
  rw [at26_eq hc hk h0]
  rfl
theorem time26_eq (a : Int) : crossbarref26_time.f a = some (!oddT a) := time27_eq a
/-! ### The next change -/
def chgV (bs : List S110) (t : Int) : Int × Bool × Int := if flatB bs = true then (0, false, 0) else (nxB bs t, true, 0)
def bndB (bs : List S110) (i : Nat) : Int := if i < bs.length then (rd_T110 bs (i : Int)).f0 else 86400
def QQ (bs : List S110) (t D : Int) (day i : Nat) : Prop := ∀ u, t ≤ u → u < D + day * 86400 + bndB bs i → rtB bs u = rtB bs t
theorem bnd_at {bs : List S110} {i : Nat} (h : i < bs.length) : bndB bs i = bs[i].f0 := by
  unfold bndB; rw [if_pos h, rd_at h]
theorem rt_seg' {bs : List S110} (hc : chkB bs = 0) {D u : Int} {day i : Nat} (hi : i < bs.length) (hd : D % 86400 = 0) (h0 : D + day * 86400 + bs[i].f0 ≤ u) (h2 : u < D + day * 86400 + bndB bs (i + 1)) : rtB bs u = bs[i].f1 := by
  obtain ⟨g1, g2, g3, g4⟩ := good_of_chk hc
  refine rt_seg hc (day := D + day * 86400) hi (by omega) h0 ?_ (fun h => by rw [bnd_at h] at h2; exact h2)
  by_cases h : i + 1 < bs.length
  · rw [bnd_at h] at h2; have := good_at bs 0 g4 (i + 1) h; omega
  · unfold bndB at h2; rw [if_neg h] at h2; exact h2
theorem bnd_up {bs : List S110} (hc : chkB bs = 0) {i : Nat} (hi : i < bs.length) : bs[i].f0 < bndB bs (i + 1) := by
  obtain ⟨g1, g2, g3, g4⟩ := good_of_chk hc
  by_cases h : i + 1 < bs.length
  · rw [bnd_at h]; exact good_sorted bs 0 g4 i (i + 1) h (by omega)
  · unfold bndB; rw [if_neg h]; have := good_at bs 0 g4 i hi; omega
theorem chg_here {bs : List S110} (hc : chkB bs = 0) {t v : Int} (h0 : 0 ≤ t) (hb : t ≤ 1099511627776) (hv : t < v) (hne : rtB bs v ≠ rtB bs t) (hq : ∀ u, t ≤ u → u < v → rtB bs u = rtB bs t) : chgV bs t = (v, true, 0) := by
  have hf : flatB bs = false := by
    cases hf : flatB bs
    · rfl
    · exact absurd (rt_flat hc hf t v) hne
  have h1 := rt_next hc hf h0
  have h3 := (change_eq hc hf (k := 26) (Nat.le_refl _) h0 hb).2
  have e : nxB bs t = v := by
    rcases Int.lt_or_le v (nxB bs t) with h | h
    · exact absurd (rt_const hc hf h0 (Int.le_of_lt hv) h) hne
    · rcases Int.lt_or_le (nxB bs t) v with h2 | h2
      · exact absurd (hq _ (Int.le_of_lt h3) h2) h1
      · omega
  unfold chgV
  rw [hf, e]
  rfl
theorem chg_l1 {bs : List S110} (hc : chkB bs = 0) {t D : Int} (h0 : 0 ≤ t) (hb : t ≤ 1099511627776) (hD : D % 86400 = 0) (hD0 : 0 ≤ D) (hDt : D ≤ t) {day : Nat} (hday : day < 2)
    (hnext : ∀ k, (2 - (day + 1)) * 30 + 60 < k → QQ bs t D (day + 1) 0 → crossbarref26_Change.l0 k t D ((day + 1 : Nat) : Int) bs = some (chgV bs t)) :
    ∀ (d i k : Nat), i + d = bs.length → (2 - day) * 30 + d + 31 < k → QQ bs t D day i → crossbarref26_Change.l1 k t D (day : Int) (day : Int) bs (bs.length : Int) (i : Int) bs = some (chgV bs t)
  | 0, i, k + 1, hi, hk, hq => by
    unfold crossbarref26_Change.l1
    rw [if_neg (by omega), inc (by omega)]
    refine hnext k (by omega) (fun u h1 h2 => hq u h1 ?_)
    obtain ⟨g1, g2, g3, g4⟩ := good_of_chk hc
    have e0 : bndB bs 0 = 0 := by unfold bndB; rw [if_pos (by omega)]; exact g3
    have e1 : bndB bs i = 86400 := by unfold bndB; rw [if_neg (by omega)]
    rw [e0] at h2
    rw [e1]
    omega
  | d + 1, i, k + 1, hi, hk, hq => by
    have hlt : i < bs.length := by omega
    obtain ⟨g1, g2, g3, g4⟩ := good_of_chk hc
    have hbd := good_at bs 0 g4 i hlt
    have hup := bnd_up hc hlt
    have w1 : wrap64 ((day : Int) * 86400) = (day : Int) * 86400 := wr (by omega) (by omega)
    have w2 : wrap64 (D + (day : Int) * 86400) = D + (day : Int) * 86400 := wr (by omega) (by omega)
    have w3 : wrap64 (D + (day : Int) * 86400 + bs[i].f0) = D + (day : Int) * 86400 + bs[i].f0 := wr (by omega) (by omega)
    unfold crossbarref26_Change.l1
    rw [if_pos (by omega), if_pos (by omega), if_pos (by omega), rd_at hlt, w1, w2, w3, inc (by omega)]
    have hrate : ∀ u, D + day * 86400 + bs[i].f0 ≤ u → u < D + day * 86400 + bndB bs (i + 1) → rtB bs u = bs[i].f1 := fun u h1 h2 => rt_seg' hc hlt hD h1 h2
    by_cases c : D + (day : Int) * 86400 + bs[i].f0 > t
    · rw [if_pos c, at26_eq hc (by omega) h0, Option.bind_some]
      by_cases c2 : bs[i].f1 = rtB bs t
      · rw [if_pos c2]
        refine chg_l1 hc h0 hb hD hD0 hDt hday hnext d (i + 1) k (by omega) (by omega) (fun u h1 h2 => ?_)
        by_cases hu : u < D + day * 86400 + bs[i].f0
        · exact hq u h1 (by rw [bnd_at hlt]; exact hu)
        · rw [hrate u (by omega) h2, c2]
      · rw [if_neg c2]
        rw [chg_here hc h0 hb (v := D + day * 86400 + bs[i].f0) (by omega) (by rw [hrate _ (Int.le_refl _) (by omega)]; exact c2) (fun u h1 h2 => hq u h1 (by rw [bnd_at hlt]; exact h2))]
    · rw [if_neg c]
      refine chg_l1 hc h0 hb hD hD0 hDt hday hnext d (i + 1) k (by omega) (by omega) (fun u h1 h2 => ?_)
      rw [hrate u (by omega) h2, hrate t (by omega) (by omega)]
theorem chg_end {bs : List S110} (hc : chkB bs = 0) {t D : Int} (h0 : 0 ≤ t) (hb : t ≤ 1099511627776) (hD : D % 86400 = 0) (hD0 : 0 ≤ D) (hDt : D ≤ t) (hDu : t < D + 86400) (k : Nat) (hk : 0 < k) (hq : QQ bs t D 2 0) : crossbarref26_Change.l0 k t D ((2 : Nat) : Int) bs = some (chgV bs t) := by
  obtain ⟨k, rfl⟩ : ∃ j, k = j + 1 := ⟨k - 1, by omega⟩
  rw [crossbarref26_Change.l0, if_neg (by omega)]
  obtain ⟨g1, g2, g3, g4⟩ := good_of_chk hc
  have e0 : bndB bs 0 = 0 := by unfold bndB; rw [if_pos (by omega)]; exact g3
  have hall : ∀ j (hj : j < bs.length), bs[j].f1 = rtB bs t := fun j hj => by
    have hbd := good_at bs 0 g4 j hj
    have hup := bnd_up hc hj
    rw [← rt_seg' hc (D := D) (day := 1) (u := D + 86400 + bs[j].f0) hj hD (by omega) (by omega)]
    exact hq _ (by omega) (by rw [e0]; omega)
  have hf : flatB bs = true := by
    unfold flatB
    simp only [Bool.not_eq_true', List.any_eq_false]
    intro b hm
    obtain ⟨j, hj, rfl⟩ := List.mem_iff_getElem.1 hm
    have e : rd_T110 bs 0 = bs[0]'(by omega) := rd_at (i := 0) (by omega)
    simp [rateNe, e, hall j hj, hall 0 (by omega)]
  unfold chgV
  rw [if_pos hf]
theorem chg_step {bs : List S110} (hc : chkB bs = 0) {t D : Int} (h0 : 0 ≤ t) (hb : t ≤ 1099511627776) (hD : D % 86400 = 0) (hD0 : 0 ≤ D) (hDt : D ≤ t) (day : Nat) (hday : day < 2)
    (hnext : ∀ k, (2 - (day + 1)) * 30 + 60 < k → QQ bs t D (day + 1) 0 → crossbarref26_Change.l0 k t D ((day + 1 : Nat) : Int) bs = some (chgV bs t)) (k : Nat) (hk : (2 - day) * 30 + 60 < k) (hq : QQ bs t D day 0) : crossbarref26_Change.l0 k t D (day : Int) bs = some (chgV bs t) := by
  obtain ⟨k, rfl⟩ : ∃ j, k = j + 1 := ⟨k - 1, by omega⟩
  obtain ⟨g1, g2, g3, g4⟩ := good_of_chk hc
  rw [crossbarref26_Change.l0, if_pos (by omega)]
  exact chg_l1 hc h0 hb hD hD0 hDt hday hnext bs.length 0 k (by omega) (by omega) hq
theorem change26_eq {bs : List S110} (hc : chkB bs = 0) {k : Nat} (hk : 130 ≤ k) {t : Int} (h0 : 0 ≤ t) (hb : t ≤ 1099511627776) : crossbarref26_Change.f k bs t = some (chgV bs t) := by
  obtain ⟨g1, g2, g3, g4⟩ := good_of_chk hc
  have e0 : bndB bs 0 = 0 := by unfold bndB; rw [if_pos (by omega)]; exact g3
  have ho : oddT t = false := by simp [oddT]; omega
  have hs := sec_range t
  have hw : wrap64 (t - secOf t) = t - secOf t := wr (by omega) (by omega)
  unfold crossbarref26_Change.f
  rw [check26_eq bs (by omega), hc, Option.bind_some, if_pos rfl, time26_eq, ho, Option.bind_some, Bool.not_false, if_pos rfl, tmod_sec h0, hw]
  have q1 : (t - secOf t) % 86400 = 0 := by unfold secOf; omega
  have q2 : 0 ≤ t - secOf t := by unfold secOf; omega
  have q3 : t - secOf t ≤ t := by omega
  have q4 : t < t - secOf t + 86400 := by omega
  exact chg_step hc h0 hb q1 q2 q3 0 (by decide) (fun k hk hq => chg_step hc h0 hb q1 q2 q3 1 (by decide) (fun k hk hq => chg_end hc h0 hb q1 q2 q3 q4 k (by omega) hq) k hk hq) k (by omega) (fun u h1 h2 => by rw [e0] at h2; exfalso; simp only [Int.ofNat_zero, Int.natCast_zero, Int.zero_mul] at h2; omega)
/-! ### Advancing one meter -/
theorem chgs_fuel {bs : List S110} (hc : chkB bs = 0) (hf : flatB bs = false) {now : Int} (hn : now ≤ 1099511627776) : ∀ (n m : Nat) (cur : Int), 0 ≤ cur → cur ≤ 1099511627776 → (now - cur).toNat ≤ n → (now - cur).toNat ≤ m → chgs (nxB bs) now n cur = chgs (nxB bs) now m cur
  | 0, 0, _, _, _, _, _ => rfl
  | 0, m + 1, cur, h0, h1, hn', hm => by
    have hup := (change_eq hc hf (k := 26) (Nat.le_refl _) h0 h1).2
    unfold chgs
    rw [if_neg (by omega)]
  | n + 1, 0, cur, h0, h1, hn', hm => by
    have hup := (change_eq hc hf (k := 26) (Nat.le_refl _) h0 h1).2
    conv => lhs; unfold chgs
    rw [if_neg (by omega)]
    rfl
  | n + 1, m + 1, cur, h0, h1, hn', hm => by
    have hup := (change_eq hc hf (k := 26) (Nat.le_refl _) h0 h1).2
    unfold chgs
    by_cases h : nxB bs cur ≤ now
    · rw [if_pos h, if_pos h, chgs_fuel hc hf hn n m (nxB bs cur) (by omega) (by omega) (by omega) (by omega)]
    · rw [if_neg h, if_neg h]
theorem cuts_next {bs : List S110} (hc : chkB bs = 0) (hf : flatB bs = false) {now cur : Int} (hn : now ≤ 1099511627776) (h0 : 0 ≤ cur) (h1 : cur ≤ 1099511627776) : cutsOf bs (nxB bs) now cur = if nxB bs cur ≤ now then nxB bs cur :: cutsOf bs (nxB bs) now (nxB bs cur) else [] := by
  have hup := (change_eq hc hf (k := 26) (Nat.le_refl _) h0 h1).2
  unfold cutsOf
  rw [hf]
  simp only [Bool.false_eq_true, if_false]
  by_cases h : nxB bs cur ≤ now
  · rw [if_pos h, chgs_fuel hc hf hn (now - cur).toNat ((now - cur).toNat - 1 + 1) cur h0 h1 (Nat.le_refl _) (by omega)]
    unfold chgs
    rw [if_pos h, chgs_fuel hc hf hn ((now - cur).toNat - 1) (now - nxB bs cur).toNat (nxB bs cur) (by omega) (by omega) (by omega) (Nat.le_refl _)]
    cases (now - nxB bs cur).toNat <;> rfl
  · rw [if_neg h]
    cases hh : (now - cur).toNat with
    | zero => rfl
    | succ n => unfold chgs; rw [if_neg h]
def tupA (p : S33 × List S39) : Int × Int × Int × ByteArray × Int × List S39 := (p.1.f0, p.1.f1, p.1.f2, p.1.f3, p.1.f4, p.2)
theorem advanced_l0 {bs : List S110} (hc : chkB bs = 0) {now : Int} (hn : now ≤ 1099511627776) : ∀ (d k : Nat) (m : S33) (rs : List S39), 1025 - rs.length ≤ d → rs.length ≤ 1000000 → d + 300 < k → 0 ≤ m.f4 → m.f4 ≤ 1099511627776 → crossbarref27_advanced.l0 k now rs bs m.f0 m.f1 m.f2 m.f3 m.f4 = some (tupA (advM bs (nxB bs) (rtB bs) now m rs))
  | 0, k + 1, m, rs, hd, hr, hk, h0, h1 => by
    unfold crossbarref27_advanced.l0 advM
    rw [if_neg (by omega), show 1025 - rs.length = 0 by omega, List.take_zero]
    rfl
  | d + 1, k + 1, m, rs, hd, hr, hk, h0, h1 => by
    unfold crossbarref27_advanced.l0 advM
    by_cases c : rs.length ≤ 1024
    · rw [if_pos (by omega), change26_eq hc (by omega) h0 h1, Option.bind_some]
      unfold chgV
      cases hf : flatB bs
      · have hup := (change_eq hc hf (k := 26) (Nat.le_refl _) h0 h1).2
        rw [cuts_next hc hf hn h0 h1]
        simp only [Bool.false_eq_true, if_false, if_true]
        by_cases hv : nxB bs m.f4 ≤ now
        · rw [if_pos hv, if_neg (by omega), record27_eq hc (by omega) m h0, Option.bind_some, if_pos (by omega), show 1025 - rs.length = (1025 - (rs.length + 1)) + 1 by omega, List.take_succ_cons]
          have ih := advanced_l0 hc hn d k ⟨m.f0, m.f1, m.f2, m.f3, nxB bs m.f4⟩ (rs ++ [recOf m (nxB bs m.f4) (rtB bs m.f4)]) (by rw [List.length_append, List.length_singleton]; omega) (by rw [List.length_append, List.length_singleton]; omega) (by omega) (by show 0 ≤ nxB bs m.f4; omega) (by show nxB bs m.f4 ≤ _; omega)
          refine Eq.trans ih ?_
          unfold advM
          rw [List.length_append, List.length_singleton]
          rfl
        · rw [if_neg hv, if_pos (by omega), List.take_nil]
          rfl
      · rw [cuts_flat hf]
        simp only [if_true, Bool.false_eq_true, if_false]
        rw [List.take_nil]
        rfl
    · rw [if_neg (by omega), show 1025 - rs.length = 0 by omega, List.take_zero]
      rfl
theorem advanced27_eq {bs : List S110} (hc : chkB bs = 0) {now : Int} (hn : now ≤ 1099511627776) {k : Nat} (hk : 1400 ≤ k) (m : S33) (rs : List S39) (hr : rs.length ≤ 1000000) (h0 : 0 ≤ m.f4) (h1 : m.f4 ≤ 1099511627776) : crossbarref27_advanced.f k bs m.f0 m.f1 m.f2 m.f3 m.f4 now rs = some (tupA (advM bs (nxB bs) (rtB bs) now m rs)) := by
  unfold crossbarref27_advanced.f
  exact advanced_l0 hc hn 1025 k m rs (by omega) hr (by omega) h0 h1
/-! ### Advance -/
theorem adv27_l1 {bs : List S110} (hc : chkB bs = 0) {now : Int} (hn : now ≤ 1099511627776) (l : List S33) (hl : l.length ≤ 1000) (hm : ∀ m ∈ l, 0 ≤ m.f4 ∧ m.f4 ≤ 1099511627776) : ∀ (d i k : Nat) (ms : List S33) (rs : List S39), i + d = l.length → d + 1500 < k → ms.length ≤ i → rs.length ≤ 1025 →
    crossbarref27_Advance.l1 k l now ms rs (i : Int) bs = some (if 1024 < ((l.drop i).foldl (advStep bs (nxB bs) (rtB bs) now) (ms, rs)).2.length then ([], [], 2) else (((l.drop i).foldl (advStep bs (nxB bs) (rtB bs) now) (ms, rs)).1, ((l.drop i).foldl (advStep bs (nxB bs) (rtB bs) now) (ms, rs)).2, 0))
  | 0, i, k + 1, ms, rs, hi, hk, hms, hrs => by
    unfold crossbarref27_Advance.l1
    rw [if_neg (by omega), List.drop_of_length_le (by omega)]
    simp only [List.foldl_nil]
    by_cases c : 1024 < rs.length
    · rw [if_pos (by omega)]; simp [c]
    · rw [if_neg (by omega)]; simp [c]
  | d + 1, i, k + 1, ms, rs, hi, hk, hms, hrs => by
    have hlt : i < l.length := by omega
    have hm1 := hm l[i] (List.getElem_mem hlt)
    unfold crossbarref27_Advance.l1
    rw [if_pos (by omega), if_pos (by omega), at33 hlt, advanced27_eq hc hn (by omega) l[i] rs (by omega) hm1.1 hm1.2, Option.bind_some, inc (by omega), if_pos (by omega), List.drop_eq_getElem_cons hlt, List.foldl_cons]
    have hmost := advM_most bs (nxB bs) (rtB bs) now l[i] rs hrs
    exact adv27_l1 hc hn l hl hm d (i + 1) k _ _ (by omega) (by omega) (by rw [List.length_append, List.length_singleton]; omega) hmost
theorem adv27_l0 (bs : List S110) (l : List S33) (hl : l.length ≤ 1000) (now : Int) (X : Option (List S33 × List S39 × Int)) (hX : ∀ k, 3000 ≤ k → crossbarref27_Advance.l1 k l now [] [] 0 bs = X ∨ chkB bs ≠ 0) : ∀ (d i k : Nat), i + d = l.length → d + 3100 < k →
    crossbarref27_Advance.l0 k l now (i : Int) bs = if (l.drop i).any (lateP (fun _ => true) now) = true then some ([], [], 1) else if chkB bs = 0 then X else some ([], [], chkB bs)
  | 0, i, k + 1, hi, hk => by
    unfold crossbarref27_Advance.l0
    rw [if_neg (by omega), List.drop_of_length_le (by omega), check26_eq bs (by omega), Option.bind_some]
    simp only [List.any_nil, Bool.false_eq_true, if_false]
    by_cases c : chkB bs = 0
    · rw [if_pos c, if_pos c]
      rcases hX k (by omega) with h | h
      · exact h
      · exact absurd c h
    · rw [if_neg c, if_neg c]
  | d + 1, i, k + 1, hi, hk => by
    have hlt : i < l.length := by omega
    have ih := adv27_l0 bs l hl now X hX d (i + 1) k (by omega) (by omega)
    unfold crossbarref27_Advance.l0
    rw [if_pos (by omega), if_pos (by omega), at33 hlt, inc (by omega), ih, List.drop_eq_getElem_cons hlt, List.any_cons]
    by_cases c : l[i].f4 > now
    · rw [if_pos c]; simp [lateP, c]
    · rw [if_neg c]
      have : lateP (fun _ => true) now l[i] = false := by simp [lateP]; omega
      rw [this, Bool.false_or]
theorem advance27_eq (l : List S33) (hl : l.length ≤ 1000) (bs : List S110) (now : Int) {k : Nat} (hk : 6000 ≤ k) : crossbarref27_Advance.f k l bs now = some (advanceF l bs (nxB bs) (rtB bs) now (chkB bs)) := by
  obtain ⟨k, rfl⟩ : ∃ j, k = j + 1 := ⟨k - 1, by omega⟩
  unfold crossbarref27_Advance.f advanceF beginF
  rw [valid27_eq l hl (by omega), Option.bind_some]
  have hj : crossbarref27_Advance.j0 (k + 1) l now true bs = some ([], [], 1) := by rw [crossbarref27_Advance.j0, if_pos rfl]
  cases hv : validB l
  · rw [if_neg (by simp), hj]; simp
  · rw [if_pos rfl, time27_eq, Option.bind_some]
    cases ho : oddT now
    · have hn : now ≤ 1099511627776 := by simp [oddT] at ho; omega
      have hm : ∀ m ∈ l, 0 ≤ m.f4 ∧ m.f4 ≤ 1099511627776 := fun m hm => time_of_ok (ok_of_valid l [] hv m hm)
      have h00 := adv27_l0 bs l hl now (some (if 1024 < (advFold bs (nxB bs) (rtB bs) now l).2.length then ([], [], 2) else ((advFold bs (nxB bs) (rtB bs) now l).1, (advFold bs (nxB bs) (rtB bs) now l).2, 0))) (fun k hk => by
        by_cases c : chkB bs = 0
        · left
          have h := adv27_l1 c hn l hl hm l.length 0 k [] [] (by omega) (by omega) (by simp) (by simp)
          rw [List.drop_zero] at h
          exact h
        · exact Or.inr c) l.length 0 k (by omega) (by omega)
      rw [List.drop_zero] at h00
      rw [crossbarref27_Advance.j0, if_neg (by simp)]
      refine Eq.trans h00 ?_
      cases l.any (lateP (fun _ => true) now)
      · simp only [Bool.false_eq_true, if_false, Bool.not_false, Bool.and_true, Bool.true_and, if_true]
        by_cases c : chkB bs = 0
        · rw [if_pos c, if_pos c]
        · rw [if_neg c, if_neg c]
      · simp
    · show crossbarref27_Advance.j0 (k + 1) l now true bs = _
      rw [hj]; simp
/-! ### Stop -/
theorem stop27_l1 {bs : List S110} (hc : chkB bs = 0) {ref now : Int} (hn : now ≤ 1099511627776) (l : List S33) (hl : l.length ≤ 1000) (hm : ∀ m ∈ l, 0 ≤ m.f4 ∧ m.f4 ≤ 1099511627776) : ∀ (d i k : Nat) (ms : List S33) (rs : List S39), i + d = l.length → d + 1500 < k → ms.length ≤ i → rs.length ≤ 1025 + i →
    crossbarref27_Stop.l1 k l ref now ms rs (i : Int) bs = some (if 1024 < ((l.drop i).foldl (stopStep bs (nxB bs) (rtB bs) ref now) (ms, rs)).2.length then ([], [], 2) else (((l.drop i).foldl (stopStep bs (nxB bs) (rtB bs) ref now) (ms, rs)).1, ((l.drop i).foldl (stopStep bs (nxB bs) (rtB bs) ref now) (ms, rs)).2, 0))
  | 0, i, k + 1, ms, rs, hi, hk, hms, hrs => by
    unfold crossbarref27_Stop.l1
    rw [if_neg (by omega), List.drop_of_length_le (by omega)]
    simp only [List.foldl_nil]
    by_cases c : 1024 < rs.length
    · rw [if_pos (by omega)]; simp [c]
    · rw [if_neg (by omega)]; simp [c]
  | d + 1, i, k + 1, ms, rs, hi, hk, hms, hrs => by
    have hlt : i < l.length := by omega
    have hm1 := hm l[i] (List.getElem_mem hlt)
    unfold crossbarref27_Stop.l1
    rw [if_pos (by omega), if_pos (by omega), at33 hlt, inc (by omega), List.drop_eq_getElem_cons hlt, List.foldl_cons]
    by_cases cr : l[i].f0 = ref
    · have hir : isRef ref l[i] = true := by simp [isRef, cr]
      have hlen : (advM bs (nxB bs) (rtB bs) now l[i] rs).2.length ≤ 1025 + i := by
        unfold advM; rw [cutAll_len, List.length_take]; omega
      have hrg := cuts_range hc hn hm1.1 hm1.2
      have h4 : 0 ≤ (advM bs (nxB bs) (rtB bs) now l[i] rs).1.f4 ∧ (advM bs (nxB bs) (rtB bs) now l[i] rs).1.f4 ≤ 1099511627776 :=
        cutAll_range _ _ _ (fun y hy => hrg y (List.mem_of_mem_take hy)) hm1.1 hm1.2
      have hst : stopStep bs (nxB bs) (rtB bs) ref now (ms, rs) l[i] = (ms, if (advM bs (nxB bs) (rtB bs) now l[i] rs).1.f4 < now then (advM bs (nxB bs) (rtB bs) now l[i] rs).2 ++ [recOf (advM bs (nxB bs) (rtB bs) now l[i] rs).1 now (rtB bs (advM bs (nxB bs) (rtB bs) now l[i] rs).1.f4)] else (advM bs (nxB bs) (rtB bs) now l[i] rs).2) := by
        unfold stopStep; rw [if_pos hir]
      rw [if_pos cr, advanced27_eq hc hn (by omega) l[i] rs (by omega) hm1.1 hm1.2, Option.bind_some, hst]
      generalize advM bs (nxB bs) (rtB bs) now l[i] rs = q at hlen h4
      unfold tupA
      simp only
      by_cases c4 : q.1.f4 < now
      · rw [if_pos c4, if_pos c4, record27_eq hc (by omega) q.1 h4.1, Option.bind_some, if_pos (by omega)]
        exact stop27_l1 hc hn l hl hm d (i + 1) k _ _ (by omega) (by omega) (by omega) (by rw [List.length_append, List.length_singleton]; omega)
      · rw [if_neg c4, if_neg c4]
        exact stop27_l1 hc hn l hl hm d (i + 1) k _ _ (by omega) (by omega) (by omega) (by omega)
    · have hir : isRef ref l[i] = false := by simp [isRef, cr]
      have hst : stopStep bs (nxB bs) (rtB bs) ref now (ms, rs) l[i] = (ms ++ [l[i]], rs) := by
        unfold stopStep; rw [if_neg (by simp [hir])]
      rw [if_neg cr, if_pos (by omega), hst]
      exact stop27_l1 hc hn l hl hm d (i + 1) k _ _ (by omega) (by omega) (by rw [List.length_append, List.length_singleton]; omega) (by omega)
theorem stop27_l0 (bs : List S110) (l : List S33) (hl : l.length ≤ 1000) (ref now : Int) (X : Option (List S33 × List S39 × Int)) (hX : ∀ k, 3000 ≤ k → crossbarref27_Stop.l1 k l ref now [] [] 0 bs = X ∨ chkB bs ≠ 0) : ∀ (d i k n : Nat), i + d = l.length → d + 3100 < k → n ≤ i →
    crossbarref27_Stop.l0 k l ref now (n : Int) (i : Int) bs = if (l.drop i).any (lateP (isRef ref) now) = true then some ([], [], 1) else if chkB bs = 0 then (if (decide (0 < n) || (l.drop i).any (isRef ref)) = true then X else some ([], [], 270)) else some ([], [], chkB bs)
  | 0, i, k + 1, n, hi, hk, hn => by
    unfold crossbarref27_Stop.l0
    rw [if_neg (by omega), List.drop_of_length_le (by omega), check26_eq bs (by omega), Option.bind_some]
    simp only [List.any_nil, Bool.false_eq_true, if_false, Bool.or_false, decide_eq_true_eq]
    by_cases c : chkB bs = 0
    · rw [if_pos c, if_pos c]
      by_cases c2 : 0 < n
      · rw [if_pos c2, if_neg (by omega)]
        rcases hX k (by omega) with h | h
        · exact h
        · exact absurd c h
      · rw [if_neg c2, if_pos (by omega)]
    · rw [if_neg c, if_neg c]
  | d + 1, i, k + 1, n, hi, hk, hn => by
    have hlt : i < l.length := by omega
    unfold crossbarref27_Stop.l0
    rw [if_pos (by omega), if_pos (by omega), at33 hlt, inc (by omega), inc (by omega), List.drop_eq_getElem_cons hlt, List.any_cons, List.any_cons]
    by_cases cr : l[i].f0 = ref
    · have hir : isRef ref l[i] = true := by simp [isRef, cr]
      rw [if_pos cr]
      by_cases c : l[i].f4 > now
      · rw [if_pos c]; simp [lateP, c, hir]
      · have hlp : lateP (isRef ref) now l[i] = false := by simp [lateP, hir]; omega
        rw [if_neg c, stop27_l0 bs l hl ref now X hX d (i + 1) k (n + 1) (by omega) (by omega) (by omega), hlp, hir, Bool.false_or, Bool.true_or, Bool.or_true, decide_eq_true (show 0 < n + 1 by omega), Bool.true_or]
    · have hir : isRef ref l[i] = false := by simp [isRef, cr]
      have hlp : lateP (isRef ref) now l[i] = false := by simp [lateP, hir]
      rw [if_neg cr, stop27_l0 bs l hl ref now X hX d (i + 1) k n (by omega) (by omega) (by omega), hlp, hir, Bool.false_or, Bool.false_or]
theorem stop27_eq (l : List S33) (hl : l.length ≤ 1000) (bs : List S110) (ref now : Int) {k : Nat} (hk : 6000 ≤ k) : crossbarref27_Stop.f k l bs ref now = some (stopF l bs (nxB bs) (rtB bs) ref now (chkB bs)) := by
  obtain ⟨k, rfl⟩ : ∃ j, k = j + 1 := ⟨k - 1, by omega⟩
  unfold crossbarref27_Stop.f stopF beginF
  rw [valid27_eq l hl (by omega), Option.bind_some]
  have hj : crossbarref27_Stop.j0 (k + 1) l ref now true bs = some ([], [], 1) := by rw [crossbarref27_Stop.j0, if_pos rfl]
  cases hv : validB l
  · rw [if_neg (by simp), hj]; simp
  · rw [if_pos rfl, time27_eq, Option.bind_some]
    cases hr : oddT ref
    · rw [Bool.not_false, if_pos rfl, time27_eq, Option.bind_some]
      cases ho : oddT now
      · have hn : now ≤ 1099511627776 := by simp [oddT] at ho; omega
        have hm : ∀ m ∈ l, 0 ≤ m.f4 ∧ m.f4 ≤ 1099511627776 := fun m hm => time_of_ok (ok_of_valid l [] hv m hm)
        rw [crossbarref27_Stop.j0]
        have h00 := stop27_l0 bs l hl ref now (some (if 1024 < (stopFold bs (nxB bs) (rtB bs) ref now l).2.length then ([], [], 2) else ((stopFold bs (nxB bs) (rtB bs) ref now l).1, (stopFold bs (nxB bs) (rtB bs) ref now l).2, 0))) (fun k hk => by
          by_cases c : chkB bs = 0
          · left
            have h := stop27_l1 (ref := ref) c hn l hl hm l.length 0 k [] [] (by omega) (by omega) (by simp) (by simp)
            rw [List.drop_zero] at h
            exact h
          · exact Or.inr c) l.length 0 k 0 (by omega) (by omega) (by omega)
        rw [List.drop_zero] at h00
        simp only [Int.natCast_zero, Int.ofNat_zero] at h00
        rw [if_neg (by simp)]
        refine Eq.trans h00 ?_
        cases l.any (lateP (isRef ref) now)
        · simp only [Bool.false_eq_true, if_false, Bool.not_false, Bool.and_true, Bool.true_and, if_true, Nat.lt_irrefl, decide_false, Bool.false_or]
          by_cases c : chkB bs = 0
          · rw [if_pos c, if_pos c]
            split <;> rfl
          · rw [if_neg c, if_neg c]
        · simp
      · show crossbarref27_Stop.j0 (k + 1) l ref now true bs = _
        rw [hj]; simp
    · show crossbarref27_Stop.j0 (k + 1) l ref now true bs = _
      rw [hj]; simp
end Go.Proofs.Ytbfhohpbldadbaa.P

-- Written by a program of this session out of the translation (a changed scratch copy of the print). Not trusted: Lean checks it.
namespace Go.Proofs.Ytbfhohpbldadbaa.P
open Go.RowKit Go.Proofs.YtbfhohpbldadbaaW.PrintWords Go.Proofs.YtbfhohpbldadbaaW.PrintLast Go.Proofs.YtbfhohpbldadbaaW.PrintMore
attribute [local go_sem] max2_int min2_int max_two min_two max_three min_three max_four min_four   -- for this text's walks alone
set_option linter.unusedVariables false
set_option linter.unusedSimpArgs false

theorem eqA39 (d : Nat) (w : World) (x0 y0 : Int) (x1 y1 : Int) (x2 y2 : Int) (x3 y3 : ByteArray) (x4 y4 : Int) (x5 y5 : Int) (x6 y6 : Int) (x7 y7 : Int) :
    (Op.equalIn (d + 2) 39 (.agg #[.int .i64 x0, .int .i64 x1, .int .i64 x2, .string x3, .int .i64 x4, .int .i64 x5, .int .i64 x6, .int .i64 x7]) (.agg #[.int .i64 y0, .int .i64 y1, .int .i64 y2, .string y3, .int .i64 y4, .int .i64 y5, .int .i64 y6, .int .i64 y7])).run Try.prog w = .ok (x0 == y0 && (x1 == y1 && (x2 == y2 && (x3.toList == y3.toList && (x4 == y4 && (x5 == y5 && (x6 == y6 && (x7 == y7)))))))) w := by
  refine eqA_of Try.underlying39 (by kernel_rfl) ?_
  refine eqf_cons (by rfl) (by go_simp; rfl) (by go_simp; rfl) (by go_simp) ?_
  refine eqf_cons (by rfl) (by go_simp; rfl) (by go_simp; rfl) (by go_simp) ?_
  refine eqf_cons (by rfl) (by go_simp; rfl) (by go_simp; rfl) (by go_simp) ?_
  refine eqf_cons (by rfl) (by go_simp; rfl) (by go_simp; rfl) (by go_simp) ?_
  refine eqf_cons (by rfl) (by go_simp; rfl) (by go_simp; rfl) (by go_simp) ?_
  refine eqf_cons (by rfl) (by go_simp; rfl) (by go_simp; rfl) (by go_simp) ?_
  refine eqf_cons (by rfl) (by go_simp; rfl) (by go_simp; rfl) (by go_simp) ?_
  exact eqf_last (by rfl) (by go_simp; rfl) (by go_simp; rfl) (by go_simp)
end Go.Proofs.Ytbfhohpbldadbaa.P

