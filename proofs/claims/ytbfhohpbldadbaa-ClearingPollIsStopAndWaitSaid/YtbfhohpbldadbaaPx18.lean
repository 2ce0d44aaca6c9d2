-- Written by a program of this session out of the translation (a changed scratch copy of the print). Not trusted: Lean checks it.
import Derived.Test.YtbfhohpbldadbaaPx0
import Derived.Test.YtbfhohpbldadbaaPx17
namespace Go.Proofs.Ytbfhohpbldadbaa.P
open Go.RowKit Go.Proofs.YtbfhohpbldadbaaW.PrintWords Go.Proofs.YtbfhohpbldadbaaW.PrintLast Go.Proofs.YtbfhohpbldadbaaW.PrintMore
attribute [local go_sem] max2_int min2_int max_two min_two max_three min_three max_four min_four   -- for this text's walks alone
set_option linter.unusedVariables false
set_option linter.unusedSimpArgs false

/-! ### crossbarref30_Same: function 45 -/
mutual
def crossbarref30_Same.j0 : Nat → Bool → List (List (S39)) → Int → Int → List (S39) → Bool → Int → List (List (S39)) → Int → Int → List (S39) → Bool → Int → Option (Bool)
  | 0, _, _, _, _, _, _, _, _, _, _, _, _, _ => none
  | k + 1, x48, x545000, x545001, x545002, x545003, x545004, x545005, x546000, x546001, x546002, x546003, x546004, x546005 => if x48 = true then (some false) else (crossbarref30_Same.l0 k 0 x545000 x545001 x545002 x545003 x545004 x545005 x546000 x546001 x546002 x546003 x546004 x546005)
def crossbarref30_Same.l0 : Nat → Int → List (List (S39)) → Int → Int → List (S39) → Bool → Int → List (List (S39)) → Int → Int → List (S39) → Bool → Int → Option (Bool)
  | 0, _, _, _, _, _, _, _, _, _, _, _, _, _ => none
  | k + 1, x5, x545000, x545001, x545002, x545003, x545004, x545005, x546000, x546001, x546002, x546003, x546004, x546005 => if x5 < (x545000.length : Int) then (if 0 ≤ x5 then (if x5 < (x546000.length : Int) then ((crossbarref30_SameRecords.f k (rd_L7 x545000 x5) (rd_L7 x546000 x5)).bind fun t549 => (if t549 = true then (crossbarref30_Same.l0 k (wrap64 (x5 + 1)) x545000 x545001 x545002 x545003 x545004 x545005 x546000 x546001 x546002 x546003 x546004 x546005) else (some false))) else (none)) else (none)) else (some true)
end
def crossbarref30_Same.f (k : Nat) (l0_0 : List (List (S39))) (a0_1 : Int) (a0_2 : Int) (l0_3 : List (S39)) (a0_4 : Bool) (a0_5 : Int) (l1_0 : List (List (S39))) (a1_1 : Int) (a1_2 : Int) (l1_3 : List (S39)) (a1_4 : Bool) (a1_5 : Int) : Option (Bool) := if (l0_0.length : Int) = (l1_0.length : Int) then (if a0_1 = a1_1 then (if a0_2 = a1_2 then (if (a0_4 != a1_4) = true then (crossbarref30_Same.j0 k true l0_0 a0_1 a0_2 l0_3 a0_4 a0_5 l1_0 a1_1 a1_2 l1_3 a1_4 a1_5) else (if a0_5 = a1_5 then ((crossbarref30_SameRecords.f k l0_3 l1_3).bind fun t546 => (crossbarref30_Same.j0 k (!t546) l0_0 a0_1 a0_2 l0_3 a0_4 a0_5 l1_0 a1_1 a1_2 l1_3 a1_4 a1_5)) else (crossbarref30_Same.j0 k true l0_0 a0_1 a0_2 l0_3 a0_4 a0_5 l1_0 a1_1 a1_2 l1_3 a1_4 a1_5))) else (crossbarref30_Same.j0 k true l0_0 a0_1 a0_2 l0_3 a0_4 a0_5 l1_0 a1_1 a1_2 l1_3 a1_4 a1_5)) else (crossbarref30_Same.j0 k true l0_0 a0_1 a0_2 l0_3 a0_4 a0_5 l1_0 a1_1 a1_2 l1_3 a1_4 a1_5)) else (crossbarref30_Same.j0 k true l0_0 a0_1 a0_2 l0_3 a0_4 a0_5 l1_0 a1_1 a1_2 l1_3 a1_4 a1_5)
theorem crossbarref30_Same.mono_l : ∀ k, (∀ y0 y1 y2 y3 y4 y5 y6 y7 y8 y9 y10 y11 y12, LeO (crossbarref30_Same.j0 k y0 y1 y2 y3 y4 y5 y6 y7 y8 y9 y10 y11 y12) (crossbarref30_Same.j0 (k + 1) y0 y1 y2 y3 y4 y5 y6 y7 y8 y9 y10 y11 y12)) ∧ (∀ y0 y1 y2 y3 y4 y5 y6 y7 y8 y9 y10 y11 y12, LeO (crossbarref30_Same.l0 k y0 y1 y2 y3 y4 y5 y6 y7 y8 y9 y10 y11 y12) (crossbarref30_Same.l0 (k + 1) y0 y1 y2 y3 y4 y5 y6 y7 y8 y9 y10 y11 y12))
  | 0 => ⟨fun _ _ _ _ _ _ _ _ _ _ _ _ _ r h => by simp [crossbarref30_Same.j0] at h, fun _ _ _ _ _ _ _ _ _ _ _ _ _ r h => by simp [crossbarref30_Same.l0] at h⟩
  | k + 1 => by
    obtain ⟨ih0, ih1⟩ := crossbarref30_Same.mono_l k
    refine ⟨?_, ?_⟩
    · intro y0 y1 y2 y3 y4 y5 y6 y7 y8 y9 y10 y11 y12
      unfold crossbarref30_Same.j0
      repeat' first
      | (with_reducible exact ih0 _ _ _ _ _ _ _ _ _ _ _ _ _)
      | (with_reducible exact ih1 _ _ _ _ _ _ _ _ _ _ _ _ _)
      | (with_reducible exact crossbarref30_SameRecords.mono _ _ _)
      | (with_reducible exact LeO.refl _)
      | (with_reducible exact LeO.none _)
      | (with_reducible refine LeO.ite ?_ ?_)
      | (with_reducible refine LeO.bind ?_ (fun _ => ?_))
      | exact ih0 _ _ _ _ _ _ _ _ _ _ _ _ _
      | exact ih1 _ _ _ _ _ _ _ _ _ _ _ _ _
      | exact crossbarref30_SameRecords.mono _ _ _
      | exact LeO.none _
      | refine LeO.ite ?_ ?_
      | refine LeO.bind ?_ (fun _ => ?_)
    · intro y0 y1 y2 y3 y4 y5 y6 y7 y8 y9 y10 y11 y12
      unfold crossbarref30_Same.l0
      repeat' first
      | (with_reducible exact ih0 _ _ _ _ _ _ _ _ _ _ _ _ _)
      | (with_reducible exact ih1 _ _ _ _ _ _ _ _ _ _ _ _ _)
      | (with_reducible exact crossbarref30_SameRecords.mono _ _ _)
      | (with_reducible exact LeO.refl _)
      | (with_reducible exact LeO.none _)
      | (with_reducible refine LeO.ite ?_ ?_)
      | (with_reducible refine LeO.bind ?_ (fun _ => ?_))
      | exact ih0 _ _ _ _ _ _ _ _ _ _ _ _ _
      | exact ih1 _ _ _ _ _ _ _ _ _ _ _ _ _
      | exact crossbarref30_SameRecords.mono _ _ _
      | exact LeO.none _
      | refine LeO.ite ?_ ?_
      | refine LeO.bind ?_ (fun _ => ?_)
theorem crossbarref30_Same.mono : ∀ a0 a1 a2 a3 a4 a5 a6 a7 a8 a9 a10 a11 k, LeO (crossbarref30_Same.f k a0 a1 a2 a3 a4 a5 a6 a7 a8 a9 a10 a11) (crossbarref30_Same.f (k + 1) a0 a1 a2 a3 a4 a5 a6 a7 a8 a9 a10 a11) := by
  intro a0 a1 a2 a3 a4 a5 a6 a7 a8 a9 a10 a11 k
  obtain ⟨ih0, ih1⟩ := crossbarref30_Same.mono_l k
  unfold crossbarref30_Same.f
  repeat' first
      | (with_reducible exact ih0 _ _ _ _ _ _ _ _ _ _ _ _ _)
      | (with_reducible exact ih1 _ _ _ _ _ _ _ _ _ _ _ _ _)
      | (with_reducible exact crossbarref30_SameRecords.mono _ _ _)
      | (with_reducible exact LeO.refl _)
      | (with_reducible exact LeO.none _)
      | (with_reducible refine LeO.ite ?_ ?_)
      | (with_reducible refine LeO.bind ?_ (fun _ => ?_))
      | exact ih0 _ _ _ _ _ _ _ _ _ _ _ _ _
      | exact ih1 _ _ _ _ _ _ _ _ _ _ _ _ _
      | exact crossbarref30_SameRecords.mono _ _ _
      | exact LeO.none _
      | refine LeO.ite ?_ ?_
      | refine LeO.bind ?_ (fun _ => ?_)
set_option maxHeartbeats 8000000 in
set_option maxRecDepth 100000 in
theorem crossbarref30_Same.calls (k : Nat) (A0_0 : Option Addr) (c0_0 : Nat) (l0_0 : List (List (S39))) (a0_1 : Int) (a0_2 : Int) (A0_3 : Option Addr) (c0_3 : Nat) (l0_3 : List (S39)) (a0_4 : Bool) (a0_5 : Int) (A1_0 : Option Addr) (c1_0 : Nat) (l1_0 : List (List (S39))) (a1_1 : Int) (a1_2 : Int) (A1_3 : Option Addr) (c1_3 : Nat) (l1_3 : List (S39)) (a1_4 : Bool) (a1_5 : Int) (r : Bool) (w : World) (hr0_0 : Kd.C (Kd.slice 39 k39) w A0_0 l0_0.length l0_0) (hc0_0 : l0_0.length ≤ c0_0) (hr0_3 : Kd.C k39 w A0_3 l0_3.length l0_3) (hc0_3 : l0_3.length ≤ c0_3) (hr1_0 : Kd.C (Kd.slice 39 k39) w A1_0 l1_0.length l1_0) (hc1_0 : l1_0.length ≤ c1_0) (hr1_3 : Kd.C k39 w A1_3 l1_3.length l1_3) (hc1_3 : l1_3.length ≤ c1_3) (h : crossbarref30_Same.f k l0_0 a0_1 a0_2 l0_3 a0_4 a0_5 l1_0 a1_1 a1_2 l1_3 a1_4 a1_5 = some r) :
    Calls Try.prog 45 #[.agg #[.slice A0_0 l0_0.length c0_0, .int .i64 a0_1, .int .i64 a0_2, .slice A0_3 l0_3.length c0_3, .bool a0_4, .int .i64 a0_5], .agg #[.slice A1_0 l1_0.length c1_0, .int .i64 a1_1, .int .i64 a1_2, .slice A1_3 l1_3.length c1_3, .bool a1_4, .int .i64 a1_5]] w fun e w' => e = .returned (.bool r) ∧ Below w.heap.size w w' := by
  have hu61 := Try.underlying61
  have HR0_0 := Aside0.mk hr0_0
  have HC0_0 := Aside0.mk hc0_0
  clear hr0_0 hc0_0
  have HR0_3 := Aside0.mk hr0_3
  have HC0_3 := Aside0.mk hc0_3
  clear hr0_3 hc0_3
  have HR1_0 := Aside0.mk hr1_0
  have HC1_0 := Aside0.mk hc1_0
  clear hr1_0 hc1_0
  have HR1_3 := Aside0.mk hr1_3
  have HC1_3 := Aside0.mk hc1_3
  clear hr1_3 hc1_3
  have HB := Aside0.mk (Below.refl w.heap.size w)
  have H : (if (l0_0.length : Int) = (l1_0.length : Int) then (if a0_1 = a1_1 then (if a0_2 = a1_2 then (if (a0_4 != a1_4) = true then (crossbarref30_Same.j0 k true l0_0 a0_1 a0_2 l0_3 a0_4 a0_5 l1_0 a1_1 a1_2 l1_3 a1_4 a1_5) else (if a0_5 = a1_5 then ((crossbarref30_SameRecords.f k l0_3 l1_3).bind fun t546 => (crossbarref30_Same.j0 k (!t546) l0_0 a0_1 a0_2 l0_3 a0_4 a0_5 l1_0 a1_1 a1_2 l1_3 a1_4 a1_5)) else (crossbarref30_Same.j0 k true l0_0 a0_1 a0_2 l0_3 a0_4 a0_5 l1_0 a1_1 a1_2 l1_3 a1_4 a1_5))) else (crossbarref30_Same.j0 k true l0_0 a0_1 a0_2 l0_3 a0_4 a0_5 l1_0 a1_1 a1_2 l1_3 a1_4 a1_5)) else (crossbarref30_Same.j0 k true l0_0 a0_1 a0_2 l0_3 a0_4 a0_5 l1_0 a1_1 a1_2 l1_3 a1_4 a1_5)) else (crossbarref30_Same.j0 k true l0_0 a0_1 a0_2 l0_3 a0_4 a0_5 l1_0 a1_1 a1_2 l1_3 a1_4 a1_5)) = some r := h
  clear h
  have HC3 := Aside0.mk H
  clear H
  go_enter Try.func45, Try.ntmps45
  go_upto_region 1 with (first | ((with_reducible refine gate_dst (N := 2) rfl ?_); refine box_event ?hg (N := 2) ?hd (cs := #[.slice A0_0 l0_0.length c0_0, .int .i64 a0_1, .int .i64 a0_2, .slice A0_3 l0_3.length c0_3, .bool a0_4, .int .i64 a0_5]) (t := 61) ?hr ?_; (case hd => rfl); (case hg => rfl); (case hr => first | (go_simp; done) | (go_simp; rfl)); intro gb544 hg w4 hbox hb; have n0_ := Aside0.mk (below_step (by repeat (first | (with_reducible first | exact HB.out | apply below_alloc | apply pw_below_drewN | apply below_drew1) | exact HB.out)) hb); have n1_ := Aside0.mk (hbox); have n2_ := Aside0.mk ((by rw [hg]; exact (below_size (by repeat (first | (with_reducible first | exact HB.out | apply below_alloc | apply pw_below_drewN | apply below_drew1) | exact HB.out))) : w.heap.size ≤ gb544)); have n3_ := Aside0.mk ((by rw [hg]; exact (below_size (by repeat (first | (with_reducible first | exact HB.out | apply below_alloc | apply pw_below_drewN | apply below_drew1) | exact HB.out))) : w.heap.size ≤ gb544)); clear HB; have HB := n0_; have BK544 := n1_; have GW544 := n2_; have GE544 := n3_; clear n0_ n1_ n2_ n3_; clear hb hbox hg) | ((with_reducible refine gate_dst (N := 3) rfl ?_); refine box_event ?hg (N := 3) ?hd (cs := #[.slice A1_0 l1_0.length c1_0, .int .i64 a1_1, .int .i64 a1_2, .slice A1_3 l1_3.length c1_3, .bool a1_4, .int .i64 a1_5]) (t := 61) ?hr ?_; (case hd => rfl); (case hg => rfl); (case hr => first | (go_simp; done) | (go_simp; rfl)); intro gb545 hg w5 hbox hb; have n0_ := Aside0.mk (blk_below (g := gb544) (o := .cells #[.slice A0_0 l0_0.length c0_0, .int .i64 a0_1, .int .i64 a0_2, .slice A0_3 l0_3.length c0_3, .bool a0_4, .int .i64 a0_5] 61 (0, 0)) (by (with_reducible repeat (first | refine blk_drewN ?_ _ | refine blk_drew ?_ | refine blk_alloc ?_ _)); exact BK544.out) hb); have n1_ := Aside0.mk (below_step (by repeat (first | (with_reducible first | exact HB.out | apply below_alloc | apply pw_below_drewN | apply below_drew1 | refine below_set ?_ GE544.out) | exact HB.out)) hb); have n2_ := Aside0.mk (hbox); have n3_ := Aside0.mk ((by rw [hg]; exact (below_size (by repeat (first | (with_reducible first | exact HB.out | apply below_alloc | apply pw_below_drewN | apply below_drew1 | refine below_set ?_ GE544.out) | exact HB.out))) : w.heap.size ≤ gb545)); have n4_ := Aside0.mk ((by rw [hg]; exact (below_size (by repeat (first | (with_reducible first | exact HB.out | apply below_alloc | apply pw_below_drewN | apply below_drew1 | refine below_set ?_ GE544.out) | exact HB.out))) : w.heap.size ≤ gb545)); have n5_ := Aside0.mk ((by rw [hg]; exact Nat.ne_of_lt (blk_lt (g := gb544) (o := .cells #[.slice A0_0 l0_0.length c0_0, .int .i64 a0_1, .int .i64 a0_2, .slice A0_3 l0_3.length c0_3, .bool a0_4, .int .i64 a0_5] 61 (0, 0)) (by (with_reducible repeat (first | refine blk_drewN ?_ _ | refine blk_drew ?_ | refine blk_alloc ?_ _)); exact BK544.out)) : gb544 ≠ gb545)); have n6_ := Aside0.mk ((by rw [hg]; exact Nat.ne_of_gt (blk_lt (g := gb544) (o := .cells #[.slice A0_0 l0_0.length c0_0, .int .i64 a0_1, .int .i64 a0_2, .slice A0_3 l0_3.length c0_3, .bool a0_4, .int .i64 a0_5] 61 (0, 0)) (by (with_reducible repeat (first | refine blk_drewN ?_ _ | refine blk_drew ?_ | refine blk_alloc ?_ _)); exact BK544.out)) : gb545 ≠ gb544)); clear BK544; clear HB; have BK544 := n0_; have HB := n1_; have BK545 := n2_; have GW545 := n3_; have GE545 := n4_; have NB544_545 := n5_; have NB545_544 := n6_; clear n0_ n1_ n2_ n3_ n4_ n5_ n6_; clear hb hbox hg))
  repeat (go_quiet (first | ((with_reducible refine gate_dst (N := 2) rfl ?_); refine box_event ?hg (N := 2) ?hd (cs := #[.slice A0_0 l0_0.length c0_0, .int .i64 a0_1, .int .i64 a0_2, .slice A0_3 l0_3.length c0_3, .bool a0_4, .int .i64 a0_5]) (t := 61) ?hr ?_; (case hd => rfl); (case hg => rfl); (case hr => first | (go_simp; done) | (go_simp; rfl)); intro gb544 hg w4 hbox hb; have n0_ := Aside0.mk (below_step (by repeat (first | (with_reducible first | exact HB.out | apply below_alloc | apply pw_below_drewN | apply below_drew1) | exact HB.out)) hb); have n1_ := Aside0.mk (hbox); have n2_ := Aside0.mk ((by rw [hg]; exact (below_size (by repeat (first | (with_reducible first | exact HB.out | apply below_alloc | apply pw_below_drewN | apply below_drew1) | exact HB.out))) : w.heap.size ≤ gb544)); have n3_ := Aside0.mk ((by rw [hg]; exact (below_size (by repeat (first | (with_reducible first | exact HB.out | apply below_alloc | apply pw_below_drewN | apply below_drew1) | exact HB.out))) : w.heap.size ≤ gb544)); clear HB; have HB := n0_; have BK544 := n1_; have GW544 := n2_; have GE544 := n3_; clear n0_ n1_ n2_ n3_; clear hb hbox hg) | ((with_reducible refine gate_dst (N := 3) rfl ?_); refine box_event ?hg (N := 3) ?hd (cs := #[.slice A1_0 l1_0.length c1_0, .int .i64 a1_1, .int .i64 a1_2, .slice A1_3 l1_3.length c1_3, .bool a1_4, .int .i64 a1_5]) (t := 61) ?hr ?_; (case hd => rfl); (case hg => rfl); (case hr => first | (go_simp; done) | (go_simp; rfl)); intro gb545 hg w5 hbox hb; have n0_ := Aside0.mk (blk_below (g := gb544) (o := .cells #[.slice A0_0 l0_0.length c0_0, .int .i64 a0_1, .int .i64 a0_2, .slice A0_3 l0_3.length c0_3, .bool a0_4, .int .i64 a0_5] 61 (0, 0)) (by (with_reducible repeat (first | refine blk_drewN ?_ _ | refine blk_drew ?_ | refine blk_alloc ?_ _)); exact BK544.out) hb); have n1_ := Aside0.mk (below_step (by repeat (first | (with_reducible first | exact HB.out | apply below_alloc | apply pw_below_drewN | apply below_drew1 | refine below_set ?_ GE544.out) | exact HB.out)) hb); have n2_ := Aside0.mk (hbox); have n3_ := Aside0.mk ((by rw [hg]; exact (below_size (by repeat (first | (with_reducible first | exact HB.out | apply below_alloc | apply pw_below_drewN | apply below_drew1 | refine below_set ?_ GE544.out) | exact HB.out))) : w.heap.size ≤ gb545)); have n4_ := Aside0.mk ((by rw [hg]; exact (below_size (by repeat (first | (with_reducible first | exact HB.out | apply below_alloc | apply pw_below_drewN | apply below_drew1 | refine below_set ?_ GE544.out) | exact HB.out))) : w.heap.size ≤ gb545)); have n5_ := Aside0.mk ((by rw [hg]; exact Nat.ne_of_lt (blk_lt (g := gb544) (o := .cells #[.slice A0_0 l0_0.length c0_0, .int .i64 a0_1, .int .i64 a0_2, .slice A0_3 l0_3.length c0_3, .bool a0_4, .int .i64 a0_5] 61 (0, 0)) (by (with_reducible repeat (first | refine blk_drewN ?_ _ | refine blk_drew ?_ | refine blk_alloc ?_ _)); exact BK544.out)) : gb544 ≠ gb545)); have n6_ := Aside0.mk ((by rw [hg]; exact Nat.ne_of_gt (blk_lt (g := gb544) (o := .cells #[.slice A0_0 l0_0.length c0_0, .int .i64 a0_1, .int .i64 a0_2, .slice A0_3 l0_3.length c0_3, .bool a0_4, .int .i64 a0_5] 61 (0, 0)) (by (with_reducible repeat (first | refine blk_drewN ?_ _ | refine blk_drew ?_ | refine blk_alloc ?_ _)); exact BK544.out)) : gb545 ≠ gb544)); clear BK544; clear HB; have BK544 := n0_; have HB := n1_; have BK545 := n2_; have GW545 := n3_; have GE545 := n4_; have NB544_545 := n5_; have NB545_544 := n6_; clear n0_ n1_ n2_ n3_ n4_ n5_ n6_; clear hb hbox hg)); go_upto_region 1 with (first | ((with_reducible refine gate_dst (N := 2) rfl ?_); refine box_event ?hg (N := 2) ?hd (cs := #[.slice A0_0 l0_0.length c0_0, .int .i64 a0_1, .int .i64 a0_2, .slice A0_3 l0_3.length c0_3, .bool a0_4, .int .i64 a0_5]) (t := 61) ?hr ?_; (case hd => rfl); (case hg => rfl); (case hr => first | (go_simp; done) | (go_simp; rfl)); intro gb544 hg w4 hbox hb; have n0_ := Aside0.mk (below_step (by repeat (first | (with_reducible first | exact HB.out | apply below_alloc | apply pw_below_drewN | apply below_drew1) | exact HB.out)) hb); have n1_ := Aside0.mk (hbox); have n2_ := Aside0.mk ((by rw [hg]; exact (below_size (by repeat (first | (with_reducible first | exact HB.out | apply below_alloc | apply pw_below_drewN | apply below_drew1) | exact HB.out))) : w.heap.size ≤ gb544)); have n3_ := Aside0.mk ((by rw [hg]; exact (below_size (by repeat (first | (with_reducible first | exact HB.out | apply below_alloc | apply pw_below_drewN | apply below_drew1) | exact HB.out))) : w.heap.size ≤ gb544)); clear HB; have HB := n0_; have BK544 := n1_; have GW544 := n2_; have GE544 := n3_; clear n0_ n1_ n2_ n3_; clear hb hbox hg) | ((with_reducible refine gate_dst (N := 3) rfl ?_); refine box_event ?hg (N := 3) ?hd (cs := #[.slice A1_0 l1_0.length c1_0, .int .i64 a1_1, .int .i64 a1_2, .slice A1_3 l1_3.length c1_3, .bool a1_4, .int .i64 a1_5]) (t := 61) ?hr ?_; (case hd => rfl); (case hg => rfl); (case hr => first | (go_simp; done) | (go_simp; rfl)); intro gb545 hg w5 hbox hb; have n0_ := Aside0.mk (blk_below (g := gb544) (o := .cells #[.slice A0_0 l0_0.length c0_0, .int .i64 a0_1, .int .i64 a0_2, .slice A0_3 l0_3.length c0_3, .bool a0_4, .int .i64 a0_5] 61 (0, 0)) (by (with_reducible repeat (first | refine blk_drewN ?_ _ | refine blk_drew ?_ | refine blk_alloc ?_ _)); exact BK544.out) hb); have n1_ := Aside0.mk (below_step (by repeat (first | (with_reducible first | exact HB.out | apply below_alloc | apply pw_below_drewN | apply below_drew1 | refine below_set ?_ GE544.out) | exact HB.out)) hb); have n2_ := Aside0.mk (hbox); have n3_ := Aside0.mk ((by rw [hg]; exact (below_size (by repeat (first | (with_reducible first | exact HB.out | apply below_alloc | apply pw_below_drewN | apply below_drew1 | refine below_set ?_ GE544.out) | exact HB.out))) : w.heap.size ≤ gb545)); have n4_ := Aside0.mk ((by rw [hg]; exact (below_size (by repeat (first | (with_reducible first | exact HB.out | apply below_alloc | apply pw_below_drewN | apply below_drew1 | refine below_set ?_ GE544.out) | exact HB.out))) : w.heap.size ≤ gb545)); have n5_ := Aside0.mk ((by rw [hg]; exact Nat.ne_of_lt (blk_lt (g := gb544) (o := .cells #[.slice A0_0 l0_0.length c0_0, .int .i64 a0_1, .int .i64 a0_2, .slice A0_3 l0_3.length c0_3, .bool a0_4, .int .i64 a0_5] 61 (0, 0)) (by (with_reducible repeat (first | refine blk_drewN ?_ _ | refine blk_drew ?_ | refine blk_alloc ?_ _)); exact BK544.out)) : gb544 ≠ gb545)); have n6_ := Aside0.mk ((by rw [hg]; exact Nat.ne_of_gt (blk_lt (g := gb544) (o := .cells #[.slice A0_0 l0_0.length c0_0, .int .i64 a0_1, .int .i64 a0_2, .slice A0_3 l0_3.length c0_3, .bool a0_4, .int .i64 a0_5] 61 (0, 0)) (by (with_reducible repeat (first | refine blk_drewN ?_ _ | refine blk_drew ?_ | refine blk_alloc ?_ _)); exact BK544.out)) : gb545 ≠ gb544)); clear BK544; clear HB; have BK544 := n0_; have HB := n1_; have BK545 := n2_; have GW545 := n3_; have GE545 := n4_; have NB544_545 := n5_; have NB545_544 := n6_; clear n0_ n1_ n2_ n3_ n4_ n5_ n6_; clear hb hbox hg)))
  (try simp only [Act.put, List.setIfInBounds_toArray, List.set_cons_zero, List.set_cons_succ])
  go_cut [48] (fun v48 wc => ∃ (kq : Nat) (x48_2 : Bool), v48 = .bool x48_2 ∧ Aside0 (crossbarref30_Same.j0 kq x48_2 l0_0 a0_1 a0_2 l0_3 a0_4 a0_5 l1_0 a1_1 a1_2 l1_3 a1_4 a1_5 = some r) ∧ Aside0 (kq ≤ k) ∧ Aside0 (wc.heap[gb544]? = some (.cells #[(.slice A0_0 l0_0.length c0_0), .int .i64 a0_1, .int .i64 a0_2, (.slice A0_3 l0_3.length c0_3), .bool a0_4, .int .i64 a0_5] 61 (0, 0))) ∧ Aside0 (wc.heap[gb545]? = some (.cells #[(.slice A1_0 l1_0.length c1_0), .int .i64 a1_1, .int .i64 a1_2, (.slice A1_3 l1_3.length c1_3), .bool a1_4, .int .i64 a1_5] 61 (0, 0))) ∧ Aside0 (Below w.heap.size w wc))
  case first =>
    have H := HC3.out
    clear HC3
    by_cases c6 : (l0_0.length : Int) = (l1_0.length : Int)
    · rw [if_pos c6] at H
      have c6b0 : ((l0_0.length : Int) == (l1_0.length : Int)) = true := beq_iff_eq.mpr c6
      have c6b1 : ((l0_0.length : Int) != (l1_0.length : Int)) = false := bne_eq_false_iff_eq.mpr c6
      have c6b2 : (l0_0.length == l1_0.length) = true := by first | simpa using c6 | (simp at c6 ⊢; omega)
      clear c6
      (first | rw [c6b0] | (simp only [i64_w, i32_w]; rw [c6b0]) | skip)
      by_cases c7 : a0_1 = a1_1
      · rw [if_pos c7] at H
        have c7b0 : (a0_1 == a1_1) = true := beq_iff_eq.mpr c7
        have c7b1 : (a0_1 != a1_1) = false := bne_eq_false_iff_eq.mpr c7
        clear c7
        by_cases c8 : a0_2 = a1_2
        · rw [if_pos c8] at H
          have c8b0 : (a0_2 == a1_2) = true := beq_iff_eq.mpr c8
          have c8b1 : (a0_2 != a1_2) = false := bne_eq_false_iff_eq.mpr c8
          clear c8
          by_cases c9 : (a0_4 != a1_4) = true
          · rw [if_pos c9] at H
            have c9b0 : (a0_4 != a1_4) = true := c9
            (try (have c9b1 : decide (a0_4 = a1_4) = false := by simpa using c9))
            (try (have c9b2 : (a0_4 == a1_4) = false := by simpa using c9))
            (try (have c9b3 : ¬ (a0_4 = a1_4) := by simpa using c9))
            clear c9
            have H' := Aside0.mk H
            clear H
            have hnb10 := NB544_545.out
            have hnc10 := NB545_544.out
            have hcz11_0 : w5.cell? ⟨gb544, 0, none⟩ = some (.slice A0_0 l0_0.length c0_0) := (blk_cell BK544.out 0).trans rfl
            have hcz11_1 : w5.cell? ⟨gb544, 1, none⟩ = some (.int .i64 a0_1) := (blk_cell BK544.out 1).trans rfl
            have hcz11_2 : w5.cell? ⟨gb544, 2, none⟩ = some (.int .i64 a0_2) := (blk_cell BK544.out 2).trans rfl
            have hcz11_3 : w5.cell? ⟨gb544, 3, none⟩ = some (.slice A0_3 l0_3.length c0_3) := (blk_cell BK544.out 3).trans rfl
            have hcz11_4 : w5.cell? ⟨gb544, 4, none⟩ = some (.bool a0_4) := (blk_cell BK544.out 4).trans rfl
            have hcz11_5 : w5.cell? ⟨gb544, 5, none⟩ = some (.int .i64 a0_5) := (blk_cell BK544.out 5).trans rfl
            have hfz11_0 := blk_frozen BK544.out 0
            have hfz11_1 := blk_frozen BK544.out 1
            have hfz11_2 := blk_frozen BK544.out 2
            have hfz11_3 := blk_frozen BK544.out 3
            have hfz11_4 := blk_frozen BK544.out 4
            have hfz11_5 := blk_frozen BK544.out 5
            have hcz12_0 : w5.cell? ⟨gb545, 0, none⟩ = some (.slice A1_0 l1_0.length c1_0) := (blk_cell BK545.out 0).trans rfl
            have hcz12_1 : w5.cell? ⟨gb545, 1, none⟩ = some (.int .i64 a1_1) := (blk_cell BK545.out 1).trans rfl
            have hcz12_2 : w5.cell? ⟨gb545, 2, none⟩ = some (.int .i64 a1_2) := (blk_cell BK545.out 2).trans rfl
            have hcz12_3 : w5.cell? ⟨gb545, 3, none⟩ = some (.slice A1_3 l1_3.length c1_3) := (blk_cell BK545.out 3).trans rfl
            have hcz12_4 : w5.cell? ⟨gb545, 4, none⟩ = some (.bool a1_4) := (blk_cell BK545.out 4).trans rfl
            have hcz12_5 : w5.cell? ⟨gb545, 5, none⟩ = some (.int .i64 a1_5) := (blk_cell BK545.out 5).trans rfl
            have hfz12_0 := blk_frozen BK545.out 0
            have hfz12_1 := blk_frozen BK545.out 1
            have hfz12_2 := blk_frozen BK545.out 2
            have hfz12_3 := blk_frozen BK545.out 3
            have hfz12_4 := blk_frozen BK545.out 4
            have hfz12_5 := blk_frozen BK545.out 5
            go_wp2
            repeat (go_quiet (fail); try go_wp2)
            go_meet
            case rel => exact ⟨_, (true), (by first | rfl | (simp; done) | (simp [*]; done)), H', ⟨by first | omega | exact Nat.le_refl _⟩, ⟨by (with_reducible repeat (first | refine blk_drewN ?_ _ | refine blk_drew ?_ | refine blk_alloc ?_ _)); exact BK544.out⟩, ⟨by (with_reducible repeat (first | refine blk_drewN ?_ _ | refine blk_drew ?_ | refine blk_alloc ?_ _)); exact BK545.out⟩, ⟨by repeat (first | (with_reducible first | exact HB.out | apply below_alloc | apply pw_below_drewN | apply below_drew1 | refine below_set ?_ GE544.out | refine below_set ?_ GE545.out) | exact HB.out)⟩⟩
          · rw [if_neg c9] at H
            have c9b0 : (a0_4 != a1_4) = false := by simpa using c9
            (try (have c9b1 : decide (a0_4 = a1_4) = true := by simpa using c9))
            (try (have c9b2 : (a0_4 == a1_4) = true := by simpa using c9))
            clear c9
            by_cases c13 : a0_5 = a1_5
            · rw [if_pos c13] at H
              have c13b0 : (a0_5 == a1_5) = true := beq_iff_eq.mpr c13
              have c13b1 : (a0_5 != a1_5) = false := bne_eq_false_iff_eq.mpr c13
              clear c13
              replace H := Option.bind_eq_some_iff.mp H
              obtain ⟨t546, A140, H⟩ := H
              replace H : (crossbarref30_Same.j0 k (!t546) l0_0 a0_1 a0_2 l0_3 a0_4 a0_5 l1_0 a1_1 a1_2 l1_3 a1_4 a1_5) = some r := H
              have A14 := Aside0.mk A140
              clear A140
              have H' := Aside0.mk H
              clear H
              have hnb15 := NB544_545.out
              have hnc15 := NB545_544.out
              have hcz16_0 : w5.cell? ⟨gb544, 0, none⟩ = some (.slice A0_0 l0_0.length c0_0) := (blk_cell BK544.out 0).trans rfl
              have hcz16_1 : w5.cell? ⟨gb544, 1, none⟩ = some (.int .i64 a0_1) := (blk_cell BK544.out 1).trans rfl
              have hcz16_2 : w5.cell? ⟨gb544, 2, none⟩ = some (.int .i64 a0_2) := (blk_cell BK544.out 2).trans rfl
              have hcz16_3 : w5.cell? ⟨gb544, 3, none⟩ = some (.slice A0_3 l0_3.length c0_3) := (blk_cell BK544.out 3).trans rfl
              have hcz16_4 : w5.cell? ⟨gb544, 4, none⟩ = some (.bool a0_4) := (blk_cell BK544.out 4).trans rfl
              have hcz16_5 : w5.cell? ⟨gb544, 5, none⟩ = some (.int .i64 a0_5) := (blk_cell BK544.out 5).trans rfl
              have hfz16_0 := blk_frozen BK544.out 0
              have hfz16_1 := blk_frozen BK544.out 1
              have hfz16_2 := blk_frozen BK544.out 2
              have hfz16_3 := blk_frozen BK544.out 3
              have hfz16_4 := blk_frozen BK544.out 4
              have hfz16_5 := blk_frozen BK544.out 5
              have hcz17_0 : w5.cell? ⟨gb545, 0, none⟩ = some (.slice A1_0 l1_0.length c1_0) := (blk_cell BK545.out 0).trans rfl
              have hcz17_1 : w5.cell? ⟨gb545, 1, none⟩ = some (.int .i64 a1_1) := (blk_cell BK545.out 1).trans rfl
              have hcz17_2 : w5.cell? ⟨gb545, 2, none⟩ = some (.int .i64 a1_2) := (blk_cell BK545.out 2).trans rfl
              have hcz17_3 : w5.cell? ⟨gb545, 3, none⟩ = some (.slice A1_3 l1_3.length c1_3) := (blk_cell BK545.out 3).trans rfl
              have hcz17_4 : w5.cell? ⟨gb545, 4, none⟩ = some (.bool a1_4) := (blk_cell BK545.out 4).trans rfl
              have hcz17_5 : w5.cell? ⟨gb545, 5, none⟩ = some (.int .i64 a1_5) := (blk_cell BK545.out 5).trans rfl
              have hfz17_0 := blk_frozen BK545.out 0
              have hfz17_1 := blk_frozen BK545.out 1
              have hfz17_2 := blk_frozen BK545.out 2
              have hfz17_3 := blk_frozen BK545.out 3
              have hfz17_4 := blk_frozen BK545.out 4
              have hfz17_5 := blk_frozen BK545.out 5
              go_wp2_with (first | (go_at_call 42; (with_reducible refine (crossbarref30_SameRecords.calls k _ _ l0_3 _ _ l1_3 t546 _ ?side1 ?side2 ?side3 ?side4 A14.out).mono ?_); (case side1 => repeat (first | exact (Kd.C_below HR0_3.out HB.out) | (with_reducible refine Kd.C_alloc ?_ _) | (with_reducible refine Kd.C_drewN ?_ _) | (with_reducible refine Kd.C_drew ?_))); (case side2 => exact HC0_3.out); (case side3 => repeat (first | exact (Kd.C_below HR1_3.out HB.out) | (with_reducible refine Kd.C_alloc ?_ _) | (with_reducible refine Kd.C_drewN ?_ _) | (with_reducible refine Kd.C_drew ?_))); (case side4 => exact HC1_3.out); rintro e w' ⟨rfl, ⟨nd, rfl⟩⟩; (try first | exact ⟨rfl, _, World.drewN_drewN _ _ _⟩ | exact ⟨rfl, _, Eq.trans (World.drewN_drewN _ _ _) (congrArg (World.drewN _) (Nat.add_assoc _ _ _))⟩)))
              repeat (go_quiet (first | (go_at_call 42; (with_reducible refine (crossbarref30_SameRecords.calls k _ _ l0_3 _ _ l1_3 t546 _ ?side1 ?side2 ?side3 ?side4 A14.out).mono ?_); (case side1 => repeat (first | exact (Kd.C_below HR0_3.out HB.out) | (with_reducible refine Kd.C_alloc ?_ _) | (with_reducible refine Kd.C_drewN ?_ _) | (with_reducible refine Kd.C_drew ?_))); (case side2 => exact HC0_3.out); (case side3 => repeat (first | exact (Kd.C_below HR1_3.out HB.out) | (with_reducible refine Kd.C_alloc ?_ _) | (with_reducible refine Kd.C_drewN ?_ _) | (with_reducible refine Kd.C_drew ?_))); (case side4 => exact HC1_3.out); rintro e w' ⟨rfl, ⟨nd, rfl⟩⟩; (try first | exact ⟨rfl, _, World.drewN_drewN _ _ _⟩ | exact ⟨rfl, _, Eq.trans (World.drewN_drewN _ _ _) (congrArg (World.drewN _) (Nat.add_assoc _ _ _))⟩))); try go_wp2_with (first | (go_at_call 42; (with_reducible refine (crossbarref30_SameRecords.calls k _ _ l0_3 _ _ l1_3 t546 _ ?side1 ?side2 ?side3 ?side4 A14.out).mono ?_); (case side1 => repeat (first | exact (Kd.C_below HR0_3.out HB.out) | (with_reducible refine Kd.C_alloc ?_ _) | (with_reducible refine Kd.C_drewN ?_ _) | (with_reducible refine Kd.C_drew ?_))); (case side2 => exact HC0_3.out); (case side3 => repeat (first | exact (Kd.C_below HR1_3.out HB.out) | (with_reducible refine Kd.C_alloc ?_ _) | (with_reducible refine Kd.C_drewN ?_ _) | (with_reducible refine Kd.C_drew ?_))); (case side4 => exact HC1_3.out); rintro e w' ⟨rfl, ⟨nd, rfl⟩⟩; (try first | exact ⟨rfl, _, World.drewN_drewN _ _ _⟩ | exact ⟨rfl, _, Eq.trans (World.drewN_drewN _ _ _) (congrArg (World.drewN _) (Nat.add_assoc _ _ _))⟩))))
              go_meet
              case rel => exact ⟨_, (!t546), (by first | rfl | (simp; done) | (simp [*]; done)), H', ⟨by first | omega | exact Nat.le_refl _⟩, ⟨by (with_reducible repeat (first | refine blk_drewN ?_ _ | refine blk_drew ?_ | refine blk_alloc ?_ _)); exact BK544.out⟩, ⟨by (with_reducible repeat (first | refine blk_drewN ?_ _ | refine blk_drew ?_ | refine blk_alloc ?_ _)); exact BK545.out⟩, ⟨by repeat (first | (with_reducible first | exact HB.out | apply below_alloc | apply pw_below_drewN | apply below_drew1 | refine below_set ?_ GE544.out | refine below_set ?_ GE545.out) | exact HB.out)⟩⟩
            · rw [if_neg c13] at H
              have c13b0 : (a0_5 == a1_5) = false := beq_eq_false_iff_ne.mpr c13
              have c13b1 : (a0_5 != a1_5) = true := bne_iff_ne.mpr c13
              have H' := Aside0.mk H
              clear H
              have hnb18 := NB544_545.out
              have hnc18 := NB545_544.out
              have hcz19_0 : w5.cell? ⟨gb544, 0, none⟩ = some (.slice A0_0 l0_0.length c0_0) := (blk_cell BK544.out 0).trans rfl
              have hcz19_1 : w5.cell? ⟨gb544, 1, none⟩ = some (.int .i64 a0_1) := (blk_cell BK544.out 1).trans rfl
              have hcz19_2 : w5.cell? ⟨gb544, 2, none⟩ = some (.int .i64 a0_2) := (blk_cell BK544.out 2).trans rfl
              have hcz19_3 : w5.cell? ⟨gb544, 3, none⟩ = some (.slice A0_3 l0_3.length c0_3) := (blk_cell BK544.out 3).trans rfl
              have hcz19_4 : w5.cell? ⟨gb544, 4, none⟩ = some (.bool a0_4) := (blk_cell BK544.out 4).trans rfl
              have hcz19_5 : w5.cell? ⟨gb544, 5, none⟩ = some (.int .i64 a0_5) := (blk_cell BK544.out 5).trans rfl
              have hfz19_0 := blk_frozen BK544.out 0
              have hfz19_1 := blk_frozen BK544.out 1
              have hfz19_2 := blk_frozen BK544.out 2
              have hfz19_3 := blk_frozen BK544.out 3
              have hfz19_4 := blk_frozen BK544.out 4
              have hfz19_5 := blk_frozen BK544.out 5
              have hcz20_0 : w5.cell? ⟨gb545, 0, none⟩ = some (.slice A1_0 l1_0.length c1_0) := (blk_cell BK545.out 0).trans rfl
              have hcz20_1 : w5.cell? ⟨gb545, 1, none⟩ = some (.int .i64 a1_1) := (blk_cell BK545.out 1).trans rfl
              have hcz20_2 : w5.cell? ⟨gb545, 2, none⟩ = some (.int .i64 a1_2) := (blk_cell BK545.out 2).trans rfl
              have hcz20_3 : w5.cell? ⟨gb545, 3, none⟩ = some (.slice A1_3 l1_3.length c1_3) := (blk_cell BK545.out 3).trans rfl
              have hcz20_4 : w5.cell? ⟨gb545, 4, none⟩ = some (.bool a1_4) := (blk_cell BK545.out 4).trans rfl
              have hcz20_5 : w5.cell? ⟨gb545, 5, none⟩ = some (.int .i64 a1_5) := (blk_cell BK545.out 5).trans rfl
              have hfz20_0 := blk_frozen BK545.out 0
              have hfz20_1 := blk_frozen BK545.out 1
              have hfz20_2 := blk_frozen BK545.out 2
              have hfz20_3 := blk_frozen BK545.out 3
              have hfz20_4 := blk_frozen BK545.out 4
              have hfz20_5 := blk_frozen BK545.out 5
              go_wp2
              repeat (go_quiet (fail); try go_wp2)
              go_meet
              case rel => exact ⟨_, (true), (by first | rfl | (simp; done) | (simp [*]; done)), H', ⟨by first | omega | exact Nat.le_refl _⟩, ⟨by (with_reducible repeat (first | refine blk_drewN ?_ _ | refine blk_drew ?_ | refine blk_alloc ?_ _)); exact BK544.out⟩, ⟨by (with_reducible repeat (first | refine blk_drewN ?_ _ | refine blk_drew ?_ | refine blk_alloc ?_ _)); exact BK545.out⟩, ⟨by repeat (first | (with_reducible first | exact HB.out | apply below_alloc | apply pw_below_drewN | apply below_drew1 | refine below_set ?_ GE544.out | refine below_set ?_ GE545.out) | exact HB.out)⟩⟩
        · rw [if_neg c8] at H
          have c8b0 : (a0_2 == a1_2) = false := beq_eq_false_iff_ne.mpr c8
          have c8b1 : (a0_2 != a1_2) = true := bne_iff_ne.mpr c8
          have H' := Aside0.mk H
          clear H
          have hnb21 := NB544_545.out
          have hnc21 := NB545_544.out
          have hcz22_0 : w5.cell? ⟨gb544, 0, none⟩ = some (.slice A0_0 l0_0.length c0_0) := (blk_cell BK544.out 0).trans rfl
          have hcz22_1 : w5.cell? ⟨gb544, 1, none⟩ = some (.int .i64 a0_1) := (blk_cell BK544.out 1).trans rfl
          have hcz22_2 : w5.cell? ⟨gb544, 2, none⟩ = some (.int .i64 a0_2) := (blk_cell BK544.out 2).trans rfl
          have hcz22_3 : w5.cell? ⟨gb544, 3, none⟩ = some (.slice A0_3 l0_3.length c0_3) := (blk_cell BK544.out 3).trans rfl
          have hcz22_4 : w5.cell? ⟨gb544, 4, none⟩ = some (.bool a0_4) := (blk_cell BK544.out 4).trans rfl
          have hcz22_5 : w5.cell? ⟨gb544, 5, none⟩ = some (.int .i64 a0_5) := (blk_cell BK544.out 5).trans rfl
          have hfz22_0 := blk_frozen BK544.out 0
          have hfz22_1 := blk_frozen BK544.out 1
          have hfz22_2 := blk_frozen BK544.out 2
          have hfz22_3 := blk_frozen BK544.out 3
          have hfz22_4 := blk_frozen BK544.out 4
          have hfz22_5 := blk_frozen BK544.out 5
          have hcz23_0 : w5.cell? ⟨gb545, 0, none⟩ = some (.slice A1_0 l1_0.length c1_0) := (blk_cell BK545.out 0).trans rfl
          have hcz23_1 : w5.cell? ⟨gb545, 1, none⟩ = some (.int .i64 a1_1) := (blk_cell BK545.out 1).trans rfl
          have hcz23_2 : w5.cell? ⟨gb545, 2, none⟩ = some (.int .i64 a1_2) := (blk_cell BK545.out 2).trans rfl
          have hcz23_3 : w5.cell? ⟨gb545, 3, none⟩ = some (.slice A1_3 l1_3.length c1_3) := (blk_cell BK545.out 3).trans rfl
          have hcz23_4 : w5.cell? ⟨gb545, 4, none⟩ = some (.bool a1_4) := (blk_cell BK545.out 4).trans rfl
          have hcz23_5 : w5.cell? ⟨gb545, 5, none⟩ = some (.int .i64 a1_5) := (blk_cell BK545.out 5).trans rfl
          have hfz23_0 := blk_frozen BK545.out 0
          have hfz23_1 := blk_frozen BK545.out 1
          have hfz23_2 := blk_frozen BK545.out 2
          have hfz23_3 := blk_frozen BK545.out 3
          have hfz23_4 := blk_frozen BK545.out 4
          have hfz23_5 := blk_frozen BK545.out 5
          go_wp2
          repeat (go_quiet (fail); try go_wp2)
          go_meet
          case rel => exact ⟨_, (true), (by first | rfl | (simp; done) | (simp [*]; done)), H', ⟨by first | omega | exact Nat.le_refl _⟩, ⟨by (with_reducible repeat (first | refine blk_drewN ?_ _ | refine blk_drew ?_ | refine blk_alloc ?_ _)); exact BK544.out⟩, ⟨by (with_reducible repeat (first | refine blk_drewN ?_ _ | refine blk_drew ?_ | refine blk_alloc ?_ _)); exact BK545.out⟩, ⟨by repeat (first | (with_reducible first | exact HB.out | apply below_alloc | apply pw_below_drewN | apply below_drew1 | refine below_set ?_ GE544.out | refine below_set ?_ GE545.out) | exact HB.out)⟩⟩
      · rw [if_neg c7] at H
        have c7b0 : (a0_1 == a1_1) = false := beq_eq_false_iff_ne.mpr c7
        have c7b1 : (a0_1 != a1_1) = true := bne_iff_ne.mpr c7
        have H' := Aside0.mk H
        clear H
        have hnb24 := NB544_545.out
        have hnc24 := NB545_544.out
        have hcz25_0 : w5.cell? ⟨gb544, 0, none⟩ = some (.slice A0_0 l0_0.length c0_0) := (blk_cell BK544.out 0).trans rfl
        have hcz25_1 : w5.cell? ⟨gb544, 1, none⟩ = some (.int .i64 a0_1) := (blk_cell BK544.out 1).trans rfl
        have hcz25_2 : w5.cell? ⟨gb544, 2, none⟩ = some (.int .i64 a0_2) := (blk_cell BK544.out 2).trans rfl
        have hcz25_3 : w5.cell? ⟨gb544, 3, none⟩ = some (.slice A0_3 l0_3.length c0_3) := (blk_cell BK544.out 3).trans rfl
        have hcz25_4 : w5.cell? ⟨gb544, 4, none⟩ = some (.bool a0_4) := (blk_cell BK544.out 4).trans rfl
        have hcz25_5 : w5.cell? ⟨gb544, 5, none⟩ = some (.int .i64 a0_5) := (blk_cell BK544.out 5).trans rfl
        have hfz25_0 := blk_frozen BK544.out 0
        have hfz25_1 := blk_frozen BK544.out 1
        have hfz25_2 := blk_frozen BK544.out 2
        have hfz25_3 := blk_frozen BK544.out 3
        have hfz25_4 := blk_frozen BK544.out 4
        have hfz25_5 := blk_frozen BK544.out 5
        have hcz26_0 : w5.cell? ⟨gb545, 0, none⟩ = some (.slice A1_0 l1_0.length c1_0) := (blk_cell BK545.out 0).trans rfl
        have hcz26_1 : w5.cell? ⟨gb545, 1, none⟩ = some (.int .i64 a1_1) := (blk_cell BK545.out 1).trans rfl
        have hcz26_2 : w5.cell? ⟨gb545, 2, none⟩ = some (.int .i64 a1_2) := (blk_cell BK545.out 2).trans rfl
        have hcz26_3 : w5.cell? ⟨gb545, 3, none⟩ = some (.slice A1_3 l1_3.length c1_3) := (blk_cell BK545.out 3).trans rfl
        have hcz26_4 : w5.cell? ⟨gb545, 4, none⟩ = some (.bool a1_4) := (blk_cell BK545.out 4).trans rfl
        have hcz26_5 : w5.cell? ⟨gb545, 5, none⟩ = some (.int .i64 a1_5) := (blk_cell BK545.out 5).trans rfl
        have hfz26_0 := blk_frozen BK545.out 0
        have hfz26_1 := blk_frozen BK545.out 1
        have hfz26_2 := blk_frozen BK545.out 2
        have hfz26_3 := blk_frozen BK545.out 3
        have hfz26_4 := blk_frozen BK545.out 4
        have hfz26_5 := blk_frozen BK545.out 5
        go_wp2
        repeat (go_quiet (fail); try go_wp2)
        go_meet
        case rel => exact ⟨_, (true), (by first | rfl | (simp; done) | (simp [*]; done)), H', ⟨by first | omega | exact Nat.le_refl _⟩, ⟨by (with_reducible repeat (first | refine blk_drewN ?_ _ | refine blk_drew ?_ | refine blk_alloc ?_ _)); exact BK544.out⟩, ⟨by (with_reducible repeat (first | refine blk_drewN ?_ _ | refine blk_drew ?_ | refine blk_alloc ?_ _)); exact BK545.out⟩, ⟨by repeat (first | (with_reducible first | exact HB.out | apply below_alloc | apply pw_below_drewN | apply below_drew1 | refine below_set ?_ GE544.out | refine below_set ?_ GE545.out) | exact HB.out)⟩⟩
    · rw [if_neg c6] at H
      have c6b0 : ((l0_0.length : Int) == (l1_0.length : Int)) = false := beq_eq_false_iff_ne.mpr c6
      have c6b1 : ((l0_0.length : Int) != (l1_0.length : Int)) = true := bne_iff_ne.mpr c6
      have c6b2 : (l0_0.length == l1_0.length) = false := by first | simpa using c6 | (simp at c6 ⊢; omega)
      (first | rw [c6b0] | (simp only [i64_w, i32_w]; rw [c6b0]) | skip)
      have H' := Aside0.mk H
      clear H
      have hnb27 := NB544_545.out
      have hnc27 := NB545_544.out
      have hcz28_0 : w5.cell? ⟨gb544, 0, none⟩ = some (.slice A0_0 l0_0.length c0_0) := (blk_cell BK544.out 0).trans rfl
      have hcz28_1 : w5.cell? ⟨gb544, 1, none⟩ = some (.int .i64 a0_1) := (blk_cell BK544.out 1).trans rfl
      have hcz28_2 : w5.cell? ⟨gb544, 2, none⟩ = some (.int .i64 a0_2) := (blk_cell BK544.out 2).trans rfl
      have hcz28_3 : w5.cell? ⟨gb544, 3, none⟩ = some (.slice A0_3 l0_3.length c0_3) := (blk_cell BK544.out 3).trans rfl
      have hcz28_4 : w5.cell? ⟨gb544, 4, none⟩ = some (.bool a0_4) := (blk_cell BK544.out 4).trans rfl
      have hcz28_5 : w5.cell? ⟨gb544, 5, none⟩ = some (.int .i64 a0_5) := (blk_cell BK544.out 5).trans rfl
      have hfz28_0 := blk_frozen BK544.out 0
      have hfz28_1 := blk_frozen BK544.out 1
      have hfz28_2 := blk_frozen BK544.out 2
      have hfz28_3 := blk_frozen BK544.out 3
      have hfz28_4 := blk_frozen BK544.out 4
      have hfz28_5 := blk_frozen BK544.out 5
      have hcz29_0 : w5.cell? ⟨gb545, 0, none⟩ = some (.slice A1_0 l1_0.length c1_0) := (blk_cell BK545.out 0).trans rfl
      have hcz29_1 : w5.cell? ⟨gb545, 1, none⟩ = some (.int .i64 a1_1) := (blk_cell BK545.out 1).trans rfl
      have hcz29_2 : w5.cell? ⟨gb545, 2, none⟩ = some (.int .i64 a1_2) := (blk_cell BK545.out 2).trans rfl
      have hcz29_3 : w5.cell? ⟨gb545, 3, none⟩ = some (.slice A1_3 l1_3.length c1_3) := (blk_cell BK545.out 3).trans rfl
      have hcz29_4 : w5.cell? ⟨gb545, 4, none⟩ = some (.bool a1_4) := (blk_cell BK545.out 4).trans rfl
      have hcz29_5 : w5.cell? ⟨gb545, 5, none⟩ = some (.int .i64 a1_5) := (blk_cell BK545.out 5).trans rfl
      have hfz29_0 := blk_frozen BK545.out 0
      have hfz29_1 := blk_frozen BK545.out 1
      have hfz29_2 := blk_frozen BK545.out 2
      have hfz29_3 := blk_frozen BK545.out 3
      have hfz29_4 := blk_frozen BK545.out 4
      have hfz29_5 := blk_frozen BK545.out 5
      go_wp2
      repeat (go_quiet (fail); try go_wp2)
      go_meet
      case rel => exact ⟨_, (true), (by first | rfl | (simp; done) | (simp [*]; done)), H', ⟨by first | omega | exact Nat.le_refl _⟩, ⟨by (with_reducible repeat (first | refine blk_drewN ?_ _ | refine blk_drew ?_ | refine blk_alloc ?_ _)); exact BK544.out⟩, ⟨by (with_reducible repeat (first | refine blk_drewN ?_ _ | refine blk_drew ?_ | refine blk_alloc ?_ _)); exact BK545.out⟩, ⟨by repeat (first | (with_reducible first | exact HB.out | apply below_alloc | apply pw_below_drewN | apply below_drew1 | refine below_set ?_ GE544.out | refine below_set ?_ GE545.out) | exact HB.out)⟩⟩
  case rest =>
    clear HC3
    try clear c1
    try clear c2
    try clear p2
    try clear c4
    try clear c6
    try clear c6b0
    try clear c6b1
    try clear c6b2
    try clear c7
    try clear c7b0
    try clear c7b1
    try clear c8
    try clear c8b0
    try clear c8b1
    try clear c9
    try clear c9b0
    try clear c9b1
    try clear c9b2
    try clear c10
    try clear c13
    try clear c13b0
    try clear c13b1
    try clear c15
    try clear c18
    try clear c21
    try clear c24
    try clear c27
    try clear hcz11_0
    try clear hcz11_1
    try clear hcz11_2
    try clear hcz11_3
    try clear hcz11_4
    try clear hcz11_5
    try clear hcz12_0
    try clear hcz12_1
    try clear hcz12_2
    try clear hcz12_3
    try clear hcz12_4
    try clear hcz12_5
    try clear hcz16_0
    try clear hcz16_1
    try clear hcz16_2
    try clear hcz16_3
    try clear hcz16_4
    try clear hcz16_5
    try clear hcz17_0
    try clear hcz17_1
    try clear hcz17_2
    try clear hcz17_3
    try clear hcz17_4
    try clear hcz17_5
    try clear hcz19_0
    try clear hcz19_1
    try clear hcz19_2
    try clear hcz19_3
    try clear hcz19_4
    try clear hcz19_5
    try clear hcz20_0
    try clear hcz20_1
    try clear hcz20_2
    try clear hcz20_3
    try clear hcz20_4
    try clear hcz20_5
    try clear hcz22_0
    try clear hcz22_1
    try clear hcz22_2
    try clear hcz22_3
    try clear hcz22_4
    try clear hcz22_5
    try clear hcz23_0
    try clear hcz23_1
    try clear hcz23_2
    try clear hcz23_3
    try clear hcz23_4
    try clear hcz23_5
    try clear hcz25_0
    try clear hcz25_1
    try clear hcz25_2
    try clear hcz25_3
    try clear hcz25_4
    try clear hcz25_5
    try clear hcz26_0
    try clear hcz26_1
    try clear hcz26_2
    try clear hcz26_3
    try clear hcz26_4
    try clear hcz26_5
    try clear hcz28_0
    try clear hcz28_1
    try clear hcz28_2
    try clear hcz28_3
    try clear hcz28_4
    try clear hcz28_5
    try clear hcz29_0
    try clear hcz29_1
    try clear hcz29_2
    try clear hcz29_3
    try clear hcz29_4
    try clear hcz29_5
    try clear hfz11_0
    try clear hfz11_1
    try clear hfz11_2
    try clear hfz11_3
    try clear hfz11_4
    try clear hfz11_5
    try clear hfz12_0
    try clear hfz12_1
    try clear hfz12_2
    try clear hfz12_3
    try clear hfz12_4
    try clear hfz12_5
    try clear hfz16_0
    try clear hfz16_1
    try clear hfz16_2
    try clear hfz16_3
    try clear hfz16_4
    try clear hfz16_5
    try clear hfz17_0
    try clear hfz17_1
    try clear hfz17_2
    try clear hfz17_3
    try clear hfz17_4
    try clear hfz17_5
    try clear hfz19_0
    try clear hfz19_1
    try clear hfz19_2
    try clear hfz19_3
    try clear hfz19_4
    try clear hfz19_5
    try clear hfz20_0
    try clear hfz20_1
    try clear hfz20_2
    try clear hfz20_3
    try clear hfz20_4
    try clear hfz20_5
    try clear hfz22_0
    try clear hfz22_1
    try clear hfz22_2
    try clear hfz22_3
    try clear hfz22_4
    try clear hfz22_5
    try clear hfz23_0
    try clear hfz23_1
    try clear hfz23_2
    try clear hfz23_3
    try clear hfz23_4
    try clear hfz23_5
    try clear hfz25_0
    try clear hfz25_1
    try clear hfz25_2
    try clear hfz25_3
    try clear hfz25_4
    try clear hfz25_5
    try clear hfz26_0
    try clear hfz26_1
    try clear hfz26_2
    try clear hfz26_3
    try clear hfz26_4
    try clear hfz26_5
    try clear hfz28_0
    try clear hfz28_1
    try clear hfz28_2
    try clear hfz28_3
    try clear hfz28_4
    try clear hfz28_5
    try clear hfz29_0
    try clear hfz29_1
    try clear hfz29_2
    try clear hfz29_3
    try clear hfz29_4
    try clear hfz29_5
    obtain ⟨kq, x48_2, rfl, HA, HJ2, BK544, BK545, HB⟩ := hcut
    cases kq with
    | zero => exact absurd HA.out (by simp [crossbarref30_Same.j0])
    | succ kj2 =>
      have H := HA.out
      clear HA
      simp only [crossbarref30_Same.j0] at H
      by_cases c30 : x48_2 = true
      · subst c30
        have H1 : (some false) = some r := by rw [if_pos rfl] at H; exact H
        clear H
        have H := H1
        clear H1
        obtain rfl := Option.some.inj H
        go_wp2
        repeat (go_quiet (fail); try go_wp2)
        go_ret
        exact ⟨by first | rfl | (simp [errW_none, errW_some] <;> rfl) | (simp [*, errW_none, errW_some] <;> rfl), by repeat (first | (with_reducible first | exact HB.out | apply below_alloc | apply pw_below_drewN | apply below_drew1 | refine below_set ?_ GE544.out | refine below_set ?_ GE545.out) | exact HB.out)⟩
      · replace c30 := Bool.eq_false_iff.mpr c30
        subst c30
        have H1 : (crossbarref30_Same.l0 kj2 0 l0_0 a0_1 a0_2 l0_3 a0_4 a0_5 l1_0 a1_1 a1_2 l1_3 a1_4 a1_5) = some r := by rw [if_neg (show ¬ (false = true) by decide)] at H; exact H
        clear H
        have H := H1
        clear H1
        have H' := Aside0.mk H
        clear H
        go_wp2
        repeat (go_quiet (fail); try go_wp2)
        go_loopg [5] kj2 (fun kq v5 w' => ∃ (x5_2 : Int), v5 = .int .i64 x5_2 ∧ Aside0 (crossbarref30_Same.l0 kq x5_2 l0_0 a0_1 a0_2 l0_3 a0_4 a0_5 l1_0 a1_1 a1_2 l1_3 a1_4 a1_5 = some r) ∧ Aside0 (kq ≤ kj2) ∧ Aside0 (w'.heap[gb544]? = some (.cells #[(.slice A0_0 l0_0.length c0_0), .int .i64 a0_1, .int .i64 a0_2, (.slice A0_3 l0_3.length c0_3), .bool a0_4, .int .i64 a0_5] 61 (0, 0))) ∧ Aside0 (w'.heap[gb545]? = some (.cells #[(.slice A1_0 l1_0.length c1_0), .int .i64 a1_1, .int .i64 a1_2, (.slice A1_3 l1_3.length c1_3), .bool a1_4, .int .i64 a1_5] 61 (0, 0))) ∧ Aside0 (Below w.heap.size w w'))
        case atStart => exact ⟨(0), (by first | rfl | (simp; done) | (simp [*]; done)), H', ⟨Nat.le_refl _⟩, ⟨by (with_reducible repeat (first | refine blk_drewN ?_ _ | refine blk_drew ?_ | refine blk_alloc ?_ _)); exact BK544.out⟩, ⟨by (with_reducible repeat (first | refine blk_drewN ?_ _ | refine blk_drew ?_ | refine blk_alloc ?_ _)); exact BK545.out⟩, ⟨by repeat (first | (with_reducible first | exact HB.out | apply below_alloc | apply pw_below_drewN | apply below_drew1 | refine below_set ?_ GE544.out | refine below_set ?_ GE545.out) | exact HB.out)⟩⟩
        case round =>
          clear H'
          try clear c1
          try clear c2
          try clear p2
          try clear c3
          try clear c4
          try clear c6
          try clear c6b0
          try clear c6b1
          try clear c6b2
          try clear c7
          try clear c7b0
          try clear c7b1
          try clear c8
          try clear c8b0
          try clear c8b1
          try clear c9
          try clear c9b0
          try clear c9b1
          try clear c9b2
          try clear c10
          try clear c13
          try clear c13b0
          try clear c13b1
          try clear c15
          try clear c18
          try clear c21
          try clear c24
          try clear c27
          try clear c30
          try clear hcz11_0
          try clear hcz11_1
          try clear hcz11_2
          try clear hcz11_3
          try clear hcz11_4
          try clear hcz11_5
          try clear hcz12_0
          try clear hcz12_1
          try clear hcz12_2
          try clear hcz12_3
          try clear hcz12_4
          try clear hcz12_5
          try clear hcz16_0
          try clear hcz16_1
          try clear hcz16_2
          try clear hcz16_3
          try clear hcz16_4
          try clear hcz16_5
          try clear hcz17_0
          try clear hcz17_1
          try clear hcz17_2
          try clear hcz17_3
          try clear hcz17_4
          try clear hcz17_5
          try clear hcz19_0
          try clear hcz19_1
          try clear hcz19_2
          try clear hcz19_3
          try clear hcz19_4
          try clear hcz19_5
          try clear hcz20_0
          try clear hcz20_1
          try clear hcz20_2
          try clear hcz20_3
          try clear hcz20_4
          try clear hcz20_5
          try clear hcz22_0
          try clear hcz22_1
          try clear hcz22_2
          try clear hcz22_3
          try clear hcz22_4
          try clear hcz22_5
          try clear hcz23_0
          try clear hcz23_1
          try clear hcz23_2
          try clear hcz23_3
          try clear hcz23_4
          try clear hcz23_5
          try clear hcz25_0
          try clear hcz25_1
          try clear hcz25_2
          try clear hcz25_3
          try clear hcz25_4
          try clear hcz25_5
          try clear hcz26_0
          try clear hcz26_1
          try clear hcz26_2
          try clear hcz26_3
          try clear hcz26_4
          try clear hcz26_5
          try clear hcz28_0
          try clear hcz28_1
          try clear hcz28_2
          try clear hcz28_3
          try clear hcz28_4
          try clear hcz28_5
          try clear hcz29_0
          try clear hcz29_1
          try clear hcz29_2
          try clear hcz29_3
          try clear hcz29_4
          try clear hcz29_5
          try clear hfz11_0
          try clear hfz11_1
          try clear hfz11_2
          try clear hfz11_3
          try clear hfz11_4
          try clear hfz11_5
          try clear hfz12_0
          try clear hfz12_1
          try clear hfz12_2
          try clear hfz12_3
          try clear hfz12_4
          try clear hfz12_5
          try clear hfz16_0
          try clear hfz16_1
          try clear hfz16_2
          try clear hfz16_3
          try clear hfz16_4
          try clear hfz16_5
          try clear hfz17_0
          try clear hfz17_1
          try clear hfz17_2
          try clear hfz17_3
          try clear hfz17_4
          try clear hfz17_5
          try clear hfz19_0
          try clear hfz19_1
          try clear hfz19_2
          try clear hfz19_3
          try clear hfz19_4
          try clear hfz19_5
          try clear hfz20_0
          try clear hfz20_1
          try clear hfz20_2
          try clear hfz20_3
          try clear hfz20_4
          try clear hfz20_5
          try clear hfz22_0
          try clear hfz22_1
          try clear hfz22_2
          try clear hfz22_3
          try clear hfz22_4
          try clear hfz22_5
          try clear hfz23_0
          try clear hfz23_1
          try clear hfz23_2
          try clear hfz23_3
          try clear hfz23_4
          try clear hfz23_5
          try clear hfz25_0
          try clear hfz25_1
          try clear hfz25_2
          try clear hfz25_3
          try clear hfz25_4
          try clear hfz25_5
          try clear hfz26_0
          try clear hfz26_1
          try clear hfz26_2
          try clear hfz26_3
          try clear hfz26_4
          try clear hfz26_5
          try clear hfz28_0
          try clear hfz28_1
          try clear hfz28_2
          try clear hfz28_3
          try clear hfz28_4
          try clear hfz28_5
          try clear hfz29_0
          try clear hfz29_1
          try clear hfz29_2
          try clear hfz29_3
          try clear hfz29_4
          try clear hfz29_5
          try clear p2
          obtain ⟨x5_2, rfl, HA, HK2, BK544, BK545, HB⟩ := hrel
          cases gk with
          | zero => exact absurd HA.out (by simp [crossbarref30_Same.l0])
          | succ k2 =>
            have H := HA.out
            clear HA
            simp only [crossbarref30_Same.l0] at H
            by_cases c31 : x5_2 < (l0_0.length : Int)
            · rw [if_pos c31] at H
              have c31b0 : decide (x5_2 < (l0_0.length : Int)) = true := decide_eq_true c31
              clear c31
              by_cases c32 : 0 ≤ x5_2
              · rw [if_pos c32] at H
                have c32b0 : decide (0 ≤ x5_2) = true := decide_eq_true c32
                clear c32
                by_cases c33 : x5_2 < (l1_0.length : Int)
                · rw [if_pos c33] at H
                  have c33b0 : decide (x5_2 < (l1_0.length : Int)) = true := decide_eq_true c33
                  clear c33
                  replace H := Option.bind_eq_some_iff.mp H
                  obtain ⟨t549, A340, H⟩ := H
                  replace H : (if t549 = true then (crossbarref30_Same.l0 k2 (wrap64 (x5_2 + 1)) l0_0 a0_1 a0_2 l0_3 a0_4 a0_5 l1_0 a1_1 a1_2 l1_3 a1_4 a1_5) else (some false)) = some r := H
                  have A34 := Aside0.mk A340
                  clear A340
                  by_cases c35 : t549 = true
                  · subst c35
                    have H1 : (crossbarref30_Same.l0 k2 (wrap64 (x5_2 + 1)) l0_0 a0_1 a0_2 l0_3 a0_4 a0_5 l1_0 a1_1 a1_2 l1_3 a1_4 a1_5) = some r := by rw [if_pos rfl] at H; exact H
                    clear H
                    have H := H1
                    clear H1
                    have H' := Aside0.mk H
                    clear H
                    have hnb36 := NB544_545.out
                    have hnc36 := NB545_544.out
                    have hcz37_0 : wr.cell? ⟨gb544, 0, none⟩ = some (.slice A0_0 l0_0.length c0_0) := (blk_cell BK544.out 0).trans rfl
                    have hcz37_1 : wr.cell? ⟨gb544, 1, none⟩ = some (.int .i64 a0_1) := (blk_cell BK544.out 1).trans rfl
                    have hcz37_2 : wr.cell? ⟨gb544, 2, none⟩ = some (.int .i64 a0_2) := (blk_cell BK544.out 2).trans rfl
                    have hcz37_3 : wr.cell? ⟨gb544, 3, none⟩ = some (.slice A0_3 l0_3.length c0_3) := (blk_cell BK544.out 3).trans rfl
                    have hcz37_4 : wr.cell? ⟨gb544, 4, none⟩ = some (.bool a0_4) := (blk_cell BK544.out 4).trans rfl
                    have hcz37_5 : wr.cell? ⟨gb544, 5, none⟩ = some (.int .i64 a0_5) := (blk_cell BK544.out 5).trans rfl
                    have hfz37_0 := blk_frozen BK544.out 0
                    have hfz37_1 := blk_frozen BK544.out 1
                    have hfz37_2 := blk_frozen BK544.out 2
                    have hfz37_3 := blk_frozen BK544.out 3
                    have hfz37_4 := blk_frozen BK544.out 4
                    have hfz37_5 := blk_frozen BK544.out 5
                    have p547 : 0 ≤ (x5_2 : Int) := of_decide_eq_true (by first | (with_reducible assumption) | assumption)
                    have q547 : x5_2 < (l0_0.length : Int) := of_decide_eq_true (by first | (with_reducible assumption) | assumption)
                    obtain ⟨ad547, A547_0, c547_0, e547, hx547_0, hl547_0, hi547_0⟩ := at_L7 HR0_0.out x5_2 p547 q547
                    cases e547
                    replace hx547_0 := (HB.out.cell (World.block_lt_of_cell? w _ hx547_0)).trans hx547_0
                    have HR547_0 := Aside0.mk hi547_0
                    have HC547_0 := Aside0.mk hl547_0
                    clear hi547_0 hl547_0
                    replace p547 := eq_true p547
                    replace q547 := eq_true q547
                    have hcz38_0 : wr.cell? ⟨gb545, 0, none⟩ = some (.slice A1_0 l1_0.length c1_0) := (blk_cell BK545.out 0).trans rfl
                    have hcz38_1 : wr.cell? ⟨gb545, 1, none⟩ = some (.int .i64 a1_1) := (blk_cell BK545.out 1).trans rfl
                    have hcz38_2 : wr.cell? ⟨gb545, 2, none⟩ = some (.int .i64 a1_2) := (blk_cell BK545.out 2).trans rfl
                    have hcz38_3 : wr.cell? ⟨gb545, 3, none⟩ = some (.slice A1_3 l1_3.length c1_3) := (blk_cell BK545.out 3).trans rfl
                    have hcz38_4 : wr.cell? ⟨gb545, 4, none⟩ = some (.bool a1_4) := (blk_cell BK545.out 4).trans rfl
                    have hcz38_5 : wr.cell? ⟨gb545, 5, none⟩ = some (.int .i64 a1_5) := (blk_cell BK545.out 5).trans rfl
                    have hfz38_0 := blk_frozen BK545.out 0
                    have hfz38_1 := blk_frozen BK545.out 1
                    have hfz38_2 := blk_frozen BK545.out 2
                    have hfz38_3 := blk_frozen BK545.out 3
                    have hfz38_4 := blk_frozen BK545.out 4
                    have hfz38_5 := blk_frozen BK545.out 5
                    have p548 : 0 ≤ (x5_2 : Int) := of_decide_eq_true (by first | (with_reducible assumption) | assumption)
                    have q548 : x5_2 < (l1_0.length : Int) := of_decide_eq_true (by first | (with_reducible assumption) | assumption)
                    obtain ⟨ad548, A548_0, c548_0, e548, hx548_0, hl548_0, hi548_0⟩ := at_L7 HR1_0.out x5_2 p548 q548
                    cases e548
                    replace hx548_0 := (HB.out.cell (World.block_lt_of_cell? w _ hx548_0)).trans hx548_0
                    have HR548_0 := Aside0.mk hi548_0
                    have HC548_0 := Aside0.mk hl548_0
                    clear hi548_0 hl548_0
                    replace p548 := eq_true p548
                    replace q548 := eq_true q548
                    go_wp2_with (first | (go_at_call 42; (with_reducible refine (crossbarref30_SameRecords.calls k2 _ _ (rd_L7 l0_0 x5_2) _ _ (rd_L7 l1_0 x5_2) true _ ?side1 ?side2 ?side3 ?side4 A34.out).mono ?_); (case side1 => repeat (first | exact (Kd.C_below HR547_0.out HB.out) | (with_reducible refine Kd.C_alloc ?_ _) | (with_reducible refine Kd.C_drewN ?_ _) | (with_reducible refine Kd.C_drew ?_))); (case side2 => exact HC547_0.out); (case side3 => repeat (first | exact (Kd.C_below HR548_0.out HB.out) | (with_reducible refine Kd.C_alloc ?_ _) | (with_reducible refine Kd.C_drewN ?_ _) | (with_reducible refine Kd.C_drew ?_))); (case side4 => exact HC548_0.out); rintro e w' ⟨rfl, ⟨nd, rfl⟩⟩; (try first | exact ⟨rfl, _, World.drewN_drewN _ _ _⟩ | exact ⟨rfl, _, Eq.trans (World.drewN_drewN _ _ _) (congrArg (World.drewN _) (Nat.add_assoc _ _ _))⟩)))
                    repeat (go_quiet (first | (go_at_call 42; (with_reducible refine (crossbarref30_SameRecords.calls k2 _ _ (rd_L7 l0_0 x5_2) _ _ (rd_L7 l1_0 x5_2) true _ ?side1 ?side2 ?side3 ?side4 A34.out).mono ?_); (case side1 => repeat (first | exact (Kd.C_below HR547_0.out HB.out) | (with_reducible refine Kd.C_alloc ?_ _) | (with_reducible refine Kd.C_drewN ?_ _) | (with_reducible refine Kd.C_drew ?_))); (case side2 => exact HC547_0.out); (case side3 => repeat (first | exact (Kd.C_below HR548_0.out HB.out) | (with_reducible refine Kd.C_alloc ?_ _) | (with_reducible refine Kd.C_drewN ?_ _) | (with_reducible refine Kd.C_drew ?_))); (case side4 => exact HC548_0.out); rintro e w' ⟨rfl, ⟨nd, rfl⟩⟩; (try first | exact ⟨rfl, _, World.drewN_drewN _ _ _⟩ | exact ⟨rfl, _, Eq.trans (World.drewN_drewN _ _ _) (congrArg (World.drewN _) (Nat.add_assoc _ _ _))⟩))); try go_wp2_with (first | (go_at_call 42; (with_reducible refine (crossbarref30_SameRecords.calls k2 _ _ (rd_L7 l0_0 x5_2) _ _ (rd_L7 l1_0 x5_2) true _ ?side1 ?side2 ?side3 ?side4 A34.out).mono ?_); (case side1 => repeat (first | exact (Kd.C_below HR547_0.out HB.out) | (with_reducible refine Kd.C_alloc ?_ _) | (with_reducible refine Kd.C_drewN ?_ _) | (with_reducible refine Kd.C_drew ?_))); (case side2 => exact HC547_0.out); (case side3 => repeat (first | exact (Kd.C_below HR548_0.out HB.out) | (with_reducible refine Kd.C_alloc ?_ _) | (with_reducible refine Kd.C_drewN ?_ _) | (with_reducible refine Kd.C_drew ?_))); (case side4 => exact HC548_0.out); rintro e w' ⟨rfl, ⟨nd, rfl⟩⟩; (try first | exact ⟨rfl, _, World.drewN_drewN _ _ _⟩ | exact ⟨rfl, _, Eq.trans (World.drewN_drewN _ _ _) (congrArg (World.drewN _) (Nat.add_assoc _ _ _))⟩))))
                    go_roundg k2
                    case measure => have := HJ2.out; have := HK2.out; omega
                    case rel => exact ⟨(wrap64 (x5_2 + 1)), (by first | rfl | (simp; done) | (simp [*]; done)), H', ⟨by have := HJ2.out; have := HK2.out; omega⟩, ⟨by (with_reducible repeat (first | refine blk_drewN ?_ _ | refine blk_drew ?_ | refine blk_alloc ?_ _)); exact BK544.out⟩, ⟨by (with_reducible repeat (first | refine blk_drewN ?_ _ | refine blk_drew ?_ | refine blk_alloc ?_ _)); exact BK545.out⟩, ⟨by repeat (first | (with_reducible first | exact HB.out | apply below_alloc | apply pw_below_drewN | apply below_drew1 | refine below_set ?_ GE544.out | refine below_set ?_ GE545.out) | exact HB.out)⟩⟩
                  · replace c35 := Bool.eq_false_iff.mpr c35
                    subst c35
                    have H1 : (some false) = some r := by rw [if_neg (show ¬ (false = true) by decide)] at H; exact H
                    clear H
                    have H := H1
                    clear H1
                    obtain rfl := Option.some.inj H
                    have hnb39 := NB544_545.out
                    have hnc39 := NB545_544.out
                    have hcz40_0 : wr.cell? ⟨gb544, 0, none⟩ = some (.slice A0_0 l0_0.length c0_0) := (blk_cell BK544.out 0).trans rfl
                    have hcz40_1 : wr.cell? ⟨gb544, 1, none⟩ = some (.int .i64 a0_1) := (blk_cell BK544.out 1).trans rfl
                    have hcz40_2 : wr.cell? ⟨gb544, 2, none⟩ = some (.int .i64 a0_2) := (blk_cell BK544.out 2).trans rfl
                    have hcz40_3 : wr.cell? ⟨gb544, 3, none⟩ = some (.slice A0_3 l0_3.length c0_3) := (blk_cell BK544.out 3).trans rfl
                    have hcz40_4 : wr.cell? ⟨gb544, 4, none⟩ = some (.bool a0_4) := (blk_cell BK544.out 4).trans rfl
                    have hcz40_5 : wr.cell? ⟨gb544, 5, none⟩ = some (.int .i64 a0_5) := (blk_cell BK544.out 5).trans rfl
                    have hfz40_0 := blk_frozen BK544.out 0
                    have hfz40_1 := blk_frozen BK544.out 1
                    have hfz40_2 := blk_frozen BK544.out 2
                    have hfz40_3 := blk_frozen BK544.out 3
                    have hfz40_4 := blk_frozen BK544.out 4
                    have hfz40_5 := blk_frozen BK544.out 5
                    have p547 : 0 ≤ (x5_2 : Int) := of_decide_eq_true (by first | (with_reducible assumption) | assumption)
                    have q547 : x5_2 < (l0_0.length : Int) := of_decide_eq_true (by first | (with_reducible assumption) | assumption)
                    obtain ⟨ad547, A547_0, c547_0, e547, hx547_0, hl547_0, hi547_0⟩ := at_L7 HR0_0.out x5_2 p547 q547
                    cases e547
                    replace hx547_0 := (HB.out.cell (World.block_lt_of_cell? w _ hx547_0)).trans hx547_0
                    have HR547_0 := Aside0.mk hi547_0
                    have HC547_0 := Aside0.mk hl547_0
                    clear hi547_0 hl547_0
                    replace p547 := eq_true p547
                    replace q547 := eq_true q547
                    have hcz41_0 : wr.cell? ⟨gb545, 0, none⟩ = some (.slice A1_0 l1_0.length c1_0) := (blk_cell BK545.out 0).trans rfl
                    have hcz41_1 : wr.cell? ⟨gb545, 1, none⟩ = some (.int .i64 a1_1) := (blk_cell BK545.out 1).trans rfl
                    have hcz41_2 : wr.cell? ⟨gb545, 2, none⟩ = some (.int .i64 a1_2) := (blk_cell BK545.out 2).trans rfl
                    have hcz41_3 : wr.cell? ⟨gb545, 3, none⟩ = some (.slice A1_3 l1_3.length c1_3) := (blk_cell BK545.out 3).trans rfl
                    have hcz41_4 : wr.cell? ⟨gb545, 4, none⟩ = some (.bool a1_4) := (blk_cell BK545.out 4).trans rfl
                    have hcz41_5 : wr.cell? ⟨gb545, 5, none⟩ = some (.int .i64 a1_5) := (blk_cell BK545.out 5).trans rfl
                    have hfz41_0 := blk_frozen BK545.out 0
                    have hfz41_1 := blk_frozen BK545.out 1
                    have hfz41_2 := blk_frozen BK545.out 2
                    have hfz41_3 := blk_frozen BK545.out 3
                    have hfz41_4 := blk_frozen BK545.out 4
                    have hfz41_5 := blk_frozen BK545.out 5
                    have p548 : 0 ≤ (x5_2 : Int) := of_decide_eq_true (by first | (with_reducible assumption) | assumption)
                    have q548 : x5_2 < (l1_0.length : Int) := of_decide_eq_true (by first | (with_reducible assumption) | assumption)
                    obtain ⟨ad548, A548_0, c548_0, e548, hx548_0, hl548_0, hi548_0⟩ := at_L7 HR1_0.out x5_2 p548 q548
                    cases e548
                    replace hx548_0 := (HB.out.cell (World.block_lt_of_cell? w _ hx548_0)).trans hx548_0
                    have HR548_0 := Aside0.mk hi548_0
                    have HC548_0 := Aside0.mk hl548_0
                    clear hi548_0 hl548_0
                    replace p548 := eq_true p548
                    replace q548 := eq_true q548
                    go_wp2_with (first | (go_at_call 42; (with_reducible refine (crossbarref30_SameRecords.calls k2 _ _ (rd_L7 l0_0 x5_2) _ _ (rd_L7 l1_0 x5_2) false _ ?side1 ?side2 ?side3 ?side4 A34.out).mono ?_); (case side1 => repeat (first | exact (Kd.C_below HR547_0.out HB.out) | (with_reducible refine Kd.C_alloc ?_ _) | (with_reducible refine Kd.C_drewN ?_ _) | (with_reducible refine Kd.C_drew ?_))); (case side2 => exact HC547_0.out); (case side3 => repeat (first | exact (Kd.C_below HR548_0.out HB.out) | (with_reducible refine Kd.C_alloc ?_ _) | (with_reducible refine Kd.C_drewN ?_ _) | (with_reducible refine Kd.C_drew ?_))); (case side4 => exact HC548_0.out); rintro e w' ⟨rfl, ⟨nd, rfl⟩⟩; (try first | exact ⟨rfl, _, World.drewN_drewN _ _ _⟩ | exact ⟨rfl, _, Eq.trans (World.drewN_drewN _ _ _) (congrArg (World.drewN _) (Nat.add_assoc _ _ _))⟩)))
                    repeat (go_quiet (first | (go_at_call 42; (with_reducible refine (crossbarref30_SameRecords.calls k2 _ _ (rd_L7 l0_0 x5_2) _ _ (rd_L7 l1_0 x5_2) false _ ?side1 ?side2 ?side3 ?side4 A34.out).mono ?_); (case side1 => repeat (first | exact (Kd.C_below HR547_0.out HB.out) | (with_reducible refine Kd.C_alloc ?_ _) | (with_reducible refine Kd.C_drewN ?_ _) | (with_reducible refine Kd.C_drew ?_))); (case side2 => exact HC547_0.out); (case side3 => repeat (first | exact (Kd.C_below HR548_0.out HB.out) | (with_reducible refine Kd.C_alloc ?_ _) | (with_reducible refine Kd.C_drewN ?_ _) | (with_reducible refine Kd.C_drew ?_))); (case side4 => exact HC548_0.out); rintro e w' ⟨rfl, ⟨nd, rfl⟩⟩; (try first | exact ⟨rfl, _, World.drewN_drewN _ _ _⟩ | exact ⟨rfl, _, Eq.trans (World.drewN_drewN _ _ _) (congrArg (World.drewN _) (Nat.add_assoc _ _ _))⟩))); try go_wp2_with (first | (go_at_call 42; (with_reducible refine (crossbarref30_SameRecords.calls k2 _ _ (rd_L7 l0_0 x5_2) _ _ (rd_L7 l1_0 x5_2) false _ ?side1 ?side2 ?side3 ?side4 A34.out).mono ?_); (case side1 => repeat (first | exact (Kd.C_below HR547_0.out HB.out) | (with_reducible refine Kd.C_alloc ?_ _) | (with_reducible refine Kd.C_drewN ?_ _) | (with_reducible refine Kd.C_drew ?_))); (case side2 => exact HC547_0.out); (case side3 => repeat (first | exact (Kd.C_below HR548_0.out HB.out) | (with_reducible refine Kd.C_alloc ?_ _) | (with_reducible refine Kd.C_drewN ?_ _) | (with_reducible refine Kd.C_drew ?_))); (case side4 => exact HC548_0.out); rintro e w' ⟨rfl, ⟨nd, rfl⟩⟩; (try first | exact ⟨rfl, _, World.drewN_drewN _ _ _⟩ | exact ⟨rfl, _, Eq.trans (World.drewN_drewN _ _ _) (congrArg (World.drewN _) (Nat.add_assoc _ _ _))⟩))))
                    go_ret
                    exact ⟨by first | rfl | (simp [errW_none, errW_some] <;> rfl) | (simp [*, errW_none, errW_some] <;> rfl), by repeat (first | (with_reducible first | exact HB.out | apply below_alloc | apply pw_below_drewN | apply below_drew1 | refine below_set ?_ GE544.out | refine below_set ?_ GE545.out) | exact HB.out)⟩
                · rw [if_neg c33] at H
                  exact absurd H (by simp)
              · rw [if_neg c32] at H
                exact absurd H (by simp)
            · rw [if_neg c31] at H
              have c31b0 : decide (x5_2 < (l0_0.length : Int)) = false := decide_eq_false c31
              clear c31
              obtain rfl := Option.some.inj H
              have hnb42 := NB544_545.out
              have hnc42 := NB545_544.out
              have hcz43_0 : wr.cell? ⟨gb544, 0, none⟩ = some (.slice A0_0 l0_0.length c0_0) := (blk_cell BK544.out 0).trans rfl
              have hcz43_1 : wr.cell? ⟨gb544, 1, none⟩ = some (.int .i64 a0_1) := (blk_cell BK544.out 1).trans rfl
              have hcz43_2 : wr.cell? ⟨gb544, 2, none⟩ = some (.int .i64 a0_2) := (blk_cell BK544.out 2).trans rfl
              have hcz43_3 : wr.cell? ⟨gb544, 3, none⟩ = some (.slice A0_3 l0_3.length c0_3) := (blk_cell BK544.out 3).trans rfl
              have hcz43_4 : wr.cell? ⟨gb544, 4, none⟩ = some (.bool a0_4) := (blk_cell BK544.out 4).trans rfl
              have hcz43_5 : wr.cell? ⟨gb544, 5, none⟩ = some (.int .i64 a0_5) := (blk_cell BK544.out 5).trans rfl
              have hfz43_0 := blk_frozen BK544.out 0
              have hfz43_1 := blk_frozen BK544.out 1
              have hfz43_2 := blk_frozen BK544.out 2
              have hfz43_3 := blk_frozen BK544.out 3
              have hfz43_4 := blk_frozen BK544.out 4
              have hfz43_5 := blk_frozen BK544.out 5
              go_wp2
              repeat (go_quiet (fail); try go_wp2)
              go_ret
              exact ⟨by first | rfl | (simp [errW_none, errW_some] <;> rfl) | (simp [*, errW_none, errW_some] <;> rfl), by repeat (first | (with_reducible first | exact HB.out | apply below_alloc | apply pw_below_drewN | apply below_drew1 | refine below_set ?_ GE544.out | refine below_set ?_ GE545.out) | exact HB.out)⟩

-- NOT PRINTED: function 14 (crossbarlaw30_ClearingPollIsStopAndWait)

-- NOT PRINTED: function 15 (crossbarlaw30_ClearingDuplicatesChangeNothing)

-- NOT PRINTED: function 16 (crossbarlaw30_ClearingKeepsOrder)

end Go.Proofs.Ytbfhohpbldadbaa.P
