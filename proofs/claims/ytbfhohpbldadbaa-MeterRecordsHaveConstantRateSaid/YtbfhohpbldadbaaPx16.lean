-- Written by a program of this session out of the translation (a changed scratch copy of the print). Not trusted: Lean checks it.
import Derived.Test.YtbfhohpbldadbaaPx0
import Derived.Test.YtbfhohpbldadbaaPx3
import Derived.Test.YtbfhohpbldadbaaPx15
import Derived.Test.YtbfhohpbldadbaaExt
import Derived.Test.YtbfhohpbldadbaaExtS
namespace Go.Proofs.Ytbfhohpbldadbaa.P
open Go.RowKit Go.Proofs.YtbfhohpbldadbaaW.PrintWords Go.Proofs.YtbfhohpbldadbaaW.PrintLast Go.Proofs.YtbfhohpbldadbaaW.PrintMore
attribute [local go_sem] max2_int min2_int max_two min_two max_three min_three max_four min_four   -- for this text's walks alone
set_option linter.unusedVariables false
set_option linter.unusedSimpArgs false

/-! ### crossbarlaw27_MeterRecordsHaveConstantRate: function 10 -/
mutual
def crossbarlaw27_MeterRecordsHaveConstantRate.l0 : Nat → List (S33) → Int → List (S33) → List (S39) → Int → List (S110) → Option (Bool)
  | 0, _, _, _, _, _, _ => none
  | k + 1, x0, x2, x8, x9, x11, x503000 => if x11 < (x9.length : Int) then (if 0 ≤ x11 then ((tariff_Change.f k x503000 ((rd_T39 x9 x11).f4)).bind fun bt514 => ((tariff_Price.f k x503000 ((rd_T39 x9 x11).f4) ((rd_T39 x9 x11).f5)).bind fun bt517 => (if bt514.2.2 = 0 then (if bt517.2 = 0 then (if bt514.2.1 = true then (if bt514.1 = ((rd_T39 x9 x11).f5) then (if bt517.1 = ((rd_T39 x9 x11).f7) then (if ((rd_T39 x9 x11).f7) = (wrap64 (((rd_T39 x9 x11).f6) * (wrap64 (((rd_T39 x9 x11).f5) - ((rd_T39 x9 x11).f4))))) then (crossbarlaw27_MeterRecordsHaveConstantRate.l0 k x0 x2 x8 x9 (wrap64 (x11 + 1)) x503000) else (some false)) else (some false)) else (some false)) else (some false)) else (some false)) else (some false)))) else (none)) else (crossbarlaw27_MeterRecordsHaveConstantRate.l1 k x0 x2 x8 0 x503000)
def crossbarlaw27_MeterRecordsHaveConstantRate.l1 : Nat → List (S33) → Int → List (S33) → Int → List (S110) → Option (Bool)
  | 0, _, _, _, _, _ => none
  | k + 1, x0, x2, x8, x18, x503000 => if x18 < (x8.length : Int) then (if 0 ≤ x18 then ((tariff_Change.f k x503000 ((rd_T33 x8 x18).f4)).bind fun bt520 => (if bt520.2.2 = 0 then (if bt520.2.1 = true then (if bt520.1 ≤ x2 then (some false) else (crossbarlaw27_MeterRecordsHaveConstantRate.l1 k x0 x2 x8 (wrap64 (x18 + 1)) x503000)) else (crossbarlaw27_MeterRecordsHaveConstantRate.l1 k x0 x2 x8 (wrap64 (x18 + 1)) x503000)) else (some false))) else (none)) else (some ((x8.length : Int) == (x0.length : Int)))
end
def crossbarlaw27_MeterRecordsHaveConstantRate.f (k : Nat) (l0 : List (S33)) (l1_0 : List (S110)) (a2 : Int) : Option (Bool) := (crossbarlaw27_sane.f).bind fun t503 => (if t503 = true then ((crossbarref27_Few.f k l0 l1_0).bind fun t504 => (if t504 = true then ((meter_Advance.f l0 l1_0 a2).bind fun bt505 => (if bt505.2.2 = 0 then (crossbarlaw27_MeterRecordsHaveConstantRate.l0 k l0 a2 bt505.1 bt505.2.1 0 l1_0) else (some ((wrap64 ((bt505.1.length : Int) + (bt505.2.1.length : Int))) == 0)))) else (some true))) else (some false))
theorem crossbarlaw27_MeterRecordsHaveConstantRate.mono_l : ∀ k, (∀ y0 y1 y2 y3 y4 y5, LeO (crossbarlaw27_MeterRecordsHaveConstantRate.l0 k y0 y1 y2 y3 y4 y5) (crossbarlaw27_MeterRecordsHaveConstantRate.l0 (k + 1) y0 y1 y2 y3 y4 y5)) ∧ (∀ y0 y1 y2 y3 y4, LeO (crossbarlaw27_MeterRecordsHaveConstantRate.l1 k y0 y1 y2 y3 y4) (crossbarlaw27_MeterRecordsHaveConstantRate.l1 (k + 1) y0 y1 y2 y3 y4))
  | 0 => ⟨fun _ _ _ _ _ _ r h => by simp [crossbarlaw27_MeterRecordsHaveConstantRate.l0] at h, fun _ _ _ _ _ r h => by simp [crossbarlaw27_MeterRecordsHaveConstantRate.l1] at h⟩
  | k + 1 => by
    obtain ⟨ih0, ih1⟩ := crossbarlaw27_MeterRecordsHaveConstantRate.mono_l k
    refine ⟨?_, ?_⟩
    · intro y0 y1 y2 y3 y4 y5
      unfold crossbarlaw27_MeterRecordsHaveConstantRate.l0
      repeat' first
      | (with_reducible exact ih0 _ _ _ _ _ _)
      | (with_reducible exact ih1 _ _ _ _ _)
      | (with_reducible exact crossbarref27_Few.mono _ _ _)
      | (with_reducible exact tariff_Change.mono _ _ _)
      | (with_reducible exact tariff_Price.mono _ _ _ _)
      | (with_reducible exact LeO.refl _)
      | (with_reducible exact LeO.none _)
      | (with_reducible refine LeO.ite ?_ ?_)
      | (with_reducible refine LeO.bind ?_ (fun _ => ?_))
      | exact ih0 _ _ _ _ _ _
      | exact ih1 _ _ _ _ _
      | exact crossbarref27_Few.mono _ _ _
      | exact tariff_Change.mono _ _ _
      | exact tariff_Price.mono _ _ _ _
      | exact LeO.none _
      | refine LeO.ite ?_ ?_
      | refine LeO.bind ?_ (fun _ => ?_)
    · intro y0 y1 y2 y3 y4
      unfold crossbarlaw27_MeterRecordsHaveConstantRate.l1
      repeat' first
      | (with_reducible exact ih0 _ _ _ _ _ _)
      | (with_reducible exact ih1 _ _ _ _ _)
      | (with_reducible exact crossbarref27_Few.mono _ _ _)
      | (with_reducible exact tariff_Change.mono _ _ _)
      | (with_reducible exact tariff_Price.mono _ _ _ _)
      | (with_reducible exact LeO.refl _)
      | (with_reducible exact LeO.none _)
      | (with_reducible refine LeO.ite ?_ ?_)
      | (with_reducible refine LeO.bind ?_ (fun _ => ?_))
      | exact ih0 _ _ _ _ _ _
      | exact ih1 _ _ _ _ _
      | exact crossbarref27_Few.mono _ _ _
      | exact tariff_Change.mono _ _ _
      | exact tariff_Price.mono _ _ _ _
      | exact LeO.none _
      | refine LeO.ite ?_ ?_
      | refine LeO.bind ?_ (fun _ => ?_)
theorem crossbarlaw27_MeterRecordsHaveConstantRate.mono : ∀ a0 a1 a2 k, LeO (crossbarlaw27_MeterRecordsHaveConstantRate.f k a0 a1 a2) (crossbarlaw27_MeterRecordsHaveConstantRate.f (k + 1) a0 a1 a2) := by
  intro a0 a1 a2 k
  obtain ⟨ih0, ih1⟩ := crossbarlaw27_MeterRecordsHaveConstantRate.mono_l k
  unfold crossbarlaw27_MeterRecordsHaveConstantRate.f
  repeat' first
      | (with_reducible exact ih0 _ _ _ _ _ _)
      | (with_reducible exact ih1 _ _ _ _ _)
      | (with_reducible exact crossbarref27_Few.mono _ _ _)
      | (with_reducible exact tariff_Change.mono _ _ _)
      | (with_reducible exact tariff_Price.mono _ _ _ _)
      | (with_reducible exact LeO.refl _)
      | (with_reducible exact LeO.none _)
      | (with_reducible refine LeO.ite ?_ ?_)
      | (with_reducible refine LeO.bind ?_ (fun _ => ?_))
      | exact ih0 _ _ _ _ _ _
      | exact ih1 _ _ _ _ _
      | exact crossbarref27_Few.mono _ _ _
      | exact tariff_Change.mono _ _ _
      | exact tariff_Price.mono _ _ _ _
      | exact LeO.none _
      | refine LeO.ite ?_ ?_
      | refine LeO.bind ?_ (fun _ => ?_)
def crossbarlaw27_MeterRecordsHaveConstantRate.T20 : Bool × List (List Nat × List Nat) := (true, [([], []), ([], []), ([], []), ([1, 2], [1, 2]), ([3], [3]), ([4], [4]), ([0, 5], [0, 5]), ([6], [6]), ([7], [7]), ([7], [7]), ([7], [7]), ([8, 6, 0, 1, 2, 3, 4, 5, 6, 7, 8], [8]), ([9, 11, 0, 1, 2, 3, 4, 5, 6, 7, 8, 9, 11], [9]), ([10, 12, 0, 1, 2, 3, 4, 5, 6, 7, 8, 9, 10, 11, 12], [10])])
def crossbarlaw27_MeterRecordsHaveConstantRate.B20 : List Nat := [0, 0, 0, 6, 14, 30, 63, 127, 255, 255, 255, 511, 3071, 8191]
theorem crossbarlaw27_MeterRecordsHaveConstantRate.tab20 : rtab .any (opsOf Try.f10 20) = crossbarlaw27_MeterRecordsHaveConstantRate.T20 := by kernel_rfl
theorem crossbarlaw27_MeterRecordsHaveConstantRate.bits20 : waitsOk crossbarlaw27_MeterRecordsHaveConstantRate.T20.2 crossbarlaw27_MeterRecordsHaveConstantRate.B20 = true := by kernel_rfl
set_option maxHeartbeats 8000000 in
set_option maxRecDepth 100000 in
theorem crossbarlaw27_MeterRecordsHaveConstantRate.calls (k : Nat) (A0 : Option Addr) (c0 : Nat) (l0 : List (S33)) (A1_0 : Option Addr) (c1_0 : Nat) (l1_0 : List (S110)) (a2 : Int) (r : Bool) (w : World) (hr0 : Kd.C k33 w A0 l0.length l0) (hc0 : l0.length ≤ c0) (hr1_0 : Kd.C k110 w A1_0 l1_0.length l1_0) (hc1_0 : l1_0.length ≤ c1_0) (h : crossbarlaw27_MeterRecordsHaveConstantRate.f k l0 l1_0 a2 = some r) :
    Calls Try.prog 10 #[.slice A0 l0.length c0, .agg #[.slice A1_0 l1_0.length c1_0], .int .i64 a2] w fun e w' => e = .returned (.bool r) ∧ Below w.heap.size w w' := by
  have hu25 := Try.underlying25
  have hu39 := Try.underlying39
  have HR0 := Aside0.mk hr0
  have HC0 := Aside0.mk hc0
  clear hr0 hc0
  have HR1_0 := Aside0.mk hr1_0
  have HC1_0 := Aside0.mk hc1_0
  clear hr1_0 hc1_0
  have HB := Aside0.mk (Below.refl w.heap.size w)
  have H : ((crossbarlaw27_sane.f).bind fun t503 => (if t503 = true then ((crossbarref27_Few.f k l0 l1_0).bind fun t504 => (if t504 = true then ((meter_Advance.f l0 l1_0 a2).bind fun bt505 => (if bt505.2.2 = 0 then (crossbarlaw27_MeterRecordsHaveConstantRate.l0 k l0 a2 bt505.1 bt505.2.1 0 l1_0) else (some ((wrap64 ((bt505.1.length : Int) + (bt505.2.1.length : Int))) == 0)))) else (some true))) else (some false))) = some r := h
  clear h
  replace H := Option.bind_eq_some_iff.mp H
  obtain ⟨t503, A40, H⟩ := H
  replace H : (if t503 = true then ((crossbarref27_Few.f k l0 l1_0).bind fun t504 => (if t504 = true then ((meter_Advance.f l0 l1_0 a2).bind fun bt505 => (if bt505.2.2 = 0 then (crossbarlaw27_MeterRecordsHaveConstantRate.l0 k l0 a2 bt505.1 bt505.2.1 0 l1_0) else (some ((wrap64 ((bt505.1.length : Int) + (bt505.2.1.length : Int))) == 0)))) else (some true))) else (some false)) = some r := H
  have A4 := Aside0.mk A40
  clear A40
  by_cases c5 : t503 = true
  · subst c5
    have H1 : ((crossbarref27_Few.f k l0 l1_0).bind fun t504 => (if t504 = true then ((meter_Advance.f l0 l1_0 a2).bind fun bt505 => (if bt505.2.2 = 0 then (crossbarlaw27_MeterRecordsHaveConstantRate.l0 k l0 a2 bt505.1 bt505.2.1 0 l1_0) else (some ((wrap64 ((bt505.1.length : Int) + (bt505.2.1.length : Int))) == 0)))) else (some true))) = some r := by rw [if_pos rfl] at H; exact H
    clear H
    have H := H1
    clear H1
    replace H := Option.bind_eq_some_iff.mp H
    obtain ⟨t504, A60, H⟩ := H
    replace H : (if t504 = true then ((meter_Advance.f l0 l1_0 a2).bind fun bt505 => (if bt505.2.2 = 0 then (crossbarlaw27_MeterRecordsHaveConstantRate.l0 k l0 a2 bt505.1 bt505.2.1 0 l1_0) else (some ((wrap64 ((bt505.1.length : Int) + (bt505.2.1.length : Int))) == 0)))) else (some true)) = some r := H
    have A6 := Aside0.mk A60
    clear A60
    by_cases c7 : t504 = true
    · subst c7
      have H1 : ((meter_Advance.f l0 l1_0 a2).bind fun bt505 => (if bt505.2.2 = 0 then (crossbarlaw27_MeterRecordsHaveConstantRate.l0 k l0 a2 bt505.1 bt505.2.1 0 l1_0) else (some ((wrap64 ((bt505.1.length : Int) + (bt505.2.1.length : Int))) == 0)))) = some r := by rw [if_pos rfl] at H; exact H
      clear H
      have H := H1
      clear H1
      replace H := Option.bind_eq_some_iff.mp H
      obtain ⟨⟨t505, t508, t511⟩, A80, H⟩ := H
      replace H : (if t511 = 0 then (crossbarlaw27_MeterRecordsHaveConstantRate.l0 k l0 a2 t505 t508 0 l1_0) else (some ((wrap64 ((t505.length : Int) + (t508.length : Int))) == 0))) = some r := H
      have A8 := Aside0.mk A80
      clear A80
      by_cases c9 : t511 = 0
      · rw [if_pos c9] at H
        have c9b0 : (t511 == 0) = true := beq_iff_eq.mpr c9
        have c9b1 : (t511 != 0) = false := bne_eq_false_iff_eq.mpr c9
        clear c9
        have H' := Aside0.mk H
        clear H
        go_enter Try.func10, Try.ntmps10
        go_wp2_with (first | ((with_reducible refine gate_dst (N := 4) rfl ?_); refine box_event ?hg (N := 4) ?hd (cs := #[.slice A1_0 l1_0.length c1_0]) (t := 25) ?hr ?_; (case hd => rfl); (case hg => rfl); (case hr => first | (go_simp; done) | (go_simp; rfl)); intro gb502 hg w10 hbox hb; have n0_ := Aside0.mk (below_step (by repeat (first | (with_reducible first | exact HB.out | apply below_alloc | apply pw_below_drewN | apply below_drew1) | exact HB.out)) hb); have n1_ := Aside0.mk (hbox); have n2_ := Aside0.mk ((by rw [hg]; exact (below_size (by repeat (first | (with_reducible first | exact HB.out | apply below_alloc | apply pw_below_drewN | apply below_drew1) | exact HB.out))) : w.heap.size ≤ gb502)); have n3_ := Aside0.mk ((by rw [hg]; exact (below_size (by repeat (first | (with_reducible first | exact HB.out | apply below_alloc | apply pw_below_drewN | apply below_drew1) | exact HB.out))) : w.heap.size ≤ gb502)); clear HB; have HB := n0_; have BK502 := n1_; have GW502 := n2_; have GE502 := n3_; clear n0_ n1_ n2_ n3_; clear hb hbox hg) | ((with_reducible refine gate_callee (f := 17) rfl ?_); refine goesL_ (some 22) rfl rfl Try.func17 (by kernel_rfl) rfl #[] rfl (by (try simp only [List.map_toArray, List.map_cons, List.map_nil]); first | done | rfl | (simp only [List.length_drop, List.length_take]; rfl)) ?_; (with_reducible refine (crossbarlaw27_sane.calls  true _ A4.out).mono ?_); rintro e w11 ⟨rfl, hb⟩; refine ⟨_, rfl, ?_⟩; have n0_ := Aside0.mk (blk_below (g := gb502) (o := .cells #[.slice A1_0 l1_0.length c1_0] 25 (0, 0)) (by (with_reducible repeat (first | refine blk_drewN ?_ _ | refine blk_drew ?_ | refine blk_alloc ?_ _)); exact BK502.out) hb); have n1_ := Aside0.mk (below_step (by repeat (first | (with_reducible first | exact HB.out | apply below_alloc | apply pw_below_drewN | apply below_drew1 | refine below_set ?_ GE502.out) | exact HB.out)) hb); clear BK502; clear HB; have BK502 := n0_; have HB := n1_; clear n0_ n1_; (try clear hb); (try clear hb2); (try clear hk); (try clear hi); have hcz12_0 : w11.cell? ⟨gb502, 0, none⟩ = some (.slice A1_0 l1_0.length c1_0) := (blk_cell BK502.out 0).trans rfl; have hfz12_0 := blk_frozen BK502.out 0) | ((with_reducible refine gate_callee (f := 18) rfl ?_); refine goesL_ (some 26) rfl rfl Try.func18 (by kernel_rfl) rfl #[.slice A0 l0.length c0, .agg #[.slice A1_0 l1_0.length c1_0]] rfl (by (try simp only [List.map_toArray, List.map_cons, List.map_nil]); first | done | rfl | (simp only [List.length_drop, List.length_take]; rfl)) ?_; (with_reducible refine (crossbarref27_Few.calls k _ _ l0 _ _ l1_0 true _ ?side1 ?side2 ?side3 ?side4 A6.out).mono ?_); (case side1 => repeat (first | exact (Kd.C_below HR0.out HB.out) | (with_reducible refine Kd.C_alloc ?_ _) | (with_reducible refine Kd.C_drewN ?_ _) | (with_reducible refine Kd.C_drew ?_))); (case side2 => exact HC0.out); (case side3 => repeat (first | exact (Kd.C_below HR1_0.out HB.out) | (with_reducible refine Kd.C_alloc ?_ _) | (with_reducible refine Kd.C_drewN ?_ _) | (with_reducible refine Kd.C_drew ?_))); (case side4 => exact HC1_0.out); rintro e w13 ⟨rfl, hb⟩; refine ⟨_, rfl, ?_⟩; have n0_ := Aside0.mk (blk_below (g := gb502) (o := .cells #[.slice A1_0 l1_0.length c1_0] 25 (0, 0)) (by (with_reducible repeat (first | refine blk_drewN ?_ _ | refine blk_drew ?_ | refine blk_alloc ?_ _)); exact BK502.out) hb); have n1_ := Aside0.mk (below_step (by repeat (first | (with_reducible first | exact HB.out | apply below_alloc | apply pw_below_drewN | apply below_drew1 | refine below_set ?_ GE502.out) | exact HB.out)) hb); clear BK502; clear HB; have BK502 := n0_; have HB := n1_; clear n0_ n1_; (try clear hb); (try clear hb2); (try clear hk); (try clear hi); have hcz14_0 : w13.cell? ⟨gb502, 0, none⟩ = some (.slice A1_0 l1_0.length c1_0) := (blk_cell BK502.out 0).trans rfl; have hfz14_0 := blk_frozen BK502.out 0) | ((with_reducible refine gate_callee (f := 25) rfl ?_); refine goesL_ (some 33) rfl rfl Try.func25 (by kernel_rfl) rfl #[.slice A0 l0.length c0, .agg #[.slice A1_0 l1_0.length c1_0], .int .i64 a2] rfl (by (try simp only [List.map_toArray, List.map_cons, List.map_nil]); first | done | rfl | (simp only [List.length_drop, List.length_take]; rfl)) ?_; (with_reducible refine (meter_Advance.calls _ _ l0 _ _ l1_0 a2 t505 t508 t511 _ ?side1 ?side2 ?side3 ?side4 A8.out).mono ?_); (case side1 => repeat (first | exact (Kd.C_below HR0.out HB.out) | (with_reducible refine Kd.C_alloc ?_ _) | (with_reducible refine Kd.C_drewN ?_ _) | (with_reducible refine Kd.C_drew ?_))); (case side2 => exact HC0.out); (case side3 => repeat (first | exact (Kd.C_below HR1_0.out HB.out) | (with_reducible refine Kd.C_alloc ?_ _) | (with_reducible refine Kd.C_drewN ?_ _) | (with_reducible refine Kd.C_drew ?_))); (case side4 => exact HC1_0.out); rintro e w15 ⟨v506, v509, rfl, ho0, ho1, hb⟩; refine ⟨_, rfl, ?_⟩; have n0_ := Aside0.mk (Kd.V_lower (Kd.V_mono (ok' := fun k_ => k_ ≠ gb502) ho0 (fun k_ hk_ => (Kd.freshB (g := gb502) (o := .cells #[.slice A1_0 l1_0.length c1_0] 25 (0, 0)) (by (with_reducible repeat (first | refine blk_drewN ?_ _ | refine blk_drew ?_ | refine blk_alloc ?_ _)); exact BK502.out) k_ hk_))) (below_size (by repeat (first | (with_reducible first | exact HB.out | apply below_alloc | apply pw_below_drewN | apply below_drew1 | refine below_set ?_ GE502.out) | exact HB.out)))); have n1_ := Aside0.mk (Kd.V_lower (Kd.V_mono (ok' := fun k_ => k_ ≠ gb502) ho1 (fun k_ hk_ => (Kd.freshB (g := gb502) (o := .cells #[.slice A1_0 l1_0.length c1_0] 25 (0, 0)) (by (with_reducible repeat (first | refine blk_drewN ?_ _ | refine blk_drew ?_ | refine blk_alloc ?_ _)); exact BK502.out) k_ hk_))) (below_size (by repeat (first | (with_reducible first | exact HB.out | apply below_alloc | apply pw_below_drewN | apply below_drew1 | refine below_set ?_ GE502.out) | exact HB.out)))); have n2_ := Aside0.mk (blk_below (g := gb502) (o := .cells #[.slice A1_0 l1_0.length c1_0] 25 (0, 0)) (by (with_reducible repeat (first | refine blk_drewN ?_ _ | refine blk_drew ?_ | refine blk_alloc ?_ _)); exact BK502.out) hb); have n3_ := Aside0.mk (below_step (by repeat (first | (with_reducible first | exact HB.out | apply below_alloc | apply pw_below_drewN | apply below_drew1 | refine below_set ?_ GE502.out) | exact HB.out)) hb); clear BK502; clear HB; have HO507 := n0_; have HO510 := n1_; have BK502 := n2_; have HB := n3_; clear n0_ n1_ n2_ n3_; (try clear hb); (try clear hb2); (try clear hk); (try clear hi); (try clear ho0); (try clear ho1)))
        go_loopg [11] k (fun kq v11 w' => ∃ (x11_1 : Int), v11 = .int .i64 x11_1 ∧ Aside0 (crossbarlaw27_MeterRecordsHaveConstantRate.l0 kq l0 a2 t505 t508 x11_1 l1_0 = some r) ∧ Aside0 (kq ≤ k) ∧ Aside0 (Kd.V k33 33 w' w.heap.size (fun k_ => k_ ≠ gb502) v506 t505) ∧ Aside0 (Kd.V k39 39 w' w.heap.size (fun k_ => k_ ≠ gb502) v509 t508) ∧ Aside0 (w'.heap[gb502]? = some (.cells #[(.slice A1_0 l1_0.length c1_0)] 25 (0, 0))) ∧ Aside0 (Below w.heap.size w w'))
        case atStart => exact ⟨(0), (by first | rfl | (simp; done) | (simp [*]; done)), H', ⟨Nat.le_refl _⟩, ⟨by (with_reducible repeat (first | apply Kd.V_alloc | apply Kd.V_drewN | apply Kd.V_drew)); exact HO507.out⟩, ⟨by (with_reducible repeat (first | apply Kd.V_alloc | apply Kd.V_drewN | apply Kd.V_drew)); exact HO510.out⟩, ⟨by (with_reducible repeat (first | refine blk_drewN ?_ _ | refine blk_drew ?_ | refine blk_alloc ?_ _)); exact BK502.out⟩, ⟨by repeat (first | (with_reducible first | exact HB.out | apply below_alloc | apply pw_below_drewN | apply below_drew1 | refine below_set ?_ GE502.out) | exact HB.out)⟩⟩
        case round =>
          clear H'
          try clear c1
          try clear c2
          try clear p2
          try clear c5
          try clear p6
          try clear c7
          try clear c9
          try clear c9b0
          try clear c9b1
          try clear c10
          try clear hcz12_0
          try clear hcz14_0
          try clear hfz12_0
          try clear hfz14_0
          obtain ⟨x11_1, rfl, HA, HK1, HO_8, HO_9, BK502, HB⟩ := hrel
          cases gk with
          | zero => exact absurd HA.out (by simp [crossbarlaw27_MeterRecordsHaveConstantRate.l0])
          | succ k1 =>
            have H := HA.out
            clear HA
            simp only [crossbarlaw27_MeterRecordsHaveConstantRate.l0] at H
            by_cases c16 : x11_1 < (t508.length : Int)
            · rw [if_pos c16] at H
              have c16b0 : decide (x11_1 < (t508.length : Int)) = true := decide_eq_true c16
              clear c16
              by_cases c17 : 0 ≤ x11_1
              · rw [if_pos c17] at H
                have c17b0 : decide (0 ≤ x11_1) = true := decide_eq_true c17
                clear c17
                replace H := Option.bind_eq_some_iff.mp H
                obtain ⟨⟨t514, t515, t516⟩, A180, H⟩ := H
                replace H : ((tariff_Price.f k1 l1_0 ((rd_T39 t508 x11_1).f4) ((rd_T39 t508 x11_1).f5)).bind fun bt517 => (if t516 = 0 then (if bt517.2 = 0 then (if t515 = true then (if t514 = ((rd_T39 t508 x11_1).f5) then (if bt517.1 = ((rd_T39 t508 x11_1).f7) then (if ((rd_T39 t508 x11_1).f7) = (wrap64 (((rd_T39 t508 x11_1).f6) * (wrap64 (((rd_T39 t508 x11_1).f5) - ((rd_T39 t508 x11_1).f4))))) then (crossbarlaw27_MeterRecordsHaveConstantRate.l0 k1 l0 a2 t505 t508 (wrap64 (x11_1 + 1)) l1_0) else (some false)) else (some false)) else (some false)) else (some false)) else (some false)) else (some false))) = some r := H
                have A18 := Aside0.mk A180
                clear A180
                replace H := Option.bind_eq_some_iff.mp H
                obtain ⟨⟨t517, t518⟩, A190, H⟩ := H
                replace H : (if t516 = 0 then (if t518 = 0 then (if t515 = true then (if t514 = ((rd_T39 t508 x11_1).f5) then (if t517 = ((rd_T39 t508 x11_1).f7) then (if ((rd_T39 t508 x11_1).f7) = (wrap64 (((rd_T39 t508 x11_1).f6) * (wrap64 (((rd_T39 t508 x11_1).f5) - ((rd_T39 t508 x11_1).f4))))) then (crossbarlaw27_MeterRecordsHaveConstantRate.l0 k1 l0 a2 t505 t508 (wrap64 (x11_1 + 1)) l1_0) else (some false)) else (some false)) else (some false)) else (some false)) else (some false)) else (some false)) = some r := H
                have A19 := Aside0.mk A190
                clear A190
                by_cases c20 : t516 = 0
                · rw [if_pos c20] at H
                  have c20b0 : (t516 == 0) = true := beq_iff_eq.mpr c20
                  have c20b1 : (t516 != 0) = false := bne_eq_false_iff_eq.mpr c20
                  clear c20
                  by_cases c21 : t518 = 0
                  · rw [if_pos c21] at H
                    have c21b0 : (t518 == 0) = true := beq_iff_eq.mpr c21
                    have c21b1 : (t518 != 0) = false := bne_eq_false_iff_eq.mpr c21
                    clear c21
                    by_cases c22 : t515 = true
                    · subst c22
                      have H1 : (if t514 = ((rd_T39 t508 x11_1).f5) then (if t517 = ((rd_T39 t508 x11_1).f7) then (if ((rd_T39 t508 x11_1).f7) = (wrap64 (((rd_T39 t508 x11_1).f6) * (wrap64 (((rd_T39 t508 x11_1).f5) - ((rd_T39 t508 x11_1).f4))))) then (crossbarlaw27_MeterRecordsHaveConstantRate.l0 k1 l0 a2 t505 t508 (wrap64 (x11_1 + 1)) l1_0) else (some false)) else (some false)) else (some false)) = some r := by rw [if_pos rfl] at H; exact H
                      clear H
                      have H := H1
                      clear H1
                      by_cases c23 : t514 = ((rd_T39 t508 x11_1).f5)
                      · rw [if_pos c23] at H
                        have c23b0 : (t514 == ((rd_T39 t508 x11_1).f5)) = true := beq_iff_eq.mpr c23
                        have c23b1 : (t514 != ((rd_T39 t508 x11_1).f5)) = false := bne_eq_false_iff_eq.mpr c23
                        clear c23
                        by_cases c24 : t517 = ((rd_T39 t508 x11_1).f7)
                        · rw [if_pos c24] at H
                          have c24b0 : (t517 == ((rd_T39 t508 x11_1).f7)) = true := beq_iff_eq.mpr c24
                          have c24b1 : (t517 != ((rd_T39 t508 x11_1).f7)) = false := bne_eq_false_iff_eq.mpr c24
                          clear c24
                          by_cases c25 : ((rd_T39 t508 x11_1).f7) = (wrap64 (((rd_T39 t508 x11_1).f6) * (wrap64 (((rd_T39 t508 x11_1).f5) - ((rd_T39 t508 x11_1).f4)))))
                          · rw [if_pos c25] at H
                            have c25b0 : (((rd_T39 t508 x11_1).f7) == (wrap64 (((rd_T39 t508 x11_1).f6) * (wrap64 (((rd_T39 t508 x11_1).f5) - ((rd_T39 t508 x11_1).f4)))))) = true := beq_iff_eq.mpr c25
                            have c25b1 : (((rd_T39 t508 x11_1).f7) != (wrap64 (((rd_T39 t508 x11_1).f6) * (wrap64 (((rd_T39 t508 x11_1).f5) - ((rd_T39 t508 x11_1).f4)))))) = false := bne_eq_false_iff_eq.mpr c25
                            clear c25
                            have H' := Aside0.mk H
                            clear H
                            obtain ⟨Ao26, co26, eo26⟩ := Kd.V_slice HO_9.out
                            subst eo26
                            have p512 : 0 ≤ (x11_1 : Int) := of_decide_eq_true (by first | (with_reducible assumption) | assumption)
                            have q512 : x11_1 < (t508.length : Int) := of_decide_eq_true (by first | (with_reducible assumption) | assumption)
                            obtain ⟨ad512, e512, hx512_0, hx512_1, hx512_2, hx512_3, hx512_4, hx512_5, hx512_6, hx512_7⟩ := at_T39 (Kd.V_reads' HO_9.out).2.2 x11_1 p512 q512
                            cases e512
                            replace p512 := eq_true p512
                            replace q512 := eq_true q512
                            go_wp2_with (first | ((with_reducible refine gate_dst (N := 12) rfl ?_); refine box_event ?hg (N := 12) ?hd (cs := #[.int .i64 0, .int .i64 0, .int .i64 0, .string (⟨#[]⟩ : ByteArray), .int .i64 0, .int .i64 0, .int .i64 0, .int .i64 0]) (t := 39) ?hr ?_; (case hd => rfl); (case hg => rfl); (case hr => first | (go_simp; done) | (go_simp; rfl)); intro gb513 hg w27 hbox hb; have n0_ := Aside0.mk (Kd.V_below (Kd.V_elderB (by (with_reducible repeat (first | apply Kd.V_alloc | apply Kd.V_drewN | apply Kd.V_drew)); exact HO_8.out) gb513 (Nat.le_of_eq hg.symm)) hb); have n1_ := Aside0.mk (Kd.V_below (Kd.V_elderB (by (with_reducible repeat (first | apply Kd.V_alloc | apply Kd.V_drewN | apply Kd.V_drew)); exact HO_9.out) gb513 (Nat.le_of_eq hg.symm)) hb); have n2_ := Aside0.mk (blk_below (g := gb502) (o := .cells #[.slice A1_0 l1_0.length c1_0] 25 (0, 0)) (by (with_reducible repeat (first | refine blk_drewN ?_ _ | refine blk_drew ?_ | refine blk_alloc ?_ _)); exact BK502.out) hb); have n3_ := Aside0.mk (below_step (by repeat (first | (with_reducible first | exact HB.out | apply below_alloc | apply pw_below_drewN | apply below_drew1 | refine below_set ?_ GE502.out) | exact HB.out)) hb); have n4_ := Aside0.mk (hbox); have n5_ := Aside0.mk ((by rw [hg]; exact (below_size (by repeat (first | (with_reducible first | exact HB.out | apply below_alloc | apply pw_below_drewN | apply below_drew1 | refine below_set ?_ GE502.out) | exact HB.out))) : w.heap.size ≤ gb513)); have n6_ := Aside0.mk ((by rw [hg]; exact (below_size (by repeat (first | (with_reducible first | exact HB.out | apply below_alloc | apply pw_below_drewN | apply below_drew1 | refine below_set ?_ GE502.out) | exact HB.out))) : w.heap.size ≤ gb513)); have n7_ := Aside0.mk ((by rw [hg]; exact Nat.ne_of_lt (blk_lt (g := gb502) (o := .cells #[.slice A1_0 l1_0.length c1_0] 25 (0, 0)) (by (with_reducible repeat (first | refine blk_drewN ?_ _ | refine blk_drew ?_ | refine blk_alloc ?_ _)); exact BK502.out)) : gb502 ≠ gb513)); have n8_ := Aside0.mk ((by rw [hg]; exact Nat.ne_of_gt (blk_lt (g := gb502) (o := .cells #[.slice A1_0 l1_0.length c1_0] 25 (0, 0)) (by (with_reducible repeat (first | refine blk_drewN ?_ _ | refine blk_drew ?_ | refine blk_alloc ?_ _)); exact BK502.out)) : gb513 ≠ gb502)); clear HO_8; clear HO_9; clear BK502; clear HB; have HO_8 := n0_; have HO_9 := n1_; have BK502 := n2_; have HB := n3_; have BK513 := n4_; have GW513 := n5_; have GE513 := n6_; have NB502_513 := n7_; have NB513_502 := n8_; clear n0_ n1_ n2_ n3_ n4_ n5_ n6_ n7_ n8_; clear hb hbox hg; have hnb28 := NB513_502.out; have hnc28 := NB502_513.out; have hcz29_0 : w27.cell? ⟨gb513, 0, none⟩ = some (.int .i64 0) := (blk_cell BK513.out 0).trans rfl; have hcz29_1 : w27.cell? ⟨gb513, 1, none⟩ = some (.int .i64 0) := (blk_cell BK513.out 1).trans rfl; have hcz29_2 : w27.cell? ⟨gb513, 2, none⟩ = some (.int .i64 0) := (blk_cell BK513.out 2).trans rfl; have hcz29_3 : w27.cell? ⟨gb513, 3, none⟩ = some (.string (⟨#[]⟩ : ByteArray)) := (blk_cell BK513.out 3).trans rfl; have hcz29_4 : w27.cell? ⟨gb513, 4, none⟩ = some (.int .i64 0) := (blk_cell BK513.out 4).trans rfl; have hcz29_5 : w27.cell? ⟨gb513, 5, none⟩ = some (.int .i64 0) := (blk_cell BK513.out 5).trans rfl; have hcz29_6 : w27.cell? ⟨gb513, 6, none⟩ = some (.int .i64 0) := (blk_cell BK513.out 6).trans rfl; have hcz29_7 : w27.cell? ⟨gb513, 7, none⟩ = some (.int .i64 0) := (blk_cell BK513.out 7).trans rfl; have hfz29_0 := blk_frozen BK513.out 0; have hfz29_1 := blk_frozen BK513.out 1; have hfz29_2 := blk_frozen BK513.out 2; have hfz29_3 := blk_frozen BK513.out 3; have hfz29_4 := blk_frozen BK513.out 4; have hfz29_5 := blk_frozen BK513.out 5; have hfz29_6 := blk_frozen BK513.out 6; have hfz29_7 := blk_frozen BK513.out 7; have hcz30_0 : w27.cell? ⟨gb502, 0, none⟩ = some (.slice A1_0 l1_0.length c1_0) := (blk_cell BK502.out 0).trans rfl; have hfz30_0 := blk_frozen BK502.out 0) | ((with_reducible refine gate_callee (f := 32) rfl ?_); refine goesL_ (some 59) rfl rfl Try.func32 (by kernel_rfl) rfl #[.agg #[.slice A1_0 l1_0.length c1_0], .int .i64 ((rd_T39 t508 x11_1).f4)] rfl (by (try simp only [List.map_toArray, List.map_cons, List.map_nil]); first | done | rfl | (simp only [List.length_drop, List.length_take]; rfl)) ?_; (with_reducible refine (tariff_Change.calls k1 _ _ l1_0 ((rd_T39 t508 x11_1).f4) t514 true t516 _ ?side1 ?side2 A18.out).mono ?_); (case side1 => exact Kd.C_below HR1_0.out (by repeat (first | (with_reducible first | exact HB.out | apply below_alloc | apply pw_below_drewN | apply below_drew1 | refine below_set ?_ GE502.out | refine below_set ?_ GE513.out) | exact HB.out))); (case side2 => exact HC1_0.out); rintro e w31 ⟨rfl, hb⟩; refine ⟨_, rfl, ?_⟩; have n0_ := Aside0.mk (Kd.V_below (by (with_reducible repeat (first | apply Kd.V_alloc | apply Kd.V_drewN | apply Kd.V_drew)); exact (Kd.V_mono (Kd.V_far (p := ⟨gb513, 7, none⟩) (Kd.V_far (p := ⟨gb513, 6, none⟩) (Kd.V_far (p := ⟨gb513, 5, none⟩) (Kd.V_far (p := ⟨gb513, 4, none⟩) (Kd.V_far (p := ⟨gb513, 3, none⟩) (Kd.V_far (p := ⟨gb513, 2, none⟩) (Kd.V_far (p := ⟨gb513, 1, none⟩) (Kd.V_far (p := ⟨gb513, 0, none⟩) (Kd.V_mono HO_8.out (fun k_ hk => (⟨hk, hk.2⟩ : _ ∧ k_ ≠ gb513))) (fun _ hk => hk.2) (.int .i64 ((rd_T39 t508 x11_1).f0))) (fun _ hk => hk.2) (.int .i64 ((rd_T39 t508 x11_1).f1))) (fun _ hk => hk.2) (.int .i64 ((rd_T39 t508 x11_1).f2))) (fun _ hk => hk.2) (.string ((rd_T39 t508 x11_1).f3))) (fun _ hk => hk.2) (.int .i64 ((rd_T39 t508 x11_1).f4))) (fun _ hk => hk.2) (.int .i64 ((rd_T39 t508 x11_1).f5))) (fun _ hk => hk.2) (.int .i64 ((rd_T39 t508 x11_1).f6))) (fun _ hk => hk.2) (.int .i64 ((rd_T39 t508 x11_1).f7))) (fun _ h_ => h_.1))) hb); have n1_ := Aside0.mk (Kd.V_below (by (with_reducible repeat (first | apply Kd.V_alloc | apply Kd.V_drewN | apply Kd.V_drew)); exact (Kd.V_mono (Kd.V_far (p := ⟨gb513, 7, none⟩) (Kd.V_far (p := ⟨gb513, 6, none⟩) (Kd.V_far (p := ⟨gb513, 5, none⟩) (Kd.V_far (p := ⟨gb513, 4, none⟩) (Kd.V_far (p := ⟨gb513, 3, none⟩) (Kd.V_far (p := ⟨gb513, 2, none⟩) (Kd.V_far (p := ⟨gb513, 1, none⟩) (Kd.V_far (p := ⟨gb513, 0, none⟩) (Kd.V_mono HO_9.out (fun k_ hk => (⟨hk, hk.2⟩ : _ ∧ k_ ≠ gb513))) (fun _ hk => hk.2) (.int .i64 ((rd_T39 t508 x11_1).f0))) (fun _ hk => hk.2) (.int .i64 ((rd_T39 t508 x11_1).f1))) (fun _ hk => hk.2) (.int .i64 ((rd_T39 t508 x11_1).f2))) (fun _ hk => hk.2) (.string ((rd_T39 t508 x11_1).f3))) (fun _ hk => hk.2) (.int .i64 ((rd_T39 t508 x11_1).f4))) (fun _ hk => hk.2) (.int .i64 ((rd_T39 t508 x11_1).f5))) (fun _ hk => hk.2) (.int .i64 ((rd_T39 t508 x11_1).f6))) (fun _ hk => hk.2) (.int .i64 ((rd_T39 t508 x11_1).f7))) (fun _ h_ => h_.1))) hb); have n2_ := Aside0.mk (blk_below (g := gb502) (o := .cells #[.slice A1_0 l1_0.length c1_0] 25 (0, 0)) (by (with_reducible repeat (first | refine blk_drewN ?_ _ | refine blk_drew ?_ | refine blk_alloc ?_ _)); refine blk_far ?_ NB502_513.out _; (with_reducible repeat (first | refine blk_drewN ?_ _ | refine blk_drew ?_ | refine blk_alloc ?_ _)); refine blk_far ?_ NB502_513.out _; (with_reducible repeat (first | refine blk_drewN ?_ _ | refine blk_drew ?_ | refine blk_alloc ?_ _)); refine blk_far ?_ NB502_513.out _; (with_reducible repeat (first | refine blk_drewN ?_ _ | refine blk_drew ?_ | refine blk_alloc ?_ _)); refine blk_far ?_ NB502_513.out _; (with_reducible repeat (first | refine blk_drewN ?_ _ | refine blk_drew ?_ | refine blk_alloc ?_ _)); refine blk_far ?_ NB502_513.out _; (with_reducible repeat (first | refine blk_drewN ?_ _ | refine blk_drew ?_ | refine blk_alloc ?_ _)); refine blk_far ?_ NB502_513.out _; (with_reducible repeat (first | refine blk_drewN ?_ _ | refine blk_drew ?_ | refine blk_alloc ?_ _)); refine blk_far ?_ NB502_513.out _; (with_reducible repeat (first | refine blk_drewN ?_ _ | refine blk_drew ?_ | refine blk_alloc ?_ _)); refine blk_far ?_ NB502_513.out _; (with_reducible repeat (first | refine blk_drewN ?_ _ | refine blk_drew ?_ | refine blk_alloc ?_ _)); exact BK502.out) hb); have n3_ := Aside0.mk (blk_below (g := gb513) (o := .cells #[.int .i64 ((rd_T39 t508 x11_1).f0), .int .i64 ((rd_T39 t508 x11_1).f1), .int .i64 ((rd_T39 t508 x11_1).f2), .string ((rd_T39 t508 x11_1).f3), .int .i64 ((rd_T39 t508 x11_1).f4), .int .i64 ((rd_T39 t508 x11_1).f5), .int .i64 ((rd_T39 t508 x11_1).f6), .int .i64 ((rd_T39 t508 x11_1).f7)] 39 (0, 0)) (by (with_reducible repeat (first | refine blk_drewN ?_ _ | refine blk_drew ?_ | refine blk_alloc ?_ _)); refine blk_put (cs := #[.int .i64 ((rd_T39 t508 x11_1).f0), .int .i64 ((rd_T39 t508 x11_1).f1), .int .i64 ((rd_T39 t508 x11_1).f2), .string ((rd_T39 t508 x11_1).f3), .int .i64 ((rd_T39 t508 x11_1).f4), .int .i64 ((rd_T39 t508 x11_1).f5), .int .i64 ((rd_T39 t508 x11_1).f6), .int .i64 0]) ?_ 7 _ rfl; (with_reducible repeat (first | refine blk_drewN ?_ _ | refine blk_drew ?_ | refine blk_alloc ?_ _)); refine blk_put (cs := #[.int .i64 ((rd_T39 t508 x11_1).f0), .int .i64 ((rd_T39 t508 x11_1).f1), .int .i64 ((rd_T39 t508 x11_1).f2), .string ((rd_T39 t508 x11_1).f3), .int .i64 ((rd_T39 t508 x11_1).f4), .int .i64 ((rd_T39 t508 x11_1).f5), .int .i64 0, .int .i64 0]) ?_ 6 _ rfl; (with_reducible repeat (first | refine blk_drewN ?_ _ | refine blk_drew ?_ | refine blk_alloc ?_ _)); refine blk_put (cs := #[.int .i64 ((rd_T39 t508 x11_1).f0), .int .i64 ((rd_T39 t508 x11_1).f1), .int .i64 ((rd_T39 t508 x11_1).f2), .string ((rd_T39 t508 x11_1).f3), .int .i64 ((rd_T39 t508 x11_1).f4), .int .i64 0, .int .i64 0, .int .i64 0]) ?_ 5 _ rfl; (with_reducible repeat (first | refine blk_drewN ?_ _ | refine blk_drew ?_ | refine blk_alloc ?_ _)); refine blk_put (cs := #[.int .i64 ((rd_T39 t508 x11_1).f0), .int .i64 ((rd_T39 t508 x11_1).f1), .int .i64 ((rd_T39 t508 x11_1).f2), .string ((rd_T39 t508 x11_1).f3), .int .i64 0, .int .i64 0, .int .i64 0, .int .i64 0]) ?_ 4 _ rfl; (with_reducible repeat (first | refine blk_drewN ?_ _ | refine blk_drew ?_ | refine blk_alloc ?_ _)); refine blk_put (cs := #[.int .i64 ((rd_T39 t508 x11_1).f0), .int .i64 ((rd_T39 t508 x11_1).f1), .int .i64 ((rd_T39 t508 x11_1).f2), .string (⟨#[]⟩ : ByteArray), .int .i64 0, .int .i64 0, .int .i64 0, .int .i64 0]) ?_ 3 _ rfl; (with_reducible repeat (first | refine blk_drewN ?_ _ | refine blk_drew ?_ | refine blk_alloc ?_ _)); refine blk_put (cs := #[.int .i64 ((rd_T39 t508 x11_1).f0), .int .i64 ((rd_T39 t508 x11_1).f1), .int .i64 0, .string (⟨#[]⟩ : ByteArray), .int .i64 0, .int .i64 0, .int .i64 0, .int .i64 0]) ?_ 2 _ rfl; (with_reducible repeat (first | refine blk_drewN ?_ _ | refine blk_drew ?_ | refine blk_alloc ?_ _)); refine blk_put (cs := #[.int .i64 ((rd_T39 t508 x11_1).f0), .int .i64 0, .int .i64 0, .string (⟨#[]⟩ : ByteArray), .int .i64 0, .int .i64 0, .int .i64 0, .int .i64 0]) ?_ 1 _ rfl; (with_reducible repeat (first | refine blk_drewN ?_ _ | refine blk_drew ?_ | refine blk_alloc ?_ _)); refine blk_put (cs := #[.int .i64 0, .int .i64 0, .int .i64 0, .string (⟨#[]⟩ : ByteArray), .int .i64 0, .int .i64 0, .int .i64 0, .int .i64 0]) ?_ 0 _ rfl; (with_reducible repeat (first | refine blk_drewN ?_ _ | refine blk_drew ?_ | refine blk_alloc ?_ _)); exact BK513.out) hb); have n4_ := Aside0.mk (below_step (by repeat (first | (with_reducible first | exact HB.out | apply below_alloc | apply pw_below_drewN | apply below_drew1 | refine below_set ?_ GE502.out | refine below_set ?_ GE513.out) | exact HB.out)) hb); clear HO_8; clear HO_9; clear BK502; clear BK513; clear HB; have HO_8 := n0_; have HO_9 := n1_; have BK502 := n2_; have BK513 := n3_; have HB := n4_; clear n0_ n1_ n2_ n3_ n4_; (try clear hb); (try clear hb2); (try clear hk); (try clear hi); have hcz32_0 : w31.cell? ⟨gb502, 0, none⟩ = some (.slice A1_0 l1_0.length c1_0) := (blk_cell BK502.out 0).trans rfl; have hfz32_0 := blk_frozen BK502.out 0; have hcz33_0 : w31.cell? ⟨gb513, 0, none⟩ = some (.int .i64 ((rd_T39 t508 x11_1).f0)) := (blk_cell BK513.out 0).trans rfl; have hcz33_1 : w31.cell? ⟨gb513, 1, none⟩ = some (.int .i64 ((rd_T39 t508 x11_1).f1)) := (blk_cell BK513.out 1).trans rfl; have hcz33_2 : w31.cell? ⟨gb513, 2, none⟩ = some (.int .i64 ((rd_T39 t508 x11_1).f2)) := (blk_cell BK513.out 2).trans rfl; have hcz33_3 : w31.cell? ⟨gb513, 3, none⟩ = some (.string ((rd_T39 t508 x11_1).f3)) := (blk_cell BK513.out 3).trans rfl; have hcz33_4 : w31.cell? ⟨gb513, 4, none⟩ = some (.int .i64 ((rd_T39 t508 x11_1).f4)) := (blk_cell BK513.out 4).trans rfl; have hcz33_5 : w31.cell? ⟨gb513, 5, none⟩ = some (.int .i64 ((rd_T39 t508 x11_1).f5)) := (blk_cell BK513.out 5).trans rfl; have hcz33_6 : w31.cell? ⟨gb513, 6, none⟩ = some (.int .i64 ((rd_T39 t508 x11_1).f6)) := (blk_cell BK513.out 6).trans rfl; have hcz33_7 : w31.cell? ⟨gb513, 7, none⟩ = some (.int .i64 ((rd_T39 t508 x11_1).f7)) := (blk_cell BK513.out 7).trans rfl; have hfz33_0 := blk_frozen BK513.out 0; have hfz33_1 := blk_frozen BK513.out 1; have hfz33_2 := blk_frozen BK513.out 2; have hfz33_3 := blk_frozen BK513.out 3; have hfz33_4 := blk_frozen BK513.out 4; have hfz33_5 := blk_frozen BK513.out 5; have hfz33_6 := blk_frozen BK513.out 6; have hfz33_7 := blk_frozen BK513.out 7) | ((with_reducible refine gate_callee (f := 20) rfl ?_); refine goesL_ (some 69) rfl rfl Try.func20 (by kernel_rfl) rfl #[.agg #[.slice A1_0 l1_0.length c1_0], .int .i64 ((rd_T39 t508 x11_1).f4), .int .i64 ((rd_T39 t508 x11_1).f5)] rfl (by (try simp only [List.map_toArray, List.map_cons, List.map_nil]); first | done | rfl | (simp only [List.length_drop, List.length_take]; rfl)) ?_; (with_reducible refine (tariff_Price.calls k1 _ _ l1_0 ((rd_T39 t508 x11_1).f4) ((rd_T39 t508 x11_1).f5) t517 t518 _ ?side1 ?side2 A19.out).mono ?_); (case side1 => repeat (first | exact (Kd.C_below HR1_0.out HB.out) | (with_reducible refine Kd.C_alloc ?_ _) | (with_reducible refine Kd.C_drewN ?_ _) | (with_reducible refine Kd.C_drew ?_))); (case side2 => exact HC1_0.out); rintro e w34 ⟨rfl, hb⟩; refine ⟨_, rfl, ?_⟩; have n0_ := Aside0.mk (Kd.V_below (by (with_reducible repeat (first | apply Kd.V_alloc | apply Kd.V_drewN | apply Kd.V_drew)); exact HO_8.out) hb); have n1_ := Aside0.mk (Kd.V_below (by (with_reducible repeat (first | apply Kd.V_alloc | apply Kd.V_drewN | apply Kd.V_drew)); exact HO_9.out) hb); have n2_ := Aside0.mk (blk_below (g := gb502) (o := .cells #[.slice A1_0 l1_0.length c1_0] 25 (0, 0)) (by (with_reducible repeat (first | refine blk_drewN ?_ _ | refine blk_drew ?_ | refine blk_alloc ?_ _)); exact BK502.out) hb); have n3_ := Aside0.mk (blk_below (g := gb513) (o := .cells #[.int .i64 ((rd_T39 t508 x11_1).f0), .int .i64 ((rd_T39 t508 x11_1).f1), .int .i64 ((rd_T39 t508 x11_1).f2), .string ((rd_T39 t508 x11_1).f3), .int .i64 ((rd_T39 t508 x11_1).f4), .int .i64 ((rd_T39 t508 x11_1).f5), .int .i64 ((rd_T39 t508 x11_1).f6), .int .i64 ((rd_T39 t508 x11_1).f7)] 39 (0, 0)) (by (with_reducible repeat (first | refine blk_drewN ?_ _ | refine blk_drew ?_ | refine blk_alloc ?_ _)); exact BK513.out) hb); have n4_ := Aside0.mk (below_step (by repeat (first | (with_reducible first | exact HB.out | apply below_alloc | apply pw_below_drewN | apply below_drew1 | refine below_set ?_ GE502.out | refine below_set ?_ GE513.out) | exact HB.out)) hb); clear HO_8; clear HO_9; clear BK502; clear BK513; clear HB; have HO_8 := n0_; have HO_9 := n1_; have BK502 := n2_; have BK513 := n3_; have HB := n4_; clear n0_ n1_ n2_ n3_ n4_; (try clear hb); (try clear hb2); (try clear hk); (try clear hi); have hcz35_0 : w34.cell? ⟨gb513, 0, none⟩ = some (.int .i64 ((rd_T39 t508 x11_1).f0)) := (blk_cell BK513.out 0).trans rfl; have hcz35_1 : w34.cell? ⟨gb513, 1, none⟩ = some (.int .i64 ((rd_T39 t508 x11_1).f1)) := (blk_cell BK513.out 1).trans rfl; have hcz35_2 : w34.cell? ⟨gb513, 2, none⟩ = some (.int .i64 ((rd_T39 t508 x11_1).f2)) := (blk_cell BK513.out 2).trans rfl; have hcz35_3 : w34.cell? ⟨gb513, 3, none⟩ = some (.string ((rd_T39 t508 x11_1).f3)) := (blk_cell BK513.out 3).trans rfl; have hcz35_4 : w34.cell? ⟨gb513, 4, none⟩ = some (.int .i64 ((rd_T39 t508 x11_1).f4)) := (blk_cell BK513.out 4).trans rfl; have hcz35_5 : w34.cell? ⟨gb513, 5, none⟩ = some (.int .i64 ((rd_T39 t508 x11_1).f5)) := (blk_cell BK513.out 5).trans rfl; have hcz35_6 : w34.cell? ⟨gb513, 6, none⟩ = some (.int .i64 ((rd_T39 t508 x11_1).f6)) := (blk_cell BK513.out 6).trans rfl; have hcz35_7 : w34.cell? ⟨gb513, 7, none⟩ = some (.int .i64 ((rd_T39 t508 x11_1).f7)) := (blk_cell BK513.out 7).trans rfl; have hfz35_0 := blk_frozen BK513.out 0; have hfz35_1 := blk_frozen BK513.out 1; have hfz35_2 := blk_frozen BK513.out 2; have hfz35_3 := blk_frozen BK513.out 3; have hfz35_4 := blk_frozen BK513.out 4; have hfz35_5 := blk_frozen BK513.out 5; have hfz35_6 := blk_frozen BK513.out 6; have hfz35_7 := blk_frozen BK513.out 7))
                            go_roundg k1
                            case measure => have := HK1.out; omega
                            case rel => exact ⟨(wrap64 (x11_1 + 1)), (by first | rfl | (simp; done) | (simp [*]; done)), H', ⟨by have := HK1.out; omega⟩, ⟨by (with_reducible repeat (first | apply Kd.V_alloc | apply Kd.V_drewN | apply Kd.V_drew)); exact Kd.V_mono HO_8.out (fun _ hk => hk.1)⟩, ⟨by (with_reducible repeat (first | apply Kd.V_alloc | apply Kd.V_drewN | apply Kd.V_drew)); exact Kd.V_mono HO_9.out (fun _ hk => hk.1)⟩, ⟨by (with_reducible repeat (first | refine blk_drewN ?_ _ | refine blk_drew ?_ | refine blk_alloc ?_ _)); exact BK502.out⟩, ⟨by repeat (first | (with_reducible first | exact HB.out | apply below_alloc | apply pw_below_drewN | apply below_drew1 | refine below_set ?_ GE502.out | refine below_set ?_ GE513.out) | exact HB.out)⟩⟩
                          · rw [if_neg c25] at H
                            have c25b0 : (((rd_T39 t508 x11_1).f7) == (wrap64 (((rd_T39 t508 x11_1).f6) * (wrap64 (((rd_T39 t508 x11_1).f5) - ((rd_T39 t508 x11_1).f4)))))) = false := beq_eq_false_iff_ne.mpr c25
                            have c25b1 : (((rd_T39 t508 x11_1).f7) != (wrap64 (((rd_T39 t508 x11_1).f6) * (wrap64 (((rd_T39 t508 x11_1).f5) - ((rd_T39 t508 x11_1).f4)))))) = true := bne_iff_ne.mpr c25
                            obtain rfl := Option.some.inj H
                            obtain ⟨Ao36, co36, eo36⟩ := Kd.V_slice HO_9.out
                            subst eo36
                            have p512 : 0 ≤ (x11_1 : Int) := of_decide_eq_true (by first | (with_reducible assumption) | assumption)
                            have q512 : x11_1 < (t508.length : Int) := of_decide_eq_true (by first | (with_reducible assumption) | assumption)
                            obtain ⟨ad512, e512, hx512_0, hx512_1, hx512_2, hx512_3, hx512_4, hx512_5, hx512_6, hx512_7⟩ := at_T39 (Kd.V_reads' HO_9.out).2.2 x11_1 p512 q512
                            cases e512
                            replace p512 := eq_true p512
                            replace q512 := eq_true q512
                            go_wp2_with (first | ((with_reducible refine gate_dst (N := 12) rfl ?_); refine box_event ?hg (N := 12) ?hd (cs := #[.int .i64 0, .int .i64 0, .int .i64 0, .string (⟨#[]⟩ : ByteArray), .int .i64 0, .int .i64 0, .int .i64 0, .int .i64 0]) (t := 39) ?hr ?_; (case hd => rfl); (case hg => rfl); (case hr => first | (go_simp; done) | (go_simp; rfl)); intro gb513 hg w37 hbox hb; have n0_ := Aside0.mk (Kd.V_below (Kd.V_elderB (by (with_reducible repeat (first | apply Kd.V_alloc | apply Kd.V_drewN | apply Kd.V_drew)); exact HO_8.out) gb513 (Nat.le_of_eq hg.symm)) hb); have n1_ := Aside0.mk (Kd.V_below (Kd.V_elderB (by (with_reducible repeat (first | apply Kd.V_alloc | apply Kd.V_drewN | apply Kd.V_drew)); exact HO_9.out) gb513 (Nat.le_of_eq hg.symm)) hb); have n2_ := Aside0.mk (blk_below (g := gb502) (o := .cells #[.slice A1_0 l1_0.length c1_0] 25 (0, 0)) (by (with_reducible repeat (first | refine blk_drewN ?_ _ | refine blk_drew ?_ | refine blk_alloc ?_ _)); exact BK502.out) hb); have n3_ := Aside0.mk (below_step (by repeat (first | (with_reducible first | exact HB.out | apply below_alloc | apply pw_below_drewN | apply below_drew1 | refine below_set ?_ GE502.out) | exact HB.out)) hb); have n4_ := Aside0.mk (hbox); have n5_ := Aside0.mk ((by rw [hg]; exact (below_size (by repeat (first | (with_reducible first | exact HB.out | apply below_alloc | apply pw_below_drewN | apply below_drew1 | refine below_set ?_ GE502.out) | exact HB.out))) : w.heap.size ≤ gb513)); have n6_ := Aside0.mk ((by rw [hg]; exact (below_size (by repeat (first | (with_reducible first | exact HB.out | apply below_alloc | apply pw_below_drewN | apply below_drew1 | refine below_set ?_ GE502.out) | exact HB.out))) : w.heap.size ≤ gb513)); have n7_ := Aside0.mk ((by rw [hg]; exact Nat.ne_of_lt (blk_lt (g := gb502) (o := .cells #[.slice A1_0 l1_0.length c1_0] 25 (0, 0)) (by (with_reducible repeat (first | refine blk_drewN ?_ _ | refine blk_drew ?_ | refine blk_alloc ?_ _)); exact BK502.out)) : gb502 ≠ gb513)); have n8_ := Aside0.mk ((by rw [hg]; exact Nat.ne_of_gt (blk_lt (g := gb502) (o := .cells #[.slice A1_0 l1_0.length c1_0] 25 (0, 0)) (by (with_reducible repeat (first | refine blk_drewN ?_ _ | refine blk_drew ?_ | refine blk_alloc ?_ _)); exact BK502.out)) : gb513 ≠ gb502)); clear HO_8; clear HO_9; clear BK502; clear HB; have HO_8 := n0_; have HO_9 := n1_; have BK502 := n2_; have HB := n3_; have BK513 := n4_; have GW513 := n5_; have GE513 := n6_; have NB502_513 := n7_; have NB513_502 := n8_; clear n0_ n1_ n2_ n3_ n4_ n5_ n6_ n7_ n8_; clear hb hbox hg; have hnb38 := NB513_502.out; have hnc38 := NB502_513.out; have hcz39_0 : w37.cell? ⟨gb513, 0, none⟩ = some (.int .i64 0) := (blk_cell BK513.out 0).trans rfl; have hcz39_1 : w37.cell? ⟨gb513, 1, none⟩ = some (.int .i64 0) := (blk_cell BK513.out 1).trans rfl; have hcz39_2 : w37.cell? ⟨gb513, 2, none⟩ = some (.int .i64 0) := (blk_cell BK513.out 2).trans rfl; have hcz39_3 : w37.cell? ⟨gb513, 3, none⟩ = some (.string (⟨#[]⟩ : ByteArray)) := (blk_cell BK513.out 3).trans rfl; have hcz39_4 : w37.cell? ⟨gb513, 4, none⟩ = some (.int .i64 0) := (blk_cell BK513.out 4).trans rfl; have hcz39_5 : w37.cell? ⟨gb513, 5, none⟩ = some (.int .i64 0) := (blk_cell BK513.out 5).trans rfl; have hcz39_6 : w37.cell? ⟨gb513, 6, none⟩ = some (.int .i64 0) := (blk_cell BK513.out 6).trans rfl; have hcz39_7 : w37.cell? ⟨gb513, 7, none⟩ = some (.int .i64 0) := (blk_cell BK513.out 7).trans rfl; have hfz39_0 := blk_frozen BK513.out 0; have hfz39_1 := blk_frozen BK513.out 1; have hfz39_2 := blk_frozen BK513.out 2; have hfz39_3 := blk_frozen BK513.out 3; have hfz39_4 := blk_frozen BK513.out 4; have hfz39_5 := blk_frozen BK513.out 5; have hfz39_6 := blk_frozen BK513.out 6; have hfz39_7 := blk_frozen BK513.out 7; have hcz40_0 : w37.cell? ⟨gb502, 0, none⟩ = some (.slice A1_0 l1_0.length c1_0) := (blk_cell BK502.out 0).trans rfl; have hfz40_0 := blk_frozen BK502.out 0) | ((with_reducible refine gate_callee (f := 32) rfl ?_); refine goesL_ (some 59) rfl rfl Try.func32 (by kernel_rfl) rfl #[.agg #[.slice A1_0 l1_0.length c1_0], .int .i64 ((rd_T39 t508 x11_1).f4)] rfl (by (try simp only [List.map_toArray, List.map_cons, List.map_nil]); first | done | rfl | (simp only [List.length_drop, List.length_take]; rfl)) ?_; (with_reducible refine (tariff_Change.calls k1 _ _ l1_0 ((rd_T39 t508 x11_1).f4) t514 true t516 _ ?side1 ?side2 A18.out).mono ?_); (case side1 => exact Kd.C_below HR1_0.out (by repeat (first | (with_reducible first | exact HB.out | apply below_alloc | apply pw_below_drewN | apply below_drew1 | refine below_set ?_ GE502.out | refine below_set ?_ GE513.out) | exact HB.out))); (case side2 => exact HC1_0.out); rintro e w41 ⟨rfl, hb⟩; refine ⟨_, rfl, ?_⟩; have n0_ := Aside0.mk (Kd.V_below (by (with_reducible repeat (first | apply Kd.V_alloc | apply Kd.V_drewN | apply Kd.V_drew)); exact (Kd.V_mono (Kd.V_far (p := ⟨gb513, 7, none⟩) (Kd.V_far (p := ⟨gb513, 6, none⟩) (Kd.V_far (p := ⟨gb513, 5, none⟩) (Kd.V_far (p := ⟨gb513, 4, none⟩) (Kd.V_far (p := ⟨gb513, 3, none⟩) (Kd.V_far (p := ⟨gb513, 2, none⟩) (Kd.V_far (p := ⟨gb513, 1, none⟩) (Kd.V_far (p := ⟨gb513, 0, none⟩) (Kd.V_mono HO_8.out (fun k_ hk => (⟨hk, hk.2⟩ : _ ∧ k_ ≠ gb513))) (fun _ hk => hk.2) (.int .i64 ((rd_T39 t508 x11_1).f0))) (fun _ hk => hk.2) (.int .i64 ((rd_T39 t508 x11_1).f1))) (fun _ hk => hk.2) (.int .i64 ((rd_T39 t508 x11_1).f2))) (fun _ hk => hk.2) (.string ((rd_T39 t508 x11_1).f3))) (fun _ hk => hk.2) (.int .i64 ((rd_T39 t508 x11_1).f4))) (fun _ hk => hk.2) (.int .i64 ((rd_T39 t508 x11_1).f5))) (fun _ hk => hk.2) (.int .i64 ((rd_T39 t508 x11_1).f6))) (fun _ hk => hk.2) (.int .i64 ((rd_T39 t508 x11_1).f7))) (fun _ h_ => h_.1))) hb); have n1_ := Aside0.mk (Kd.V_below (by (with_reducible repeat (first | apply Kd.V_alloc | apply Kd.V_drewN | apply Kd.V_drew)); exact (Kd.V_mono (Kd.V_far (p := ⟨gb513, 7, none⟩) (Kd.V_far (p := ⟨gb513, 6, none⟩) (Kd.V_far (p := ⟨gb513, 5, none⟩) (Kd.V_far (p := ⟨gb513, 4, none⟩) (Kd.V_far (p := ⟨gb513, 3, none⟩) (Kd.V_far (p := ⟨gb513, 2, none⟩) (Kd.V_far (p := ⟨gb513, 1, none⟩) (Kd.V_far (p := ⟨gb513, 0, none⟩) (Kd.V_mono HO_9.out (fun k_ hk => (⟨hk, hk.2⟩ : _ ∧ k_ ≠ gb513))) (fun _ hk => hk.2) (.int .i64 ((rd_T39 t508 x11_1).f0))) (fun _ hk => hk.2) (.int .i64 ((rd_T39 t508 x11_1).f1))) (fun _ hk => hk.2) (.int .i64 ((rd_T39 t508 x11_1).f2))) (fun _ hk => hk.2) (.string ((rd_T39 t508 x11_1).f3))) (fun _ hk => hk.2) (.int .i64 ((rd_T39 t508 x11_1).f4))) (fun _ hk => hk.2) (.int .i64 ((rd_T39 t508 x11_1).f5))) (fun _ hk => hk.2) (.int .i64 ((rd_T39 t508 x11_1).f6))) (fun _ hk => hk.2) (.int .i64 ((rd_T39 t508 x11_1).f7))) (fun _ h_ => h_.1))) hb); have n2_ := Aside0.mk (blk_below (g := gb502) (o := .cells #[.slice A1_0 l1_0.length c1_0] 25 (0, 0)) (by (with_reducible repeat (first | refine blk_drewN ?_ _ | refine blk_drew ?_ | refine blk_alloc ?_ _)); refine blk_far ?_ NB502_513.out _; (with_reducible repeat (first | refine blk_drewN ?_ _ | refine blk_drew ?_ | refine blk_alloc ?_ _)); refine blk_far ?_ NB502_513.out _; (with_reducible repeat (first | refine blk_drewN ?_ _ | refine blk_drew ?_ | refine blk_alloc ?_ _)); refine blk_far ?_ NB502_513.out _; (with_reducible repeat (first | refine blk_drewN ?_ _ | refine blk_drew ?_ | refine blk_alloc ?_ _)); refine blk_far ?_ NB502_513.out _; (with_reducible repeat (first | refine blk_drewN ?_ _ | refine blk_drew ?_ | refine blk_alloc ?_ _)); refine blk_far ?_ NB502_513.out _; (with_reducible repeat (first | refine blk_drewN ?_ _ | refine blk_drew ?_ | refine blk_alloc ?_ _)); refine blk_far ?_ NB502_513.out _; (with_reducible repeat (first | refine blk_drewN ?_ _ | refine blk_drew ?_ | refine blk_alloc ?_ _)); refine blk_far ?_ NB502_513.out _; (with_reducible repeat (first | refine blk_drewN ?_ _ | refine blk_drew ?_ | refine blk_alloc ?_ _)); refine blk_far ?_ NB502_513.out _; (with_reducible repeat (first | refine blk_drewN ?_ _ | refine blk_drew ?_ | refine blk_alloc ?_ _)); exact BK502.out) hb); have n3_ := Aside0.mk (blk_below (g := gb513) (o := .cells #[.int .i64 ((rd_T39 t508 x11_1).f0), .int .i64 ((rd_T39 t508 x11_1).f1), .int .i64 ((rd_T39 t508 x11_1).f2), .string ((rd_T39 t508 x11_1).f3), .int .i64 ((rd_T39 t508 x11_1).f4), .int .i64 ((rd_T39 t508 x11_1).f5), .int .i64 ((rd_T39 t508 x11_1).f6), .int .i64 ((rd_T39 t508 x11_1).f7)] 39 (0, 0)) (by (with_reducible repeat (first | refine blk_drewN ?_ _ | refine blk_drew ?_ | refine blk_alloc ?_ _)); refine blk_put (cs := #[.int .i64 ((rd_T39 t508 x11_1).f0), .int .i64 ((rd_T39 t508 x11_1).f1), .int .i64 ((rd_T39 t508 x11_1).f2), .string ((rd_T39 t508 x11_1).f3), .int .i64 ((rd_T39 t508 x11_1).f4), .int .i64 ((rd_T39 t508 x11_1).f5), .int .i64 ((rd_T39 t508 x11_1).f6), .int .i64 0]) ?_ 7 _ rfl; (with_reducible repeat (first | refine blk_drewN ?_ _ | refine blk_drew ?_ | refine blk_alloc ?_ _)); refine blk_put (cs := #[.int .i64 ((rd_T39 t508 x11_1).f0), .int .i64 ((rd_T39 t508 x11_1).f1), .int .i64 ((rd_T39 t508 x11_1).f2), .string ((rd_T39 t508 x11_1).f3), .int .i64 ((rd_T39 t508 x11_1).f4), .int .i64 ((rd_T39 t508 x11_1).f5), .int .i64 0, .int .i64 0]) ?_ 6 _ rfl; (with_reducible repeat (first | refine blk_drewN ?_ _ | refine blk_drew ?_ | refine blk_alloc ?_ _)); refine blk_put (cs := #[.int .i64 ((rd_T39 t508 x11_1).f0), .int .i64 ((rd_T39 t508 x11_1).f1), .int .i64 ((rd_T39 t508 x11_1).f2), .string ((rd_T39 t508 x11_1).f3), .int .i64 ((rd_T39 t508 x11_1).f4), .int .i64 0, .int .i64 0, .int .i64 0]) ?_ 5 _ rfl; (with_reducible repeat (first | refine blk_drewN ?_ _ | refine blk_drew ?_ | refine blk_alloc ?_ _)); refine blk_put (cs := #[.int .i64 ((rd_T39 t508 x11_1).f0), .int .i64 ((rd_T39 t508 x11_1).f1), .int .i64 ((rd_T39 t508 x11_1).f2), .string ((rd_T39 t508 x11_1).f3), .int .i64 0, .int .i64 0, .int .i64 0, .int .i64 0]) ?_ 4 _ rfl; (with_reducible repeat (first | refine blk_drewN ?_ _ | refine blk_drew ?_ | refine blk_alloc ?_ _)); refine blk_put (cs := #[.int .i64 ((rd_T39 t508 x11_1).f0), .int .i64 ((rd_T39 t508 x11_1).f1), .int .i64 ((rd_T39 t508 x11_1).f2), .string (⟨#[]⟩ : ByteArray), .int .i64 0, .int .i64 0, .int .i64 0, .int .i64 0]) ?_ 3 _ rfl; (with_reducible repeat (first | refine blk_drewN ?_ _ | refine blk_drew ?_ | refine blk_alloc ?_ _)); refine blk_put (cs := #[.int .i64 ((rd_T39 t508 x11_1).f0), .int .i64 ((rd_T39 t508 x11_1).f1), .int .i64 0, .string (⟨#[]⟩ : ByteArray), .int .i64 0, .int .i64 0, .int .i64 0, .int .i64 0]) ?_ 2 _ rfl; (with_reducible repeat (first | refine blk_drewN ?_ _ | refine blk_drew ?_ | refine blk_alloc ?_ _)); refine blk_put (cs := #[.int .i64 ((rd_T39 t508 x11_1).f0), .int .i64 0, .int .i64 0, .string (⟨#[]⟩ : ByteArray), .int .i64 0, .int .i64 0, .int .i64 0, .int .i64 0]) ?_ 1 _ rfl; (with_reducible repeat (first | refine blk_drewN ?_ _ | refine blk_drew ?_ | refine blk_alloc ?_ _)); refine blk_put (cs := #[.int .i64 0, .int .i64 0, .int .i64 0, .string (⟨#[]⟩ : ByteArray), .int .i64 0, .int .i64 0, .int .i64 0, .int .i64 0]) ?_ 0 _ rfl; (with_reducible repeat (first | refine blk_drewN ?_ _ | refine blk_drew ?_ | refine blk_alloc ?_ _)); exact BK513.out) hb); have n4_ := Aside0.mk (below_step (by repeat (first | (with_reducible first | exact HB.out | apply below_alloc | apply pw_below_drewN | apply below_drew1 | refine below_set ?_ GE502.out | refine below_set ?_ GE513.out) | exact HB.out)) hb); clear HO_8; clear HO_9; clear BK502; clear BK513; clear HB; have HO_8 := n0_; have HO_9 := n1_; have BK502 := n2_; have BK513 := n3_; have HB := n4_; clear n0_ n1_ n2_ n3_ n4_; (try clear hb); (try clear hb2); (try clear hk); (try clear hi); have hcz42_0 : w41.cell? ⟨gb502, 0, none⟩ = some (.slice A1_0 l1_0.length c1_0) := (blk_cell BK502.out 0).trans rfl; have hfz42_0 := blk_frozen BK502.out 0; have hcz43_0 : w41.cell? ⟨gb513, 0, none⟩ = some (.int .i64 ((rd_T39 t508 x11_1).f0)) := (blk_cell BK513.out 0).trans rfl; have hcz43_1 : w41.cell? ⟨gb513, 1, none⟩ = some (.int .i64 ((rd_T39 t508 x11_1).f1)) := (blk_cell BK513.out 1).trans rfl; have hcz43_2 : w41.cell? ⟨gb513, 2, none⟩ = some (.int .i64 ((rd_T39 t508 x11_1).f2)) := (blk_cell BK513.out 2).trans rfl; have hcz43_3 : w41.cell? ⟨gb513, 3, none⟩ = some (.string ((rd_T39 t508 x11_1).f3)) := (blk_cell BK513.out 3).trans rfl; have hcz43_4 : w41.cell? ⟨gb513, 4, none⟩ = some (.int .i64 ((rd_T39 t508 x11_1).f4)) := (blk_cell BK513.out 4).trans rfl; have hcz43_5 : w41.cell? ⟨gb513, 5, none⟩ = some (.int .i64 ((rd_T39 t508 x11_1).f5)) := (blk_cell BK513.out 5).trans rfl; have hcz43_6 : w41.cell? ⟨gb513, 6, none⟩ = some (.int .i64 ((rd_T39 t508 x11_1).f6)) := (blk_cell BK513.out 6).trans rfl; have hcz43_7 : w41.cell? ⟨gb513, 7, none⟩ = some (.int .i64 ((rd_T39 t508 x11_1).f7)) := (blk_cell BK513.out 7).trans rfl; have hfz43_0 := blk_frozen BK513.out 0; have hfz43_1 := blk_frozen BK513.out 1; have hfz43_2 := blk_frozen BK513.out 2; have hfz43_3 := blk_frozen BK513.out 3; have hfz43_4 := blk_frozen BK513.out 4; have hfz43_5 := blk_frozen BK513.out 5; have hfz43_6 := blk_frozen BK513.out 6; have hfz43_7 := blk_frozen BK513.out 7) | ((with_reducible refine gate_callee (f := 20) rfl ?_); refine goesL_ (some 69) rfl rfl Try.func20 (by kernel_rfl) rfl #[.agg #[.slice A1_0 l1_0.length c1_0], .int .i64 ((rd_T39 t508 x11_1).f4), .int .i64 ((rd_T39 t508 x11_1).f5)] rfl (by (try simp only [List.map_toArray, List.map_cons, List.map_nil]); first | done | rfl | (simp only [List.length_drop, List.length_take]; rfl)) ?_; (with_reducible refine (tariff_Price.calls k1 _ _ l1_0 ((rd_T39 t508 x11_1).f4) ((rd_T39 t508 x11_1).f5) t517 t518 _ ?side1 ?side2 A19.out).mono ?_); (case side1 => repeat (first | exact (Kd.C_below HR1_0.out HB.out) | (with_reducible refine Kd.C_alloc ?_ _) | (with_reducible refine Kd.C_drewN ?_ _) | (with_reducible refine Kd.C_drew ?_))); (case side2 => exact HC1_0.out); rintro e w44 ⟨rfl, hb⟩; refine ⟨_, rfl, ?_⟩; have n0_ := Aside0.mk (Kd.V_below (by (with_reducible repeat (first | apply Kd.V_alloc | apply Kd.V_drewN | apply Kd.V_drew)); exact HO_8.out) hb); have n1_ := Aside0.mk (Kd.V_below (by (with_reducible repeat (first | apply Kd.V_alloc | apply Kd.V_drewN | apply Kd.V_drew)); exact HO_9.out) hb); have n2_ := Aside0.mk (blk_below (g := gb502) (o := .cells #[.slice A1_0 l1_0.length c1_0] 25 (0, 0)) (by (with_reducible repeat (first | refine blk_drewN ?_ _ | refine blk_drew ?_ | refine blk_alloc ?_ _)); exact BK502.out) hb); have n3_ := Aside0.mk (blk_below (g := gb513) (o := .cells #[.int .i64 ((rd_T39 t508 x11_1).f0), .int .i64 ((rd_T39 t508 x11_1).f1), .int .i64 ((rd_T39 t508 x11_1).f2), .string ((rd_T39 t508 x11_1).f3), .int .i64 ((rd_T39 t508 x11_1).f4), .int .i64 ((rd_T39 t508 x11_1).f5), .int .i64 ((rd_T39 t508 x11_1).f6), .int .i64 ((rd_T39 t508 x11_1).f7)] 39 (0, 0)) (by (with_reducible repeat (first | refine blk_drewN ?_ _ | refine blk_drew ?_ | refine blk_alloc ?_ _)); exact BK513.out) hb); have n4_ := Aside0.mk (below_step (by repeat (first | (with_reducible first | exact HB.out | apply below_alloc | apply pw_below_drewN | apply below_drew1 | refine below_set ?_ GE502.out | refine below_set ?_ GE513.out) | exact HB.out)) hb); clear HO_8; clear HO_9; clear BK502; clear BK513; clear HB; have HO_8 := n0_; have HO_9 := n1_; have BK502 := n2_; have BK513 := n3_; have HB := n4_; clear n0_ n1_ n2_ n3_ n4_; (try clear hb); (try clear hb2); (try clear hk); (try clear hi); have hcz45_0 : w44.cell? ⟨gb513, 0, none⟩ = some (.int .i64 ((rd_T39 t508 x11_1).f0)) := (blk_cell BK513.out 0).trans rfl; have hcz45_1 : w44.cell? ⟨gb513, 1, none⟩ = some (.int .i64 ((rd_T39 t508 x11_1).f1)) := (blk_cell BK513.out 1).trans rfl; have hcz45_2 : w44.cell? ⟨gb513, 2, none⟩ = some (.int .i64 ((rd_T39 t508 x11_1).f2)) := (blk_cell BK513.out 2).trans rfl; have hcz45_3 : w44.cell? ⟨gb513, 3, none⟩ = some (.string ((rd_T39 t508 x11_1).f3)) := (blk_cell BK513.out 3).trans rfl; have hcz45_4 : w44.cell? ⟨gb513, 4, none⟩ = some (.int .i64 ((rd_T39 t508 x11_1).f4)) := (blk_cell BK513.out 4).trans rfl; have hcz45_5 : w44.cell? ⟨gb513, 5, none⟩ = some (.int .i64 ((rd_T39 t508 x11_1).f5)) := (blk_cell BK513.out 5).trans rfl; have hcz45_6 : w44.cell? ⟨gb513, 6, none⟩ = some (.int .i64 ((rd_T39 t508 x11_1).f6)) := (blk_cell BK513.out 6).trans rfl; have hcz45_7 : w44.cell? ⟨gb513, 7, none⟩ = some (.int .i64 ((rd_T39 t508 x11_1).f7)) := (blk_cell BK513.out 7).trans rfl; have hfz45_0 := blk_frozen BK513.out 0; have hfz45_1 := blk_frozen BK513.out 1; have hfz45_2 := blk_frozen BK513.out 2; have hfz45_3 := blk_frozen BK513.out 3; have hfz45_4 := blk_frozen BK513.out 4; have hfz45_5 := blk_frozen BK513.out 5; have hfz45_6 := blk_frozen BK513.out 6; have hfz45_7 := blk_frozen BK513.out 7))
                            go_ret
                            exact ⟨by first | rfl | (simp [errW_none, errW_some] <;> rfl) | (simp [*, errW_none, errW_some] <;> rfl), by repeat (first | (with_reducible first | exact HB.out | apply below_alloc | apply pw_below_drewN | apply below_drew1 | refine below_set ?_ GE502.out | refine below_set ?_ GE513.out) | exact HB.out)⟩
                        · rw [if_neg c24] at H
                          have c24b0 : (t517 == ((rd_T39 t508 x11_1).f7)) = false := beq_eq_false_iff_ne.mpr c24
                          have c24b1 : (t517 != ((rd_T39 t508 x11_1).f7)) = true := bne_iff_ne.mpr c24
                          obtain rfl := Option.some.inj H
                          obtain ⟨Ao46, co46, eo46⟩ := Kd.V_slice HO_9.out
                          subst eo46
                          have p512 : 0 ≤ (x11_1 : Int) := of_decide_eq_true (by first | (with_reducible assumption) | assumption)
                          have q512 : x11_1 < (t508.length : Int) := of_decide_eq_true (by first | (with_reducible assumption) | assumption)
                          obtain ⟨ad512, e512, hx512_0, hx512_1, hx512_2, hx512_3, hx512_4, hx512_5, hx512_6, hx512_7⟩ := at_T39 (Kd.V_reads' HO_9.out).2.2 x11_1 p512 q512
                          cases e512
                          replace p512 := eq_true p512
                          replace q512 := eq_true q512
                          go_wp2_with (first | ((with_reducible refine gate_dst (N := 12) rfl ?_); refine box_event ?hg (N := 12) ?hd (cs := #[.int .i64 0, .int .i64 0, .int .i64 0, .string (⟨#[]⟩ : ByteArray), .int .i64 0, .int .i64 0, .int .i64 0, .int .i64 0]) (t := 39) ?hr ?_; (case hd => rfl); (case hg => rfl); (case hr => first | (go_simp; done) | (go_simp; rfl)); intro gb513 hg w47 hbox hb; have n0_ := Aside0.mk (Kd.V_below (Kd.V_elderB (by (with_reducible repeat (first | apply Kd.V_alloc | apply Kd.V_drewN | apply Kd.V_drew)); exact HO_8.out) gb513 (Nat.le_of_eq hg.symm)) hb); have n1_ := Aside0.mk (Kd.V_below (Kd.V_elderB (by (with_reducible repeat (first | apply Kd.V_alloc | apply Kd.V_drewN | apply Kd.V_drew)); exact HO_9.out) gb513 (Nat.le_of_eq hg.symm)) hb); have n2_ := Aside0.mk (blk_below (g := gb502) (o := .cells #[.slice A1_0 l1_0.length c1_0] 25 (0, 0)) (by (with_reducible repeat (first | refine blk_drewN ?_ _ | refine blk_drew ?_ | refine blk_alloc ?_ _)); exact BK502.out) hb); have n3_ := Aside0.mk (below_step (by repeat (first | (with_reducible first | exact HB.out | apply below_alloc | apply pw_below_drewN | apply below_drew1 | refine below_set ?_ GE502.out) | exact HB.out)) hb); have n4_ := Aside0.mk (hbox); have n5_ := Aside0.mk ((by rw [hg]; exact (below_size (by repeat (first | (with_reducible first | exact HB.out | apply below_alloc | apply pw_below_drewN | apply below_drew1 | refine below_set ?_ GE502.out) | exact HB.out))) : w.heap.size ≤ gb513)); have n6_ := Aside0.mk ((by rw [hg]; exact (below_size (by repeat (first | (with_reducible first | exact HB.out | apply below_alloc | apply pw_below_drewN | apply below_drew1 | refine below_set ?_ GE502.out) | exact HB.out))) : w.heap.size ≤ gb513)); have n7_ := Aside0.mk ((by rw [hg]; exact Nat.ne_of_lt (blk_lt (g := gb502) (o := .cells #[.slice A1_0 l1_0.length c1_0] 25 (0, 0)) (by (with_reducible repeat (first | refine blk_drewN ?_ _ | refine blk_drew ?_ | refine blk_alloc ?_ _)); exact BK502.out)) : gb502 ≠ gb513)); have n8_ := Aside0.mk ((by rw [hg]; exact Nat.ne_of_gt (blk_lt (g := gb502) (o := .cells #[.slice A1_0 l1_0.length c1_0] 25 (0, 0)) (by (with_reducible repeat (first | refine blk_drewN ?_ _ | refine blk_drew ?_ | refine blk_alloc ?_ _)); exact BK502.out)) : gb513 ≠ gb502)); clear HO_8; clear HO_9; clear BK502; clear HB; have HO_8 := n0_; have HO_9 := n1_; have BK502 := n2_; have HB := n3_; have BK513 := n4_; have GW513 := n5_; have GE513 := n6_; have NB502_513 := n7_; have NB513_502 := n8_; clear n0_ n1_ n2_ n3_ n4_ n5_ n6_ n7_ n8_; clear hb hbox hg; have hnb48 := NB513_502.out; have hnc48 := NB502_513.out; have hcz49_0 : w47.cell? ⟨gb513, 0, none⟩ = some (.int .i64 0) := (blk_cell BK513.out 0).trans rfl; have hcz49_1 : w47.cell? ⟨gb513, 1, none⟩ = some (.int .i64 0) := (blk_cell BK513.out 1).trans rfl; have hcz49_2 : w47.cell? ⟨gb513, 2, none⟩ = some (.int .i64 0) := (blk_cell BK513.out 2).trans rfl; have hcz49_3 : w47.cell? ⟨gb513, 3, none⟩ = some (.string (⟨#[]⟩ : ByteArray)) := (blk_cell BK513.out 3).trans rfl; have hcz49_4 : w47.cell? ⟨gb513, 4, none⟩ = some (.int .i64 0) := (blk_cell BK513.out 4).trans rfl; have hcz49_5 : w47.cell? ⟨gb513, 5, none⟩ = some (.int .i64 0) := (blk_cell BK513.out 5).trans rfl; have hcz49_6 : w47.cell? ⟨gb513, 6, none⟩ = some (.int .i64 0) := (blk_cell BK513.out 6).trans rfl; have hcz49_7 : w47.cell? ⟨gb513, 7, none⟩ = some (.int .i64 0) := (blk_cell BK513.out 7).trans rfl; have hfz49_0 := blk_frozen BK513.out 0; have hfz49_1 := blk_frozen BK513.out 1; have hfz49_2 := blk_frozen BK513.out 2; have hfz49_3 := blk_frozen BK513.out 3; have hfz49_4 := blk_frozen BK513.out 4; have hfz49_5 := blk_frozen BK513.out 5; have hfz49_6 := blk_frozen BK513.out 6; have hfz49_7 := blk_frozen BK513.out 7; have hcz50_0 : w47.cell? ⟨gb502, 0, none⟩ = some (.slice A1_0 l1_0.length c1_0) := (blk_cell BK502.out 0).trans rfl; have hfz50_0 := blk_frozen BK502.out 0) | ((with_reducible refine gate_callee (f := 32) rfl ?_); refine goesL_ (some 59) rfl rfl Try.func32 (by kernel_rfl) rfl #[.agg #[.slice A1_0 l1_0.length c1_0], .int .i64 ((rd_T39 t508 x11_1).f4)] rfl (by (try simp only [List.map_toArray, List.map_cons, List.map_nil]); first | done | rfl | (simp only [List.length_drop, List.length_take]; rfl)) ?_; (with_reducible refine (tariff_Change.calls k1 _ _ l1_0 ((rd_T39 t508 x11_1).f4) t514 true t516 _ ?side1 ?side2 A18.out).mono ?_); (case side1 => exact Kd.C_below HR1_0.out (by repeat (first | (with_reducible first | exact HB.out | apply below_alloc | apply pw_below_drewN | apply below_drew1 | refine below_set ?_ GE502.out | refine below_set ?_ GE513.out) | exact HB.out))); (case side2 => exact HC1_0.out); rintro e w51 ⟨rfl, hb⟩; refine ⟨_, rfl, ?_⟩; have n0_ := Aside0.mk (Kd.V_below (by (with_reducible repeat (first | apply Kd.V_alloc | apply Kd.V_drewN | apply Kd.V_drew)); exact (Kd.V_mono (Kd.V_far (p := ⟨gb513, 7, none⟩) (Kd.V_far (p := ⟨gb513, 6, none⟩) (Kd.V_far (p := ⟨gb513, 5, none⟩) (Kd.V_far (p := ⟨gb513, 4, none⟩) (Kd.V_far (p := ⟨gb513, 3, none⟩) (Kd.V_far (p := ⟨gb513, 2, none⟩) (Kd.V_far (p := ⟨gb513, 1, none⟩) (Kd.V_far (p := ⟨gb513, 0, none⟩) (Kd.V_mono HO_8.out (fun k_ hk => (⟨hk, hk.2⟩ : _ ∧ k_ ≠ gb513))) (fun _ hk => hk.2) (.int .i64 ((rd_T39 t508 x11_1).f0))) (fun _ hk => hk.2) (.int .i64 ((rd_T39 t508 x11_1).f1))) (fun _ hk => hk.2) (.int .i64 ((rd_T39 t508 x11_1).f2))) (fun _ hk => hk.2) (.string ((rd_T39 t508 x11_1).f3))) (fun _ hk => hk.2) (.int .i64 ((rd_T39 t508 x11_1).f4))) (fun _ hk => hk.2) (.int .i64 ((rd_T39 t508 x11_1).f5))) (fun _ hk => hk.2) (.int .i64 ((rd_T39 t508 x11_1).f6))) (fun _ hk => hk.2) (.int .i64 ((rd_T39 t508 x11_1).f7))) (fun _ h_ => h_.1))) hb); have n1_ := Aside0.mk (Kd.V_below (by (with_reducible repeat (first | apply Kd.V_alloc | apply Kd.V_drewN | apply Kd.V_drew)); exact (Kd.V_mono (Kd.V_far (p := ⟨gb513, 7, none⟩) (Kd.V_far (p := ⟨gb513, 6, none⟩) (Kd.V_far (p := ⟨gb513, 5, none⟩) (Kd.V_far (p := ⟨gb513, 4, none⟩) (Kd.V_far (p := ⟨gb513, 3, none⟩) (Kd.V_far (p := ⟨gb513, 2, none⟩) (Kd.V_far (p := ⟨gb513, 1, none⟩) (Kd.V_far (p := ⟨gb513, 0, none⟩) (Kd.V_mono HO_9.out (fun k_ hk => (⟨hk, hk.2⟩ : _ ∧ k_ ≠ gb513))) (fun _ hk => hk.2) (.int .i64 ((rd_T39 t508 x11_1).f0))) (fun _ hk => hk.2) (.int .i64 ((rd_T39 t508 x11_1).f1))) (fun _ hk => hk.2) (.int .i64 ((rd_T39 t508 x11_1).f2))) (fun _ hk => hk.2) (.string ((rd_T39 t508 x11_1).f3))) (fun _ hk => hk.2) (.int .i64 ((rd_T39 t508 x11_1).f4))) (fun _ hk => hk.2) (.int .i64 ((rd_T39 t508 x11_1).f5))) (fun _ hk => hk.2) (.int .i64 ((rd_T39 t508 x11_1).f6))) (fun _ hk => hk.2) (.int .i64 ((rd_T39 t508 x11_1).f7))) (fun _ h_ => h_.1))) hb); have n2_ := Aside0.mk (blk_below (g := gb502) (o := .cells #[.slice A1_0 l1_0.length c1_0] 25 (0, 0)) (by (with_reducible repeat (first | refine blk_drewN ?_ _ | refine blk_drew ?_ | refine blk_alloc ?_ _)); refine blk_far ?_ NB502_513.out _; (with_reducible repeat (first | refine blk_drewN ?_ _ | refine blk_drew ?_ | refine blk_alloc ?_ _)); refine blk_far ?_ NB502_513.out _; (with_reducible repeat (first | refine blk_drewN ?_ _ | refine blk_drew ?_ | refine blk_alloc ?_ _)); refine blk_far ?_ NB502_513.out _; (with_reducible repeat (first | refine blk_drewN ?_ _ | refine blk_drew ?_ | refine blk_alloc ?_ _)); refine blk_far ?_ NB502_513.out _; (with_reducible repeat (first | refine blk_drewN ?_ _ | refine blk_drew ?_ | refine blk_alloc ?_ _)); refine blk_far ?_ NB502_513.out _; (with_reducible repeat (first | refine blk_drewN ?_ _ | refine blk_drew ?_ | refine blk_alloc ?_ _)); refine blk_far ?_ NB502_513.out _; (with_reducible repeat (first | refine blk_drewN ?_ _ | refine blk_drew ?_ | refine blk_alloc ?_ _)); refine blk_far ?_ NB502_513.out _; (with_reducible repeat (first | refine blk_drewN ?_ _ | refine blk_drew ?_ | refine blk_alloc ?_ _)); refine blk_far ?_ NB502_513.out _; (with_reducible repeat (first | refine blk_drewN ?_ _ | refine blk_drew ?_ | refine blk_alloc ?_ _)); exact BK502.out) hb); have n3_ := Aside0.mk (blk_below (g := gb513) (o := .cells #[.int .i64 ((rd_T39 t508 x11_1).f0), .int .i64 ((rd_T39 t508 x11_1).f1), .int .i64 ((rd_T39 t508 x11_1).f2), .string ((rd_T39 t508 x11_1).f3), .int .i64 ((rd_T39 t508 x11_1).f4), .int .i64 ((rd_T39 t508 x11_1).f5), .int .i64 ((rd_T39 t508 x11_1).f6), .int .i64 ((rd_T39 t508 x11_1).f7)] 39 (0, 0)) (by (with_reducible repeat (first | refine blk_drewN ?_ _ | refine blk_drew ?_ | refine blk_alloc ?_ _)); refine blk_put (cs := #[.int .i64 ((rd_T39 t508 x11_1).f0), .int .i64 ((rd_T39 t508 x11_1).f1), .int .i64 ((rd_T39 t508 x11_1).f2), .string ((rd_T39 t508 x11_1).f3), .int .i64 ((rd_T39 t508 x11_1).f4), .int .i64 ((rd_T39 t508 x11_1).f5), .int .i64 ((rd_T39 t508 x11_1).f6), .int .i64 0]) ?_ 7 _ rfl; (with_reducible repeat (first | refine blk_drewN ?_ _ | refine blk_drew ?_ | refine blk_alloc ?_ _)); refine blk_put (cs := #[.int .i64 ((rd_T39 t508 x11_1).f0), .int .i64 ((rd_T39 t508 x11_1).f1), .int .i64 ((rd_T39 t508 x11_1).f2), .string ((rd_T39 t508 x11_1).f3), .int .i64 ((rd_T39 t508 x11_1).f4), .int .i64 ((rd_T39 t508 x11_1).f5), .int .i64 0, .int .i64 0]) ?_ 6 _ rfl; (with_reducible repeat (first | refine blk_drewN ?_ _ | refine blk_drew ?_ | refine blk_alloc ?_ _)); refine blk_put (cs := #[.int .i64 ((rd_T39 t508 x11_1).f0), .int .i64 ((rd_T39 t508 x11_1).f1), .int .i64 ((rd_T39 t508 x11_1).f2), .string ((rd_T39 t508 x11_1).f3), .int .i64 ((rd_T39 t508 x11_1).f4), .int .i64 0, .int .i64 0, .int .i64 0]) ?_ 5 _ rfl; (with_reducible repeat (first | refine blk_drewN ?_ _ | refine blk_drew ?_ | refine blk_alloc ?_ _)); refine blk_put (cs := #[.int .i64 ((rd_T39 t508 x11_1).f0), .int .i64 ((rd_T39 t508 x11_1).f1), .int .i64 ((rd_T39 t508 x11_1).f2), .string ((rd_T39 t508 x11_1).f3), .int .i64 0, .int .i64 0, .int .i64 0, .int .i64 0]) ?_ 4 _ rfl; (with_reducible repeat (first | refine blk_drewN ?_ _ | refine blk_drew ?_ | refine blk_alloc ?_ _)); refine blk_put (cs := #[.int .i64 ((rd_T39 t508 x11_1).f0), .int .i64 ((rd_T39 t508 x11_1).f1), .int .i64 ((rd_T39 t508 x11_1).f2), .string (⟨#[]⟩ : ByteArray), .int .i64 0, .int .i64 0, .int .i64 0, .int .i64 0]) ?_ 3 _ rfl; (with_reducible repeat (first | refine blk_drewN ?_ _ | refine blk_drew ?_ | refine blk_alloc ?_ _)); refine blk_put (cs := #[.int .i64 ((rd_T39 t508 x11_1).f0), .int .i64 ((rd_T39 t508 x11_1).f1), .int .i64 0, .string (⟨#[]⟩ : ByteArray), .int .i64 0, .int .i64 0, .int .i64 0, .int .i64 0]) ?_ 2 _ rfl; (with_reducible repeat (first | refine blk_drewN ?_ _ | refine blk_drew ?_ | refine blk_alloc ?_ _)); refine blk_put (cs := #[.int .i64 ((rd_T39 t508 x11_1).f0), .int .i64 0, .int .i64 0, .string (⟨#[]⟩ : ByteArray), .int .i64 0, .int .i64 0, .int .i64 0, .int .i64 0]) ?_ 1 _ rfl; (with_reducible repeat (first | refine blk_drewN ?_ _ | refine blk_drew ?_ | refine blk_alloc ?_ _)); refine blk_put (cs := #[.int .i64 0, .int .i64 0, .int .i64 0, .string (⟨#[]⟩ : ByteArray), .int .i64 0, .int .i64 0, .int .i64 0, .int .i64 0]) ?_ 0 _ rfl; (with_reducible repeat (first | refine blk_drewN ?_ _ | refine blk_drew ?_ | refine blk_alloc ?_ _)); exact BK513.out) hb); have n4_ := Aside0.mk (below_step (by repeat (first | (with_reducible first | exact HB.out | apply below_alloc | apply pw_below_drewN | apply below_drew1 | refine below_set ?_ GE502.out | refine below_set ?_ GE513.out) | exact HB.out)) hb); clear HO_8; clear HO_9; clear BK502; clear BK513; clear HB; have HO_8 := n0_; have HO_9 := n1_; have BK502 := n2_; have BK513 := n3_; have HB := n4_; clear n0_ n1_ n2_ n3_ n4_; (try clear hb); (try clear hb2); (try clear hk); (try clear hi); have hcz52_0 : w51.cell? ⟨gb502, 0, none⟩ = some (.slice A1_0 l1_0.length c1_0) := (blk_cell BK502.out 0).trans rfl; have hfz52_0 := blk_frozen BK502.out 0; have hcz53_0 : w51.cell? ⟨gb513, 0, none⟩ = some (.int .i64 ((rd_T39 t508 x11_1).f0)) := (blk_cell BK513.out 0).trans rfl; have hcz53_1 : w51.cell? ⟨gb513, 1, none⟩ = some (.int .i64 ((rd_T39 t508 x11_1).f1)) := (blk_cell BK513.out 1).trans rfl; have hcz53_2 : w51.cell? ⟨gb513, 2, none⟩ = some (.int .i64 ((rd_T39 t508 x11_1).f2)) := (blk_cell BK513.out 2).trans rfl; have hcz53_3 : w51.cell? ⟨gb513, 3, none⟩ = some (.string ((rd_T39 t508 x11_1).f3)) := (blk_cell BK513.out 3).trans rfl; have hcz53_4 : w51.cell? ⟨gb513, 4, none⟩ = some (.int .i64 ((rd_T39 t508 x11_1).f4)) := (blk_cell BK513.out 4).trans rfl; have hcz53_5 : w51.cell? ⟨gb513, 5, none⟩ = some (.int .i64 ((rd_T39 t508 x11_1).f5)) := (blk_cell BK513.out 5).trans rfl; have hcz53_6 : w51.cell? ⟨gb513, 6, none⟩ = some (.int .i64 ((rd_T39 t508 x11_1).f6)) := (blk_cell BK513.out 6).trans rfl; have hcz53_7 : w51.cell? ⟨gb513, 7, none⟩ = some (.int .i64 ((rd_T39 t508 x11_1).f7)) := (blk_cell BK513.out 7).trans rfl; have hfz53_0 := blk_frozen BK513.out 0; have hfz53_1 := blk_frozen BK513.out 1; have hfz53_2 := blk_frozen BK513.out 2; have hfz53_3 := blk_frozen BK513.out 3; have hfz53_4 := blk_frozen BK513.out 4; have hfz53_5 := blk_frozen BK513.out 5; have hfz53_6 := blk_frozen BK513.out 6; have hfz53_7 := blk_frozen BK513.out 7) | ((with_reducible refine gate_callee (f := 20) rfl ?_); refine goesL_ (some 69) rfl rfl Try.func20 (by kernel_rfl) rfl #[.agg #[.slice A1_0 l1_0.length c1_0], .int .i64 ((rd_T39 t508 x11_1).f4), .int .i64 ((rd_T39 t508 x11_1).f5)] rfl (by (try simp only [List.map_toArray, List.map_cons, List.map_nil]); first | done | rfl | (simp only [List.length_drop, List.length_take]; rfl)) ?_; (with_reducible refine (tariff_Price.calls k1 _ _ l1_0 ((rd_T39 t508 x11_1).f4) ((rd_T39 t508 x11_1).f5) t517 t518 _ ?side1 ?side2 A19.out).mono ?_); (case side1 => repeat (first | exact (Kd.C_below HR1_0.out HB.out) | (with_reducible refine Kd.C_alloc ?_ _) | (with_reducible refine Kd.C_drewN ?_ _) | (with_reducible refine Kd.C_drew ?_))); (case side2 => exact HC1_0.out); rintro e w54 ⟨rfl, hb⟩; refine ⟨_, rfl, ?_⟩; have n0_ := Aside0.mk (Kd.V_below (by (with_reducible repeat (first | apply Kd.V_alloc | apply Kd.V_drewN | apply Kd.V_drew)); exact HO_8.out) hb); have n1_ := Aside0.mk (Kd.V_below (by (with_reducible repeat (first | apply Kd.V_alloc | apply Kd.V_drewN | apply Kd.V_drew)); exact HO_9.out) hb); have n2_ := Aside0.mk (blk_below (g := gb502) (o := .cells #[.slice A1_0 l1_0.length c1_0] 25 (0, 0)) (by (with_reducible repeat (first | refine blk_drewN ?_ _ | refine blk_drew ?_ | refine blk_alloc ?_ _)); exact BK502.out) hb); have n3_ := Aside0.mk (blk_below (g := gb513) (o := .cells #[.int .i64 ((rd_T39 t508 x11_1).f0), .int .i64 ((rd_T39 t508 x11_1).f1), .int .i64 ((rd_T39 t508 x11_1).f2), .string ((rd_T39 t508 x11_1).f3), .int .i64 ((rd_T39 t508 x11_1).f4), .int .i64 ((rd_T39 t508 x11_1).f5), .int .i64 ((rd_T39 t508 x11_1).f6), .int .i64 ((rd_T39 t508 x11_1).f7)] 39 (0, 0)) (by (with_reducible repeat (first | refine blk_drewN ?_ _ | refine blk_drew ?_ | refine blk_alloc ?_ _)); exact BK513.out) hb); have n4_ := Aside0.mk (below_step (by repeat (first | (with_reducible first | exact HB.out | apply below_alloc | apply pw_below_drewN | apply below_drew1 | refine below_set ?_ GE502.out | refine below_set ?_ GE513.out) | exact HB.out)) hb); clear HO_8; clear HO_9; clear BK502; clear BK513; clear HB; have HO_8 := n0_; have HO_9 := n1_; have BK502 := n2_; have BK513 := n3_; have HB := n4_; clear n0_ n1_ n2_ n3_ n4_; (try clear hb); (try clear hb2); (try clear hk); (try clear hi); have hcz55_0 : w54.cell? ⟨gb513, 0, none⟩ = some (.int .i64 ((rd_T39 t508 x11_1).f0)) := (blk_cell BK513.out 0).trans rfl; have hcz55_1 : w54.cell? ⟨gb513, 1, none⟩ = some (.int .i64 ((rd_T39 t508 x11_1).f1)) := (blk_cell BK513.out 1).trans rfl; have hcz55_2 : w54.cell? ⟨gb513, 2, none⟩ = some (.int .i64 ((rd_T39 t508 x11_1).f2)) := (blk_cell BK513.out 2).trans rfl; have hcz55_3 : w54.cell? ⟨gb513, 3, none⟩ = some (.string ((rd_T39 t508 x11_1).f3)) := (blk_cell BK513.out 3).trans rfl; have hcz55_4 : w54.cell? ⟨gb513, 4, none⟩ = some (.int .i64 ((rd_T39 t508 x11_1).f4)) := (blk_cell BK513.out 4).trans rfl; have hcz55_5 : w54.cell? ⟨gb513, 5, none⟩ = some (.int .i64 ((rd_T39 t508 x11_1).f5)) := (blk_cell BK513.out 5).trans rfl; have hcz55_6 : w54.cell? ⟨gb513, 6, none⟩ = some (.int .i64 ((rd_T39 t508 x11_1).f6)) := (blk_cell BK513.out 6).trans rfl; have hcz55_7 : w54.cell? ⟨gb513, 7, none⟩ = some (.int .i64 ((rd_T39 t508 x11_1).f7)) := (blk_cell BK513.out 7).trans rfl; have hfz55_0 := blk_frozen BK513.out 0; have hfz55_1 := blk_frozen BK513.out 1; have hfz55_2 := blk_frozen BK513.out 2; have hfz55_3 := blk_frozen BK513.out 3; have hfz55_4 := blk_frozen BK513.out 4; have hfz55_5 := blk_frozen BK513.out 5; have hfz55_6 := blk_frozen BK513.out 6; have hfz55_7 := blk_frozen BK513.out 7))
                          go_ret
                          exact ⟨by first | rfl | (simp [errW_none, errW_some] <;> rfl) | (simp [*, errW_none, errW_some] <;> rfl), by repeat (first | (with_reducible first | exact HB.out | apply below_alloc | apply pw_below_drewN | apply below_drew1 | refine below_set ?_ GE502.out | refine below_set ?_ GE513.out) | exact HB.out)⟩
                      · rw [if_neg c23] at H
                        have c23b0 : (t514 == ((rd_T39 t508 x11_1).f5)) = false := beq_eq_false_iff_ne.mpr c23
                        have c23b1 : (t514 != ((rd_T39 t508 x11_1).f5)) = true := bne_iff_ne.mpr c23
                        obtain rfl := Option.some.inj H
                        obtain ⟨Ao56, co56, eo56⟩ := Kd.V_slice HO_9.out
                        subst eo56
                        have p512 : 0 ≤ (x11_1 : Int) := of_decide_eq_true (by first | (with_reducible assumption) | assumption)
                        have q512 : x11_1 < (t508.length : Int) := of_decide_eq_true (by first | (with_reducible assumption) | assumption)
                        obtain ⟨ad512, e512, hx512_0, hx512_1, hx512_2, hx512_3, hx512_4, hx512_5, hx512_6, hx512_7⟩ := at_T39 (Kd.V_reads' HO_9.out).2.2 x11_1 p512 q512
                        cases e512
                        replace p512 := eq_true p512
                        replace q512 := eq_true q512
                        go_wp2_with (first | ((with_reducible refine gate_dst (N := 12) rfl ?_); refine box_event ?hg (N := 12) ?hd (cs := #[.int .i64 0, .int .i64 0, .int .i64 0, .string (⟨#[]⟩ : ByteArray), .int .i64 0, .int .i64 0, .int .i64 0, .int .i64 0]) (t := 39) ?hr ?_; (case hd => rfl); (case hg => rfl); (case hr => first | (go_simp; done) | (go_simp; rfl)); intro gb513 hg w57 hbox hb; have n0_ := Aside0.mk (Kd.V_below (Kd.V_elderB (by (with_reducible repeat (first | apply Kd.V_alloc | apply Kd.V_drewN | apply Kd.V_drew)); exact HO_8.out) gb513 (Nat.le_of_eq hg.symm)) hb); have n1_ := Aside0.mk (Kd.V_below (Kd.V_elderB (by (with_reducible repeat (first | apply Kd.V_alloc | apply Kd.V_drewN | apply Kd.V_drew)); exact HO_9.out) gb513 (Nat.le_of_eq hg.symm)) hb); have n2_ := Aside0.mk (blk_below (g := gb502) (o := .cells #[.slice A1_0 l1_0.length c1_0] 25 (0, 0)) (by (with_reducible repeat (first | refine blk_drewN ?_ _ | refine blk_drew ?_ | refine blk_alloc ?_ _)); exact BK502.out) hb); have n3_ := Aside0.mk (below_step (by repeat (first | (with_reducible first | exact HB.out | apply below_alloc | apply pw_below_drewN | apply below_drew1 | refine below_set ?_ GE502.out) | exact HB.out)) hb); have n4_ := Aside0.mk (hbox); have n5_ := Aside0.mk ((by rw [hg]; exact (below_size (by repeat (first | (with_reducible first | exact HB.out | apply below_alloc | apply pw_below_drewN | apply below_drew1 | refine below_set ?_ GE502.out) | exact HB.out))) : w.heap.size ≤ gb513)); have n6_ := Aside0.mk ((by rw [hg]; exact (below_size (by repeat (first | (with_reducible first | exact HB.out | apply below_alloc | apply pw_below_drewN | apply below_drew1 | refine below_set ?_ GE502.out) | exact HB.out))) : w.heap.size ≤ gb513)); have n7_ := Aside0.mk ((by rw [hg]; exact Nat.ne_of_lt (blk_lt (g := gb502) (o := .cells #[.slice A1_0 l1_0.length c1_0] 25 (0, 0)) (by (with_reducible repeat (first | refine blk_drewN ?_ _ | refine blk_drew ?_ | refine blk_alloc ?_ _)); exact BK502.out)) : gb502 ≠ gb513)); have n8_ := Aside0.mk ((by rw [hg]; exact Nat.ne_of_gt (blk_lt (g := gb502) (o := .cells #[.slice A1_0 l1_0.length c1_0] 25 (0, 0)) (by (with_reducible repeat (first | refine blk_drewN ?_ _ | refine blk_drew ?_ | refine blk_alloc ?_ _)); exact BK502.out)) : gb513 ≠ gb502)); clear HO_8; clear HO_9; clear BK502; clear HB; have HO_8 := n0_; have HO_9 := n1_; have BK502 := n2_; have HB := n3_; have BK513 := n4_; have GW513 := n5_; have GE513 := n6_; have NB502_513 := n7_; have NB513_502 := n8_; clear n0_ n1_ n2_ n3_ n4_ n5_ n6_ n7_ n8_; clear hb hbox hg; have hnb58 := NB513_502.out; have hnc58 := NB502_513.out; have hcz59_0 : w57.cell? ⟨gb513, 0, none⟩ = some (.int .i64 0) := (blk_cell BK513.out 0).trans rfl; have hcz59_1 : w57.cell? ⟨gb513, 1, none⟩ = some (.int .i64 0) := (blk_cell BK513.out 1).trans rfl; have hcz59_2 : w57.cell? ⟨gb513, 2, none⟩ = some (.int .i64 0) := (blk_cell BK513.out 2).trans rfl; have hcz59_3 : w57.cell? ⟨gb513, 3, none⟩ = some (.string (⟨#[]⟩ : ByteArray)) := (blk_cell BK513.out 3).trans rfl; have hcz59_4 : w57.cell? ⟨gb513, 4, none⟩ = some (.int .i64 0) := (blk_cell BK513.out 4).trans rfl; have hcz59_5 : w57.cell? ⟨gb513, 5, none⟩ = some (.int .i64 0) := (blk_cell BK513.out 5).trans rfl; have hcz59_6 : w57.cell? ⟨gb513, 6, none⟩ = some (.int .i64 0) := (blk_cell BK513.out 6).trans rfl; have hcz59_7 : w57.cell? ⟨gb513, 7, none⟩ = some (.int .i64 0) := (blk_cell BK513.out 7).trans rfl; have hfz59_0 := blk_frozen BK513.out 0; have hfz59_1 := blk_frozen BK513.out 1; have hfz59_2 := blk_frozen BK513.out 2; have hfz59_3 := blk_frozen BK513.out 3; have hfz59_4 := blk_frozen BK513.out 4; have hfz59_5 := blk_frozen BK513.out 5; have hfz59_6 := blk_frozen BK513.out 6; have hfz59_7 := blk_frozen BK513.out 7; have hcz60_0 : w57.cell? ⟨gb502, 0, none⟩ = some (.slice A1_0 l1_0.length c1_0) := (blk_cell BK502.out 0).trans rfl; have hfz60_0 := blk_frozen BK502.out 0) | ((with_reducible refine gate_callee (f := 32) rfl ?_); refine goesL_ (some 59) rfl rfl Try.func32 (by kernel_rfl) rfl #[.agg #[.slice A1_0 l1_0.length c1_0], .int .i64 ((rd_T39 t508 x11_1).f4)] rfl (by (try simp only [List.map_toArray, List.map_cons, List.map_nil]); first | done | rfl | (simp only [List.length_drop, List.length_take]; rfl)) ?_; (with_reducible refine (tariff_Change.calls k1 _ _ l1_0 ((rd_T39 t508 x11_1).f4) t514 true t516 _ ?side1 ?side2 A18.out).mono ?_); (case side1 => exact Kd.C_below HR1_0.out (by repeat (first | (with_reducible first | exact HB.out | apply below_alloc | apply pw_below_drewN | apply below_drew1 | refine below_set ?_ GE502.out | refine below_set ?_ GE513.out) | exact HB.out))); (case side2 => exact HC1_0.out); rintro e w61 ⟨rfl, hb⟩; refine ⟨_, rfl, ?_⟩; have n0_ := Aside0.mk (Kd.V_below (by (with_reducible repeat (first | apply Kd.V_alloc | apply Kd.V_drewN | apply Kd.V_drew)); exact (Kd.V_mono (Kd.V_far (p := ⟨gb513, 7, none⟩) (Kd.V_far (p := ⟨gb513, 6, none⟩) (Kd.V_far (p := ⟨gb513, 5, none⟩) (Kd.V_far (p := ⟨gb513, 4, none⟩) (Kd.V_far (p := ⟨gb513, 3, none⟩) (Kd.V_far (p := ⟨gb513, 2, none⟩) (Kd.V_far (p := ⟨gb513, 1, none⟩) (Kd.V_far (p := ⟨gb513, 0, none⟩) (Kd.V_mono HO_8.out (fun k_ hk => (⟨hk, hk.2⟩ : _ ∧ k_ ≠ gb513))) (fun _ hk => hk.2) (.int .i64 ((rd_T39 t508 x11_1).f0))) (fun _ hk => hk.2) (.int .i64 ((rd_T39 t508 x11_1).f1))) (fun _ hk => hk.2) (.int .i64 ((rd_T39 t508 x11_1).f2))) (fun _ hk => hk.2) (.string ((rd_T39 t508 x11_1).f3))) (fun _ hk => hk.2) (.int .i64 ((rd_T39 t508 x11_1).f4))) (fun _ hk => hk.2) (.int .i64 ((rd_T39 t508 x11_1).f5))) (fun _ hk => hk.2) (.int .i64 ((rd_T39 t508 x11_1).f6))) (fun _ hk => hk.2) (.int .i64 ((rd_T39 t508 x11_1).f7))) (fun _ h_ => h_.1))) hb); have n1_ := Aside0.mk (Kd.V_below (by (with_reducible repeat (first | apply Kd.V_alloc | apply Kd.V_drewN | apply Kd.V_drew)); exact (Kd.V_mono (Kd.V_far (p := ⟨gb513, 7, none⟩) (Kd.V_far (p := ⟨gb513, 6, none⟩) (Kd.V_far (p := ⟨gb513, 5, none⟩) (Kd.V_far (p := ⟨gb513, 4, none⟩) (Kd.V_far (p := ⟨gb513, 3, none⟩) (Kd.V_far (p := ⟨gb513, 2, none⟩) (Kd.V_far (p := ⟨gb513, 1, none⟩) (Kd.V_far (p := ⟨gb513, 0, none⟩) (Kd.V_mono HO_9.out (fun k_ hk => (⟨hk, hk.2⟩ : _ ∧ k_ ≠ gb513))) (fun _ hk => hk.2) (.int .i64 ((rd_T39 t508 x11_1).f0))) (fun _ hk => hk.2) (.int .i64 ((rd_T39 t508 x11_1).f1))) (fun _ hk => hk.2) (.int .i64 ((rd_T39 t508 x11_1).f2))) (fun _ hk => hk.2) (.string ((rd_T39 t508 x11_1).f3))) (fun _ hk => hk.2) (.int .i64 ((rd_T39 t508 x11_1).f4))) (fun _ hk => hk.2) (.int .i64 ((rd_T39 t508 x11_1).f5))) (fun _ hk => hk.2) (.int .i64 ((rd_T39 t508 x11_1).f6))) (fun _ hk => hk.2) (.int .i64 ((rd_T39 t508 x11_1).f7))) (fun _ h_ => h_.1))) hb); have n2_ := Aside0.mk (blk_below (g := gb502) (o := .cells #[.slice A1_0 l1_0.length c1_0] 25 (0, 0)) (by (with_reducible repeat (first | refine blk_drewN ?_ _ | refine blk_drew ?_ | refine blk_alloc ?_ _)); refine blk_far ?_ NB502_513.out _; (with_reducible repeat (first | refine blk_drewN ?_ _ | refine blk_drew ?_ | refine blk_alloc ?_ _)); refine blk_far ?_ NB502_513.out _; (with_reducible repeat (first | refine blk_drewN ?_ _ | refine blk_drew ?_ | refine blk_alloc ?_ _)); refine blk_far ?_ NB502_513.out _; (with_reducible repeat (first | refine blk_drewN ?_ _ | refine blk_drew ?_ | refine blk_alloc ?_ _)); refine blk_far ?_ NB502_513.out _; (with_reducible repeat (first | refine blk_drewN ?_ _ | refine blk_drew ?_ | refine blk_alloc ?_ _)); refine blk_far ?_ NB502_513.out _; (with_reducible repeat (first | refine blk_drewN ?_ _ | refine blk_drew ?_ | refine blk_alloc ?_ _)); refine blk_far ?_ NB502_513.out _; (with_reducible repeat (first | refine blk_drewN ?_ _ | refine blk_drew ?_ | refine blk_alloc ?_ _)); refine blk_far ?_ NB502_513.out _; (with_reducible repeat (first | refine blk_drewN ?_ _ | refine blk_drew ?_ | refine blk_alloc ?_ _)); refine blk_far ?_ NB502_513.out _; (with_reducible repeat (first | refine blk_drewN ?_ _ | refine blk_drew ?_ | refine blk_alloc ?_ _)); exact BK502.out) hb); have n3_ := Aside0.mk (blk_below (g := gb513) (o := .cells #[.int .i64 ((rd_T39 t508 x11_1).f0), .int .i64 ((rd_T39 t508 x11_1).f1), .int .i64 ((rd_T39 t508 x11_1).f2), .string ((rd_T39 t508 x11_1).f3), .int .i64 ((rd_T39 t508 x11_1).f4), .int .i64 ((rd_T39 t508 x11_1).f5), .int .i64 ((rd_T39 t508 x11_1).f6), .int .i64 ((rd_T39 t508 x11_1).f7)] 39 (0, 0)) (by (with_reducible repeat (first | refine blk_drewN ?_ _ | refine blk_drew ?_ | refine blk_alloc ?_ _)); refine blk_put (cs := #[.int .i64 ((rd_T39 t508 x11_1).f0), .int .i64 ((rd_T39 t508 x11_1).f1), .int .i64 ((rd_T39 t508 x11_1).f2), .string ((rd_T39 t508 x11_1).f3), .int .i64 ((rd_T39 t508 x11_1).f4), .int .i64 ((rd_T39 t508 x11_1).f5), .int .i64 ((rd_T39 t508 x11_1).f6), .int .i64 0]) ?_ 7 _ rfl; (with_reducible repeat (first | refine blk_drewN ?_ _ | refine blk_drew ?_ | refine blk_alloc ?_ _)); refine blk_put (cs := #[.int .i64 ((rd_T39 t508 x11_1).f0), .int .i64 ((rd_T39 t508 x11_1).f1), .int .i64 ((rd_T39 t508 x11_1).f2), .string ((rd_T39 t508 x11_1).f3), .int .i64 ((rd_T39 t508 x11_1).f4), .int .i64 ((rd_T39 t508 x11_1).f5), .int .i64 0, .int .i64 0]) ?_ 6 _ rfl; (with_reducible repeat (first | refine blk_drewN ?_ _ | refine blk_drew ?_ | refine blk_alloc ?_ _)); refine blk_put (cs := #[.int .i64 ((rd_T39 t508 x11_1).f0), .int .i64 ((rd_T39 t508 x11_1).f1), .int .i64 ((rd_T39 t508 x11_1).f2), .string ((rd_T39 t508 x11_1).f3), .int .i64 ((rd_T39 t508 x11_1).f4), .int .i64 0, .int .i64 0, .int .i64 0]) ?_ 5 _ rfl; (with_reducible repeat (first | refine blk_drewN ?_ _ | refine blk_drew ?_ | refine blk_alloc ?_ _)); refine blk_put (cs := #[.int .i64 ((rd_T39 t508 x11_1).f0), .int .i64 ((rd_T39 t508 x11_1).f1), .int .i64 ((rd_T39 t508 x11_1).f2), .string ((rd_T39 t508 x11_1).f3), .int .i64 0, .int .i64 0, .int .i64 0, .int .i64 0]) ?_ 4 _ rfl; (with_reducible repeat (first | refine blk_drewN ?_ _ | refine blk_drew ?_ | refine blk_alloc ?_ _)); refine blk_put (cs := #[.int .i64 ((rd_T39 t508 x11_1).f0), .int .i64 ((rd_T39 t508 x11_1).f1), .int .i64 ((rd_T39 t508 x11_1).f2), .string (⟨#[]⟩ : ByteArray), .int .i64 0, .int .i64 0, .int .i64 0, .int .i64 0]) ?_ 3 _ rfl; (with_reducible repeat (first | refine blk_drewN ?_ _ | refine blk_drew ?_ | refine blk_alloc ?_ _)); refine blk_put (cs := #[.int .i64 ((rd_T39 t508 x11_1).f0), .int .i64 ((rd_T39 t508 x11_1).f1), .int .i64 0, .string (⟨#[]⟩ : ByteArray), .int .i64 0, .int .i64 0, .int .i64 0, .int .i64 0]) ?_ 2 _ rfl; (with_reducible repeat (first | refine blk_drewN ?_ _ | refine blk_drew ?_ | refine blk_alloc ?_ _)); refine blk_put (cs := #[.int .i64 ((rd_T39 t508 x11_1).f0), .int .i64 0, .int .i64 0, .string (⟨#[]⟩ : ByteArray), .int .i64 0, .int .i64 0, .int .i64 0, .int .i64 0]) ?_ 1 _ rfl; (with_reducible repeat (first | refine blk_drewN ?_ _ | refine blk_drew ?_ | refine blk_alloc ?_ _)); refine blk_put (cs := #[.int .i64 0, .int .i64 0, .int .i64 0, .string (⟨#[]⟩ : ByteArray), .int .i64 0, .int .i64 0, .int .i64 0, .int .i64 0]) ?_ 0 _ rfl; (with_reducible repeat (first | refine blk_drewN ?_ _ | refine blk_drew ?_ | refine blk_alloc ?_ _)); exact BK513.out) hb); have n4_ := Aside0.mk (below_step (by repeat (first | (with_reducible first | exact HB.out | apply below_alloc | apply pw_below_drewN | apply below_drew1 | refine below_set ?_ GE502.out | refine below_set ?_ GE513.out) | exact HB.out)) hb); clear HO_8; clear HO_9; clear BK502; clear BK513; clear HB; have HO_8 := n0_; have HO_9 := n1_; have BK502 := n2_; have BK513 := n3_; have HB := n4_; clear n0_ n1_ n2_ n3_ n4_; (try clear hb); (try clear hb2); (try clear hk); (try clear hi); have hcz62_0 : w61.cell? ⟨gb502, 0, none⟩ = some (.slice A1_0 l1_0.length c1_0) := (blk_cell BK502.out 0).trans rfl; have hfz62_0 := blk_frozen BK502.out 0; have hcz63_0 : w61.cell? ⟨gb513, 0, none⟩ = some (.int .i64 ((rd_T39 t508 x11_1).f0)) := (blk_cell BK513.out 0).trans rfl; have hcz63_1 : w61.cell? ⟨gb513, 1, none⟩ = some (.int .i64 ((rd_T39 t508 x11_1).f1)) := (blk_cell BK513.out 1).trans rfl; have hcz63_2 : w61.cell? ⟨gb513, 2, none⟩ = some (.int .i64 ((rd_T39 t508 x11_1).f2)) := (blk_cell BK513.out 2).trans rfl; have hcz63_3 : w61.cell? ⟨gb513, 3, none⟩ = some (.string ((rd_T39 t508 x11_1).f3)) := (blk_cell BK513.out 3).trans rfl; have hcz63_4 : w61.cell? ⟨gb513, 4, none⟩ = some (.int .i64 ((rd_T39 t508 x11_1).f4)) := (blk_cell BK513.out 4).trans rfl; have hcz63_5 : w61.cell? ⟨gb513, 5, none⟩ = some (.int .i64 ((rd_T39 t508 x11_1).f5)) := (blk_cell BK513.out 5).trans rfl; have hcz63_6 : w61.cell? ⟨gb513, 6, none⟩ = some (.int .i64 ((rd_T39 t508 x11_1).f6)) := (blk_cell BK513.out 6).trans rfl; have hcz63_7 : w61.cell? ⟨gb513, 7, none⟩ = some (.int .i64 ((rd_T39 t508 x11_1).f7)) := (blk_cell BK513.out 7).trans rfl; have hfz63_0 := blk_frozen BK513.out 0; have hfz63_1 := blk_frozen BK513.out 1; have hfz63_2 := blk_frozen BK513.out 2; have hfz63_3 := blk_frozen BK513.out 3; have hfz63_4 := blk_frozen BK513.out 4; have hfz63_5 := blk_frozen BK513.out 5; have hfz63_6 := blk_frozen BK513.out 6; have hfz63_7 := blk_frozen BK513.out 7) | ((with_reducible refine gate_callee (f := 20) rfl ?_); refine goesL_ (some 69) rfl rfl Try.func20 (by kernel_rfl) rfl #[.agg #[.slice A1_0 l1_0.length c1_0], .int .i64 ((rd_T39 t508 x11_1).f4), .int .i64 ((rd_T39 t508 x11_1).f5)] rfl (by (try simp only [List.map_toArray, List.map_cons, List.map_nil]); first | done | rfl | (simp only [List.length_drop, List.length_take]; rfl)) ?_; (with_reducible refine (tariff_Price.calls k1 _ _ l1_0 ((rd_T39 t508 x11_1).f4) ((rd_T39 t508 x11_1).f5) t517 t518 _ ?side1 ?side2 A19.out).mono ?_); (case side1 => repeat (first | exact (Kd.C_below HR1_0.out HB.out) | (with_reducible refine Kd.C_alloc ?_ _) | (with_reducible refine Kd.C_drewN ?_ _) | (with_reducible refine Kd.C_drew ?_))); (case side2 => exact HC1_0.out); rintro e w64 ⟨rfl, hb⟩; refine ⟨_, rfl, ?_⟩; have n0_ := Aside0.mk (Kd.V_below (by (with_reducible repeat (first | apply Kd.V_alloc | apply Kd.V_drewN | apply Kd.V_drew)); exact HO_8.out) hb); have n1_ := Aside0.mk (Kd.V_below (by (with_reducible repeat (first | apply Kd.V_alloc | apply Kd.V_drewN | apply Kd.V_drew)); exact HO_9.out) hb); have n2_ := Aside0.mk (blk_below (g := gb502) (o := .cells #[.slice A1_0 l1_0.length c1_0] 25 (0, 0)) (by (with_reducible repeat (first | refine blk_drewN ?_ _ | refine blk_drew ?_ | refine blk_alloc ?_ _)); exact BK502.out) hb); have n3_ := Aside0.mk (blk_below (g := gb513) (o := .cells #[.int .i64 ((rd_T39 t508 x11_1).f0), .int .i64 ((rd_T39 t508 x11_1).f1), .int .i64 ((rd_T39 t508 x11_1).f2), .string ((rd_T39 t508 x11_1).f3), .int .i64 ((rd_T39 t508 x11_1).f4), .int .i64 ((rd_T39 t508 x11_1).f5), .int .i64 ((rd_T39 t508 x11_1).f6), .int .i64 ((rd_T39 t508 x11_1).f7)] 39 (0, 0)) (by (with_reducible repeat (first | refine blk_drewN ?_ _ | refine blk_drew ?_ | refine blk_alloc ?_ _)); exact BK513.out) hb); have n4_ := Aside0.mk (below_step (by repeat (first | (with_reducible first | exact HB.out | apply below_alloc | apply pw_below_drewN | apply below_drew1 | refine below_set ?_ GE502.out | refine below_set ?_ GE513.out) | exact HB.out)) hb); clear HO_8; clear HO_9; clear BK502; clear BK513; clear HB; have HO_8 := n0_; have HO_9 := n1_; have BK502 := n2_; have BK513 := n3_; have HB := n4_; clear n0_ n1_ n2_ n3_ n4_; (try clear hb); (try clear hb2); (try clear hk); (try clear hi); have hcz65_0 : w64.cell? ⟨gb513, 0, none⟩ = some (.int .i64 ((rd_T39 t508 x11_1).f0)) := (blk_cell BK513.out 0).trans rfl; have hcz65_1 : w64.cell? ⟨gb513, 1, none⟩ = some (.int .i64 ((rd_T39 t508 x11_1).f1)) := (blk_cell BK513.out 1).trans rfl; have hcz65_2 : w64.cell? ⟨gb513, 2, none⟩ = some (.int .i64 ((rd_T39 t508 x11_1).f2)) := (blk_cell BK513.out 2).trans rfl; have hcz65_3 : w64.cell? ⟨gb513, 3, none⟩ = some (.string ((rd_T39 t508 x11_1).f3)) := (blk_cell BK513.out 3).trans rfl; have hcz65_4 : w64.cell? ⟨gb513, 4, none⟩ = some (.int .i64 ((rd_T39 t508 x11_1).f4)) := (blk_cell BK513.out 4).trans rfl; have hcz65_5 : w64.cell? ⟨gb513, 5, none⟩ = some (.int .i64 ((rd_T39 t508 x11_1).f5)) := (blk_cell BK513.out 5).trans rfl; have hcz65_6 : w64.cell? ⟨gb513, 6, none⟩ = some (.int .i64 ((rd_T39 t508 x11_1).f6)) := (blk_cell BK513.out 6).trans rfl; have hcz65_7 : w64.cell? ⟨gb513, 7, none⟩ = some (.int .i64 ((rd_T39 t508 x11_1).f7)) := (blk_cell BK513.out 7).trans rfl; have hfz65_0 := blk_frozen BK513.out 0; have hfz65_1 := blk_frozen BK513.out 1; have hfz65_2 := blk_frozen BK513.out 2; have hfz65_3 := blk_frozen BK513.out 3; have hfz65_4 := blk_frozen BK513.out 4; have hfz65_5 := blk_frozen BK513.out 5; have hfz65_6 := blk_frozen BK513.out 6; have hfz65_7 := blk_frozen BK513.out 7))
                        go_ret
                        exact ⟨by first | rfl | (simp [errW_none, errW_some] <;> rfl) | (simp [*, errW_none, errW_some] <;> rfl), by repeat (first | (with_reducible first | exact HB.out | apply below_alloc | apply pw_below_drewN | apply below_drew1 | refine below_set ?_ GE502.out | refine below_set ?_ GE513.out) | exact HB.out)⟩
                    · replace c22 := Bool.eq_false_iff.mpr c22
                      subst c22
                      have H1 : (some false) = some r := by rw [if_neg (show ¬ (false = true) by decide)] at H; exact H
                      clear H
                      have H := H1
                      clear H1
                      obtain rfl := Option.some.inj H
                      obtain ⟨Ao66, co66, eo66⟩ := Kd.V_slice HO_9.out
                      subst eo66
                      have p512 : 0 ≤ (x11_1 : Int) := of_decide_eq_true (by first | (with_reducible assumption) | assumption)
                      have q512 : x11_1 < (t508.length : Int) := of_decide_eq_true (by first | (with_reducible assumption) | assumption)
                      obtain ⟨ad512, e512, hx512_0, hx512_1, hx512_2, hx512_3, hx512_4, hx512_5, hx512_6, hx512_7⟩ := at_T39 (Kd.V_reads' HO_9.out).2.2 x11_1 p512 q512
                      cases e512
                      replace p512 := eq_true p512
                      replace q512 := eq_true q512
                      go_wp2_with (first | ((with_reducible refine gate_dst (N := 12) rfl ?_); refine box_event ?hg (N := 12) ?hd (cs := #[.int .i64 0, .int .i64 0, .int .i64 0, .string (⟨#[]⟩ : ByteArray), .int .i64 0, .int .i64 0, .int .i64 0, .int .i64 0]) (t := 39) ?hr ?_; (case hd => rfl); (case hg => rfl); (case hr => first | (go_simp; done) | (go_simp; rfl)); intro gb513 hg w67 hbox hb; have n0_ := Aside0.mk (Kd.V_below (Kd.V_elderB (by (with_reducible repeat (first | apply Kd.V_alloc | apply Kd.V_drewN | apply Kd.V_drew)); exact HO_8.out) gb513 (Nat.le_of_eq hg.symm)) hb); have n1_ := Aside0.mk (Kd.V_below (Kd.V_elderB (by (with_reducible repeat (first | apply Kd.V_alloc | apply Kd.V_drewN | apply Kd.V_drew)); exact HO_9.out) gb513 (Nat.le_of_eq hg.symm)) hb); have n2_ := Aside0.mk (blk_below (g := gb502) (o := .cells #[.slice A1_0 l1_0.length c1_0] 25 (0, 0)) (by (with_reducible repeat (first | refine blk_drewN ?_ _ | refine blk_drew ?_ | refine blk_alloc ?_ _)); exact BK502.out) hb); have n3_ := Aside0.mk (below_step (by repeat (first | (with_reducible first | exact HB.out | apply below_alloc | apply pw_below_drewN | apply below_drew1 | refine below_set ?_ GE502.out) | exact HB.out)) hb); have n4_ := Aside0.mk (hbox); have n5_ := Aside0.mk ((by rw [hg]; exact (below_size (by repeat (first | (with_reducible first | exact HB.out | apply below_alloc | apply pw_below_drewN | apply below_drew1 | refine below_set ?_ GE502.out) | exact HB.out))) : w.heap.size ≤ gb513)); have n6_ := Aside0.mk ((by rw [hg]; exact (below_size (by repeat (first | (with_reducible first | exact HB.out | apply below_alloc | apply pw_below_drewN | apply below_drew1 | refine below_set ?_ GE502.out) | exact HB.out))) : w.heap.size ≤ gb513)); have n7_ := Aside0.mk ((by rw [hg]; exact Nat.ne_of_lt (blk_lt (g := gb502) (o := .cells #[.slice A1_0 l1_0.length c1_0] 25 (0, 0)) (by (with_reducible repeat (first | refine blk_drewN ?_ _ | refine blk_drew ?_ | refine blk_alloc ?_ _)); exact BK502.out)) : gb502 ≠ gb513)); have n8_ := Aside0.mk ((by rw [hg]; exact Nat.ne_of_gt (blk_lt (g := gb502) (o := .cells #[.slice A1_0 l1_0.length c1_0] 25 (0, 0)) (by (with_reducible repeat (first | refine blk_drewN ?_ _ | refine blk_drew ?_ | refine blk_alloc ?_ _)); exact BK502.out)) : gb513 ≠ gb502)); clear HO_8; clear HO_9; clear BK502; clear HB; have HO_8 := n0_; have HO_9 := n1_; have BK502 := n2_; have HB := n3_; have BK513 := n4_; have GW513 := n5_; have GE513 := n6_; have NB502_513 := n7_; have NB513_502 := n8_; clear n0_ n1_ n2_ n3_ n4_ n5_ n6_ n7_ n8_; clear hb hbox hg; have hnb68 := NB513_502.out; have hnc68 := NB502_513.out; have hcz69_0 : w67.cell? ⟨gb513, 0, none⟩ = some (.int .i64 0) := (blk_cell BK513.out 0).trans rfl; have hcz69_1 : w67.cell? ⟨gb513, 1, none⟩ = some (.int .i64 0) := (blk_cell BK513.out 1).trans rfl; have hcz69_2 : w67.cell? ⟨gb513, 2, none⟩ = some (.int .i64 0) := (blk_cell BK513.out 2).trans rfl; have hcz69_3 : w67.cell? ⟨gb513, 3, none⟩ = some (.string (⟨#[]⟩ : ByteArray)) := (blk_cell BK513.out 3).trans rfl; have hcz69_4 : w67.cell? ⟨gb513, 4, none⟩ = some (.int .i64 0) := (blk_cell BK513.out 4).trans rfl; have hcz69_5 : w67.cell? ⟨gb513, 5, none⟩ = some (.int .i64 0) := (blk_cell BK513.out 5).trans rfl; have hcz69_6 : w67.cell? ⟨gb513, 6, none⟩ = some (.int .i64 0) := (blk_cell BK513.out 6).trans rfl; have hcz69_7 : w67.cell? ⟨gb513, 7, none⟩ = some (.int .i64 0) := (blk_cell BK513.out 7).trans rfl; have hfz69_0 := blk_frozen BK513.out 0; have hfz69_1 := blk_frozen BK513.out 1; have hfz69_2 := blk_frozen BK513.out 2; have hfz69_3 := blk_frozen BK513.out 3; have hfz69_4 := blk_frozen BK513.out 4; have hfz69_5 := blk_frozen BK513.out 5; have hfz69_6 := blk_frozen BK513.out 6; have hfz69_7 := blk_frozen BK513.out 7; have hcz70_0 : w67.cell? ⟨gb502, 0, none⟩ = some (.slice A1_0 l1_0.length c1_0) := (blk_cell BK502.out 0).trans rfl; have hfz70_0 := blk_frozen BK502.out 0) | ((with_reducible refine gate_callee (f := 32) rfl ?_); refine goesL_ (some 59) rfl rfl Try.func32 (by kernel_rfl) rfl #[.agg #[.slice A1_0 l1_0.length c1_0], .int .i64 ((rd_T39 t508 x11_1).f4)] rfl (by (try simp only [List.map_toArray, List.map_cons, List.map_nil]); first | done | rfl | (simp only [List.length_drop, List.length_take]; rfl)) ?_; (with_reducible refine (tariff_Change.calls k1 _ _ l1_0 ((rd_T39 t508 x11_1).f4) t514 false t516 _ ?side1 ?side2 A18.out).mono ?_); (case side1 => exact Kd.C_below HR1_0.out (by repeat (first | (with_reducible first | exact HB.out | apply below_alloc | apply pw_below_drewN | apply below_drew1 | refine below_set ?_ GE502.out | refine below_set ?_ GE513.out) | exact HB.out))); (case side2 => exact HC1_0.out); rintro e w71 ⟨rfl, hb⟩; refine ⟨_, rfl, ?_⟩; have n0_ := Aside0.mk (Kd.V_below (by (with_reducible repeat (first | apply Kd.V_alloc | apply Kd.V_drewN | apply Kd.V_drew)); exact (Kd.V_mono (Kd.V_far (p := ⟨gb513, 7, none⟩) (Kd.V_far (p := ⟨gb513, 6, none⟩) (Kd.V_far (p := ⟨gb513, 5, none⟩) (Kd.V_far (p := ⟨gb513, 4, none⟩) (Kd.V_far (p := ⟨gb513, 3, none⟩) (Kd.V_far (p := ⟨gb513, 2, none⟩) (Kd.V_far (p := ⟨gb513, 1, none⟩) (Kd.V_far (p := ⟨gb513, 0, none⟩) (Kd.V_mono HO_8.out (fun k_ hk => (⟨hk, hk.2⟩ : _ ∧ k_ ≠ gb513))) (fun _ hk => hk.2) (.int .i64 ((rd_T39 t508 x11_1).f0))) (fun _ hk => hk.2) (.int .i64 ((rd_T39 t508 x11_1).f1))) (fun _ hk => hk.2) (.int .i64 ((rd_T39 t508 x11_1).f2))) (fun _ hk => hk.2) (.string ((rd_T39 t508 x11_1).f3))) (fun _ hk => hk.2) (.int .i64 ((rd_T39 t508 x11_1).f4))) (fun _ hk => hk.2) (.int .i64 ((rd_T39 t508 x11_1).f5))) (fun _ hk => hk.2) (.int .i64 ((rd_T39 t508 x11_1).f6))) (fun _ hk => hk.2) (.int .i64 ((rd_T39 t508 x11_1).f7))) (fun _ h_ => h_.1))) hb); have n1_ := Aside0.mk (Kd.V_below (by (with_reducible repeat (first | apply Kd.V_alloc | apply Kd.V_drewN | apply Kd.V_drew)); exact (Kd.V_mono (Kd.V_far (p := ⟨gb513, 7, none⟩) (Kd.V_far (p := ⟨gb513, 6, none⟩) (Kd.V_far (p := ⟨gb513, 5, none⟩) (Kd.V_far (p := ⟨gb513, 4, none⟩) (Kd.V_far (p := ⟨gb513, 3, none⟩) (Kd.V_far (p := ⟨gb513, 2, none⟩) (Kd.V_far (p := ⟨gb513, 1, none⟩) (Kd.V_far (p := ⟨gb513, 0, none⟩) (Kd.V_mono HO_9.out (fun k_ hk => (⟨hk, hk.2⟩ : _ ∧ k_ ≠ gb513))) (fun _ hk => hk.2) (.int .i64 ((rd_T39 t508 x11_1).f0))) (fun _ hk => hk.2) (.int .i64 ((rd_T39 t508 x11_1).f1))) (fun _ hk => hk.2) (.int .i64 ((rd_T39 t508 x11_1).f2))) (fun _ hk => hk.2) (.string ((rd_T39 t508 x11_1).f3))) (fun _ hk => hk.2) (.int .i64 ((rd_T39 t508 x11_1).f4))) (fun _ hk => hk.2) (.int .i64 ((rd_T39 t508 x11_1).f5))) (fun _ hk => hk.2) (.int .i64 ((rd_T39 t508 x11_1).f6))) (fun _ hk => hk.2) (.int .i64 ((rd_T39 t508 x11_1).f7))) (fun _ h_ => h_.1))) hb); have n2_ := Aside0.mk (blk_below (g := gb502) (o := .cells #[.slice A1_0 l1_0.length c1_0] 25 (0, 0)) (by (with_reducible repeat (first | refine blk_drewN ?_ _ | refine blk_drew ?_ | refine blk_alloc ?_ _)); refine blk_far ?_ NB502_513.out _; (with_reducible repeat (first | refine blk_drewN ?_ _ | refine blk_drew ?_ | refine blk_alloc ?_ _)); refine blk_far ?_ NB502_513.out _; (with_reducible repeat (first | refine blk_drewN ?_ _ | refine blk_drew ?_ | refine blk_alloc ?_ _)); refine blk_far ?_ NB502_513.out _; (with_reducible repeat (first | refine blk_drewN ?_ _ | refine blk_drew ?_ | refine blk_alloc ?_ _)); refine blk_far ?_ NB502_513.out _; (with_reducible repeat (first | refine blk_drewN ?_ _ | refine blk_drew ?_ | refine blk_alloc ?_ _)); refine blk_far ?_ NB502_513.out _; (with_reducible repeat (first | refine blk_drewN ?_ _ | refine blk_drew ?_ | refine blk_alloc ?_ _)); refine blk_far ?_ NB502_513.out _; (with_reducible repeat (first | refine blk_drewN ?_ _ | refine blk_drew ?_ | refine blk_alloc ?_ _)); refine blk_far ?_ NB502_513.out _; (with_reducible repeat (first | refine blk_drewN ?_ _ | refine blk_drew ?_ | refine blk_alloc ?_ _)); refine blk_far ?_ NB502_513.out _; (with_reducible repeat (first | refine blk_drewN ?_ _ | refine blk_drew ?_ | refine blk_alloc ?_ _)); exact BK502.out) hb); have n3_ := Aside0.mk (blk_below (g := gb513) (o := .cells #[.int .i64 ((rd_T39 t508 x11_1).f0), .int .i64 ((rd_T39 t508 x11_1).f1), .int .i64 ((rd_T39 t508 x11_1).f2), .string ((rd_T39 t508 x11_1).f3), .int .i64 ((rd_T39 t508 x11_1).f4), .int .i64 ((rd_T39 t508 x11_1).f5), .int .i64 ((rd_T39 t508 x11_1).f6), .int .i64 ((rd_T39 t508 x11_1).f7)] 39 (0, 0)) (by (with_reducible repeat (first | refine blk_drewN ?_ _ | refine blk_drew ?_ | refine blk_alloc ?_ _)); refine blk_put (cs := #[.int .i64 ((rd_T39 t508 x11_1).f0), .int .i64 ((rd_T39 t508 x11_1).f1), .int .i64 ((rd_T39 t508 x11_1).f2), .string ((rd_T39 t508 x11_1).f3), .int .i64 ((rd_T39 t508 x11_1).f4), .int .i64 ((rd_T39 t508 x11_1).f5), .int .i64 ((rd_T39 t508 x11_1).f6), .int .i64 0]) ?_ 7 _ rfl; (with_reducible repeat (first | refine blk_drewN ?_ _ | refine blk_drew ?_ | refine blk_alloc ?_ _)); refine blk_put (cs := #[.int .i64 ((rd_T39 t508 x11_1).f0), .int .i64 ((rd_T39 t508 x11_1).f1), .int .i64 ((rd_T39 t508 x11_1).f2), .string ((rd_T39 t508 x11_1).f3), .int .i64 ((rd_T39 t508 x11_1).f4), .int .i64 ((rd_T39 t508 x11_1).f5), .int .i64 0, .int .i64 0]) ?_ 6 _ rfl; (with_reducible repeat (first | refine blk_drewN ?_ _ | refine blk_drew ?_ | refine blk_alloc ?_ _)); refine blk_put (cs := #[.int .i64 ((rd_T39 t508 x11_1).f0), .int .i64 ((rd_T39 t508 x11_1).f1), .int .i64 ((rd_T39 t508 x11_1).f2), .string ((rd_T39 t508 x11_1).f3), .int .i64 ((rd_T39 t508 x11_1).f4), .int .i64 0, .int .i64 0, .int .i64 0]) ?_ 5 _ rfl; (with_reducible repeat (first | refine blk_drewN ?_ _ | refine blk_drew ?_ | refine blk_alloc ?_ _)); refine blk_put (cs := #[.int .i64 ((rd_T39 t508 x11_1).f0), .int .i64 ((rd_T39 t508 x11_1).f1), .int .i64 ((rd_T39 t508 x11_1).f2), .string ((rd_T39 t508 x11_1).f3), .int .i64 0, .int .i64 0, .int .i64 0, .int .i64 0]) ?_ 4 _ rfl; (with_reducible repeat (first | refine blk_drewN ?_ _ | refine blk_drew ?_ | refine blk_alloc ?_ _)); refine blk_put (cs := #[.int .i64 ((rd_T39 t508 x11_1).f0), .int .i64 ((rd_T39 t508 x11_1).f1), .int .i64 ((rd_T39 t508 x11_1).f2), .string (⟨#[]⟩ : ByteArray), .int .i64 0, .int .i64 0, .int .i64 0, .int .i64 0]) ?_ 3 _ rfl; (with_reducible repeat (first | refine blk_drewN ?_ _ | refine blk_drew ?_ | refine blk_alloc ?_ _)); refine blk_put (cs := #[.int .i64 ((rd_T39 t508 x11_1).f0), .int .i64 ((rd_T39 t508 x11_1).f1), .int .i64 0, .string (⟨#[]⟩ : ByteArray), .int .i64 0, .int .i64 0, .int .i64 0, .int .i64 0]) ?_ 2 _ rfl; (with_reducible repeat (first | refine blk_drewN ?_ _ | refine blk_drew ?_ | refine blk_alloc ?_ _)); refine blk_put (cs := #[.int .i64 ((rd_T39 t508 x11_1).f0), .int .i64 0, .int .i64 0, .string (⟨#[]⟩ : ByteArray), .int .i64 0, .int .i64 0, .int .i64 0, .int .i64 0]) ?_ 1 _ rfl; (with_reducible repeat (first | refine blk_drewN ?_ _ | refine blk_drew ?_ | refine blk_alloc ?_ _)); refine blk_put (cs := #[.int .i64 0, .int .i64 0, .int .i64 0, .string (⟨#[]⟩ : ByteArray), .int .i64 0, .int .i64 0, .int .i64 0, .int .i64 0]) ?_ 0 _ rfl; (with_reducible repeat (first | refine blk_drewN ?_ _ | refine blk_drew ?_ | refine blk_alloc ?_ _)); exact BK513.out) hb); have n4_ := Aside0.mk (below_step (by repeat (first | (with_reducible first | exact HB.out | apply below_alloc | apply pw_below_drewN | apply below_drew1 | refine below_set ?_ GE502.out | refine below_set ?_ GE513.out) | exact HB.out)) hb); clear HO_8; clear HO_9; clear BK502; clear BK513; clear HB; have HO_8 := n0_; have HO_9 := n1_; have BK502 := n2_; have BK513 := n3_; have HB := n4_; clear n0_ n1_ n2_ n3_ n4_; (try clear hb); (try clear hb2); (try clear hk); (try clear hi); have hcz72_0 : w71.cell? ⟨gb502, 0, none⟩ = some (.slice A1_0 l1_0.length c1_0) := (blk_cell BK502.out 0).trans rfl; have hfz72_0 := blk_frozen BK502.out 0; have hcz73_0 : w71.cell? ⟨gb513, 0, none⟩ = some (.int .i64 ((rd_T39 t508 x11_1).f0)) := (blk_cell BK513.out 0).trans rfl; have hcz73_1 : w71.cell? ⟨gb513, 1, none⟩ = some (.int .i64 ((rd_T39 t508 x11_1).f1)) := (blk_cell BK513.out 1).trans rfl; have hcz73_2 : w71.cell? ⟨gb513, 2, none⟩ = some (.int .i64 ((rd_T39 t508 x11_1).f2)) := (blk_cell BK513.out 2).trans rfl; have hcz73_3 : w71.cell? ⟨gb513, 3, none⟩ = some (.string ((rd_T39 t508 x11_1).f3)) := (blk_cell BK513.out 3).trans rfl; have hcz73_4 : w71.cell? ⟨gb513, 4, none⟩ = some (.int .i64 ((rd_T39 t508 x11_1).f4)) := (blk_cell BK513.out 4).trans rfl; have hcz73_5 : w71.cell? ⟨gb513, 5, none⟩ = some (.int .i64 ((rd_T39 t508 x11_1).f5)) := (blk_cell BK513.out 5).trans rfl; have hcz73_6 : w71.cell? ⟨gb513, 6, none⟩ = some (.int .i64 ((rd_T39 t508 x11_1).f6)) := (blk_cell BK513.out 6).trans rfl; have hcz73_7 : w71.cell? ⟨gb513, 7, none⟩ = some (.int .i64 ((rd_T39 t508 x11_1).f7)) := (blk_cell BK513.out 7).trans rfl; have hfz73_0 := blk_frozen BK513.out 0; have hfz73_1 := blk_frozen BK513.out 1; have hfz73_2 := blk_frozen BK513.out 2; have hfz73_3 := blk_frozen BK513.out 3; have hfz73_4 := blk_frozen BK513.out 4; have hfz73_5 := blk_frozen BK513.out 5; have hfz73_6 := blk_frozen BK513.out 6; have hfz73_7 := blk_frozen BK513.out 7) | ((with_reducible refine gate_callee (f := 20) rfl ?_); refine goesL_ (some 69) rfl rfl Try.func20 (by kernel_rfl) rfl #[.agg #[.slice A1_0 l1_0.length c1_0], .int .i64 ((rd_T39 t508 x11_1).f4), .int .i64 ((rd_T39 t508 x11_1).f5)] rfl (by (try simp only [List.map_toArray, List.map_cons, List.map_nil]); first | done | rfl | (simp only [List.length_drop, List.length_take]; rfl)) ?_; (with_reducible refine (tariff_Price.calls k1 _ _ l1_0 ((rd_T39 t508 x11_1).f4) ((rd_T39 t508 x11_1).f5) t517 t518 _ ?side1 ?side2 A19.out).mono ?_); (case side1 => repeat (first | exact (Kd.C_below HR1_0.out HB.out) | (with_reducible refine Kd.C_alloc ?_ _) | (with_reducible refine Kd.C_drewN ?_ _) | (with_reducible refine Kd.C_drew ?_))); (case side2 => exact HC1_0.out); rintro e w74 ⟨rfl, hb⟩; refine ⟨_, rfl, ?_⟩; have n0_ := Aside0.mk (Kd.V_below (by (with_reducible repeat (first | apply Kd.V_alloc | apply Kd.V_drewN | apply Kd.V_drew)); exact HO_8.out) hb); have n1_ := Aside0.mk (Kd.V_below (by (with_reducible repeat (first | apply Kd.V_alloc | apply Kd.V_drewN | apply Kd.V_drew)); exact HO_9.out) hb); have n2_ := Aside0.mk (blk_below (g := gb502) (o := .cells #[.slice A1_0 l1_0.length c1_0] 25 (0, 0)) (by (with_reducible repeat (first | refine blk_drewN ?_ _ | refine blk_drew ?_ | refine blk_alloc ?_ _)); exact BK502.out) hb); have n3_ := Aside0.mk (blk_below (g := gb513) (o := .cells #[.int .i64 ((rd_T39 t508 x11_1).f0), .int .i64 ((rd_T39 t508 x11_1).f1), .int .i64 ((rd_T39 t508 x11_1).f2), .string ((rd_T39 t508 x11_1).f3), .int .i64 ((rd_T39 t508 x11_1).f4), .int .i64 ((rd_T39 t508 x11_1).f5), .int .i64 ((rd_T39 t508 x11_1).f6), .int .i64 ((rd_T39 t508 x11_1).f7)] 39 (0, 0)) (by (with_reducible repeat (first | refine blk_drewN ?_ _ | refine blk_drew ?_ | refine blk_alloc ?_ _)); exact BK513.out) hb); have n4_ := Aside0.mk (below_step (by repeat (first | (with_reducible first | exact HB.out | apply below_alloc | apply pw_below_drewN | apply below_drew1 | refine below_set ?_ GE502.out | refine below_set ?_ GE513.out) | exact HB.out)) hb); clear HO_8; clear HO_9; clear BK502; clear BK513; clear HB; have HO_8 := n0_; have HO_9 := n1_; have BK502 := n2_; have BK513 := n3_; have HB := n4_; clear n0_ n1_ n2_ n3_ n4_; (try clear hb); (try clear hb2); (try clear hk); (try clear hi)))
                      go_ret
                      exact ⟨by first | rfl | (simp [errW_none, errW_some] <;> rfl) | (simp [*, errW_none, errW_some] <;> rfl), by repeat (first | (with_reducible first | exact HB.out | apply below_alloc | apply pw_below_drewN | apply below_drew1 | refine below_set ?_ GE502.out | refine below_set ?_ GE513.out) | exact HB.out)⟩
                  · rw [if_neg c21] at H
                    have c21b0 : (t518 == 0) = false := beq_eq_false_iff_ne.mpr c21
                    have c21b1 : (t518 != 0) = true := bne_iff_ne.mpr c21
                    obtain rfl := Option.some.inj H
                    obtain ⟨Ao75, co75, eo75⟩ := Kd.V_slice HO_9.out
                    subst eo75
                    have p512 : 0 ≤ (x11_1 : Int) := of_decide_eq_true (by first | (with_reducible assumption) | assumption)
                    have q512 : x11_1 < (t508.length : Int) := of_decide_eq_true (by first | (with_reducible assumption) | assumption)
                    obtain ⟨ad512, e512, hx512_0, hx512_1, hx512_2, hx512_3, hx512_4, hx512_5, hx512_6, hx512_7⟩ := at_T39 (Kd.V_reads' HO_9.out).2.2 x11_1 p512 q512
                    cases e512
                    replace p512 := eq_true p512
                    replace q512 := eq_true q512
                    go_wp2_with (first | ((with_reducible refine gate_dst (N := 12) rfl ?_); refine box_event ?hg (N := 12) ?hd (cs := #[.int .i64 0, .int .i64 0, .int .i64 0, .string (⟨#[]⟩ : ByteArray), .int .i64 0, .int .i64 0, .int .i64 0, .int .i64 0]) (t := 39) ?hr ?_; (case hd => rfl); (case hg => rfl); (case hr => first | (go_simp; done) | (go_simp; rfl)); intro gb513 hg w76 hbox hb; have n0_ := Aside0.mk (Kd.V_below (Kd.V_elderB (by (with_reducible repeat (first | apply Kd.V_alloc | apply Kd.V_drewN | apply Kd.V_drew)); exact HO_8.out) gb513 (Nat.le_of_eq hg.symm)) hb); have n1_ := Aside0.mk (Kd.V_below (Kd.V_elderB (by (with_reducible repeat (first | apply Kd.V_alloc | apply Kd.V_drewN | apply Kd.V_drew)); exact HO_9.out) gb513 (Nat.le_of_eq hg.symm)) hb); have n2_ := Aside0.mk (blk_below (g := gb502) (o := .cells #[.slice A1_0 l1_0.length c1_0] 25 (0, 0)) (by (with_reducible repeat (first | refine blk_drewN ?_ _ | refine blk_drew ?_ | refine blk_alloc ?_ _)); exact BK502.out) hb); have n3_ := Aside0.mk (below_step (by repeat (first | (with_reducible first | exact HB.out | apply below_alloc | apply pw_below_drewN | apply below_drew1 | refine below_set ?_ GE502.out) | exact HB.out)) hb); have n4_ := Aside0.mk (hbox); have n5_ := Aside0.mk ((by rw [hg]; exact (below_size (by repeat (first | (with_reducible first | exact HB.out | apply below_alloc | apply pw_below_drewN | apply below_drew1 | refine below_set ?_ GE502.out) | exact HB.out))) : w.heap.size ≤ gb513)); have n6_ := Aside0.mk ((by rw [hg]; exact (below_size (by repeat (first | (with_reducible first | exact HB.out | apply below_alloc | apply pw_below_drewN | apply below_drew1 | refine below_set ?_ GE502.out) | exact HB.out))) : w.heap.size ≤ gb513)); have n7_ := Aside0.mk ((by rw [hg]; exact Nat.ne_of_lt (blk_lt (g := gb502) (o := .cells #[.slice A1_0 l1_0.length c1_0] 25 (0, 0)) (by (with_reducible repeat (first | refine blk_drewN ?_ _ | refine blk_drew ?_ | refine blk_alloc ?_ _)); exact BK502.out)) : gb502 ≠ gb513)); have n8_ := Aside0.mk ((by rw [hg]; exact Nat.ne_of_gt (blk_lt (g := gb502) (o := .cells #[.slice A1_0 l1_0.length c1_0] 25 (0, 0)) (by (with_reducible repeat (first | refine blk_drewN ?_ _ | refine blk_drew ?_ | refine blk_alloc ?_ _)); exact BK502.out)) : gb513 ≠ gb502)); clear HO_8; clear HO_9; clear BK502; clear HB; have HO_8 := n0_; have HO_9 := n1_; have BK502 := n2_; have HB := n3_; have BK513 := n4_; have GW513 := n5_; have GE513 := n6_; have NB502_513 := n7_; have NB513_502 := n8_; clear n0_ n1_ n2_ n3_ n4_ n5_ n6_ n7_ n8_; clear hb hbox hg; have hnb77 := NB513_502.out; have hnc77 := NB502_513.out; have hcz78_0 : w76.cell? ⟨gb513, 0, none⟩ = some (.int .i64 0) := (blk_cell BK513.out 0).trans rfl; have hcz78_1 : w76.cell? ⟨gb513, 1, none⟩ = some (.int .i64 0) := (blk_cell BK513.out 1).trans rfl; have hcz78_2 : w76.cell? ⟨gb513, 2, none⟩ = some (.int .i64 0) := (blk_cell BK513.out 2).trans rfl; have hcz78_3 : w76.cell? ⟨gb513, 3, none⟩ = some (.string (⟨#[]⟩ : ByteArray)) := (blk_cell BK513.out 3).trans rfl; have hcz78_4 : w76.cell? ⟨gb513, 4, none⟩ = some (.int .i64 0) := (blk_cell BK513.out 4).trans rfl; have hcz78_5 : w76.cell? ⟨gb513, 5, none⟩ = some (.int .i64 0) := (blk_cell BK513.out 5).trans rfl; have hcz78_6 : w76.cell? ⟨gb513, 6, none⟩ = some (.int .i64 0) := (blk_cell BK513.out 6).trans rfl; have hcz78_7 : w76.cell? ⟨gb513, 7, none⟩ = some (.int .i64 0) := (blk_cell BK513.out 7).trans rfl; have hfz78_0 := blk_frozen BK513.out 0; have hfz78_1 := blk_frozen BK513.out 1; have hfz78_2 := blk_frozen BK513.out 2; have hfz78_3 := blk_frozen BK513.out 3; have hfz78_4 := blk_frozen BK513.out 4; have hfz78_5 := blk_frozen BK513.out 5; have hfz78_6 := blk_frozen BK513.out 6; have hfz78_7 := blk_frozen BK513.out 7; have hcz79_0 : w76.cell? ⟨gb502, 0, none⟩ = some (.slice A1_0 l1_0.length c1_0) := (blk_cell BK502.out 0).trans rfl; have hfz79_0 := blk_frozen BK502.out 0) | ((with_reducible refine gate_callee (f := 32) rfl ?_); refine goesL_ (some 59) rfl rfl Try.func32 (by kernel_rfl) rfl #[.agg #[.slice A1_0 l1_0.length c1_0], .int .i64 ((rd_T39 t508 x11_1).f4)] rfl (by (try simp only [List.map_toArray, List.map_cons, List.map_nil]); first | done | rfl | (simp only [List.length_drop, List.length_take]; rfl)) ?_; (with_reducible refine (tariff_Change.calls k1 _ _ l1_0 ((rd_T39 t508 x11_1).f4) t514 t515 t516 _ ?side1 ?side2 A18.out).mono ?_); (case side1 => exact Kd.C_below HR1_0.out (by repeat (first | (with_reducible first | exact HB.out | apply below_alloc | apply pw_below_drewN | apply below_drew1 | refine below_set ?_ GE502.out | refine below_set ?_ GE513.out) | exact HB.out))); (case side2 => exact HC1_0.out); rintro e w80 ⟨rfl, hb⟩; refine ⟨_, rfl, ?_⟩; have n0_ := Aside0.mk (Kd.V_below (by (with_reducible repeat (first | apply Kd.V_alloc | apply Kd.V_drewN | apply Kd.V_drew)); exact (Kd.V_mono (Kd.V_far (p := ⟨gb513, 7, none⟩) (Kd.V_far (p := ⟨gb513, 6, none⟩) (Kd.V_far (p := ⟨gb513, 5, none⟩) (Kd.V_far (p := ⟨gb513, 4, none⟩) (Kd.V_far (p := ⟨gb513, 3, none⟩) (Kd.V_far (p := ⟨gb513, 2, none⟩) (Kd.V_far (p := ⟨gb513, 1, none⟩) (Kd.V_far (p := ⟨gb513, 0, none⟩) (Kd.V_mono HO_8.out (fun k_ hk => (⟨hk, hk.2⟩ : _ ∧ k_ ≠ gb513))) (fun _ hk => hk.2) (.int .i64 ((rd_T39 t508 x11_1).f0))) (fun _ hk => hk.2) (.int .i64 ((rd_T39 t508 x11_1).f1))) (fun _ hk => hk.2) (.int .i64 ((rd_T39 t508 x11_1).f2))) (fun _ hk => hk.2) (.string ((rd_T39 t508 x11_1).f3))) (fun _ hk => hk.2) (.int .i64 ((rd_T39 t508 x11_1).f4))) (fun _ hk => hk.2) (.int .i64 ((rd_T39 t508 x11_1).f5))) (fun _ hk => hk.2) (.int .i64 ((rd_T39 t508 x11_1).f6))) (fun _ hk => hk.2) (.int .i64 ((rd_T39 t508 x11_1).f7))) (fun _ h_ => h_.1))) hb); have n1_ := Aside0.mk (Kd.V_below (by (with_reducible repeat (first | apply Kd.V_alloc | apply Kd.V_drewN | apply Kd.V_drew)); exact (Kd.V_mono (Kd.V_far (p := ⟨gb513, 7, none⟩) (Kd.V_far (p := ⟨gb513, 6, none⟩) (Kd.V_far (p := ⟨gb513, 5, none⟩) (Kd.V_far (p := ⟨gb513, 4, none⟩) (Kd.V_far (p := ⟨gb513, 3, none⟩) (Kd.V_far (p := ⟨gb513, 2, none⟩) (Kd.V_far (p := ⟨gb513, 1, none⟩) (Kd.V_far (p := ⟨gb513, 0, none⟩) (Kd.V_mono HO_9.out (fun k_ hk => (⟨hk, hk.2⟩ : _ ∧ k_ ≠ gb513))) (fun _ hk => hk.2) (.int .i64 ((rd_T39 t508 x11_1).f0))) (fun _ hk => hk.2) (.int .i64 ((rd_T39 t508 x11_1).f1))) (fun _ hk => hk.2) (.int .i64 ((rd_T39 t508 x11_1).f2))) (fun _ hk => hk.2) (.string ((rd_T39 t508 x11_1).f3))) (fun _ hk => hk.2) (.int .i64 ((rd_T39 t508 x11_1).f4))) (fun _ hk => hk.2) (.int .i64 ((rd_T39 t508 x11_1).f5))) (fun _ hk => hk.2) (.int .i64 ((rd_T39 t508 x11_1).f6))) (fun _ hk => hk.2) (.int .i64 ((rd_T39 t508 x11_1).f7))) (fun _ h_ => h_.1))) hb); have n2_ := Aside0.mk (blk_below (g := gb502) (o := .cells #[.slice A1_0 l1_0.length c1_0] 25 (0, 0)) (by (with_reducible repeat (first | refine blk_drewN ?_ _ | refine blk_drew ?_ | refine blk_alloc ?_ _)); refine blk_far ?_ NB502_513.out _; (with_reducible repeat (first | refine blk_drewN ?_ _ | refine blk_drew ?_ | refine blk_alloc ?_ _)); refine blk_far ?_ NB502_513.out _; (with_reducible repeat (first | refine blk_drewN ?_ _ | refine blk_drew ?_ | refine blk_alloc ?_ _)); refine blk_far ?_ NB502_513.out _; (with_reducible repeat (first | refine blk_drewN ?_ _ | refine blk_drew ?_ | refine blk_alloc ?_ _)); refine blk_far ?_ NB502_513.out _; (with_reducible repeat (first | refine blk_drewN ?_ _ | refine blk_drew ?_ | refine blk_alloc ?_ _)); refine blk_far ?_ NB502_513.out _; (with_reducible repeat (first | refine blk_drewN ?_ _ | refine blk_drew ?_ | refine blk_alloc ?_ _)); refine blk_far ?_ NB502_513.out _; (with_reducible repeat (first | refine blk_drewN ?_ _ | refine blk_drew ?_ | refine blk_alloc ?_ _)); refine blk_far ?_ NB502_513.out _; (with_reducible repeat (first | refine blk_drewN ?_ _ | refine blk_drew ?_ | refine blk_alloc ?_ _)); refine blk_far ?_ NB502_513.out _; (with_reducible repeat (first | refine blk_drewN ?_ _ | refine blk_drew ?_ | refine blk_alloc ?_ _)); exact BK502.out) hb); have n3_ := Aside0.mk (blk_below (g := gb513) (o := .cells #[.int .i64 ((rd_T39 t508 x11_1).f0), .int .i64 ((rd_T39 t508 x11_1).f1), .int .i64 ((rd_T39 t508 x11_1).f2), .string ((rd_T39 t508 x11_1).f3), .int .i64 ((rd_T39 t508 x11_1).f4), .int .i64 ((rd_T39 t508 x11_1).f5), .int .i64 ((rd_T39 t508 x11_1).f6), .int .i64 ((rd_T39 t508 x11_1).f7)] 39 (0, 0)) (by (with_reducible repeat (first | refine blk_drewN ?_ _ | refine blk_drew ?_ | refine blk_alloc ?_ _)); refine blk_put (cs := #[.int .i64 ((rd_T39 t508 x11_1).f0), .int .i64 ((rd_T39 t508 x11_1).f1), .int .i64 ((rd_T39 t508 x11_1).f2), .string ((rd_T39 t508 x11_1).f3), .int .i64 ((rd_T39 t508 x11_1).f4), .int .i64 ((rd_T39 t508 x11_1).f5), .int .i64 ((rd_T39 t508 x11_1).f6), .int .i64 0]) ?_ 7 _ rfl; (with_reducible repeat (first | refine blk_drewN ?_ _ | refine blk_drew ?_ | refine blk_alloc ?_ _)); refine blk_put (cs := #[.int .i64 ((rd_T39 t508 x11_1).f0), .int .i64 ((rd_T39 t508 x11_1).f1), .int .i64 ((rd_T39 t508 x11_1).f2), .string ((rd_T39 t508 x11_1).f3), .int .i64 ((rd_T39 t508 x11_1).f4), .int .i64 ((rd_T39 t508 x11_1).f5), .int .i64 0, .int .i64 0]) ?_ 6 _ rfl; (with_reducible repeat (first | refine blk_drewN ?_ _ | refine blk_drew ?_ | refine blk_alloc ?_ _)); refine blk_put (cs := #[.int .i64 ((rd_T39 t508 x11_1).f0), .int .i64 ((rd_T39 t508 x11_1).f1), .int .i64 ((rd_T39 t508 x11_1).f2), .string ((rd_T39 t508 x11_1).f3), .int .i64 ((rd_T39 t508 x11_1).f4), .int .i64 0, .int .i64 0, .int .i64 0]) ?_ 5 _ rfl; (with_reducible repeat (first | refine blk_drewN ?_ _ | refine blk_drew ?_ | refine blk_alloc ?_ _)); refine blk_put (cs := #[.int .i64 ((rd_T39 t508 x11_1).f0), .int .i64 ((rd_T39 t508 x11_1).f1), .int .i64 ((rd_T39 t508 x11_1).f2), .string ((rd_T39 t508 x11_1).f3), .int .i64 0, .int .i64 0, .int .i64 0, .int .i64 0]) ?_ 4 _ rfl; (with_reducible repeat (first | refine blk_drewN ?_ _ | refine blk_drew ?_ | refine blk_alloc ?_ _)); refine blk_put (cs := #[.int .i64 ((rd_T39 t508 x11_1).f0), .int .i64 ((rd_T39 t508 x11_1).f1), .int .i64 ((rd_T39 t508 x11_1).f2), .string (⟨#[]⟩ : ByteArray), .int .i64 0, .int .i64 0, .int .i64 0, .int .i64 0]) ?_ 3 _ rfl; (with_reducible repeat (first | refine blk_drewN ?_ _ | refine blk_drew ?_ | refine blk_alloc ?_ _)); refine blk_put (cs := #[.int .i64 ((rd_T39 t508 x11_1).f0), .int .i64 ((rd_T39 t508 x11_1).f1), .int .i64 0, .string (⟨#[]⟩ : ByteArray), .int .i64 0, .int .i64 0, .int .i64 0, .int .i64 0]) ?_ 2 _ rfl; (with_reducible repeat (first | refine blk_drewN ?_ _ | refine blk_drew ?_ | refine blk_alloc ?_ _)); refine blk_put (cs := #[.int .i64 ((rd_T39 t508 x11_1).f0), .int .i64 0, .int .i64 0, .string (⟨#[]⟩ : ByteArray), .int .i64 0, .int .i64 0, .int .i64 0, .int .i64 0]) ?_ 1 _ rfl; (with_reducible repeat (first | refine blk_drewN ?_ _ | refine blk_drew ?_ | refine blk_alloc ?_ _)); refine blk_put (cs := #[.int .i64 0, .int .i64 0, .int .i64 0, .string (⟨#[]⟩ : ByteArray), .int .i64 0, .int .i64 0, .int .i64 0, .int .i64 0]) ?_ 0 _ rfl; (with_reducible repeat (first | refine blk_drewN ?_ _ | refine blk_drew ?_ | refine blk_alloc ?_ _)); exact BK513.out) hb); have n4_ := Aside0.mk (below_step (by repeat (first | (with_reducible first | exact HB.out | apply below_alloc | apply pw_below_drewN | apply below_drew1 | refine below_set ?_ GE502.out | refine below_set ?_ GE513.out) | exact HB.out)) hb); clear HO_8; clear HO_9; clear BK502; clear BK513; clear HB; have HO_8 := n0_; have HO_9 := n1_; have BK502 := n2_; have BK513 := n3_; have HB := n4_; clear n0_ n1_ n2_ n3_ n4_; (try clear hb); (try clear hb2); (try clear hk); (try clear hi); have hcz81_0 : w80.cell? ⟨gb502, 0, none⟩ = some (.slice A1_0 l1_0.length c1_0) := (blk_cell BK502.out 0).trans rfl; have hfz81_0 := blk_frozen BK502.out 0; have hcz82_0 : w80.cell? ⟨gb513, 0, none⟩ = some (.int .i64 ((rd_T39 t508 x11_1).f0)) := (blk_cell BK513.out 0).trans rfl; have hcz82_1 : w80.cell? ⟨gb513, 1, none⟩ = some (.int .i64 ((rd_T39 t508 x11_1).f1)) := (blk_cell BK513.out 1).trans rfl; have hcz82_2 : w80.cell? ⟨gb513, 2, none⟩ = some (.int .i64 ((rd_T39 t508 x11_1).f2)) := (blk_cell BK513.out 2).trans rfl; have hcz82_3 : w80.cell? ⟨gb513, 3, none⟩ = some (.string ((rd_T39 t508 x11_1).f3)) := (blk_cell BK513.out 3).trans rfl; have hcz82_4 : w80.cell? ⟨gb513, 4, none⟩ = some (.int .i64 ((rd_T39 t508 x11_1).f4)) := (blk_cell BK513.out 4).trans rfl; have hcz82_5 : w80.cell? ⟨gb513, 5, none⟩ = some (.int .i64 ((rd_T39 t508 x11_1).f5)) := (blk_cell BK513.out 5).trans rfl; have hcz82_6 : w80.cell? ⟨gb513, 6, none⟩ = some (.int .i64 ((rd_T39 t508 x11_1).f6)) := (blk_cell BK513.out 6).trans rfl; have hcz82_7 : w80.cell? ⟨gb513, 7, none⟩ = some (.int .i64 ((rd_T39 t508 x11_1).f7)) := (blk_cell BK513.out 7).trans rfl; have hfz82_0 := blk_frozen BK513.out 0; have hfz82_1 := blk_frozen BK513.out 1; have hfz82_2 := blk_frozen BK513.out 2; have hfz82_3 := blk_frozen BK513.out 3; have hfz82_4 := blk_frozen BK513.out 4; have hfz82_5 := blk_frozen BK513.out 5; have hfz82_6 := blk_frozen BK513.out 6; have hfz82_7 := blk_frozen BK513.out 7) | ((with_reducible refine gate_callee (f := 20) rfl ?_); refine goesL_ (some 69) rfl rfl Try.func20 (by kernel_rfl) rfl #[.agg #[.slice A1_0 l1_0.length c1_0], .int .i64 ((rd_T39 t508 x11_1).f4), .int .i64 ((rd_T39 t508 x11_1).f5)] rfl (by (try simp only [List.map_toArray, List.map_cons, List.map_nil]); first | done | rfl | (simp only [List.length_drop, List.length_take]; rfl)) ?_; (with_reducible refine (tariff_Price.calls k1 _ _ l1_0 ((rd_T39 t508 x11_1).f4) ((rd_T39 t508 x11_1).f5) t517 t518 _ ?side1 ?side2 A19.out).mono ?_); (case side1 => repeat (first | exact (Kd.C_below HR1_0.out HB.out) | (with_reducible refine Kd.C_alloc ?_ _) | (with_reducible refine Kd.C_drewN ?_ _) | (with_reducible refine Kd.C_drew ?_))); (case side2 => exact HC1_0.out); rintro e w83 ⟨rfl, hb⟩; refine ⟨_, rfl, ?_⟩; have n0_ := Aside0.mk (Kd.V_below (by (with_reducible repeat (first | apply Kd.V_alloc | apply Kd.V_drewN | apply Kd.V_drew)); exact HO_8.out) hb); have n1_ := Aside0.mk (Kd.V_below (by (with_reducible repeat (first | apply Kd.V_alloc | apply Kd.V_drewN | apply Kd.V_drew)); exact HO_9.out) hb); have n2_ := Aside0.mk (blk_below (g := gb502) (o := .cells #[.slice A1_0 l1_0.length c1_0] 25 (0, 0)) (by (with_reducible repeat (first | refine blk_drewN ?_ _ | refine blk_drew ?_ | refine blk_alloc ?_ _)); exact BK502.out) hb); have n3_ := Aside0.mk (blk_below (g := gb513) (o := .cells #[.int .i64 ((rd_T39 t508 x11_1).f0), .int .i64 ((rd_T39 t508 x11_1).f1), .int .i64 ((rd_T39 t508 x11_1).f2), .string ((rd_T39 t508 x11_1).f3), .int .i64 ((rd_T39 t508 x11_1).f4), .int .i64 ((rd_T39 t508 x11_1).f5), .int .i64 ((rd_T39 t508 x11_1).f6), .int .i64 ((rd_T39 t508 x11_1).f7)] 39 (0, 0)) (by (with_reducible repeat (first | refine blk_drewN ?_ _ | refine blk_drew ?_ | refine blk_alloc ?_ _)); exact BK513.out) hb); have n4_ := Aside0.mk (below_step (by repeat (first | (with_reducible first | exact HB.out | apply below_alloc | apply pw_below_drewN | apply below_drew1 | refine below_set ?_ GE502.out | refine below_set ?_ GE513.out) | exact HB.out)) hb); clear HO_8; clear HO_9; clear BK502; clear BK513; clear HB; have HO_8 := n0_; have HO_9 := n1_; have BK502 := n2_; have BK513 := n3_; have HB := n4_; clear n0_ n1_ n2_ n3_ n4_; (try clear hb); (try clear hb2); (try clear hk); (try clear hi)))
                    go_ret
                    exact ⟨by first | rfl | (simp [errW_none, errW_some] <;> rfl) | (simp [*, errW_none, errW_some] <;> rfl), by repeat (first | (with_reducible first | exact HB.out | apply below_alloc | apply pw_below_drewN | apply below_drew1 | refine below_set ?_ GE502.out | refine below_set ?_ GE513.out) | exact HB.out)⟩
                · rw [if_neg c20] at H
                  have c20b0 : (t516 == 0) = false := beq_eq_false_iff_ne.mpr c20
                  have c20b1 : (t516 != 0) = true := bne_iff_ne.mpr c20
                  obtain rfl := Option.some.inj H
                  obtain ⟨Ao84, co84, eo84⟩ := Kd.V_slice HO_9.out
                  subst eo84
                  have p512 : 0 ≤ (x11_1 : Int) := of_decide_eq_true (by first | (with_reducible assumption) | assumption)
                  have q512 : x11_1 < (t508.length : Int) := of_decide_eq_true (by first | (with_reducible assumption) | assumption)
                  obtain ⟨ad512, e512, hx512_0, hx512_1, hx512_2, hx512_3, hx512_4, hx512_5, hx512_6, hx512_7⟩ := at_T39 (Kd.V_reads' HO_9.out).2.2 x11_1 p512 q512
                  cases e512
                  replace p512 := eq_true p512
                  replace q512 := eq_true q512
                  go_wp2_with (first | ((with_reducible refine gate_dst (N := 12) rfl ?_); refine box_event ?hg (N := 12) ?hd (cs := #[.int .i64 0, .int .i64 0, .int .i64 0, .string (⟨#[]⟩ : ByteArray), .int .i64 0, .int .i64 0, .int .i64 0, .int .i64 0]) (t := 39) ?hr ?_; (case hd => rfl); (case hg => rfl); (case hr => first | (go_simp; done) | (go_simp; rfl)); intro gb513 hg w85 hbox hb; have n0_ := Aside0.mk (Kd.V_below (Kd.V_elderB (by (with_reducible repeat (first | apply Kd.V_alloc | apply Kd.V_drewN | apply Kd.V_drew)); exact HO_8.out) gb513 (Nat.le_of_eq hg.symm)) hb); have n1_ := Aside0.mk (Kd.V_below (Kd.V_elderB (by (with_reducible repeat (first | apply Kd.V_alloc | apply Kd.V_drewN | apply Kd.V_drew)); exact HO_9.out) gb513 (Nat.le_of_eq hg.symm)) hb); have n2_ := Aside0.mk (blk_below (g := gb502) (o := .cells #[.slice A1_0 l1_0.length c1_0] 25 (0, 0)) (by (with_reducible repeat (first | refine blk_drewN ?_ _ | refine blk_drew ?_ | refine blk_alloc ?_ _)); exact BK502.out) hb); have n3_ := Aside0.mk (below_step (by repeat (first | (with_reducible first | exact HB.out | apply below_alloc | apply pw_below_drewN | apply below_drew1 | refine below_set ?_ GE502.out) | exact HB.out)) hb); have n4_ := Aside0.mk (hbox); have n5_ := Aside0.mk ((by rw [hg]; exact (below_size (by repeat (first | (with_reducible first | exact HB.out | apply below_alloc | apply pw_below_drewN | apply below_drew1 | refine below_set ?_ GE502.out) | exact HB.out))) : w.heap.size ≤ gb513)); have n6_ := Aside0.mk ((by rw [hg]; exact (below_size (by repeat (first | (with_reducible first | exact HB.out | apply below_alloc | apply pw_below_drewN | apply below_drew1 | refine below_set ?_ GE502.out) | exact HB.out))) : w.heap.size ≤ gb513)); have n7_ := Aside0.mk ((by rw [hg]; exact Nat.ne_of_lt (blk_lt (g := gb502) (o := .cells #[.slice A1_0 l1_0.length c1_0] 25 (0, 0)) (by (with_reducible repeat (first | refine blk_drewN ?_ _ | refine blk_drew ?_ | refine blk_alloc ?_ _)); exact BK502.out)) : gb502 ≠ gb513)); have n8_ := Aside0.mk ((by rw [hg]; exact Nat.ne_of_gt (blk_lt (g := gb502) (o := .cells #[.slice A1_0 l1_0.length c1_0] 25 (0, 0)) (by (with_reducible repeat (first | refine blk_drewN ?_ _ | refine blk_drew ?_ | refine blk_alloc ?_ _)); exact BK502.out)) : gb513 ≠ gb502)); clear HO_8; clear HO_9; clear BK502; clear HB; have HO_8 := n0_; have HO_9 := n1_; have BK502 := n2_; have HB := n3_; have BK513 := n4_; have GW513 := n5_; have GE513 := n6_; have NB502_513 := n7_; have NB513_502 := n8_; clear n0_ n1_ n2_ n3_ n4_ n5_ n6_ n7_ n8_; clear hb hbox hg; have hnb86 := NB513_502.out; have hnc86 := NB502_513.out; have hcz87_0 : w85.cell? ⟨gb513, 0, none⟩ = some (.int .i64 0) := (blk_cell BK513.out 0).trans rfl; have hcz87_1 : w85.cell? ⟨gb513, 1, none⟩ = some (.int .i64 0) := (blk_cell BK513.out 1).trans rfl; have hcz87_2 : w85.cell? ⟨gb513, 2, none⟩ = some (.int .i64 0) := (blk_cell BK513.out 2).trans rfl; have hcz87_3 : w85.cell? ⟨gb513, 3, none⟩ = some (.string (⟨#[]⟩ : ByteArray)) := (blk_cell BK513.out 3).trans rfl; have hcz87_4 : w85.cell? ⟨gb513, 4, none⟩ = some (.int .i64 0) := (blk_cell BK513.out 4).trans rfl; have hcz87_5 : w85.cell? ⟨gb513, 5, none⟩ = some (.int .i64 0) := (blk_cell BK513.out 5).trans rfl; have hcz87_6 : w85.cell? ⟨gb513, 6, none⟩ = some (.int .i64 0) := (blk_cell BK513.out 6).trans rfl; have hcz87_7 : w85.cell? ⟨gb513, 7, none⟩ = some (.int .i64 0) := (blk_cell BK513.out 7).trans rfl; have hfz87_0 := blk_frozen BK513.out 0; have hfz87_1 := blk_frozen BK513.out 1; have hfz87_2 := blk_frozen BK513.out 2; have hfz87_3 := blk_frozen BK513.out 3; have hfz87_4 := blk_frozen BK513.out 4; have hfz87_5 := blk_frozen BK513.out 5; have hfz87_6 := blk_frozen BK513.out 6; have hfz87_7 := blk_frozen BK513.out 7; have hcz88_0 : w85.cell? ⟨gb502, 0, none⟩ = some (.slice A1_0 l1_0.length c1_0) := (blk_cell BK502.out 0).trans rfl; have hfz88_0 := blk_frozen BK502.out 0) | ((with_reducible refine gate_callee (f := 32) rfl ?_); refine goesL_ (some 59) rfl rfl Try.func32 (by kernel_rfl) rfl #[.agg #[.slice A1_0 l1_0.length c1_0], .int .i64 ((rd_T39 t508 x11_1).f4)] rfl (by (try simp only [List.map_toArray, List.map_cons, List.map_nil]); first | done | rfl | (simp only [List.length_drop, List.length_take]; rfl)) ?_; (with_reducible refine (tariff_Change.calls k1 _ _ l1_0 ((rd_T39 t508 x11_1).f4) t514 t515 t516 _ ?side1 ?side2 A18.out).mono ?_); (case side1 => exact Kd.C_below HR1_0.out (by repeat (first | (with_reducible first | exact HB.out | apply below_alloc | apply pw_below_drewN | apply below_drew1 | refine below_set ?_ GE502.out | refine below_set ?_ GE513.out) | exact HB.out))); (case side2 => exact HC1_0.out); rintro e w89 ⟨rfl, hb⟩; refine ⟨_, rfl, ?_⟩; have n0_ := Aside0.mk (Kd.V_below (by (with_reducible repeat (first | apply Kd.V_alloc | apply Kd.V_drewN | apply Kd.V_drew)); exact (Kd.V_mono (Kd.V_far (p := ⟨gb513, 7, none⟩) (Kd.V_far (p := ⟨gb513, 6, none⟩) (Kd.V_far (p := ⟨gb513, 5, none⟩) (Kd.V_far (p := ⟨gb513, 4, none⟩) (Kd.V_far (p := ⟨gb513, 3, none⟩) (Kd.V_far (p := ⟨gb513, 2, none⟩) (Kd.V_far (p := ⟨gb513, 1, none⟩) (Kd.V_far (p := ⟨gb513, 0, none⟩) (Kd.V_mono HO_8.out (fun k_ hk => (⟨hk, hk.2⟩ : _ ∧ k_ ≠ gb513))) (fun _ hk => hk.2) (.int .i64 ((rd_T39 t508 x11_1).f0))) (fun _ hk => hk.2) (.int .i64 ((rd_T39 t508 x11_1).f1))) (fun _ hk => hk.2) (.int .i64 ((rd_T39 t508 x11_1).f2))) (fun _ hk => hk.2) (.string ((rd_T39 t508 x11_1).f3))) (fun _ hk => hk.2) (.int .i64 ((rd_T39 t508 x11_1).f4))) (fun _ hk => hk.2) (.int .i64 ((rd_T39 t508 x11_1).f5))) (fun _ hk => hk.2) (.int .i64 ((rd_T39 t508 x11_1).f6))) (fun _ hk => hk.2) (.int .i64 ((rd_T39 t508 x11_1).f7))) (fun _ h_ => h_.1))) hb); have n1_ := Aside0.mk (Kd.V_below (by (with_reducible repeat (first | apply Kd.V_alloc | apply Kd.V_drewN | apply Kd.V_drew)); exact (Kd.V_mono (Kd.V_far (p := ⟨gb513, 7, none⟩) (Kd.V_far (p := ⟨gb513, 6, none⟩) (Kd.V_far (p := ⟨gb513, 5, none⟩) (Kd.V_far (p := ⟨gb513, 4, none⟩) (Kd.V_far (p := ⟨gb513, 3, none⟩) (Kd.V_far (p := ⟨gb513, 2, none⟩) (Kd.V_far (p := ⟨gb513, 1, none⟩) (Kd.V_far (p := ⟨gb513, 0, none⟩) (Kd.V_mono HO_9.out (fun k_ hk => (⟨hk, hk.2⟩ : _ ∧ k_ ≠ gb513))) (fun _ hk => hk.2) (.int .i64 ((rd_T39 t508 x11_1).f0))) (fun _ hk => hk.2) (.int .i64 ((rd_T39 t508 x11_1).f1))) (fun _ hk => hk.2) (.int .i64 ((rd_T39 t508 x11_1).f2))) (fun _ hk => hk.2) (.string ((rd_T39 t508 x11_1).f3))) (fun _ hk => hk.2) (.int .i64 ((rd_T39 t508 x11_1).f4))) (fun _ hk => hk.2) (.int .i64 ((rd_T39 t508 x11_1).f5))) (fun _ hk => hk.2) (.int .i64 ((rd_T39 t508 x11_1).f6))) (fun _ hk => hk.2) (.int .i64 ((rd_T39 t508 x11_1).f7))) (fun _ h_ => h_.1))) hb); have n2_ := Aside0.mk (blk_below (g := gb502) (o := .cells #[.slice A1_0 l1_0.length c1_0] 25 (0, 0)) (by (with_reducible repeat (first | refine blk_drewN ?_ _ | refine blk_drew ?_ | refine blk_alloc ?_ _)); refine blk_far ?_ NB502_513.out _; (with_reducible repeat (first | refine blk_drewN ?_ _ | refine blk_drew ?_ | refine blk_alloc ?_ _)); refine blk_far ?_ NB502_513.out _; (with_reducible repeat (first | refine blk_drewN ?_ _ | refine blk_drew ?_ | refine blk_alloc ?_ _)); refine blk_far ?_ NB502_513.out _; (with_reducible repeat (first | refine blk_drewN ?_ _ | refine blk_drew ?_ | refine blk_alloc ?_ _)); refine blk_far ?_ NB502_513.out _; (with_reducible repeat (first | refine blk_drewN ?_ _ | refine blk_drew ?_ | refine blk_alloc ?_ _)); refine blk_far ?_ NB502_513.out _; (with_reducible repeat (first | refine blk_drewN ?_ _ | refine blk_drew ?_ | refine blk_alloc ?_ _)); refine blk_far ?_ NB502_513.out _; (with_reducible repeat (first | refine blk_drewN ?_ _ | refine blk_drew ?_ | refine blk_alloc ?_ _)); refine blk_far ?_ NB502_513.out _; (with_reducible repeat (first | refine blk_drewN ?_ _ | refine blk_drew ?_ | refine blk_alloc ?_ _)); refine blk_far ?_ NB502_513.out _; (with_reducible repeat (first | refine blk_drewN ?_ _ | refine blk_drew ?_ | refine blk_alloc ?_ _)); exact BK502.out) hb); have n3_ := Aside0.mk (blk_below (g := gb513) (o := .cells #[.int .i64 ((rd_T39 t508 x11_1).f0), .int .i64 ((rd_T39 t508 x11_1).f1), .int .i64 ((rd_T39 t508 x11_1).f2), .string ((rd_T39 t508 x11_1).f3), .int .i64 ((rd_T39 t508 x11_1).f4), .int .i64 ((rd_T39 t508 x11_1).f5), .int .i64 ((rd_T39 t508 x11_1).f6), .int .i64 ((rd_T39 t508 x11_1).f7)] 39 (0, 0)) (by (with_reducible repeat (first | refine blk_drewN ?_ _ | refine blk_drew ?_ | refine blk_alloc ?_ _)); refine blk_put (cs := #[.int .i64 ((rd_T39 t508 x11_1).f0), .int .i64 ((rd_T39 t508 x11_1).f1), .int .i64 ((rd_T39 t508 x11_1).f2), .string ((rd_T39 t508 x11_1).f3), .int .i64 ((rd_T39 t508 x11_1).f4), .int .i64 ((rd_T39 t508 x11_1).f5), .int .i64 ((rd_T39 t508 x11_1).f6), .int .i64 0]) ?_ 7 _ rfl; (with_reducible repeat (first | refine blk_drewN ?_ _ | refine blk_drew ?_ | refine blk_alloc ?_ _)); refine blk_put (cs := #[.int .i64 ((rd_T39 t508 x11_1).f0), .int .i64 ((rd_T39 t508 x11_1).f1), .int .i64 ((rd_T39 t508 x11_1).f2), .string ((rd_T39 t508 x11_1).f3), .int .i64 ((rd_T39 t508 x11_1).f4), .int .i64 ((rd_T39 t508 x11_1).f5), .int .i64 0, .int .i64 0]) ?_ 6 _ rfl; (with_reducible repeat (first | refine blk_drewN ?_ _ | refine blk_drew ?_ | refine blk_alloc ?_ _)); refine blk_put (cs := #[.int .i64 ((rd_T39 t508 x11_1).f0), .int .i64 ((rd_T39 t508 x11_1).f1), .int .i64 ((rd_T39 t508 x11_1).f2), .string ((rd_T39 t508 x11_1).f3), .int .i64 ((rd_T39 t508 x11_1).f4), .int .i64 0, .int .i64 0, .int .i64 0]) ?_ 5 _ rfl; (with_reducible repeat (first | refine blk_drewN ?_ _ | refine blk_drew ?_ | refine blk_alloc ?_ _)); refine blk_put (cs := #[.int .i64 ((rd_T39 t508 x11_1).f0), .int .i64 ((rd_T39 t508 x11_1).f1), .int .i64 ((rd_T39 t508 x11_1).f2), .string ((rd_T39 t508 x11_1).f3), .int .i64 0, .int .i64 0, .int .i64 0, .int .i64 0]) ?_ 4 _ rfl; (with_reducible repeat (first | refine blk_drewN ?_ _ | refine blk_drew ?_ | refine blk_alloc ?_ _)); refine blk_put (cs := #[.int .i64 ((rd_T39 t508 x11_1).f0), .int .i64 ((rd_T39 t508 x11_1).f1), .int .i64 ((rd_T39 t508 x11_1).f2), .string (⟨#[]⟩ : ByteArray), .int .i64 0, .int .i64 0, .int .i64 0, .int .i64 0]) ?_ 3 _ rfl; (with_reducible repeat (first | refine blk_drewN ?_ _ | refine blk_drew ?_ | refine blk_alloc ?_ _)); refine blk_put (cs := #[.int .i64 ((rd_T39 t508 x11_1).f0), .int .i64 ((rd_T39 t508 x11_1).f1), .int .i64 0, .string (⟨#[]⟩ : ByteArray), .int .i64 0, .int .i64 0, .int .i64 0, .int .i64 0]) ?_ 2 _ rfl; (with_reducible repeat (first | refine blk_drewN ?_ _ | refine blk_drew ?_ | refine blk_alloc ?_ _)); refine blk_put (cs := #[.int .i64 ((rd_T39 t508 x11_1).f0), .int .i64 0, .int .i64 0, .string (⟨#[]⟩ : ByteArray), .int .i64 0, .int .i64 0, .int .i64 0, .int .i64 0]) ?_ 1 _ rfl; (with_reducible repeat (first | refine blk_drewN ?_ _ | refine blk_drew ?_ | refine blk_alloc ?_ _)); refine blk_put (cs := #[.int .i64 0, .int .i64 0, .int .i64 0, .string (⟨#[]⟩ : ByteArray), .int .i64 0, .int .i64 0, .int .i64 0, .int .i64 0]) ?_ 0 _ rfl; (with_reducible repeat (first | refine blk_drewN ?_ _ | refine blk_drew ?_ | refine blk_alloc ?_ _)); exact BK513.out) hb); have n4_ := Aside0.mk (below_step (by repeat (first | (with_reducible first | exact HB.out | apply below_alloc | apply pw_below_drewN | apply below_drew1 | refine below_set ?_ GE502.out | refine below_set ?_ GE513.out) | exact HB.out)) hb); clear HO_8; clear HO_9; clear BK502; clear BK513; clear HB; have HO_8 := n0_; have HO_9 := n1_; have BK502 := n2_; have BK513 := n3_; have HB := n4_; clear n0_ n1_ n2_ n3_ n4_; (try clear hb); (try clear hb2); (try clear hk); (try clear hi); have hcz90_0 : w89.cell? ⟨gb502, 0, none⟩ = some (.slice A1_0 l1_0.length c1_0) := (blk_cell BK502.out 0).trans rfl; have hfz90_0 := blk_frozen BK502.out 0; have hcz91_0 : w89.cell? ⟨gb513, 0, none⟩ = some (.int .i64 ((rd_T39 t508 x11_1).f0)) := (blk_cell BK513.out 0).trans rfl; have hcz91_1 : w89.cell? ⟨gb513, 1, none⟩ = some (.int .i64 ((rd_T39 t508 x11_1).f1)) := (blk_cell BK513.out 1).trans rfl; have hcz91_2 : w89.cell? ⟨gb513, 2, none⟩ = some (.int .i64 ((rd_T39 t508 x11_1).f2)) := (blk_cell BK513.out 2).trans rfl; have hcz91_3 : w89.cell? ⟨gb513, 3, none⟩ = some (.string ((rd_T39 t508 x11_1).f3)) := (blk_cell BK513.out 3).trans rfl; have hcz91_4 : w89.cell? ⟨gb513, 4, none⟩ = some (.int .i64 ((rd_T39 t508 x11_1).f4)) := (blk_cell BK513.out 4).trans rfl; have hcz91_5 : w89.cell? ⟨gb513, 5, none⟩ = some (.int .i64 ((rd_T39 t508 x11_1).f5)) := (blk_cell BK513.out 5).trans rfl; have hcz91_6 : w89.cell? ⟨gb513, 6, none⟩ = some (.int .i64 ((rd_T39 t508 x11_1).f6)) := (blk_cell BK513.out 6).trans rfl; have hcz91_7 : w89.cell? ⟨gb513, 7, none⟩ = some (.int .i64 ((rd_T39 t508 x11_1).f7)) := (blk_cell BK513.out 7).trans rfl; have hfz91_0 := blk_frozen BK513.out 0; have hfz91_1 := blk_frozen BK513.out 1; have hfz91_2 := blk_frozen BK513.out 2; have hfz91_3 := blk_frozen BK513.out 3; have hfz91_4 := blk_frozen BK513.out 4; have hfz91_5 := blk_frozen BK513.out 5; have hfz91_6 := blk_frozen BK513.out 6; have hfz91_7 := blk_frozen BK513.out 7) | ((with_reducible refine gate_callee (f := 20) rfl ?_); refine goesL_ (some 69) rfl rfl Try.func20 (by kernel_rfl) rfl #[.agg #[.slice A1_0 l1_0.length c1_0], .int .i64 ((rd_T39 t508 x11_1).f4), .int .i64 ((rd_T39 t508 x11_1).f5)] rfl (by (try simp only [List.map_toArray, List.map_cons, List.map_nil]); first | done | rfl | (simp only [List.length_drop, List.length_take]; rfl)) ?_; (with_reducible refine (tariff_Price.calls k1 _ _ l1_0 ((rd_T39 t508 x11_1).f4) ((rd_T39 t508 x11_1).f5) t517 t518 _ ?side1 ?side2 A19.out).mono ?_); (case side1 => repeat (first | exact (Kd.C_below HR1_0.out HB.out) | (with_reducible refine Kd.C_alloc ?_ _) | (with_reducible refine Kd.C_drewN ?_ _) | (with_reducible refine Kd.C_drew ?_))); (case side2 => exact HC1_0.out); rintro e w92 ⟨rfl, hb⟩; refine ⟨_, rfl, ?_⟩; have n0_ := Aside0.mk (Kd.V_below (by (with_reducible repeat (first | apply Kd.V_alloc | apply Kd.V_drewN | apply Kd.V_drew)); exact HO_8.out) hb); have n1_ := Aside0.mk (Kd.V_below (by (with_reducible repeat (first | apply Kd.V_alloc | apply Kd.V_drewN | apply Kd.V_drew)); exact HO_9.out) hb); have n2_ := Aside0.mk (blk_below (g := gb502) (o := .cells #[.slice A1_0 l1_0.length c1_0] 25 (0, 0)) (by (with_reducible repeat (first | refine blk_drewN ?_ _ | refine blk_drew ?_ | refine blk_alloc ?_ _)); exact BK502.out) hb); have n3_ := Aside0.mk (blk_below (g := gb513) (o := .cells #[.int .i64 ((rd_T39 t508 x11_1).f0), .int .i64 ((rd_T39 t508 x11_1).f1), .int .i64 ((rd_T39 t508 x11_1).f2), .string ((rd_T39 t508 x11_1).f3), .int .i64 ((rd_T39 t508 x11_1).f4), .int .i64 ((rd_T39 t508 x11_1).f5), .int .i64 ((rd_T39 t508 x11_1).f6), .int .i64 ((rd_T39 t508 x11_1).f7)] 39 (0, 0)) (by (with_reducible repeat (first | refine blk_drewN ?_ _ | refine blk_drew ?_ | refine blk_alloc ?_ _)); exact BK513.out) hb); have n4_ := Aside0.mk (below_step (by repeat (first | (with_reducible first | exact HB.out | apply below_alloc | apply pw_below_drewN | apply below_drew1 | refine below_set ?_ GE502.out | refine below_set ?_ GE513.out) | exact HB.out)) hb); clear HO_8; clear HO_9; clear BK502; clear BK513; clear HB; have HO_8 := n0_; have HO_9 := n1_; have BK502 := n2_; have BK513 := n3_; have HB := n4_; clear n0_ n1_ n2_ n3_ n4_; (try clear hb); (try clear hb2); (try clear hk); (try clear hi)))
                  go_ret
                  exact ⟨by first | rfl | (simp [errW_none, errW_some] <;> rfl) | (simp [*, errW_none, errW_some] <;> rfl), by repeat (first | (with_reducible first | exact HB.out | apply below_alloc | apply pw_below_drewN | apply below_drew1 | refine below_set ?_ GE502.out | refine below_set ?_ GE513.out) | exact HB.out)⟩
              · rw [if_neg c17] at H
                exact absurd H (by simp)
            · rw [if_neg c16] at H
              have c16b0 : decide (x11_1 < (t508.length : Int)) = false := decide_eq_false c16
              clear c16
              have H' := Aside0.mk H
              clear H
              obtain ⟨Ao93, co93, eo93⟩ := Kd.V_slice HO_9.out
              subst eo93
              go_wp2
              go_loopg [18] k1 (fun kq v18 w' => ∃ (x18_2 : Int), v18 = .int .i64 x18_2 ∧ Aside0 (crossbarlaw27_MeterRecordsHaveConstantRate.l1 kq l0 a2 t505 x18_2 l1_0 = some r) ∧ Aside0 (kq ≤ k1) ∧ Aside0 (Kd.V k33 33 w' w.heap.size (fun k_ => k_ ≠ gb502) v506 t505) ∧ Aside0 (w'.heap[gb502]? = some (.cells #[(.slice A1_0 l1_0.length c1_0)] 25 (0, 0))) ∧ Aside0 (Below w.heap.size w w'))
              case atStart => exact ⟨(0), (by first | rfl | (simp; done) | (simp [*]; done)), H', ⟨Nat.le_refl _⟩, ⟨by (with_reducible repeat (first | apply Kd.V_alloc | apply Kd.V_drewN | apply Kd.V_drew)); exact HO_8.out⟩, ⟨by (with_reducible repeat (first | refine blk_drewN ?_ _ | refine blk_drew ?_ | refine blk_alloc ?_ _)); exact BK502.out⟩, ⟨by repeat (first | (with_reducible first | exact HB.out | apply below_alloc | apply pw_below_drewN | apply below_drew1 | refine below_set ?_ GE502.out) | exact HB.out)⟩⟩
              case round =>
                clear H'
                try clear c1
                try clear c2
                try clear p2
                try clear c3
                try clear c4
                try clear c5
                try clear p5
                try clear q5
                try clear hx5
                try clear c6
                try clear p6
                try clear c7
                try clear c8
                try clear c9
                try clear c9b0
                try clear c9b1
                try clear c10
                try clear c16
                try clear c16b0
                try clear c17
                try clear c17b0
                try clear c18
                try clear c20
                try clear c20b0
                try clear c20b1
                try clear c21
                try clear c21b0
                try clear c21b1
                try clear c22
                try clear c23
                try clear c23b0
                try clear c23b1
                try clear c24
                try clear c24b0
                try clear c24b1
                try clear c25
                try clear c25b0
                try clear c25b1
                try clear c28
                try clear c32
                try clear c38
                try clear c48
                try clear p51
                try clear q51
                try clear hx51
                try clear c58
                try clear p64
                try clear c68
                try clear c77
                try clear c86
                try clear hcz12_0
                try clear hcz14_0
                try clear hcz29_0
                try clear hcz29_1
                try clear hcz29_2
                try clear hcz29_3
                try clear hcz29_4
                try clear hcz29_5
                try clear hcz29_6
                try clear hcz29_7
                try clear hcz30_0
                try clear hcz32_0
                try clear hcz33_0
                try clear hcz33_1
                try clear hcz33_2
                try clear hcz33_3
                try clear hcz33_4
                try clear hcz33_5
                try clear hcz33_6
                try clear hcz33_7
                try clear hcz35_0
                try clear hcz35_1
                try clear hcz35_2
                try clear hcz35_3
                try clear hcz35_4
                try clear hcz35_5
                try clear hcz35_6
                try clear hcz35_7
                try clear hcz39_0
                try clear hcz39_1
                try clear hcz39_2
                try clear hcz39_3
                try clear hcz39_4
                try clear hcz39_5
                try clear hcz39_6
                try clear hcz39_7
                try clear hcz40_0
                try clear hcz42_0
                try clear hcz43_0
                try clear hcz43_1
                try clear hcz43_2
                try clear hcz43_3
                try clear hcz43_4
                try clear hcz43_5
                try clear hcz43_6
                try clear hcz43_7
                try clear hcz45_0
                try clear hcz45_1
                try clear hcz45_2
                try clear hcz45_3
                try clear hcz45_4
                try clear hcz45_5
                try clear hcz45_6
                try clear hcz45_7
                try clear hcz49_0
                try clear hcz49_1
                try clear hcz49_2
                try clear hcz49_3
                try clear hcz49_4
                try clear hcz49_5
                try clear hcz49_6
                try clear hcz49_7
                try clear hcz50_0
                try clear hcz52_0
                try clear hcz53_0
                try clear hcz53_1
                try clear hcz53_2
                try clear hcz53_3
                try clear hcz53_4
                try clear hcz53_5
                try clear hcz53_6
                try clear hcz53_7
                try clear hcz55_0
                try clear hcz55_1
                try clear hcz55_2
                try clear hcz55_3
                try clear hcz55_4
                try clear hcz55_5
                try clear hcz55_6
                try clear hcz55_7
                try clear hcz59_0
                try clear hcz59_1
                try clear hcz59_2
                try clear hcz59_3
                try clear hcz59_4
                try clear hcz59_5
                try clear hcz59_6
                try clear hcz59_7
                try clear hcz60_0
                try clear hcz62_0
                try clear hcz63_0
                try clear hcz63_1
                try clear hcz63_2
                try clear hcz63_3
                try clear hcz63_4
                try clear hcz63_5
                try clear hcz63_6
                try clear hcz63_7
                try clear hcz65_0
                try clear hcz65_1
                try clear hcz65_2
                try clear hcz65_3
                try clear hcz65_4
                try clear hcz65_5
                try clear hcz65_6
                try clear hcz65_7
                try clear hcz69_0
                try clear hcz69_1
                try clear hcz69_2
                try clear hcz69_3
                try clear hcz69_4
                try clear hcz69_5
                try clear hcz69_6
                try clear hcz69_7
                try clear hcz70_0
                try clear hcz72_0
                try clear hcz73_0
                try clear hcz73_1
                try clear hcz73_2
                try clear hcz73_3
                try clear hcz73_4
                try clear hcz73_5
                try clear hcz73_6
                try clear hcz73_7
                try clear hcz78_0
                try clear hcz78_1
                try clear hcz78_2
                try clear hcz78_3
                try clear hcz78_4
                try clear hcz78_5
                try clear hcz78_6
                try clear hcz78_7
                try clear hcz79_0
                try clear hcz81_0
                try clear hcz82_0
                try clear hcz82_1
                try clear hcz82_2
                try clear hcz82_3
                try clear hcz82_4
                try clear hcz82_5
                try clear hcz82_6
                try clear hcz82_7
                try clear hcz87_0
                try clear hcz87_1
                try clear hcz87_2
                try clear hcz87_3
                try clear hcz87_4
                try clear hcz87_5
                try clear hcz87_6
                try clear hcz87_7
                try clear hcz88_0
                try clear hcz90_0
                try clear hcz91_0
                try clear hcz91_1
                try clear hcz91_2
                try clear hcz91_3
                try clear hcz91_4
                try clear hcz91_5
                try clear hcz91_6
                try clear hcz91_7
                try clear hfz12_0
                try clear hfz14_0
                try clear hfz29_0
                try clear hfz29_1
                try clear hfz29_2
                try clear hfz29_3
                try clear hfz29_4
                try clear hfz29_5
                try clear hfz29_6
                try clear hfz29_7
                try clear hfz30_0
                try clear hfz32_0
                try clear hfz33_0
                try clear hfz33_1
                try clear hfz33_2
                try clear hfz33_3
                try clear hfz33_4
                try clear hfz33_5
                try clear hfz33_6
                try clear hfz33_7
                try clear hfz35_0
                try clear hfz35_1
                try clear hfz35_2
                try clear hfz35_3
                try clear hfz35_4
                try clear hfz35_5
                try clear hfz35_6
                try clear hfz35_7
                try clear hfz39_0
                try clear hfz39_1
                try clear hfz39_2
                try clear hfz39_3
                try clear hfz39_4
                try clear hfz39_5
                try clear hfz39_6
                try clear hfz39_7
                try clear hfz40_0
                try clear hfz42_0
                try clear hfz43_0
                try clear hfz43_1
                try clear hfz43_2
                try clear hfz43_3
                try clear hfz43_4
                try clear hfz43_5
                try clear hfz43_6
                try clear hfz43_7
                try clear hfz45_0
                try clear hfz45_1
                try clear hfz45_2
                try clear hfz45_3
                try clear hfz45_4
                try clear hfz45_5
                try clear hfz45_6
                try clear hfz45_7
                try clear hfz49_0
                try clear hfz49_1
                try clear hfz49_2
                try clear hfz49_3
                try clear hfz49_4
                try clear hfz49_5
                try clear hfz49_6
                try clear hfz49_7
                try clear hfz50_0
                try clear hfz52_0
                try clear hfz53_0
                try clear hfz53_1
                try clear hfz53_2
                try clear hfz53_3
                try clear hfz53_4
                try clear hfz53_5
                try clear hfz53_6
                try clear hfz53_7
                try clear hfz55_0
                try clear hfz55_1
                try clear hfz55_2
                try clear hfz55_3
                try clear hfz55_4
                try clear hfz55_5
                try clear hfz55_6
                try clear hfz55_7
                try clear hfz59_0
                try clear hfz59_1
                try clear hfz59_2
                try clear hfz59_3
                try clear hfz59_4
                try clear hfz59_5
                try clear hfz59_6
                try clear hfz59_7
                try clear hfz60_0
                try clear hfz62_0
                try clear hfz63_0
                try clear hfz63_1
                try clear hfz63_2
                try clear hfz63_3
                try clear hfz63_4
                try clear hfz63_5
                try clear hfz63_6
                try clear hfz63_7
                try clear hfz65_0
                try clear hfz65_1
                try clear hfz65_2
                try clear hfz65_3
                try clear hfz65_4
                try clear hfz65_5
                try clear hfz65_6
                try clear hfz65_7
                try clear hfz69_0
                try clear hfz69_1
                try clear hfz69_2
                try clear hfz69_3
                try clear hfz69_4
                try clear hfz69_5
                try clear hfz69_6
                try clear hfz69_7
                try clear hfz70_0
                try clear hfz72_0
                try clear hfz73_0
                try clear hfz73_1
                try clear hfz73_2
                try clear hfz73_3
                try clear hfz73_4
                try clear hfz73_5
                try clear hfz73_6
                try clear hfz73_7
                try clear hfz78_0
                try clear hfz78_1
                try clear hfz78_2
                try clear hfz78_3
                try clear hfz78_4
                try clear hfz78_5
                try clear hfz78_6
                try clear hfz78_7
                try clear hfz79_0
                try clear hfz81_0
                try clear hfz82_0
                try clear hfz82_1
                try clear hfz82_2
                try clear hfz82_3
                try clear hfz82_4
                try clear hfz82_5
                try clear hfz82_6
                try clear hfz82_7
                try clear hfz87_0
                try clear hfz87_1
                try clear hfz87_2
                try clear hfz87_3
                try clear hfz87_4
                try clear hfz87_5
                try clear hfz87_6
                try clear hfz87_7
                try clear hfz88_0
                try clear hfz90_0
                try clear hfz91_0
                try clear hfz91_1
                try clear hfz91_2
                try clear hfz91_3
                try clear hfz91_4
                try clear hfz91_5
                try clear hfz91_6
                try clear hfz91_7
                try clear hx512_0
                try clear hx512_1
                try clear hx512_2
                try clear hx512_3
                try clear hx512_4
                try clear hx512_5
                try clear hx512_6
                try clear hx512_7
                try clear p2
                try clear p512
                try clear p6
                try clear q512
                obtain ⟨x18_2, rfl, HA, HK2, HO_8, BK502, HB⟩ := hrel
                cases gk with
                | zero => exact absurd HA.out (by simp [crossbarlaw27_MeterRecordsHaveConstantRate.l1])
                | succ k2 =>
                  have H := HA.out
                  clear HA
                  simp only [crossbarlaw27_MeterRecordsHaveConstantRate.l1] at H
                  by_cases c94 : x18_2 < (t505.length : Int)
                  · rw [if_pos c94] at H
                    have c94b0 : decide (x18_2 < (t505.length : Int)) = true := decide_eq_true c94
                    clear c94
                    by_cases c95 : 0 ≤ x18_2
                    · rw [if_pos c95] at H
                      have c95b0 : decide (0 ≤ x18_2) = true := decide_eq_true c95
                      clear c95
                      replace H := Option.bind_eq_some_iff.mp H
                      obtain ⟨⟨t520, t521, t522⟩, A960, H⟩ := H
                      replace H : (if t522 = 0 then (if t521 = true then (if t520 ≤ a2 then (some false) else (crossbarlaw27_MeterRecordsHaveConstantRate.l1 k2 l0 a2 t505 (wrap64 (x18_2 + 1)) l1_0)) else (crossbarlaw27_MeterRecordsHaveConstantRate.l1 k2 l0 a2 t505 (wrap64 (x18_2 + 1)) l1_0)) else (some false)) = some r := H
                      have A96 := Aside0.mk A960
                      clear A960
                      by_cases c97 : t522 = 0
                      · rw [if_pos c97] at H
                        have c97b0 : (t522 == 0) = true := beq_iff_eq.mpr c97
                        have c97b1 : (t522 != 0) = false := bne_eq_false_iff_eq.mpr c97
                        clear c97
                        by_cases c98 : t521 = true
                        · subst c98
                          have H1 : (if t520 ≤ a2 then (some false) else (crossbarlaw27_MeterRecordsHaveConstantRate.l1 k2 l0 a2 t505 (wrap64 (x18_2 + 1)) l1_0)) = some r := by rw [if_pos rfl] at H; exact H
                          clear H
                          have H := H1
                          clear H1
                          by_cases c99 : t520 ≤ a2
                          · rw [if_pos c99] at H
                            have c99b0 : decide (t520 ≤ a2) = true := decide_eq_true c99
                            clear c99
                            obtain rfl := Option.some.inj H
                            obtain ⟨Ao100, co100, eo100⟩ := Kd.V_slice HO_8.out
                            subst eo100
                            try go_wp2
                            have n0_ := Aside0.mk (Kd.V_drew HO_8.out)
                            have n1_ := Aside0.mk (blk_drew BK502.out)
                            have n2_ := Aside0.mk (below_drew1 HB.out)
                            clear HO_8
                            clear BK502
                            clear HB
                            have HO_8 := n0_
                            have BK502 := n1_
                            have HB := n2_
                            clear n0_ n1_ n2_
                            have p519 : 0 ≤ (x18_2 : Int) := of_decide_eq_true (by first | (with_reducible assumption) | assumption)
                            have q519 : x18_2 < (t505.length : Int) := of_decide_eq_true (by first | (with_reducible assumption) | assumption)
                            obtain ⟨ad519, e519, hx519_0, hx519_1, hx519_2, hx519_3, hx519_4⟩ := at_T33 (Kd.V_reads' HO_8.out).2.2 x18_2 p519 q519
                            cases e519
                            replace p519 := eq_true p519
                            replace q519 := eq_true q519
                            refine start_ (n := 14) (S := fun w' => w'.cell? ⟨gb502, 0, none⟩ = some (.slice A1_0 l1_0.length c1_0) ∧ w'.cell? (ad519.add ((x18_2).toNat * 5)) = some (.int .i64 ((rd_T33 t505 x18_2).f0)) ∧ w'.cell? ⟨(ad519.add ((x18_2).toNat * 5)).block, (ad519.add ((x18_2).toNat * 5)).off + 1, none⟩ = some (.int .i64 ((rd_T33 t505 x18_2).f1)) ∧ w'.cell? ⟨(ad519.add ((x18_2).toNat * 5)).block, (ad519.add ((x18_2).toNat * 5)).off + 2, none⟩ = some (.int .i64 ((rd_T33 t505 x18_2).f2)) ∧ w'.cell? ⟨(ad519.add ((x18_2).toNat * 5)).block, (ad519.add ((x18_2).toNat * 5)).off + 3, none⟩ = some (.string ((rd_T33 t505 x18_2).f3)) ∧ w'.cell? ⟨(ad519.add ((x18_2).toNat * 5)).block, (ad519.add ((x18_2).toNat * 5)).off + 4, none⟩ = some (.int .i64 ((rd_T33 t505 x18_2).f4))) (ds := []) #[false, false, false, false, false, false, false, false, false, false, false, false, false, false] (by kernel_rfl) rfl rfl ⟨(blk_cell BK502.out 0).trans rfl, hx519_0, hx519_1, hx519_2, hx519_3, hx519_4⟩ (fun hHeld => ?_); refine with_tabW crossbarlaw27_MeterRecordsHaveConstantRate.tab20 crossbarlaw27_MeterRecordsHaveConstantRate.bits20 (fun HT_ HW_ => ?_)
                            generalize wr.drew = w101 at HO_8 BK502 HB hx519_0 hx519_1 hx519_2 hx519_3 hx519_4 hHeld ⊢
                            refine pure_ (i := 1) (N := some 115) (v := ?_) (a' := ?_) #[false, true, false, false, false, false, false, false, false, false, false, false, false, false] rfl rfl (any_of HT_.out (by kernel_rfl)) (fun _ _ _ h => h) (Or.inl ⟨by rfl, ?_⟩) ?_ ?_
                            rotate_left
                            · intro w'
                              go_simp
                              with_reducible rfl
                            rotate_left
                            · simp only [Act.put, List.setIfInBounds_toArray, List.set_cons_zero, List.set_cons_succ, i64_w, i32_w]
                              rfl
                            refine pure_ (i := 2) (N := some 116) (v := ?_) (a' := ?_) #[false, true, true, false, false, false, false, false, false, false, false, false, false, false] rfl rfl (any_of HT_.out (by kernel_rfl)) (fun _ _ _ h => h) (Or.inl ⟨by rfl, ?_⟩) ?_ ?_
                            rotate_left
                            · intro w'
                              go_simp
                              with_reducible rfl
                            rotate_left
                            · simp only [Act.put, List.setIfInBounds_toArray, List.set_cons_zero, List.set_cons_succ, i64_w, i32_w]
                              rfl
                            refine pure_ (i := 3) (N := some 117) (v := ?_) (a' := ?_) #[false, true, true, true, false, false, false, false, false, false, false, false, false, false] rfl rfl (any_of HT_.out (by kernel_rfl)) (fun _ _ _ h => h) (Or.inl ⟨by rfl, ?_⟩) ?_ ?_
                            rotate_left
                            · intro w'
                              go_simp
                              with_reducible rfl
                            rotate_left
                            · simp only [Act.put, List.setIfInBounds_toArray, List.set_cons_zero, List.set_cons_succ, i64_w, i32_w]
                              rfl
                            refine pure_ (i := 4) (N := some 118) (v := ?_) (a' := ?_) #[false, true, true, true, true, false, false, false, false, false, false, false, false, false] rfl rfl (any_of HT_.out (by kernel_rfl)) (fun _ _ _ h => h) (Or.inl ⟨by rfl, ?_⟩) ?_ ?_
                            rotate_left
                            · intro w'
                              go_simp
                              with_reducible rfl
                            rotate_left
                            · simp only [Act.put, List.setIfInBounds_toArray, List.set_cons_zero, List.set_cons_succ, i64_w, i32_w]
                              rfl
                            refine take_ (i := 0) (N := some 114) (v := ?_) (a' := ?_) #[true, true, true, true, true, false, false, false, false, false, false, false, false, false] rfl rfl (take_ofW HT_.out HW_.out (by kernel_rfl)) (fun _ _ _ h => h) (Or.inl ⟨by rfl, ?_⟩) hHeld ?_ ?_
                            rotate_left
                            · rintro w' ⟨s0, s1, s2, s3, s4, s5⟩
                              go_simp
                              with_reducible rfl
                            rotate_left
                            · simp only [Act.put, List.setIfInBounds_toArray, List.set_cons_zero, List.set_cons_succ, i64_w, i32_w]
                              rfl
                            refine take_ (i := 5) (N := some 119) (v := ?_) (a' := ?_) #[true, true, true, true, true, true, false, false, false, false, false, false, false, false] rfl rfl (take_ofW HT_.out HW_.out (by kernel_rfl)) (fun _ _ _ h => h) (Or.inl ⟨by rfl, ?_⟩) hHeld ?_ ?_
                            rotate_left
                            · rintro w' ⟨s0, s1, s2, s3, s4, s5⟩
                              go_simp
                              with_reducible rfl
                            rotate_left
                            · simp only [Act.put, List.setIfInBounds_toArray, List.set_cons_zero, List.set_cons_succ, i64_w, i32_w]
                              rfl
                            refine one_ (i := 6) (N := some 120) #[true, true, true, true, true, true, true, false, false, false, false, false, false, false] rfl rfl (one_of HT_.out (by kernel_rfl)) (by decide) (fun K hK => ?_)
                            refine goes_ Try.func32 (by kernel_rfl) rfl #[.agg #[.slice A1_0 l1_0.length c1_0], .int .i64 ((rd_T33 t505 x18_2).f4)] (by rfl) rfl rfl (by (try simp only [List.map_toArray, List.map_cons, List.map_nil]); first | done | rfl | (simp only [List.length_drop, List.length_take]; rfl)) ?_
                            with_reducible refine (tariff_Change.calls k2 _ _ l1_0 ((rd_T33 t505 x18_2).f4) t520 true t522 _ ?side1 ?side2 A96.out).mono ?_
                            (case side1 => repeat (first | exact (Kd.C_below HR1_0.out HB.out) | (with_reducible refine Kd.C_alloc ?_ _) | (with_reducible refine Kd.C_drewN ?_ _) | (with_reducible refine Kd.C_drew ?_)))
                            (case side2 => exact HC1_0.out)
                            rintro e w102 ⟨rfl, hb⟩
                            have HS1_ := (hb.cell (World.block_lt_of_cell? _ _ (hHeld.2.1))).trans (hHeld.2.1)
                            have HS2_ := (hb.cell (World.block_lt_of_cell? _ _ (hHeld.2.2.1))).trans (hHeld.2.2.1)
                            have HS3_ := (hb.cell (World.block_lt_of_cell? _ _ (hHeld.2.2.2.1))).trans (hHeld.2.2.2.1)
                            have HS4_ := (hb.cell (World.block_lt_of_cell? _ _ (hHeld.2.2.2.2.1))).trans (hHeld.2.2.2.2.1)
                            have HS5_ := (hb.cell (World.block_lt_of_cell? _ _ (hHeld.2.2.2.2.2))).trans (hHeld.2.2.2.2.2)
                            refine ⟨_, rfl, ?_⟩
                            have n0_ := Aside0.mk (Kd.V_below (by (with_reducible repeat (first | apply Kd.V_alloc | apply Kd.V_drewN | apply Kd.V_drew)); exact HO_8.out) hb)
                            have n1_ := Aside0.mk (blk_below (g := gb502) (o := .cells #[.slice A1_0 l1_0.length c1_0] 25 (0, 0)) (by (with_reducible repeat (first | refine blk_drewN ?_ _ | refine blk_drew ?_ | refine blk_alloc ?_ _)); exact BK502.out) hb)
                            have n2_ := Aside0.mk (below_step (by repeat (first | (with_reducible first | exact HB.out | apply below_alloc | apply pw_below_drewN | apply below_drew1 | refine below_set ?_ GE502.out) | exact HB.out)) hb)
                            clear HO_8
                            clear BK502
                            clear HB
                            have HO_8 := n0_
                            have BK502 := n1_
                            have HB := n2_
                            clear n0_ n1_ n2_
                            (try clear hb)
                            (try clear hb2)
                            (try clear hk)
                            (try clear hi)
                            refine hK.out _ _ ⟨(blk_cell BK502.out 0).trans rfl, HS1_, HS2_, HS3_, HS4_, HS5_⟩ (fun hHeld => ?_)
                            clear hK K
                            refine norm_ (a' := ?_) ?_ ?_
                            rotate_left
                            · show Act.put _ (some 120) _ = _
                              simp only [Act.put, List.setIfInBounds_toArray, List.set_cons_zero, List.set_cons_succ, i64_w, i32_w]
                              rfl
                            refine pure_ (i := 7) (N := some 113) (v := ?_) (a' := ?_) #[true, true, true, true, true, true, true, true, false, false, false, false, false, false] rfl rfl (any_of HT_.out (by kernel_rfl)) (fun _ _ _ h => h) (Or.inl ⟨by rfl, ?_⟩) ?_ ?_
                            rotate_left
                            · intro w'
                              go_simp
                              with_reducible rfl
                            rotate_left
                            · simp only [Act.put, List.setIfInBounds_toArray, List.set_cons_zero, List.set_cons_succ, i64_w, i32_w]
                              rfl
                            refine pure_ (i := 8) (N := some 121) (v := ?_) (a' := ?_) #[true, true, true, true, true, true, true, true, true, false, false, false, false, false] rfl rfl (any_of HT_.out (by kernel_rfl)) (fun _ _ _ h => h) (Or.inl ⟨by rfl, ?_⟩) ?_ ?_
                            rotate_left
                            · intro w'
                              go_simp
                              with_reducible rfl
                            rotate_left
                            · simp only [Act.put, List.setIfInBounds_toArray, List.set_cons_zero, List.set_cons_succ, i64_w, i32_w]
                              rfl
                            refine pure_ (i := 9) (N := some 122) (v := ?_) (a' := ?_) #[true, true, true, true, true, true, true, true, true, true, false, false, false, false] rfl rfl (any_of HT_.out (by kernel_rfl)) (fun _ _ _ h => h) (Or.inl ⟨by rfl, ?_⟩) ?_ ?_
                            rotate_left
                            · intro w'
                              go_simp
                              with_reducible rfl
                            rotate_left
                            · simp only [Act.put, List.setIfInBounds_toArray, List.set_cons_zero, List.set_cons_succ, i64_w, i32_w]
                              rfl
                            refine pure_ (i := 10) (N := some 123) (v := ?_) (a' := ?_) #[true, true, true, true, true, true, true, true, true, true, true, false, false, false] rfl rfl (any_of HT_.out (by kernel_rfl)) (fun _ _ _ h => h) (Or.inl ⟨by rfl, ?_⟩) ?_ ?_
                            rotate_left
                            · intro w'
                              go_simp
                              with_reducible rfl
                            rotate_left
                            · simp only [Act.put, List.setIfInBounds_toArray, List.set_cons_zero, List.set_cons_succ, i64_w, i32_w]
                              rfl
                            refine pure_ (i := 11) (N := some 19) (v := ?_) (a' := ?_) #[true, true, true, true, true, true, true, true, true, true, true, true, false, false] rfl rfl (any_of HT_.out (by kernel_rfl)) (fun _ _ _ h => h) (Or.inl ⟨by rfl, ?_⟩) ?_ ?_
                            rotate_left
                            · intro w'
                              go_simp
                              with_reducible rfl
                            rotate_left
                            · simp only [Act.put, List.setIfInBounds_toArray, List.set_cons_zero, List.set_cons_succ, i64_w, i32_w]
                              rfl
                            refine pure_ (i := 12) (N := some 20) (v := ?_) (a' := ?_) #[true, true, true, true, true, true, true, true, true, true, true, true, true, false] rfl rfl (any_of HT_.out (by kernel_rfl)) (fun _ _ _ h => h) (Or.inl ⟨by rfl, ?_⟩) ?_ ?_
                            rotate_left
                            · intro w'
                              go_simp
                              with_reducible rfl
                            rotate_left
                            · simp only [Act.put, List.setIfInBounds_toArray, List.set_cons_zero, List.set_cons_succ, i64_w, i32_w]
                              rfl
                            refine pure_ (i := 13) (N := some 21) (v := ?_) (a' := ?_) #[true, true, true, true, true, true, true, true, true, true, true, true, true, true] rfl rfl (any_of HT_.out (by kernel_rfl)) (fun _ _ _ h => h) (Or.inl ⟨by rfl, ?_⟩) ?_ ?_
                            rotate_left
                            · intro w'
                              go_simp
                              with_reducible rfl
                            rotate_left
                            · simp only [Act.put, List.setIfInBounds_toArray, List.set_cons_zero, List.set_cons_succ, i64_w, i32_w]
                              rfl
                            refine done_ (done_of HT_.out (by kernel_rfl)) ?_
                            try go_wp2
                            go_ret
                            exact ⟨by first | rfl | (simp [errW_none, errW_some] <;> rfl) | (simp [*, errW_none, errW_some] <;> rfl), by repeat (first | (with_reducible first | exact HB.out | apply below_alloc | apply pw_below_drewN | apply below_drew1 | refine below_set ?_ GE502.out) | exact HB.out)⟩
                          · rw [if_neg c99] at H
                            have c99b0 : decide (t520 ≤ a2) = false := decide_eq_false c99
                            clear c99
                            have H' := Aside0.mk H
                            clear H
                            obtain ⟨Ao103, co103, eo103⟩ := Kd.V_slice HO_8.out
                            subst eo103
                            try go_wp2
                            have n0_ := Aside0.mk (Kd.V_drew HO_8.out)
                            have n1_ := Aside0.mk (blk_drew BK502.out)
                            have n2_ := Aside0.mk (below_drew1 HB.out)
                            clear HO_8
                            clear BK502
                            clear HB
                            have HO_8 := n0_
                            have BK502 := n1_
                            have HB := n2_
                            clear n0_ n1_ n2_
                            have p519 : 0 ≤ (x18_2 : Int) := of_decide_eq_true (by first | (with_reducible assumption) | assumption)
                            have q519 : x18_2 < (t505.length : Int) := of_decide_eq_true (by first | (with_reducible assumption) | assumption)
                            obtain ⟨ad519, e519, hx519_0, hx519_1, hx519_2, hx519_3, hx519_4⟩ := at_T33 (Kd.V_reads' HO_8.out).2.2 x18_2 p519 q519
                            cases e519
                            replace p519 := eq_true p519
                            replace q519 := eq_true q519
                            refine start_ (n := 14) (S := fun w' => w'.cell? ⟨gb502, 0, none⟩ = some (.slice A1_0 l1_0.length c1_0) ∧ w'.cell? (ad519.add ((x18_2).toNat * 5)) = some (.int .i64 ((rd_T33 t505 x18_2).f0)) ∧ w'.cell? ⟨(ad519.add ((x18_2).toNat * 5)).block, (ad519.add ((x18_2).toNat * 5)).off + 1, none⟩ = some (.int .i64 ((rd_T33 t505 x18_2).f1)) ∧ w'.cell? ⟨(ad519.add ((x18_2).toNat * 5)).block, (ad519.add ((x18_2).toNat * 5)).off + 2, none⟩ = some (.int .i64 ((rd_T33 t505 x18_2).f2)) ∧ w'.cell? ⟨(ad519.add ((x18_2).toNat * 5)).block, (ad519.add ((x18_2).toNat * 5)).off + 3, none⟩ = some (.string ((rd_T33 t505 x18_2).f3)) ∧ w'.cell? ⟨(ad519.add ((x18_2).toNat * 5)).block, (ad519.add ((x18_2).toNat * 5)).off + 4, none⟩ = some (.int .i64 ((rd_T33 t505 x18_2).f4))) (ds := []) #[false, false, false, false, false, false, false, false, false, false, false, false, false, false] (by kernel_rfl) rfl rfl ⟨(blk_cell BK502.out 0).trans rfl, hx519_0, hx519_1, hx519_2, hx519_3, hx519_4⟩ (fun hHeld => ?_); refine with_tabW crossbarlaw27_MeterRecordsHaveConstantRate.tab20 crossbarlaw27_MeterRecordsHaveConstantRate.bits20 (fun HT_ HW_ => ?_)
                            generalize wr.drew = w104 at HO_8 BK502 HB hx519_0 hx519_1 hx519_2 hx519_3 hx519_4 hHeld ⊢
                            refine pure_ (i := 1) (N := some 115) (v := ?_) (a' := ?_) #[false, true, false, false, false, false, false, false, false, false, false, false, false, false] rfl rfl (any_of HT_.out (by kernel_rfl)) (fun _ _ _ h => h) (Or.inl ⟨by rfl, ?_⟩) ?_ ?_
                            rotate_left
                            · intro w'
                              go_simp
                              with_reducible rfl
                            rotate_left
                            · simp only [Act.put, List.setIfInBounds_toArray, List.set_cons_zero, List.set_cons_succ, i64_w, i32_w]
                              rfl
                            refine pure_ (i := 2) (N := some 116) (v := ?_) (a' := ?_) #[false, true, true, false, false, false, false, false, false, false, false, false, false, false] rfl rfl (any_of HT_.out (by kernel_rfl)) (fun _ _ _ h => h) (Or.inl ⟨by rfl, ?_⟩) ?_ ?_
                            rotate_left
                            · intro w'
                              go_simp
                              with_reducible rfl
                            rotate_left
                            · simp only [Act.put, List.setIfInBounds_toArray, List.set_cons_zero, List.set_cons_succ, i64_w, i32_w]
                              rfl
                            refine pure_ (i := 3) (N := some 117) (v := ?_) (a' := ?_) #[false, true, true, true, false, false, false, false, false, false, false, false, false, false] rfl rfl (any_of HT_.out (by kernel_rfl)) (fun _ _ _ h => h) (Or.inl ⟨by rfl, ?_⟩) ?_ ?_
                            rotate_left
                            · intro w'
                              go_simp
                              with_reducible rfl
                            rotate_left
                            · simp only [Act.put, List.setIfInBounds_toArray, List.set_cons_zero, List.set_cons_succ, i64_w, i32_w]
                              rfl
                            refine pure_ (i := 4) (N := some 118) (v := ?_) (a' := ?_) #[false, true, true, true, true, false, false, false, false, false, false, false, false, false] rfl rfl (any_of HT_.out (by kernel_rfl)) (fun _ _ _ h => h) (Or.inl ⟨by rfl, ?_⟩) ?_ ?_
                            rotate_left
                            · intro w'
                              go_simp
                              with_reducible rfl
                            rotate_left
                            · simp only [Act.put, List.setIfInBounds_toArray, List.set_cons_zero, List.set_cons_succ, i64_w, i32_w]
                              rfl
                            refine take_ (i := 0) (N := some 114) (v := ?_) (a' := ?_) #[true, true, true, true, true, false, false, false, false, false, false, false, false, false] rfl rfl (take_ofW HT_.out HW_.out (by kernel_rfl)) (fun _ _ _ h => h) (Or.inl ⟨by rfl, ?_⟩) hHeld ?_ ?_
                            rotate_left
                            · rintro w' ⟨s0, s1, s2, s3, s4, s5⟩
                              go_simp
                              with_reducible rfl
                            rotate_left
                            · simp only [Act.put, List.setIfInBounds_toArray, List.set_cons_zero, List.set_cons_succ, i64_w, i32_w]
                              rfl
                            refine take_ (i := 5) (N := some 119) (v := ?_) (a' := ?_) #[true, true, true, true, true, true, false, false, false, false, false, false, false, false] rfl rfl (take_ofW HT_.out HW_.out (by kernel_rfl)) (fun _ _ _ h => h) (Or.inl ⟨by rfl, ?_⟩) hHeld ?_ ?_
                            rotate_left
                            · rintro w' ⟨s0, s1, s2, s3, s4, s5⟩
                              go_simp
                              with_reducible rfl
                            rotate_left
                            · simp only [Act.put, List.setIfInBounds_toArray, List.set_cons_zero, List.set_cons_succ, i64_w, i32_w]
                              rfl
                            refine one_ (i := 6) (N := some 120) #[true, true, true, true, true, true, true, false, false, false, false, false, false, false] rfl rfl (one_of HT_.out (by kernel_rfl)) (by decide) (fun K hK => ?_)
                            refine goes_ Try.func32 (by kernel_rfl) rfl #[.agg #[.slice A1_0 l1_0.length c1_0], .int .i64 ((rd_T33 t505 x18_2).f4)] (by rfl) rfl rfl (by (try simp only [List.map_toArray, List.map_cons, List.map_nil]); first | done | rfl | (simp only [List.length_drop, List.length_take]; rfl)) ?_
                            with_reducible refine (tariff_Change.calls k2 _ _ l1_0 ((rd_T33 t505 x18_2).f4) t520 true t522 _ ?side1 ?side2 A96.out).mono ?_
                            (case side1 => repeat (first | exact (Kd.C_below HR1_0.out HB.out) | (with_reducible refine Kd.C_alloc ?_ _) | (with_reducible refine Kd.C_drewN ?_ _) | (with_reducible refine Kd.C_drew ?_)))
                            (case side2 => exact HC1_0.out)
                            rintro e w105 ⟨rfl, hb⟩
                            have HS1_ := (hb.cell (World.block_lt_of_cell? _ _ (hHeld.2.1))).trans (hHeld.2.1)
                            have HS2_ := (hb.cell (World.block_lt_of_cell? _ _ (hHeld.2.2.1))).trans (hHeld.2.2.1)
                            have HS3_ := (hb.cell (World.block_lt_of_cell? _ _ (hHeld.2.2.2.1))).trans (hHeld.2.2.2.1)
                            have HS4_ := (hb.cell (World.block_lt_of_cell? _ _ (hHeld.2.2.2.2.1))).trans (hHeld.2.2.2.2.1)
                            have HS5_ := (hb.cell (World.block_lt_of_cell? _ _ (hHeld.2.2.2.2.2))).trans (hHeld.2.2.2.2.2)
                            refine ⟨_, rfl, ?_⟩
                            have n0_ := Aside0.mk (Kd.V_below (by (with_reducible repeat (first | apply Kd.V_alloc | apply Kd.V_drewN | apply Kd.V_drew)); exact HO_8.out) hb)
                            have n1_ := Aside0.mk (blk_below (g := gb502) (o := .cells #[.slice A1_0 l1_0.length c1_0] 25 (0, 0)) (by (with_reducible repeat (first | refine blk_drewN ?_ _ | refine blk_drew ?_ | refine blk_alloc ?_ _)); exact BK502.out) hb)
                            have n2_ := Aside0.mk (below_step (by repeat (first | (with_reducible first | exact HB.out | apply below_alloc | apply pw_below_drewN | apply below_drew1 | refine below_set ?_ GE502.out) | exact HB.out)) hb)
                            clear HO_8
                            clear BK502
                            clear HB
                            have HO_8 := n0_
                            have BK502 := n1_
                            have HB := n2_
                            clear n0_ n1_ n2_
                            (try clear hb)
                            (try clear hb2)
                            (try clear hk)
                            (try clear hi)
                            refine hK.out _ _ ⟨(blk_cell BK502.out 0).trans rfl, HS1_, HS2_, HS3_, HS4_, HS5_⟩ (fun hHeld => ?_)
                            clear hK K
                            refine norm_ (a' := ?_) ?_ ?_
                            rotate_left
                            · show Act.put _ (some 120) _ = _
                              simp only [Act.put, List.setIfInBounds_toArray, List.set_cons_zero, List.set_cons_succ, i64_w, i32_w]
                              rfl
                            refine pure_ (i := 7) (N := some 113) (v := ?_) (a' := ?_) #[true, true, true, true, true, true, true, true, false, false, false, false, false, false] rfl rfl (any_of HT_.out (by kernel_rfl)) (fun _ _ _ h => h) (Or.inl ⟨by rfl, ?_⟩) ?_ ?_
                            rotate_left
                            · intro w'
                              go_simp
                              with_reducible rfl
                            rotate_left
                            · simp only [Act.put, List.setIfInBounds_toArray, List.set_cons_zero, List.set_cons_succ, i64_w, i32_w]
                              rfl
                            refine pure_ (i := 8) (N := some 121) (v := ?_) (a' := ?_) #[true, true, true, true, true, true, true, true, true, false, false, false, false, false] rfl rfl (any_of HT_.out (by kernel_rfl)) (fun _ _ _ h => h) (Or.inl ⟨by rfl, ?_⟩) ?_ ?_
                            rotate_left
                            · intro w'
                              go_simp
                              with_reducible rfl
                            rotate_left
                            · simp only [Act.put, List.setIfInBounds_toArray, List.set_cons_zero, List.set_cons_succ, i64_w, i32_w]
                              rfl
                            refine pure_ (i := 9) (N := some 122) (v := ?_) (a' := ?_) #[true, true, true, true, true, true, true, true, true, true, false, false, false, false] rfl rfl (any_of HT_.out (by kernel_rfl)) (fun _ _ _ h => h) (Or.inl ⟨by rfl, ?_⟩) ?_ ?_
                            rotate_left
                            · intro w'
                              go_simp
                              with_reducible rfl
                            rotate_left
                            · simp only [Act.put, List.setIfInBounds_toArray, List.set_cons_zero, List.set_cons_succ, i64_w, i32_w]
                              rfl
                            refine pure_ (i := 10) (N := some 123) (v := ?_) (a' := ?_) #[true, true, true, true, true, true, true, true, true, true, true, false, false, false] rfl rfl (any_of HT_.out (by kernel_rfl)) (fun _ _ _ h => h) (Or.inl ⟨by rfl, ?_⟩) ?_ ?_
                            rotate_left
                            · intro w'
                              go_simp
                              with_reducible rfl
                            rotate_left
                            · simp only [Act.put, List.setIfInBounds_toArray, List.set_cons_zero, List.set_cons_succ, i64_w, i32_w]
                              rfl
                            refine pure_ (i := 11) (N := some 19) (v := ?_) (a' := ?_) #[true, true, true, true, true, true, true, true, true, true, true, true, false, false] rfl rfl (any_of HT_.out (by kernel_rfl)) (fun _ _ _ h => h) (Or.inl ⟨by rfl, ?_⟩) ?_ ?_
                            rotate_left
                            · intro w'
                              go_simp
                              with_reducible rfl
                            rotate_left
                            · simp only [Act.put, List.setIfInBounds_toArray, List.set_cons_zero, List.set_cons_succ, i64_w, i32_w]
                              rfl
                            refine pure_ (i := 12) (N := some 20) (v := ?_) (a' := ?_) #[true, true, true, true, true, true, true, true, true, true, true, true, true, false] rfl rfl (any_of HT_.out (by kernel_rfl)) (fun _ _ _ h => h) (Or.inl ⟨by rfl, ?_⟩) ?_ ?_
                            rotate_left
                            · intro w'
                              go_simp
                              with_reducible rfl
                            rotate_left
                            · simp only [Act.put, List.setIfInBounds_toArray, List.set_cons_zero, List.set_cons_succ, i64_w, i32_w]
                              rfl
                            refine pure_ (i := 13) (N := some 21) (v := ?_) (a' := ?_) #[true, true, true, true, true, true, true, true, true, true, true, true, true, true] rfl rfl (any_of HT_.out (by kernel_rfl)) (fun _ _ _ h => h) (Or.inl ⟨by rfl, ?_⟩) ?_ ?_
                            rotate_left
                            · intro w'
                              go_simp
                              with_reducible rfl
                            rotate_left
                            · simp only [Act.put, List.setIfInBounds_toArray, List.set_cons_zero, List.set_cons_succ, i64_w, i32_w]
                              rfl
                            refine done_ (done_of HT_.out (by kernel_rfl)) ?_
                            try go_wp2
                            go_roundg k2
                            case measure => have := HK1.out; have := HK2.out; omega
                            case rel => exact ⟨(wrap64 (x18_2 + 1)), (by first | rfl | (simp; done) | (simp [*]; done)), H', ⟨by have := HK1.out; have := HK2.out; omega⟩, ⟨by (with_reducible repeat (first | apply Kd.V_alloc | apply Kd.V_drewN | apply Kd.V_drew)); exact HO_8.out⟩, ⟨by (with_reducible repeat (first | refine blk_drewN ?_ _ | refine blk_drew ?_ | refine blk_alloc ?_ _)); exact BK502.out⟩, ⟨by repeat (first | (with_reducible first | exact HB.out | apply below_alloc | apply pw_below_drewN | apply below_drew1 | refine below_set ?_ GE502.out) | exact HB.out)⟩⟩
                        · replace c98 := Bool.eq_false_iff.mpr c98
                          subst c98
                          have H1 : (crossbarlaw27_MeterRecordsHaveConstantRate.l1 k2 l0 a2 t505 (wrap64 (x18_2 + 1)) l1_0) = some r := by rw [if_neg (show ¬ (false = true) by decide)] at H; exact H
                          clear H
                          have H := H1
                          clear H1
                          have H' := Aside0.mk H
                          clear H
                          obtain ⟨Ao106, co106, eo106⟩ := Kd.V_slice HO_8.out
                          subst eo106
                          try go_wp2
                          have n0_ := Aside0.mk (Kd.V_drew HO_8.out)
                          have n1_ := Aside0.mk (blk_drew BK502.out)
                          have n2_ := Aside0.mk (below_drew1 HB.out)
                          clear HO_8
                          clear BK502
                          clear HB
                          have HO_8 := n0_
                          have BK502 := n1_
                          have HB := n2_
                          clear n0_ n1_ n2_
                          have p519 : 0 ≤ (x18_2 : Int) := of_decide_eq_true (by first | (with_reducible assumption) | assumption)
                          have q519 : x18_2 < (t505.length : Int) := of_decide_eq_true (by first | (with_reducible assumption) | assumption)
                          obtain ⟨ad519, e519, hx519_0, hx519_1, hx519_2, hx519_3, hx519_4⟩ := at_T33 (Kd.V_reads' HO_8.out).2.2 x18_2 p519 q519
                          cases e519
                          replace p519 := eq_true p519
                          replace q519 := eq_true q519
                          refine start_ (n := 14) (S := fun w' => w'.cell? ⟨gb502, 0, none⟩ = some (.slice A1_0 l1_0.length c1_0) ∧ w'.cell? (ad519.add ((x18_2).toNat * 5)) = some (.int .i64 ((rd_T33 t505 x18_2).f0)) ∧ w'.cell? ⟨(ad519.add ((x18_2).toNat * 5)).block, (ad519.add ((x18_2).toNat * 5)).off + 1, none⟩ = some (.int .i64 ((rd_T33 t505 x18_2).f1)) ∧ w'.cell? ⟨(ad519.add ((x18_2).toNat * 5)).block, (ad519.add ((x18_2).toNat * 5)).off + 2, none⟩ = some (.int .i64 ((rd_T33 t505 x18_2).f2)) ∧ w'.cell? ⟨(ad519.add ((x18_2).toNat * 5)).block, (ad519.add ((x18_2).toNat * 5)).off + 3, none⟩ = some (.string ((rd_T33 t505 x18_2).f3)) ∧ w'.cell? ⟨(ad519.add ((x18_2).toNat * 5)).block, (ad519.add ((x18_2).toNat * 5)).off + 4, none⟩ = some (.int .i64 ((rd_T33 t505 x18_2).f4))) (ds := []) #[false, false, false, false, false, false, false, false, false, false, false, false, false, false] (by kernel_rfl) rfl rfl ⟨(blk_cell BK502.out 0).trans rfl, hx519_0, hx519_1, hx519_2, hx519_3, hx519_4⟩ (fun hHeld => ?_); refine with_tabW crossbarlaw27_MeterRecordsHaveConstantRate.tab20 crossbarlaw27_MeterRecordsHaveConstantRate.bits20 (fun HT_ HW_ => ?_)
                          generalize wr.drew = w107 at HO_8 BK502 HB hx519_0 hx519_1 hx519_2 hx519_3 hx519_4 hHeld ⊢
                          refine pure_ (i := 1) (N := some 115) (v := ?_) (a' := ?_) #[false, true, false, false, false, false, false, false, false, false, false, false, false, false] rfl rfl (any_of HT_.out (by kernel_rfl)) (fun _ _ _ h => h) (Or.inl ⟨by rfl, ?_⟩) ?_ ?_
                          rotate_left
                          · intro w'
                            go_simp
                            with_reducible rfl
                          rotate_left
                          · simp only [Act.put, List.setIfInBounds_toArray, List.set_cons_zero, List.set_cons_succ, i64_w, i32_w]
                            rfl
                          refine pure_ (i := 2) (N := some 116) (v := ?_) (a' := ?_) #[false, true, true, false, false, false, false, false, false, false, false, false, false, false] rfl rfl (any_of HT_.out (by kernel_rfl)) (fun _ _ _ h => h) (Or.inl ⟨by rfl, ?_⟩) ?_ ?_
                          rotate_left
                          · intro w'
                            go_simp
                            with_reducible rfl
                          rotate_left
                          · simp only [Act.put, List.setIfInBounds_toArray, List.set_cons_zero, List.set_cons_succ, i64_w, i32_w]
                            rfl
                          refine pure_ (i := 3) (N := some 117) (v := ?_) (a' := ?_) #[false, true, true, true, false, false, false, false, false, false, false, false, false, false] rfl rfl (any_of HT_.out (by kernel_rfl)) (fun _ _ _ h => h) (Or.inl ⟨by rfl, ?_⟩) ?_ ?_
                          rotate_left
                          · intro w'
                            go_simp
                            with_reducible rfl
                          rotate_left
                          · simp only [Act.put, List.setIfInBounds_toArray, List.set_cons_zero, List.set_cons_succ, i64_w, i32_w]
                            rfl
                          refine pure_ (i := 4) (N := some 118) (v := ?_) (a' := ?_) #[false, true, true, true, true, false, false, false, false, false, false, false, false, false] rfl rfl (any_of HT_.out (by kernel_rfl)) (fun _ _ _ h => h) (Or.inl ⟨by rfl, ?_⟩) ?_ ?_
                          rotate_left
                          · intro w'
                            go_simp
                            with_reducible rfl
                          rotate_left
                          · simp only [Act.put, List.setIfInBounds_toArray, List.set_cons_zero, List.set_cons_succ, i64_w, i32_w]
                            rfl
                          refine take_ (i := 0) (N := some 114) (v := ?_) (a' := ?_) #[true, true, true, true, true, false, false, false, false, false, false, false, false, false] rfl rfl (take_ofW HT_.out HW_.out (by kernel_rfl)) (fun _ _ _ h => h) (Or.inl ⟨by rfl, ?_⟩) hHeld ?_ ?_
                          rotate_left
                          · rintro w' ⟨s0, s1, s2, s3, s4, s5⟩
                            go_simp
                            with_reducible rfl
                          rotate_left
                          · simp only [Act.put, List.setIfInBounds_toArray, List.set_cons_zero, List.set_cons_succ, i64_w, i32_w]
                            rfl
                          refine take_ (i := 5) (N := some 119) (v := ?_) (a' := ?_) #[true, true, true, true, true, true, false, false, false, false, false, false, false, false] rfl rfl (take_ofW HT_.out HW_.out (by kernel_rfl)) (fun _ _ _ h => h) (Or.inl ⟨by rfl, ?_⟩) hHeld ?_ ?_
                          rotate_left
                          · rintro w' ⟨s0, s1, s2, s3, s4, s5⟩
                            go_simp
                            with_reducible rfl
                          rotate_left
                          · simp only [Act.put, List.setIfInBounds_toArray, List.set_cons_zero, List.set_cons_succ, i64_w, i32_w]
                            rfl
                          refine one_ (i := 6) (N := some 120) #[true, true, true, true, true, true, true, false, false, false, false, false, false, false] rfl rfl (one_of HT_.out (by kernel_rfl)) (by decide) (fun K hK => ?_)
                          refine goes_ Try.func32 (by kernel_rfl) rfl #[.agg #[.slice A1_0 l1_0.length c1_0], .int .i64 ((rd_T33 t505 x18_2).f4)] (by rfl) rfl rfl (by (try simp only [List.map_toArray, List.map_cons, List.map_nil]); first | done | rfl | (simp only [List.length_drop, List.length_take]; rfl)) ?_
                          with_reducible refine (tariff_Change.calls k2 _ _ l1_0 ((rd_T33 t505 x18_2).f4) t520 false t522 _ ?side1 ?side2 A96.out).mono ?_
                          (case side1 => repeat (first | exact (Kd.C_below HR1_0.out HB.out) | (with_reducible refine Kd.C_alloc ?_ _) | (with_reducible refine Kd.C_drewN ?_ _) | (with_reducible refine Kd.C_drew ?_)))
                          (case side2 => exact HC1_0.out)
                          rintro e w108 ⟨rfl, hb⟩
                          have HS1_ := (hb.cell (World.block_lt_of_cell? _ _ (hHeld.2.1))).trans (hHeld.2.1)
                          have HS2_ := (hb.cell (World.block_lt_of_cell? _ _ (hHeld.2.2.1))).trans (hHeld.2.2.1)
                          have HS3_ := (hb.cell (World.block_lt_of_cell? _ _ (hHeld.2.2.2.1))).trans (hHeld.2.2.2.1)
                          have HS4_ := (hb.cell (World.block_lt_of_cell? _ _ (hHeld.2.2.2.2.1))).trans (hHeld.2.2.2.2.1)
                          have HS5_ := (hb.cell (World.block_lt_of_cell? _ _ (hHeld.2.2.2.2.2))).trans (hHeld.2.2.2.2.2)
                          refine ⟨_, rfl, ?_⟩
                          have n0_ := Aside0.mk (Kd.V_below (by (with_reducible repeat (first | apply Kd.V_alloc | apply Kd.V_drewN | apply Kd.V_drew)); exact HO_8.out) hb)
                          have n1_ := Aside0.mk (blk_below (g := gb502) (o := .cells #[.slice A1_0 l1_0.length c1_0] 25 (0, 0)) (by (with_reducible repeat (first | refine blk_drewN ?_ _ | refine blk_drew ?_ | refine blk_alloc ?_ _)); exact BK502.out) hb)
                          have n2_ := Aside0.mk (below_step (by repeat (first | (with_reducible first | exact HB.out | apply below_alloc | apply pw_below_drewN | apply below_drew1 | refine below_set ?_ GE502.out) | exact HB.out)) hb)
                          clear HO_8
                          clear BK502
                          clear HB
                          have HO_8 := n0_
                          have BK502 := n1_
                          have HB := n2_
                          clear n0_ n1_ n2_
                          (try clear hb)
                          (try clear hb2)
                          (try clear hk)
                          (try clear hi)
                          refine hK.out _ _ ⟨(blk_cell BK502.out 0).trans rfl, HS1_, HS2_, HS3_, HS4_, HS5_⟩ (fun hHeld => ?_)
                          clear hK K
                          refine norm_ (a' := ?_) ?_ ?_
                          rotate_left
                          · show Act.put _ (some 120) _ = _
                            simp only [Act.put, List.setIfInBounds_toArray, List.set_cons_zero, List.set_cons_succ, i64_w, i32_w]
                            rfl
                          refine pure_ (i := 7) (N := some 113) (v := ?_) (a' := ?_) #[true, true, true, true, true, true, true, true, false, false, false, false, false, false] rfl rfl (any_of HT_.out (by kernel_rfl)) (fun _ _ _ h => h) (Or.inl ⟨by rfl, ?_⟩) ?_ ?_
                          rotate_left
                          · intro w'
                            go_simp
                            with_reducible rfl
                          rotate_left
                          · simp only [Act.put, List.setIfInBounds_toArray, List.set_cons_zero, List.set_cons_succ, i64_w, i32_w]
                            rfl
                          refine pure_ (i := 8) (N := some 121) (v := ?_) (a' := ?_) #[true, true, true, true, true, true, true, true, true, false, false, false, false, false] rfl rfl (any_of HT_.out (by kernel_rfl)) (fun _ _ _ h => h) (Or.inl ⟨by rfl, ?_⟩) ?_ ?_
                          rotate_left
                          · intro w'
                            go_simp
                            with_reducible rfl
                          rotate_left
                          · simp only [Act.put, List.setIfInBounds_toArray, List.set_cons_zero, List.set_cons_succ, i64_w, i32_w]
                            rfl
                          refine pure_ (i := 9) (N := some 122) (v := ?_) (a' := ?_) #[true, true, true, true, true, true, true, true, true, true, false, false, false, false] rfl rfl (any_of HT_.out (by kernel_rfl)) (fun _ _ _ h => h) (Or.inl ⟨by rfl, ?_⟩) ?_ ?_
                          rotate_left
                          · intro w'
                            go_simp
                            with_reducible rfl
                          rotate_left
                          · simp only [Act.put, List.setIfInBounds_toArray, List.set_cons_zero, List.set_cons_succ, i64_w, i32_w]
                            rfl
                          refine pure_ (i := 10) (N := some 123) (v := ?_) (a' := ?_) #[true, true, true, true, true, true, true, true, true, true, true, false, false, false] rfl rfl (any_of HT_.out (by kernel_rfl)) (fun _ _ _ h => h) (Or.inl ⟨by rfl, ?_⟩) ?_ ?_
                          rotate_left
                          · intro w'
                            go_simp
                            with_reducible rfl
                          rotate_left
                          · simp only [Act.put, List.setIfInBounds_toArray, List.set_cons_zero, List.set_cons_succ, i64_w, i32_w]
                            rfl
                          refine pure_ (i := 11) (N := some 19) (v := ?_) (a' := ?_) #[true, true, true, true, true, true, true, true, true, true, true, true, false, false] rfl rfl (any_of HT_.out (by kernel_rfl)) (fun _ _ _ h => h) (Or.inl ⟨by rfl, ?_⟩) ?_ ?_
                          rotate_left
                          · intro w'
                            go_simp
                            with_reducible rfl
                          rotate_left
                          · simp only [Act.put, List.setIfInBounds_toArray, List.set_cons_zero, List.set_cons_succ, i64_w, i32_w]
                            rfl
                          refine pure_ (i := 12) (N := some 20) (v := ?_) (a' := ?_) #[true, true, true, true, true, true, true, true, true, true, true, true, true, false] rfl rfl (any_of HT_.out (by kernel_rfl)) (fun _ _ _ h => h) (Or.inl ⟨by rfl, ?_⟩) ?_ ?_
                          rotate_left
                          · intro w'
                            go_simp
                            with_reducible rfl
                          rotate_left
                          · simp only [Act.put, List.setIfInBounds_toArray, List.set_cons_zero, List.set_cons_succ, i64_w, i32_w]
                            rfl
                          refine pure_ (i := 13) (N := some 21) (v := ?_) (a' := ?_) #[true, true, true, true, true, true, true, true, true, true, true, true, true, true] rfl rfl (any_of HT_.out (by kernel_rfl)) (fun _ _ _ h => h) (Or.inl ⟨by rfl, ?_⟩) ?_ ?_
                          rotate_left
                          · intro w'
                            go_simp
                            with_reducible rfl
                          rotate_left
                          · simp only [Act.put, List.setIfInBounds_toArray, List.set_cons_zero, List.set_cons_succ, i64_w, i32_w]
                            rfl
                          refine done_ (done_of HT_.out (by kernel_rfl)) ?_
                          try go_wp2
                          go_roundg k2
                          case measure => have := HK1.out; have := HK2.out; omega
                          case rel => exact ⟨(wrap64 (x18_2 + 1)), (by first | rfl | (simp; done) | (simp [*]; done)), H', ⟨by have := HK1.out; have := HK2.out; omega⟩, ⟨by (with_reducible repeat (first | apply Kd.V_alloc | apply Kd.V_drewN | apply Kd.V_drew)); exact HO_8.out⟩, ⟨by (with_reducible repeat (first | refine blk_drewN ?_ _ | refine blk_drew ?_ | refine blk_alloc ?_ _)); exact BK502.out⟩, ⟨by repeat (first | (with_reducible first | exact HB.out | apply below_alloc | apply pw_below_drewN | apply below_drew1 | refine below_set ?_ GE502.out) | exact HB.out)⟩⟩
                      · rw [if_neg c97] at H
                        have c97b0 : (t522 == 0) = false := beq_eq_false_iff_ne.mpr c97
                        have c97b1 : (t522 != 0) = true := bne_iff_ne.mpr c97
                        obtain rfl := Option.some.inj H
                        obtain ⟨Ao109, co109, eo109⟩ := Kd.V_slice HO_8.out
                        subst eo109
                        try go_wp2
                        have n0_ := Aside0.mk (Kd.V_drew HO_8.out)
                        have n1_ := Aside0.mk (blk_drew BK502.out)
                        have n2_ := Aside0.mk (below_drew1 HB.out)
                        clear HO_8
                        clear BK502
                        clear HB
                        have HO_8 := n0_
                        have BK502 := n1_
                        have HB := n2_
                        clear n0_ n1_ n2_
                        have p519 : 0 ≤ (x18_2 : Int) := of_decide_eq_true (by first | (with_reducible assumption) | assumption)
                        have q519 : x18_2 < (t505.length : Int) := of_decide_eq_true (by first | (with_reducible assumption) | assumption)
                        obtain ⟨ad519, e519, hx519_0, hx519_1, hx519_2, hx519_3, hx519_4⟩ := at_T33 (Kd.V_reads' HO_8.out).2.2 x18_2 p519 q519
                        cases e519
                        replace p519 := eq_true p519
                        replace q519 := eq_true q519
                        refine start_ (n := 14) (S := fun w' => w'.cell? ⟨gb502, 0, none⟩ = some (.slice A1_0 l1_0.length c1_0) ∧ w'.cell? (ad519.add ((x18_2).toNat * 5)) = some (.int .i64 ((rd_T33 t505 x18_2).f0)) ∧ w'.cell? ⟨(ad519.add ((x18_2).toNat * 5)).block, (ad519.add ((x18_2).toNat * 5)).off + 1, none⟩ = some (.int .i64 ((rd_T33 t505 x18_2).f1)) ∧ w'.cell? ⟨(ad519.add ((x18_2).toNat * 5)).block, (ad519.add ((x18_2).toNat * 5)).off + 2, none⟩ = some (.int .i64 ((rd_T33 t505 x18_2).f2)) ∧ w'.cell? ⟨(ad519.add ((x18_2).toNat * 5)).block, (ad519.add ((x18_2).toNat * 5)).off + 3, none⟩ = some (.string ((rd_T33 t505 x18_2).f3)) ∧ w'.cell? ⟨(ad519.add ((x18_2).toNat * 5)).block, (ad519.add ((x18_2).toNat * 5)).off + 4, none⟩ = some (.int .i64 ((rd_T33 t505 x18_2).f4))) (ds := []) #[false, false, false, false, false, false, false, false, false, false, false, false, false, false] (by kernel_rfl) rfl rfl ⟨(blk_cell BK502.out 0).trans rfl, hx519_0, hx519_1, hx519_2, hx519_3, hx519_4⟩ (fun hHeld => ?_); refine with_tabW crossbarlaw27_MeterRecordsHaveConstantRate.tab20 crossbarlaw27_MeterRecordsHaveConstantRate.bits20 (fun HT_ HW_ => ?_)
                        generalize wr.drew = w110 at HO_8 BK502 HB hx519_0 hx519_1 hx519_2 hx519_3 hx519_4 hHeld ⊢
                        refine pure_ (i := 1) (N := some 115) (v := ?_) (a' := ?_) #[false, true, false, false, false, false, false, false, false, false, false, false, false, false] rfl rfl (any_of HT_.out (by kernel_rfl)) (fun _ _ _ h => h) (Or.inl ⟨by rfl, ?_⟩) ?_ ?_
                        rotate_left
                        · intro w'
                          go_simp
                          with_reducible rfl
                        rotate_left
                        · simp only [Act.put, List.setIfInBounds_toArray, List.set_cons_zero, List.set_cons_succ, i64_w, i32_w]
                          rfl
                        refine pure_ (i := 2) (N := some 116) (v := ?_) (a' := ?_) #[false, true, true, false, false, false, false, false, false, false, false, false, false, false] rfl rfl (any_of HT_.out (by kernel_rfl)) (fun _ _ _ h => h) (Or.inl ⟨by rfl, ?_⟩) ?_ ?_
                        rotate_left
                        · intro w'
                          go_simp
                          with_reducible rfl
                        rotate_left
                        · simp only [Act.put, List.setIfInBounds_toArray, List.set_cons_zero, List.set_cons_succ, i64_w, i32_w]
                          rfl
                        refine pure_ (i := 3) (N := some 117) (v := ?_) (a' := ?_) #[false, true, true, true, false, false, false, false, false, false, false, false, false, false] rfl rfl (any_of HT_.out (by kernel_rfl)) (fun _ _ _ h => h) (Or.inl ⟨by rfl, ?_⟩) ?_ ?_
                        rotate_left
                        · intro w'
                          go_simp
                          with_reducible rfl
                        rotate_left
                        · simp only [Act.put, List.setIfInBounds_toArray, List.set_cons_zero, List.set_cons_succ, i64_w, i32_w]
                          rfl
                        refine pure_ (i := 4) (N := some 118) (v := ?_) (a' := ?_) #[false, true, true, true, true, false, false, false, false, false, false, false, false, false] rfl rfl (any_of HT_.out (by kernel_rfl)) (fun _ _ _ h => h) (Or.inl ⟨by rfl, ?_⟩) ?_ ?_
                        rotate_left
                        · intro w'
                          go_simp
                          with_reducible rfl
                        rotate_left
                        · simp only [Act.put, List.setIfInBounds_toArray, List.set_cons_zero, List.set_cons_succ, i64_w, i32_w]
                          rfl
                        refine take_ (i := 0) (N := some 114) (v := ?_) (a' := ?_) #[true, true, true, true, true, false, false, false, false, false, false, false, false, false] rfl rfl (take_ofW HT_.out HW_.out (by kernel_rfl)) (fun _ _ _ h => h) (Or.inl ⟨by rfl, ?_⟩) hHeld ?_ ?_
                        rotate_left
                        · rintro w' ⟨s0, s1, s2, s3, s4, s5⟩
                          go_simp
                          with_reducible rfl
                        rotate_left
                        · simp only [Act.put, List.setIfInBounds_toArray, List.set_cons_zero, List.set_cons_succ, i64_w, i32_w]
                          rfl
                        refine take_ (i := 5) (N := some 119) (v := ?_) (a' := ?_) #[true, true, true, true, true, true, false, false, false, false, false, false, false, false] rfl rfl (take_ofW HT_.out HW_.out (by kernel_rfl)) (fun _ _ _ h => h) (Or.inl ⟨by rfl, ?_⟩) hHeld ?_ ?_
                        rotate_left
                        · rintro w' ⟨s0, s1, s2, s3, s4, s5⟩
                          go_simp
                          with_reducible rfl
                        rotate_left
                        · simp only [Act.put, List.setIfInBounds_toArray, List.set_cons_zero, List.set_cons_succ, i64_w, i32_w]
                          rfl
                        refine one_ (i := 6) (N := some 120) #[true, true, true, true, true, true, true, false, false, false, false, false, false, false] rfl rfl (one_of HT_.out (by kernel_rfl)) (by decide) (fun K hK => ?_)
                        refine goes_ Try.func32 (by kernel_rfl) rfl #[.agg #[.slice A1_0 l1_0.length c1_0], .int .i64 ((rd_T33 t505 x18_2).f4)] (by rfl) rfl rfl (by (try simp only [List.map_toArray, List.map_cons, List.map_nil]); first | done | rfl | (simp only [List.length_drop, List.length_take]; rfl)) ?_
                        with_reducible refine (tariff_Change.calls k2 _ _ l1_0 ((rd_T33 t505 x18_2).f4) t520 t521 t522 _ ?side1 ?side2 A96.out).mono ?_
                        (case side1 => repeat (first | exact (Kd.C_below HR1_0.out HB.out) | (with_reducible refine Kd.C_alloc ?_ _) | (with_reducible refine Kd.C_drewN ?_ _) | (with_reducible refine Kd.C_drew ?_)))
                        (case side2 => exact HC1_0.out)
                        rintro e w111 ⟨rfl, hb⟩
                        have HS1_ := (hb.cell (World.block_lt_of_cell? _ _ (hHeld.2.1))).trans (hHeld.2.1)
                        have HS2_ := (hb.cell (World.block_lt_of_cell? _ _ (hHeld.2.2.1))).trans (hHeld.2.2.1)
                        have HS3_ := (hb.cell (World.block_lt_of_cell? _ _ (hHeld.2.2.2.1))).trans (hHeld.2.2.2.1)
                        have HS4_ := (hb.cell (World.block_lt_of_cell? _ _ (hHeld.2.2.2.2.1))).trans (hHeld.2.2.2.2.1)
                        have HS5_ := (hb.cell (World.block_lt_of_cell? _ _ (hHeld.2.2.2.2.2))).trans (hHeld.2.2.2.2.2)
                        refine ⟨_, rfl, ?_⟩
                        have n0_ := Aside0.mk (Kd.V_below (by (with_reducible repeat (first | apply Kd.V_alloc | apply Kd.V_drewN | apply Kd.V_drew)); exact HO_8.out) hb)
                        have n1_ := Aside0.mk (blk_below (g := gb502) (o := .cells #[.slice A1_0 l1_0.length c1_0] 25 (0, 0)) (by (with_reducible repeat (first | refine blk_drewN ?_ _ | refine blk_drew ?_ | refine blk_alloc ?_ _)); exact BK502.out) hb)
                        have n2_ := Aside0.mk (below_step (by repeat (first | (with_reducible first | exact HB.out | apply below_alloc | apply pw_below_drewN | apply below_drew1 | refine below_set ?_ GE502.out) | exact HB.out)) hb)
                        clear HO_8
                        clear BK502
                        clear HB
                        have HO_8 := n0_
                        have BK502 := n1_
                        have HB := n2_
                        clear n0_ n1_ n2_
                        (try clear hb)
                        (try clear hb2)
                        (try clear hk)
                        (try clear hi)
                        refine hK.out _ _ ⟨(blk_cell BK502.out 0).trans rfl, HS1_, HS2_, HS3_, HS4_, HS5_⟩ (fun hHeld => ?_)
                        clear hK K
                        refine norm_ (a' := ?_) ?_ ?_
                        rotate_left
                        · show Act.put _ (some 120) _ = _
                          simp only [Act.put, List.setIfInBounds_toArray, List.set_cons_zero, List.set_cons_succ, i64_w, i32_w]
                          rfl
                        refine pure_ (i := 7) (N := some 113) (v := ?_) (a' := ?_) #[true, true, true, true, true, true, true, true, false, false, false, false, false, false] rfl rfl (any_of HT_.out (by kernel_rfl)) (fun _ _ _ h => h) (Or.inl ⟨by rfl, ?_⟩) ?_ ?_
                        rotate_left
                        · intro w'
                          go_simp
                          with_reducible rfl
                        rotate_left
                        · simp only [Act.put, List.setIfInBounds_toArray, List.set_cons_zero, List.set_cons_succ, i64_w, i32_w]
                          rfl
                        refine pure_ (i := 8) (N := some 121) (v := ?_) (a' := ?_) #[true, true, true, true, true, true, true, true, true, false, false, false, false, false] rfl rfl (any_of HT_.out (by kernel_rfl)) (fun _ _ _ h => h) (Or.inl ⟨by rfl, ?_⟩) ?_ ?_
                        rotate_left
                        · intro w'
                          go_simp
                          with_reducible rfl
                        rotate_left
                        · simp only [Act.put, List.setIfInBounds_toArray, List.set_cons_zero, List.set_cons_succ, i64_w, i32_w]
                          rfl
                        refine pure_ (i := 9) (N := some 122) (v := ?_) (a' := ?_) #[true, true, true, true, true, true, true, true, true, true, false, false, false, false] rfl rfl (any_of HT_.out (by kernel_rfl)) (fun _ _ _ h => h) (Or.inl ⟨by rfl, ?_⟩) ?_ ?_
                        rotate_left
                        · intro w'
                          go_simp
                          with_reducible rfl
                        rotate_left
                        · simp only [Act.put, List.setIfInBounds_toArray, List.set_cons_zero, List.set_cons_succ, i64_w, i32_w]
                          rfl
                        refine pure_ (i := 10) (N := some 123) (v := ?_) (a' := ?_) #[true, true, true, true, true, true, true, true, true, true, true, false, false, false] rfl rfl (any_of HT_.out (by kernel_rfl)) (fun _ _ _ h => h) (Or.inl ⟨by rfl, ?_⟩) ?_ ?_
                        rotate_left
                        · intro w'
                          go_simp
                          with_reducible rfl
                        rotate_left
                        · simp only [Act.put, List.setIfInBounds_toArray, List.set_cons_zero, List.set_cons_succ, i64_w, i32_w]
                          rfl
                        refine pure_ (i := 11) (N := some 19) (v := ?_) (a' := ?_) #[true, true, true, true, true, true, true, true, true, true, true, true, false, false] rfl rfl (any_of HT_.out (by kernel_rfl)) (fun _ _ _ h => h) (Or.inl ⟨by rfl, ?_⟩) ?_ ?_
                        rotate_left
                        · intro w'
                          go_simp
                          with_reducible rfl
                        rotate_left
                        · simp only [Act.put, List.setIfInBounds_toArray, List.set_cons_zero, List.set_cons_succ, i64_w, i32_w]
                          rfl
                        refine pure_ (i := 12) (N := some 20) (v := ?_) (a' := ?_) #[true, true, true, true, true, true, true, true, true, true, true, true, true, false] rfl rfl (any_of HT_.out (by kernel_rfl)) (fun _ _ _ h => h) (Or.inl ⟨by rfl, ?_⟩) ?_ ?_
                        rotate_left
                        · intro w'
                          go_simp
                          with_reducible rfl
                        rotate_left
                        · simp only [Act.put, List.setIfInBounds_toArray, List.set_cons_zero, List.set_cons_succ, i64_w, i32_w]
                          rfl
                        refine pure_ (i := 13) (N := some 21) (v := ?_) (a' := ?_) #[true, true, true, true, true, true, true, true, true, true, true, true, true, true] rfl rfl (any_of HT_.out (by kernel_rfl)) (fun _ _ _ h => h) (Or.inl ⟨by rfl, ?_⟩) ?_ ?_
                        rotate_left
                        · intro w'
                          go_simp
                          with_reducible rfl
                        rotate_left
                        · simp only [Act.put, List.setIfInBounds_toArray, List.set_cons_zero, List.set_cons_succ, i64_w, i32_w]
                          rfl
                        refine done_ (done_of HT_.out (by kernel_rfl)) ?_
                        try go_wp2
                        go_ret
                        exact ⟨by first | rfl | (simp [errW_none, errW_some] <;> rfl) | (simp [*, errW_none, errW_some] <;> rfl), by repeat (first | (with_reducible first | exact HB.out | apply below_alloc | apply pw_below_drewN | apply below_drew1 | refine below_set ?_ GE502.out) | exact HB.out)⟩
                    · rw [if_neg c95] at H
                      exact absurd H (by simp)
                  · rw [if_neg c94] at H
                    have c94b0 : decide (x18_2 < (t505.length : Int)) = false := decide_eq_false c94
                    clear c94
                    obtain rfl := Option.some.inj H
                    obtain ⟨Ao112, co112, eo112⟩ := Kd.V_slice HO_8.out
                    subst eo112
                    go_wp2
                    go_ret
                    exact ⟨by first | rfl | (simp [errW_none, errW_some] <;> rfl) | (simp [*, errW_none, errW_some] <;> rfl), by repeat (first | (with_reducible first | exact HB.out | apply below_alloc | apply pw_below_drewN | apply below_drew1 | refine below_set ?_ GE502.out) | exact HB.out)⟩
      · rw [if_neg c9] at H
        have c9b0 : (t511 == 0) = false := beq_eq_false_iff_ne.mpr c9
        have c9b1 : (t511 != 0) = true := bne_iff_ne.mpr c9
        obtain rfl := Option.some.inj H
        go_enter Try.func10, Try.ntmps10
        go_wp2_with (first | ((with_reducible refine gate_dst (N := 4) rfl ?_); refine box_event ?hg (N := 4) ?hd (cs := #[.slice A1_0 l1_0.length c1_0]) (t := 25) ?hr ?_; (case hd => rfl); (case hg => rfl); (case hr => first | (go_simp; done) | (go_simp; rfl)); intro gb502 hg w113 hbox hb; have n0_ := Aside0.mk (below_step (by repeat (first | (with_reducible first | exact HB.out | apply below_alloc | apply pw_below_drewN | apply below_drew1) | exact HB.out)) hb); have n1_ := Aside0.mk (hbox); have n2_ := Aside0.mk ((by rw [hg]; exact (below_size (by repeat (first | (with_reducible first | exact HB.out | apply below_alloc | apply pw_below_drewN | apply below_drew1) | exact HB.out))) : w.heap.size ≤ gb502)); have n3_ := Aside0.mk ((by rw [hg]; exact (below_size (by repeat (first | (with_reducible first | exact HB.out | apply below_alloc | apply pw_below_drewN | apply below_drew1) | exact HB.out))) : w.heap.size ≤ gb502)); clear HB; have HB := n0_; have BK502 := n1_; have GW502 := n2_; have GE502 := n3_; clear n0_ n1_ n2_ n3_; clear hb hbox hg) | ((with_reducible refine gate_callee (f := 17) rfl ?_); refine goesL_ (some 22) rfl rfl Try.func17 (by kernel_rfl) rfl #[] rfl (by (try simp only [List.map_toArray, List.map_cons, List.map_nil]); first | done | rfl | (simp only [List.length_drop, List.length_take]; rfl)) ?_; (with_reducible refine (crossbarlaw27_sane.calls  true _ A4.out).mono ?_); rintro e w114 ⟨rfl, hb⟩; refine ⟨_, rfl, ?_⟩; have n0_ := Aside0.mk (blk_below (g := gb502) (o := .cells #[.slice A1_0 l1_0.length c1_0] 25 (0, 0)) (by (with_reducible repeat (first | refine blk_drewN ?_ _ | refine blk_drew ?_ | refine blk_alloc ?_ _)); exact BK502.out) hb); have n1_ := Aside0.mk (below_step (by repeat (first | (with_reducible first | exact HB.out | apply below_alloc | apply pw_below_drewN | apply below_drew1 | refine below_set ?_ GE502.out) | exact HB.out)) hb); clear BK502; clear HB; have BK502 := n0_; have HB := n1_; clear n0_ n1_; (try clear hb); (try clear hb2); (try clear hk); (try clear hi); have hcz115_0 : w114.cell? ⟨gb502, 0, none⟩ = some (.slice A1_0 l1_0.length c1_0) := (blk_cell BK502.out 0).trans rfl; have hfz115_0 := blk_frozen BK502.out 0) | ((with_reducible refine gate_callee (f := 18) rfl ?_); refine goesL_ (some 26) rfl rfl Try.func18 (by kernel_rfl) rfl #[.slice A0 l0.length c0, .agg #[.slice A1_0 l1_0.length c1_0]] rfl (by (try simp only [List.map_toArray, List.map_cons, List.map_nil]); first | done | rfl | (simp only [List.length_drop, List.length_take]; rfl)) ?_; (with_reducible refine (crossbarref27_Few.calls k _ _ l0 _ _ l1_0 true _ ?side1 ?side2 ?side3 ?side4 A6.out).mono ?_); (case side1 => repeat (first | exact (Kd.C_below HR0.out HB.out) | (with_reducible refine Kd.C_alloc ?_ _) | (with_reducible refine Kd.C_drewN ?_ _) | (with_reducible refine Kd.C_drew ?_))); (case side2 => exact HC0.out); (case side3 => repeat (first | exact (Kd.C_below HR1_0.out HB.out) | (with_reducible refine Kd.C_alloc ?_ _) | (with_reducible refine Kd.C_drewN ?_ _) | (with_reducible refine Kd.C_drew ?_))); (case side4 => exact HC1_0.out); rintro e w116 ⟨rfl, hb⟩; refine ⟨_, rfl, ?_⟩; have n0_ := Aside0.mk (blk_below (g := gb502) (o := .cells #[.slice A1_0 l1_0.length c1_0] 25 (0, 0)) (by (with_reducible repeat (first | refine blk_drewN ?_ _ | refine blk_drew ?_ | refine blk_alloc ?_ _)); exact BK502.out) hb); have n1_ := Aside0.mk (below_step (by repeat (first | (with_reducible first | exact HB.out | apply below_alloc | apply pw_below_drewN | apply below_drew1 | refine below_set ?_ GE502.out) | exact HB.out)) hb); clear BK502; clear HB; have BK502 := n0_; have HB := n1_; clear n0_ n1_; (try clear hb); (try clear hb2); (try clear hk); (try clear hi); have hcz117_0 : w116.cell? ⟨gb502, 0, none⟩ = some (.slice A1_0 l1_0.length c1_0) := (blk_cell BK502.out 0).trans rfl; have hfz117_0 := blk_frozen BK502.out 0) | ((with_reducible refine gate_callee (f := 25) rfl ?_); refine goesL_ (some 33) rfl rfl Try.func25 (by kernel_rfl) rfl #[.slice A0 l0.length c0, .agg #[.slice A1_0 l1_0.length c1_0], .int .i64 a2] rfl (by (try simp only [List.map_toArray, List.map_cons, List.map_nil]); first | done | rfl | (simp only [List.length_drop, List.length_take]; rfl)) ?_; (with_reducible refine (meter_Advance.calls _ _ l0 _ _ l1_0 a2 t505 t508 t511 _ ?side1 ?side2 ?side3 ?side4 A8.out).mono ?_); (case side1 => repeat (first | exact (Kd.C_below HR0.out HB.out) | (with_reducible refine Kd.C_alloc ?_ _) | (with_reducible refine Kd.C_drewN ?_ _) | (with_reducible refine Kd.C_drew ?_))); (case side2 => exact HC0.out); (case side3 => repeat (first | exact (Kd.C_below HR1_0.out HB.out) | (with_reducible refine Kd.C_alloc ?_ _) | (with_reducible refine Kd.C_drewN ?_ _) | (with_reducible refine Kd.C_drew ?_))); (case side4 => exact HC1_0.out); rintro e w118 ⟨v506, v509, rfl, ho0, ho1, hb⟩; refine ⟨_, rfl, ?_⟩; have n0_ := Aside0.mk (Kd.V_lower (Kd.V_mono (ok' := fun k_ => k_ ≠ gb502) ho0 (fun k_ hk_ => (Kd.freshB (g := gb502) (o := .cells #[.slice A1_0 l1_0.length c1_0] 25 (0, 0)) (by (with_reducible repeat (first | refine blk_drewN ?_ _ | refine blk_drew ?_ | refine blk_alloc ?_ _)); exact BK502.out) k_ hk_))) (below_size (by repeat (first | (with_reducible first | exact HB.out | apply below_alloc | apply pw_below_drewN | apply below_drew1 | refine below_set ?_ GE502.out) | exact HB.out)))); have n1_ := Aside0.mk (Kd.V_lower (Kd.V_mono (ok' := fun k_ => k_ ≠ gb502) ho1 (fun k_ hk_ => (Kd.freshB (g := gb502) (o := .cells #[.slice A1_0 l1_0.length c1_0] 25 (0, 0)) (by (with_reducible repeat (first | refine blk_drewN ?_ _ | refine blk_drew ?_ | refine blk_alloc ?_ _)); exact BK502.out) k_ hk_))) (below_size (by repeat (first | (with_reducible first | exact HB.out | apply below_alloc | apply pw_below_drewN | apply below_drew1 | refine below_set ?_ GE502.out) | exact HB.out)))); have n2_ := Aside0.mk (blk_below (g := gb502) (o := .cells #[.slice A1_0 l1_0.length c1_0] 25 (0, 0)) (by (with_reducible repeat (first | refine blk_drewN ?_ _ | refine blk_drew ?_ | refine blk_alloc ?_ _)); exact BK502.out) hb); have n3_ := Aside0.mk (below_step (by repeat (first | (with_reducible first | exact HB.out | apply below_alloc | apply pw_below_drewN | apply below_drew1 | refine below_set ?_ GE502.out) | exact HB.out)) hb); clear BK502; clear HB; have HO507 := n0_; have HO510 := n1_; have BK502 := n2_; have HB := n3_; clear n0_ n1_ n2_ n3_; (try clear hb); (try clear hb2); (try clear hk); (try clear hi); (try clear ho0); (try clear ho1); obtain ⟨Ao119, co119, eo119⟩ := Kd.V_slice HO507.out; subst eo119; obtain ⟨Ao120, co120, eo120⟩ := Kd.V_slice HO510.out; subst eo120))
        go_ret
        exact ⟨by first | rfl | (simp [errW_none, errW_some] <;> rfl) | (simp [*, errW_none, errW_some] <;> rfl), by repeat (first | (with_reducible first | exact HB.out | apply below_alloc | apply pw_below_drewN | apply below_drew1 | refine below_set ?_ GE502.out) | exact HB.out)⟩
    · replace c7 := Bool.eq_false_iff.mpr c7
      subst c7
      have H1 : (some true) = some r := by rw [if_neg (show ¬ (false = true) by decide)] at H; exact H
      clear H
      have H := H1
      clear H1
      obtain rfl := Option.some.inj H
      go_enter Try.func10, Try.ntmps10
      go_wp2_with (first | ((with_reducible refine gate_dst (N := 4) rfl ?_); refine box_event ?hg (N := 4) ?hd (cs := #[.slice A1_0 l1_0.length c1_0]) (t := 25) ?hr ?_; (case hd => rfl); (case hg => rfl); (case hr => first | (go_simp; done) | (go_simp; rfl)); intro gb502 hg w121 hbox hb; have n0_ := Aside0.mk (below_step (by repeat (first | (with_reducible first | exact HB.out | apply below_alloc | apply pw_below_drewN | apply below_drew1) | exact HB.out)) hb); have n1_ := Aside0.mk (hbox); have n2_ := Aside0.mk ((by rw [hg]; exact (below_size (by repeat (first | (with_reducible first | exact HB.out | apply below_alloc | apply pw_below_drewN | apply below_drew1) | exact HB.out))) : w.heap.size ≤ gb502)); have n3_ := Aside0.mk ((by rw [hg]; exact (below_size (by repeat (first | (with_reducible first | exact HB.out | apply below_alloc | apply pw_below_drewN | apply below_drew1) | exact HB.out))) : w.heap.size ≤ gb502)); clear HB; have HB := n0_; have BK502 := n1_; have GW502 := n2_; have GE502 := n3_; clear n0_ n1_ n2_ n3_; clear hb hbox hg) | ((with_reducible refine gate_callee (f := 17) rfl ?_); refine goesL_ (some 22) rfl rfl Try.func17 (by kernel_rfl) rfl #[] rfl (by (try simp only [List.map_toArray, List.map_cons, List.map_nil]); first | done | rfl | (simp only [List.length_drop, List.length_take]; rfl)) ?_; (with_reducible refine (crossbarlaw27_sane.calls  true _ A4.out).mono ?_); rintro e w122 ⟨rfl, hb⟩; refine ⟨_, rfl, ?_⟩; have n0_ := Aside0.mk (blk_below (g := gb502) (o := .cells #[.slice A1_0 l1_0.length c1_0] 25 (0, 0)) (by (with_reducible repeat (first | refine blk_drewN ?_ _ | refine blk_drew ?_ | refine blk_alloc ?_ _)); exact BK502.out) hb); have n1_ := Aside0.mk (below_step (by repeat (first | (with_reducible first | exact HB.out | apply below_alloc | apply pw_below_drewN | apply below_drew1 | refine below_set ?_ GE502.out) | exact HB.out)) hb); clear BK502; clear HB; have BK502 := n0_; have HB := n1_; clear n0_ n1_; (try clear hb); (try clear hb2); (try clear hk); (try clear hi); have hcz123_0 : w122.cell? ⟨gb502, 0, none⟩ = some (.slice A1_0 l1_0.length c1_0) := (blk_cell BK502.out 0).trans rfl; have hfz123_0 := blk_frozen BK502.out 0) | ((with_reducible refine gate_callee (f := 18) rfl ?_); refine goesL_ (some 26) rfl rfl Try.func18 (by kernel_rfl) rfl #[.slice A0 l0.length c0, .agg #[.slice A1_0 l1_0.length c1_0]] rfl (by (try simp only [List.map_toArray, List.map_cons, List.map_nil]); first | done | rfl | (simp only [List.length_drop, List.length_take]; rfl)) ?_; (with_reducible refine (crossbarref27_Few.calls k _ _ l0 _ _ l1_0 false _ ?side1 ?side2 ?side3 ?side4 A6.out).mono ?_); (case side1 => repeat (first | exact (Kd.C_below HR0.out HB.out) | (with_reducible refine Kd.C_alloc ?_ _) | (with_reducible refine Kd.C_drewN ?_ _) | (with_reducible refine Kd.C_drew ?_))); (case side2 => exact HC0.out); (case side3 => repeat (first | exact (Kd.C_below HR1_0.out HB.out) | (with_reducible refine Kd.C_alloc ?_ _) | (with_reducible refine Kd.C_drewN ?_ _) | (with_reducible refine Kd.C_drew ?_))); (case side4 => exact HC1_0.out); rintro e w124 ⟨rfl, hb⟩; refine ⟨_, rfl, ?_⟩; have n0_ := Aside0.mk (blk_below (g := gb502) (o := .cells #[.slice A1_0 l1_0.length c1_0] 25 (0, 0)) (by (with_reducible repeat (first | refine blk_drewN ?_ _ | refine blk_drew ?_ | refine blk_alloc ?_ _)); exact BK502.out) hb); have n1_ := Aside0.mk (below_step (by repeat (first | (with_reducible first | exact HB.out | apply below_alloc | apply pw_below_drewN | apply below_drew1 | refine below_set ?_ GE502.out) | exact HB.out)) hb); clear BK502; clear HB; have BK502 := n0_; have HB := n1_; clear n0_ n1_; (try clear hb); (try clear hb2); (try clear hk); (try clear hi)))
      go_ret
      exact ⟨by first | rfl | (simp [errW_none, errW_some] <;> rfl) | (simp [*, errW_none, errW_some] <;> rfl), by repeat (first | (with_reducible first | exact HB.out | apply below_alloc | apply pw_below_drewN | apply below_drew1 | refine below_set ?_ GE502.out) | exact HB.out)⟩
  · replace c5 := Bool.eq_false_iff.mpr c5
    subst c5
    have H1 : (some false) = some r := by rw [if_neg (show ¬ (false = true) by decide)] at H; exact H
    clear H
    have H := H1
    clear H1
    obtain rfl := Option.some.inj H
    go_enter Try.func10, Try.ntmps10
    go_wp2_with (first | ((with_reducible refine gate_dst (N := 4) rfl ?_); refine box_event ?hg (N := 4) ?hd (cs := #[.slice A1_0 l1_0.length c1_0]) (t := 25) ?hr ?_; (case hd => rfl); (case hg => rfl); (case hr => first | (go_simp; done) | (go_simp; rfl)); intro gb502 hg w125 hbox hb; have n0_ := Aside0.mk (below_step (by repeat (first | (with_reducible first | exact HB.out | apply below_alloc | apply pw_below_drewN | apply below_drew1) | exact HB.out)) hb); have n1_ := Aside0.mk (hbox); have n2_ := Aside0.mk ((by rw [hg]; exact (below_size (by repeat (first | (with_reducible first | exact HB.out | apply below_alloc | apply pw_below_drewN | apply below_drew1) | exact HB.out))) : w.heap.size ≤ gb502)); have n3_ := Aside0.mk ((by rw [hg]; exact (below_size (by repeat (first | (with_reducible first | exact HB.out | apply below_alloc | apply pw_below_drewN | apply below_drew1) | exact HB.out))) : w.heap.size ≤ gb502)); clear HB; have HB := n0_; have BK502 := n1_; have GW502 := n2_; have GE502 := n3_; clear n0_ n1_ n2_ n3_; clear hb hbox hg) | ((with_reducible refine gate_callee (f := 17) rfl ?_); refine goesL_ (some 22) rfl rfl Try.func17 (by kernel_rfl) rfl #[] rfl (by (try simp only [List.map_toArray, List.map_cons, List.map_nil]); first | done | rfl | (simp only [List.length_drop, List.length_take]; rfl)) ?_; (with_reducible refine (crossbarlaw27_sane.calls  false _ A4.out).mono ?_); rintro e w126 ⟨rfl, hb⟩; refine ⟨_, rfl, ?_⟩; have n0_ := Aside0.mk (blk_below (g := gb502) (o := .cells #[.slice A1_0 l1_0.length c1_0] 25 (0, 0)) (by (with_reducible repeat (first | refine blk_drewN ?_ _ | refine blk_drew ?_ | refine blk_alloc ?_ _)); exact BK502.out) hb); have n1_ := Aside0.mk (below_step (by repeat (first | (with_reducible first | exact HB.out | apply below_alloc | apply pw_below_drewN | apply below_drew1 | refine below_set ?_ GE502.out) | exact HB.out)) hb); clear BK502; clear HB; have BK502 := n0_; have HB := n1_; clear n0_ n1_; (try clear hb); (try clear hb2); (try clear hk); (try clear hi)))
    go_ret
    exact ⟨by first | rfl | (simp [errW_none, errW_some] <;> rfl) | (simp [*, errW_none, errW_some] <;> rfl), by repeat (first | (with_reducible first | exact HB.out | apply below_alloc | apply pw_below_drewN | apply below_drew1 | refine below_set ?_ GE502.out) | exact HB.out)⟩

end Go.Proofs.Ytbfhohpbldadbaa.P
