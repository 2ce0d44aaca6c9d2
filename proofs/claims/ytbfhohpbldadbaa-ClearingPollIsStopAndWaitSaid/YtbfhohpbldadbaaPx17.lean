-- Written by a program of this session out of the translation (a changed scratch copy of the print). Not trusted: Lean checks it.
import Derived.Test.YtbfhohpbldadbaaPx0
import Derived.Test.YtbfhohpbldadbaaPx2
namespace Go.Proofs.Ytbfhohpbldadbaa.P
open Go.RowKit Go.Proofs.YtbfhohpbldadbaaW.PrintWords Go.Proofs.YtbfhohpbldadbaaW.PrintLast Go.Proofs.YtbfhohpbldadbaaW.PrintMore
attribute [local go_sem] max2_int min2_int max_two min_two max_three min_three max_four min_four   -- for this text's walks alone
set_option linter.unusedVariables false
set_option linter.unusedSimpArgs false

attribute [local go_sem high] eqA39
-- GIVEN: function 33 (crossbarlaw30_sane): Derived.Test.YtbfhohpbldadbaaExtS

/-! ### clearing_New: function 69 -/
def clearing_New.f  : Option ((List (List (S39))) × Int × Int × (List (S39)) × Bool × Int) := some (([] : List (List (S39))), 0, 0, ([] : List (S39)), false, (-1))
set_option maxHeartbeats 8000000 in
set_option maxRecDepth 100000 in
theorem clearing_New.calls  (r1 : List (List (S39))) (r2 : Int) (r3 : Int) (r4 : List (S39)) (r5 : Bool) (r6 : Int) (w : World) (h : clearing_New.f  = some (r1, r2, r3, r4, r5, r6)) :
    Calls Try.prog 69 #[] w fun e w' => ∃ v0_ v3_ : Value, e = .returned (.agg #[v0_, .int .i64 r2, .int .i64 r3, v3_, .bool r5, .int .i64 r6]) ∧ Kd.S (Kd.slice 39 k39) 28 w' w.heap.size (fun k_ => some k_ ≠ (v3_ : Value).ownBlock) v0_ r1 ∧ Kd.R k39 39 w' w.heap.size (fun _ => True) v3_ r4 ∧ Below w.heap.size w w' := by
  have hu61 := Try.underlying61
  have HB := Aside0.mk (Below.refl w.heap.size w)
  have H : (some (([] : List (List (S39))), 0, 0, ([] : List (S39)), false, (-1))) = some (r1, r2, r3, r4, r5, r6) := h
  clear h
  simp only [Option.some.injEq, Prod.mk.injEq] at H
  obtain ⟨rfl, rfl, rfl, rfl, rfl, rfl⟩ := H
  go_enter Try.func69, Try.ntmps69
  go_wp2_with (first | ((with_reducible refine gate_dst (N := 0) rfl ?_); refine box_event ?hg (N := 0) ?hd (cs := #[.slice none 0 0, .int .i64 0, .int .i64 0, .slice none 0 0, .bool false, .int .i64 0]) (t := 61) ?hr ?_; (case hd => rfl); (case hg => rfl); (case hr => first | (go_simp; done) | (go_simp; rfl)); intro gb523 hg w1 hbox hb; have n0_ := Aside0.mk (below_step (by repeat (first | (with_reducible first | exact HB.out | apply below_alloc | apply pw_below_drewN | apply below_drew1) | exact HB.out)) hb); have n1_ := Aside0.mk (hbox); have n2_ := Aside0.mk ((by rw [hg]; exact (below_size (by repeat (first | (with_reducible first | exact HB.out | apply below_alloc | apply pw_below_drewN | apply below_drew1) | exact HB.out))) : w.heap.size ≤ gb523)); have n3_ := Aside0.mk ((by rw [hg]; exact (below_size (by repeat (first | (with_reducible first | exact HB.out | apply below_alloc | apply pw_below_drewN | apply below_drew1) | exact HB.out))) : w.heap.size ≤ gb523)); clear HB; have HB := n0_; have BK523 := n1_; have GW523 := n2_; have GE523 := n3_; clear n0_ n1_ n2_ n3_; clear hb hbox hg; have hcz2_0 : w1.cell? ⟨gb523, 0, none⟩ = some (.slice none 0 0) := (blk_cell BK523.out 0).trans rfl; have hcz2_1 : w1.cell? ⟨gb523, 1, none⟩ = some (.int .i64 0) := (blk_cell BK523.out 1).trans rfl; have hcz2_2 : w1.cell? ⟨gb523, 2, none⟩ = some (.int .i64 0) := (blk_cell BK523.out 2).trans rfl; have hcz2_3 : w1.cell? ⟨gb523, 3, none⟩ = some (.slice none 0 0) := (blk_cell BK523.out 3).trans rfl; have hcz2_4 : w1.cell? ⟨gb523, 4, none⟩ = some (.bool false) := (blk_cell BK523.out 4).trans rfl; have hcz2_5 : w1.cell? ⟨gb523, 5, none⟩ = some (.int .i64 0) := (blk_cell BK523.out 5).trans rfl; have hfz2_0 := blk_frozen BK523.out 0; have hfz2_1 := blk_frozen BK523.out 1; have hfz2_2 := blk_frozen BK523.out 2; have hfz2_3 := blk_frozen BK523.out 3; have hfz2_4 := blk_frozen BK523.out 4; have hfz2_5 := blk_frozen BK523.out 5))
  refine bodyPost_ret (results_cell_row rfl _ _ gb523 61 #[.slice none 0 0, .int .i64 0, .int .i64 0, .slice none 0 0, .bool false, .int .i64 (-1)] (0, 0) _ rfl (by (with_reducible repeat (first | refine blk_drewN ?_ _ | refine blk_drew ?_ | refine blk_alloc ?_ _)); refine blk_put (cs := #[.slice none 0 0, .int .i64 0, .int .i64 0, .slice none 0 0, .bool false, .int .i64 0]) ?_ 5 _ rfl; (with_reducible repeat (first | refine blk_drewN ?_ _ | refine blk_drew ?_ | refine blk_alloc ?_ _)); refine blk_put (cs := #[.slice none 0 0, .int .i64 0, .int .i64 0, .slice none 0 0, .bool false, .int .i64 0]) ?_ 4 _ rfl; (with_reducible repeat (first | refine blk_drewN ?_ _ | refine blk_drew ?_ | refine blk_alloc ?_ _)); refine blk_put (cs := #[.slice none 0 0, .int .i64 0, .int .i64 0, .slice none 0 0, .bool false, .int .i64 0]) ?_ 3 _ rfl; (with_reducible repeat (first | refine blk_drewN ?_ _ | refine blk_drew ?_ | refine blk_alloc ?_ _)); refine blk_put (cs := #[.slice none 0 0, .int .i64 0, .int .i64 0, .slice none 0 0, .bool false, .int .i64 0]) ?_ 2 _ rfl; (with_reducible repeat (first | refine blk_drewN ?_ _ | refine blk_drew ?_ | refine blk_alloc ?_ _)); refine blk_put (cs := #[.slice none 0 0, .int .i64 0, .int .i64 0, .slice none 0 0, .bool false, .int .i64 0]) ?_ 1 _ rfl; (with_reducible repeat (first | refine blk_drewN ?_ _ | refine blk_drew ?_ | refine blk_alloc ?_ _)); refine blk_put (cs := #[.slice none 0 0, .int .i64 0, .int .i64 0, .slice none 0 0, .bool false, .int .i64 0]) ?_ 0 _ rfl; (with_reducible repeat (first | refine blk_drewN ?_ _ | refine blk_drew ?_ | refine blk_alloc ?_ _)); exact BK523.out) Try.underlying61 rfl (by kernel_rfl)) rfl ?_
  exact ⟨_, _, by first | rfl | (simp [errW_none, errW_some] <;> rfl) | (simp [*, errW_none, errW_some] <;> rfl), by first | exact Kd.S_nil _ _ _ _ _ | exact Kd.N_nil _ _ _ _ _ | exact Kd.V_nil _ _ _ _ _ | exact Kd.Q_nil _ _ _ _ _ | exact Kd.R_nil _ _ _ _ _, by first | exact Kd.R_nil _ _ _ _ _ | exact Kd.N_nil _ _ _ _ _ | exact Kd.V_nil _ _ _ _ _ | exact Kd.Q_nil _ _ _ _ _ | exact Kd.S_nil _ _ _ _ _, by repeat (first | (with_reducible first | exact HB.out | apply below_alloc | apply pw_below_drewN | apply below_drew1 | refine below_set ?_ GE523.out) | exact HB.out)⟩

-- NOT PRINTED: function 34 (crossbarlaw30_start)

-- GIVEN: function 35 (clearing_Offer): Derived.Test.YtbfhohpbldadbaaExt

-- GIVEN: function 44 (clearing_Poll): Derived.Test.YtbfhohpbldadbaaExt

-- NOT PRINTED: function 36 (crossbarlaw30_channel_poll)

-- GIVEN: function 46 (clearing_Receive): Derived.Test.YtbfhohpbldadbaaExt

-- NOT PRINTED: function 37 (crossbarlaw30_channel_deliver)

-- NOT PRINTED: function 11 (crossbarlaw30_ClearingPreservesTotals)

-- NOT PRINTED: function 41 (crossbarlaw30_channel_lose)

-- NOT PRINTED: function 38 (crossbarlaw30_channel_step)

-- GIVEN: function 39 (clearing_Check): Derived.Test.YtbfhohpbldadbaaExt

/-! ### crossbarref30_SameRecords: function 42 -/
def crossbarref30_SameRecords.l0 : Nat → List (S39) → List (S39) → Int → Option (Bool)
  | 0, _, _, _ => none
  | k + 1, x0, x1, x5 => if x5 < (x0.length : Int) then (if 0 ≤ x5 then (if x5 < (x1.length : Int) then (if (!(((rd_T39 x0 x5).f0) == ((rd_T39 x1 x5).f0)) || (!(((rd_T39 x0 x5).f1) == ((rd_T39 x1 x5).f1)) || (!(((rd_T39 x0 x5).f2) == ((rd_T39 x1 x5).f2)) || (!((((rd_T39 x0 x5).f3).toList) == (((rd_T39 x1 x5).f3).toList)) || (!(((rd_T39 x0 x5).f4) == ((rd_T39 x1 x5).f4)) || (!(((rd_T39 x0 x5).f5) == ((rd_T39 x1 x5).f5)) || (!(((rd_T39 x0 x5).f6) == ((rd_T39 x1 x5).f6)) || (!(((rd_T39 x0 x5).f7) == ((rd_T39 x1 x5).f7)))))))))) = true then (some false) else (crossbarref30_SameRecords.l0 k x0 x1 (wrap64 (x5 + 1)))) else (none)) else (none)) else (some true)
def crossbarref30_SameRecords.f (k : Nat) (l0 : List (S39)) (l1 : List (S39)) : Option (Bool) := if (l0.length : Int) = (l1.length : Int) then (crossbarref30_SameRecords.l0 k l0 l1 0) else (some false)
theorem crossbarref30_SameRecords.mono_l : ∀ k, (∀ y0 y1 y2, LeO (crossbarref30_SameRecords.l0 k y0 y1 y2) (crossbarref30_SameRecords.l0 (k + 1) y0 y1 y2))
  | 0 => fun _ _ _ r h => by simp [crossbarref30_SameRecords.l0] at h
  | k + 1 => by
    have ih0 := crossbarref30_SameRecords.mono_l k
    · intro y0 y1 y2
      unfold crossbarref30_SameRecords.l0
      repeat' first
      | (with_reducible exact ih0 _ _ _)
      | (with_reducible exact LeO.refl _)
      | (with_reducible exact LeO.none _)
      | (with_reducible refine LeO.ite ?_ ?_)
      | (with_reducible refine LeO.bind ?_ (fun _ => ?_))
      | exact ih0 _ _ _
      | exact LeO.none _
      | refine LeO.ite ?_ ?_
      | refine LeO.bind ?_ (fun _ => ?_)
theorem crossbarref30_SameRecords.mono : ∀ a0 a1 k, LeO (crossbarref30_SameRecords.f k a0 a1) (crossbarref30_SameRecords.f (k + 1) a0 a1) := by
  intro a0 a1 k
  have ih0 := crossbarref30_SameRecords.mono_l k
  unfold crossbarref30_SameRecords.f
  repeat' first
      | (with_reducible exact ih0 _ _ _)
      | (with_reducible exact LeO.refl _)
      | (with_reducible exact LeO.none _)
      | (with_reducible refine LeO.ite ?_ ?_)
      | (with_reducible refine LeO.bind ?_ (fun _ => ?_))
      | exact ih0 _ _ _
      | exact LeO.none _
      | refine LeO.ite ?_ ?_
      | refine LeO.bind ?_ (fun _ => ?_)
set_option maxHeartbeats 8000000 in
set_option maxRecDepth 100000 in
theorem crossbarref30_SameRecords.calls (k : Nat) (A0 : Option Addr) (c0 : Nat) (l0 : List (S39)) (A1 : Option Addr) (c1 : Nat) (l1 : List (S39)) (r : Bool) (w : World) (hr0 : Kd.C k39 w A0 l0.length l0) (hc0 : l0.length ≤ c0) (hr1 : Kd.C k39 w A1 l1.length l1) (hc1 : l1.length ≤ c1) (h : crossbarref30_SameRecords.f k l0 l1 = some r) :
    Calls Try.prog 42 #[.slice A0 l0.length c0, .slice A1 l1.length c1] w fun e w' => e = .returned (.bool r) ∧ Drawn0 w w' := by
  have hu39 := Try.underlying39
  have HR0 := Aside0.mk hr0
  have HC0 := Aside0.mk hc0
  clear hr0 hc0
  have HR1 := Aside0.mk hr1
  have HC1 := Aside0.mk hc1
  clear hr1 hc1
  have H : (if (l0.length : Int) = (l1.length : Int) then (crossbarref30_SameRecords.l0 k l0 l1 0) else (some false)) = some r := h
  clear h
  by_cases c3 : (l0.length : Int) = (l1.length : Int)
  · rw [if_pos c3] at H
    have c3b0 : ((l0.length : Int) == (l1.length : Int)) = true := beq_iff_eq.mpr c3
    have c3b1 : ((l0.length : Int) != (l1.length : Int)) = false := bne_eq_false_iff_eq.mpr c3
    have c3b2 : (l0.length == l1.length) = true := by first | simpa using c3 | (simp at c3 ⊢; omega)
    clear c3
    have H' := Aside0.mk H
    clear H
    go_enter Try.func42, Try.ntmps42
    go_wp2
    repeat (go_quiet (fail); try go_wp2)
    go_loopg [5] k (fun kq v5 w' => ∃ (x5_1 : Int), v5 = .int .i64 x5_1 ∧ Aside0 (crossbarref30_SameRecords.l0 kq l0 l1 x5_1 = some r) ∧ Aside0 (kq ≤ k) ∧ Drawn0 w w')
    case atStart => exact ⟨(0), (by first | rfl | (simp; done) | (simp [*]; done)), H', ⟨Nat.le_refl _⟩, by repeat (first | exact Drawn0.refl _ | apply Drawn0.step)⟩
    case round =>
      clear H'
      try clear c1
      try clear p2
      try clear c3
      try clear c3b0
      try clear c3b1
      try clear c3b2
      obtain ⟨x5_1, rfl, HA, HK1, ⟨m1, rfl⟩⟩ := hrel
      cases gk with
      | zero => exact absurd HA.out (by simp [crossbarref30_SameRecords.l0])
      | succ k1 =>
        have H := HA.out
        clear HA
        simp only [crossbarref30_SameRecords.l0] at H
        by_cases c4 : x5_1 < (l0.length : Int)
        · rw [if_pos c4] at H
          have c4b0 : decide (x5_1 < (l0.length : Int)) = true := decide_eq_true c4
          clear c4
          by_cases c5 : 0 ≤ x5_1
          · rw [if_pos c5] at H
            have c5b0 : decide (0 ≤ x5_1) = true := decide_eq_true c5
            clear c5
            by_cases c6 : x5_1 < (l1.length : Int)
            · rw [if_pos c6] at H
              have c6b0 : decide (x5_1 < (l1.length : Int)) = true := decide_eq_true c6
              clear c6
              by_cases c7 : (!(((rd_T39 l0 x5_1).f0) == ((rd_T39 l1 x5_1).f0)) || (!(((rd_T39 l0 x5_1).f1) == ((rd_T39 l1 x5_1).f1)) || (!(((rd_T39 l0 x5_1).f2) == ((rd_T39 l1 x5_1).f2)) || (!((((rd_T39 l0 x5_1).f3).toList) == (((rd_T39 l1 x5_1).f3).toList)) || (!(((rd_T39 l0 x5_1).f4) == ((rd_T39 l1 x5_1).f4)) || (!(((rd_T39 l0 x5_1).f5) == ((rd_T39 l1 x5_1).f5)) || (!(((rd_T39 l0 x5_1).f6) == ((rd_T39 l1 x5_1).f6)) || (!(((rd_T39 l0 x5_1).f7) == ((rd_T39 l1 x5_1).f7)))))))))) = true
              · rw [if_pos c7] at H
                have c7b0 : (!(((rd_T39 l0 x5_1).f0) == ((rd_T39 l1 x5_1).f0)) || (!(((rd_T39 l0 x5_1).f1) == ((rd_T39 l1 x5_1).f1)) || (!(((rd_T39 l0 x5_1).f2) == ((rd_T39 l1 x5_1).f2)) || (!((((rd_T39 l0 x5_1).f3).toList) == (((rd_T39 l1 x5_1).f3).toList)) || (!(((rd_T39 l0 x5_1).f4) == ((rd_T39 l1 x5_1).f4)) || (!(((rd_T39 l0 x5_1).f5) == ((rd_T39 l1 x5_1).f5)) || (!(((rd_T39 l0 x5_1).f6) == ((rd_T39 l1 x5_1).f6)) || (!(((rd_T39 l0 x5_1).f7) == ((rd_T39 l1 x5_1).f7)))))))))) = true := c7
                clear c7
                obtain rfl := Option.some.inj H
                have p533 : 0 ≤ (x5_1 : Int) := of_decide_eq_true (by first | (with_reducible assumption) | assumption)
                have q533 : x5_1 < (l0.length : Int) := of_decide_eq_true (by first | (with_reducible assumption) | assumption)
                obtain ⟨ad533, e533, hx533_0, hx533_1, hx533_2, hx533_3, hx533_4, hx533_5, hx533_6, hx533_7⟩ := at_T39 HR0.out x5_1 p533 q533
                cases e533
                replace p533 := eq_true p533
                replace q533 := eq_true q533
                have p534 : 0 ≤ (x5_1 : Int) := of_decide_eq_true (by first | (with_reducible assumption) | assumption)
                have q534 : x5_1 < (l1.length : Int) := of_decide_eq_true (by first | (with_reducible assumption) | assumption)
                obtain ⟨ad534, e534, hx534_0, hx534_1, hx534_2, hx534_3, hx534_4, hx534_5, hx534_6, hx534_7⟩ := at_T39 HR1.out x5_1 p534 q534
                cases e534
                replace p534 := eq_true p534
                replace q534 := eq_true q534
                go_wp2
                repeat (go_quiet (fail); try go_wp2)
                go_ret
                exact ⟨by first | rfl | (simp; done) | (simp [*]; done), by repeat (first | exact Drawn0.refl _ | apply Drawn0.step)⟩
              · rw [if_neg c7] at H
                have c7b0 : (!(((rd_T39 l0 x5_1).f0) == ((rd_T39 l1 x5_1).f0)) || (!(((rd_T39 l0 x5_1).f1) == ((rd_T39 l1 x5_1).f1)) || (!(((rd_T39 l0 x5_1).f2) == ((rd_T39 l1 x5_1).f2)) || (!((((rd_T39 l0 x5_1).f3).toList) == (((rd_T39 l1 x5_1).f3).toList)) || (!(((rd_T39 l0 x5_1).f4) == ((rd_T39 l1 x5_1).f4)) || (!(((rd_T39 l0 x5_1).f5) == ((rd_T39 l1 x5_1).f5)) || (!(((rd_T39 l0 x5_1).f6) == ((rd_T39 l1 x5_1).f6)) || (!(((rd_T39 l0 x5_1).f7) == ((rd_T39 l1 x5_1).f7)))))))))) = false := by simpa using c7
                clear c7
                have H' := Aside0.mk H
                clear H
                have p533 : 0 ≤ (x5_1 : Int) := of_decide_eq_true (by first | (with_reducible assumption) | assumption)
                have q533 : x5_1 < (l0.length : Int) := of_decide_eq_true (by first | (with_reducible assumption) | assumption)
                obtain ⟨ad533, e533, hx533_0, hx533_1, hx533_2, hx533_3, hx533_4, hx533_5, hx533_6, hx533_7⟩ := at_T39 HR0.out x5_1 p533 q533
                cases e533
                replace p533 := eq_true p533
                replace q533 := eq_true q533
                have p534 : 0 ≤ (x5_1 : Int) := of_decide_eq_true (by first | (with_reducible assumption) | assumption)
                have q534 : x5_1 < (l1.length : Int) := of_decide_eq_true (by first | (with_reducible assumption) | assumption)
                obtain ⟨ad534, e534, hx534_0, hx534_1, hx534_2, hx534_3, hx534_4, hx534_5, hx534_6, hx534_7⟩ := at_T39 HR1.out x5_1 p534 q534
                cases e534
                replace p534 := eq_true p534
                replace q534 := eq_true q534
                go_wp2
                repeat (go_quiet (fail); try go_wp2)
                go_roundg k1
                case measure => have := HK1.out; omega
                case rel => exact ⟨(wrap64 (x5_1 + 1)), (by first | rfl | (simp; done) | (simp [*]; done)), H', ⟨by have := HK1.out; omega⟩, by repeat (first | exact Drawn0.refl _ | apply Drawn0.step)⟩
            · rw [if_neg c6] at H
              exact absurd H (by simp)
          · rw [if_neg c5] at H
            exact absurd H (by simp)
        · rw [if_neg c4] at H
          have c4b0 : decide (x5_1 < (l0.length : Int)) = false := decide_eq_false c4
          clear c4
          obtain rfl := Option.some.inj H
          go_wp2
          repeat (go_quiet (fail); try go_wp2)
          go_ret
          exact ⟨by first | rfl | (simp; done) | (simp [*]; done), by repeat (first | exact Drawn0.refl _ | apply Drawn0.step)⟩
  · rw [if_neg c3] at H
    have c3b0 : ((l0.length : Int) == (l1.length : Int)) = false := beq_eq_false_iff_ne.mpr c3
    have c3b1 : ((l0.length : Int) != (l1.length : Int)) = true := bne_iff_ne.mpr c3
    have c3b2 : (l0.length == l1.length) = false := by first | simpa using c3 | (simp at c3 ⊢; omega)
    obtain rfl := Option.some.inj H
    go_enter Try.func42, Try.ntmps42
    go_wp2
    repeat (go_quiet (fail); try go_wp2)
    go_ret
    exact ⟨by first | rfl | (simp; done) | (simp [*]; done), by repeat (first | exact Drawn0.refl _ | apply Drawn0.step)⟩

/-! ### crossbarlaw30_prefix: function 40 -/
def crossbarlaw30_prefix.f (k : Nat) (l0 : List (S39)) (l1 : List (S39)) : Option (Bool) := if (l0.length : Int) ≤ (l1.length : Int) then (if 0 ≤ (l0.length : Int) then ((crossbarref30_SameRecords.f k l0 (l1.take ((l0.length : Int) : Int).toNat)).bind fun t539 => (some t539)) else (none)) else (some false)
theorem crossbarlaw30_prefix.mono : ∀ a0 a1 k, LeO (crossbarlaw30_prefix.f k a0 a1) (crossbarlaw30_prefix.f (k + 1) a0 a1) := by
  intro a0 a1 k
  unfold crossbarlaw30_prefix.f
  repeat' first
      | (with_reducible exact crossbarref30_SameRecords.mono _ _ _)
      | (with_reducible exact LeO.refl _)
      | (with_reducible exact LeO.none _)
      | (with_reducible refine LeO.ite ?_ ?_)
      | (with_reducible refine LeO.bind ?_ (fun _ => ?_))
      | exact crossbarref30_SameRecords.mono _ _ _
      | exact LeO.none _
      | refine LeO.ite ?_ ?_
      | refine LeO.bind ?_ (fun _ => ?_)
set_option maxHeartbeats 8000000 in
set_option maxRecDepth 100000 in
theorem crossbarlaw30_prefix.calls (k : Nat) (A0 : Option Addr) (c0 : Nat) (l0 : List (S39)) (A1 : Option Addr) (c1 : Nat) (l1 : List (S39)) (r : Bool) (w : World) (hr0 : Kd.C k39 w A0 l0.length l0) (hc0 : l0.length ≤ c0) (hr1 : Kd.C k39 w A1 l1.length l1) (hc1 : l1.length ≤ c1) (h : crossbarlaw30_prefix.f k l0 l1 = some r) :
    Calls Try.prog 40 #[.slice A0 l0.length c0, .slice A1 l1.length c1] w fun e w' => e = .returned (.bool r) ∧ Drawn0 w w' := by
  have HR0 := Aside0.mk hr0
  have HC0 := Aside0.mk hc0
  clear hr0 hc0
  have HR1 := Aside0.mk hr1
  have HC1 := Aside0.mk hc1
  clear hr1 hc1
  have H : (if (l0.length : Int) ≤ (l1.length : Int) then (if 0 ≤ (l0.length : Int) then ((crossbarref30_SameRecords.f k l0 (l1.take ((l0.length : Int) : Int).toNat)).bind fun t539 => (some t539)) else (none)) else (some false)) = some r := h
  clear h
  by_cases c3 : (l0.length : Int) ≤ (l1.length : Int)
  · rw [if_pos c3] at H
    have c3b0 : decide ((l0.length : Int) ≤ (l1.length : Int)) = true := decide_eq_true c3
    have c3b1 : decide (l0.length ≤ l1.length) = true := decide_eq_true (Int.ofNat_le.mp c3)
    clear c3
    by_cases c4 : 0 ≤ (l0.length : Int)
    · rw [if_pos c4] at H
      have c4b0 := eq_true c4
      have c4b1 : decide (0 ≤ (l0.length : Int)) = true := decide_eq_true c4
      clear c4
      have c5b0 := eq_true (of_decide_eq_true (by first | (with_reducible assumption) | assumption) : (l0.length : Int) ≤ (l1.length : Int))
      obtain ⟨y535, hy535⟩ : ∃ y_ : List (S39), y_ = (l1.take ((l0.length : Int) : Int).toNat) := ⟨_, rfl⟩
      replace H : ((crossbarref30_SameRecords.f k l0 y535).bind fun t539 => (some t539)) = some r := by first | (rw [hy535]; with_reducible exact H) | (have H2_ := (Option.bind_some _ _).symm.trans H; rw [hy535]; with_reducible exact H2_) | (have H2_ := (Option.bind_some _ _).symm.trans H; with_reducible exact H2_) | with_reducible exact H | (rw [hy535]; exact H) | exact H
      have Ny535 := Aside0.mk hy535
      clear hy535
      replace H := Option.bind_eq_some_iff.mp H
      obtain ⟨t539, A60, H⟩ := H
      replace H : (some t539) = some r := H
      have A6 := Aside0.mk A60
      clear A60
      obtain rfl := Option.some.inj H
      have q7 : ((l0.length : Int) : Int) ≤ ((l1.length : Int) : Int) := of_decide_eq_true (by first | (with_reducible assumption) | assumption)
      obtain ⟨i07, hi07, _, hsz7, _⟩ := info_parts info39
      have hroom7 : l1.length ≤ c1 := HC1.out
      have hC7 : Kd.C k39 _ A1 l1.length l1 := HR1.out
      have hcut7 := cut_to (P := Try.prog) 28 39 .i64 Try.underlying28 hi07 A1 l1.length c1 (l0.length : Int) (of_decide_eq_true (by first | (with_reducible assumption) | assumption)) q7 hroom7
      have hr7 := Kd.C_take (m := ((l0.length : Int) : Int).toNat) hC7 (by omega)
      have hy7 : y535.length = ((l0.length : Int) : Int).toNat := (by rw [Ny535.out, List.length_take]; omega)
      rw [← Ny535.out] at hr7
      rw [← hy7] at hcut7
      have HR538 := Aside0.mk hr7
      have HC538 := Aside0.mk (show y535.length ≤ c1 from by omega)
      clear hr7 hC7 hroom7 hi07 hsz7
      have KY7 := Aside0.mk hy7
      clear hy7
      replace q7 := eq_true q7
      go_enter Try.func40, Try.ntmps40
      go_wp2_with (first | (go_at_call 42; (with_reducible refine (crossbarref30_SameRecords.calls k _ _ l0 _ _ y535 t539 _ ?side1 ?side2 ?side3 ?side4 A6.out).mono ?_); (case side1 => repeat (first | exact HR0.out | (with_reducible refine Kd.C_alloc ?_ _) | (with_reducible refine Kd.C_drewN ?_ _) | (with_reducible refine Kd.C_drew ?_))); (case side2 => exact HC0.out); (case side3 => repeat (first | exact HR538.out | (with_reducible refine Kd.C_alloc ?_ _) | (with_reducible refine Kd.C_drewN ?_ _) | (with_reducible refine Kd.C_drew ?_))); (case side4 => exact HC538.out); rintro e w' ⟨rfl, ⟨nd, rfl⟩⟩))
      go_ret
      exact ⟨by first | rfl | (simp; done) | (simp [*]; done), by repeat (first | exact Drawn0.refl _ | apply Drawn0.step)⟩
    · rw [if_neg c4] at H
      exact absurd H (by simp)
  · rw [if_neg c3] at H
    have c3b0 : decide ((l0.length : Int) ≤ (l1.length : Int)) = false := decide_eq_false c3
    have c3b1 : decide (l0.length ≤ l1.length) = false := decide_eq_false (fun h => c3 (Int.ofNat_le.mpr h))
    clear c3
    obtain rfl := Option.some.inj H
    go_enter Try.func40, Try.ntmps40
    go_wp2
    go_ret
    exact ⟨by first | rfl | (simp; done) | (simp [*]; done), by repeat (first | exact Drawn0.refl _ | apply Drawn0.step)⟩

-- NOT PRINTED: function 12 (crossbarlaw30_ClearingDeliversExactlyOnce)

-- NOT PRINTED: function 13 (crossbarlaw30_ClearingDeliversAll)

/-! ### crossbarref30_Few: function 43 -/
def crossbarref30_Few.l0 : Nat → Int → Int → List (List (S39)) → Int → Int → List (S39) → Bool → Int → Option (Bool)
  | 0, _, _, _, _, _, _, _, _ => none
  | k + 1, x3, x4, x543000, x543001, x543002, x543003, x543004, x543005 => if x4 < (x543000.length : Int) then (if x4 < 80 then (if 0 ≤ x4 then (crossbarref30_Few.l0 k (wrap64 (x3 + ((rd_L7 x543000 x4).length : Int))) (wrap64 (x4 + 1)) x543000 x543001 x543002 x543003 x543004 x543005) else (none)) else (if (x543000.length : Int) ≤ 80 then (some (decide (x3 ≤ 4000))) else (some false))) else (if (x543000.length : Int) ≤ 80 then (some (decide (x3 ≤ 4000))) else (some false))
def crossbarref30_Few.f (k : Nat) (l0_0 : List (List (S39))) (a0_1 : Int) (a0_2 : Int) (l0_3 : List (S39)) (a0_4 : Bool) (a0_5 : Int) : Option (Bool) := crossbarref30_Few.l0 k (l0_3.length : Int) 0 l0_0 a0_1 a0_2 l0_3 a0_4 a0_5
theorem crossbarref30_Few.mono_l : ∀ k, (∀ y0 y1 y2 y3 y4 y5 y6 y7, LeO (crossbarref30_Few.l0 k y0 y1 y2 y3 y4 y5 y6 y7) (crossbarref30_Few.l0 (k + 1) y0 y1 y2 y3 y4 y5 y6 y7))
  | 0 => fun _ _ _ _ _ _ _ _ r h => by simp [crossbarref30_Few.l0] at h
  | k + 1 => by
    have ih0 := crossbarref30_Few.mono_l k
    · intro y0 y1 y2 y3 y4 y5 y6 y7
      unfold crossbarref30_Few.l0
      repeat' first
      | (with_reducible exact ih0 _ _ _ _ _ _ _ _)
      | (with_reducible exact LeO.refl _)
      | (with_reducible exact LeO.none _)
      | (with_reducible refine LeO.ite ?_ ?_)
      | (with_reducible refine LeO.bind ?_ (fun _ => ?_))
      | exact ih0 _ _ _ _ _ _ _ _
      | exact LeO.none _
      | refine LeO.ite ?_ ?_
      | refine LeO.bind ?_ (fun _ => ?_)
theorem crossbarref30_Few.mono : ∀ a0 a1 a2 a3 a4 a5 k, LeO (crossbarref30_Few.f k a0 a1 a2 a3 a4 a5) (crossbarref30_Few.f (k + 1) a0 a1 a2 a3 a4 a5) := by
  intro a0 a1 a2 a3 a4 a5 k
  have ih0 := crossbarref30_Few.mono_l k
  unfold crossbarref30_Few.f
  repeat' first
      | (with_reducible exact ih0 _ _ _ _ _ _ _ _)
      | (with_reducible exact LeO.refl _)
      | (with_reducible exact LeO.none _)
      | (with_reducible refine LeO.ite ?_ ?_)
      | (with_reducible refine LeO.bind ?_ (fun _ => ?_))
      | exact ih0 _ _ _ _ _ _ _ _
      | exact LeO.none _
      | refine LeO.ite ?_ ?_
      | refine LeO.bind ?_ (fun _ => ?_)
set_option maxHeartbeats 8000000 in
set_option maxRecDepth 100000 in
theorem crossbarref30_Few.calls (k : Nat) (A0_0 : Option Addr) (c0_0 : Nat) (l0_0 : List (List (S39))) (a0_1 : Int) (a0_2 : Int) (A0_3 : Option Addr) (c0_3 : Nat) (l0_3 : List (S39)) (a0_4 : Bool) (a0_5 : Int) (r : Bool) (w : World) (hr0_0 : Kd.C (Kd.slice 39 k39) w A0_0 l0_0.length l0_0) (hc0_0 : l0_0.length ≤ c0_0) (hr0_3 : Kd.C k39 w A0_3 l0_3.length l0_3) (hc0_3 : l0_3.length ≤ c0_3) (h : crossbarref30_Few.f k l0_0 a0_1 a0_2 l0_3 a0_4 a0_5 = some r) :
    Calls Try.prog 43 #[.agg #[.slice A0_0 l0_0.length c0_0, .int .i64 a0_1, .int .i64 a0_2, .slice A0_3 l0_3.length c0_3, .bool a0_4, .int .i64 a0_5]] w fun e w' => e = .returned (.bool r) ∧ Below w.heap.size w w' := by
  have hu61 := Try.underlying61
  have HR0_0 := Aside0.mk hr0_0
  have HC0_0 := Aside0.mk hc0_0
  clear hr0_0 hc0_0
  have HR0_3 := Aside0.mk hr0_3
  have HC0_3 := Aside0.mk hc0_3
  clear hr0_3 hc0_3
  have HB := Aside0.mk (Below.refl w.heap.size w)
  have H : (crossbarref30_Few.l0 k (l0_3.length : Int) 0 l0_0 a0_1 a0_2 l0_3 a0_4 a0_5) = some r := h
  clear h
  have H' := Aside0.mk H
  clear H
  go_enter Try.func43, Try.ntmps43
  go_wp2_with (first | ((with_reducible refine gate_dst (N := 1) rfl ?_); refine box_event ?hg (N := 1) ?hd (cs := #[.slice A0_0 l0_0.length c0_0, .int .i64 a0_1, .int .i64 a0_2, .slice A0_3 l0_3.length c0_3, .bool a0_4, .int .i64 a0_5]) (t := 61) ?hr ?_; (case hd => rfl); (case hg => rfl); (case hr => first | (go_simp; done) | (go_simp; rfl)); intro gb542 hg w2 hbox hb; have n0_ := Aside0.mk (below_step (by repeat (first | (with_reducible first | exact HB.out | apply below_alloc | apply pw_below_drewN | apply below_drew1) | exact HB.out)) hb); have n1_ := Aside0.mk (hbox); have n2_ := Aside0.mk ((by rw [hg]; exact (below_size (by repeat (first | (with_reducible first | exact HB.out | apply below_alloc | apply pw_below_drewN | apply below_drew1) | exact HB.out))) : w.heap.size ≤ gb542)); have n3_ := Aside0.mk ((by rw [hg]; exact (below_size (by repeat (first | (with_reducible first | exact HB.out | apply below_alloc | apply pw_below_drewN | apply below_drew1) | exact HB.out))) : w.heap.size ≤ gb542)); clear HB; have HB := n0_; have BK542 := n1_; have GW542 := n2_; have GE542 := n3_; clear n0_ n1_ n2_ n3_; clear hb hbox hg; have hcz3_0 : w2.cell? ⟨gb542, 0, none⟩ = some (.slice A0_0 l0_0.length c0_0) := (blk_cell BK542.out 0).trans rfl; have hcz3_1 : w2.cell? ⟨gb542, 1, none⟩ = some (.int .i64 a0_1) := (blk_cell BK542.out 1).trans rfl; have hcz3_2 : w2.cell? ⟨gb542, 2, none⟩ = some (.int .i64 a0_2) := (blk_cell BK542.out 2).trans rfl; have hcz3_3 : w2.cell? ⟨gb542, 3, none⟩ = some (.slice A0_3 l0_3.length c0_3) := (blk_cell BK542.out 3).trans rfl; have hcz3_4 : w2.cell? ⟨gb542, 4, none⟩ = some (.bool a0_4) := (blk_cell BK542.out 4).trans rfl; have hcz3_5 : w2.cell? ⟨gb542, 5, none⟩ = some (.int .i64 a0_5) := (blk_cell BK542.out 5).trans rfl; have hfz3_0 := blk_frozen BK542.out 0; have hfz3_1 := blk_frozen BK542.out 1; have hfz3_2 := blk_frozen BK542.out 2; have hfz3_3 := blk_frozen BK542.out 3; have hfz3_4 := blk_frozen BK542.out 4; have hfz3_5 := blk_frozen BK542.out 5))
  go_loopg [3, 4] k (fun kq v3 v4 w' => ∃ (x3_1 : Int) (x4_1 : Int), v3 = .int .i64 x3_1 ∧ v4 = .int .i64 x4_1 ∧ Aside0 (crossbarref30_Few.l0 kq x3_1 x4_1 l0_0 a0_1 a0_2 l0_3 a0_4 a0_5 = some r) ∧ Aside0 (kq ≤ k) ∧ Aside0 (w'.heap[gb542]? = some (.cells #[(.slice A0_0 l0_0.length c0_0), .int .i64 a0_1, .int .i64 a0_2, (.slice A0_3 l0_3.length c0_3), .bool a0_4, .int .i64 a0_5] 61 (0, 0))) ∧ Aside0 (Below w.heap.size w w'))
  case atStart => exact ⟨((l0_3.length : Int)), (0), (by first | rfl | (simp; done) | (simp [*]; done)), (by first | rfl | (simp; done) | (simp [*]; done)), H', ⟨Nat.le_refl _⟩, ⟨by (with_reducible repeat (first | refine blk_drewN ?_ _ | refine blk_drew ?_ | refine blk_alloc ?_ _)); exact BK542.out⟩, ⟨by repeat (first | (with_reducible first | exact HB.out | apply below_alloc | apply pw_below_drewN | apply below_drew1 | refine below_set ?_ GE542.out) | exact HB.out)⟩⟩
  case round =>
    clear H'
    try clear p2
    try clear hcz3_0
    try clear hcz3_1
    try clear hcz3_2
    try clear hcz3_3
    try clear hcz3_4
    try clear hcz3_5
    try clear hfz3_0
    try clear hfz3_1
    try clear hfz3_2
    try clear hfz3_3
    try clear hfz3_4
    try clear hfz3_5
    obtain ⟨x3_1, x4_1, rfl, rfl, HA, HK1, BK542, HB⟩ := hrel
    cases gk with
    | zero => exact absurd HA.out (by simp [crossbarref30_Few.l0])
    | succ k1 =>
      have H := HA.out
      clear HA
      simp only [crossbarref30_Few.l0] at H
      by_cases c4 : x4_1 < (l0_0.length : Int)
      · rw [if_pos c4] at H
        have c4b0 : decide (x4_1 < (l0_0.length : Int)) = true := decide_eq_true c4
        clear c4
        by_cases c5 : x4_1 < 80
        · rw [if_pos c5] at H
          have c5b0 : decide (x4_1 < 80) = true := decide_eq_true c5
          clear c5
          by_cases c6 : 0 ≤ x4_1
          · rw [if_pos c6] at H
            have c6b0 : decide (0 ≤ x4_1) = true := decide_eq_true c6
            clear c6
            have H' := Aside0.mk H
            clear H
            have hcz7_0 : wr.cell? ⟨gb542, 0, none⟩ = some (.slice A0_0 l0_0.length c0_0) := (blk_cell BK542.out 0).trans rfl
            have hcz7_1 : wr.cell? ⟨gb542, 1, none⟩ = some (.int .i64 a0_1) := (blk_cell BK542.out 1).trans rfl
            have hcz7_2 : wr.cell? ⟨gb542, 2, none⟩ = some (.int .i64 a0_2) := (blk_cell BK542.out 2).trans rfl
            have hcz7_3 : wr.cell? ⟨gb542, 3, none⟩ = some (.slice A0_3 l0_3.length c0_3) := (blk_cell BK542.out 3).trans rfl
            have hcz7_4 : wr.cell? ⟨gb542, 4, none⟩ = some (.bool a0_4) := (blk_cell BK542.out 4).trans rfl
            have hcz7_5 : wr.cell? ⟨gb542, 5, none⟩ = some (.int .i64 a0_5) := (blk_cell BK542.out 5).trans rfl
            have hfz7_0 := blk_frozen BK542.out 0
            have hfz7_1 := blk_frozen BK542.out 1
            have hfz7_2 := blk_frozen BK542.out 2
            have hfz7_3 := blk_frozen BK542.out 3
            have hfz7_4 := blk_frozen BK542.out 4
            have hfz7_5 := blk_frozen BK542.out 5
            have p543 : 0 ≤ (x4_1 : Int) := of_decide_eq_true (by first | (with_reducible assumption) | assumption)
            have q543 : x4_1 < (l0_0.length : Int) := of_decide_eq_true (by first | (with_reducible assumption) | assumption)
            obtain ⟨ad543, A543_0, c543_0, e543, hx543_0, hl543_0, hi543_0⟩ := at_L7 HR0_0.out x4_1 p543 q543
            cases e543
            replace hx543_0 := (HB.out.cell (World.block_lt_of_cell? w _ hx543_0)).trans hx543_0
            have HR543_0 := Aside0.mk hi543_0
            have HC543_0 := Aside0.mk hl543_0
            clear hi543_0 hl543_0
            replace p543 := eq_true p543
            replace q543 := eq_true q543
            go_wp2
            go_roundg k1
            case measure => have := HK1.out; omega
            case rel => exact ⟨(wrap64 (x3_1 + ((rd_L7 l0_0 x4_1).length : Int))), (wrap64 (x4_1 + 1)), (by first | rfl | (simp; done) | (simp [*]; done)), (by first | rfl | (simp; done) | (simp [*]; done)), H', ⟨by have := HK1.out; omega⟩, ⟨by (with_reducible repeat (first | refine blk_drewN ?_ _ | refine blk_drew ?_ | refine blk_alloc ?_ _)); exact BK542.out⟩, ⟨by repeat (first | (with_reducible first | exact HB.out | apply below_alloc | apply pw_below_drewN | apply below_drew1 | refine below_set ?_ GE542.out) | exact HB.out)⟩⟩
          · rw [if_neg c6] at H
            exact absurd H (by simp)
        · rw [if_neg c5] at H
          have c5b0 : decide (x4_1 < 80) = false := decide_eq_false c5
          clear c5
          by_cases c8 : (l0_0.length : Int) ≤ 80
          · rw [if_pos c8] at H
            have c8b0 : decide ((l0_0.length : Int) ≤ 80) = true := decide_eq_true c8
            have c8b1 : decide (l0_0.length ≤ 80) = true := decide_eq_true (by omega)
            clear c8
            obtain rfl := Option.some.inj H
            have hcz9_0 : wr.cell? ⟨gb542, 0, none⟩ = some (.slice A0_0 l0_0.length c0_0) := (blk_cell BK542.out 0).trans rfl
            have hcz9_1 : wr.cell? ⟨gb542, 1, none⟩ = some (.int .i64 a0_1) := (blk_cell BK542.out 1).trans rfl
            have hcz9_2 : wr.cell? ⟨gb542, 2, none⟩ = some (.int .i64 a0_2) := (blk_cell BK542.out 2).trans rfl
            have hcz9_3 : wr.cell? ⟨gb542, 3, none⟩ = some (.slice A0_3 l0_3.length c0_3) := (blk_cell BK542.out 3).trans rfl
            have hcz9_4 : wr.cell? ⟨gb542, 4, none⟩ = some (.bool a0_4) := (blk_cell BK542.out 4).trans rfl
            have hcz9_5 : wr.cell? ⟨gb542, 5, none⟩ = some (.int .i64 a0_5) := (blk_cell BK542.out 5).trans rfl
            have hfz9_0 := blk_frozen BK542.out 0
            have hfz9_1 := blk_frozen BK542.out 1
            have hfz9_2 := blk_frozen BK542.out 2
            have hfz9_3 := blk_frozen BK542.out 3
            have hfz9_4 := blk_frozen BK542.out 4
            have hfz9_5 := blk_frozen BK542.out 5
            go_wp2
            go_ret
            exact ⟨by first | rfl | (simp [errW_none, errW_some] <;> rfl) | (simp [*, errW_none, errW_some] <;> rfl), by repeat (first | (with_reducible first | exact HB.out | apply below_alloc | apply pw_below_drewN | apply below_drew1 | refine below_set ?_ GE542.out) | exact HB.out)⟩
          · rw [if_neg c8] at H
            have c8b0 : decide ((l0_0.length : Int) ≤ 80) = false := decide_eq_false c8
            have c8b1 : decide (l0_0.length ≤ 80) = false := decide_eq_false (by omega)
            clear c8
            obtain rfl := Option.some.inj H
            have hcz10_0 : wr.cell? ⟨gb542, 0, none⟩ = some (.slice A0_0 l0_0.length c0_0) := (blk_cell BK542.out 0).trans rfl
            have hcz10_1 : wr.cell? ⟨gb542, 1, none⟩ = some (.int .i64 a0_1) := (blk_cell BK542.out 1).trans rfl
            have hcz10_2 : wr.cell? ⟨gb542, 2, none⟩ = some (.int .i64 a0_2) := (blk_cell BK542.out 2).trans rfl
            have hcz10_3 : wr.cell? ⟨gb542, 3, none⟩ = some (.slice A0_3 l0_3.length c0_3) := (blk_cell BK542.out 3).trans rfl
            have hcz10_4 : wr.cell? ⟨gb542, 4, none⟩ = some (.bool a0_4) := (blk_cell BK542.out 4).trans rfl
            have hcz10_5 : wr.cell? ⟨gb542, 5, none⟩ = some (.int .i64 a0_5) := (blk_cell BK542.out 5).trans rfl
            have hfz10_0 := blk_frozen BK542.out 0
            have hfz10_1 := blk_frozen BK542.out 1
            have hfz10_2 := blk_frozen BK542.out 2
            have hfz10_3 := blk_frozen BK542.out 3
            have hfz10_4 := blk_frozen BK542.out 4
            have hfz10_5 := blk_frozen BK542.out 5
            go_wp2
            go_ret
            exact ⟨by first | rfl | (simp [errW_none, errW_some] <;> rfl) | (simp [*, errW_none, errW_some] <;> rfl), by repeat (first | (with_reducible first | exact HB.out | apply below_alloc | apply pw_below_drewN | apply below_drew1 | refine below_set ?_ GE542.out) | exact HB.out)⟩
      · rw [if_neg c4] at H
        have c4b0 : decide (x4_1 < (l0_0.length : Int)) = false := decide_eq_false c4
        clear c4
        by_cases c11 : (l0_0.length : Int) ≤ 80
        · rw [if_pos c11] at H
          have c11b0 : decide ((l0_0.length : Int) ≤ 80) = true := decide_eq_true c11
          have c11b1 : decide (l0_0.length ≤ 80) = true := decide_eq_true (by omega)
          clear c11
          obtain rfl := Option.some.inj H
          have hcz12_0 : wr.cell? ⟨gb542, 0, none⟩ = some (.slice A0_0 l0_0.length c0_0) := (blk_cell BK542.out 0).trans rfl
          have hcz12_1 : wr.cell? ⟨gb542, 1, none⟩ = some (.int .i64 a0_1) := (blk_cell BK542.out 1).trans rfl
          have hcz12_2 : wr.cell? ⟨gb542, 2, none⟩ = some (.int .i64 a0_2) := (blk_cell BK542.out 2).trans rfl
          have hcz12_3 : wr.cell? ⟨gb542, 3, none⟩ = some (.slice A0_3 l0_3.length c0_3) := (blk_cell BK542.out 3).trans rfl
          have hcz12_4 : wr.cell? ⟨gb542, 4, none⟩ = some (.bool a0_4) := (blk_cell BK542.out 4).trans rfl
          have hcz12_5 : wr.cell? ⟨gb542, 5, none⟩ = some (.int .i64 a0_5) := (blk_cell BK542.out 5).trans rfl
          have hfz12_0 := blk_frozen BK542.out 0
          have hfz12_1 := blk_frozen BK542.out 1
          have hfz12_2 := blk_frozen BK542.out 2
          have hfz12_3 := blk_frozen BK542.out 3
          have hfz12_4 := blk_frozen BK542.out 4
          have hfz12_5 := blk_frozen BK542.out 5
          go_wp2
          go_ret
          exact ⟨by first | rfl | (simp [errW_none, errW_some] <;> rfl) | (simp [*, errW_none, errW_some] <;> rfl), by repeat (first | (with_reducible first | exact HB.out | apply below_alloc | apply pw_below_drewN | apply below_drew1 | refine below_set ?_ GE542.out) | exact HB.out)⟩
        · rw [if_neg c11] at H
          have c11b0 : decide ((l0_0.length : Int) ≤ 80) = false := decide_eq_false c11
          have c11b1 : decide (l0_0.length ≤ 80) = false := decide_eq_false (by omega)
          clear c11
          obtain rfl := Option.some.inj H
          have hcz13_0 : wr.cell? ⟨gb542, 0, none⟩ = some (.slice A0_0 l0_0.length c0_0) := (blk_cell BK542.out 0).trans rfl
          have hcz13_1 : wr.cell? ⟨gb542, 1, none⟩ = some (.int .i64 a0_1) := (blk_cell BK542.out 1).trans rfl
          have hcz13_2 : wr.cell? ⟨gb542, 2, none⟩ = some (.int .i64 a0_2) := (blk_cell BK542.out 2).trans rfl
          have hcz13_3 : wr.cell? ⟨gb542, 3, none⟩ = some (.slice A0_3 l0_3.length c0_3) := (blk_cell BK542.out 3).trans rfl
          have hcz13_4 : wr.cell? ⟨gb542, 4, none⟩ = some (.bool a0_4) := (blk_cell BK542.out 4).trans rfl
          have hcz13_5 : wr.cell? ⟨gb542, 5, none⟩ = some (.int .i64 a0_5) := (blk_cell BK542.out 5).trans rfl
          have hfz13_0 := blk_frozen BK542.out 0
          have hfz13_1 := blk_frozen BK542.out 1
          have hfz13_2 := blk_frozen BK542.out 2
          have hfz13_3 := blk_frozen BK542.out 3
          have hfz13_4 := blk_frozen BK542.out 4
          have hfz13_5 := blk_frozen BK542.out 5
          go_wp2
          go_ret
          exact ⟨by first | rfl | (simp [errW_none, errW_some] <;> rfl) | (simp [*, errW_none, errW_some] <;> rfl), by repeat (first | (with_reducible first | exact HB.out | apply below_alloc | apply pw_below_drewN | apply below_drew1 | refine below_set ?_ GE542.out) | exact HB.out)⟩

end Go.Proofs.Ytbfhohpbldadbaa.P
