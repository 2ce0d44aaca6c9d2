/- Texts of this claim, merged and cut to what its theorem reaches, by a program of this session: words and contracts that the print (or a changed scratch copy of it) wrote, and own proofs. -/
import Derived.Test.YtbfhohpbldadbaaEcS1
import Derived.Below
import Derived.Deep.Draws
import Derived.Deep.AppendLies
import Derived.Maps.AppendAt
import Derived.OwnWalk
import Derived.Laws.BytesArg
import Derived.Laws.MakeOwn
import Derived.Laws.OwnMore
import Derived.Deep.OwnRows
import Derived.Tactics
import Derived.Lib.ConvBytes
import Derived.Laws.Slices
import Derived.WalkKit
import Derived.KernelRfl
import Derived.RowKit3
import Derived.Deep.LoopGhost
import Derived.Deep.QuietTactic
import Derived.BigQuiet
import Derived.WideLaws
import Derived.Deep.DeepCutAuto
import Derived.Deep.CutBlock
import Derived.Deep.RegionHeld3
import Derived.Laws.Rows
import Derived.Lib.AppendStr
import Derived.ArgAppend
import Derived.Laws.IdiomCopy
import Derived.RowKit
import Derived.Laws.StructEq
import Derived.Test.YtbfhohpbldadbaaProg
import Derived.OrdersHeld
import Derived.Laws.BitsLemmas
import Derived.Lib.Hide
import Derived.WalkSpells
import Derived.Lib.OthersKept
import Derived.Lib.TrimU
import Derived.Laws.RangeAny
import Derived.Maps.Keyed
import Derived.WideKeyRuns
import Derived.Lib.SliceRun
import Derived.Deep.RegionWith
import Derived.RangeFuncNested
import Derived.RangeFuncBound
import Derived.RangeFuncCalls
import Derived.RangeFuncLeaves
import Derived.Shelf.Abstract
import Derived.Shelf.RegionOpen
import Derived.OwnWalkIn
import Derived.TacticsInMore
import Derived.LoopNIn
import Derived.LoopIn
import Derived.Test.YtbfhohpbldadbaaEc2
-- Written by a program of this session out of the translation (a changed scratch copy of the print). Not trusted: Lean checks it.
namespace Go.Proofs.Ytbfhohpbldadbaa.P
open Go.RowKit Go.Proofs.YtbfhohpbldadbaaW.PrintWords Go.Proofs.YtbfhohpbldadbaaW.PrintLast Go.Proofs.YtbfhohpbldadbaaW.PrintMore
attribute [local go_sem] max2_int min2_int max_two min_two max_three min_three max_four min_four   -- for this text's walks alone
set_option linter.unusedVariables false
set_option linter.unusedSimpArgs false

/-! ### tariff_Rate: function 31 -/
def tariff_Rate.f (k : Nat) (l0_0 : List (S110)) (a1 : Int) : Option (Int × Int) := (tariff_Check.f k l0_0).bind fun t447 => (if t447 = 0 then ((tariff_within.f a1 0 1099511627776).bind fun t448 => (if t448 = true then ((tariff_band.f l0_0 (Int.tmod a1 86400)).bind fun t449 => (if 0 ≤ t449 then (if t449 < (l0_0.length : Int) then (some ((rd_T110 l0_0 t449).f1, 0)) else (none)) else (none))) else (some (0, 1)))) else (some (0, t447)))
theorem tariff_Rate.mono : ∀ a0 a1 k, LeO (tariff_Rate.f k a0 a1) (tariff_Rate.f (k + 1) a0 a1) := by
  intro a0 a1 k
  unfold tariff_Rate.f
  repeat' first
      | (with_reducible exact tariff_Check.mono _ _)
      | (with_reducible exact LeO.refl _)
      | (with_reducible exact LeO.none _)
      | (with_reducible refine LeO.ite ?_ ?_)
      | (with_reducible refine LeO.bind ?_ (fun _ => ?_))
      | exact tariff_Check.mono _ _
      | exact LeO.none _
      | refine LeO.ite ?_ ?_
      | refine LeO.bind ?_ (fun _ => ?_)
def tariff_Rate.T6 : Bool × List (List Nat × List Nat) := (true, [([], []), ([0], [0]), ([], []), ([], []), ([3], [3]), ([2, 4], [2, 4]), ([1, 5], [1, 5]), ([6], [6]), ([7], [7]), ([8, 5, 0, 1, 2, 3, 4, 5, 6, 7, 8], [8]), ([9, 0, 1, 2, 3, 4, 5, 6, 7, 8, 9], [])])
def tariff_Rate.B6 : List Nat := [0, 1, 0, 0, 8, 28, 63, 127, 255, 511, 1023]
theorem tariff_Rate.tab6 : rtab .any (opsOf Try.f31 6) = tariff_Rate.T6 := by kernel_rfl
theorem tariff_Rate.bits6 : waitsOk tariff_Rate.T6.2 tariff_Rate.B6 = true := by kernel_rfl
set_option maxHeartbeats 8000000 in
set_option maxRecDepth 100000 in
theorem tariff_Rate.calls (k : Nat) (A0_0 : Option Addr) (c0_0 : Nat) (l0_0 : List (S110)) (a1 : Int) (r1 : Int) (r2 : Int) (w : World) (hr0_0 : Kd.C k110 w A0_0 l0_0.length l0_0) (hc0_0 : l0_0.length ≤ c0_0) (h : tariff_Rate.f k l0_0 a1 = some (r1, r2)) :
    Calls Try.prog 31 #[.agg #[.slice A0_0 l0_0.length c0_0], .int .i64 a1] w fun e w' => e = .returned (.tuple #[.int .i64 r1, .int .i64 r2]) ∧ Below w.heap.size w w' := by
  have hu25 := Try.underlying25
  have HR0_0 := Aside0.mk hr0_0
  have HC0_0 := Aside0.mk hc0_0
  clear hr0_0 hc0_0
  have HB := Aside0.mk (Below.refl w.heap.size w)
  have H : ((tariff_Check.f k l0_0).bind fun t447 => (if t447 = 0 then ((tariff_within.f a1 0 1099511627776).bind fun t448 => (if t448 = true then ((tariff_band.f l0_0 (Int.tmod a1 86400)).bind fun t449 => (if 0 ≤ t449 then (if t449 < (l0_0.length : Int) then (some ((rd_T110 l0_0 t449).f1, 0)) else (none)) else (none))) else (some (0, 1)))) else (some (0, t447)))) = some (r1, r2) := h
  clear h
  replace H := Option.bind_eq_some_iff.mp H
  obtain ⟨t447, A30, H⟩ := H
  replace H : (if t447 = 0 then ((tariff_within.f a1 0 1099511627776).bind fun t448 => (if t448 = true then ((tariff_band.f l0_0 (Int.tmod a1 86400)).bind fun t449 => (if 0 ≤ t449 then (if t449 < (l0_0.length : Int) then (some ((rd_T110 l0_0 t449).f1, 0)) else (none)) else (none))) else (some (0, 1)))) else (some (0, t447))) = some (r1, r2) := H
  have A3 := Aside0.mk A30
  clear A30
  by_cases c4 : t447 = 0
  · rw [if_pos c4] at H
    have c4b0 : (t447 == 0) = true := beq_iff_eq.mpr c4
    have c4b1 : (t447 != 0) = false := bne_eq_false_iff_eq.mpr c4
    clear c4
    replace H := Option.bind_eq_some_iff.mp H
    obtain ⟨t448, A50, H⟩ := H
    replace H : (if t448 = true then ((tariff_band.f l0_0 (Int.tmod a1 86400)).bind fun t449 => (if 0 ≤ t449 then (if t449 < (l0_0.length : Int) then (some ((rd_T110 l0_0 t449).f1, 0)) else (none)) else (none))) else (some (0, 1))) = some (r1, r2) := H
    have A5 := Aside0.mk A50
    clear A50
    by_cases c6 : t448 = true
    · subst c6
      have H1 : ((tariff_band.f l0_0 (Int.tmod a1 86400)).bind fun t449 => (if 0 ≤ t449 then (if t449 < (l0_0.length : Int) then (some ((rd_T110 l0_0 t449).f1, 0)) else (none)) else (none))) = some (r1, r2) := by rw [if_pos rfl] at H; exact H
      clear H
      have H := H1
      clear H1
      replace H := Option.bind_eq_some_iff.mp H
      obtain ⟨t449, A70, H⟩ := H
      replace H : (if 0 ≤ t449 then (if t449 < (l0_0.length : Int) then (some ((rd_T110 l0_0 t449).f1, 0)) else (none)) else (none)) = some (r1, r2) := H
      have A7 := Aside0.mk A70
      clear A70
      by_cases c8 : 0 ≤ t449
      · rw [if_pos c8] at H
        have c8b0 : decide (0 ≤ t449) = true := decide_eq_true c8
        clear c8
        by_cases c9 : t449 < (l0_0.length : Int)
        · rw [if_pos c9] at H
          have c9b0 : decide (t449 < (l0_0.length : Int)) = true := decide_eq_true c9
          clear c9
          simp only [Option.some.injEq, Prod.mk.injEq] at H
          obtain ⟨rfl, rfl⟩ := H
          go_enter Try.func31, Try.ntmps31
          try go_wp2_with (first | ((with_reducible refine gate_dst (N := 2) rfl ?_); refine box_event ?hg (N := 2) ?hd (cs := #[.slice A0_0 l0_0.length c0_0]) (t := 25) ?hr ?_; (case hd => rfl); (case hg => rfl); (case hr => first | (go_simp; done) | (go_simp; rfl)); intro gb446 hg w10 hbox hb; have n0_ := Aside0.mk (below_step (by repeat (first | (with_reducible first | exact HB.out | apply below_alloc | apply pw_below_drewN | apply below_drew1) | exact HB.out)) hb); have n1_ := Aside0.mk (hbox); have n2_ := Aside0.mk ((by rw [hg]; exact (below_size (by repeat (first | (with_reducible first | exact HB.out | apply below_alloc | apply pw_below_drewN | apply below_drew1) | exact HB.out))) : w.heap.size ≤ gb446)); have n3_ := Aside0.mk ((by rw [hg]; exact (below_size (by repeat (first | (with_reducible first | exact HB.out | apply below_alloc | apply pw_below_drewN | apply below_drew1) | exact HB.out))) : w.heap.size ≤ gb446)); clear HB; have HB := n0_; have BK446 := n1_; have GW446 := n2_; have GE446 := n3_; clear n0_ n1_ n2_ n3_; clear hb hbox hg; have hcz11_0 : w10.cell? ⟨gb446, 0, none⟩ = some (.slice A0_0 l0_0.length c0_0) := (blk_cell BK446.out 0).trans rfl; have hfz11_0 := blk_frozen BK446.out 0) | ((with_reducible refine gate_callee (f := 30) rfl ?_); refine goesL_ (some 8) rfl rfl Try.func30 (by kernel_rfl) rfl #[.agg #[.slice A0_0 l0_0.length c0_0]] rfl (by (try simp only [List.map_toArray, List.map_cons, List.map_nil]); first | done | rfl | (simp only [List.length_drop, List.length_take]; rfl)) ?_; (with_reducible refine (tariff_Check.calls k _ _ l0_0 t447 _ ?side1 ?side2 A3.out).mono ?_); (case side1 => repeat (first | exact (Kd.C_below HR0_0.out HB.out) | (with_reducible refine Kd.C_alloc ?_ _) | (with_reducible refine Kd.C_drewN ?_ _) | (with_reducible refine Kd.C_drew ?_))); (case side2 => exact HC0_0.out); rintro e w12 ⟨rfl, hb⟩; refine ⟨_, rfl, ?_⟩; have n0_ := Aside0.mk (blk_below (g := gb446) (o := .cells #[.slice A0_0 l0_0.length c0_0] 25 (0, 0)) (by (with_reducible repeat (first | refine blk_drewN ?_ _ | refine blk_drew ?_ | refine blk_alloc ?_ _)); exact BK446.out) hb); have n1_ := Aside0.mk (below_step (by repeat (first | (with_reducible first | exact HB.out | apply below_alloc | apply pw_below_drewN | apply below_drew1 | refine below_set ?_ GE446.out) | exact HB.out)) hb); clear BK446; clear HB; have BK446 := n0_; have HB := n1_; clear n0_ n1_; (try clear hb); (try clear hb2); (try clear hk); (try clear hi)) | ((with_reducible refine gate_callee (f := 67) rfl ?_); refine goesL_ (some 13) rfl rfl Try.func67 (by kernel_rfl) rfl #[.int .i64 a1, .int .i64 0, .int .i64 1099511627776] rfl (by (try simp only [List.map_toArray, List.map_cons, List.map_nil]); first | done | rfl | (simp only [List.length_drop, List.length_take]; rfl)) ?_; (with_reducible refine (tariff_within.calls a1 0 1099511627776 true _ A5.out).mono ?_); rintro e w' ⟨rfl, ⟨nd, rfl⟩⟩; refine ⟨_, rfl, ?_⟩))
          (try (rw [drewN_self w12]; generalize hq_ : World.drewN w12 _ = w12; have n0_ : Aside0 (w12.heap[gb446]? = some (.cells #[.slice A0_0 l0_0.length c0_0] 25 (0, 0))) := ⟨by rw [← hq_]; exact (by (with_reducible repeat (first | refine blk_drewN ?_ _ | refine blk_drew ?_ | refine blk_alloc ?_ _)); exact BK446.out)⟩; have n1_ : Aside0 (Below w.heap.size w w12) := ⟨by rw [← hq_]; exact (by repeat (first | (with_reducible first | exact HB.out | apply below_alloc | apply pw_below_drewN | apply below_drew1 | refine below_set ?_ GE446.out) | exact HB.out))⟩; clear BK446 HB hq_; have BK446 := n0_; have HB := n1_; clear n0_ n1_))
          have n0_ := Aside0.mk (blk_drew BK446.out)
          have n1_ := Aside0.mk (below_drew1 HB.out)
          clear BK446
          clear HB
          have BK446 := n0_
          have HB := n1_
          clear n0_ n1_
          have p450 : 0 ≤ (t449 : Int) := of_decide_eq_true (by first | (with_reducible assumption) | assumption)
          have q450 : t449 < (l0_0.length : Int) := of_decide_eq_true (by first | (with_reducible assumption) | assumption)
          obtain ⟨ad450, e450, hx450_0, hx450_1⟩ := at_T110 HR0_0.out t449 p450 q450
          have hw450_1 := hx450_1
          have hw450_0 := hx450_0
          cases e450
          replace hx450_0 := (HB.out.cell (World.block_lt_of_cell? w _ hx450_0)).trans hx450_0
          replace hx450_1 := (HB.out.cell (World.block_lt_of_cell? w _ hx450_1)).trans hx450_1
          replace p450 := eq_true p450
          replace q450 := eq_true q450
          refine start_ (n := 11) (S := fun w' => w'.cell? ⟨gb446, 0, none⟩ = some (.slice (some ad450) l0_0.length c0_0) ∧ w'.cell? (ad450.add ((t449).toNat * 2)) = some (.int .i64 ((rd_T110 l0_0 t449).f0)) ∧ w'.cell? ⟨(ad450.add ((t449).toNat * 2)).block, (ad450.add ((t449).toNat * 2)).off + 1, none⟩ = some (.int .i64 ((rd_T110 l0_0 t449).f1))) (ds := []) #[false, false, false, false, false, false, false, false, false, false, false] (by kernel_rfl) rfl rfl ⟨(blk_cell BK446.out 0).trans rfl, ((HB.out.cell (World.block_lt_of_cell? w _ hw450_0)).trans hw450_0), ((HB.out.cell (World.block_lt_of_cell? w _ hw450_1)).trans hw450_1)⟩ (fun hHeld => ?_); refine with_tabW tariff_Rate.tab6 tariff_Rate.bits6 (fun HT_ HW_ => ?_)
          generalize w12.drew = w13 at BK446 HB hx450_0 hx450_1 hHeld ⊢
          refine pure_ (i := 0) (N := some 15) (v := ?_) (a' := ?_) #[true, false, false, false, false, false, false, false, false, false, false] rfl rfl (any_of HT_.out (by kernel_rfl)) (fun _ _ _ h => h) (Or.inl ⟨by rfl, ?_⟩) ?_ ?_
          rotate_left
          · intro w'
            go_simp
            with_reducible rfl
          rotate_left
          · simp only [Act.put, List.setIfInBounds_toArray, List.set_cons_zero, List.set_cons_succ, i64_w, i32_w]
            rfl
          refine pure_ (i := 3) (N := some 18) (v := ?_) (a' := ?_) #[true, false, false, true, false, false, false, false, false, false, false] rfl rfl (any_of HT_.out (by kernel_rfl)) (fun _ _ _ h => h) (Or.inl ⟨by rfl, ?_⟩) ?_ ?_
          rotate_left
          · intro w'
            go_simp
            with_reducible rfl
          rotate_left
          · simp only [Act.put, List.setIfInBounds_toArray, List.set_cons_zero, List.set_cons_succ, i64_w, i32_w]
            rfl
          refine pure_ (i := 4) (N := some 19) (v := ?_) (a' := ?_) #[true, false, false, true, true, false, false, false, false, false, false] rfl rfl (any_of HT_.out (by kernel_rfl)) (fun _ _ _ h => h) (Or.inl ⟨by rfl, ?_⟩) ?_ ?_
          rotate_left
          · intro w'
            go_simp
            with_reducible rfl
          rotate_left
          · simp only [Act.put, List.setIfInBounds_toArray, List.set_cons_zero, List.set_cons_succ, i64_w, i32_w]
            rfl
          refine take_ (i := 1) (N := some 16) (v := ?_) (a' := ?_) #[true, true, false, true, true, false, false, false, false, false, false] rfl rfl (take_ofW HT_.out HW_.out (by kernel_rfl)) (fun _ _ _ h => h) (Or.inl ⟨by rfl, ?_⟩) hHeld ?_ ?_
          rotate_left
          · rintro w' ⟨s0, s1, s2⟩
            go_simp
            with_reducible rfl
          rotate_left
          · simp only [Act.put, List.setIfInBounds_toArray, List.set_cons_zero, List.set_cons_succ, i64_w, i32_w]
            rfl
          refine take_ (i := 2) (N := some 17) (v := ?_) (a' := ?_) #[true, true, true, true, true, false, false, false, false, false, false] rfl rfl (take_ofW HT_.out HW_.out (by kernel_rfl)) (fun _ _ _ h => h) (Or.inl ⟨by rfl, ?_⟩) hHeld ?_ ?_
          rotate_left
          · rintro w' ⟨s0, s1, s2⟩
            go_simp
            with_reducible rfl
          rotate_left
          · simp only [Act.put, List.setIfInBounds_toArray, List.set_cons_zero, List.set_cons_succ, i64_w, i32_w]
            rfl
          refine one_ (i := 5) (N := some 20) #[true, true, true, true, true, true, false, false, false, false, false] rfl rfl (one_of HT_.out (by kernel_rfl)) (by decide) (fun K hK => ?_)
          refine goes_ Try.func68 (by kernel_rfl) rfl #[.agg #[.slice (some ad450) l0_0.length c0_0], .int .i64 (Int.tmod a1 86400)] (by rfl) rfl rfl (by (try simp only [List.map_toArray, List.map_cons, List.map_nil]); first | done | rfl | (simp only [List.length_drop, List.length_take]; rfl)) ?_
          with_reducible refine (tariff_band.calls _ _ l0_0 (Int.tmod a1 86400) t449 _ ?side1 ?side2 A7.out).mono ?_
          (case side1 => repeat (first | exact (Kd.C_below HR0_0.out HB.out) | (with_reducible refine Kd.C_alloc ?_ _) | (with_reducible refine Kd.C_drewN ?_ _) | (with_reducible refine Kd.C_drew ?_)))
          (case side2 => exact HC0_0.out)
          rintro e w14 ⟨rfl, hb⟩
          refine ⟨_, rfl, ?_⟩
          have n0_ := Aside0.mk (blk_below (g := gb446) (o := .cells #[.slice (some ad450) l0_0.length c0_0] 25 (0, 0)) (by (with_reducible repeat (first | refine blk_drewN ?_ _ | refine blk_drew ?_ | refine blk_alloc ?_ _)); exact BK446.out) hb)
          have n1_ := Aside0.mk (below_step (by repeat (first | (with_reducible first | exact HB.out | apply below_alloc | apply pw_below_drewN | apply below_drew1 | refine below_set ?_ GE446.out) | exact HB.out)) hb)
          clear BK446
          clear HB
          have BK446 := n0_
          have HB := n1_
          clear n0_ n1_
          (try clear hb)
          (try clear hb2)
          (try clear hk)
          (try clear hi)
          refine hK.out _ _ ⟨(blk_cell BK446.out 0).trans rfl, ((HB.out.cell (World.block_lt_of_cell? w _ hw450_0)).trans hw450_0), ((HB.out.cell (World.block_lt_of_cell? w _ hw450_1)).trans hw450_1)⟩ (fun hHeld => ?_)
          clear hK K
          refine norm_ (a' := ?_) ?_ ?_
          rotate_left
          · show Act.put _ (some 20) _ = _
            simp only [Act.put, List.setIfInBounds_toArray, List.set_cons_zero, List.set_cons_succ, i64_w, i32_w]
            rfl
          refine pure_ (i := 6) (N := some 21) (v := ?_) (a' := ?_) #[true, true, true, true, true, true, true, false, false, false, false] rfl rfl (any_of HT_.out (by kernel_rfl)) (fun _ _ _ h => h) (Or.inl ⟨by rfl, ?_⟩) ?_ ?_
          rotate_left
          · intro w'
            go_simp
            with_reducible rfl
          rotate_left
          · simp only [Act.put, List.setIfInBounds_toArray, List.set_cons_zero, List.set_cons_succ, i64_w, i32_w]
            rfl
          refine pure_ (i := 7) (N := some 22) (v := ?_) (a' := ?_) #[true, true, true, true, true, true, true, true, false, false, false] rfl rfl (any_of HT_.out (by kernel_rfl)) (fun _ _ _ h => h) (Or.inl ⟨by rfl, ?_⟩) ?_ ?_
          rotate_left
          · intro w'
            go_simp
            with_reducible rfl
          rotate_left
          · simp only [Act.put, List.setIfInBounds_toArray, List.set_cons_zero, List.set_cons_succ, i64_w, i32_w]
            rfl
          refine take_ (i := 8) (N := some 23) (v := ?_) (a' := ?_) #[true, true, true, true, true, true, true, true, true, false, false] rfl rfl (take_ofW HT_.out HW_.out (by kernel_rfl)) (fun _ _ _ h => h) (Or.inl ⟨by rfl, ?_⟩) hHeld ?_ ?_
          rotate_left
          · rintro w' ⟨s0, s1, s2⟩
            go_simp
            with_reducible rfl
          rotate_left
          · simp only [Act.put, List.setIfInBounds_toArray, List.set_cons_zero, List.set_cons_succ, i64_w, i32_w]
            rfl
          refine pure_ (i := 9) (N := some 4) (v := ?_) (a' := ?_) #[true, true, true, true, true, true, true, true, true, true, false] rfl rfl (any_of HT_.out (by kernel_rfl)) (fun _ _ _ h => h) (Or.inl ⟨by rfl, ?_⟩) ?_ ?_
          rotate_left
          · intro w'
            go_simp
            with_reducible rfl
          rotate_left
          · simp only [Act.put, List.setIfInBounds_toArray, List.set_cons_zero, List.set_cons_succ, i64_w, i32_w]
            rfl
          refine pure_ (i := 10) (N := some 5) (v := ?_) (a' := ?_) #[true, true, true, true, true, true, true, true, true, true, true] rfl rfl (any_of HT_.out (by kernel_rfl)) (fun _ _ _ h => h) (Or.inl ⟨by rfl, ?_⟩) ?_ ?_
          rotate_left
          · intro w'
            go_simp
            with_reducible rfl
          rotate_left
          · simp only [Act.put, List.setIfInBounds_toArray, List.set_cons_zero, List.set_cons_succ, i64_w, i32_w]
            rfl
          refine done_ (done_of HT_.out (by kernel_rfl)) ?_
          try go_wp2
          go_ret2
          exact ⟨by first | rfl | (simp [errW_none, errW_some] <;> rfl) | (simp [*, errW_none, errW_some] <;> rfl), by repeat (first | (with_reducible first | exact HB.out | apply below_alloc | apply pw_below_drewN | apply below_drew1 | refine below_set ?_ GE446.out) | exact HB.out)⟩
        · rw [if_neg c9] at H
          exact absurd H (by simp)
      · rw [if_neg c8] at H
        exact absurd H (by simp)
    · replace c6 := Bool.eq_false_iff.mpr c6
      subst c6
      have H1 : (some (0, 1)) = some (r1, r2) := by rw [if_neg (show ¬ (false = true) by decide)] at H; exact H
      clear H
      have H := H1
      clear H1
      simp only [Option.some.injEq, Prod.mk.injEq] at H
      obtain ⟨rfl, rfl⟩ := H
      go_enter Try.func31, Try.ntmps31
      go_wp2_with (first | ((with_reducible refine gate_dst (N := 2) rfl ?_); refine box_event ?hg (N := 2) ?hd (cs := #[.slice A0_0 l0_0.length c0_0]) (t := 25) ?hr ?_; (case hd => rfl); (case hg => rfl); (case hr => first | (go_simp; done) | (go_simp; rfl)); intro gb446 hg w15 hbox hb; have n0_ := Aside0.mk (below_step (by repeat (first | (with_reducible first | exact HB.out | apply below_alloc | apply pw_below_drewN | apply below_drew1) | exact HB.out)) hb); have n1_ := Aside0.mk (hbox); have n2_ := Aside0.mk ((by rw [hg]; exact (below_size (by repeat (first | (with_reducible first | exact HB.out | apply below_alloc | apply pw_below_drewN | apply below_drew1) | exact HB.out))) : w.heap.size ≤ gb446)); have n3_ := Aside0.mk ((by rw [hg]; exact (below_size (by repeat (first | (with_reducible first | exact HB.out | apply below_alloc | apply pw_below_drewN | apply below_drew1) | exact HB.out))) : w.heap.size ≤ gb446)); clear HB; have HB := n0_; have BK446 := n1_; have GW446 := n2_; have GE446 := n3_; clear n0_ n1_ n2_ n3_; clear hb hbox hg; have hcz16_0 : w15.cell? ⟨gb446, 0, none⟩ = some (.slice A0_0 l0_0.length c0_0) := (blk_cell BK446.out 0).trans rfl; have hfz16_0 := blk_frozen BK446.out 0) | ((with_reducible refine gate_callee (f := 30) rfl ?_); refine goesL_ (some 8) rfl rfl Try.func30 (by kernel_rfl) rfl #[.agg #[.slice A0_0 l0_0.length c0_0]] rfl (by (try simp only [List.map_toArray, List.map_cons, List.map_nil]); first | done | rfl | (simp only [List.length_drop, List.length_take]; rfl)) ?_; (with_reducible refine (tariff_Check.calls k _ _ l0_0 t447 _ ?side1 ?side2 A3.out).mono ?_); (case side1 => repeat (first | exact (Kd.C_below HR0_0.out HB.out) | (with_reducible refine Kd.C_alloc ?_ _) | (with_reducible refine Kd.C_drewN ?_ _) | (with_reducible refine Kd.C_drew ?_))); (case side2 => exact HC0_0.out); rintro e w17 ⟨rfl, hb⟩; refine ⟨_, rfl, ?_⟩; have n0_ := Aside0.mk (blk_below (g := gb446) (o := .cells #[.slice A0_0 l0_0.length c0_0] 25 (0, 0)) (by (with_reducible repeat (first | refine blk_drewN ?_ _ | refine blk_drew ?_ | refine blk_alloc ?_ _)); exact BK446.out) hb); have n1_ := Aside0.mk (below_step (by repeat (first | (with_reducible first | exact HB.out | apply below_alloc | apply pw_below_drewN | apply below_drew1 | refine below_set ?_ GE446.out) | exact HB.out)) hb); clear BK446; clear HB; have BK446 := n0_; have HB := n1_; clear n0_ n1_; (try clear hb); (try clear hb2); (try clear hk); (try clear hi)) | ((with_reducible refine gate_callee (f := 67) rfl ?_); refine goesL_ (some 13) rfl rfl Try.func67 (by kernel_rfl) rfl #[.int .i64 a1, .int .i64 0, .int .i64 1099511627776] rfl (by (try simp only [List.map_toArray, List.map_cons, List.map_nil]); first | done | rfl | (simp only [List.length_drop, List.length_take]; rfl)) ?_; (with_reducible refine (tariff_within.calls a1 0 1099511627776 false _ A5.out).mono ?_); rintro e w' ⟨rfl, ⟨nd, rfl⟩⟩; refine ⟨_, rfl, ?_⟩))
      go_ret2
      exact ⟨by first | rfl | (simp [errW_none, errW_some] <;> rfl) | (simp [*, errW_none, errW_some] <;> rfl), by repeat (first | (with_reducible first | exact HB.out | apply below_alloc | apply pw_below_drewN | apply below_drew1 | refine below_set ?_ GE446.out) | exact HB.out)⟩
  · rw [if_neg c4] at H
    have c4b0 : (t447 == 0) = false := beq_eq_false_iff_ne.mpr c4
    have c4b1 : (t447 != 0) = true := bne_iff_ne.mpr c4
    simp only [Option.some.injEq, Prod.mk.injEq] at H
    obtain ⟨rfl, rfl⟩ := H
    go_enter Try.func31, Try.ntmps31
    go_wp2_with (first | ((with_reducible refine gate_dst (N := 2) rfl ?_); refine box_event ?hg (N := 2) ?hd (cs := #[.slice A0_0 l0_0.length c0_0]) (t := 25) ?hr ?_; (case hd => rfl); (case hg => rfl); (case hr => first | (go_simp; done) | (go_simp; rfl)); intro gb446 hg w18 hbox hb; have n0_ := Aside0.mk (below_step (by repeat (first | (with_reducible first | exact HB.out | apply below_alloc | apply pw_below_drewN | apply below_drew1) | exact HB.out)) hb); have n1_ := Aside0.mk (hbox); have n2_ := Aside0.mk ((by rw [hg]; exact (below_size (by repeat (first | (with_reducible first | exact HB.out | apply below_alloc | apply pw_below_drewN | apply below_drew1) | exact HB.out))) : w.heap.size ≤ gb446)); have n3_ := Aside0.mk ((by rw [hg]; exact (below_size (by repeat (first | (with_reducible first | exact HB.out | apply below_alloc | apply pw_below_drewN | apply below_drew1) | exact HB.out))) : w.heap.size ≤ gb446)); clear HB; have HB := n0_; have BK446 := n1_; have GW446 := n2_; have GE446 := n3_; clear n0_ n1_ n2_ n3_; clear hb hbox hg; have hcz19_0 : w18.cell? ⟨gb446, 0, none⟩ = some (.slice A0_0 l0_0.length c0_0) := (blk_cell BK446.out 0).trans rfl; have hfz19_0 := blk_frozen BK446.out 0) | ((with_reducible refine gate_callee (f := 30) rfl ?_); refine goesL_ (some 8) rfl rfl Try.func30 (by kernel_rfl) rfl #[.agg #[.slice A0_0 l0_0.length c0_0]] rfl (by (try simp only [List.map_toArray, List.map_cons, List.map_nil]); first | done | rfl | (simp only [List.length_drop, List.length_take]; rfl)) ?_; (with_reducible refine (tariff_Check.calls k _ _ l0_0 t447 _ ?side1 ?side2 A3.out).mono ?_); (case side1 => repeat (first | exact (Kd.C_below HR0_0.out HB.out) | (with_reducible refine Kd.C_alloc ?_ _) | (with_reducible refine Kd.C_drewN ?_ _) | (with_reducible refine Kd.C_drew ?_))); (case side2 => exact HC0_0.out); rintro e w20 ⟨rfl, hb⟩; refine ⟨_, rfl, ?_⟩; have n0_ := Aside0.mk (blk_below (g := gb446) (o := .cells #[.slice A0_0 l0_0.length c0_0] 25 (0, 0)) (by (with_reducible repeat (first | refine blk_drewN ?_ _ | refine blk_drew ?_ | refine blk_alloc ?_ _)); exact BK446.out) hb); have n1_ := Aside0.mk (below_step (by repeat (first | (with_reducible first | exact HB.out | apply below_alloc | apply pw_below_drewN | apply below_drew1 | refine below_set ?_ GE446.out) | exact HB.out)) hb); clear BK446; clear HB; have BK446 := n0_; have HB := n1_; clear n0_ n1_; (try clear hb); (try clear hb2); (try clear hk); (try clear hi)))
    go_ret2
    exact ⟨by first | rfl | (simp [errW_none, errW_some] <;> rfl) | (simp [*, errW_none, errW_some] <;> rfl), by repeat (first | (with_reducible first | exact HB.out | apply below_alloc | apply pw_below_drewN | apply below_drew1 | refine below_set ?_ GE446.out) | exact HB.out)⟩

-- NOT PRINTED: function 9 (crossbarlaw27_MeterChargesEverySecondOnce)

/-! ### tariff_Change: function 32 -/
def tariff_Change.l0 : Nat → Int → Int → Int → Int → Int → Int → Int → List (S110) → Option (Int × Bool × Int)
  | 0, _, _, _, _, _, _, _, _ => none
  | k + 1, x6, x7, x8, x9, x10, x31, x32, x495000 => if x32 < x31 then (if (wrap64 (x9 + 1)) = x8 then (if 0 < (x495000.length : Int) then (if ((rd_T110 x495000 0).f1) = x7 then (tariff_Change.l0 k x6 x7 x8 0 (wrap64 (x10 + 86400)) x31 (wrap64 (x32 + 1)) x495000) else (some (wrap64 ((wrap64 (x10 + 86400)) + ((rd_T110 x495000 0).f0)), true, x6))) else (none)) else (if 0 ≤ (wrap64 (x9 + 1)) then (if (wrap64 (x9 + 1)) < (x495000.length : Int) then (if ((rd_T110 x495000 (wrap64 (x9 + 1))).f1) = x7 then (tariff_Change.l0 k x6 x7 x8 (wrap64 (x9 + 1)) x10 x31 (wrap64 (x32 + 1)) x495000) else (some (wrap64 (x10 + ((rd_T110 x495000 (wrap64 (x9 + 1))).f0)), true, x6))) else (none)) else (none))) else (some (0, false, x6))
def tariff_Change.f (k : Nat) (l0_0 : List (S110)) (a1 : Int) : Option (Int × Bool × Int) := (tariff_Rate.f k l0_0 a1).bind fun bt495 => (if bt495.2 = 0 then ((tariff_band.f l0_0 (Int.tmod a1 86400)).bind fun t497 => (tariff_Change.l0 k bt495.2 bt495.1 (l0_0.length : Int) t497 (wrap64 (a1 - (Int.tmod a1 86400))) (l0_0.length : Int) 0 l0_0)) else (some (0, false, bt495.2)))
theorem tariff_Change.mono_l : ∀ k, (∀ y0 y1 y2 y3 y4 y5 y6 y7, LeO (tariff_Change.l0 k y0 y1 y2 y3 y4 y5 y6 y7) (tariff_Change.l0 (k + 1) y0 y1 y2 y3 y4 y5 y6 y7))
  | 0 => fun _ _ _ _ _ _ _ _ r h => by simp [tariff_Change.l0] at h
  | k + 1 => by
    have ih0 := tariff_Change.mono_l k
    · intro y0 y1 y2 y3 y4 y5 y6 y7
      unfold tariff_Change.l0
      repeat' first
      | (with_reducible exact ih0 _ _ _ _ _ _ _ _)
      | (with_reducible exact tariff_Rate.mono _ _ _)
      | (with_reducible exact LeO.refl _)
      | (with_reducible exact LeO.none _)
      | (with_reducible refine LeO.ite ?_ ?_)
      | (with_reducible refine LeO.bind ?_ (fun _ => ?_))
      | exact ih0 _ _ _ _ _ _ _ _
      | exact tariff_Rate.mono _ _ _
      | exact LeO.none _
      | refine LeO.ite ?_ ?_
      | refine LeO.bind ?_ (fun _ => ?_)
theorem tariff_Change.mono : ∀ a0 a1 k, LeO (tariff_Change.f k a0 a1) (tariff_Change.f (k + 1) a0 a1) := by
  intro a0 a1 k
  have ih0 := tariff_Change.mono_l k
  unfold tariff_Change.f
  repeat' first
      | (with_reducible exact ih0 _ _ _ _ _ _ _ _)
      | (with_reducible exact tariff_Rate.mono _ _ _)
      | (with_reducible exact LeO.refl _)
      | (with_reducible exact LeO.none _)
      | (with_reducible refine LeO.ite ?_ ?_)
      | (with_reducible refine LeO.bind ?_ (fun _ => ?_))
      | exact ih0 _ _ _ _ _ _ _ _
      | exact tariff_Rate.mono _ _ _
      | exact LeO.none _
      | refine LeO.ite ?_ ?_
      | refine LeO.bind ?_ (fun _ => ?_)
set_option maxHeartbeats 8000000 in
set_option maxRecDepth 100000 in
theorem tariff_Change.calls (k : Nat) (A0_0 : Option Addr) (c0_0 : Nat) (l0_0 : List (S110)) (a1 : Int) (r1 : Int) (r2 : Bool) (r3 : Int) (w : World) (hr0_0 : Kd.C k110 w A0_0 l0_0.length l0_0) (hc0_0 : l0_0.length ≤ c0_0) (h : tariff_Change.f k l0_0 a1 = some (r1, r2, r3)) :
    Calls Try.prog 32 #[.agg #[.slice A0_0 l0_0.length c0_0], .int .i64 a1] w fun e w' => e = .returned (.tuple #[.int .i64 r1, .bool r2, .int .i64 r3]) ∧ Below w.heap.size w w' := by
  have hu25 := Try.underlying25
  have HR0_0 := Aside0.mk hr0_0
  have HC0_0 := Aside0.mk hc0_0
  clear hr0_0 hc0_0
  have HB := Aside0.mk (Below.refl w.heap.size w)
  have H : ((tariff_Rate.f k l0_0 a1).bind fun bt495 => (if bt495.2 = 0 then ((tariff_band.f l0_0 (Int.tmod a1 86400)).bind fun t497 => (tariff_Change.l0 k bt495.2 bt495.1 (l0_0.length : Int) t497 (wrap64 (a1 - (Int.tmod a1 86400))) (l0_0.length : Int) 0 l0_0)) else (some (0, false, bt495.2)))) = some (r1, r2, r3) := h
  clear h
  replace H := Option.bind_eq_some_iff.mp H
  obtain ⟨⟨t495, t496⟩, A30, H⟩ := H
  replace H : (if t496 = 0 then ((tariff_band.f l0_0 (Int.tmod a1 86400)).bind fun t497 => (tariff_Change.l0 k t496 t495 (l0_0.length : Int) t497 (wrap64 (a1 - (Int.tmod a1 86400))) (l0_0.length : Int) 0 l0_0)) else (some (0, false, t496))) = some (r1, r2, r3) := H
  have A3 := Aside0.mk A30
  clear A30
  by_cases c4 : t496 = 0
  · rw [if_pos c4] at H
    have c4b0 : (t496 == 0) = true := beq_iff_eq.mpr c4
    have c4b1 : (t496 != 0) = false := bne_eq_false_iff_eq.mpr c4
    clear c4
    replace H := Option.bind_eq_some_iff.mp H
    obtain ⟨t497, A50, H⟩ := H
    replace H : (tariff_Change.l0 k t496 t495 (l0_0.length : Int) t497 (wrap64 (a1 - (Int.tmod a1 86400))) (l0_0.length : Int) 0 l0_0) = some (r1, r2, r3) := H
    have A5 := Aside0.mk A50
    clear A50
    have H' := Aside0.mk H
    clear H
    go_enter Try.func32, Try.ntmps32
    go_wp2_with (first | ((with_reducible refine gate_dst (N := 2) rfl ?_); refine box_event ?hg (N := 2) ?hd (cs := #[.slice A0_0 l0_0.length c0_0]) (t := 25) ?hr ?_; (case hd => rfl); (case hg => rfl); (case hr => first | (go_simp; done) | (go_simp; rfl)); intro gb494 hg w6 hbox hb; have n0_ := Aside0.mk (below_step (by repeat (first | (with_reducible first | exact HB.out | apply below_alloc | apply pw_below_drewN | apply below_drew1) | exact HB.out)) hb); have n1_ := Aside0.mk (hbox); have n2_ := Aside0.mk ((by rw [hg]; exact (below_size (by repeat (first | (with_reducible first | exact HB.out | apply below_alloc | apply pw_below_drewN | apply below_drew1) | exact HB.out))) : w.heap.size ≤ gb494)); have n3_ := Aside0.mk ((by rw [hg]; exact (below_size (by repeat (first | (with_reducible first | exact HB.out | apply below_alloc | apply pw_below_drewN | apply below_drew1) | exact HB.out))) : w.heap.size ≤ gb494)); clear HB; have HB := n0_; have BK494 := n1_; have GW494 := n2_; have GE494 := n3_; clear n0_ n1_ n2_ n3_; clear hb hbox hg; have hcz7_0 : w6.cell? ⟨gb494, 0, none⟩ = some (.slice A0_0 l0_0.length c0_0) := (blk_cell BK494.out 0).trans rfl; have hfz7_0 := blk_frozen BK494.out 0) | ((with_reducible refine gate_callee (f := 31) rfl ?_); refine goesL_ (some 14) rfl rfl Try.func31 (by kernel_rfl) rfl #[.agg #[.slice A0_0 l0_0.length c0_0], .int .i64 a1] rfl (by (try simp only [List.map_toArray, List.map_cons, List.map_nil]); first | done | rfl | (simp only [List.length_drop, List.length_take]; rfl)) ?_; (with_reducible refine (tariff_Rate.calls k _ _ l0_0 a1 t495 t496 _ ?side1 ?side2 A3.out).mono ?_); (case side1 => repeat (first | exact (Kd.C_below HR0_0.out HB.out) | (with_reducible refine Kd.C_alloc ?_ _) | (with_reducible refine Kd.C_drewN ?_ _) | (with_reducible refine Kd.C_drew ?_))); (case side2 => exact HC0_0.out); rintro e w8 ⟨rfl, hb⟩; refine ⟨_, rfl, ?_⟩; have n0_ := Aside0.mk (blk_below (g := gb494) (o := .cells #[.slice A0_0 l0_0.length c0_0] 25 (0, 0)) (by (with_reducible repeat (first | refine blk_drewN ?_ _ | refine blk_drew ?_ | refine blk_alloc ?_ _)); exact BK494.out) hb); have n1_ := Aside0.mk (below_step (by repeat (first | (with_reducible first | exact HB.out | apply below_alloc | apply pw_below_drewN | apply below_drew1 | refine below_set ?_ GE494.out) | exact HB.out)) hb); clear BK494; clear HB; have BK494 := n0_; have HB := n1_; clear n0_ n1_; (try clear hb); (try clear hb2); (try clear hk); (try clear hi); have hcz9_0 : w8.cell? ⟨gb494, 0, none⟩ = some (.slice A0_0 l0_0.length c0_0) := (blk_cell BK494.out 0).trans rfl; have hfz9_0 := blk_frozen BK494.out 0) | ((with_reducible refine gate_callee (f := 68) rfl ?_); refine goesL_ (some 26) rfl rfl Try.func68 (by kernel_rfl) rfl #[.agg #[.slice A0_0 l0_0.length c0_0], .int .i64 (Int.tmod a1 86400)] rfl (by (try simp only [List.map_toArray, List.map_cons, List.map_nil]); first | done | rfl | (simp only [List.length_drop, List.length_take]; rfl)) ?_; (with_reducible refine (tariff_band.calls _ _ l0_0 (Int.tmod a1 86400) t497 _ ?side1 ?side2 A5.out).mono ?_); (case side1 => repeat (first | exact (Kd.C_below HR0_0.out HB.out) | (with_reducible refine Kd.C_alloc ?_ _) | (with_reducible refine Kd.C_drewN ?_ _) | (with_reducible refine Kd.C_drew ?_))); (case side2 => exact HC0_0.out); rintro e w10 ⟨rfl, hb⟩; refine ⟨_, rfl, ?_⟩; have n0_ := Aside0.mk (blk_below (g := gb494) (o := .cells #[.slice A0_0 l0_0.length c0_0] 25 (0, 0)) (by (with_reducible repeat (first | refine blk_drewN ?_ _ | refine blk_drew ?_ | refine blk_alloc ?_ _)); exact BK494.out) hb); have n1_ := Aside0.mk (below_step (by repeat (first | (with_reducible first | exact HB.out | apply below_alloc | apply pw_below_drewN | apply below_drew1 | refine below_set ?_ GE494.out) | exact HB.out)) hb); clear BK494; clear HB; have BK494 := n0_; have HB := n1_; clear n0_ n1_; (try clear hb); (try clear hb2); (try clear hk); (try clear hi)))
    go_loopg [6, 9, 10, 32] k (fun kq v6 v9 v10 v32 w' => ∃ (x6_1 : Int) (x9_1 : Int) (x10_1 : Int) (x32_1 : Int), v6 = .int .i64 x6_1 ∧ v9 = .int .i64 x9_1 ∧ v10 = .int .i64 x10_1 ∧ v32 = .int .i64 x32_1 ∧ Aside0 (tariff_Change.l0 kq x6_1 t495 (l0_0.length : Int) x9_1 x10_1 (l0_0.length : Int) x32_1 l0_0 = some (r1, r2, r3)) ∧ Aside0 (kq ≤ k) ∧ Aside0 (w'.heap[gb494]? = some (.cells #[(.slice A0_0 l0_0.length c0_0)] 25 (0, 0))) ∧ Aside0 (Below w.heap.size w w'))
    case atStart => exact ⟨(t496), (t497), (wrap64 (a1 - (Int.tmod a1 86400))), (0), (by first | rfl | (simp; done) | (simp [*]; done)), (by first | rfl | (simp; done) | (simp [*]; done)), (by first | rfl | (simp; done) | (simp [*]; done)), (by first | rfl | (simp; done) | (simp [*]; done)), H', ⟨Nat.le_refl _⟩, ⟨by (with_reducible repeat (first | refine blk_drewN ?_ _ | refine blk_drew ?_ | refine blk_alloc ?_ _)); exact BK494.out⟩, ⟨by repeat (first | (with_reducible first | exact HB.out | apply below_alloc | apply pw_below_drewN | apply below_drew1 | refine below_set ?_ GE494.out) | exact HB.out)⟩⟩
    case round =>
      clear H'
      try clear p2
      try clear c3
      try clear c4
      try clear c4b0
      try clear c4b1
      try clear c6
      try clear p6
      try clear hcz7_0
      try clear hcz9_0
      try clear hfz7_0
      try clear hfz9_0
      obtain ⟨x6_1, x9_1, x10_1, x32_1, rfl, rfl, rfl, rfl, HA, HK1, BK494, HB⟩ := hrel
      cases gk with
      | zero => exact absurd HA.out (by simp [tariff_Change.l0])
      | succ k1 =>
        have H := HA.out
        clear HA
        simp only [tariff_Change.l0] at H
        by_cases c11 : x32_1 < (l0_0.length : Int)
        · rw [if_pos c11] at H
          have c11b0 : decide (x32_1 < (l0_0.length : Int)) = true := decide_eq_true c11
          clear c11
          by_cases c12 : (wrap64 (x9_1 + 1)) = (l0_0.length : Int)
          · rw [if_pos c12] at H
            have c12b0 : ((wrap64 (x9_1 + 1)) == (l0_0.length : Int)) = true := beq_iff_eq.mpr c12
            have c12b1 : ((wrap64 (x9_1 + 1)) != (l0_0.length : Int)) = false := bne_eq_false_iff_eq.mpr c12
            clear c12
            by_cases c13 : 0 < (l0_0.length : Int)
            · rw [if_pos c13] at H
              have c13b0 : decide (0 < (l0_0.length : Int)) = true := decide_eq_true c13
              have c13b1 : decide (0 < l0_0.length) = true := decide_eq_true (by omega)
              clear c13
              by_cases c14 : ((rd_T110 l0_0 0).f1) = t495
              · rw [if_pos c14] at H
                have c14b0 : (((rd_T110 l0_0 0).f1) == t495) = true := beq_iff_eq.mpr c14
                have c14b1 : (((rd_T110 l0_0 0).f1) != t495) = false := bne_eq_false_iff_eq.mpr c14
                clear c14
                have H' := Aside0.mk H
                clear H
                have hcz15_0 : wr.cell? ⟨gb494, 0, none⟩ = some (.slice A0_0 l0_0.length c0_0) := (blk_cell BK494.out 0).trans rfl
                have hfz15_0 := blk_frozen BK494.out 0
                have p498 : 0 ≤ (0 : Int) := (by omega)
                have q498 : 0 < (l0_0.length : Int) := of_decide_eq_true (by first | (with_reducible assumption) | assumption)
                obtain ⟨ad498, e498, hx498_0, hx498_1⟩ := at_T110 HR0_0.out 0 p498 q498
                cases e498
                have qi498 : (0 < l0_0.length) = True := eq_true (by omega)
                (try rw [show ((0 : Int)).toNat = 0 from rfl] at hx498_0)
                (try rw [show 0 * 2 = 0 from rfl] at hx498_0)
                (try rw [Addr.add_zero'] at hx498_0)
                (try rw [show ((0 : Int)).toNat = 0 from rfl] at hx498_1)
                (try rw [show 0 * 2 = 0 from rfl] at hx498_1)
                (try rw [Addr.add_zero'] at hx498_1)
                replace hx498_0 := (HB.out.cell (World.block_lt_of_cell? w _ hx498_0)).trans hx498_0
                replace hx498_1 := (HB.out.cell (World.block_lt_of_cell? w _ hx498_1)).trans hx498_1
                replace p498 := eq_true p498
                replace q498 := eq_true q498
                go_wp2
                go_roundg k1
                case measure => have := HK1.out; omega
                case rel => exact ⟨(x6_1), (0), (wrap64 (x10_1 + 86400)), (wrap64 (x32_1 + 1)), (by first | rfl | (simp; done) | (simp [*]; done)), (by first | rfl | (simp; done) | (simp [*]; done)), (by first | rfl | (simp; done) | (simp [*]; done)), (by first | rfl | (simp; done) | (simp [*]; done)), H', ⟨by have := HK1.out; omega⟩, ⟨by (with_reducible repeat (first | refine blk_drewN ?_ _ | refine blk_drew ?_ | refine blk_alloc ?_ _)); exact BK494.out⟩, ⟨by repeat (first | (with_reducible first | exact HB.out | apply below_alloc | apply pw_below_drewN | apply below_drew1 | refine below_set ?_ GE494.out) | exact HB.out)⟩⟩
              · rw [if_neg c14] at H
                have c14b0 : (((rd_T110 l0_0 0).f1) == t495) = false := beq_eq_false_iff_ne.mpr c14
                have c14b1 : (((rd_T110 l0_0 0).f1) != t495) = true := bne_iff_ne.mpr c14
                simp only [Option.some.injEq, Prod.mk.injEq] at H
                obtain ⟨rfl, rfl, rfl⟩ := H
                have hcz16_0 : wr.cell? ⟨gb494, 0, none⟩ = some (.slice A0_0 l0_0.length c0_0) := (blk_cell BK494.out 0).trans rfl
                have hfz16_0 := blk_frozen BK494.out 0
                have p498 : 0 ≤ (0 : Int) := (by omega)
                have q498 : 0 < (l0_0.length : Int) := of_decide_eq_true (by first | (with_reducible assumption) | assumption)
                obtain ⟨ad498, e498, hx498_0, hx498_1⟩ := at_T110 HR0_0.out 0 p498 q498
                cases e498
                have qi498 : (0 < l0_0.length) = True := eq_true (by omega)
                (try rw [show ((0 : Int)).toNat = 0 from rfl] at hx498_0)
                (try rw [show 0 * 2 = 0 from rfl] at hx498_0)
                (try rw [Addr.add_zero'] at hx498_0)
                (try rw [show ((0 : Int)).toNat = 0 from rfl] at hx498_1)
                (try rw [show 0 * 2 = 0 from rfl] at hx498_1)
                (try rw [Addr.add_zero'] at hx498_1)
                replace hx498_0 := (HB.out.cell (World.block_lt_of_cell? w _ hx498_0)).trans hx498_0
                replace hx498_1 := (HB.out.cell (World.block_lt_of_cell? w _ hx498_1)).trans hx498_1
                replace p498 := eq_true p498
                replace q498 := eq_true q498
                have p499 : 0 ≤ (0 : Int) := (by omega)
                have q499 : 0 < (l0_0.length : Int) := of_decide_eq_true (by first | (with_reducible assumption) | assumption)
                obtain ⟨ad499, e499, hx499_0, hx499_1⟩ := at_T110 HR0_0.out 0 p499 q499
                obtain rfl : ad498 = ad499 := (by injection e499)
                have qi499 : (0 < l0_0.length) = True := eq_true (by omega)
                (try rw [show ((0 : Int)).toNat = 0 from rfl] at hx499_0)
                (try rw [show 0 * 2 = 0 from rfl] at hx499_0)
                (try rw [Addr.add_zero'] at hx499_0)
                (try rw [show ((0 : Int)).toNat = 0 from rfl] at hx499_1)
                (try rw [show 0 * 2 = 0 from rfl] at hx499_1)
                (try rw [Addr.add_zero'] at hx499_1)
                replace hx499_0 := (HB.out.cell (World.block_lt_of_cell? w _ hx499_0)).trans hx499_0
                replace hx499_1 := (HB.out.cell (World.block_lt_of_cell? w _ hx499_1)).trans hx499_1
                replace p499 := eq_true p499
                replace q499 := eq_true q499
                go_wp2
                go_ret3
                exact ⟨by first | rfl | (simp [errW_none, errW_some] <;> rfl) | (simp [*, errW_none, errW_some] <;> rfl), by repeat (first | (with_reducible first | exact HB.out | apply below_alloc | apply pw_below_drewN | apply below_drew1 | refine below_set ?_ GE494.out) | exact HB.out)⟩
            · rw [if_neg c13] at H
              exact absurd H (by simp)
          · rw [if_neg c12] at H
            have c12b0 : ((wrap64 (x9_1 + 1)) == (l0_0.length : Int)) = false := beq_eq_false_iff_ne.mpr c12
            have c12b1 : ((wrap64 (x9_1 + 1)) != (l0_0.length : Int)) = true := bne_iff_ne.mpr c12
            obtain ⟨ji17, hji17⟩ : ∃ j_ : Int, (wrap64 (x9_1 + 1)) = j_ := ⟨_, rfl⟩
            replace H : (if 0 ≤ (ji17) then (if (ji17) < (l0_0.length : Int) then (if ((rd_T110 l0_0 (ji17)).f1) = t495 then (tariff_Change.l0 k1 x6_1 t495 (l0_0.length : Int) ji17 x10_1 (l0_0.length : Int) (wrap64 (x32_1 + 1)) l0_0) else (some (wrap64 (x10_1 + ((rd_T110 l0_0 (ji17)).f0)), true, x6_1))) else (none)) else (none)) = some (r1, r2, r3) := by first | (rw [hji17] at H; exact H) | (simp only [hji17] at H ⊢; exact H)
            (try rw [hji17] at c12b0)
            (try rw [hji17] at c12b1)
            have hji17w : (IntKind.i64.wrap (x9_1 + 1)) = ji17 := (i64_w _).trans hji17
            by_cases c18 : 0 ≤ (ji17)
            · rw [if_pos c18] at H
              have c18b0 : decide (0 ≤ (ji17)) = true := decide_eq_true c18
              clear c18
              by_cases c19 : (ji17) < (l0_0.length : Int)
              · rw [if_pos c19] at H
                have c19b0 : decide ((ji17) < (l0_0.length : Int)) = true := decide_eq_true c19
                clear c19
                by_cases c20 : ((rd_T110 l0_0 (ji17)).f1) = t495
                · rw [if_pos c20] at H
                  have c20b0 : (((rd_T110 l0_0 (ji17)).f1) == t495) = true := beq_iff_eq.mpr c20
                  have c20b1 : (((rd_T110 l0_0 (ji17)).f1) != t495) = false := bne_eq_false_iff_eq.mpr c20
                  clear c20
                  have H' := Aside0.mk H
                  clear H
                  have hcz21_0 : wr.cell? ⟨gb494, 0, none⟩ = some (.slice A0_0 l0_0.length c0_0) := (blk_cell BK494.out 0).trans rfl
                  have hfz21_0 := blk_frozen BK494.out 0
                  have p500 : 0 ≤ ((ji17) : Int) := of_decide_eq_true (by first | (with_reducible assumption) | assumption)
                  have q500 : (ji17) < (l0_0.length : Int) := of_decide_eq_true (by first | (with_reducible assumption) | assumption)
                  obtain ⟨ad500, e500, hx500_0, hx500_1⟩ := at_T110 HR0_0.out (ji17) p500 q500
                  cases e500
                  replace hx500_0 := (HB.out.cell (World.block_lt_of_cell? w _ hx500_0)).trans hx500_0
                  replace hx500_1 := (HB.out.cell (World.block_lt_of_cell? w _ hx500_1)).trans hx500_1
                  replace p500 := eq_true p500
                  replace q500 := eq_true q500
                  go_wp2
                  go_roundg k1
                  case measure => have := HK1.out; omega
                  case rel => exact ⟨(x6_1), (ji17), (x10_1), (wrap64 (x32_1 + 1)), (by first | rfl | (simp; done) | (simp [*]; done)), (by first | rfl | (simp; done) | (simp only [← hji17] <;> (first | rfl | simp)) | (simp [*]; done)), (by first | rfl | (simp; done) | (simp [*]; done)), (by first | rfl | (simp; done) | (simp [*]; done)), H', ⟨by have := HK1.out; omega⟩, ⟨by (with_reducible repeat (first | refine blk_drewN ?_ _ | refine blk_drew ?_ | refine blk_alloc ?_ _)); exact BK494.out⟩, ⟨by repeat (first | (with_reducible first | exact HB.out | apply below_alloc | apply pw_below_drewN | apply below_drew1 | refine below_set ?_ GE494.out) | exact HB.out)⟩⟩
                · rw [if_neg c20] at H
                  have c20b0 : (((rd_T110 l0_0 (ji17)).f1) == t495) = false := beq_eq_false_iff_ne.mpr c20
                  have c20b1 : (((rd_T110 l0_0 (ji17)).f1) != t495) = true := bne_iff_ne.mpr c20
                  simp only [Option.some.injEq, Prod.mk.injEq] at H
                  obtain ⟨rfl, rfl, rfl⟩ := H
                  have hcz22_0 : wr.cell? ⟨gb494, 0, none⟩ = some (.slice A0_0 l0_0.length c0_0) := (blk_cell BK494.out 0).trans rfl
                  have hfz22_0 := blk_frozen BK494.out 0
                  have p500 : 0 ≤ ((ji17) : Int) := of_decide_eq_true (by first | (with_reducible assumption) | assumption)
                  have q500 : (ji17) < (l0_0.length : Int) := of_decide_eq_true (by first | (with_reducible assumption) | assumption)
                  obtain ⟨ad500, e500, hx500_0, hx500_1⟩ := at_T110 HR0_0.out (ji17) p500 q500
                  cases e500
                  replace hx500_0 := (HB.out.cell (World.block_lt_of_cell? w _ hx500_0)).trans hx500_0
                  replace hx500_1 := (HB.out.cell (World.block_lt_of_cell? w _ hx500_1)).trans hx500_1
                  replace p500 := eq_true p500
                  replace q500 := eq_true q500
                  have p501 : 0 ≤ ((ji17) : Int) := of_decide_eq_true (by first | (with_reducible assumption) | assumption)
                  have q501 : (ji17) < (l0_0.length : Int) := of_decide_eq_true (by first | (with_reducible assumption) | assumption)
                  obtain ⟨ad501, e501, hx501_0, hx501_1⟩ := at_T110 HR0_0.out (ji17) p501 q501
                  obtain rfl : ad500 = ad501 := (by injection e501)
                  replace hx501_0 := (HB.out.cell (World.block_lt_of_cell? w _ hx501_0)).trans hx501_0
                  replace hx501_1 := (HB.out.cell (World.block_lt_of_cell? w _ hx501_1)).trans hx501_1
                  replace p501 := eq_true p501
                  replace q501 := eq_true q501
                  go_wp2
                  go_ret3
                  exact ⟨by first | rfl | (simp [errW_none, errW_some] <;> rfl) | (simp only [← hji17]; first | rfl | (simp [errW_none, errW_some] <;> rfl)) | (simp [*, errW_none, errW_some] <;> rfl), by repeat (first | (with_reducible first | exact HB.out | apply below_alloc | apply pw_below_drewN | apply below_drew1 | refine below_set ?_ GE494.out) | exact HB.out)⟩
              · rw [if_neg c19] at H
                exact absurd H (by simp)
            · rw [if_neg c18] at H
              exact absurd H (by simp)
        · rw [if_neg c11] at H
          have c11b0 : decide (x32_1 < (l0_0.length : Int)) = false := decide_eq_false c11
          clear c11
          simp only [Option.some.injEq, Prod.mk.injEq] at H
          obtain ⟨rfl, rfl, rfl⟩ := H
          go_wp2
          go_ret3
          exact ⟨by first | rfl | (simp [errW_none, errW_some] <;> rfl) | (simp [*, errW_none, errW_some] <;> rfl), by repeat (first | (with_reducible first | exact HB.out | apply below_alloc | apply pw_below_drewN | apply below_drew1 | refine below_set ?_ GE494.out) | exact HB.out)⟩
  · rw [if_neg c4] at H
    have c4b0 : (t496 == 0) = false := beq_eq_false_iff_ne.mpr c4
    have c4b1 : (t496 != 0) = true := bne_iff_ne.mpr c4
    simp only [Option.some.injEq, Prod.mk.injEq] at H
    obtain ⟨rfl, rfl, rfl⟩ := H
    go_enter Try.func32, Try.ntmps32
    go_wp2_with (first | ((with_reducible refine gate_dst (N := 2) rfl ?_); refine box_event ?hg (N := 2) ?hd (cs := #[.slice A0_0 l0_0.length c0_0]) (t := 25) ?hr ?_; (case hd => rfl); (case hg => rfl); (case hr => first | (go_simp; done) | (go_simp; rfl)); intro gb494 hg w23 hbox hb; have n0_ := Aside0.mk (below_step (by repeat (first | (with_reducible first | exact HB.out | apply below_alloc | apply pw_below_drewN | apply below_drew1) | exact HB.out)) hb); have n1_ := Aside0.mk (hbox); have n2_ := Aside0.mk ((by rw [hg]; exact (below_size (by repeat (first | (with_reducible first | exact HB.out | apply below_alloc | apply pw_below_drewN | apply below_drew1) | exact HB.out))) : w.heap.size ≤ gb494)); have n3_ := Aside0.mk ((by rw [hg]; exact (below_size (by repeat (first | (with_reducible first | exact HB.out | apply below_alloc | apply pw_below_drewN | apply below_drew1) | exact HB.out))) : w.heap.size ≤ gb494)); clear HB; have HB := n0_; have BK494 := n1_; have GW494 := n2_; have GE494 := n3_; clear n0_ n1_ n2_ n3_; clear hb hbox hg; have hcz24_0 : w23.cell? ⟨gb494, 0, none⟩ = some (.slice A0_0 l0_0.length c0_0) := (blk_cell BK494.out 0).trans rfl; have hfz24_0 := blk_frozen BK494.out 0) | ((with_reducible refine gate_callee (f := 31) rfl ?_); refine goesL_ (some 14) rfl rfl Try.func31 (by kernel_rfl) rfl #[.agg #[.slice A0_0 l0_0.length c0_0], .int .i64 a1] rfl (by (try simp only [List.map_toArray, List.map_cons, List.map_nil]); first | done | rfl | (simp only [List.length_drop, List.length_take]; rfl)) ?_; (with_reducible refine (tariff_Rate.calls k _ _ l0_0 a1 t495 t496 _ ?side1 ?side2 A3.out).mono ?_); (case side1 => repeat (first | exact (Kd.C_below HR0_0.out HB.out) | (with_reducible refine Kd.C_alloc ?_ _) | (with_reducible refine Kd.C_drewN ?_ _) | (with_reducible refine Kd.C_drew ?_))); (case side2 => exact HC0_0.out); rintro e w25 ⟨rfl, hb⟩; refine ⟨_, rfl, ?_⟩; have n0_ := Aside0.mk (blk_below (g := gb494) (o := .cells #[.slice A0_0 l0_0.length c0_0] 25 (0, 0)) (by (with_reducible repeat (first | refine blk_drewN ?_ _ | refine blk_drew ?_ | refine blk_alloc ?_ _)); exact BK494.out) hb); have n1_ := Aside0.mk (below_step (by repeat (first | (with_reducible first | exact HB.out | apply below_alloc | apply pw_below_drewN | apply below_drew1 | refine below_set ?_ GE494.out) | exact HB.out)) hb); clear BK494; clear HB; have BK494 := n0_; have HB := n1_; clear n0_ n1_; (try clear hb); (try clear hb2); (try clear hk); (try clear hi)))
    go_ret3
    exact ⟨by first | rfl | (simp [errW_none, errW_some] <;> rfl) | (simp [*, errW_none, errW_some] <;> rfl), by repeat (first | (with_reducible first | exact HB.out | apply below_alloc | apply pw_below_drewN | apply below_drew1 | refine below_set ?_ GE494.out) | exact HB.out)⟩

end Go.Proofs.Ytbfhohpbldadbaa.P

namespace Go.Proofs.Ytbfhohpbldadbaa.P
open Go.RowKit Go.Proofs.YtbfhohpbldadbaaW.PrintWords Go.Proofs.YtbfhohpbldadbaaW.PrintLast Go.Proofs.YtbfhohpbldadbaaW.PrintMore
set_option linter.unusedVariables false
set_option linter.unusedSimpArgs false
/-- The block of a cutter: its tariff's bands, its records. -/
def CBlk (w : World) (g : Nat) (v r : Value) : Prop := w.heap[g]? = some (.cells #[v, r] 100 (0, 0))
section
variable {w w' : World} {g : Nat} {v r : Value}
theorem CBlk.c0 (h : CBlk w g v r) : w.cell? ⟨g, 0, none⟩ = some v := (cell_of_row w g 0 _ 100 (0, 0) h).trans rfl
theorem CBlk.c1 (h : CBlk w g v r) : w.cell? ⟨g, 1, none⟩ = some r := (cell_of_row w g 1 _ 100 (0, 0) h).trans rfl
theorem CBlk.below (h : CBlk w g v r) (hb : Below w.heap.size w w') : CBlk w' g v r := (hb.block g (heap_lt h)).trans h
theorem CBlk.new (w : World) (v r : Value) : CBlk (w.alloc (.cells #[v, r] 100)) w.heap.size v r := heap_alloc_new w _
end
set_option maxHeartbeats 1000000 in
set_option maxRecDepth 100000 in
theorem full_calls (g : Nat) (v : Value) (A : Option Addr) (n c : Nat) (W : World) (h : CBlk W g v (.slice A n c)) :
    Calls Try.prog 55 #[.pointer (some ⟨g, 0, none⟩)] W fun e W' => e = .returned (.bool (decide (1024 < (n : Int)))) ∧ W' = W := by
  have c1 := h.c1
  clear h
  go_enter Try.func55, Try.ntmps55
  go_wp2_with fail
  go_ret
  exact ⟨by simp, rfl⟩

theorem enters98 : Enters 98 := fun _ _ => by kernel_rfl
def rateNe (r : Int) (b : S110) : Bool := b.f1 != r
set_option maxHeartbeats 1000000 in
set_option maxRecDepth 100000 in
theorem flat1_calls (g : Nat) (r : Int) (b : S110) (W : World) (h : W.cell? ⟨g, 0, none⟩ = some (.int .i64 r)) :
    Calls Try.prog 98 (#[.agg #[.int .i64 b.f0, .int .i64 b.f1]] ++ #[.pointer (some ⟨g, 0, none⟩)]) W fun e W' => e = .returned (.bool (rateNe r b)) ∧ Below W.heap.size W W' := by
  have c0 := fun o => ((below_one W o).cell (p := ⟨g, 0, none⟩) (World.block_lt_of_cell? W _ h)).trans h
  clear h
  go_enter Try.func98, Try.ntmps98
  go_wp2_with fail
  go_ret
  exact ⟨by simp [rateNe, bne], below_one _ _⟩

def flatB (bs : List S110) : Bool := !(bs.any (rateNe (rd_T110 bs 0).f1))
theorem rd0 {bs : List S110} (hn : 0 < bs.length) : (rd_T110 bs 0).f1 = bs[0].f1 := by
  have h := getD_at hn z110
  unfold rd_T110
  exact congrArg S110.f1 h
set_option maxHeartbeats 2000000 in
set_option maxRecDepth 100000 in
theorem flat_calls (g : Nat) (r : Value) (A : Option Addr) (c : Nat) (bs : List S110) (W : World) (h : CBlk W g (.slice A bs.length c) r) (hr : Kd.C k110 W A bs.length bs) (hn : 0 < bs.length) :
    Calls Try.prog 94 #[.pointer (some ⟨g, 0, none⟩)] W fun e W' => e = .returned (.bool (flatB bs)) ∧ Below W.heap.size W W' := by
  have hmf : ∀ (fn : Fn) (first cap : Array Value) (w : World), (Instr.makeFunc fn first cap).run Try.prog w = .ok (.func fn first cap) w := fun _ _ _ _ => rfl
  have c0 := h.c0
  obtain ⟨ad, rfl, hx⟩ := B_cell hr 0 hn hn
  obtain ⟨hx0, hx1⟩ := hx
  have HR := Lib.hid hr
  have HC := Lib.hid h
  have HN := Lib.hid hn
  have hnI : (0 : Int) < (bs.length : Int) := by omega
  clear hr h
  have hx1' : W.cell? ⟨ad.block, ad.off + 1, none⟩ = some (.int .i64 bs[0].f1) := hx1
  clear hx0 hx1
  have fc : ∀ o, (W.alloc o).cell? ⟨g, 0, none⟩ = some (.slice (some ad) bs.length c) := fun o => (HC.out.below (below_one W o)).c0
  go_enter Try.func94, Try.ntmps94
  go_wp2_with fail
  clear fc
  refine (containsB 98 #[.pointer (some ⟨W.heap.size, 0, none⟩)] enters98 (some ad) c bs (rateNe bs[0].f1) _ (Kd.C_below HR.out (below_one _ _)) (fun x _ W2 hW => flat1_calls W.heap.size bs[0].f1 x W2 ((hW.cell (p := ⟨W.heap.size, 0, none⟩) (by simp)).trans ((cell_of_row _ _ 0 _ _ _ (heap_alloc_new W _)).trans rfl)))).mono ?_
  rintro e w3 ⟨rfl, hb⟩
  go_wp2_with fail
  go_ret
  exact ⟨by rw [flatB, rd0 hn]; rfl, bb (below_one _ _) hb⟩
end Go.Proofs.Ytbfhohpbldadbaa.P

namespace Go.Proofs.Ytbfhohpbldadbaa.P
open Go.RowKit Go.Proofs.YtbfhohpbldadbaaW.PrintWords Go.Proofs.YtbfhohpbldadbaaW.PrintLast Go.Proofs.YtbfhohpbldadbaaW.PrintMore
set_option linter.unusedVariables false
set_option linter.unusedSimpArgs false
/-- A box of one cell. -/
def Bx (w : World) (g t : Nat) (v : Value) : Prop := w.heap[g]? = some (.cells #[v] t (0, 0))
section
variable {w w' : World} {g t : Nat} {v : Value}
theorem Bx.c0 (h : Bx w g t v) : w.cell? ⟨g, 0, none⟩ = some v := (cell_of_row w g 0 _ t (0, 0) h).trans rfl
theorem Bx.below (h : Bx w g t v) (hb : Below w.heap.size w w') : Bx w' g t v := (hb.block g (heap_lt h)).trans h
theorem Bx.new (w : World) (t : Nat) (v : Value) : Bx (w.alloc (.cells #[v] t)) w.heap.size t v := heap_alloc_new w _
end
/-- What a call of a predicate over meters answers, in every world behind w. -/
def PredAll (F : Nat) (lb : Array Value) (w : World) (p : S33 → Bool) : Prop :=
  ∀ m W, Below w.heap.size w W → Calls Try.prog F (#[.agg #[.int .i64 m.f0, .int .i64 m.f1, .int .i64 m.f2, .string m.f3, .int .i64 m.f4]] ++ lb) W fun e W' => e = .returned (.bool (p m)) ∧ Below W.heap.size W W'
theorem PredAll.below {F : Nat} {lb : Array Value} {w w' : World} {p : S33 → Bool} (h : PredAll F lb w p) (hb : Below w.heap.size w w') : PredAll F lb w' p := fun m W hW => h m W (bb hb hW)

def lateP (p : S33 → Bool) (now : Int) (m : S33) : Bool := p m && decide (now < m.f4)
theorem enters80 : Enters 80 := fun _ _ => by kernel_rfl
set_option maxHeartbeats 2000000 in
set_option maxRecDepth 100000 in
theorem late_calls (F : Nat) (lb : Array Value) (eg : Enters F) (gF gN : Nat) (now : Int) (p : S33 → Bool) (m : S33) (W : World) (hF : Bx W gF 91 (.func (.func F) #[] lb)) (hN : Bx W gN 3 (.int .i64 now)) (hp : PredAll F lb W p) :
    Calls Try.prog 80 (#[.agg #[.int .i64 m.f0, .int .i64 m.f1, .int .i64 m.f2, .string m.f3, .int .i64 m.f4]] ++ #[.pointer (some ⟨gF, 0, none⟩), .pointer (some ⟨gN, 0, none⟩)]) W fun e W' => e = .returned (.bool (lateP p now m)) ∧ Below W.heap.size W W' := by
  have q0 := fun o => (hF.below (below_one W o)).c0
  have q1 := fun o => (hN.below (below_one W o)).c0
  have HN := Lib.hid hN
  have HP := Lib.hid hp
  have HX := Lib.hid (MBlk.new W m)
  clear hF hN hp
  unfold Enters at eg
  have x0 := HX.out.c0; have x1 := HX.out.c1; have x2 := HX.out.c2; have x3 := HX.out.c3; have x4 := HX.out.c4
  go_enter Try.func80, Try.ntmps80
  go_wp2_with fail
  refine (HP.out m _ (below_one _ _)).mono ?_
  rintro e w3 ⟨rfl, hb⟩
  replace HX := Lib.hid (HX.out.below hb)
  clear x0 x1 x2 x3 x4 q0 q1
  have x4 := HX.out.c4
  have q1 := ((HN.out.below (below_one W _)).below hb).c0
  replace hb := Lib.hid (bb (below_one _ _) hb)
  cases hq : p m
  · go_wp2_with fail
    go_ret
    exact ⟨by simp [lateP, hq], hb.out⟩
  · go_wp2_with fail
    go_ret
    exact ⟨by simp [lateP, hq], hb.out⟩
theorem C1I (W : World) (x : Int) : Kd.C (Kd.int .i64) (W.alloc (.cells #[.int .i64 x] 3)) (some ⟨W.heap.size, 0, none⟩) [x].length [x] := by
  refine ⟨rfl, by simp, fun _ => ⟨_, rfl, fun j p hj => ?_⟩⟩
  have h0 := heap_alloc_new W (.cells #[.int .i64 x] 3)
  match j, hj with
  | 0, hj =>
    obtain rfl : x = p := by simpa using hj
    refine ⟨[.int .i64 x], rfl, rfl, fun i u hi => ?_⟩
    match i, hi with
    | 0, hi =>
      obtain rfl : Value.int .i64 x = u := by simpa using hi
      exact (cell_of_row _ _ 0 _ 3 (0, 0) h0).trans rfl
    | (n + 1), hi => simp at hi
  | (n + 1), hj => simp at hj
def beginF (xs : List S33) (now : Int) (p : S33 → Bool) (chk : Int) : Int := if validB xs && !(oddT now) && !(xs.any (lateP p now)) then chk else 1
def BeginPost (err : Int) (v : Value) (w : World) (e : Ending) (w' : World) : Prop :=
  Below w.heap.size w w' ∧ ((err ≠ 0 ∧ e = .returned (.tuple #[.pointer none, .int .i64 err])) ∨ (err = 0 ∧ ∃ g, w.heap.size ≤ g ∧ e = .returned (.tuple #[.pointer (some ⟨g, 0, none⟩), .int .i64 0]) ∧ CBlk w' g v (.slice none 0 0)))
set_option maxHeartbeats 4000000 in
set_option maxRecDepth 100000 in
theorem begin_calls (F : Nat) (lb : Array Value) (eg : Enters F) (A : Option Addr) (c : Nat) (xs : List S33) (A1 : Option Addr) (c1 : Nat) (bs : List S110) (now : Int) (p : S33 → Bool) (k : Nat) (chk : Int) (w : World)
    (hr : Kd.C k33 w A xs.length xs) (hr1 : Kd.C k110 w A1 bs.length bs) (hc1 : bs.length ≤ c1) (hk : tariff_Check.f k bs = some chk) (hp : PredAll F lb w p) :
    Calls Try.prog 51 #[.slice A xs.length c, .agg #[.slice A1 bs.length c1], .int .i64 now, .func (.func F) #[] lb] w (BeginPost (beginF xs now p chk) (.slice A1 bs.length c1) w) := by
  have hmf : ∀ (fn : Fn) (first cap : Array Value) (w : World), (Instr.makeFunc fn first cap).run Try.prog w = .ok (.func fn first cap) w := fun _ _ _ _ => rfl
  obtain ⟨err, herr⟩ : ∃ err, err = beginF xs now p chk := ⟨_, rfl⟩
  rw [← herr]
  have HE := Lib.hid herr
  have HR := Lib.hid hr; have HR1 := Lib.hid hr1; have HC1 := Lib.hid hc1; have HK := Lib.hid hk; have HP := Lib.hid hp
  have EG := Lib.hid eg
  clear herr hr hr1 hc1 hk hp eg
  go_enter Try.func51, Try.ntmps51
  go_wp2_with fail
  obtain ⟨w1, hw1⟩ : ∃ w1, w1 = ((w.alloc (.cells #[.slice A1 bs.length c1] 25)).alloc (.cells #[.int .i64 now] 3)).alloc (.cells #[.func (.func F) #[] lb] 91) := ⟨_, rfl⟩
  rw [← hw1]
  have B1 : Below w.heap.size w w1 := by rw [hw1]; exact al (al (below_one _ _) _) _
  have T1 : Bx w1 w.heap.size 25 (.slice A1 bs.length c1) := by rw [hw1]; exact ((Bx.new w 25 _).below (below_one _ _)).below (below_one _ _)
  have N1 : Bx w1 (w.heap.size + 1) 3 (.int .i64 now) := by
    rw [hw1]; have h := (Bx.new (w.alloc (.cells #[.slice A1 bs.length c1] 25)) 3 (.int .i64 now)).below (below_one _ (.cells #[.func (.func F) #[] lb] 91))
    rwa [World.size_alloc] at h
  have F1 : Bx w1 (w.heap.size + 2) 91 (.func (.func F) #[] lb) := by
    rw [hw1]; have h := Bx.new ((w.alloc (.cells #[.slice A1 bs.length c1] 25)).alloc (.cells #[.int .i64 now] 3)) 91 (.func (.func F) #[] lb)
    rwa [World.size_alloc, World.size_alloc] at h
  have HB := Lib.hid B1; have HT := Lib.hid T1; have HN := Lib.hid N1; have HF := Lib.hid F1
  clear B1 T1 N1 F1 hw1
  refine (valid_calls A c xs _ (Kd.C_below HR.out HB.out)).mono ?_
  rintro e w2 ⟨rfl, hb⟩
  have hb' := Lib.hid hb
  replace HB := Lib.hid (bb HB.out hb)
  replace HT := Lib.hid (HT.out.below hb)
  replace HN := Lib.hid (HN.out.below hb)
  replace HF := Lib.hid (HF.out.below hb)
  clear hb hb'
  cases hv : validB xs
  · go_wp2_with fail
    go_ret2
    have he : err = 1 := by rw [HE.out]; simp [beginF, hv]
    exact ⟨HB.out, .inl ⟨by rw [he]; decide, by rw [he]; rfl⟩⟩
  · have q1 := HN.out.c0
    go_wp2_with fail
    refine (inTime_calls (some ⟨w2.heap.size, 0, none⟩) 1 [now] _ (C1I w2 now)).mono ?_
    rintro e w3 ⟨rfl, hb⟩
    clear q1
    replace hb := bb (below_one _ _) hb
    replace HB := Lib.hid (bb HB.out hb)
    replace HT := Lib.hid (HT.out.below hb)
    replace HN := Lib.hid (HN.out.below hb)
    replace HF := Lib.hid (HF.out.below hb)
    clear hb
    have ho : [now].any oddT = oddT now := by simp
    rw [ho]
    clear ho
    cases ht : oddT now
    · go_wp2_with fail
      refine (containsM 80 #[.pointer (some ⟨w.heap.size + 2, 0, none⟩), .pointer (some ⟨w.heap.size + 1, 0, none⟩)] enters80 A c xs (lateP p now) _ (Kd.C_below HR.out HB.out) (fun m _ W hW => late_calls F lb EG.out (w.heap.size + 2) (w.heap.size + 1) now p m W (HF.out.below hW) (HN.out.below hW) (HP.out.below (bb HB.out hW)))).mono ?_
      rintro e w4 ⟨rfl, hb⟩
      replace HB := Lib.hid (bb HB.out hb)
      replace HT := Lib.hid (HT.out.below hb)
      clear hb HN HF
      cases ha : xs.any (lateP p now)
      · have q0 := HT.out.c0
        go_wp2_with fail
        refine (tariff_Check.calls k A1 c1 bs chk _ (Kd.C_below HR1.out HB.out) HC1.out HK.out).mono ?_
        rintro e w5 ⟨rfl, hb⟩
        replace HB := Lib.hid (bb HB.out hb)
        replace HT := Lib.hid (HT.out.below hb)
        clear hb q0
        have q0 := HT.out.c0
        have he : err = chk := by rw [HE.out]; simp [beginF, hv, ht, ha]
        subst he
        clear HE HK
        cases hz : (err != 0)
        · obtain rfl : err = 0 := by simpa using hz
          go_wp2_with fail
          go_ret2
          exact ⟨al HB.out _, .inr ⟨rfl, w5.heap.size, HB.out.size, rfl, CBlk.new _ _ _⟩⟩
        · go_wp2_with fail
          go_ret2
          exact ⟨HB.out, .inl ⟨by simpa using hz, rfl⟩⟩
      · go_wp2_with fail
        go_ret2
        have he : err = 1 := by rw [HE.out]; simp [beginF, ha]
        exact ⟨HB.out, .inl ⟨by rw [he]; decide, by rw [he]; rfl⟩⟩
    · go_wp2_with fail
      go_ret2
      have he : err = 1 := by rw [HE.out]; simp [beginF, ht]
      exact ⟨HB.out, .inl ⟨by rw [he]; decide, by rw [he]; rfl⟩⟩
end Go.Proofs.Ytbfhohpbldadbaa.P

namespace Go.Proofs.Ytbfhohpbldadbaa.P
open Go.RowKit Go.Proofs.YtbfhohpbldadbaaW.PrintWords Go.Proofs.YtbfhohpbldadbaaW.PrintLast Go.Proofs.YtbfhohpbldadbaaW.PrintMore
attribute [local go_sem] max2_int min2_int max_two min_two max_three min_three max_four min_four
set_option linter.unusedVariables false
set_option linter.unusedSimpArgs false
/-- W' is W but for the blocks of 'bad' and what is new. -/
structure Fr (bad : Nat → Prop) (W W' : World) : Prop where
  low : Below 0 W W'
  same : ∀ k, k < W.heap.size → ¬ bad k → W'.heap[k]? = W.heap[k]?
theorem Fr.refl (bad : Nat → Prop) (W : World) : Fr bad W W := ⟨Below.refl _ _, fun _ _ _ => rfl⟩
theorem Fr.size {bad : Nat → Prop} {W W' : World} (h : Fr bad W W') : W.heap.size ≤ W'.heap.size := h.low.size
theorem below0_trans {A B C : World} (h : Below 0 A B) (k : Below 0 B C) : Below 0 A C :=
  ⟨k.os.trans h.os, k.tape.trans h.tape, k.output.trans h.output, Nat.le_trans h.size k.size, fun i hi => absurd hi (Nat.not_lt_zero i)⟩
theorem below_zero {B : Nat} {W W' : World} (h : Below B W W') : Below 0 W W' := ⟨h.os, h.tape, h.output, h.size, fun i hi => absurd hi (Nat.not_lt_zero i)⟩
theorem Fr.trans {bad bad' : Nat → Prop} {A B C : World} (h : Fr bad A B) (k : Fr bad' B C) (hb : ∀ i, i < A.heap.size → bad' i → bad i) : Fr bad A C :=
  ⟨below0_trans h.low k.low, fun i hi hn => (k.same i (Nat.lt_of_lt_of_le hi h.low.size) (fun hx => hn (hb i hi hx))).trans (h.same i hi hn)⟩
theorem Fr.mono {bad bad' : Nat → Prop} {A B : World} (h : Fr bad A B) (hb : ∀ i, i < A.heap.size → bad i → bad' i) : Fr bad' A B := ⟨h.low, fun i hi hn => h.same i hi (fun hx => hn (hb i hi hx))⟩
theorem Fr.of_below {W W' : World} (h : Below W.heap.size W W') (bad : Nat → Prop) : Fr bad W W' := ⟨below_zero h, fun k hk _ => h.block k hk⟩
theorem Fr.set (W : World) (g j : Nat) (u : Value) : Fr (fun k => k = g) W (W.setCell ⟨g, j, none⟩ u) :=
  ⟨below_zero (Below.setCell (Below.refl 0 W) (Nat.zero_le _) u), fun k _ hn => Below.heap_setCell _ _ _ k hn⟩
theorem Fr.of_grown {W W' : World} {row : Option Nat} (h : W.grownBy W' row) : Fr (fun k => some k = row) W W' :=
  ⟨⟨h.os, h.tape, h.output, h.size, fun i hi => absurd hi (Nat.not_lt_zero i)⟩, fun k hk hn => h.block k hk hn⟩
theorem Fr.below {bad : Nat → Prop} {w0 W W' : World} {B : Nat} (h : Fr bad W W') (hb : Below B w0 W) (hB : B ≤ w0.heap.size) (hk : ∀ k, bad k → B ≤ k) : Below B w0 W' :=
  ⟨h.low.os.trans hb.os, h.low.tape.trans hb.tape, h.low.output.trans hb.output, Nat.le_trans hb.size h.low.size, fun k hlt =>
    (h.same k (Nat.lt_of_lt_of_le (Nat.lt_of_lt_of_le hlt hB) hb.size) (fun hx => Nat.not_le_of_lt hlt (hk k hx))).trans (hb.block k hlt)⟩
theorem Fr.blk {bad : Nat → Prop} {W W' : World} {g : Nat} {o : Obj} (h : Fr bad W W') (hg : W.heap[g]? = some o) (hn : ¬ bad g) : W'.heap[g]? = some o := (h.same g (heap_lt hg) hn).trans hg
/-- The cells of a meter in the midst of a block. -/
structure MRow (W : World) (g : Nat) (cs : Array Value) (o : Nat) (m : S33) : Prop where
  blk : W.heap[g]? = some (.cells cs 33 (0, 0))
  e0 : cs[o]? = some (.int .i64 m.f0)
  e1 : cs[o + 1]? = some (.int .i64 m.f1)
  e2 : cs[o + 2]? = some (.int .i64 m.f2)
  e3 : cs[o + 3]? = some (.string m.f3)
  e4 : cs[o + 4]? = some (.int .i64 m.f4)
section
variable {W W' : World} {g o : Nat} {cs : Array Value} {m : S33}
theorem MRow.c0 (h : MRow W g cs o m) : W.cell? ⟨g, o, none⟩ = some (.int .i64 m.f0) := (blk_cell h.blk o).trans h.e0
theorem MRow.c1 (h : MRow W g cs o m) : W.cell? ⟨g, o + 1, none⟩ = some (.int .i64 m.f1) := (blk_cell h.blk (o + 1)).trans h.e1
theorem MRow.c2 (h : MRow W g cs o m) : W.cell? ⟨g, o + 2, none⟩ = some (.int .i64 m.f2) := (blk_cell h.blk (o + 2)).trans h.e2
theorem MRow.c3 (h : MRow W g cs o m) : W.cell? ⟨g, o + 3, none⟩ = some (.string m.f3) := (blk_cell h.blk (o + 3)).trans h.e3
theorem MRow.c4 (h : MRow W g cs o m) : W.cell? ⟨g, o + 4, none⟩ = some (.int .i64 m.f4) := (blk_cell h.blk (o + 4)).trans h.e4
theorem MRow.move (h : MRow W g cs o m) (hb : W'.heap[g]? = some (.cells cs 33 (0, 0))) : MRow W' g cs o m := ⟨hb, h.e0, h.e1, h.e2, h.e3, h.e4⟩
theorem MRow.below (h : MRow W g cs o m) (hb : Below W.heap.size W W') : MRow W' g cs o m := h.move ((hb.block g (heap_lt h.blk)).trans h.blk)
theorem MRow.grown {row : Option Nat} (h : MRow W g cs o m) (hg : W.grownBy W' row) (hne : some g ≠ row) : MRow W' g cs o m := h.move (blk_grown h.blk hg hne)
end
theorem CBlk.grown {W W' : World} {g : Nat} {v r : Value} {row : Option Nat} (h : CBlk W g v r) (hg : W.grownBy W' row) (hne : some g ≠ row) : CBlk W' g v r := blk_grown h hg hne
theorem C1R (W : World) (x : S39) : Kd.C k39 (W.alloc (.cells #[.int .i64 x.f0, .int .i64 x.f1, .int .i64 x.f2, .string x.f3, .int .i64 x.f4, .int .i64 x.f5, .int .i64 x.f6, .int .i64 x.f7] 39)) (some ⟨W.heap.size, 0, none⟩) 1 [x] := by
  have h := heap_alloc_new W (.cells #[.int .i64 x.f0, .int .i64 x.f1, .int .i64 x.f2, .string x.f3, .int .i64 x.f4, .int .i64 x.f5, .int .i64 x.f6, .int .i64 x.f7] 39)
  refine ⟨rfl, by simp, fun _ => ⟨_, rfl, fun j p hj => ?_⟩⟩
  match j, hj with
  | 0, hj =>
    obtain rfl : x = p := by simpa using hj
    refine ⟨[.int .i64 x.f0, .int .i64 x.f1, .int .i64 x.f2, .string x.f3, .int .i64 x.f4, .int .i64 x.f5, .int .i64 x.f6, .int .i64 x.f7], rfl, k39_mk _ x, fun i u hi => ?_⟩
    match i, hi with
    | 0, hi =>
      obtain rfl := (by simpa using hi)
      exact (blk_cell h 0).trans rfl
    | 1, hi =>
      obtain rfl := (by simpa using hi)
      exact (blk_cell h 1).trans rfl
    | 2, hi =>
      obtain rfl := (by simpa using hi)
      exact (blk_cell h 2).trans rfl
    | 3, hi =>
      obtain rfl := (by simpa using hi)
      exact (blk_cell h 3).trans rfl
    | 4, hi =>
      obtain rfl := (by simpa using hi)
      exact (blk_cell h 4).trans rfl
    | 5, hi =>
      obtain rfl := (by simpa using hi)
      exact (blk_cell h 5).trans rfl
    | 6, hi =>
      obtain rfl := (by simpa using hi)
      exact (blk_cell h 6).trans rfl
    | 7, hi =>
      obtain rfl := (by simpa using hi)
      exact (blk_cell h 7).trans rfl
    | (n + 8), hi => simp at hi
  | (n + 1), hj => simp at hj
/-- append(s, x...) of records, in a region that draws. -/
theorem app39 {ops : Array Oper} {o : Oper} {a : Act} {Q : Exit → Act → World → Prop} {Kc : Act → World → Prop} {W : World} (B : Nat) (hw : Region.wanted o (yielded ops a.tmps) = true) (s x : Operand)
    (ho : o.op = .call { callee := .builtin .append, args := #[s, x], argTypes := #[28, 28] })
    (v : Value) (xs ys : List S39) (A : Option Addr) (m c : Nat) (hs : a.eval s = v) (hx : a.eval x = .slice A m c)
    (HO : k39.R 39 W B (fun _ => True) v xs) (HR : Kd.C k39 W A m ys) (HB : B ≤ W.heap.size) (hl : (xs.length + m) * 72 ≤ 140737488355328)
    (h : ∀ v1 w1, k39.R 39 w1 B (fun _ => True) v1 (xs ++ ys) → W.grownBy w1 v.ownBlock → (v1.ownBlock = v.ownBlock ∨ ∃ b, v1.ownBlock = some b ∧ W.heap.size ≤ b) → Kc (a.put o.dst v1) w1) :
    if Region.wanted o (yielded ops a.tmps) = true then Oper.wp Try.prog o a W Kc Q else Kc (a.put o.dst undef) W :=
  Kd.R_append_rows_step (Rr := k39.K W) k39 (w0 := W) B hw s x 28 39 (.agg #[(.int .i64 0), (.int .i64 0), (.int .i64 0), (.string ⟨#[]⟩), (.int .i64 0), (.int .i64 0), (.int .i64 0), (.int .i64 0)]) 72 ho Try.underlying28 info39 rfl (by decide) (by decide) v xs ys A m c (fun _ => True) (fun _ => False) hs hx HO HR (fun y cs h => k39_open h ▸ k39_mkM _ _ _ y) (fun _ h => h.elim) (fun _ _ => trivial) (Below.refl _ _) HB hl (fun v1 w1 h1 _ h3 h4 => h v1 w1 h1 h3 h4)
/-- The record that 'cut' cuts. -/
def recOf (m : S33) (t r : Int) : S39 := ⟨m.f0, m.f1, m.f2, m.f3, m.f4, t, r, wrap64 (r * wrap64 (t - m.f4))⟩
def CutPost (vb vr : Value) (rs : List S39) (gc gm : Nat) (cs : Array Value) (B : Nat) (W : World) (e : Ending) (W' : World) : Prop :=
  e = .returned (.tuple #[]) ∧ ∃ vr' : Value, CBlk W' gc vb vr' ∧ k39.R 39 W' B (fun _ => True) vr' rs ∧ (vr'.ownBlock = vr.ownBlock ∨ ∃ b, vr'.ownBlock = some b ∧ W.heap.size ≤ b) ∧ W'.heap[gm]? = some (.cells cs 33 (0, 0)) ∧ Fr (fun k => k = gc ∨ k = gm ∨ some k = vr.ownBlock) W W'
set_option maxHeartbeats 8000000 in
set_option maxRecDepth 100000 in
theorem cut_calls (k : Nat) (A1 : Option Addr) (c1 : Nat) (bs : List S110) (vr : Value) (rs : List S39) (gc gm o : Nat) (cs : Array Value) (m : S33) (t rt er : Int) (B : Nat) (W : World)
    (hC : CBlk W gc (.slice A1 bs.length c1) vr) (hR : k39.R 39 W B (fun _ => True) vr rs) (hB : B ≤ W.heap.size) (hm : MRow W gm cs o m) (hr1 : Kd.C k110 W A1 bs.length bs) (hc1 : bs.length ≤ c1)
    (hrate : tariff_Rate.f k bs m.f4 = some (rt, er)) (hl : rs.length ≤ 2000000) :
    Calls Try.prog 54 #[.pointer (some ⟨gc, 0, none⟩), .pointer (some ⟨gm, o, none⟩), .int .i64 t] W (CutPost (.slice A1 bs.length c1) vr (rs ++ [recOf m t rt]) gc gm (cs.setIfInBounds (o + 4) (.int .i64 t)) B W) := by
  have HC := Lib.hid hC; have HR := Lib.hid hR; have HB := Lib.hid hB; have HM := Lib.hid hm; have HR1 := Lib.hid hr1; have HC1 := Lib.hid hc1; have HRT := Lib.hid hrate; have HL := Lib.hid hl
  clear hC hR hB hm hr1 hc1 hrate hl
  go_enter Try.func54, Try.ntmps54
  go_wp2_with fail
  refine start_ (n := 14) (S := fun w' => w'.cell? ⟨gc, 0, none⟩ = some (.slice A1 bs.length c1) ∧ w'.cell? ⟨gm, o + 4, none⟩ = some (.int .i64 m.f4)) (ds := []) #[false, false, false, false, false, false, false, false, false, false, false, false, false, false] (by kernel_rfl) rfl rfl ⟨HC.out.c0, HM.out.c4⟩ (fun hHeld => ?_)
  refine pure_ (i := 0) (N := some 9) (v := ?_) (a' := ?_) #[true, false, false, false, false, false, false, false, false, false, false, false, false, false] rfl rfl (by kernel_rfl) (fun _ _ _ h => h) (Or.inl ⟨by rfl, ?_⟩) ?_ ?_
  rotate_left
  · intro w'
    go_simp
    with_reducible rfl
  rotate_left
  · simp only [Act.put, List.setIfInBounds_toArray, List.set_cons_zero, List.set_cons_succ, i64_w, i32_w]
    rfl
  refine pure_ (i := 1) (N := some 10) (v := ?_) (a' := ?_) #[true, true, false, false, false, false, false, false, false, false, false, false, false, false] rfl rfl (by kernel_rfl) (fun _ _ _ h => h) (Or.inl ⟨by rfl, ?_⟩) ?_ ?_
  rotate_left
  · intro w'
    go_simp
    with_reducible rfl
  rotate_left
  · simp only [Act.put, List.setIfInBounds_toArray, List.set_cons_zero, List.set_cons_succ, i64_w, i32_w]
    rfl
  refine pure_ (i := 2) (N := some 11) (v := ?_) (a' := ?_) #[true, true, true, false, false, false, false, false, false, false, false, false, false, false] rfl rfl (by kernel_rfl) (fun _ _ _ h => h) (Or.inl ⟨by rfl, ?_⟩) ?_ ?_
  rotate_left
  · intro w'
    go_simp
    with_reducible rfl
  rotate_left
  · simp only [Act.put, List.setIfInBounds_toArray, List.set_cons_zero, List.set_cons_succ, i64_w, i32_w]
    rfl
  refine pure_ (i := 4) (N := some 13) (v := ?_) (a' := ?_) #[true, true, true, false, true, false, false, false, false, false, false, false, false, false] rfl rfl (by kernel_rfl) (fun _ _ _ h => h) (Or.inl ⟨by rfl, ?_⟩) ?_ ?_
  rotate_left
  · intro w'
    go_simp
    with_reducible rfl
  rotate_left
  · simp only [Act.put, List.setIfInBounds_toArray, List.set_cons_zero, List.set_cons_succ, i64_w, i32_w]
    rfl
  refine pure_ (i := 5) (N := some 14) (v := ?_) (a' := ?_) #[true, true, true, false, true, true, false, false, false, false, false, false, false, false] rfl rfl (by kernel_rfl) (fun _ _ _ h => h) (Or.inl ⟨by rfl, ?_⟩) ?_ ?_
  rotate_left
  · intro w'
    go_simp
    with_reducible rfl
  rotate_left
  · simp only [Act.put, List.setIfInBounds_toArray, List.set_cons_zero, List.set_cons_succ, i64_w, i32_w]
    rfl
  refine pure_ (i := 6) (N := some 15) (v := ?_) (a' := ?_) #[true, true, true, false, true, true, true, false, false, false, false, false, false, false] rfl rfl (by kernel_rfl) (fun _ _ _ h => h) (Or.inl ⟨by rfl, ?_⟩) ?_ ?_
  rotate_left
  · intro w'
    go_simp
    with_reducible rfl
  rotate_left
  · simp only [Act.put, List.setIfInBounds_toArray, List.set_cons_zero, List.set_cons_succ, i64_w, i32_w]
    rfl
  refine take_ (i := 3) (N := some 12) (v := ?_) (a' := ?_) #[true, true, true, true, true, true, true, false, false, false, false, false, false, false] rfl rfl (by kernel_rfl) (fun _ _ _ h => h) (Or.inl ⟨by rfl, ?_⟩) hHeld ?_ ?_
  rotate_left
  · rintro w' ⟨s0, s1⟩
    go_simp
    with_reducible rfl
  rotate_left
  · simp only [Act.put, List.setIfInBounds_toArray, List.set_cons_zero, List.set_cons_succ, i64_w, i32_w]
    rfl
  refine take_ (i := 7) (N := some 16) (v := ?_) (a' := ?_) #[true, true, true, true, true, true, true, true, false, false, false, false, false, false] rfl rfl (by kernel_rfl) (fun _ _ _ h => h) (Or.inl ⟨by rfl, ?_⟩) hHeld ?_ ?_
  rotate_left
  · rintro w' ⟨s0, s1⟩
    go_simp
    with_reducible rfl
  rotate_left
  · simp only [Act.put, List.setIfInBounds_toArray, List.set_cons_zero, List.set_cons_succ, i64_w, i32_w]
    rfl
  refine one_ (i := 8) (N := some 17) #[true, true, true, true, true, true, true, true, true, false, false, false, false, false] rfl rfl (by kernel_rfl) (by decide) (fun K hK => ?_)
  refine goes_ Try.func31 (by kernel_rfl) rfl #[.agg #[.slice A1 bs.length c1], .int .i64 m.f4] (by rfl) rfl rfl (by simp only [List.map_toArray, List.map_cons, List.map_nil]; rfl) ?_
  with_reducible refine (tariff_Rate.calls k A1 c1 bs m.f4 rt er _ (Kd.C_drew HR1.out) HC1.out HRT.out).mono ?_
  rintro e w1 ⟨rfl, hb⟩
  refine ⟨_, rfl, ?_⟩
  replace hb : Below W.heap.size W w1 := bb (below_drew (Below.refl _ _)) hb
  have HC := Lib.hid (HC.out.below (w := W) hb)
  have HM := Lib.hid (HM.out.below (W := W) hb)
  have HB1 := Lib.hid hb
  clear hb
  refine hK.out _ _ ⟨HC.out.c0, HM.out.c4⟩ (fun hHeld => ?_)
  clear hK K
  refine norm_ (a' := ?_) ?_ ?_
  rotate_left
  · show Act.put _ (some 17) _ = _
    simp only [Act.put, List.setIfInBounds_toArray, List.set_cons_zero, List.set_cons_succ, i64_w, i32_w]
    rfl
  refine pure_ (i := 9) (N := some 8) (v := ?_) (a' := ?_) #[true, true, true, true, true, true, true, true, true, true, false, false, false, false] rfl rfl (by kernel_rfl) (fun _ _ _ h => h) (Or.inl ⟨by rfl, ?_⟩) ?_ ?_
  rotate_left
  · intro w'
    go_simp
    with_reducible rfl
  rotate_left
  · simp only [Act.put, List.setIfInBounds_toArray, List.set_cons_zero, List.set_cons_succ, i64_w, i32_w]
    rfl
  refine pure_ (i := 10) (N := some 18) (v := ?_) (a' := ?_) #[true, true, true, true, true, true, true, true, true, true, true, false, false, false] rfl rfl (by kernel_rfl) (fun _ _ _ h => h) (Or.inl ⟨by rfl, ?_⟩) ?_ ?_
  rotate_left
  · intro w'
    go_simp
    with_reducible rfl
  rotate_left
  · simp only [Act.put, List.setIfInBounds_toArray, List.set_cons_zero, List.set_cons_succ, i64_w, i32_w]
    rfl
  refine pure_ (i := 11) (N := some 19) (v := ?_) (a' := ?_) #[true, true, true, true, true, true, true, true, true, true, true, true, false, false] rfl rfl (by kernel_rfl) (fun _ _ _ h => h) (Or.inl ⟨by rfl, ?_⟩) ?_ ?_
  rotate_left
  · intro w'
    go_simp
    with_reducible rfl
  rotate_left
  · simp only [Act.put, List.setIfInBounds_toArray, List.set_cons_zero, List.set_cons_succ, i64_w, i32_w]
    rfl
  refine pure_ (i := 12) (N := some 6) (v := ?_) (a' := ?_) #[true, true, true, true, true, true, true, true, true, true, true, true, true, false] rfl rfl (by kernel_rfl) (fun _ _ _ h => h) (Or.inl ⟨by rfl, ?_⟩) ?_ ?_
  rotate_left
  · intro w'
    go_simp
    with_reducible rfl
  rotate_left
  · simp only [Act.put, List.setIfInBounds_toArray, List.set_cons_zero, List.set_cons_succ, i64_w, i32_w]
    rfl
  refine pure_ (i := 13) (N := some 7) (v := ?_) (a' := ?_) #[true, true, true, true, true, true, true, true, true, true, true, true, true, true] rfl rfl (by kernel_rfl) (fun _ _ _ h => h) (Or.inl ⟨by rfl, ?_⟩) ?_ ?_
  rotate_left
  · intro w'
    go_simp
    with_reducible rfl
  rotate_left
  · simp only [Act.put, List.setIfInBounds_toArray, List.set_cons_zero, List.set_cons_succ, i64_w, i32_w]
    rfl
  refine done_ (by kernel_rfl) ?_

  go_wp2_with fail
  have B1 := Lib.hid (below_drew HB1.out)
  have HC2 := Lib.hid (show CBlk w1.drew gc (.slice A1 bs.length c1) vr from HC.out); have HM2 := Lib.hid (HM.out.move (W' := w1.drew) HM.out.blk)
  have HR2 := Lib.hid (Kd.R_drew (Kd.R_below HR.out HB1.out))
  refine start_ (n := 41) (S := fun w' => w'.cell? ⟨gc, 1, none⟩ = some vr ∧ w'.cell? ⟨gm, o, none⟩ = some (.int .i64 m.f0) ∧ w'.cell? ⟨gm, o + 1, none⟩ = some (.int .i64 m.f1) ∧ w'.cell? ⟨gm, o + 2, none⟩ = some (.int .i64 m.f2) ∧ w'.cell? ⟨gm, o + 3, none⟩ = some (.string m.f3) ∧ w'.cell? ⟨gm, o + 4, none⟩ = some (.int .i64 m.f4)) (ds := [40]) #[false, false, false, false, false, false, false, false, false, false, false, false, false, false, false, false, false, false, false, false, false, false, false, false, false, false, false, false, false, false, false, false, false, false, false, false, false, false, false, false, false] (by kernel_rfl) rfl rfl ⟨HC2.out.c1, HM2.out.c0, HM2.out.c1, HM2.out.c2, HM2.out.c3, HM2.out.c4⟩ (fun hHeld => ?_)
  generalize w1.drew = w2 at B1 HC2 HM2 HR2 hHeld ⊢
  refine pure_ (i := 0) (N := some 20) (v := ?_) (a' := ?_) #[true, false, false, false, false, false, false, false, false, false, false, false, false, false, false, false, false, false, false, false, false, false, false, false, false, false, false, false, false, false, false, false, false, false, false, false, false, false, false, false, false] rfl rfl (by kernel_rfl) (fun _ _ _ h => h) (Or.inl ⟨by rfl, ?_⟩) ?_ ?_
  rotate_left
  · intro w'
    go_simp
    with_reducible rfl
  rotate_left
  · simp only [Act.put, List.setIfInBounds_toArray, List.set_cons_zero, List.set_cons_succ, i64_w, i32_w]
    rfl
  refine pure_ (i := 1) (N := some 21) (v := ?_) (a' := ?_) #[true, true, false, false, false, false, false, false, false, false, false, false, false, false, false, false, false, false, false, false, false, false, false, false, false, false, false, false, false, false, false, false, false, false, false, false, false, false, false, false, false] rfl rfl (by kernel_rfl) (fun _ _ _ h => h) (Or.inl ⟨by rfl, ?_⟩) ?_ ?_
  rotate_left
  · intro w'
    go_simp
    with_reducible rfl
  rotate_left
  · simp only [Act.put, List.setIfInBounds_toArray, List.set_cons_zero, List.set_cons_succ, i64_w, i32_w]
    rfl
  refine pure_ (i := 2) (N := some 22) (v := ?_) (a' := ?_) #[true, true, true, false, false, false, false, false, false, false, false, false, false, false, false, false, false, false, false, false, false, false, false, false, false, false, false, false, false, false, false, false, false, false, false, false, false, false, false, false, false] rfl rfl (by kernel_rfl) (fun _ _ _ h => h) (Or.inl ⟨by rfl, ?_⟩) ?_ ?_
  rotate_left
  · intro w'
    go_simp
    with_reducible rfl
  rotate_left
  · simp only [Act.put, List.setIfInBounds_toArray, List.set_cons_zero, List.set_cons_succ, i64_w, i32_w]
    rfl
  refine pure_ (i := 3) (N := some 23) (v := ?_) (a' := ?_) #[true, true, true, true, false, false, false, false, false, false, false, false, false, false, false, false, false, false, false, false, false, false, false, false, false, false, false, false, false, false, false, false, false, false, false, false, false, false, false, false, false] rfl rfl (by kernel_rfl) (fun _ _ _ h => h) (Or.inl ⟨by rfl, ?_⟩) ?_ ?_
  rotate_left
  · intro w'
    go_simp
    with_reducible rfl
  rotate_left
  · simp only [Act.put, List.setIfInBounds_toArray, List.set_cons_zero, List.set_cons_succ, i64_w, i32_w]
    rfl
  refine pure_ (i := 5) (N := some 25) (v := ?_) (a' := ?_) #[true, true, true, true, false, true, false, false, false, false, false, false, false, false, false, false, false, false, false, false, false, false, false, false, false, false, false, false, false, false, false, false, false, false, false, false, false, false, false, false, false] rfl rfl (by kernel_rfl) (fun _ _ _ h => h) (Or.inl ⟨by rfl, ?_⟩) ?_ ?_
  rotate_left
  · intro w'
    go_simp
    with_reducible rfl
  rotate_left
  · simp only [Act.put, List.setIfInBounds_toArray, List.set_cons_zero, List.set_cons_succ, i64_w, i32_w]
    rfl
  refine pure_ (i := 6) (N := some 26) (v := ?_) (a' := ?_) #[true, true, true, true, false, true, true, false, false, false, false, false, false, false, false, false, false, false, false, false, false, false, false, false, false, false, false, false, false, false, false, false, false, false, false, false, false, false, false, false, false] rfl rfl (by kernel_rfl) (fun _ _ _ h => h) (Or.inl ⟨by rfl, ?_⟩) ?_ ?_
  rotate_left
  · intro w'
    go_simp
    with_reducible rfl
  rotate_left
  · simp only [Act.put, List.setIfInBounds_toArray, List.set_cons_zero, List.set_cons_succ, i64_w, i32_w]
    rfl
  refine pure_ (i := 7) (N := some 27) (v := ?_) (a' := ?_) #[true, true, true, true, false, true, true, true, false, false, false, false, false, false, false, false, false, false, false, false, false, false, false, false, false, false, false, false, false, false, false, false, false, false, false, false, false, false, false, false, false] rfl rfl (by kernel_rfl) (fun _ _ _ h => h) (Or.inl ⟨by rfl, ?_⟩) ?_ ?_
  rotate_left
  · intro w'
    go_simp
    with_reducible rfl
  rotate_left
  · simp only [Act.put, List.setIfInBounds_toArray, List.set_cons_zero, List.set_cons_succ, i64_w, i32_w]
    rfl
  refine pure_ (i := 9) (N := some 29) (v := ?_) (a' := ?_) #[true, true, true, true, false, true, true, true, false, true, false, false, false, false, false, false, false, false, false, false, false, false, false, false, false, false, false, false, false, false, false, false, false, false, false, false, false, false, false, false, false] rfl rfl (by kernel_rfl) (fun _ _ _ h => h) (Or.inl ⟨by rfl, ?_⟩) ?_ ?_
  rotate_left
  · intro w'
    go_simp
    with_reducible rfl
  rotate_left
  · simp only [Act.put, List.setIfInBounds_toArray, List.set_cons_zero, List.set_cons_succ, i64_w, i32_w]
    rfl
  refine pure_ (i := 10) (N := some 30) (v := ?_) (a' := ?_) #[true, true, true, true, false, true, true, true, false, true, true, false, false, false, false, false, false, false, false, false, false, false, false, false, false, false, false, false, false, false, false, false, false, false, false, false, false, false, false, false, false] rfl rfl (by kernel_rfl) (fun _ _ _ h => h) (Or.inl ⟨by rfl, ?_⟩) ?_ ?_
  rotate_left
  · intro w'
    go_simp
    with_reducible rfl
  rotate_left
  · simp only [Act.put, List.setIfInBounds_toArray, List.set_cons_zero, List.set_cons_succ, i64_w, i32_w]
    rfl
  refine pure_ (i := 11) (N := some 31) (v := ?_) (a' := ?_) #[true, true, true, true, false, true, true, true, false, true, true, true, false, false, false, false, false, false, false, false, false, false, false, false, false, false, false, false, false, false, false, false, false, false, false, false, false, false, false, false, false] rfl rfl (by kernel_rfl) (fun _ _ _ h => h) (Or.inl ⟨by rfl, ?_⟩) ?_ ?_
  rotate_left
  · intro w'
    go_simp
    with_reducible rfl
  rotate_left
  · simp only [Act.put, List.setIfInBounds_toArray, List.set_cons_zero, List.set_cons_succ, i64_w, i32_w]
    rfl
  refine pure_ (i := 13) (N := some 33) (v := ?_) (a' := ?_) #[true, true, true, true, false, true, true, true, false, true, true, true, false, true, false, false, false, false, false, false, false, false, false, false, false, false, false, false, false, false, false, false, false, false, false, false, false, false, false, false, false] rfl rfl (by kernel_rfl) (fun _ _ _ h => h) (Or.inl ⟨by rfl, ?_⟩) ?_ ?_
  rotate_left
  · intro w'
    go_simp
    with_reducible rfl
  rotate_left
  · simp only [Act.put, List.setIfInBounds_toArray, List.set_cons_zero, List.set_cons_succ, i64_w, i32_w]
    rfl
  refine pure_ (i := 14) (N := some 34) (v := ?_) (a' := ?_) #[true, true, true, true, false, true, true, true, false, true, true, true, false, true, true, false, false, false, false, false, false, false, false, false, false, false, false, false, false, false, false, false, false, false, false, false, false, false, false, false, false] rfl rfl (by kernel_rfl) (fun _ _ _ h => h) (Or.inl ⟨by rfl, ?_⟩) ?_ ?_
  rotate_left
  · intro w'
    go_simp
    with_reducible rfl
  rotate_left
  · simp only [Act.put, List.setIfInBounds_toArray, List.set_cons_zero, List.set_cons_succ, i64_w, i32_w]
    rfl
  refine pure_ (i := 15) (N := some 35) (v := ?_) (a' := ?_) #[true, true, true, true, false, true, true, true, false, true, true, true, false, true, true, true, false, false, false, false, false, false, false, false, false, false, false, false, false, false, false, false, false, false, false, false, false, false, false, false, false] rfl rfl (by kernel_rfl) (fun _ _ _ h => h) (Or.inl ⟨by rfl, ?_⟩) ?_ ?_
  rotate_left
  · intro w'
    go_simp
    with_reducible rfl
  rotate_left
  · simp only [Act.put, List.setIfInBounds_toArray, List.set_cons_zero, List.set_cons_succ, i64_w, i32_w]
    rfl
  refine pure_ (i := 17) (N := some 37) (v := ?_) (a' := ?_) #[true, true, true, true, false, true, true, true, false, true, true, true, false, true, true, true, false, true, false, false, false, false, false, false, false, false, false, false, false, false, false, false, false, false, false, false, false, false, false, false, false] rfl rfl (by kernel_rfl) (fun _ _ _ h => h) (Or.inl ⟨by rfl, ?_⟩) ?_ ?_
  rotate_left
  · intro w'
    go_simp
    with_reducible rfl
  rotate_left
  · simp only [Act.put, List.setIfInBounds_toArray, List.set_cons_zero, List.set_cons_succ, i64_w, i32_w]
    rfl
  refine pure_ (i := 18) (N := some 38) (v := ?_) (a' := ?_) #[true, true, true, true, false, true, true, true, false, true, true, true, false, true, true, true, false, true, true, false, false, false, false, false, false, false, false, false, false, false, false, false, false, false, false, false, false, false, false, false, false] rfl rfl (by kernel_rfl) (fun _ _ _ h => h) (Or.inl ⟨by rfl, ?_⟩) ?_ ?_
  rotate_left
  · intro w'
    go_simp
    with_reducible rfl
  rotate_left
  · simp only [Act.put, List.setIfInBounds_toArray, List.set_cons_zero, List.set_cons_succ, i64_w, i32_w]
    rfl
  refine pure_ (i := 19) (N := some 39) (v := ?_) (a' := ?_) #[true, true, true, true, false, true, true, true, false, true, true, true, false, true, true, true, false, true, true, true, false, false, false, false, false, false, false, false, false, false, false, false, false, false, false, false, false, false, false, false, false] rfl rfl (by kernel_rfl) (fun _ _ _ h => h) (Or.inl ⟨by rfl, ?_⟩) ?_ ?_
  rotate_left
  · intro w'
    go_simp
    with_reducible rfl
  rotate_left
  · simp only [Act.put, List.setIfInBounds_toArray, List.set_cons_zero, List.set_cons_succ, i64_w, i32_w]
    rfl
  refine pure_ (i := 21) (N := some 41) (v := ?_) (a' := ?_) #[true, true, true, true, false, true, true, true, false, true, true, true, false, true, true, true, false, true, true, true, false, true, false, false, false, false, false, false, false, false, false, false, false, false, false, false, false, false, false, false, false] rfl rfl (by kernel_rfl) (fun _ _ _ h => h) (Or.inl ⟨by rfl, ?_⟩) ?_ ?_
  rotate_left
  · intro w'
    go_simp
    with_reducible rfl
  rotate_left
  · simp only [Act.put, List.setIfInBounds_toArray, List.set_cons_zero, List.set_cons_succ, i64_w, i32_w]
    rfl
  refine pure_ (i := 22) (N := some 42) (v := ?_) (a' := ?_) #[true, true, true, true, false, true, true, true, false, true, true, true, false, true, true, true, false, true, true, true, false, true, true, false, false, false, false, false, false, false, false, false, false, false, false, false, false, false, false, false, false] rfl rfl (by kernel_rfl) (fun _ _ _ h => h) (Or.inl ⟨by rfl, ?_⟩) ?_ ?_
  rotate_left
  · intro w'
    go_simp
    with_reducible rfl
  rotate_left
  · simp only [Act.put, List.setIfInBounds_toArray, List.set_cons_zero, List.set_cons_succ, i64_w, i32_w]
    rfl
  refine pure_ (i := 23) (N := some 43) (v := ?_) (a' := ?_) #[true, true, true, true, false, true, true, true, false, true, true, true, false, true, true, true, false, true, true, true, false, true, true, true, false, false, false, false, false, false, false, false, false, false, false, false, false, false, false, false, false] rfl rfl (by kernel_rfl) (fun _ _ _ h => h) (Or.inl ⟨by rfl, ?_⟩) ?_ ?_
  rotate_left
  · intro w'
    go_simp
    with_reducible rfl
  rotate_left
  · simp only [Act.put, List.setIfInBounds_toArray, List.set_cons_zero, List.set_cons_succ, i64_w, i32_w]
    rfl
  refine pure_ (i := 25) (N := some 45) (v := ?_) (a' := ?_) #[true, true, true, true, false, true, true, true, false, true, true, true, false, true, true, true, false, true, true, true, false, true, true, true, false, true, false, false, false, false, false, false, false, false, false, false, false, false, false, false, false] rfl rfl (by kernel_rfl) (fun _ _ _ h => h) (Or.inl ⟨by rfl, ?_⟩) ?_ ?_
  rotate_left
  · intro w'
    go_simp
    with_reducible rfl
  rotate_left
  · simp only [Act.put, List.setIfInBounds_toArray, List.set_cons_zero, List.set_cons_succ, i64_w, i32_w]
    rfl
  refine pure_ (i := 26) (N := some 46) (v := ?_) (a' := ?_) #[true, true, true, true, false, true, true, true, false, true, true, true, false, true, true, true, false, true, true, true, false, true, true, true, false, true, true, false, false, false, false, false, false, false, false, false, false, false, false, false, false] rfl rfl (by kernel_rfl) (fun _ _ _ h => h) (Or.inl ⟨by rfl, ?_⟩) ?_ ?_
  rotate_left
  · intro w'
    go_simp
    with_reducible rfl
  rotate_left
  · simp only [Act.put, List.setIfInBounds_toArray, List.set_cons_zero, List.set_cons_succ, i64_w, i32_w]
    rfl
  refine pure_ (i := 27) (N := some 47) (v := ?_) (a' := ?_) #[true, true, true, true, false, true, true, true, false, true, true, true, false, true, true, true, false, true, true, true, false, true, true, true, false, true, true, true, false, false, false, false, false, false, false, false, false, false, false, false, false] rfl rfl (by kernel_rfl) (fun _ _ _ h => h) (Or.inl ⟨by rfl, ?_⟩) ?_ ?_
  rotate_left
  · intro w'
    go_simp
    with_reducible rfl
  rotate_left
  · simp only [Act.put, List.setIfInBounds_toArray, List.set_cons_zero, List.set_cons_succ, i64_w, i32_w]
    rfl
  refine pure_ (i := 28) (N := some 48) (v := ?_) (a' := ?_) #[true, true, true, true, false, true, true, true, false, true, true, true, false, true, true, true, false, true, true, true, false, true, true, true, false, true, true, true, true, false, false, false, false, false, false, false, false, false, false, false, false] rfl rfl (by kernel_rfl) (fun _ _ _ h => h) (Or.inl ⟨by rfl, ?_⟩) ?_ ?_
  rotate_left
  · intro w'
    go_simp
    with_reducible rfl
  rotate_left
  · simp only [Act.put, List.setIfInBounds_toArray, List.set_cons_zero, List.set_cons_succ, i64_w, i32_w]
    rfl
  refine pure_ (i := 29) (N := some 49) (v := ?_) (a' := ?_) #[true, true, true, true, false, true, true, true, false, true, true, true, false, true, true, true, false, true, true, true, false, true, true, true, false, true, true, true, true, true, false, false, false, false, false, false, false, false, false, false, false] rfl rfl (by kernel_rfl) (fun _ _ _ h => h) (Or.inl ⟨by rfl, ?_⟩) ?_ ?_
  rotate_left
  · intro w'
    go_simp
    with_reducible rfl
  rotate_left
  · simp only [Act.put, List.setIfInBounds_toArray, List.set_cons_zero, List.set_cons_succ, i64_w, i32_w]
    rfl
  refine pure_ (i := 30) (N := some 50) (v := ?_) (a' := ?_) #[true, true, true, true, false, true, true, true, false, true, true, true, false, true, true, true, false, true, true, true, false, true, true, true, false, true, true, true, true, true, true, false, false, false, false, false, false, false, false, false, false] rfl rfl (by kernel_rfl) (fun _ _ _ h => h) (Or.inl ⟨by rfl, ?_⟩) ?_ ?_
  rotate_left
  · intro w'
    go_simp
    with_reducible rfl
  rotate_left
  · simp only [Act.put, List.setIfInBounds_toArray, List.set_cons_zero, List.set_cons_succ, i64_w, i32_w]
    rfl
  refine pure_ (i := 31) (N := some 51) (v := ?_) (a' := ?_) #[true, true, true, true, false, true, true, true, false, true, true, true, false, true, true, true, false, true, true, true, false, true, true, true, false, true, true, true, true, true, true, true, false, false, false, false, false, false, false, false, false] rfl rfl (by kernel_rfl) (fun _ _ _ h => h) (Or.inl ⟨by rfl, ?_⟩) ?_ ?_
  rotate_left
  · intro w'
    go_simp
    with_reducible rfl
  rotate_left
  · simp only [Act.put, List.setIfInBounds_toArray, List.set_cons_zero, List.set_cons_succ, i64_w, i32_w]
    rfl
  refine take_ (i := 4) (N := some 24) (v := ?_) (a' := ?_) #[true, true, true, true, true, true, true, true, false, true, true, true, false, true, true, true, false, true, true, true, false, true, true, true, false, true, true, true, true, true, true, true, false, false, false, false, false, false, false, false, false] rfl rfl (by kernel_rfl) (fun _ _ _ h => h) (Or.inl ⟨by rfl, ?_⟩) hHeld ?_ ?_
  rotate_left
  · rintro w' ⟨s0, s1, s2, s3, s4, s5⟩
    go_simp
    with_reducible rfl
  rotate_left
  · simp only [Act.put, List.setIfInBounds_toArray, List.set_cons_zero, List.set_cons_succ, i64_w, i32_w]
    rfl
  refine take_ (i := 8) (N := some 28) (v := ?_) (a' := ?_) #[true, true, true, true, true, true, true, true, true, true, true, true, false, true, true, true, false, true, true, true, false, true, true, true, false, true, true, true, true, true, true, true, false, false, false, false, false, false, false, false, false] rfl rfl (by kernel_rfl) (fun _ _ _ h => h) (Or.inl ⟨by rfl, ?_⟩) hHeld ?_ ?_
  rotate_left
  · rintro w' ⟨s0, s1, s2, s3, s4, s5⟩
    go_simp
    with_reducible rfl
  rotate_left
  · simp only [Act.put, List.setIfInBounds_toArray, List.set_cons_zero, List.set_cons_succ, i64_w, i32_w]
    rfl
  refine take_ (i := 12) (N := some 32) (v := ?_) (a' := ?_) #[true, true, true, true, true, true, true, true, true, true, true, true, true, true, true, true, false, true, true, true, false, true, true, true, false, true, true, true, true, true, true, true, false, false, false, false, false, false, false, false, false] rfl rfl (by kernel_rfl) (fun _ _ _ h => h) (Or.inl ⟨by rfl, ?_⟩) hHeld ?_ ?_
  rotate_left
  · rintro w' ⟨s0, s1, s2, s3, s4, s5⟩
    go_simp
    with_reducible rfl
  rotate_left
  · simp only [Act.put, List.setIfInBounds_toArray, List.set_cons_zero, List.set_cons_succ, i64_w, i32_w]
    rfl
  refine take_ (i := 16) (N := some 36) (v := ?_) (a' := ?_) #[true, true, true, true, true, true, true, true, true, true, true, true, true, true, true, true, true, true, true, true, false, true, true, true, false, true, true, true, true, true, true, true, false, false, false, false, false, false, false, false, false] rfl rfl (by kernel_rfl) (fun _ _ _ h => h) (Or.inl ⟨by rfl, ?_⟩) hHeld ?_ ?_
  rotate_left
  · rintro w' ⟨s0, s1, s2, s3, s4, s5⟩
    go_simp
    with_reducible rfl
  rotate_left
  · simp only [Act.put, List.setIfInBounds_toArray, List.set_cons_zero, List.set_cons_succ, i64_w, i32_w]
    rfl
  refine take_ (i := 20) (N := some 40) (v := ?_) (a' := ?_) #[true, true, true, true, true, true, true, true, true, true, true, true, true, true, true, true, true, true, true, true, true, true, true, true, false, true, true, true, true, true, true, true, false, false, false, false, false, false, false, false, false] rfl rfl (by kernel_rfl) (fun _ _ _ h => h) (Or.inl ⟨by rfl, ?_⟩) hHeld ?_ ?_
  rotate_left
  · rintro w' ⟨s0, s1, s2, s3, s4, s5⟩
    go_simp
    with_reducible rfl
  rotate_left
  · simp only [Act.put, List.setIfInBounds_toArray, List.set_cons_zero, List.set_cons_succ, i64_w, i32_w]
    rfl
  refine take_ (i := 24) (N := some 44) (v := ?_) (a' := ?_) #[true, true, true, true, true, true, true, true, true, true, true, true, true, true, true, true, true, true, true, true, true, true, true, true, true, true, true, true, true, true, true, true, false, false, false, false, false, false, false, false, false] rfl rfl (by kernel_rfl) (fun _ _ _ h => h) (Or.inl ⟨by rfl, ?_⟩) hHeld ?_ ?_
  rotate_left
  · rintro w' ⟨s0, s1, s2, s3, s4, s5⟩
    go_simp
    with_reducible rfl
  rotate_left
  · simp only [Act.put, List.setIfInBounds_toArray, List.set_cons_zero, List.set_cons_succ, i64_w, i32_w]
    rfl
  refine take_ (i := 32) (N := some 52) (v := ?_) (a' := ?_) #[true, true, true, true, true, true, true, true, true, true, true, true, true, true, true, true, true, true, true, true, true, true, true, true, true, true, true, true, true, true, true, true, true, false, false, false, false, false, false, false, false] rfl rfl (by kernel_rfl) (fun _ _ _ h => h) (Or.inl ⟨by rfl, ?_⟩) hHeld ?_ ?_
  rotate_left
  · rintro w' ⟨s0, s1, s2, s3, s4, s5⟩
    go_simp
    with_reducible rfl
  rotate_left
  · simp only [Act.put, List.setIfInBounds_toArray, List.set_cons_zero, List.set_cons_succ, i64_w, i32_w]
    rfl
  refine pure_ (i := 33) (N := some 53) (v := ?_) (a' := ?_) #[true, true, true, true, true, true, true, true, true, true, true, true, true, true, true, true, true, true, true, true, true, true, true, true, true, true, true, true, true, true, true, true, true, true, false, false, false, false, false, false, false] rfl rfl (by kernel_rfl) (fun _ _ _ h => h) (Or.inl ⟨by rfl, ?_⟩) ?_ ?_
  rotate_left
  · intro w'
    go_simp
    with_reducible rfl
  rotate_left
  · simp only [Act.put, List.setIfInBounds_toArray, List.set_cons_zero, List.set_cons_succ, i64_w, i32_w]
    rfl
  refine pure_ (i := 34) (N := some 54) (v := ?_) (a' := ?_) #[true, true, true, true, true, true, true, true, true, true, true, true, true, true, true, true, true, true, true, true, true, true, true, true, true, true, true, true, true, true, true, true, true, true, true, false, false, false, false, false, false] rfl rfl (by kernel_rfl) (fun _ _ _ h => h) (Or.inl ⟨by rfl, ?_⟩) ?_ ?_
  rotate_left
  · intro w'
    go_simp
    with_reducible rfl
  rotate_left
  · simp only [Act.put, List.setIfInBounds_toArray, List.set_cons_zero, List.set_cons_succ, i64_w, i32_w]
    rfl
  refine pure_ (i := 35) (N := some 55) (v := ?_) (a' := ?_) #[true, true, true, true, true, true, true, true, true, true, true, true, true, true, true, true, true, true, true, true, true, true, true, true, true, true, true, true, true, true, true, true, true, true, true, true, false, false, false, false, false] rfl rfl (by kernel_rfl) (fun _ _ _ h => h) (Or.inl ⟨by rfl, ?_⟩) ?_ ?_
  rotate_left
  · intro w'
    go_simp
    with_reducible rfl
  rotate_left
  · simp only [Act.put, List.setIfInBounds_toArray, List.set_cons_zero, List.set_cons_succ, i64_w, i32_w]
    rfl
  refine one_ (i := 36) (N := some 56) #[true, true, true, true, true, true, true, true, true, true, true, true, true, true, true, true, true, true, true, true, true, true, true, true, true, true, true, true, true, true, true, true, true, true, true, true, true, false, false, false, false] rfl rfl (by kernel_rfl) (by decide) (fun K hK => ?_)
  refine value_ (w1 := ?_) (v := ?_) (by rfl) rfl ?_ ?_
  rotate_left 2
  · go_simp
    constructor
    · rfl
    · rfl
  refine hK.out _ _ ⟨(CBlk.below HC2.out (below_one _ _)).c1, (MRow.below HM2.out (below_one _ _)).c0, (MRow.below HM2.out (below_one _ _)).c1, (MRow.below HM2.out (below_one _ _)).c2, (MRow.below HM2.out (below_one _ _)).c3, (MRow.below HM2.out (below_one _ _)).c4⟩ (fun hHeld => ?_)
  clear hK K
  refine norm_ (a' := ?_) ?_ ?_
  rotate_left
  · show Act.put _ (some 56) _ = _
    simp only [Act.put, List.setIfInBounds_toArray, List.set_cons_zero, List.set_cons_succ, i64_w, i32_w]
    rfl
  refine one_ (i := 37) (N := some 57) #[true, true, true, true, true, true, true, true, true, true, true, true, true, true, true, true, true, true, true, true, true, true, true, true, true, true, true, true, true, true, true, true, true, true, true, true, true, true, false, false, false] rfl rfl (by kernel_rfl) (by decide) (fun K hK => ?_)
  refine app39 B (by rfl) (.tmp 24) (.tmp 56) (by rfl) vr rs [recOf m t rt] (some ⟨w2.heap.size, 0, none⟩) 1 1 (by rfl) (by rfl) (Kd.R_alloc HR2.out _) (C1R w2 (recOf m t rt)) (Nat.le_trans HB.out (Nat.le_trans B1.out.size (below_one _ _).size)) (by have := HL.out; omega) ?_
  intro v3 w3 hR3 hg3 hat3
  obtain ⟨g3, cap3, rfl, _, _, _⟩ := Kd.R_form hR3 (by simp)
  have hlen : (rs ++ [recOf m t rt]).length = rs.length + 1 := by simp
  simp only [hlen] at hR3 hat3 hg3 ⊢
  clear hlen
  have HG := Lib.hid hg3; have HR3 := Lib.hid hR3; have HAT := Lib.hid hat3
  have HC3 := Lib.hid (CBlk.grown (CBlk.below HC2.out (below_one _ _)) HG.out (Kd.R_ne HR2.out HC2.out (by decide)))
  have HM3 := Lib.hid (MRow.grown (MRow.below HM2.out (below_one _ _)) HG.out (Kd.R_ne HR2.out HM2.out.blk (by decide)))
  clear hg3 hR3 hat3
  refine hK.out _ _ ⟨HC3.out.c1, HM3.out.c0, HM3.out.c1, HM3.out.c2, HM3.out.c3, HM3.out.c4⟩ (fun hHeld => ?_)
  clear hK K
  refine norm_ (a' := ?_) ?_ ?_
  rotate_left
  · show Act.put _ (some 57) _ = _
    simp only [Act.put, List.setIfInBounds_toArray, List.set_cons_zero, List.set_cons_succ, i64_w, i32_w]
    rfl
  refine pure_ (i := 38) (N := some 58) (v := ?_) (a' := ?_) #[true, true, true, true, true, true, true, true, true, true, true, true, true, true, true, true, true, true, true, true, true, true, true, true, true, true, true, true, true, true, true, true, true, true, true, true, true, true, true, false, false] rfl rfl (by kernel_rfl) (fun _ _ _ h => h) (Or.inl ⟨by rfl, ?_⟩) ?_ ?_
  rotate_left
  · intro w'
    go_simp
    with_reducible rfl
  rotate_left
  · simp only [Act.put, List.setIfInBounds_toArray, List.set_cons_zero, List.set_cons_succ, i64_w, i32_w]
    rfl
  refine pure_ (i := 39) (N := some 59) (v := ?_) (a' := ?_) #[true, true, true, true, true, true, true, true, true, true, true, true, true, true, true, true, true, true, true, true, true, true, true, true, true, true, true, true, true, true, true, true, true, true, true, true, true, true, true, true, false] rfl rfl (by kernel_rfl) (fun _ _ _ h => h) (Or.inl ⟨by rfl, ?_⟩) ?_ ?_
  rotate_left
  · intro w'
    go_simp
    with_reducible rfl
  rotate_left
  · simp only [Act.put, List.setIfInBounds_toArray, List.set_cons_zero, List.set_cons_succ, i64_w, i32_w]
    rfl
  refine last_ (i := 40) (N := none) #[true, true, true, true, true, true, true, true, true, true, true, true, true, true, true, true, true, true, true, true, true, true, true, true, true, true, true, true, true, true, true, true, true, true, true, true, true, true, true, true, true] rfl rfl (by kernel_rfl) (by decide) (fun K hK => ?_)
  have q1 := HC3.out.c1; have q2 := blk_frozen HC3.out 1
  refine skip_ (w1 := ?_) (by rfl) rfl ?_ ?_
  rotate_left
  · go_simp
    rfl
  refine hK.out _ _ ?_
  clear hK K
  refine done_ (by kernel_rfl) ?_

  have HN3 := Lib.hid (Kd.R_ne HR3.out HC3.out (by decide)); have HNM := Lib.hid (Kd.R_ne HR3.out HM3.out.blk (by decide))
  have hcm : gm ≠ gc := blk_ne HM3.out.blk HC3.out (by decide)
  obtain ⟨w4, hw4⟩ : ∃ w4, w4 = w3.setCell ⟨gc, 1, none⟩ (.slice (some ⟨g3, 0, none⟩) (rs.length + 1) cap3) := ⟨_, rfl⟩
  have HM4 := Lib.hid (show MRow w4 gm cs o m by rw [hw4]; exact HM3.out.move (blk_far HM3.out.blk hcm _))
  have HC4 := Lib.hid (show CBlk w4 gc (.slice A1 bs.length c1) (.slice (some ⟨g3, 0, none⟩) (rs.length + 1) cap3) by rw [hw4]; exact blk_put HC3.out 1 _ rfl)
  have HR4 := Lib.hid (show k39.R 39 w4 B (fun _ => True) (.slice (some ⟨g3, 0, none⟩) (rs.length + 1) cap3) (rs ++ [recOf m t rt]) by rw [hw4]; exact Kd.R_mono (Kd.R_far (p := ⟨gc, 1, none⟩) (Kd.R_far1 HR3.out rfl HN3.out) (fun _ h => h.2) _) (fun _ _ => trivial))
  have F4 := Lib.hid (show Fr (fun k => k = gc ∨ some k = vr.ownBlock) W w4 by
    rw [hw4]
    refine Fr.trans (Fr.trans (Fr.of_below (W := W) (W' := w2) B1.out (fun k => k = gc ∨ some k = vr.ownBlock)) (Fr.trans (Fr.of_below (below_one w2 _) (fun k => some k = vr.ownBlock)) (Fr.of_grown HG.out) (fun _ _ h => h)) (fun _ _ h => Or.inr h)) (Fr.set _ gc 1 _) (fun _ _ h => Or.inl h))
  rw [← hw4]
  have hs4 : w3.heap.size ≤ w4.heap.size := by rw [hw4]; exact (Fr.set w3 gc 1 _).size
  clear hw4 HC3 HM3 HR3 HNM
  have q4 := HM4.out.c4
  have q5 := blk_frozen HM4.out.blk (o + 4)
  go_wp2_with fail
  refine bodyPost_end (results_none rfl _ _ _) rfl ?_
  refine ⟨rfl, _, blk_far HC4.out (Ne.symm hcm) _, Kd.R_mono (Kd.R_far (p := ⟨gm, o + 4, none⟩) (Kd.R_far1 HR4.out rfl (Kd.R_ne HR4.out HM4.out.blk (by decide))) (fun _ h => h.2) _) (fun _ _ => trivial), ?_, blk_put HM4.out.blk (o + 4) _ rfl, ?_⟩
  · rcases HAT.out with h | ⟨b, h, hb⟩
    · exact .inl h
    · exact .inr ⟨b, h, Nat.le_trans B1.out.size (Nat.le_trans (below_one _ _).size hb)⟩
  · exact Fr.trans (F4.out.mono (fun _ _ h => h.elim .inl (fun h => .inr (.inr h)))) (Fr.set w4 gm (o + 4) _) (fun _ _ h => .inr (.inl h))
end Go.Proofs.Ytbfhohpbldadbaa.P

namespace Go.Proofs.Ytbfhohpbldadbaa.P
open Go Go.RowKit Go.Proofs.YtbfhohpbldadbaaW.PrintWords Go.Proofs.YtbfhohpbldadbaaW.PrintLast Go.Proofs.YtbfhohpbldadbaaW.PrintMore
set_option linter.unusedVariables false
set_option linter.unusedSimpArgs false
/-- W' is W but for block bf, what is new, and blocks from N on that hold no cells. -/
structure Move (bf N : Nat) (W W' : World) : Prop where
  low : Below 0 W W'
  same : ∀ k o, W.heap[k]? = some o → k ≠ bf → (k < N ∨ o.isCells = true) → W'.heap[k]? = some o
def Holds (bf N : Nat) (I : List Int → World → Prop) : Prop := ∀ s W W', I s W → Move bf N W W' → I s W'
/-- An iterator's step: block bf alone may be another. -/
def Steady (bf : Nat) (J : List Int → World → Prop) : Prop := ∀ s W W', J s W → Fr (fun k => k = bf) W W' → J s W'
theorem Move.of_fr {bf N : Nat} {W W' : World} (h : Fr (fun k => k = bf) W W') : Move bf N W W' := ⟨h.low, fun k o hk hn _ => h.blk hk hn⟩
theorem Move.alloc (bf N : Nat) (W : World) (o : Obj) : Move bf N W (W.alloc o) := Move.of_fr (Fr.of_below (below_one W o) _)
theorem Move.put {bf N : Nat} {W : World} {l : Nat} {o : Obj} (o' : Obj) (hl : W.heap[l]? = some o) (hN : N ≤ l) (hc : o.isCells = false) : Move bf N W (W.putObj l o') :=
  ⟨⟨rfl, rfl, rfl, by simp, fun i hi => absurd hi (Nat.not_lt_zero i)⟩, fun k q hk _ hor => by
    refine (World.putObj_heap_other (fun e => ?_)).trans hk
    subst e
    rw [hl] at hk; cases hk
    rcases hor with h | h
    · omega
    · rw [hc] at h; cases h⟩
/-- The contract of 'changes' iterator, which keeps a cell of its own in block bf. -/
def Seq93 (n bf : Nat) (lb : Array Value) (Kp : World → World → Prop) (G S : List Int → Prop) (w : World) : Prop :=
  ∀ (l : Nat) (J Jx : List Int → World → Prop) (W : World), Below w.heap.size w W → Steady bf J → Steady bf Jx →
    (∀ pre x W1, J pre W1 → G (pre ++ [x]) → YieldAt Fence.wide (n - 1) Try.prog l #[.int .i64 x] W1 fun e W' =>
      (e = .returned (.bool true) ∧ J (pre ++ [x]) W' ∧ Kp W1 W') ∨ (e = .returned (.bool false) ∧ Jx (pre ++ [x]) W')) →
    J [] W →
    CallsIn Fence.wide n Try.prog 93 (#[.func (.yield l) #[] #[]] ++ lb) W fun e W' => (∃ v, e = .returned v) ∧ ((∃ xs, S xs ∧ J xs W') ∨ (∃ pre, G pre ∧ Jx pre W'))
/-- How a round of the body is left: it goes on, or it returns. -/
def Round93 (B : Nat) (Kp : World → World → Prop) (I Ix : List Int → World → Prop) (xs : List Int) (W : World) : Exit → Act → World → Prop
  | .normal, _, W' => KeepsFrom B W W' ∧ Kp W W' ∧ I xs W'
  | .ret, _, W' => KeepsFrom B W W' ∧ Ix xs W'
  | _, _, _ => False
theorem loop93 {n : Nat} {g : Operand} {p0 : Tmp} {assign body : Code} {Q : Exit → Act → World → Prop} {a : Act} {w : World} (h1 : 1 ≤ n) {lb : Array Value} (hg : a.eval g = .func (.func 93) #[] lb) (eg : Enters 93)
    {bf : Nat} (hbf : bf < w.heap.size) {Kp : World → World → Prop} {G S : List Int → Prop} {w0 : World} (hseq : Seq93 (n - 1) bf lb Kp G S w0)
    (hKt : ∀ {A B C : World}, Kp A B → Kp B C → Kp A C) (hKb : ∀ (W : World) (l : Nat) (o o' : Obj), w.heap.size ≤ l → W.heap[l]? = some o → o.isCells = false → Kp W (W.putObj l o'))
    (hb0 : Below w0.heap.size w0 w) (I Ix : List Int → World → Prop) (hI : Holds bf w.heap.size I) (hIx : Holds bf w.heap.size Ix) (h0 : I [] w) (a₁ : Int → Act)
    (hassign : ∀ (l : Nat) (x : Int) (W : World) (K : Act → World → Prop), K (a₁ x) W → assign.wpIn (Fence.wide.inRound l) (n - 1 - 1) Try.prog (Exit.then K (fun _ _ _ => False)) { tmps := a.tmps.setIfInBounds p0 (.int .i64 x), defers := [] } W)
    (hbody : ∀ (l : Nat) (pre : List Int) (x : Int) (W : World), I pre W → G (pre ++ [x]) → body.wpIn (Fence.wide.inRound l) (n - 1 - 1) Try.prog (Round93 w.heap.size Kp I Ix (pre ++ [x]) W) (a₁ x) W)
    (hdone : ∀ (D : Nat) (xs : List Int) (W : World), w.heap.size ≤ D → S xs → I xs W → W.heap[D]? = some (.deferred (some [])) → Q .normal { a with defers := { target := .collected D, args := #[] } :: a.defers } W)
    (hstop : ∀ (D : Nat) (pre : List Int) (W : World), w.heap.size ≤ D → G pre → Ix pre W → W.heap[D]? = some (.deferred (some [])) → Code.ret.wpIn Fence.wide n Try.prog Q { a with defers := { target := .collected D, args := #[] } :: a.defers } W) :
    (Code.rangeFunc g #[p0] assign body).wpIn Fence.wide n Try.prog Q a w := by
  refine wpIn_rangeFunc fun fn hfn => ?_
  obtain ⟨rec, hrec⟩ : ∃ rec : LoopState → Option Code → Loop, rec = fun st pe => { state := st, pending := pe, fn, tmps := a.tmps, params := #[p0], assign, body, defers := w.heap.size } := ⟨_, rfl⟩
  -- where the loop's own two blocks lie
  have hD : ∀ o : Obj, (w.alloc (.deferred (some []))).heap[w.heap.size]? = some (.deferred (some [])) ∧ ((w.alloc (.deferred (some []))).alloc o).heap[w.heap.size + 1]? = some o ∧ ((w.alloc (.deferred (some []))).alloc o).heap[w.heap.size]? = some (.deferred (some [])) := fun o => by
    have e1 := World.alloc_heap_new w (.deferred (some []))
    have e2 := World.alloc_heap_new (w.alloc (.deferred (some []))) o
    rw [World.size_alloc] at e2
    exact ⟨e1, e2, (Below.heap_alloc _ _ _ (by simp)).trans e1⟩
  obtain ⟨W1, hW1⟩ : ∃ W1, (w.alloc (.deferred (some []))).alloc (.loop (rec .ready none)) = W1 := ⟨_, rfl⟩
  have hL1 : W1.heap[w.heap.size + 1]? = some (.loop (rec .ready none)) := by rw [← hW1]; exact (hD _).2.1
  have hK1 : W1.heap[w.heap.size]? = some (.deferred (some [])) := by rw [← hW1]; exact (hD _).2.2
  have hI1 : I [] W1 := by rw [← hW1]; exact hI _ _ _ (hI _ _ _ h0 (Move.alloc _ _ _ _)) (Move.alloc _ _ _ _)
  have hb1 : Below w0.heap.size w0 W1 := by rw [← hW1]; exact bb hb0 (al (below_one w _) _)
  refine ⟨w.heap.size + 1, [{ target := .collected w.heap.size, args := #[] }], W1, { target := .fn (.func 93) lb, args := #[.func (.yield (w.heap.size + 1)) #[] #[]] }, W1, 93,
    #[.func (.yield (w.heap.size + 1)) #[] #[]] ++ lb, W1, ?_, ?_, fun _ _ => trivial, ?_, fun _ => h1, ?_⟩
  · rw [← hW1, hrec]; exact run_enterLoop_outer _ _ _ _ _
  · simp only [resolve, hg]
    simp [go_sem]
  · simp [invoke, go_sem, eg _ _]
  · refine (hseq (w.heap.size + 1)
      (fun pre W => I pre W ∧ W.heap[w.heap.size + 1]? = some (.loop (rec .ready none)) ∧ W.heap[w.heap.size]? = some (.deferred (some [])))
      (fun pre W => Ix pre W ∧ W.heap[w.heap.size + 1]? = some (.loop (rec .done (some .ret))) ∧ W.heap[w.heap.size]? = some (.deferred (some [])))
      W1 hb1
      (fun s A B hs hf => ⟨hI _ _ _ hs.1 (Move.of_fr hf), hf.blk hs.2.1 (by omega), hf.blk hs.2.2 (by omega)⟩)
      (fun s A B hs hf => ⟨hIx _ _ _ hs.1 (Move.of_fr hf), hf.blk hs.2.1 (by omega), hf.blk hs.2.2 (by omega)⟩)
      ?_ ⟨hI1, hL1, hK1⟩).mono ?_
    · rintro pre x W ⟨hi, hl, hk⟩ hG
      have hy : (Instr.yield (w.heap.size + 1) #[.int .i64 x]).run Try.prog W = .ok (.round (w.heap.size + 1) fn (a.tmps.setIfInBounds p0 (.int .i64 x)) assign body) W := by
        have := run_yield (P := Try.prog) (args := #[.int .i64 x]) hl (by rw [hrec]; rfl)
        rw [hrec] at this
        simpa using this
      refine ⟨fn, _, assign, body, hy, roundIn_of_wpIn hfn ?_⟩
      refine hassign _ x W _ ?_
      refine ⟨_, run_beginRound hl (by rw [hrec]), ?_⟩
      obtain ⟨W2, hW2⟩ : ∃ W2, W2 = W.putObj (w.heap.size + 1) (.loop { rec .ready none with state := .busy }) := ⟨_, rfl⟩
      rw [← hW2]
      have hl2 : W2.heap[w.heap.size + 1]? = some (.loop { rec .ready none with state := .busy }) := by rw [hW2]; exact World.putObj_heap_same (heap_lt hl)
      have hk2 : W2.heap[w.heap.size]? = some (.deferred (some [])) := by rw [hW2]; exact (World.putObj_heap_other (by omega)).trans hk
      have hp2 : Kp W W2 := by rw [hW2]; exact hKb _ _ _ _ (by omega) hl rfl
      have hi2 : I pre W2 := by rw [hW2]; exact hI _ _ _ hi (Move.put _ hl (by omega) rfl)
      clear hW2
      have fin : ∀ (jump : Option Code) (W3 : World), KeepsFrom w.heap.size W2 W3 → ∃ W4, W4 = W3.putObj (w.heap.size + 1) (.loop (rec (if jump.isNone then .ready else .done) jump)) ∧
          (Instr.endRound (w.heap.size + 1) jump).run Try.prog W3 = .ok (.bool jump.isNone) W4 ∧ Move bf w.heap.size W3 W4 ∧ Kp W3 W4 ∧
          W4.heap[w.heap.size + 1]? = some (.loop (rec (if jump.isNone then .ready else .done) jump)) ∧ W4.heap[w.heap.size]? = some (.deferred (some [])) := fun jump W3 hk3 => by
        have hl3 := hk3.same _ _ (by omega) hl2 rfl
        have hr := run_endRound (P := Try.prog) jump hl3
        rw [hrec] at hr hl3 ⊢
        exact ⟨_, rfl, hr, Move.put _ hl3 (by omega) rfl, hKb _ _ _ _ (by omega) hl3 rfl, World.putObj_heap_same (heap_lt hl3), (World.putObj_heap_other (by omega)).trans (hk3.same _ _ (Nat.le_refl _) hk2 rfl)⟩
      refine wpIn_mono (hbody _ pre x W2 hi2 hG) ?_
      rintro e a3 W3 hp
      cases e with
      | normal =>
        obtain ⟨hk3, hkp3, hi3⟩ := hp
        obtain ⟨W4, _, hr, hm, hkp, hl4, hk4⟩ := fin none W3 hk3
        exact ⟨_, _, hr, .inl ⟨rfl, ⟨hI _ _ _ hi3 hm, hl4, hk4⟩, hKt (hKt hp2 hkp3) hkp⟩⟩
      | ret =>
        obtain ⟨hk3, hi3⟩ := hp
        obtain ⟨W4, _, hr, hm, hkp, hl4, hk4⟩ := fin (some .ret) W3 hk3
        exact ⟨_, _, hr, .inr ⟨rfl, hIx _ _ _ hi3 hm, hl4, hk4⟩⟩
      | exit id => exact hp.elim
      | goto t => exact hp.elim
      | panic ch => exact hp.elim
      | outgrown => exact hp.elim
    · rintro e W2 ⟨⟨v, rfl⟩, (⟨xs, hS, hi, hl, hk⟩ | ⟨pre, hSp, hi, hl, hk⟩)⟩
      · exact ⟨none, _, by have := run_endLoop (P := Try.prog) hl (by rw [hrec]; simp); rw [hrec] at this; exact this, hdone _ xs _ (Nat.le_refl _) hS (hI _ _ _ hi (Move.put _ hl (by omega) rfl)) ((World.putObj_heap_other (by omega)).trans hk)⟩
      · exact ⟨some .ret, _, by have := run_endLoop (P := Try.prog) hl (by rw [hrec]; simp); rw [hrec] at this; exact this, hstop _ pre _ (Nat.le_refl _) hSp (hIx _ _ _ hi (Move.put _ hl (by omega) rfl)) ((World.putObj_heap_other (by omega)).trans hk)⟩
end Go.Proofs.Ytbfhohpbldadbaa.P

namespace Go.Proofs.Ytbfhohpbldadbaa.P
open Go Go.RowKit Go.Proofs.YtbfhohpbldadbaaW.PrintWords Go.Proofs.YtbfhohpbldadbaaW.PrintLast Go.Proofs.YtbfhohpbldadbaaW.PrintMore
attribute [local go_sem] Oper.semAt_some
set_option linter.unusedVariables false
set_option linter.unusedSimpArgs false
theorem enters93 : Enters 93 := fun _ _ => by kernel_rfl
set_option maxHeartbeats 1000000 in
set_option maxRecDepth 100000 in
theorem changes_calls (gc : Nat) (f t : Int) (W : World) :
    Calls Try.prog 82 #[.pointer (some ⟨gc, 0, none⟩), .int .i64 f, .int .i64 t] W fun e W' =>
      e = .returned (.func (.func 93) #[] #[.pointer (some ⟨W.heap.size, 0, none⟩), .pointer (some ⟨W.heap.size + 1, 0, none⟩), .pointer (some ⟨W.heap.size + 2, 0, none⟩)]) ∧
      W' = ((W.alloc (.cells #[.pointer (some ⟨gc, 0, none⟩)] 93)).alloc (.cells #[.int .i64 f] 3)).alloc (.cells #[.int .i64 t] 3) := by
  have hmf : ∀ (fn : Fn) (first cap : Array Value) (w : World), (Instr.makeFunc fn first cap).run Try.prog w = .ok (.func fn first cap) w := fun _ _ _ _ => rfl
  go_enter Try.func82, Try.ntmps82
  go_wp2_with fail
  go_ret
  exact ⟨rfl, rfl⟩
/-- The changes after cur, up to lim: nx tells the next one. -/
def Ch (nx : Int → Int) (lim : Int) : Int → List Int → Prop
  | cur, [] => lim < nx cur
  | cur, y :: L => y = nx cur ∧ y ≤ lim ∧ Ch nx lim y L
/-- What a round that goes on keeps. -/
structure Keep93 (bc bf bt gc : Nat) (vb : Value) (wb W W' : World) : Prop where
  size : W.heap.size ≤ W'.heap.size
  c : W'.heap[bc]? = W.heap[bc]?
  f : W'.heap[bf]? = W.heap[bf]?
  t : W'.heap[bt]? = W.heap[bt]?
  blk : ∀ r, CBlk W gc vb r → ∃ r', CBlk W' gc vb r'
  row : Below wb.heap.size wb W → Below wb.heap.size wb W'
theorem Keep93.trans {bc bf bt gc : Nat} {vb : Value} {wb : World} {A B C : World} (h : Keep93 bc bf bt gc vb wb A B) (k : Keep93 bc bf bt gc vb wb B C) : Keep93 bc bf bt gc vb wb A C :=
  ⟨Nat.le_trans h.size k.size, k.c.trans h.c, k.f.trans h.f, k.t.trans h.t, fun r hr => by obtain ⟨r1, h1⟩ := h.blk r hr; exact k.blk r1 h1, fun hr => k.row (h.row hr)⟩
/-- The number in the cell of block bf. -/
def curOf (bf : Nat) (W : World) : Int := match W.cell? ⟨bf, 0, none⟩ with
  | some (.int _ x) => x
  | _ => 0
theorem curOf_eq {bf t : Nat} {W : World} {x : Int} (h : Bx W bf t (.int .i64 x)) : curOf bf W = x := by
  unfold curOf; rw [h.c0]
/-- What holds between two rounds of the iterator. -/
def Inv93 (bc bf bt gc : Nat) (wb : World) (A1 : Option Addr) (c1 : Nat) (bs : List S110) (nx : Int → Int) (t : Int) (L : List Int) (J : List Int → World → Prop) (W : World) : Prop :=
  ∃ (pre rest : List Int) (cur : Int) (r : Value), L = pre ++ rest ∧ Ch nx t cur rest ∧ 0 ≤ cur ∧ cur ≤ 1099511627776 ∧ Bx W bf 3 (.int .i64 cur) ∧ Bx W bc 93 (.pointer (some ⟨gc, 0, none⟩)) ∧ Bx W bt 3 (.int .i64 t) ∧
    CBlk W gc (.slice A1 bs.length c1) r ∧ Below wb.heap.size wb W ∧ J pre W
/-- What the walk of the iterator asks of the tariff. -/
structure Tar (k : Nat) (bs : List S110) (nx rt : Int → Int) : Prop where
  pos : 0 < bs.length
  rate : ∀ t, 0 ≤ t → t ≤ 1099511627776 → tariff_Rate.f k bs t = some (rt t, 0)
  chg : flatB bs = false → ∀ t, 0 ≤ t → t ≤ 1099511627776 → tariff_Change.f k bs t = some (nx t, true, 0)
  up : flatB bs = false → ∀ t, 0 ≤ t → t ≤ 1099511627776 → t < nx t
set_option maxHeartbeats 8000000 in
set_option maxRecDepth 100000 in
theorem changes1_seq (n : Nat) (hn : 1 ≤ n) (bc bf bt gc : Nat) (hne : bf ≠ bc ∧ bf ≠ bt ∧ bf ≠ gc) (A1 : Option Addr) (c1 : Nat) (bs : List S110) (k : Nat) (nx rt : Int → Int) (htar : Tar k bs nx rt) (f t : Int) (hf0 : 0 ≤ f) (hf1 : f ≤ 1099511627776) (ht1 : t ≤ 1099511627776)
    (L : List Int) (hL0 : flatB bs = true → L = []) (hL1 : flatB bs = false → Ch nx t f L) (w : World) (r : Value)
    (hc : Bx w bc 93 (.pointer (some ⟨gc, 0, none⟩))) (hf : Bx w bf 3 (.int .i64 f)) (ht : Bx w bt 3 (.int .i64 t)) (hg : CBlk w gc (.slice A1 bs.length c1) r) (wb : World) (hwb : Below wb.heap.size wb w) (hwf : wb.heap.size ≤ bf) (hrb : Kd.C k110 wb A1 bs.length bs) (hc1 : bs.length ≤ c1) :
    Seq93 n bf #[.pointer (some ⟨bc, 0, none⟩), .pointer (some ⟨bf, 0, none⟩), .pointer (some ⟨bt, 0, none⟩)] (Keep93 bc bf bt gc (.slice A1 bs.length c1) wb) (fun pre => pre <+: L) (fun xs => xs = L) w := by
  intro l J Jx W hW hJ hJx hY h0
  refine callsIn_of_wp Try.func93 rfl trivial ?_ rfl
  simp only [Try.ntmps93, List.size_toArray, List.length_cons, List.length_nil, Nat.reduceAdd, Nat.reduceSub, Array.replicate_succ, Array.replicate_zero, List.push_toArray, List.append_toArray, List.nil_append, List.cons_append]
  have q1 := (hc.below hW).c0
  gi_wp2
  refine ⟨trivial, (callsIn_wide.2 (flat_calls gc r A1 c1 bs W (hg.below hW) (Kd.C_below hrb (bb hwb hW)) htar.pos)).mono ?_⟩
  rintro e w1 ⟨rfl, hb⟩
  have hfr := Lib.hid (Fr.of_below hb (fun k => k = bf))
  have HC := Lib.hid ((hc.below hW).below hb); have HF := Lib.hid ((hf.below hW).below hb); have HT := Lib.hid ((ht.below hW).below hb); have HG := Lib.hid ((hg.below hW).below hb)
  have HR := Lib.hid (bb (bb hwb hW) hb); have HRB := Lib.hid hrb; have HWF := Lib.hid hwf; have HJ := Lib.hid (hJ [] W w1 h0 hfr.out)
  have hJ' := Lib.hid hJ; have hJx' := Lib.hid hJx; have hY' := Lib.hid hY; have HL0 := Lib.hid hL0; have HL1 := Lib.hid hL1
  have HTAR := Lib.hid htar; have HNE := Lib.hid hne; have HC1 := Lib.hid hc1; have HB := Lib.hid (And.intro hf0 (And.intro hf1 ht1))
  clear hc hf ht hg hwb hwf hrb hW h0 hb q1 hfr hJ hJx hY hL0 hL1 htar hne hc1 hf0 hf1 ht1
  cases hfl : flatB bs
  · gi_wp2
    gi_loopw [5, 6, 7] (fun _ _ _ wr => Inv93 bc bf bt gc wb A1 c1 bs nx t L J wr) (fun _ _ _ wr => (1099511627776 - curOf bf wr).toNat)
    case atStart => exact ⟨[], L, f, r, rfl, HL1.out hfl, HB.out.1, HB.out.2.1, HF.out, HC.out, HT.out, HG.out, HR.out, HJ.out⟩
    case round =>
      obtain ⟨pre, rest, cur, r1, hx, hch, h0, h1, hf, hc, ht, hg, hr, hj⟩ := hrel
      have QF := Lib.hid hf; have QF0 := Lib.hid hf; have QC := Lib.hid hc; have QT := Lib.hid ht; have QG := Lib.hid hg; have QR := Lib.hid hr; have QJ := Lib.hid hj; have QX := Lib.hid hx; have QH := Lib.hid hch; have Q0 := Lib.hid h0; have Q1 := Lib.hid h1
      have QN := Lib.hid (HTAR.out.up hfl cur h0 h1); have QCH := Lib.hid (HTAR.out.chg hfl cur h0 h1); have HFL := Lib.hid hfl
      clear hf hc ht hg hr hj hx hch h0 h1 hfl HC HF HT HG HR HJ HL0 HL1
      gi_wp2
      refine wpIn_wide.2 ?_
      refine start_ (n := 13) (S := fun w' => w'.cell? ⟨bc, 0, none⟩ = some (.pointer (some ⟨gc, 0, none⟩)) ∧ w'.cell? ⟨gc, 0, none⟩ = some (.slice A1 bs.length c1) ∧ w'.cell? ⟨bf, 0, none⟩ = some (.int .i64 cur)) (ds := []) #[false, false, false, false, false, false, false, false, false, false, false, false, false] (by kernel_rfl) rfl rfl ⟨QC.out.c0, QG.out.c0, QF.out.c0⟩ (fun hHeld => ?_)
      refine take_ (i := 0) (N := some 11) (v := ?_) (a' := ?_) #[true, false, false, false, false, false, false, false, false, false, false, false, false] rfl rfl (by kernel_rfl) (fun _ _ _ h => h) (Or.inl ⟨by rfl, ?_⟩) hHeld ?_ ?_
      rotate_left
      · rintro w' ⟨s0, s1, s2⟩
        go_simp
        with_reducible rfl
      rotate_left
      · simp only [Act.put, List.setIfInBounds_toArray, List.set_cons_zero, List.set_cons_succ, i64_w, i32_w]
        rfl
      refine pure_ (i := 1) (N := some 12) (v := ?_) (a' := ?_) #[true, true, false, false, false, false, false, false, false, false, false, false, false] rfl rfl (by kernel_rfl) (fun _ _ _ h => h) (Or.inl ⟨by rfl, ?_⟩) ?_ ?_
      rotate_left
      · intro w'
        go_simp
        with_reducible rfl
      rotate_left
      · simp only [Act.put, List.setIfInBounds_toArray, List.set_cons_zero, List.set_cons_succ, i64_w, i32_w]
        rfl
      refine pure_ (i := 2) (N := some 13) (v := ?_) (a' := ?_) #[true, true, true, false, false, false, false, false, false, false, false, false, false] rfl rfl (by kernel_rfl) (fun _ _ _ h => h) (Or.inl ⟨by rfl, ?_⟩) ?_ ?_
      rotate_left
      · intro w'
        go_simp
        with_reducible rfl
      rotate_left
      · simp only [Act.put, List.setIfInBounds_toArray, List.set_cons_zero, List.set_cons_succ, i64_w, i32_w]
        rfl
      refine take_ (i := 3) (N := some 14) (v := ?_) (a' := ?_) #[true, true, true, true, false, false, false, false, false, false, false, false, false] rfl rfl (by kernel_rfl) (fun _ _ _ h => h) (Or.inl ⟨by rfl, ?_⟩) hHeld ?_ ?_
      rotate_left
      · rintro w' ⟨s0, s1, s2⟩
        go_simp
        with_reducible rfl
      rotate_left
      · simp only [Act.put, List.setIfInBounds_toArray, List.set_cons_zero, List.set_cons_succ, i64_w, i32_w]
        rfl
      refine take_ (i := 4) (N := some 15) (v := ?_) (a' := ?_) #[true, true, true, true, true, false, false, false, false, false, false, false, false] rfl rfl (by kernel_rfl) (fun _ _ _ h => h) (Or.inl ⟨by rfl, ?_⟩) hHeld ?_ ?_
      rotate_left
      · rintro w' ⟨s0, s1, s2⟩
        go_simp
        with_reducible rfl
      rotate_left
      · simp only [Act.put, List.setIfInBounds_toArray, List.set_cons_zero, List.set_cons_succ, i64_w, i32_w]
        rfl
      refine one_ (i := 5) (N := some 16) #[true, true, true, true, true, true, false, false, false, false, false, false, false] rfl rfl (by kernel_rfl) (by decide) (fun K hK => ?_)
      refine goes_ Try.func32 (by kernel_rfl) rfl #[.agg #[.slice A1 bs.length c1], .int .i64 cur] (by rfl) rfl rfl (by simp only [List.map_toArray, List.map_cons, List.map_nil]; rfl) ?_
      with_reducible refine (tariff_Change.calls k A1 c1 bs cur (nx cur) true 0 _ (Kd.C_drew (Kd.C_below HRB.out QR.out)) HC1.out QCH.out).mono ?_
      rintro e w2 ⟨rfl, hb⟩
      refine ⟨_, rfl, ?_⟩
      replace hb : Below wr.heap.size wr w2 := bb (below_drew (Below.refl _ _)) hb
      have QF := Lib.hid (QF.out.below hb); have QC := Lib.hid (QC.out.below hb); have QT := Lib.hid (QT.out.below hb); have QG := Lib.hid (QG.out.below hb); have QR := Lib.hid (bb QR.out hb)
      have QJ := Lib.hid (hJ'.out _ _ _ QJ.out (Fr.of_below hb _)); have QS := Lib.hid hb.size
      clear hb
      refine hK.out _ _ ⟨QC.out.c0, QG.out.c0, QF.out.c0⟩ (fun hHeld => ?_)
      clear hK K
      refine norm_ (a' := ?_) ?_ ?_
      rotate_left
      · show Act.put _ (some 16) _ = _
        simp only [Act.put, List.setIfInBounds_toArray, List.set_cons_zero, List.set_cons_succ, i64_w, i32_w]
        rfl
      refine pure_ (i := 6) (N := some 10) (v := ?_) (a' := ?_) #[true, true, true, true, true, true, true, false, false, false, false, false, false] rfl rfl (by kernel_rfl) (fun _ _ _ h => h) (Or.inl ⟨by rfl, ?_⟩) ?_ ?_
      rotate_left
      · intro w'
        go_simp
        with_reducible rfl
      rotate_left
      · simp only [Act.put, List.setIfInBounds_toArray, List.set_cons_zero, List.set_cons_succ, i64_w, i32_w]
        rfl
      refine pure_ (i := 7) (N := some 17) (v := ?_) (a' := ?_) #[true, true, true, true, true, true, true, true, false, false, false, false, false] rfl rfl (by kernel_rfl) (fun _ _ _ h => h) (Or.inl ⟨by rfl, ?_⟩) ?_ ?_
      rotate_left
      · intro w'
        go_simp
        with_reducible rfl
      rotate_left
      · simp only [Act.put, List.setIfInBounds_toArray, List.set_cons_zero, List.set_cons_succ, i64_w, i32_w]
        rfl
      refine pure_ (i := 8) (N := some 18) (v := ?_) (a' := ?_) #[true, true, true, true, true, true, true, true, true, false, false, false, false] rfl rfl (by kernel_rfl) (fun _ _ _ h => h) (Or.inl ⟨by rfl, ?_⟩) ?_ ?_
      rotate_left
      · intro w'
        go_simp
        with_reducible rfl
      rotate_left
      · simp only [Act.put, List.setIfInBounds_toArray, List.set_cons_zero, List.set_cons_succ, i64_w, i32_w]
        rfl
      refine pure_ (i := 9) (N := some 19) (v := ?_) (a' := ?_) #[true, true, true, true, true, true, true, true, true, true, false, false, false] rfl rfl (by kernel_rfl) (fun _ _ _ h => h) (Or.inl ⟨by rfl, ?_⟩) ?_ ?_
      rotate_left
      · intro w'
        go_simp
        with_reducible rfl
      rotate_left
      · simp only [Act.put, List.setIfInBounds_toArray, List.set_cons_zero, List.set_cons_succ, i64_w, i32_w]
        rfl
      refine pure_ (i := 10) (N := some 5) (v := ?_) (a' := ?_) #[true, true, true, true, true, true, true, true, true, true, true, false, false] rfl rfl (by kernel_rfl) (fun _ _ _ h => h) (Or.inl ⟨by rfl, ?_⟩) ?_ ?_
      rotate_left
      · intro w'
        go_simp
        with_reducible rfl
      rotate_left
      · simp only [Act.put, List.setIfInBounds_toArray, List.set_cons_zero, List.set_cons_succ, i64_w, i32_w]
        rfl
      refine pure_ (i := 11) (N := some 6) (v := ?_) (a' := ?_) #[true, true, true, true, true, true, true, true, true, true, true, true, false] rfl rfl (by kernel_rfl) (fun _ _ _ h => h) (Or.inl ⟨by rfl, ?_⟩) ?_ ?_
      rotate_left
      · intro w'
        go_simp
        with_reducible rfl
      rotate_left
      · simp only [Act.put, List.setIfInBounds_toArray, List.set_cons_zero, List.set_cons_succ, i64_w, i32_w]
        rfl
      refine pure_ (i := 12) (N := some 7) (v := ?_) (a' := ?_) #[true, true, true, true, true, true, true, true, true, true, true, true, true] rfl rfl (by kernel_rfl) (fun _ _ _ h => h) (Or.inl ⟨by rfl, ?_⟩) ?_ ?_
      rotate_left
      · intro w'
        go_simp
        with_reducible rfl
      rotate_left
      · simp only [Act.put, List.setIfInBounds_toArray, List.set_cons_zero, List.set_cons_succ, i64_w, i32_w]
        rfl
      refine done_ (by kernel_rfl) ?_

      have q3 := QT.out.c0
      cases rest with
      | nil =>
        have hd : decide (t < nx cur) = true := decide_eq_true QH.out
        gi_wp2
        refine ⟨fun _ h => (by cases h), ?_⟩
        gi_wp2
        refine bodyPost_ret (results_none rfl _ _ _) rfl ?_
        exact ⟨⟨_, rfl⟩, .inl ⟨pre, by rw [QX.out, List.append_nil], QJ.out⟩⟩
      | cons y rest =>
        have hd : decide (t < nx cur) = false := decide_eq_false (by have := QH.out.1; have := QH.out.2.1; omega)
        have hG : pre ++ [nx cur] <+: L := by rw [QX.out, QH.out.1]; exact ⟨rest, by simp⟩
        obtain ⟨fn, tmps, assign, body, hy, hR⟩ := hY'.out pre (nx cur) w2 QJ.out hG
        have HGG := Lib.hid hG
        clear hG
        gi_wp2
        refine hR.mono ?_
        clear hR hy
        rintro e W3 (⟨rfl, hJ3, hk3⟩ | ⟨rfl, hJx3⟩)
        · have XF : Bx W3 bf 3 (.int .i64 cur) := hk3.f.trans QF.out
          have XC := Lib.hid (show Bx W3 bc 93 (.pointer (some ⟨gc, 0, none⟩)) from hk3.c.trans QC.out)
          have XT := Lib.hid (show Bx W3 bt 3 (.int .i64 t) from hk3.t.trans QT.out)
          obtain ⟨r3, XG⟩ := hk3.blk _ QG.out
          have XR := Lib.hid (hk3.row QR.out)
          have XJ := Lib.hid hJ3
          have x0 := XF.c0
          have x1 := blk_frozen XF 0
          have XF' := Lib.hid XF
          have XG' := Lib.hid XG
          clear hk3 hJ3 XG q3
          gi_wp2
          go_roundw
          case rel =>
            have hs := Fr.set W3 bf 0 (.int .i64 (nx cur))
            refine ⟨pre ++ [nx cur], rest, nx cur, r3, ?_, ?_, ?_, ?_, blk_put XF'.out 0 _ rfl, hs.blk XC.out (Ne.symm HNE.out.1), hs.blk XT.out (Ne.symm HNE.out.2.1), hs.blk XG'.out (Ne.symm HNE.out.2.2), ?_, hJ'.out _ _ _ XJ.out hs⟩
            · rw [QX.out, QH.out.1]; simp
            · rw [← QH.out.1]; exact QH.out.2.2
            · have := QN.out; have := Q0.out; omega
            · have h2 := QH.out.2.1; rw [QH.out.1] at h2; have := HB.out.2.2; omega
            · exact below_set XR.out HWF.out
          case measure =>
            rw [curOf_eq (blk_put XF'.out 0 (.int .i64 (nx cur)) rfl), curOf_eq QF0.out]
            have h2 := QH.out.2.1
            rw [QH.out.1] at h2
            have h3 := HB.out.2.2; have h4 := QN.out
            omega
        · gi_wp2
          refine bodyPost_ret (results_none rfl _ _ _) rfl ?_
          exact ⟨⟨_, rfl⟩, .inr ⟨_, HGG.out, hJx3⟩⟩
  · gi_wp2
    refine bodyPost_ret (results_none rfl _ _ _) rfl ?_
    exact ⟨⟨_, rfl⟩, .inl ⟨[], (HL0.out hfl).symm, HJ.out⟩⟩
end Go.Proofs.Ytbfhohpbldadbaa.P

namespace Go.Proofs.Ytbfhohpbldadbaa.P
open Go Go.RowKit Go.Proofs.YtbfhohpbldadbaaW.PrintWords Go.Proofs.YtbfhohpbldadbaaW.PrintLast Go.Proofs.YtbfhohpbldadbaaW.PrintMore
attribute [local go_sem] Oper.semAt_some
set_option linter.unusedVariables false
set_option linter.unusedSimpArgs false
/-- The meter and the records behind cuts at the times of a list. -/
def cutAll (rt : Int → Int) (m : S33) (rs : List S39) (ys : List Int) : S33 × List S39 :=
  ys.foldl (fun p y => (⟨p.1.f0, p.1.f1, p.1.f2, p.1.f3, y⟩, p.2 ++ [recOf p.1 y (rt p.1.f4)])) (m, rs)
theorem cutAll_snoc (rt : Int → Int) (m : S33) (rs : List S39) (ys : List Int) (y : Int) :
    cutAll rt m rs (ys ++ [y]) = (⟨(cutAll rt m rs ys).1.f0, (cutAll rt m rs ys).1.f1, (cutAll rt m rs ys).1.f2, (cutAll rt m rs ys).1.f3, y⟩, (cutAll rt m rs ys).2 ++ [recOf (cutAll rt m rs ys).1 y (rt (cutAll rt m rs ys).1.f4)]) := by
  simp [cutAll, List.foldl_append]
theorem cutAll_len (rt : Int → Int) : ∀ (ys : List Int) (m : S33) (rs : List S39), (cutAll rt m rs ys).2.length = rs.length + ys.length
  | [], m, rs => rfl
  | y :: ys, m, rs => by
    have h := cutAll_len rt ys ⟨m.f0, m.f1, m.f2, m.f3, y⟩ (rs ++ [recOf m y (rt m.f4)])
    simp only [List.length_append, List.length_cons, List.length_nil] at h ⊢
    have e : cutAll rt m rs (y :: ys) = cutAll rt ⟨m.f0, m.f1, m.f2, m.f3, y⟩ (rs ++ [recOf m y (rt m.f4)]) ys := rfl
    rw [e, h]; omega
theorem cutAll_same (rt : Int → Int) : ∀ (ys : List Int) (m : S33) (rs : List S39), (cutAll rt m rs ys).1.f0 = m.f0 ∧ (cutAll rt m rs ys).1.f1 = m.f1 ∧ (cutAll rt m rs ys).1.f2 = m.f2 ∧ (cutAll rt m rs ys).1.f3 = m.f3
  | [], m, rs => ⟨rfl, rfl, rfl, rfl⟩
  | y :: ys, m, rs => cutAll_same rt ys ⟨m.f0, m.f1, m.f2, m.f3, y⟩ (rs ++ [recOf m y (rt m.f4)])
/-- Fr's blocks. -/
def Bad (gc gm : Nat) (vr : Value) (k : Nat) : Prop := k = gc ∨ k = gm ∨ some k = vr.ownBlock
/-- What a loop of 'advance' holds between two rounds. -/
structure IAdv (gc gm o : Nat) (vb vr0 : Value) (m : S33) (rs : List S39) (f4 : Int) (cs : Array Value) (W0 wb : World) (b3 b4 N : Nat) (W : World) (vr : Value) : Prop where
  c : CBlk W gc vb vr
  r : k39.R 39 W wb.heap.size (fun _ => True) vr rs
  own : vr.ownBlock = vr0.ownBlock ∨ ∃ b, vr.ownBlock = some b ∧ W0.heap.size ≤ b
  m : W.heap[gm]? = some (.cells (cs.setIfInBounds (o + 4) (.int .i64 f4)) 33 (0, 0))
  fr : Fr (Bad gc gm vr0) W0 W
  x3 : Bx W b3 93 (.pointer (some ⟨gc, 0, none⟩))
  x4 : Bx W b4 98 (.pointer (some ⟨gm, o, none⟩))
  low : Below wb.heap.size wb W
  nb : ∀ k, some k = vr.ownBlock → k < W0.heap.size ∨ N ≤ k
  bl : N ≤ W.heap.size
theorem R39_move {W W' : World} {B : Nat} {v : Value} {rs : List S39} (h : k39.R 39 W B (fun _ => True) v rs) (hs : ∀ k, some k = v.ownBlock → W'.heap[k]? = W.heap[k]?) : k39.R 39 W' B (fun _ => True) v rs :=
  Kd.R_mono (Kd.R_step (Kd.R_tight rfl h) (fun k hk _ => hs k hk)) (fun _ _ => trivial)
theorem R39_cells {W : World} {B : Nat} {v : Value} {rs : List S39} (h : k39.R 39 W B (fun _ => True) v rs) {k : Nat} (hk : some k = v.ownBlock) : B ≤ k ∧ ∃ cells, W.heap[k]? = some (.cells cells 39 (0, 0)) := by
  refine ⟨((Kd.R_bound h).1 k hk.symm).2.1, ?_⟩
  obtain ⟨inner, ho⟩ := Kd.R_own h
  exact own_typed ho k hk.symm
theorem IAdv.move {gc gm o : Nat} {vb vr0 : Value} {m : S33} {rs : List S39} {f4 : Int} {cs : Array Value} {W0 wb : World} {b3 b4 N : Nat} {W W' : World} {vr : Value} (h : IAdv gc gm o vb vr0 m rs f4 cs W0 wb b3 b4 N W vr)
    {bf : Nat} (hm : Move bf N W W') (hN : W0.heap.size ≤ N) (hbf : W0.heap.size ≤ bf) (hbN : bf < N) (hb : bf ≠ gc ∧ bf ≠ gm ∧ bf ≠ b3 ∧ bf ≠ b4) (hw : wb.heap.size ≤ W0.heap.size) : IAdv gc gm o vb vr0 m rs f4 cs W0 wb b3 b4 N W' vr := by
  have hlow : ∀ k, k < W0.heap.size → W'.heap[k]? = W.heap[k]? := fun k hk => by
    have hk' : k < W.heap.size := Nat.lt_of_lt_of_le hk h.fr.size
    rw [Array.getElem?_eq_getElem hk']
    exact hm.same k _ (Array.getElem?_eq_getElem hk') (by omega) (.inl (by omega))
  refine ⟨hm.same _ _ h.c (Ne.symm hb.1) (.inr rfl), R39_move h.r fun k hk => ?_, h.own, hm.same _ _ h.m (Ne.symm hb.2.1) (.inr rfl), ⟨below0_trans h.fr.low hm.low, fun k hk hn => (hlow k hk).trans (h.fr.same k hk hn)⟩,
    hm.same _ _ h.x3 (Ne.symm hb.2.2.1) (.inr rfl), hm.same _ _ h.x4 (Ne.symm hb.2.2.2) (.inr rfl), ?_, h.nb, Nat.le_trans h.bl hm.low.size⟩
  · obtain ⟨_, cells, hc⟩ := R39_cells h.r hk
    exact (hm.same k _ hc (fun e => by subst e; have := h.nb _ hk; omega) (.inr rfl)).trans hc.symm
  · exact ⟨hm.low.os.trans h.low.os, hm.low.tape.trans h.low.tape, hm.low.output.trans h.low.output, Nat.le_trans h.low.size hm.low.size, fun k hk => (hlow k (by omega)).trans (h.low.block k hk)⟩
/-- A cut, seen from the loop. -/
theorem IAdv.cut {gc gm o : Nat} {vb vr0 : Value} {m : S33} {rs rs' : List S39} {f4 f4' : Int} {cs : Array Value} {W0 wb : World} {b3 b4 N : Nat} {W W' : World} {vr : Value} {e : Ending} (h : IAdv gc gm o vb vr0 m rs f4 cs W0 wb b3 b4 N W vr)
    (hp : CutPost vb vr rs' gc gm ((cs.setIfInBounds (o + 4) (.int .i64 f4)).setIfInBounds (o + 4) (.int .i64 f4')) wb.heap.size W e W') (hgc : wb.heap.size ≤ gc) (hgm : wb.heap.size ≤ gm) :
    ∃ vr', IAdv gc gm o vb vr0 m rs' f4' cs W0 wb b3 b4 N W' vr' ∧ Fr (Bad gc gm vr) W W' := by
  obtain ⟨_, vr', hc, hr, hown, hm, hf⟩ := hp
  have hne3 : ¬ Bad gc gm vr b3 := by
    rintro (e | e | e)
    · subst e; exact absurd rfl (blk_ne h.x3 h.c (by decide))
    · subst e; exact absurd rfl (blk_ne h.x3 h.m (by decide))
    · exact Kd.R_ne h.r h.x3 (by decide) e
  have hne4 : ¬ Bad gc gm vr b4 := by
    rintro (e | e | e)
    · subst e; exact absurd rfl (blk_ne h.x4 h.c (by decide))
    · subst e; exact absurd rfl (blk_ne h.x4 h.m (by decide))
    · exact Kd.R_ne h.r h.x4 (by decide) e
  refine ⟨vr', ⟨hc, hr, ?_, ?_, ?_, hf.blk h.x3 hne3, hf.blk h.x4 hne4, ?_, ?_, Nat.le_trans h.bl hf.size⟩, hf⟩
  · rcases hown with e | ⟨b, e, hb⟩
    · rw [e]; exact h.own
    · exact .inr ⟨b, e, Nat.le_trans h.fr.size hb⟩
  · rw [hm, Array.setIfInBounds_setIfInBounds]
  · refine Fr.trans h.fr hf fun i hi hbad => ?_
    rcases hbad with e | e | e
    · exact .inl e
    · exact .inr (.inl e)
    · rcases h.own with h1 | ⟨b, h1, hb⟩
      · rw [h1] at e; exact .inr (.inr e)
      · rw [h1] at e; cases e; omega
  · refine Fr.below hf h.low (Nat.le_refl _) fun k hk => ?_
    rcases hk with e | e | e
    · omega
    · omega
    · exact (R39_cells h.r e).1
  · rcases hown with e | ⟨b, e, hb⟩
    · rw [e]; exact h.nb
    · rw [e]; intro k e2; cases e2; have := h.bl; exact .inr (by omega)
theorem IAdv.row {gc gm o : Nat} {vb vr0 : Value} {m m' : S33} {rs : List S39} {f4 : Int} {cs : Array Value} {W0 wb : World} {b3 b4 N : Nat} {W : World} {vr : Value} (h : IAdv gc gm o vb vr0 m rs f4 cs W0 wb b3 b4 N W vr)
    (hm : MRow W0 gm cs o m) (h0 : m'.f0 = m.f0) (h1 : m'.f1 = m.f1) (h2 : m'.f2 = m.f2) (h3 : m'.f3 = m.f3) (h4 : m'.f4 = f4) : MRow W gm (cs.setIfInBounds (o + 4) (.int .i64 f4)) o m' := by
  have hlt : o + 4 < cs.size := (Array.getElem?_eq_some_iff.1 hm.e4).1
  refine ⟨h.m, ?_, ?_, ?_, ?_, ?_⟩
  · rw [Array.getElem?_setIfInBounds_ne (by omega), hm.e0, h0]
  · rw [Array.getElem?_setIfInBounds_ne (by omega), hm.e1, h1]
  · rw [Array.getElem?_setIfInBounds_ne (by omega), hm.e2, h2]
  · rw [Array.getElem?_setIfInBounds_ne (by omega), hm.e3, h3]
  · rw [Array.getElem?_setIfInBounds_self_of_lt hlt, h4]
/-- Between two rounds of 'advance'. -/
def IGo (gc gm o : Nat) (vb vr0 : Value) (m : S33) (rs : List S39) (rt : Int → Int) (cs : Array Value) (W0 wb : World) (b3 b4 N : Nat) (pre : List Int) (W : World) : Prop :=
  ∃ vr, IAdv gc gm o vb vr0 m (cutAll rt m rs pre).2 (cutAll rt m rs pre).1.f4 cs W0 wb b3 b4 N W vr ∧ rs.length + pre.length ≤ 1024 ∧ 0 ≤ (cutAll rt m rs pre).1.f4 ∧ (cutAll rt m rs pre).1.f4 ≤ 1099511627776
def IOut (gc gm o : Nat) (vb vr0 : Value) (m : S33) (rs : List S39) (rt : Int → Int) (cs : Array Value) (W0 wb : World) (b3 b4 N : Nat) (pre : List Int) (W : World) : Prop :=
  ∃ vr, IAdv gc gm o vb vr0 m (cutAll rt m rs pre).2 (cutAll rt m rs pre).1.f4 cs W0 wb b3 b4 N W vr ∧ rs.length + pre.length = 1025
theorem IGo.holds {gc gm o : Nat} {vb vr0 : Value} {m : S33} {rs : List S39} {rt : Int → Int} {cs : Array Value} {W0 wb : World} {b3 b4 bf N : Nat} (hN : W0.heap.size ≤ N) (hbf : W0.heap.size ≤ bf) (hbN : bf < N) (hb : bf ≠ gc ∧ bf ≠ gm ∧ bf ≠ b3 ∧ bf ≠ b4) (hw : wb.heap.size ≤ W0.heap.size) :
    Holds bf N (IGo gc gm o vb vr0 m rs rt cs W0 wb b3 b4 N) := fun s A B ⟨v, h, r⟩ hm => ⟨v, h.move hm hN hbf hbN hb hw, r⟩
theorem IOut.holds {gc gm o : Nat} {vb vr0 : Value} {m : S33} {rs : List S39} {rt : Int → Int} {cs : Array Value} {W0 wb : World} {b3 b4 bf N : Nat} (hN : W0.heap.size ≤ N) (hbf : W0.heap.size ≤ bf) (hbN : bf < N) (hb : bf ≠ gc ∧ bf ≠ gm ∧ bf ≠ b3 ∧ bf ≠ b4) (hw : wb.heap.size ≤ W0.heap.size) :
    Holds bf N (IOut gc gm o vb vr0 m rs rt cs W0 wb b3 b4 N) := fun s A B ⟨v, h, r⟩ hm => ⟨v, h.move hm hN hbf hbN hb hw, r⟩
theorem set_same {cs : Array Value} {i : Nat} {v : Value} (h : cs[i]? = some v) : cs.setIfInBounds i v = cs := by
  obtain ⟨hlt, e⟩ := Array.getElem?_eq_some_iff.1 h
  refine Array.ext_getElem? fun j => ?_
  by_cases hj : j = i
  · subst hj; rw [Array.getElem?_setIfInBounds_self_of_lt hlt, h]
  · rw [Array.getElem?_setIfInBounds_ne (Ne.symm hj)]
theorem take_of_prefix {L pre : List Int} {n : Nat} (h : pre <+: L) (hn : pre.length = n) : L.take n = pre := by
  obtain ⟨t, rfl⟩ := h
  rw [← hn, List.take_left']
  rfl
/-- What a frame keeps of blocks without cells. -/
theorem keepsFrom_of {gc gm o : Nat} {vb vr0 : Value} {m : S33} {rs : List S39} {f4 : Int} {cs : Array Value} {W0 wb : World} {b3 b4 N : Nat} {W W' : World} {vr : Value} (h : IAdv gc gm o vb vr0 m rs f4 cs W0 wb b3 b4 N W vr) (hf : Fr (Bad gc gm vr) W W') (B : Nat) : KeepsFrom B W W' :=
  ⟨hf.size, fun k q _ hk hq => by
    refine hf.blk hk fun hbad => ?_
    rcases hbad with e | e | e
    · subst e; rw [show W.heap[k]? = _ from h.c] at hk; cases hk; cases hq
    · subst e; rw [h.m] at hk; cases hk; cases hq
    · obtain ⟨_, cells, hc⟩ := R39_cells h.r e
      rw [hc] at hk; cases hk; cases hq⟩
theorem keep93_of {gc gm o : Nat} {vb vr0 : Value} {m : S33} {rs rs' : List S39} {f4 f4' : Int} {cs : Array Value} {W0 wb : World} {b3 b4 N bc bf bt : Nat} {W W' : World} {vr vr' : Value} (h : IAdv gc gm o vb vr0 m rs f4 cs W0 wb b3 b4 N W vr) (h' : IAdv gc gm o vb vr0 m rs' f4' cs W0 wb b3 b4 N W' vr') (hf : Fr (Bad gc gm vr) W W')
    (hc : W0.heap.size ≤ bc ∧ bc < N) (hff : W0.heap.size ≤ bf ∧ bf < N) (ht : W0.heap.size ≤ bt ∧ bt < N) (hgc : gc < W0.heap.size) (hgm : gm < W0.heap.size) : Keep93 bc bf bt gc vb wb W W' := by
  have nb : ∀ k, W0.heap.size ≤ k → k < N → W'.heap[k]? = W.heap[k]? := fun k h0 h1 => hf.same k (Nat.lt_of_lt_of_le h1 h.bl) (by
    rintro (e | e | e)
    · omega
    · omega
    · have := h.nb _ e; omega)
  exact ⟨hf.size, nb bc hc.1 hc.2, nb bf hff.1 hff.2, nb bt ht.1 ht.2, fun r hr => ⟨_, h'.c⟩, fun _ => h'.low⟩
set_option maxHeartbeats 8000000 in
set_option maxRecDepth 100000 in
theorem advance_calls (k : Nat) (A1 : Option Addr) (c1 : Nat) (bs : List S110) (nx rt : Int → Int) (htar : Tar k bs nx rt) (vr : Value) (rs : List S39) (gc gm o : Nat) (cs : Array Value) (m : S33) (now : Int) (wb W : World)
    (hC : CBlk W gc (.slice A1 bs.length c1) vr) (hR : k39.R 39 W wb.heap.size (fun _ => True) vr rs) (hm : MRow W gm cs o m) (hb : Below wb.heap.size wb W) (hgc : wb.heap.size ≤ gc) (hgm : wb.heap.size ≤ gm) (hrb : Kd.C k110 wb A1 bs.length bs) (hc1 : bs.length ≤ c1)
    (hf0 : 0 ≤ m.f4) (hf1 : m.f4 ≤ 1099511627776) (hn1 : now ≤ 1099511627776) (L : List Int) (hL0 : flatB bs = true → L = []) (hL1 : flatB bs = false → Ch nx now m.f4 L) (hLr : ∀ y ∈ L, 0 ≤ y ∧ y ≤ 1099511627776) (hl : rs.length ≤ 1024) :
    Calls Try.prog 53 #[.pointer (some ⟨gc, 0, none⟩), .pointer (some ⟨gm, o, none⟩), .int .i64 now] W
      (CutPost (.slice A1 bs.length c1) vr (cutAll rt m rs (L.take (1025 - rs.length))).2 gc gm (cs.setIfInBounds (o + 4) (.int .i64 (cutAll rt m rs (L.take (1025 - rs.length))).1.f4)) wb.heap.size W) := by
  refine (callsIn_wide (n := 5)).1 ?_
  refine callsIn_of_wp_marks Try.func53 rfl trivial ?_ rfl
  simp only [Try.ntmps53, List.size_toArray, List.length_cons, List.length_nil, Nat.reduceAdd, Nat.reduceSub, Array.replicate_succ, Array.replicate_zero, List.push_toArray, List.append_toArray, List.nil_append, List.cons_append]
  have HC := Lib.hid hC; have HR := Lib.hid hR; have HM := Lib.hid hm; have HB := Lib.hid hb; have HGC := Lib.hid hgc; have HGM := Lib.hid hgm; have HRB := Lib.hid hrb; have HC1 := Lib.hid hc1; have HTAR := Lib.hid htar
  have HN := Lib.hid (And.intro hf0 (And.intro hf1 hn1)); have HL0 := Lib.hid hL0; have HL1 := Lib.hid hL1; have HLR := Lib.hid hLr; have HL := Lib.hid hl
  clear hC hR hm hb hgc hgm hrb hc1 hf0 hf1 hn1 hL0 hL1 hLr hl htar
  gi_wp2
  obtain ⟨w1, hw1⟩ : ∃ w1, w1 = (W.alloc (.cells #[.pointer (some ⟨gc, 0, none⟩)] 93)).alloc (.cells #[.pointer (some ⟨gm, o, none⟩)] 98) := ⟨_, rfl⟩
  rw [← hw1]
  have B1 := Lib.hid (show Below W.heap.size W w1 by rw [hw1]; exact al (below_one _ _) _)
  have X3 := Lib.hid (show Bx w1 W.heap.size 93 (.pointer (some ⟨gc, 0, none⟩)) by rw [hw1]; exact (Bx.new W 93 _).below (below_one _ _))
  have X4 := Lib.hid (show Bx w1 (W.heap.size + 1) 98 (.pointer (some ⟨gm, o, none⟩)) by rw [hw1]; have h := Bx.new (W.alloc (.cells #[.pointer (some ⟨gc, 0, none⟩)] 93)) 98 (.pointer (some ⟨gm, o, none⟩)); rwa [World.size_alloc] at h)
  have S1 := Lib.hid (show w1.heap.size = W.heap.size + 2 by rw [hw1]; simp)
  have M1 := Lib.hid (HM.out.below B1.out)
  clear hw1
  refine wpIn_wide.2 (wp_region_noPanic ?_)
  refine start_ (n := 7) (S := fun w' => w'.cell? ⟨W.heap.size, 0, none⟩ = some (.pointer (some ⟨gc, 0, none⟩)) ∧ w'.cell? ⟨W.heap.size + 1, 0, none⟩ = some (.pointer (some ⟨gm, o, none⟩)) ∧ w'.cell? ⟨gm, o + 4, none⟩ = some (.int .i64 m.f4)) (ds := []) #[false, false, false, false, false, false, false] (by kernel_rfl) rfl rfl ⟨X3.out.c0, X4.out.c0, M1.out.c4⟩ (fun hHeld => ?_)
  refine pure_ (i := 5) (N := some 12) (v := ?_) (a' := ?_) #[false, false, false, false, false, true, false] rfl rfl (by kernel_rfl) (fun _ _ _ h => h) (Or.inl ⟨by rfl, ?_⟩) ?_ ?_
  rotate_left
  · intro w'
    go_simp
    with_reducible rfl
  rotate_left
  · simp only [Act.put, List.setIfInBounds_toArray, List.set_cons_zero, List.set_cons_succ, i64_w, i32_w]
    rfl
  refine take_ (i := 0) (N := some 7) (v := ?_) (a' := ?_) #[true, false, false, false, false, true, false] rfl rfl (by kernel_rfl) (fun _ _ _ h => h) (Or.inl ⟨by rfl, ?_⟩) hHeld ?_ ?_
  rotate_left
  · rintro w' ⟨s0, s1, s2⟩
    go_simp
    with_reducible rfl
  rotate_left
  · simp only [Act.put, List.setIfInBounds_toArray, List.set_cons_zero, List.set_cons_succ, i64_w, i32_w]
    rfl
  refine take_ (i := 1) (N := some 8) (v := ?_) (a' := ?_) #[true, true, false, false, false, true, false] rfl rfl (by kernel_rfl) (fun _ _ _ h => h) (Or.inl ⟨by rfl, ?_⟩) hHeld ?_ ?_
  rotate_left
  · rintro w' ⟨s0, s1, s2⟩
    go_simp
    with_reducible rfl
  rotate_left
  · simp only [Act.put, List.setIfInBounds_toArray, List.set_cons_zero, List.set_cons_succ, i64_w, i32_w]
    rfl
  refine pure_ (i := 2) (N := some 9) (v := ?_) (a' := ?_) #[true, true, true, false, false, true, false] rfl rfl (by kernel_rfl) (fun _ _ _ h => h) (Or.inl ⟨by rfl, ?_⟩) ?_ ?_
  rotate_left
  · intro w'
    go_simp
    with_reducible rfl
  rotate_left
  · simp only [Act.put, List.setIfInBounds_toArray, List.set_cons_zero, List.set_cons_succ, i64_w, i32_w]
    rfl
  refine pure_ (i := 3) (N := some 10) (v := ?_) (a' := ?_) #[true, true, true, true, false, true, false] rfl rfl (by kernel_rfl) (fun _ _ _ h => h) (Or.inl ⟨by rfl, ?_⟩) ?_ ?_
  rotate_left
  · intro w'
    go_simp
    with_reducible rfl
  rotate_left
  · simp only [Act.put, List.setIfInBounds_toArray, List.set_cons_zero, List.set_cons_succ, i64_w, i32_w]
    rfl
  refine take_ (i := 4) (N := some 11) (v := ?_) (a' := ?_) #[true, true, true, true, true, true, false] rfl rfl (by kernel_rfl) (fun _ _ _ h => h) (Or.inl ⟨by rfl, ?_⟩) hHeld ?_ ?_
  rotate_left
  · rintro w' ⟨s0, s1, s2⟩
    go_simp
    with_reducible rfl
  rotate_left
  · simp only [Act.put, List.setIfInBounds_toArray, List.set_cons_zero, List.set_cons_succ, i64_w, i32_w]
    rfl
  refine one_ (i := 6) (N := some 13) #[true, true, true, true, true, true, true] rfl rfl (by kernel_rfl) (by decide) (fun K hK => ?_)
  refine goes_ Try.func82 (by kernel_rfl) rfl #[.pointer (some ⟨gc, 0, none⟩), .int .i64 m.f4, .int .i64 now] (by rfl) rfl rfl (by simp only [List.map_toArray, List.map_cons, List.map_nil]; rfl) ?_
  with_reducible refine (changes_calls gc m.f4 now _).mono ?_
  rintro e w2 ⟨rfl, hw2⟩
  refine ⟨_, rfl, ?_⟩
  have B2 := Lib.hid (show Below w1.heap.size w1 w2 by rw [hw2]; exact al (al (al (below_drew (Below.refl _ _)) _) _) _)
  have XC := Lib.hid (show Bx w2 w1.heap.size 93 (.pointer (some ⟨gc, 0, none⟩)) by rw [hw2]; exact ((Bx.new w1.drew 93 _).below (below_one _ _)).below (below_one _ _))
  have XF := Lib.hid (show Bx w2 (w1.heap.size + 1) 3 (.int .i64 m.f4) by rw [hw2]; have h := (Bx.new (w1.drew.alloc (.cells #[.pointer (some ⟨gc, 0, none⟩)] 93)) 3 (.int .i64 m.f4)).below (below_one _ (.cells #[.int .i64 now] 3)); rwa [World.size_alloc] at h)
  have XT := Lib.hid (show Bx w2 (w1.heap.size + 2) 3 (.int .i64 now) by rw [hw2]; have h := Bx.new ((w1.drew.alloc (.cells #[.pointer (some ⟨gc, 0, none⟩)] 93)).alloc (.cells #[.int .i64 m.f4] 3)) 3 (.int .i64 now); rwa [World.size_alloc, World.size_alloc] at h)
  have S2 := Lib.hid (show w2.heap.size = w1.heap.size + 3 by rw [hw2]; simp)
  have X3 := Lib.hid (X3.out.below B2.out); have X4 := Lib.hid (X4.out.below B2.out); have M2 := Lib.hid (M1.out.below B2.out)
  clear hw2
  refine hK.out _ _ ⟨X3.out.c0, X4.out.c0, M2.out.c4⟩ (fun hHeld => ?_)
  clear hK K
  refine norm_ (a' := ?_) ?_ ?_
  rotate_left
  · show Act.put _ (some 13) _ = _
    simp only [Act.put, List.setIfInBounds_toArray, List.set_cons_zero, List.set_cons_succ, i64_w, i32_w]
    rfl
  refine done_ (by kernel_rfl) ?_

  refine NoPanic.normal ?_
  gi_wp2
  have hsz : w1.heap.size = W.heap.size + 2 := S1.out
  have hsz2 : w2.heap.size = W.heap.size + 5 := by have := S2.out; omega
  have hgc0 : gc < W.heap.size := heap_lt HC.out
  have hgm0 : gm < W.heap.size := heap_lt HM.out.blk
  have BW := Lib.hid (bb B1.out B2.out)
  have hwb := HB.out.size
  have HS := Lib.hid (And.intro hsz (And.intro hsz2 (And.intro hgc0 (And.intro hgm0 hwb))))
  have HI0 : IAdv gc gm o (.slice A1 bs.length c1) vr m rs m.f4 cs W wb W.heap.size (W.heap.size + 1) w2.heap.size w2 vr :=
    ⟨HC.out.below BW.out, Kd.R_below HR.out BW.out, .inl rfl, by rw [set_same HM.out.e4]; exact (HM.out.below BW.out).blk, Fr.of_below BW.out _, X3.out, X4.out, bb HB.out BW.out, fun k hk => .inl (by obtain ⟨_, cells, hcc⟩ := R39_cells HR.out hk; exact heap_lt hcc), Nat.le_refl _⟩
  refine loop93 (p0 := 14) (lb := #[.pointer (some ⟨w1.heap.size, 0, none⟩), .pointer (some ⟨w1.heap.size + 1, 0, none⟩), .pointer (some ⟨w1.heap.size + 2, 0, none⟩)]) (by omega) rfl enters93 (bf := w1.heap.size + 1) (by omega)
    (changes1_seq (5 - 1) (by omega) w1.heap.size (w1.heap.size + 1) (w1.heap.size + 2) gc ⟨by omega, by omega, by omega⟩ A1 c1 bs k nx rt HTAR.out m.f4 now HN.out.1 HN.out.2.1 HN.out.2.2 L HL0.out HL1.out w2 vr XC.out XF.out XT.out (HC.out.below BW.out) wb (bb HB.out BW.out) (by omega) HRB.out HC1.out)
    (fun h h' => h.trans h') ?kb (Below.refl _ _)
    (IGo gc gm o (.slice A1 bs.length c1) vr m rs rt cs W wb W.heap.size (W.heap.size + 1) w2.heap.size) (IOut gc gm o (.slice A1 bs.length c1) vr m rs rt cs W wb W.heap.size (W.heap.size + 1) w2.heap.size)
    (IGo.holds (by omega) (by omega) (by omega) ⟨by omega, by omega, by omega, by omega⟩ hwb) (IOut.holds (by omega) (by omega) (by omega) ⟨by omega, by omega, by omega, by omega⟩ hwb)
    ⟨vr, HI0, by have := HL.out; simp; omega, HN.out.1, HN.out.2.1⟩
    (fun x => { tmps := #[.pointer (some ⟨gc, 0, none⟩), .pointer (some ⟨gm, o, none⟩), .int .i64 now, .pointer (some ⟨W.heap.size, 0, none⟩), .pointer (some ⟨W.heap.size + 1, 0, none⟩), undef, .int .i64 x, .pointer (some ⟨gc, 0, none⟩), .pointer (some ⟨gm, o, none⟩), .pointer (some ⟨gm, o, none⟩), .pointer (some ⟨gm, o + 4, none⟩), .int .i64 m.f4, .int .i64 now, .func (.func 93) #[] #[.pointer (some ⟨w1.heap.size, 0, none⟩), .pointer (some ⟨w1.heap.size + 1, 0, none⟩), .pointer (some ⟨w1.heap.size + 2, 0, none⟩)], .int .i64 x, undef, undef, undef, undef, undef, undef], defers := [] }) ?assign ?body ?done ?stop
  case kb =>
    intro Wx l oo oo' hl hlo hcell
    have hk : ∀ k, k < w2.heap.size → (Wx.putObj l oo').heap[k]? = Wx.heap[k]? := fun k hk => World.putObj_heap_other (by omega)
    refine ⟨by simp, hk _ (by omega), hk _ (by omega), hk _ (by omega), fun r hr => ⟨r, (hk _ (by omega)).trans hr⟩, fun hr => ?_⟩
    exact ⟨hr.os, hr.tape, hr.output, by simpa using hr.size, fun k hlt => (hk k (by omega)).trans (hr.block k hlt)⟩
  case assign =>
    intro l x W' K hK
    clear hsz hsz2 HI0
    gi_wp2
    exact hK
  case body =>
    rintro l pre x W' ⟨vr', h, hlen, hp0, hp1⟩ hG
    clear hsz hsz2 HI0 hgc0 hgm0 hwb
    obtain ⟨q, hq⟩ : ∃ q, q = cutAll rt m rs pre := ⟨_, rfl⟩
    rw [← hq] at h hp0 hp1
    have hql : q.2.length = rs.length + pre.length := by rw [hq]; exact cutAll_len _ _ _ _
    have HQ := Lib.hid hq; have HH := Lib.hid h; have HLE := Lib.hid hlen; have HQL := Lib.hid hql; have HP := Lib.hid (And.intro hp0 hp1); have HG := Lib.hid hG
    have hsm : q.1.f0 = m.f0 ∧ q.1.f1 = m.f1 ∧ q.1.f2 = m.f2 ∧ q.1.f3 = m.f3 := by rw [hq]; exact cutAll_same _ _ _ _
    have HSM := Lib.hid hsm
    clear hq hlen hql hp0 hp1 hG hsm
    have y3 := h.x3.c0; have y4 := h.x4.c0
    clear h
    gi_wp2
    refine ⟨trivial, (CallsIn.inRound l (callsIn_wide.2 (cut_calls k A1 c1 bs vr' q.2 gc gm o (cs.setIfInBounds (o + 4) (.int .i64 q.1.f4)) q.1 x (rt q.1.f4) 0 wb.heap.size W' HH.out.c HH.out.r HH.out.low.size (HH.out.row HM.out HSM.out.1 HSM.out.2.1 HSM.out.2.2.1 HSM.out.2.2.2 rfl) (Kd.C_below HRB.out HH.out.low) HC1.out (HTAR.out.rate _ HP.out.1 HP.out.2) (by have := HQL.out; have := HLE.out; omega)))).mono ?_⟩
    rintro e W3 hp
    obtain ⟨vr3, h3, hf3⟩ := HH.out.cut hp HGC.out HGM.out
    obtain ⟨rfl, _⟩ := hp
    obtain ⟨g3, cap3, rfl, _, _, _⟩ := Kd.R_form h3.r (by simp)
    have hl3 : (q.2 ++ [recOf q.1 x (rt q.1.f4)]).length = q.2.length + 1 := by simp
    rw [hl3] at h3
    have H3 := Lib.hid h3; have HF3 := Lib.hid hf3
    clear y3 y4
    have y3 := h3.x3.c0
    clear h3 hf3 hl3
    gi_wp2
    refine ⟨trivial, (CallsIn.inRound l (callsIn_wide.2 (full_calls gc _ _ _ _ W3 H3.out.c))).mono ?_⟩
    rintro e W4 ⟨rfl, rfl⟩
    have KF := Lib.hid (keepsFrom_of HH.out HF3.out w2.heap.size)
    have hx0 := (HLR.out x (HG.out.subset (by simp)))
    have HX := Lib.hid hx0
    clear hx0
    cases hfull : decide (1024 < ((q.2.length + 1 : Nat) : Int))
    · gi_wp2
      have hsn : cutAll rt m rs (pre ++ [x]) = (⟨q.1.f0, q.1.f1, q.1.f2, q.1.f3, x⟩, q.2 ++ [recOf q.1 x (rt q.1.f4)]) := by rw [cutAll_snoc, ← HQ.out]
      obtain ⟨e1, e2, e3, e4, e5⟩ := HS.out
      refine ⟨KF.out, keep93_of HH.out H3.out HF3.out ⟨by omega, by omega⟩ ⟨by omega, by omega⟩ ⟨by omega, by omega⟩ e3 e4, _, by rw [hsn]; exact H3.out, ?_, by rw [hsn]; exact HX.out.1, by rw [hsn]; exact HX.out.2⟩
      have h1 := of_decide_eq_false hfull
      have h2 := HQL.out
      simp only [List.length_append, List.length_cons, List.length_nil]
      omega
    · gi_wp2
      have hsn : cutAll rt m rs (pre ++ [x]) = (⟨q.1.f0, q.1.f1, q.1.f2, q.1.f3, x⟩, q.2 ++ [recOf q.1 x (rt q.1.f4)]) := by rw [cutAll_snoc, ← HQ.out]
      refine ⟨KF.out, _, by rw [hsn]; exact H3.out, ?_⟩
      have h1 := of_decide_eq_true hfull
      have h2 := HQL.out
      have h3 := HLE.out
      simp only [List.length_append, List.length_cons, List.length_nil]
      omega
  case done =>
    rintro D xs W' hD rfl ⟨vr', h, hlen, hp0, hp1⟩ hK
    have h' := h.move (bf := w1.heap.size + 1) (Move.put (.deferred none) hK hD rfl) (by omega) (by omega) (by omega) ⟨by omega, by omega, by omega, by omega⟩ hwb
    have htk : xs.take (1025 - rs.length) = xs := List.take_of_length_le (by omega)
    rw [htk]
    clear hsz hsz2 HI0
    gi_wp2
    refine ⟨by simp, .inl ⟨_, _, rfl, run_takeDeferred hK, ?_⟩⟩
    exact ⟨_, results_none rfl _ _ _, rfl, _, h'.c, h'.r, h'.own, h'.m, h'.fr⟩
  case stop =>
    rintro D pre W' hD hG ⟨vr', h, hlen⟩ hK
    have h' := h.move (bf := w1.heap.size + 1) (Move.put (.deferred none) hK hD rfl) (by omega) (by omega) (by omega) ⟨by omega, by omega, by omega, by omega⟩ hwb
    have htk : L.take (1025 - rs.length) = pre := take_of_prefix hG (by omega)
    rw [htk]
    clear hsz hsz2 HI0
    gi_wp2
    refine ⟨by simp, .inl ⟨_, _, rfl, run_takeDeferred hK, ?_⟩⟩
    exact ⟨_, results_none rfl _ _ _, rfl, _, h'.c, h'.r, h'.own, h'.m, h'.fr⟩
end Go.Proofs.Ytbfhohpbldadbaa.P

namespace Go.Proofs.Ytbfhohpbldadbaa.P
open Go Go.RowKit Go.Proofs.YtbfhohpbldadbaaW.PrintWords Go.Proofs.YtbfhohpbldadbaaW.PrintLast Go.Proofs.YtbfhohpbldadbaaW.PrintMore
set_option linter.unusedVariables false
set_option linter.unusedSimpArgs false
theorem add0 (g n : Nat) : (⟨g, 0, none⟩ : Addr).add n = ⟨g, n, none⟩ := by
  unfold Addr.add
  split
  · next h => rw [h]
  · simp
/-- The cells of a row of meters. -/
def Ent (cs : Array Value) (o : Nat) (m : S33) : Prop := cs[o]? = some (.int .i64 m.f0) ∧ cs[o + 1]? = some (.int .i64 m.f1) ∧ cs[o + 2]? = some (.int .i64 m.f2) ∧ cs[o + 3]? = some (.string m.f3) ∧ cs[o + 4]? = some (.int .i64 m.f4)
structure RowIs (W : World) (g : Nat) (cs : Array Value) (xs : List S33) : Prop where
  blk : W.heap[g]? = some (.cells cs 33 (0, 0))
  ent : ∀ i m, xs[i]? = some m → Ent cs (i * 5) m
theorem RowIs.mrow {W : World} {g : Nat} {cs : Array Value} {xs : List S33} (h : RowIs W g cs xs) {k : Nat} (m : S33) (hk : xs[k]? = some m) : MRow W g cs (k * 5) m := by
  obtain ⟨e0, e1, e2, e3, e4⟩ := h.ent k m hk
  exact ⟨h.blk, e0, e1, e2, e3, e4⟩
theorem RowIs.put {W : World} {g : Nat} {cs : Array Value} {xs : List S33} (h : ∀ i m, xs[i]? = some m → Ent cs (i * 5) m) {k : Nat} {m m' : S33} (hk : xs[k]? = some m) (hm : m'.f0 = m.f0 ∧ m'.f1 = m.f1 ∧ m'.f2 = m.f2 ∧ m'.f3 = m.f3)
    (hb : W.heap[g]? = some (.cells (cs.setIfInBounds (k * 5 + 4) (.int .i64 m'.f4)) 33 (0, 0))) : RowIs W g (cs.setIfInBounds (k * 5 + 4) (.int .i64 m'.f4)) (xs.set k m') := by
  refine ⟨hb, fun i q hq => ?_⟩
  have hlk := (h k m hk).2.2.2.2
  have hlt : k * 5 + 4 < cs.size := (Array.getElem?_eq_some_iff.1 hlk).1
  by_cases hi : i = k
  · subst hi
    have hlen : i < xs.length := (List.getElem?_eq_some_iff.1 hk).1
    rw [List.getElem?_set_self hlen] at hq
    cases hq
    obtain ⟨e0, e1, e2, e3, e4⟩ := h i m hk
    refine ⟨?_, ?_, ?_, ?_, ?_⟩
    · rw [Array.getElem?_setIfInBounds_ne (by omega), e0, hm.1]
    · rw [Array.getElem?_setIfInBounds_ne (by omega), e1, hm.2.1]
    · rw [Array.getElem?_setIfInBounds_ne (by omega), e2, hm.2.2.1]
    · rw [Array.getElem?_setIfInBounds_ne (by omega), e3, hm.2.2.2]
    · rw [Array.getElem?_setIfInBounds_self_of_lt hlt]
  · rw [List.getElem?_set_ne (Ne.symm hi)] at hq
    obtain ⟨e0, e1, e2, e3, e4⟩ := h i q hq
    refine ⟨?_, ?_, ?_, ?_, ?_⟩
    all_goals rw [Array.getElem?_setIfInBounds_ne (by omega)]; assumption
theorem RowIs.C {W : World} {g : Nat} {cs : Array Value} {xs : List S33} (h : RowIs W g cs xs) (hl : xs.length ≤ 9223372036854775807) : Kd.C k33 W (some ⟨g, 0, none⟩) xs.length xs := by
  refine ⟨rfl, hl, fun _ => ⟨_, rfl, fun j p hj => ?_⟩⟩
  obtain ⟨e0, e1, e2, e3, e4⟩ := h.ent j p hj
  refine ⟨[.int .i64 p.f0, .int .i64 p.f1, .int .i64 p.f2, .string p.f3, .int .i64 p.f4], rfl, k33_mk _ p, fun i u hi => ?_⟩
  have hc : ∀ i, W.cell? ((⟨g, 0, none⟩ : Addr).add (j * 5 + i)) = cs[j * 5 + i]? := fun i => by
    rw [add0]; exact blk_cell h.blk (j * 5 + i)
  refine (hc i).trans ?_
  match i, hi with
  | 0, hi => obtain rfl := (by simpa using hi); exact e0
  | 1, hi => obtain rfl := (by simpa using hi); exact e1
  | 2, hi => obtain rfl := (by simpa using hi); exact e2
  | 3, hi => obtain rfl := (by simpa using hi); exact e3
  | 4, hi => obtain rfl := (by simpa using hi); exact e4
  | (n + 5), hi => simp at hi
theorem RowIs.V {W : World} {g B : Nat} {cs : Array Value} {xs : List S33} {cap : Nat} (h : RowIs W g cs xs) (hl : xs.length ≤ 9223372036854775807) (hc : xs.length ≤ cap) {ok : Nat → Prop} (hok : ok g) : Kd.V k33 33 W B ok (.slice (some ⟨g, 0, none⟩) xs.length cap) xs := by
  refine Kd.V_mk hc ?_
  intro W' hW
  exact RowIs.C ⟨(hW g hok (heap_lt h.blk)).trans h.blk, h.ent⟩ hl
theorem RowIs.of_R {W : World} {B : Nat} {g cap : Nat} {xs : List S33} {ok : Nat → Prop} (h : k33.R 33 W B ok (.slice (some ⟨g, 0, none⟩) xs.length cap) xs) {cs : Array Value} (hb : W.heap[g]? = some (.cells cs 33 (0, 0))) : RowIs W g cs xs := by
  refine ⟨hb, fun i m hi => ?_⟩
  have hlt : i < xs.length := (List.getElem?_eq_some_iff.1 hi).1
  obtain ⟨ad, e, hat⟩ := M_cell (Kd.R_reads' h).2.2 i hlt hlt
  cases e
  have hm : xs[i] = m := (List.getElem?_eq_some_iff.1 hi).2
  rw [hm] at hat
  have hc : ∀ j, W.cell? ⟨g, i * 5 + j, none⟩ = cs[i * 5 + j]? := fun j => blk_cell hb _
  have h0 := hat.c0; have h1 := hat.c1; have h2 := hat.c2; have h3 := hat.c3; have h4 := hat.c4
  rw [add0] at h0 h1 h2 h3 h4
  exact ⟨(hc 0).symm.trans h0, (hc 1).symm.trans h1, (hc 2).symm.trans h2, (hc 3).symm.trans h3, (hc 4).symm.trans h4⟩
/-! ### The plain side -/
def chgs (nx : Int → Int) (now : Int) : Nat → Int → List Int
  | 0, _ => []
  | n + 1, cur => if nx cur ≤ now then nx cur :: chgs nx now n (nx cur) else []
theorem chgs_ch {nx : Int → Int} {now : Int} (hup : ∀ t, 0 ≤ t → t ≤ 1099511627776 → t < nx t) (hnow : now ≤ 1099511627776) : ∀ (n : Nat) (cur : Int), 0 ≤ cur → cur ≤ 1099511627776 → (now - cur).toNat ≤ n → Ch nx now cur (chgs nx now n cur)
  | 0, cur, h0, h1, hn => by
    have := hup cur h0 h1
    show now < nx cur
    omega
  | n + 1, cur, h0, h1, hn => by
    have hu := hup cur h0 h1
    unfold chgs
    split
    · next h => exact ⟨rfl, h, chgs_ch hup hnow n (nx cur) (by omega) (by omega) (by omega)⟩
    · next h => exact Int.not_le.1 h
theorem chgs_range {nx : Int → Int} {now : Int} (hup : ∀ t, 0 ≤ t → t ≤ 1099511627776 → t < nx t) (hnow : now ≤ 1099511627776) : ∀ (n : Nat) (cur : Int), 0 ≤ cur → cur ≤ 1099511627776 → ∀ y ∈ chgs nx now n cur, 0 ≤ y ∧ y ≤ 1099511627776
  | 0, cur, h0, h1 => fun y hy => by simp [chgs] at hy
  | n + 1, cur, h0, h1 => fun y hy => by
    have hu := hup cur h0 h1
    unfold chgs at hy
    split at hy
    · next h =>
      rcases List.mem_cons.1 hy with e | e
      · subst e; omega
      · exact chgs_range hup hnow n (nx cur) (by omega) (by omega) y e
    · simp at hy
/-- The times at which 'advance' cuts. -/
def cutsOf (bs : List S110) (nx : Int → Int) (now : Int) (cur : Int) : List Int := if flatB bs = true then [] else chgs nx now (now - cur).toNat cur
/-- What 'advance' makes of a meter and the records so far. -/
def advM (bs : List S110) (nx rt : Int → Int) (now : Int) (m : S33) (rs : List S39) : S33 × List S39 := cutAll rt m rs ((cutsOf bs nx now m.f4).take (1025 - rs.length))
theorem advM_len (bs : List S110) (nx rt : Int → Int) (now : Int) (m : S33) (rs : List S39) : rs.length ≤ (advM bs nx rt now m rs).2.length := by
  unfold advM; rw [cutAll_len]; omega
theorem advM_same (bs : List S110) (nx rt : Int → Int) (now : Int) (m : S33) (rs : List S39) : (advM bs nx rt now m rs).1.f0 = m.f0 ∧ (advM bs nx rt now m rs).1.f1 = m.f1 ∧ (advM bs nx rt now m rs).1.f2 = m.f2 ∧ (advM bs nx rt now m rs).1.f3 = m.f3 := cutAll_same _ _ _ _
theorem advM_most (bs : List S110) (nx rt : Int → Int) (now : Int) (m : S33) (rs : List S39) (h : rs.length ≤ 1025) : (advM bs nx rt now m rs).2.length ≤ 1025 := by
  unfold advM; rw [cutAll_len, List.length_take]; omega
theorem advM_calls (k : Nat) (A1 : Option Addr) (c1 : Nat) (bs : List S110) (nx rt : Int → Int) (htar : Tar k bs nx rt) (vr : Value) (rs : List S39) (gc gm o : Nat) (cs : Array Value) (m : S33) (now : Int) (wb W : World)
    (hC : CBlk W gc (.slice A1 bs.length c1) vr) (hR : k39.R 39 W wb.heap.size (fun _ => True) vr rs) (hm : MRow W gm cs o m) (hb : Below wb.heap.size wb W) (hgc : wb.heap.size ≤ gc) (hgm : wb.heap.size ≤ gm) (hrb : Kd.C k110 wb A1 bs.length bs) (hc1 : bs.length ≤ c1)
    (hf0 : 0 ≤ m.f4) (hf1 : m.f4 ≤ 1099511627776) (hn1 : now ≤ 1099511627776) (hl : rs.length ≤ 1024) :
    Calls Try.prog 53 #[.pointer (some ⟨gc, 0, none⟩), .pointer (some ⟨gm, o, none⟩), .int .i64 now] W
      (CutPost (.slice A1 bs.length c1) vr (advM bs nx rt now m rs).2 gc gm (cs.setIfInBounds (o + 4) (.int .i64 (advM bs nx rt now m rs).1.f4)) wb.heap.size W) := by
  refine advance_calls k A1 c1 bs nx rt htar vr rs gc gm o cs m now wb W hC hR hm hb hgc hgm hrb hc1 hf0 hf1 hn1 (cutsOf bs nx now m.f4) (fun h => by simp [cutsOf, h]) (fun h => ?_) (fun y hy => ?_) hl
  · simp only [cutsOf, h, Bool.false_eq_true, if_false]
    exact chgs_ch (htar.up h) hn1 _ _ hf0 hf1 (Nat.le_refl _)
  · unfold cutsOf at hy
    split at hy
    · simp at hy
    · next h => exact chgs_range (htar.up (by simpa using h)) hn1 _ _ hf0 hf1 y hy
def advStep (bs : List S110) (nx rt : Int → Int) (now : Int) (p : List S33 × List S39) (m : S33) : List S33 × List S39 := (p.1 ++ [(advM bs nx rt now m p.2).1], (advM bs nx rt now m p.2).2)
def advFold (bs : List S110) (nx rt : Int → Int) (now : Int) (l : List S33) : List S33 × List S39 := l.foldl (advStep bs nx rt now) ([], [])
theorem advFold_mono (bs : List S110) (nx rt : Int → Int) (now : Int) : ∀ (l : List S33) (p : List S33 × List S39), p.2.length ≤ (l.foldl (advStep bs nx rt now) p).2.length
  | [], p => Nat.le_refl _
  | m :: l, p => Nat.le_trans (advM_len bs nx rt now m p.2) (advFold_mono bs nx rt now l (advStep bs nx rt now p m))
theorem advFold_take (bs : List S110) (nx rt : Int → Int) (now : Int) (l : List S33) (k : Nat) (hk : k < l.length) : advFold bs nx rt now (l.take (k + 1)) = advStep bs nx rt now (advFold bs nx rt now (l.take k)) l[k] := by
  unfold advFold
  rw [List.take_succ_eq_append_getElem hk, List.foldl_append]
  rfl
theorem advFold_le (bs : List S110) (nx rt : Int → Int) (now : Int) (l : List S33) (k : Nat) : (advFold bs nx rt now (l.take k)).2.length ≤ (advFold bs nx rt now l).2.length := by
  have h := advFold_mono bs nx rt now (l.drop k) (advFold bs nx rt now (l.take k))
  have e : advFold bs nx rt now l = (l.drop k).foldl (advStep bs nx rt now) (advFold bs nx rt now (l.take k)) := by
    unfold advFold; rw [← List.foldl_append, List.take_append_drop]
  rw [e]; exact h
theorem advFold_n (bs : List S110) (nx rt : Int → Int) (now : Int) : ∀ (l : List S33) (p : List S33 × List S39), (l.foldl (advStep bs nx rt now) p).1.length = p.1.length + l.length
  | [], p => rfl
  | m :: l, p => by
    have h := advFold_n bs nx rt now l (advStep bs nx rt now p m)
    have e : (advStep bs nx rt now p m).1.length = p.1.length + 1 := by simp [advStep]
    simp only [List.foldl_cons, List.length_cons]
    rw [h, e]; omega
def advanceF (l : List S33) (bs : List S110) (nx rt : Int → Int) (now chk : Int) : List S33 × List S39 × Int :=
  if beginF l now (fun _ => true) chk = 0 then (if 1024 < (advFold bs nx rt now l).2.length then ([], [], 2) else ((advFold bs nx rt now l).1, (advFold bs nx rt now l).2, 0)) else ([], [], beginF l now (fun _ => true) chk)
theorem ok_of_valid : ∀ (l : List S33) (ks : List (Int × Int)), validFrom ks l = true → ∀ m ∈ l, okOne m = true
  | [], ks, _ => fun m hm => by simp at hm
  | x :: l, ks, h => fun m hm => by
    simp only [validFrom, Bool.and_eq_true] at h
    rcases List.mem_cons.1 hm with e | e
    · subst e; exact h.1.1
    · exact ok_of_valid l _ h.2 m e
theorem time_of_ok {m : S33} (h : okOne m = true) : 0 ≤ m.f4 ∧ m.f4 ≤ 1099511627776 := by
  simp only [okOne, Bool.and_eq_true, Bool.not_eq_true', Bool.or_eq_false_iff, oddT, decide_eq_false_iff_not] at h
  omega
theorem begin_ok {l : List S33} {now : Int} {p : S33 → Bool} {chk : Int} (h : beginF l now p chk = 0) : validB l = true ∧ (0 ≤ now ∧ now ≤ 1099511627776) ∧ l.any (lateP p now) = false ∧ chk = 0 := by
  unfold beginF at h
  split at h
  · next hc =>
    simp only [Bool.and_eq_true, Bool.not_eq_true', oddT, Bool.or_eq_false_iff, decide_eq_false_iff_not] at hc
    exact ⟨hc.1.1, by omega, hc.2, h⟩
  · cases h
def MRPost (r1 : List S33) (r2 : List S39) (r3 : Int) (w : World) (e : Ending) (w' : World) : Prop := ∃ v0_ v1_ : Value, e = .returned (.tuple #[v0_, v1_, .int .i64 r3]) ∧ Kd.V k33 33 w' w.heap.size (fun k_ => (w.heap.size ≤ k_)) v0_ r1 ∧ Kd.V k39 39 w' w.heap.size (fun k_ => (w.heap.size ≤ k_)) v1_ r2 ∧ Below w.heap.size w w'
theorem enters62 : Enters 62 := fun _ _ => by kernel_rfl
set_option maxHeartbeats 1000000 in
set_option maxRecDepth 100000 in
theorem always_calls (w : World) : PredAll 62 #[] w (fun _ => true) := by
  intro m W _
  go_enter Try.func62, Try.ntmps62
  go_wp2_with fail
  go_ret
  exact ⟨rfl, below_one _ _⟩
/-- Between two rounds of Advance's loop. -/
def AInv (l : List S33) (bs : List S110) (nx rt : Int → Int) (now : Int) (gc : Nat) (vb : Value) (Ax : Option Addr) (w : World) (k : Nat) (W : World) : Prop :=
  (advFold bs nx rt now (l.take k)).2.length ≤ 1024 ∧ Below w.heap.size w W ∧ (∃ vr, CBlk W gc vb vr ∧ k39.R 39 W w.heap.size (fun _ => True) vr (advFold bs nx rt now (l.take k)).2) ∧
    (0 < l.length → ∃ gx cs, Ax = some ⟨gx, 0, none⟩ ∧ w.heap.size ≤ gx ∧ RowIs W gx cs ((advFold bs nx rt now (l.take k)).1 ++ l.drop k))
theorem set_mid {α : Type} {xs l : List α} {k : Nat} (hx : xs.length = k) (hk : k < l.length) (m : α) : (xs ++ l.drop k).set k m = (xs ++ [m]) ++ l.drop (k + 1) := by
  subst hx
  rw [List.set_append_right _ _ (Nat.le_refl _), Nat.sub_self, List.drop_eq_getElem_cons hk]
  simp only [List.set_cons_zero, List.append_assoc, List.singleton_append]
theorem get_mid {α : Type} {xs l : List α} {k : Nat} (hx : xs.length = k) (hk : k < l.length) : (xs ++ l.drop k)[k]? = some l[k] := by
  subst hx
  rw [List.getElem?_append_right (Nat.le_refl _)]
  simp
set_option maxHeartbeats 8000000 in
set_option maxRecDepth 100000 in
theorem Advance_calls (A : Option Addr) (c : Nat) (l : List S33) (A1 : Option Addr) (c1 : Nat) (bs : List S110) (nx rt : Int → Int) (now chk : Int) (k : Nat) (w : World)
    (hr : Kd.C k33 w A l.length l) (hr1 : Kd.C k110 w A1 bs.length bs) (hc1 : bs.length ≤ c1) (hk : tariff_Check.f k bs = some chk) (htar : chk = 0 → Tar k bs nx rt) (hl : l.length ≤ 1000000) :
    Calls Try.prog 25 #[.slice A l.length c, .agg #[.slice A1 bs.length c1], .int .i64 now] w (MRPost (advanceF l bs nx rt now chk).1 (advanceF l bs nx rt now chk).2.1 (advanceF l bs nx rt now chk).2.2 w) := by
  obtain ⟨r1, hr1e⟩ : ∃ r1, r1 = (advanceF l bs nx rt now chk).1 := ⟨_, rfl⟩
  obtain ⟨r2, hr2e⟩ : ∃ r2, r2 = (advanceF l bs nx rt now chk).2.1 := ⟨_, rfl⟩
  obtain ⟨r3, hr3e⟩ : ∃ r3, r3 = (advanceF l bs nx rt now chk).2.2 := ⟨_, rfl⟩
  rw [← hr1e, ← hr2e, ← hr3e]
  have E1 := Lib.hid hr1e; have E2 := Lib.hid hr2e; have E3 := Lib.hid hr3e
  have HR := Lib.hid hr; have HR1 := Lib.hid hr1; have HC1 := Lib.hid hc1; have HK := Lib.hid hk; have HTAR := Lib.hid htar; have HL := Lib.hid hl
  clear hr1e hr2e hr3e hr hr1 hc1 hk htar hl
  go_enter Try.func25, Try.ntmps25
  have HT := Lib.hid (Bx.new w 25 (.slice A1 bs.length c1))
  have q0 := fun v => (Bx.new w 25 v).c0
  go_wp2_with fail
  clear q0
  refine (begin_calls 62 #[] enters62 A c l A1 c1 bs now (fun _ => true) k chk _ (Kd.C_below HR.out (below_one _ _)) (Kd.C_below HR1.out (below_one _ _)) HC1.out HK.out (always_calls _)).mono ?_
  rintro e w1 ⟨hb, (⟨hne, rfl⟩ | ⟨h0, gc, hgc, rfl, hcb⟩)⟩
  · have HB := Lib.hid (bb (below_one _ _) hb)
    clear hb
    have hz : (beginF l now (fun _ => true) chk != 0) = true := by simpa using hne
    obtain ⟨err, herr⟩ : ∃ err, err = beginF l now (fun _ => true) chk := ⟨_, rfl⟩
    rw [← herr] at hz ⊢
    have HE := Lib.hid herr
    have HNE := Lib.hid hne
    clear herr hne
    go_wp2_with fail
    refine bodyPost_ret (results_tmp3 rfl _ _ _) rfl ?_
    have e1 : advanceF l bs nx rt now chk = ([], [], err) := by unfold advanceF; rw [if_neg HNE.out, ← HE.out]
    obtain rfl : r1 = [] := by rw [E1.out, e1]
    obtain rfl : r2 = [] := by rw [E2.out, e1]
    obtain rfl : r3 = err := by rw [E3.out, e1]
    exact ⟨_, _, rfl, Kd.V_nil _ _ _ _ _, Kd.V_nil _ _ _ _ _, HB.out⟩
  · have HGC := Lib.hid (show w.heap.size ≤ gc from Nat.le_trans (below_one w (.cells #[.slice A1 bs.length c1] 25)).size hgc)
    have HB := Lib.hid (bb (below_one _ _) hb)
    have HCB := Lib.hid hcb
    have H0 := Lib.hid h0
    clear hb hgc hcb h0
    obtain ⟨hv, hnow, hla, hchk⟩ := begin_ok H0.out
    have HV := Lib.hid hv; have HN := Lib.hid hnow; have HLA := Lib.hid hla; have HCK := Lib.hid hchk
    have TAR := Lib.hid (HTAR.out hchk)
    clear hv hnow hla hchk HTAR
    go_wp2_with fail
    refine (cloneM A c l _ (Kd.C_below HR.out HB.out) (by have := HL.out; omega)).mono ?_
    rintro e w2 ⟨v', rfl, ho, hb⟩
    have HCB := Lib.hid (HCB.out.below hb)
    have HB1 := HB
    have HB := Lib.hid (bb HB.out hb)
    obtain ⟨Ax, cx, rfl⟩ := Kd.R_slice ho
    have hcap := (Kd.R_reads' ho).2.1
    have HCAP := Lib.hid hcap
    have hrow : 0 < l.length → ∃ gx cs, Ax = some ⟨gx, 0, none⟩ ∧ w.heap.size ≤ gx ∧ RowIs w2 gx cs l := fun hp => by
      obtain ⟨gx, cap, he, hbx, _, cells, hcell⟩ := Kd.R_form ho hp
      injection he with h1 _ h3
      subst h1 h3
      exact ⟨gx, cells, rfl, Nat.le_trans HB1.out.size hbx, RowIs.of_R ho hcell⟩
    have HROW := Lib.hid hrow
    have HO := Lib.hid ho
    clear hrow hcap ho hb HB1
    go_wp2_with fail
    go_loopw [6, 7, 8, 10, 25] (fun v6 v7 v8 _ i W => v6 = .slice Ax l.length cx ∧ v7 = .slice none 0 0 ∧ v8 = .int .i64 0 ∧ ∃ k : Nat, k ≤ l.length ∧ i = .int .i64 k ∧ AInv l bs nx rt now gc (.slice A1 bs.length c1) Ax w k W) (fun _ _ _ _ i _ => l.length - (intOf i).toNat)
    case atStart =>
      refine ⟨rfl, rfl, rfl, 0, Nat.zero_le _, rfl, Nat.zero_le _, HB.out, ⟨_, HCB.out, ⟨fun _ _ => trivial, OwnRow.none_ _ _ _ _ _⟩⟩, fun hp => ?_⟩
      obtain ⟨gx, cs, h1, h2, h3⟩ := HROW.out hp
      exact ⟨gx, cs, h1, h2, h3⟩
    case round =>
      obtain ⟨rfl, rfl, rfl, j, hj, rfl, hi⟩ := hrel
      have HI := Lib.hid hi
      clear hi HB HCB HROW HO
      by_cases hlt : j < l.length
      · obtain ⟨hfull, HB, ⟨vr, hcb, hrr⟩, hrow⟩ := HI.out
        obtain ⟨gx, cs, rfl, hgx, hro⟩ := hrow (by omega)
        obtain ⟨p, hp⟩ : ∃ p, p = advFold bs nx rt now (l.take j) := ⟨_, rfl⟩
        rw [← hp] at hfull hrr hro
        have hpl : p.1.length = j := by rw [hp]; unfold advFold; rw [advFold_n, List.length_take]; simp; omega
        have hel := get_mid (l := l) hpl hlt
        have hmem : l[j] ∈ l := List.getElem_mem hlt
        have htime := time_of_ok (ok_of_valid l [] HV.out _ hmem)
        obtain ⟨m, hm⟩ : ∃ m, m = l[j] := ⟨_, rfl⟩
        rw [← hm] at hel htime
        have QF := Lib.hid hfull; have QB := Lib.hid HB; have QC := Lib.hid hcb; have QR := Lib.hid hrr; have QX := Lib.hid hro; have QP := Lib.hid hp; have QL := Lib.hid hpl; have QE := Lib.hid hel; have QT := Lib.hid htime; have QM := Lib.hid hm; have QG := Lib.hid hgx
        have HJ := Lib.hid hj
        have i0 : (0 : Int) ≤ (j : Int) := by omega
        have i1 : (j : Int) < (l.length : Int) := by omega
        have HLT := Lib.hid hlt
        clear hfull HB hcb hrr hro hp hpl hel hmem htime hm hgx hrow hj
        go_wp2_with fail
        refine (advM_calls k A1 c1 bs nx rt TAR.out vr p.2 gc gx (j * 5) cs m now w wr QC.out QR.out (QX.out.mrow m QE.out) QB.out HGC.out QG.out HR1.out HC1.out QT.out.1 QT.out.2 HN.out.2 QF.out).mono ?_
        rintro e W3 ⟨rfl, vr3, hc3, hr3, hown, hm3, hf3⟩
        obtain ⟨q, hq⟩ : ∃ q, q = advM bs nx rt now m p.2 := ⟨_, rfl⟩
        rw [← hq] at hr3 hm3
        have hrow3 := RowIs.put (m' := q.1) QX.out.ent QE.out (by rw [hq]; exact advM_same _ _ _ _ _ _) hm3
        rw [set_mid QL.out HLT.out] at hrow3
        have hst : advFold bs nx rt now (l.take (j + 1)) = (p.1 ++ [q.1], q.2) := by rw [advFold_take _ _ _ _ _ _ HLT.out, ← QP.out, ← QM.out, hq]; rfl
        have hb3 : Below w.heap.size w W3 := Fr.below hf3 QB.out (Nat.le_refl _) (fun kk hk => by
          rcases hk with e | e | e
          · have := HGC.out; omega
          · have := QG.out; omega
          · exact (R39_cells QR.out e).1)
        obtain ⟨A3, c3, rfl⟩ := Kd.R_slice hr3
        have RR := Lib.hid hr3; have RC := Lib.hid hc3; have RX := Lib.hid hrow3; have RS := Lib.hid hst; have RB := Lib.hid hb3
        clear hr3 hc3 hown hm3 hf3 hrow3 hst hb3 hq
        go_wp2_with fail
        refine (full_calls gc _ _ _ _ W3 RC.out).mono ?_
        rintro e W4 ⟨rfl, rfl⟩
        cases hfl : decide (1024 < ((q.2.length : Nat) : Int))
        · have hlt := HLT.out
          have hlen : l.length ≤ 9223372036854775807 := by have := HL.out; omega
          go_wp2_with fail
          go_roundw
          case rel =>
            refine ⟨rfl, rfl, rfl, j + 1, HLT.out, by go_num, ?_, RB.out, ⟨_, RC.out, ?_⟩, fun _ => ⟨gx, cs.setIfInBounds (j * 5 + 4) (.int .i64 q.1.f4), rfl, QG.out, ?_⟩⟩
            · rw [RS.out]; have := of_decide_eq_false hfl; show q.2.length ≤ 1024; omega
            · rw [RS.out]; exact RR.out
            · rw [RS.out]; exact RX.out
          case measure => simp [intOf]; have := HLT.out; omega
        · go_wp2_with fail
          refine bodyPost_ret (results_tmp3 rfl _ _ _) rfl ?_
          have hle := advFold_le bs nx rt now l (j + 1)
          rw [RS.out] at hle
          have h1 := of_decide_eq_true hfl
          have e1 : advanceF l bs nx rt now chk = ([], [], 2) := by unfold advanceF; rw [if_pos H0.out, if_pos (by simp only at hle; omega)]
          obtain rfl : r1 = [] := by rw [E1.out, e1]
          obtain rfl : r2 = [] := by rw [E2.out, e1]
          obtain rfl : r3 = 2 := by rw [E3.out, e1]
          exact ⟨_, _, rfl, Kd.V_nil _ _ _ _ _, Kd.V_nil _ _ _ _ _, RB.out⟩
      · obtain ⟨hfull, HB, ⟨vr, hcb, hrr⟩, hrow⟩ := HI.out
        have hjl : j = l.length := by omega
        subst hjl
        rw [List.take_length] at hfull hrr hrow
        rw [List.drop_length, List.append_nil] at hrow
        have QF := Lib.hid hfull; have QB := Lib.hid HB; have QC := Lib.hid hcb; have QR := Lib.hid hrr; have QX := Lib.hid hrow
        have q1 := hcb.c1
        clear hfull HB hcb hrr hrow hj hlt HI
        go_wp2_with fail
        go_region_held3 (fun w' => w'.cell? ⟨gc, 1, none⟩ = some vr) (go_keep) (fail)
        go_wp2_with fail
        refine bodyPost_ret (results_tmp3 rfl _ _ _) rfl ?_
        have e1 : advanceF l bs nx rt now chk = ((advFold bs nx rt now l).1, (advFold bs nx rt now l).2, 0) := by unfold advanceF; rw [if_pos H0.out, if_neg (by have := QF.out; omega)]
        obtain rfl : r1 = (advFold bs nx rt now l).1 := by rw [E1.out, e1]
        obtain rfl : r2 = (advFold bs nx rt now l).2 := by rw [E2.out, e1]
        obtain rfl : r3 = 0 := by rw [E3.out, e1]
        have hn : (advFold bs nx rt now l).1.length = l.length := by unfold advFold; rw [advFold_n]; simp
        refine ⟨_, _, rfl, ?_, Kd.V_drew (Kd.R_V (Kd.R_mono (Kd.R_bound QR.out) (fun kk hk => hk.2.1))), below_drew QB.out⟩
        refine Kd.V_drew ?_
        rcases Nat.eq_zero_or_pos l.length with hz | hp
        · have hx : (advFold bs nx rt now l).1 = [] := List.eq_nil_of_length_eq_zero (by omega)
          rw [hx, hz]
          exact ⟨_, _, rfl, Nat.zero_le _, fun W' _ => ⟨rfl, by simp, fun h => absurd h (by simp)⟩⟩
        · obtain ⟨gx, cs, rfl, hgx, hro⟩ := QX.out hp
          have hV := RowIs.V (B := w.heap.size) (cap := cx) hro (by have := HL.out; omega) (by have := HCAP.out; omega) (ok := fun k_ => w.heap.size ≤ k_) hgx
          rw [hn] at hV
          exact hV
end Go.Proofs.Ytbfhohpbldadbaa.P

namespace Go.Proofs.Ytbfhohpbldadbaa.P
open Go Go.RowKit Go.Proofs.YtbfhohpbldadbaaW.PrintWords Go.Proofs.YtbfhohpbldadbaaW.PrintLast Go.Proofs.YtbfhohpbldadbaaW.PrintMore
set_option linter.unusedVariables false
set_option linter.unusedSimpArgs false
def isRef (ref : Int) (m : S33) : Bool := m.f0 == ref
theorem enters49 : Enters 49 := fun _ _ => by kernel_rfl
set_option maxHeartbeats 1000000 in
set_option maxRecDepth 100000 in
theorem stop1_calls (g : Nat) (ref : Int) (m : S33) (W : World) (h : Bx W g 3 (.int .i64 ref)) :
    Calls Try.prog 49 (#[.agg #[.int .i64 m.f0, .int .i64 m.f1, .int .i64 m.f2, .string m.f3, .int .i64 m.f4]] ++ #[.pointer (some ⟨g, 0, none⟩)]) W fun e W' => e = .returned (.bool (isRef ref m)) ∧ Below W.heap.size W W' := by
  have c0 := fun o => (h.below (below_one W o)).c0
  clear h
  go_enter Try.func49, Try.ntmps49
  go_wp2_with fail
  go_ret
  exact ⟨by simp [isRef], below_one _ _⟩
/-- What Stop makes of one meter. -/
def stopStep (bs : List S110) (nx rt : Int → Int) (ref now : Int) (p : List S33 × List S39) (m : S33) : List S33 × List S39 :=
  if isRef ref m = true then (p.1, if (advM bs nx rt now m p.2).1.f4 < now then (advM bs nx rt now m p.2).2 ++ [recOf (advM bs nx rt now m p.2).1 now (rt (advM bs nx rt now m p.2).1.f4)] else (advM bs nx rt now m p.2).2) else (p.1 ++ [m], p.2)
def stopFold (bs : List S110) (nx rt : Int → Int) (ref now : Int) (l : List S33) : List S33 × List S39 := l.foldl (stopStep bs nx rt ref now) ([], [])
theorem stopStep_mono (bs : List S110) (nx rt : Int → Int) (ref now : Int) (p : List S33 × List S39) (m : S33) : p.2.length ≤ (stopStep bs nx rt ref now p m).2.length := by
  have h := advM_len bs nx rt now m p.2
  unfold stopStep
  split
  · simp only
    split
    · rw [List.length_append]; omega
    · exact h
  · exact Nat.le_refl _
theorem stopFold_mono (bs : List S110) (nx rt : Int → Int) (ref now : Int) : ∀ (l : List S33) (p : List S33 × List S39), p.2.length ≤ (l.foldl (stopStep bs nx rt ref now) p).2.length
  | [], p => Nat.le_refl _
  | m :: l, p => Nat.le_trans (stopStep_mono bs nx rt ref now p m) (stopFold_mono bs nx rt ref now l (stopStep bs nx rt ref now p m))
theorem stopFold_take (bs : List S110) (nx rt : Int → Int) (ref now : Int) (l : List S33) (k : Nat) (hk : k < l.length) : stopFold bs nx rt ref now (l.take (k + 1)) = stopStep bs nx rt ref now (stopFold bs nx rt ref now (l.take k)) l[k] := by
  unfold stopFold
  rw [List.take_succ_eq_append_getElem hk, List.foldl_append]
  rfl
theorem stopFold_le (bs : List S110) (nx rt : Int → Int) (ref now : Int) (l : List S33) (k : Nat) : (stopFold bs nx rt ref now (l.take k)).2.length ≤ (stopFold bs nx rt ref now l).2.length := by
  have h := stopFold_mono bs nx rt ref now (l.drop k) (stopFold bs nx rt ref now (l.take k))
  have e : stopFold bs nx rt ref now l = (l.drop k).foldl (stopStep bs nx rt ref now) (stopFold bs nx rt ref now (l.take k)) := by
    unfold stopFold; rw [← List.foldl_append, List.take_append_drop]
  rw [e]; exact h
theorem stopFold_n (bs : List S110) (nx rt : Int → Int) (ref now : Int) : ∀ (l : List S33) (p : List S33 × List S39), (l.foldl (stopStep bs nx rt ref now) p).1.length ≤ p.1.length + l.length
  | [], p => Nat.le_refl _
  | m :: l, p => by
    have h := stopFold_n bs nx rt ref now l (stopStep bs nx rt ref now p m)
    have e : (stopStep bs nx rt ref now p m).1.length ≤ p.1.length + 1 := by
      unfold stopStep; split <;> simp
    simp only [List.foldl_cons, List.length_cons]
    omega
def stopF (l : List S33) (bs : List S110) (nx rt : Int → Int) (ref now chk : Int) : List S33 × List S39 × Int :=
  if oddT ref = true then ([], [], 1) else if beginF l now (isRef ref) chk = 0 then (if l.any (isRef ref) = true then (if 1024 < (stopFold bs nx rt ref now l).2.length then ([], [], 2) else ((stopFold bs nx rt ref now l).1, (stopFold bs nx rt ref now l).2, 0)) else ([], [], 270)) else ([], [], beginF l now (isRef ref) chk)
theorem cutAll_range {rt : Int → Int} {B : Int} : ∀ (ys : List Int) (m : S33) (rs : List S39), (∀ y ∈ ys, 0 ≤ y ∧ y ≤ B) → 0 ≤ m.f4 → m.f4 ≤ B → 0 ≤ (cutAll rt m rs ys).1.f4 ∧ (cutAll rt m rs ys).1.f4 ≤ B
  | [], m, rs, _, h0, h1 => ⟨h0, h1⟩
  | y :: ys, m, rs, h, _, _ => cutAll_range ys ⟨m.f0, m.f1, m.f2, m.f3, y⟩ _ (fun z hz => h z (List.mem_cons_of_mem _ hz)) (h y (by simp)).1 (h y (by simp)).2
theorem cutsOf_range {k : Nat} {bs : List S110} {nx rt : Int → Int} (htar : Tar k bs nx rt) {now cur : Int} (hn1 : now ≤ 1099511627776) (h0 : 0 ≤ cur) (h1 : cur ≤ 1099511627776) : ∀ y ∈ cutsOf bs nx now cur, 0 ≤ y ∧ y ≤ 1099511627776 := fun y hy => by
  unfold cutsOf at hy
  split at hy
  · simp at hy
  · next h => exact chgs_range (htar.up (by simpa using h)) hn1 _ _ h0 h1 y hy
theorem advM_range {k : Nat} {bs : List S110} {nx rt : Int → Int} (htar : Tar k bs nx rt) {now : Int} {m : S33} {rs : List S39} (hn1 : now ≤ 1099511627776) (h0 : 0 ≤ m.f4) (h1 : m.f4 ≤ 1099511627776) : 0 ≤ (advM bs nx rt now m rs).1.f4 ∧ (advM bs nx rt now m rs).1.f4 ≤ 1099511627776 :=
  cutAll_range _ m rs (fun y hy => cutsOf_range htar hn1 h0 h1 y (List.mem_of_mem_take hy)) h0 h1
theorem R33_move {W W' : World} {B : Nat} {v : Value} {xs : List S33} (h : k33.R 33 W B (fun _ => True) v xs) (hs : ∀ k, some k = v.ownBlock → W'.heap[k]? = W.heap[k]?) : k33.R 33 W' B (fun _ => True) v xs :=
  Kd.R_mono (Kd.R_step (Kd.R_tight rfl h) (fun k hk _ => hs k hk)) (fun _ _ => trivial)
theorem R33_cells {W : World} {B : Nat} {v : Value} {xs : List S33} (h : k33.R 33 W B (fun _ => True) v xs) {k : Nat} (hk : some k = v.ownBlock) : B ≤ k ∧ ∃ cells, W.heap[k]? = some (.cells cells 33 (0, 0)) := by
  refine ⟨((Kd.R_bound h).1 k hk.symm).2.1, ?_⟩
  obtain ⟨inner, ho⟩ := Kd.R_own h
  exact own_typed ho k hk.symm
/-- What Stop's loop holds. -/
structure SWorld (gc gref : Nat) (vb : Value) (ref : Int) (w W : World) (vr vx : Value) (p : List S33 × List S39) : Prop where
  low : Below w.heap.size w W
  c : CBlk W gc vb vr
  r : k39.R 39 W w.heap.size (fun _ => True) vr p.2
  x : k33.R 33 W w.heap.size (fun _ => True) vx p.1
  f : Bx W gref 3 (.int .i64 ref)
theorem SWorld.below {gc gref : Nat} {vb : Value} {ref : Int} {w W W' : World} {vr vx : Value} {p : List S33 × List S39} (h : SWorld gc gref vb ref w W vr vx p) (hb : Below W.heap.size W W') : SWorld gc gref vb ref w W' vr vx p :=
  ⟨bb h.low hb, h.c.below hb, Kd.R_below h.r hb, Kd.R_below h.x hb, h.f.below hb⟩
/-- A cut of a meter that lies in a box of its own. -/
theorem SWorld.cut {gc gref gm : Nat} {vb : Value} {ref : Int} {w W W' : World} {vr vx : Value} {p : List S33 × List S39} {rs' : List S39} {cs cs' : Array Value} {e : Ending} (h : SWorld gc gref vb ref w W vr vx p) (hm : W.heap[gm]? = some (.cells cs' 33 (0, 0))) (hx : some gm ≠ vx.ownBlock) (hgc : w.heap.size ≤ gc) (hgm : w.heap.size ≤ gm)
    (hp : CutPost vb vr rs' gc gm cs w.heap.size W e W') : ∃ vr', SWorld gc gref vb ref w W' vr' vx (p.1, rs') ∧ W'.heap[gm]? = some (.cells cs 33 (0, 0)) := by
  obtain ⟨_, vr', hc, hr, hown, hm', hf⟩ := hp
  refine ⟨vr', ⟨Fr.below hf h.low (Nat.le_refl _) (fun k hk => ?_), hc, hr, R33_move h.x (fun k hk => ?_), hf.blk h.f (fun hk => ?_)⟩, hm'⟩
  · rcases hk with e | e | e
    · omega
    · omega
    · exact (R39_cells h.r e).1
  · obtain ⟨_, cells, hcc⟩ := R33_cells h.x hk
    refine (hf.blk hcc (fun hb => ?_)).trans hcc.symm
    rcases hb with e | e | e
    · subst e; exact absurd rfl (blk_ne hcc h.c (by decide))
    · subst e; exact hx hk
    · exact Kd.R_ne h.r hcc (by decide) e
  · rcases hk with e | e | e
    · subst e; exact absurd rfl (blk_ne h.f h.c (by decide))
    · subst e; exact absurd rfl (blk_ne h.f hm (by decide))
    · exact Kd.R_ne h.r h.f (by decide) e
set_option maxHeartbeats 8000000 in
set_option maxRecDepth 100000 in
theorem Stop_calls (A : Option Addr) (c : Nat) (l : List S33) (A1 : Option Addr) (c1 : Nat) (bs : List S110) (nx rt : Int → Int) (ref now chk : Int) (k : Nat) (w : World)
    (hr : Kd.C k33 w A l.length l) (hr1 : Kd.C k110 w A1 bs.length bs) (hc1 : bs.length ≤ c1) (hk : tariff_Check.f k bs = some chk) (htar : chk = 0 → Tar k bs nx rt) (hl : l.length ≤ 1000000) :
    Calls Try.prog 19 #[.slice A l.length c, .agg #[.slice A1 bs.length c1], .int .i64 ref, .int .i64 now] w (MRPost (stopF l bs nx rt ref now chk).1 (stopF l bs nx rt ref now chk).2.1 (stopF l bs nx rt ref now chk).2.2 w) := by
  have hmf : ∀ (fn : Fn) (first cap : Array Value) (w : World), (Instr.makeFunc fn first cap).run Try.prog w = .ok (.func fn first cap) w := fun _ _ _ _ => rfl
  obtain ⟨r1, hr1e⟩ : ∃ r1, r1 = (stopF l bs nx rt ref now chk).1 := ⟨_, rfl⟩
  obtain ⟨r2, hr2e⟩ : ∃ r2, r2 = (stopF l bs nx rt ref now chk).2.1 := ⟨_, rfl⟩
  obtain ⟨r3, hr3e⟩ : ∃ r3, r3 = (stopF l bs nx rt ref now chk).2.2 := ⟨_, rfl⟩
  rw [← hr1e, ← hr2e, ← hr3e]
  have E1 := Lib.hid hr1e; have E2 := Lib.hid hr2e; have E3 := Lib.hid hr3e
  have HR := Lib.hid hr; have HR1 := Lib.hid hr1; have HC1 := Lib.hid hc1; have HK := Lib.hid hk; have HTAR := Lib.hid htar; have HL := Lib.hid hl
  clear hr1e hr2e hr3e hr hr1 hc1 hk htar hl
  go_enter Try.func19, Try.ntmps19
  go_wp2_with fail
  obtain ⟨w1, hw1⟩ : ∃ w1, w1 = (w.alloc (.cells #[.slice A1 bs.length c1] 25)).alloc (.cells #[.int .i64 ref] 3) := ⟨_, rfl⟩
  rw [← hw1]
  have hs1 : w1.heap.size = w.heap.size + 1 + 1 := by rw [hw1]; simp
  have B1 := Lib.hid (show Below w.heap.size w w1 by rw [hw1]; exact al (below_one _ _) _)
  have T1 := Lib.hid (show Bx w1 w.heap.size 25 (.slice A1 bs.length c1) by rw [hw1]; exact (Bx.new w 25 _).below (below_one _ _))
  have F1 := Lib.hid (show Bx w1 (w.heap.size + 1) 3 (.int .i64 ref) by rw [hw1]; have h := Bx.new (w.alloc (.cells #[.slice A1 bs.length c1] 25)) 3 (.int .i64 ref); rwa [World.size_alloc] at h)
  have hC := C1I w1 ref
  rw [hs1] at hC
  refine (inTime_calls (some ⟨w.heap.size + 1 + 1, 0, none⟩) 1 [ref] _ hC).mono ?_
  rintro e w2 ⟨rfl, hb⟩
  have hb2 : Below w1.heap.size w1 w2 := bb (below_one _ _) hb
  have B2 := Lib.hid (bb B1.out hb2)
  have T2 := Lib.hid (T1.out.below hb2)
  have F2 := Lib.hid (F1.out.below hb2)
  clear hw1 hs1 B1 T1 F1 hC hb hb2
  have ho : [ref].any oddT = oddT ref := by simp
  rw [ho]
  clear ho
  cases hod : oddT ref
  · have q0 := T2.out.c0
    go_wp2_with fail
    refine (begin_calls 49 #[.pointer (some ⟨w.heap.size + 1, 0, none⟩)] enters49 A c l A1 c1 bs now (isRef ref) k chk _ (Kd.C_below HR.out B2.out) (Kd.C_below HR1.out B2.out) HC1.out HK.out (fun m W hW => stop1_calls _ ref m W (F2.out.below hW))).mono ?_
    rintro e w3 ⟨hb, hor⟩
    have B3 := Lib.hid (bb B2.out hb)
    have F3 := Lib.hid (F2.out.below hb)
    have S2 := Lib.hid B2.out.size
    clear hb B2 T2 F2 q0
    rcases hor with ⟨hne, rfl⟩ | ⟨h0, gc, hgc, rfl, hcb⟩
    · have hz : (beginF l now (isRef ref) chk != 0) = true := by simpa using hne
      obtain ⟨err, herr⟩ : ∃ err, err = beginF l now (isRef ref) chk := ⟨_, rfl⟩
      rw [← herr] at hz ⊢
      have HE := Lib.hid herr
      have HNE := Lib.hid hne
      have HOD := Lib.hid hod
      clear herr hne hod
      go_wp2_with fail
      refine bodyPost_ret (results_tmp3 rfl _ _ _) rfl ?_
      have e1 : stopF l bs nx rt ref now chk = ([], [], err) := by unfold stopF; rw [if_neg (by rw [HOD.out]; decide), if_neg HNE.out, ← HE.out]
      obtain rfl : r1 = [] := by rw [E1.out, e1]
      obtain rfl : r2 = [] := by rw [E2.out, e1]
      obtain rfl : r3 = err := by rw [E3.out, e1]
      exact ⟨_, _, rfl, Kd.V_nil _ _ _ _ _, Kd.V_nil _ _ _ _ _, B3.out⟩
    · have HGC := Lib.hid (Nat.le_trans S2.out hgc)
      have HCB := Lib.hid hcb
      have H0 := Lib.hid h0
      obtain ⟨hv, hnow, hla, hchk⟩ := begin_ok h0
      have HV := Lib.hid hv; have HN := Lib.hid hnow; have TAR := Lib.hid (HTAR.out hchk); have HOD := Lib.hid hod
      clear hgc hcb h0 hv hnow hla hchk HTAR hod S2
      go_wp2_with fail
      refine (containsM 49 #[.pointer (some ⟨w.heap.size + 1, 0, none⟩)] enters49 A c l (isRef ref) _ (Kd.C_below HR.out B3.out) (fun m _ W hW => stop1_calls _ ref m W (F3.out.below hW))).mono ?_
      rintro e w4 ⟨rfl, hb⟩
      have HCB := Lib.hid (HCB.out.below hb)
      have F4 := Lib.hid (F3.out.below hb)
      have B4 := Lib.hid (bb B3.out hb)
      clear hb F3 B3
      cases hany : l.any (isRef ref)
      · go_wp2_with fail
        refine bodyPost_ret (results_tmp3 rfl _ _ _) rfl ?_
        have e1 : stopF l bs nx rt ref now chk = ([], [], 270) := by unfold stopF; rw [if_neg (by rw [HOD.out]; decide), if_pos H0.out, if_neg (by rw [hany]; decide)]
        obtain rfl : r1 = [] := by rw [E1.out, e1]
        obtain rfl : r2 = [] := by rw [E2.out, e1]
        obtain rfl : r3 = 270 := by rw [E3.out, e1]
        exact ⟨_, _, rfl, Kd.V_nil _ _ _ _ _, Kd.V_nil _ _ _ _ _, B4.out⟩
      · have HANY := Lib.hid hany
        clear hany
        go_wp2_with fail
        go_loopw [8, 9, 10, 14, 37] (fun v8 v9 v10 _ i W => v9 = .slice none 0 0 ∧ v10 = .int .i64 0 ∧ ∃ j : Nat, j ≤ l.length ∧ i = .int .i64 j ∧ (stopFold bs nx rt ref now (l.take j)).2.length ≤ 1024 ∧ ∃ vr, SWorld gc (w.heap.size + 1) (.slice A1 bs.length c1) ref w W vr v8 (stopFold bs nx rt ref now (l.take j))) (fun _ _ _ _ i _ => l.length - (intOf i).toNat)
        case atStart =>
          exact ⟨rfl, rfl, 0, Nat.zero_le _, rfl, Nat.zero_le _, _, B4.out, HCB.out, ⟨fun _ _ => trivial, OwnRow.none_ _ _ _ _ _⟩, ⟨fun _ _ => trivial, OwnRow.none_ _ _ _ _ _⟩, F4.out⟩
        case round =>
          obtain ⟨rfl, rfl, j, hj, rfl, hfull, vr, hS⟩ := hrel
          obtain ⟨p, hp⟩ : ∃ p, p = stopFold bs nx rt ref now (l.take j) := ⟨_, rfl⟩
          rw [← hp] at hfull hS
          have QF := Lib.hid hfull; have QS := Lib.hid hS; have QP := Lib.hid hp; have QJ := Lib.hid hj
          clear hfull hS hp hj HCB F4 B4
          have HLN := Lib.hid (show l.length ≤ 9223372036854775807 by have := HL.out; omega)
          by_cases hlt : j < l.length
          · have HLT := Lib.hid hlt
            obtain ⟨ad, hA, hat⟩ := M_cell (Kd.C_below HR.out QS.out.low) j hlt hlt
            have htime := time_of_ok (ok_of_valid l [] HV.out _ (List.getElem_mem hlt))
            obtain ⟨m, hm⟩ : ∃ m : S33, m = l[j]'hlt := ⟨_, rfl⟩
            replace hat : AtM wr (ad.add (j * 5)) m := by rw [hm]; exact hat
            replace htime : 0 ≤ m.f4 ∧ m.f4 ≤ 1099511627776 := by rw [hm]; exact htime
            subst hA
            have QM := Lib.hid hm; have QT := Lib.hid htime
            have c0 := hat.c0; have c1' := hat.c1; have c2 := hat.c2; have c3 := hat.c3; have c4 := hat.c4
            have i0 : (0 : Int) ≤ (j : Int) := by omega
            have i1 : (j : Int) < (l.length : Int) := by omega
            have hst : stopFold bs nx rt ref now (l.take (j + 1)) = stopStep bs nx rt ref now p m := by rw [stopFold_take _ _ _ _ _ _ _ hlt, ← QP.out, QM.out]
            have QST := Lib.hid hst
            clear hat hm htime hst
            go_wp2_with fail
            have X2 := Lib.hid (MBlk.new wr m)
            refine (stop1_calls _ ref m _ (QS.out.f.below (below_one _ _))).mono ?_
            rintro e W2 ⟨rfl, hb⟩
            have S2 := Lib.hid (QS.out.below (bb (below_one wr (.cells #[.int .i64 m.f0, .int .i64 m.f1, .int .i64 m.f2, .string m.f3, .int .i64 m.f4] 33)) hb))
            have X2 := Lib.hid (X2.out.below hb)
            have hgm : w.heap.size ≤ wr.heap.size := QS.out.low.size
            have hxo : some wr.heap.size ≠ u8.ownBlock := fun hk => by
              obtain ⟨_, cells, hcc⟩ := R33_cells QS.out.x hk
              exact absurd (heap_lt hcc) (Nat.lt_irrefl _)
            have HGM := Lib.hid hgm; have HXO := Lib.hid hxo
            clear hgm hxo hb c0 c1' c2 c3 c4 QS
            have x0 := X2.out.c0; have x1 := X2.out.c1; have x2 := X2.out.c2; have x3 := X2.out.c3; have x4 := X2.out.c4
            cases hir : isRef ref m
            · have hlt := HLT.out
              have hlen := HLN.out
              have hpn : p.1.length ≤ j := by rw [QP.out]; have := stopFold_n bs nx rt ref now (l.take j) ([], []); rw [List.length_take] at this; unfold stopFold; simp only [List.length_nil] at this; omega
              have HPN := Lib.hid hpn
              clear hpn
              go_wp2_with ((with_reducible refine gate_builtin (b := .append) (xs := #[.tmp 45, .tmp 47]) rfl ?_); at_builtin; refine Kd.R_append_rows (Rr := k33.K (W2.alloc (.cells #[.int .i64 m.f0, .int .i64 m.f1, .int .i64 m.f2, .string m.f3, .int .i64 m.f4] 33))) k33 (w0 := w) w.heap.size rfl (.tmp 45) (.tmp 47) 22 33 (.agg #[(.int .i64 0), (.int .i64 0), (.int .i64 0), (.string ⟨#[]⟩), (.int .i64 0)]) 48 rfl Try.underlying22 info33 rfl (by decide) (by omega) u8 p.1 [m] (some ⟨W2.heap.size, 0, none⟩) 1 1 (fun _ => True) (fun _ => False) rfl rfl (Kd.R_alloc S2.out.x _) (C1M W2 m) (fun y cs h => k33_open h ▸ k33_mkM _ _ _ y) (fun _ h => h.elim) (fun _ _ => trivial) (al S2.out.low _) (Nat.le_trans S2.out.low.size (below_one _ _).size) (by have := HPN.out; have := HL.out; omega) ?_; intro v3 w5 ho5 hb5 hg5 hat5)
              go_roundw
              case rel =>
                have hsx : stopStep bs nx rt ref now p m = (p.1 ++ [m], p.2) := by unfold stopStep; rw [if_neg (by rw [hir]; decide)]
                refine ⟨rfl, rfl, j + 1, HLT.out, by go_num, by rw [QST.out, hsx]; exact QF.out, vr, ?_⟩
                rw [QST.out, hsx]
                have hxa := Kd.R_alloc S2.out.x (.cells #[.int .i64 m.f0, .int .i64 m.f1, .int .i64 m.f2, .string m.f3, .int .i64 m.f4] 33)
                refine ⟨hb5, (S2.out.c.below (below_one _ _)).grown hg5 (Kd.R_ne hxa (S2.out.c.below (below_one _ _)) (by decide)), R39_move (Kd.R_alloc S2.out.r (.cells #[.int .i64 m.f0, .int .i64 m.f1, .int .i64 m.f2, .string m.f3, .int .i64 m.f4] 33)) (fun kk hk => ?_), ho5, blk_grown (S2.out.f.below (below_one _ _)) hg5 (Kd.R_ne hxa (S2.out.f.below (below_one _ _)) (by decide))⟩
                obtain ⟨_, cells, hcc⟩ := R39_cells (Kd.R_alloc S2.out.r (.cells #[.int .i64 m.f0, .int .i64 m.f1, .int .i64 m.f2, .string m.f3, .int .i64 m.f4] 33)) hk
                exact (blk_grown hcc hg5 (Kd.R_ne hxa hcc (by decide))).trans hcc.symm
              case measure => simp [intOf]; omega
            · have HIR := Lib.hid hir
              clear hir x0 x1 x2 x3 x4
              go_wp2_with fail
              refine (advM_calls k A1 c1 bs nx rt TAR.out vr p.2 gc wr.heap.size 0 #[.int .i64 m.f0, .int .i64 m.f1, .int .i64 m.f2, .string m.f3, .int .i64 m.f4] m now w W2 S2.out.c S2.out.r ⟨X2.out, rfl, rfl, rfl, rfl, rfl⟩ S2.out.low HGC.out HGM.out HR1.out HC1.out QT.out.1 QT.out.2 HN.out.2 QF.out).mono ?_
              rintro e W3 hp
              obtain ⟨q, hq⟩ : ∃ q, q = advM bs nx rt now m p.2 := ⟨_, rfl⟩
              rw [← hq] at hp
              obtain ⟨vr3, S3', hg3⟩ := S2.out.cut X2.out HXO.out HGC.out HGM.out hp
              obtain ⟨rfl, _⟩ := hp
              have S3 := Lib.hid S3'
              have hrng := advM_range TAR.out (rs := p.2) (now := now) (m := m) HN.out.2 QT.out.1 QT.out.2
              have hsame := advM_same bs nx rt now m p.2
              have hmost := advM_most bs nx rt now m p.2 (by have := QF.out; omega)
              rw [← hq] at hrng hsame hmost
              have HRNG := Lib.hid hrng; have HMOST := Lib.hid hmost; have HQ := Lib.hid hq
              have M3 : MRow W3 wr.heap.size #[.int .i64 m.f0, .int .i64 m.f1, .int .i64 m.f2, .string m.f3, .int .i64 q.1.f4] 0 q.1 := ⟨hg3, by rw [hsame.1]; rfl, by rw [hsame.2.1]; rfl, by rw [hsame.2.2.1]; rfl, by rw [hsame.2.2.2]; rfl, rfl⟩
              have G3 := Lib.hid M3
              have y4 := M3.c4
              simp only [Nat.zero_add] at y4
              clear S3' hg3 hrng hsame hmost hq M3
              cases hnow : decide (q.1.f4 < now)
              · have RST := Lib.hid (show stopStep bs nx rt ref now p m = (p.1, q.2) by unfold stopStep; rw [if_pos HIR.out, ← HQ.out, if_neg (of_decide_eq_false hnow)])
                obtain ⟨A3, c3, rfl⟩ := Kd.R_slice S3.out.r
                go_wp2_with fail
                refine (full_calls gc _ _ _ _ W3 S3.out.c).mono ?_
                rintro e W7 ⟨rfl, rfl⟩
                cases hfl : decide (1024 < ((q.2.length : Nat) : Int))
                · have hlt := HLT.out
                  have hlen := HLN.out
                  go_wp2_with fail
                  go_roundw
                  case rel =>
                    refine ⟨rfl, rfl, j + 1, HLT.out, by go_num, ?_, _, by rw [QST.out, RST.out]; exact S3.out⟩
                    rw [QST.out, RST.out]
                    have := of_decide_eq_false hfl
                    show (q.2).length ≤ 1024
                    omega
                  case measure => simp [intOf]; omega
                · go_wp2_with fail
                  refine bodyPost_ret (results_tmp3 rfl _ _ _) rfl ?_
                  have hle := stopFold_le bs nx rt ref now l (j + 1)
                  rw [QST.out, RST.out] at hle
                  have h1 := of_decide_eq_true hfl
                  have e1 : stopF l bs nx rt ref now chk = ([], [], 2) := by unfold stopF; rw [if_neg (by rw [HOD.out]; decide), if_pos H0.out, if_pos HANY.out, if_pos (by simp only at hle; omega)]
                  obtain rfl : r1 = [] := by rw [E1.out, e1]
                  obtain rfl : r2 = [] := by rw [E2.out, e1]
                  obtain rfl : r3 = 2 := by rw [E3.out, e1]
                  exact ⟨_, _, rfl, Kd.V_nil _ _ _ _ _, Kd.V_nil _ _ _ _ _, S3.out.low⟩
              · have RST := Lib.hid (show stopStep bs nx rt ref now p m = (p.1, q.2 ++ [recOf q.1 now (rt q.1.f4)]) by unfold stopStep; rw [if_pos HIR.out, ← HQ.out, if_pos (of_decide_eq_true hnow)])
                go_wp2_with fail
                refine (cut_calls k A1 c1 bs vr3 q.2 gc wr.heap.size 0 #[.int .i64 m.f0, .int .i64 m.f1, .int .i64 m.f2, .string m.f3, .int .i64 q.1.f4] q.1 now (rt q.1.f4) 0 w.heap.size W3 S3.out.c S3.out.r S3.out.low.size G3.out (Kd.C_below HR1.out S3.out.low) HC1.out (TAR.out.rate _ HRNG.out.1 HRNG.out.2) (by have := HMOST.out; omega)).mono ?_
                rintro e W4 hp
                obtain ⟨vr4, S4', _⟩ := S3.out.cut G3.out.blk HXO.out HGC.out HGM.out hp
                obtain ⟨rfl, _⟩ := hp
                have S4 := Lib.hid S4'
                clear S4' y4
                obtain ⟨A4, c4, rfl⟩ := Kd.R_slice S4.out.r
                go_wp2_with fail
                refine (full_calls gc _ _ _ _ W4 S4.out.c).mono ?_
                rintro e W7 ⟨rfl, rfl⟩
                cases hfl : decide (1024 < (((q.2 ++ [recOf q.1 now (rt q.1.f4)]).length : Nat) : Int))
                · have hlt := HLT.out
                  have hlen := HLN.out
                  go_wp2_with fail
                  go_roundw
                  case rel =>
                    refine ⟨rfl, rfl, j + 1, HLT.out, by go_num, ?_, _, by rw [QST.out, RST.out]; exact S4.out⟩
                    rw [QST.out, RST.out]
                    have := of_decide_eq_false hfl
                    show ((q.2 ++ [recOf q.1 now (rt q.1.f4)])).length ≤ 1024
                    omega
                  case measure => simp [intOf]; omega
                · go_wp2_with fail
                  refine bodyPost_ret (results_tmp3 rfl _ _ _) rfl ?_
                  have hle := stopFold_le bs nx rt ref now l (j + 1)
                  rw [QST.out, RST.out] at hle
                  have h1 := of_decide_eq_true hfl
                  have e1 : stopF l bs nx rt ref now chk = ([], [], 2) := by unfold stopF; rw [if_neg (by rw [HOD.out]; decide), if_pos H0.out, if_pos HANY.out, if_pos (by simp only at hle; omega)]
                  obtain rfl : r1 = [] := by rw [E1.out, e1]
                  obtain rfl : r2 = [] := by rw [E2.out, e1]
                  obtain rfl : r3 = 2 := by rw [E3.out, e1]
                  exact ⟨_, _, rfl, Kd.V_nil _ _ _ _ _, Kd.V_nil _ _ _ _ _, S4.out.low⟩
          · have hjl : j = l.length := by have := QJ.out; omega
            subst hjl
            have hpp : p = stopFold bs nx rt ref now l := by rw [QP.out, List.take_length]
            have QPP := Lib.hid hpp
            have q1 := QS.out.c.c1
            clear hpp hlt
            go_wp2_with fail
            go_region_held3 (fun w' => w'.cell? ⟨gc, 1, none⟩ = some vr) (go_keep) (fail)
            go_wp2_with fail
            refine bodyPost_ret (results_tmp3 rfl _ _ _) rfl ?_
            have e1 : stopF l bs nx rt ref now chk = (p.1, p.2, 0) := by unfold stopF; rw [if_neg (by rw [HOD.out]; decide), if_pos H0.out, if_pos HANY.out, ← QPP.out, if_neg (by have := QF.out; omega)]
            obtain rfl : r1 = p.1 := by rw [E1.out, e1]
            obtain rfl : r2 = p.2 := by rw [E2.out, e1]
            obtain rfl : r3 = 0 := by rw [E3.out, e1]
            exact ⟨_, _, rfl, Kd.V_drew (Kd.R_V (Kd.R_mono (Kd.R_bound QS.out.x) (fun kk hk => hk.2.1))), Kd.V_drew (Kd.R_V (Kd.R_mono (Kd.R_bound QS.out.r) (fun kk hk => hk.2.1))), below_drew QS.out.low⟩
  · go_wp2_with fail
    refine bodyPost_ret (results_tmp3 rfl _ _ _) rfl ?_
    have e1 : stopF l bs nx rt ref now chk = ([], [], 1) := by unfold stopF; rw [if_pos hod]
    obtain rfl : r1 = [] := by rw [E1.out, e1]
    obtain rfl : r2 = [] := by rw [E2.out, e1]
    obtain rfl : r3 = 1 := by rw [E3.out, e1]
    exact ⟨_, _, rfl, Kd.V_nil _ _ _ _ _, Kd.V_nil _ _ _ _ _, B2.out⟩
end Go.Proofs.Ytbfhohpbldadbaa.P

namespace Go.Proofs.Ytbfhohpbldadbaa.P
open Go Go.RowKit Go.Proofs.YtbfhohpbldadbaaW.PrintWords Go.Proofs.YtbfhohpbldadbaaW.PrintLast Go.Proofs.YtbfhohpbldadbaaW.PrintMore
set_option linter.unusedVariables false
set_option linter.unusedSimpArgs false
theorem wr {n : Int} (h0 : -9223372036854775808 ≤ n) (h1 : n ≤ 9223372036854775807) : wrap64 n = n := by
  unfold wrap64; omega
/-- A tariff that Check lets in. -/
def goodB (bs : List S110) : Bool := decide (1 ≤ bs.length) && decide (bs.length ≤ 24) && decide ((rd_T110 bs 0).f0 = 0) && goodFrom 0 bs
def chkB (bs : List S110) : Int := if goodB bs = true then 0 else 260
theorem rd_at {bs : List S110} {i : Nat} (h : i < bs.length) : rd_T110 bs (i : Int) = bs[i] := by
  unfold rd_T110
  rw [Int.toNat_natCast]
  exact getD_at h z110
theorem within_eq (a b c : Int) : tariff_within.f a b c = some (decide (b ≤ a) && decide (a ≤ c)) := by
  unfold tariff_within.f
  split
  · next h => simp [h]
  · next h => simp [h]
theorem check_l0 (bs : List S110) (hl : bs.length ≤ 24) : ∀ (d i k : Nat) (least : Int), i + d = bs.length → 1 ≤ i → d < k → 0 ≤ least → least ≤ 86400 → tariff_Check.l0 k least bs (bs.length : Int) (i : Int) = some (if goodFrom least (bs.drop i) = true then 0 else 260)
  | 0, i, k + 1, least, hi, h1, hk, _, _ => by
    unfold tariff_Check.l0
    rw [if_neg (by omega), List.drop_of_length_le (by omega)]
    rfl
  | d + 1, i, k + 1, least, hi, h1, hk, hm0, hm1 => by
    have hlt : i < bs.length := by omega
    unfold tariff_Check.l0
    rw [if_pos (by omega), if_pos (by omega), if_pos (by omega), if_neg (by omega), List.drop_eq_getElem_cons hlt, rd_at hlt, within_eq, within_eq]
    simp only [Option.bind_some, goodFrom]
    by_cases c1 : least ≤ bs[i].f0
    · by_cases c2 : bs[i].f0 ≤ 86399
      · by_cases c3 : 0 ≤ bs[i].f1
        · by_cases c4 : bs[i].f1 ≤ 1000000
          · have ih := check_l0 bs hl d (i + 1) k (bs[i].f0 + 1) (by omega) (by omega) (by omega) (by omega) (by omega)
            simp only [c1, c2, c3, c4, decide_true, Bool.and_self, Bool.true_and, if_true]
            rw [wr (by omega) (by omega), wr (by omega) (by omega)]
            exact ih
          · simp [c1, c2, c3, c4]
        · simp [c1, c2, c3]
      · simp [c1, c2]
    · simp [c1]
theorem check_eq (bs : List S110) (k : Nat) (hk : 26 ≤ k) : tariff_Check.f k bs = some (chkB bs) := by
  unfold tariff_Check.f chkB goodB
  rw [within_eq]
  simp only [Option.bind_some]
  by_cases c0 : 1 ≤ bs.length
  · by_cases c1 : bs.length ≤ 24
    · obtain ⟨k, rfl⟩ : ∃ j, k = j + 1 := ⟨k - 1, by omega⟩
      have hlt : 0 < bs.length := c0
      unfold tariff_Check.l0
      have e0 : rd_T110 bs 0 = bs[0] := rd_at (i := 0) hlt
      rw [if_pos (by simp; omega), if_pos (by omega), if_pos (by omega), if_pos (by omega), if_pos rfl, e0, within_eq, within_eq]
      simp only [Option.bind_some]
      have hg : goodFrom 0 bs = (decide ((0 : Int) ≤ bs[0].f0) && decide (bs[0].f0 ≤ 86399) && decide ((0 : Int) ≤ bs[0].f1) && decide (bs[0].f1 ≤ 1000000) && goodFrom (bs[0].f0 + 1) (bs.drop 1)) := by
        cases bs with
        | nil => simp at hlt
        | cons b l => rfl
      rw [hg]
      by_cases z : bs[0].f0 = 0
      · by_cases c3 : (0 : Int) ≤ bs[0].f1
        · by_cases c4 : bs[0].f1 ≤ 1000000
          · have ih := check_l0 bs c1 (bs.length - 1) 1 k (bs[0].f0 + 1) (by omega) (by omega) (by omega) (by omega) (by omega)
            have w1 : wrap64 (bs[0].f0 + 1) = bs[0].f0 + 1 := wr (by omega) (by omega)
            have w2 : wrap64 (0 + 1) = ((1 : Nat) : Int) := wr (by omega) (by omega)
            rw [w1, w2, ih]
            simp [z, c0, c1, c3, c4]
          · simp [z, c3, c4]
        · simp [z, c3]
      · simp [z]
    · rw [if_neg (by simp; omega)]
      simp [c1]
  · rw [if_neg (by simp; omega)]
    simp [c0]
/-! ### The rate and the next change -/
def secOf (t : Int) : Int := t % 86400
def rtB (bs : List S110) (t : Int) : Int := (rd_T110 bs (bandIdx bs (secOf t))).f1
/-- The next band of another rate: s steps from band i of the day that begins at day. -/
def nxL (bs : List S110) (rate : Int) : Nat → Nat → Int → Int
  | 0, _, _ => 0
  | s + 1, i, day => if i + 1 = bs.length then (if (rd_T110 bs 0).f1 = rate then nxL bs rate s 0 (day + 86400) else day + 86400 + (rd_T110 bs 0).f0) else (if (rd_T110 bs ((i + 1 : Nat) : Int)).f1 = rate then nxL bs rate s (i + 1) day else day + (rd_T110 bs ((i + 1 : Nat) : Int)).f0)
def nxB (bs : List S110) (t : Int) : Int := nxL bs (rtB bs t) bs.length (bandIdx bs (secOf t)).toNat (t - secOf t)
theorem tmod_sec {t : Int} (h : 0 ≤ t) : Int.tmod t 86400 = secOf t := by
  unfold secOf; rw [Int.tmod_eq_emod_of_nonneg h]
theorem sec_range (t : Int) : 0 ≤ secOf t ∧ secOf t < 86400 := by unfold secOf; omega
theorem good_of_chk {bs : List S110} (h : chkB bs = 0) : 1 ≤ bs.length ∧ bs.length ≤ 24 ∧ (rd_T110 bs 0).f0 = 0 ∧ goodFrom 0 bs = true := by
  unfold chkB at h
  split at h
  · next hg => simp only [goodB, Bool.and_eq_true, decide_eq_true_eq] at hg; exact ⟨hg.1.1.1, hg.1.1.2, hg.1.2, hg.2⟩
  · cases h
theorem band_range {bs : List S110} (hl : 1 ≤ bs.length) (h0 : (rd_T110 bs 0).f0 = 0) {s : Int} (hs : 0 ≤ s) : 0 ≤ bandIdx bs s ∧ bandIdx bs s < bs.length := by
  cases bs with
  | nil => simp at hl
  | cons b l =>
    have hb : b.f0 = 0 := h0
    have h1 : ((b :: l).takeWhile fun b => decide (b.f0 ≤ s)).length ≤ (b :: l).length := (List.takeWhile_sublist _).length_le
    have h2 : 1 ≤ ((b :: l).takeWhile fun b => decide (b.f0 ≤ s)).length := by
      rw [List.takeWhile_cons, if_pos (by simp; omega)]; simp
    unfold bandIdx
    omega
/-- The bands behind the one of a second begin later. -/
theorem band_later {bs : List S110} (hg : goodFrom 0 bs = true) {s : Int} : ∀ j (hj : j < bs.length), bandIdx bs s < (j : Int) → s < bs[j].f0 := fun j hj hlt => by
  have hk : ((bs.takeWhile fun b => decide (b.f0 ≤ s)).length) ≤ j := by unfold bandIdx at hlt; omega
  obtain ⟨q, hq⟩ : ∃ q, q = (bs.takeWhile fun b => decide (b.f0 ≤ s)).length := ⟨_, rfl⟩
  rw [← hq] at hk
  have hql : q < bs.length := by omega
  have hno : ¬ bs[q].f0 ≤ s := by
    have h := List.takeWhile_append_dropWhile (p := fun b : S110 => decide (b.f0 ≤ s)) (l := bs)
    have hd : bs.dropWhile (fun b => decide (b.f0 ≤ s)) ≠ [] := by
      intro e
      have := congrArg List.length h
      rw [e, List.append_nil] at this
      omega
    have hf := List.head_dropWhile_not (fun b : S110 => decide (b.f0 ≤ s)) hd
    have he : (bs.dropWhile fun b => decide (b.f0 ≤ s)).head hd = bs[q] := by
      have e2 : bs[q]? = some ((bs.dropWhile fun b => decide (b.f0 ≤ s)).head hd) := by
        conv => lhs; rw [← h]
        rw [List.getElem?_append_right (by omega), hq, Nat.sub_self, ← List.head?_eq_getElem?, List.head?_eq_some_head hd]
      rw [List.getElem?_eq_getElem hql] at e2
      exact (Option.some.inj e2).symm
    rw [he] at hf
    simpa using hf
  rcases Nat.lt_or_eq_of_le hk with h | h
  · have := good_sorted bs 0 hg q j hj h
    omega
  · subst h; omega
theorem rate_eq {bs : List S110} (hc : chkB bs = 0) {k : Nat} (hk : 26 ≤ k) {t : Int} (h0 : 0 ≤ t) (h1 : t ≤ 1099511627776) : tariff_Rate.f k bs t = some (rtB bs t, 0) := by
  obtain ⟨g1, g2, g3, g4⟩ := good_of_chk hc
  obtain ⟨s0, s1⟩ := sec_range t
  obtain ⟨b0, b1⟩ := band_range g1 g3 s0
  unfold tariff_Rate.f
  rw [check_eq bs k hk, hc, Option.bind_some, if_pos rfl, within_eq, Option.bind_some, if_pos (by simp; omega), tmod_sec h0]
  unfold tariff_band.f
  rw [if_pos ⟨g4, g2, s0, s1⟩, Option.bind_some, if_pos b0, if_pos b1]
  rfl
/-- The walk of Change's loop: it finds what nxL finds, if a band of another rate is met within s steps. -/
theorem change_l0 (bs : List S110) (rate : Int) (h24 : bs.length ≤ 24) (hb : ∀ j (h : j < bs.length), 0 ≤ bs[j].f0 ∧ bs[j].f0 ≤ 86399) : ∀ (s i k : Nat) (day cnt : Int), i < bs.length → s < k → cnt + s = bs.length → 0 ≤ cnt → 0 ≤ day → day + 86400 * s ≤ 2000000000000 →
    (∃ j, j < s ∧ (rd_T110 bs (((i + 1 + j) % bs.length : Nat) : Int)).f1 ≠ rate) → tariff_Change.l0 k 0 rate (bs.length : Int) (i : Int) day (bs.length : Int) cnt bs = some (nxL bs rate s i day, true, 0)
  | 0, i, k, day, cnt, _, _, _, _, _, _, hw => by obtain ⟨j, hj, _⟩ := hw; omega
  | s + 1, i, k + 1, day, cnt, hi, hk, hcnt, hc0, hd, hday, hw => by
    obtain ⟨j, hj, hne⟩ := hw
    unfold tariff_Change.l0 nxL
    rw [if_pos (by omega), wr (n := (i : Int) + 1) (by omega) (by omega)]
    by_cases hwrap : i + 1 = bs.length
    · rw [if_pos (by omega), if_pos (by omega), if_pos hwrap]
      have e0 : rd_T110 bs 0 = bs[0]'(by omega) := rd_at (i := 0) (by omega)
      by_cases hr : (rd_T110 bs 0).f1 = rate
      · rw [if_pos hr, if_pos hr, wr (n := day + 86400) (by omega) (by omega), wr (n := cnt + 1) (by omega) (by omega)]
        refine change_l0 bs rate h24 hb s 0 k (day + 86400) (cnt + 1) (by omega) (by omega) (by omega) (by omega) (by omega) (by omega) ?_
        cases j with
        | zero => rw [Nat.add_zero, hwrap, Nat.mod_self] at hne; exact absurd hr hne
        | succ j => exact ⟨j, by omega, by rw [show i + 1 + (j + 1) = (0 + 1 + j) + bs.length from by omega, Nat.add_mod_right] at hne; exact hne⟩
      · rw [if_neg hr, if_neg hr]
        have hb0 := hb 0 (by omega)
        rw [← e0] at hb0
        rw [wr (n := day + 86400) (by omega) (by omega), wr (by omega) (by omega)]
    · rw [if_neg (by omega), if_pos (by omega), if_pos (by omega), if_neg hwrap]
      have ec : ((i : Int) + 1) = ((i + 1 : Nat) : Int) := by omega
      rw [ec]
      by_cases hr : (rd_T110 bs ((i + 1 : Nat) : Int)).f1 = rate
      · rw [if_pos hr, if_pos hr, wr (n := cnt + 1) (by omega) (by omega)]
        refine change_l0 bs rate h24 hb s (i + 1) k day (cnt + 1) (by omega) (by omega) (by omega) (by omega) (by omega) (by omega) ?_
        cases j with
        | zero => rw [Nat.add_zero, Nat.mod_eq_of_lt (by omega)] at hne; exact absurd hr hne
        | succ j => exact ⟨j, by omega, by rw [show i + 1 + (j + 1) = i + 1 + 1 + j from by omega] at hne; exact hne⟩
      · rw [if_neg hr, if_neg hr]
        have hb1 := hb (i + 1) (by omega)
        rw [← rd_at (by omega)] at hb1
        rw [wr (by omega) (by omega)]
/-- What nxL finds lies behind the second at which it began. -/
theorem nxL_up (bs : List S110) (rate : Int) {day0 sec : Int} {i0 : Nat} (hsec : sec < 86400) (hlater : ∀ j (hj : j < bs.length), i0 < j → sec < bs[j].f0) (hb : ∀ j (h : j < bs.length), 0 ≤ bs[j].f0 ∧ bs[j].f0 ≤ 86399) : ∀ (s i : Nat) (day : Int), i < bs.length → (day0 + 86400 ≤ day ∨ (day = day0 ∧ i0 ≤ i)) →
    (∃ j, j < s ∧ (rd_T110 bs (((i + 1 + j) % bs.length : Nat) : Int)).f1 ≠ rate) → day0 + sec < nxL bs rate s i day
  | 0, i, day, _, _, hw => by obtain ⟨j, hj, _⟩ := hw; omega
  | s + 1, i, day, hi, hday, hw => by
    obtain ⟨j, hj, hne⟩ := hw
    unfold nxL
    by_cases hwrap : i + 1 = bs.length
    · rw [if_pos hwrap]
      by_cases hr : (rd_T110 bs 0).f1 = rate
      · rw [if_pos hr]
        refine nxL_up bs rate hsec hlater hb s 0 (day + 86400) (by omega) (.inl (by omega)) ?_
        cases j with
        | zero => rw [Nat.add_zero, hwrap, Nat.mod_self] at hne; exact absurd hr hne
        | succ j => exact ⟨j, by omega, by rw [show i + 1 + (j + 1) = (0 + 1 + j) + bs.length from by omega, Nat.add_mod_right] at hne; exact hne⟩
      · rw [if_neg hr]
        have e0 : rd_T110 bs 0 = bs[0]'(by omega) := rd_at (i := 0) (by omega)
        have hb0 := hb 0 (by omega)
        rw [← e0] at hb0
        omega
    · rw [if_neg hwrap]
      by_cases hr : (rd_T110 bs ((i + 1 : Nat) : Int)).f1 = rate
      · rw [if_pos hr]
        refine nxL_up bs rate hsec hlater hb s (i + 1) day (by omega) (hday.imp id (fun h => ⟨h.1, by omega⟩)) ?_
        cases j with
        | zero => rw [Nat.add_zero, Nat.mod_eq_of_lt (by omega)] at hne; exact absurd hr hne
        | succ j => exact ⟨j, by omega, by rw [show i + 1 + (j + 1) = i + 1 + 1 + j from by omega] at hne; exact hne⟩
      · rw [if_neg hr]
        have e1 : rd_T110 bs ((i + 1 : Nat) : Int) = bs[i + 1]'(by omega) := rd_at (by omega)
        have hb1 := hb (i + 1) (by omega)
        rw [← e1] at hb1
        rcases hday with h | ⟨h, h2⟩
        · omega
        · have := hlater (i + 1) (by omega) (by omega)
          rw [← e1] at this
          omega
/-- In a tariff of several rates a band of another rate is met within a day's steps. -/
theorem meets {bs : List S110} (hf : flatB bs = false) (hl : 1 ≤ bs.length) (rate : Int) (i : Nat) : ∃ j, j < bs.length ∧ (rd_T110 bs (((i + 1 + j) % bs.length : Nat) : Int)).f1 ≠ rate := by
  obtain ⟨q, hq, hne⟩ : ∃ q, q < bs.length ∧ (rd_T110 bs (q : Int)).f1 ≠ rate := by
    unfold flatB at hf
    simp only [Bool.not_eq_false', List.any_eq_true] at hf
    obtain ⟨b, hb, hbr⟩ := hf
    obtain ⟨q, hq, rfl⟩ := List.mem_iff_getElem.1 hb
    by_cases h0 : (rd_T110 bs 0).f1 = rate
    · refine ⟨q, hq, ?_⟩
      rw [rd_at hq, ← h0]
      simpa [rateNe] using hbr
    · exact ⟨0, by omega, h0⟩
  refine ⟨(q + bs.length - (i + 1) % bs.length) % bs.length, Nat.mod_lt _ (by omega), ?_⟩
  have hm : (i + 1) % bs.length < bs.length := Nat.mod_lt _ (by omega)
  have e : (i + 1 + (q + bs.length - (i + 1) % bs.length) % bs.length) % bs.length = q := by
    have hd := Nat.div_add_mod (i + 1) bs.length
    rw [Nat.add_mod_mod, show i + 1 + (q + bs.length - (i + 1) % bs.length) = q + bs.length * ((i + 1) / bs.length + 1) from by rw [Nat.mul_add, Nat.mul_one]; omega, Nat.add_mul_mod_self_left, Nat.mod_eq_of_lt hq]
  rw [e]; exact hne
theorem good_bounds {bs : List S110} (hg : goodFrom 0 bs = true) : ∀ j (h : j < bs.length), 0 ≤ bs[j].f0 ∧ bs[j].f0 ≤ 86399 := fun j h => by
  have := good_at bs 0 hg j h
  exact ⟨this.1, this.2.1⟩
theorem change_eq {bs : List S110} (hc : chkB bs = 0) (hf : flatB bs = false) {k : Nat} (hk : 26 ≤ k) {t : Int} (h0 : 0 ≤ t) (h1 : t ≤ 1099511627776) : tariff_Change.f k bs t = some (nxB bs t, true, 0) ∧ t < nxB bs t := by
  obtain ⟨g1, g2, g3, g4⟩ := good_of_chk hc
  obtain ⟨s0, s1⟩ := sec_range t
  obtain ⟨b0, b1⟩ := band_range g1 g3 s0
  obtain ⟨i, hi⟩ : ∃ i : Nat, bandIdx bs (secOf t) = (i : Int) := ⟨(bandIdx bs (secOf t)).toNat, by omega⟩
  have hin : (bandIdx bs (secOf t)).toNat = i := by omega
  have hst : 0 ≤ t - secOf t := by unfold secOf; omega
  have hmt := meets hf g1 (rtB bs t) i
  constructor
  · unfold tariff_Change.f
    rw [rate_eq hc hk h0 h1, Option.bind_some, if_pos rfl, tmod_sec h0]
    unfold tariff_band.f
    rw [if_pos ⟨g4, g2, s0, s1⟩, Option.bind_some, wr (by omega) (by omega)]
    unfold nxB
    rw [hin, hi]
    exact change_l0 bs (rtB bs t) g2 (good_bounds g4) bs.length i k (t - secOf t) 0 (by omega) (by omega) (by omega) (by omega) hst (by omega) hmt
  · have h := nxL_up bs (rtB bs t) (day0 := t - secOf t) (sec := secOf t) (i0 := i) s1 (fun j hj hlt => band_later g4 j hj (by rw [hi]; omega)) (good_bounds g4) bs.length i (t - secOf t) (by omega) (.inr ⟨rfl, Nat.le_refl _⟩) hmt
    unfold nxB
    rw [hin]
    omega
theorem tar_of {bs : List S110} (hc : chkB bs = 0) {k : Nat} (hk : 26 ≤ k) : Tar k bs (nxB bs) (rtB bs) :=
  ⟨(good_of_chk hc).1, fun t h0 h1 => rate_eq hc hk h0 h1, fun hf t h0 h1 => (change_eq hc hf hk h0 h1).1, fun hf t h0 h1 => (change_eq hc hf hk h0 h1).2⟩
end Go.Proofs.Ytbfhohpbldadbaa.P

namespace Go.Proofs.Ytbfhohpbldadbaa.P
open Go Go.RowKit Go.Proofs.YtbfhohpbldadbaaW.PrintWords Go.Proofs.YtbfhohpbldadbaaW.PrintLast Go.Proofs.YtbfhohpbldadbaaW.PrintMore
set_option linter.unusedVariables false
set_option linter.unusedSimpArgs false
theorem band_at {bs : List S110} (hg : goodFrom 0 bs = true) {s : Int} {i : Nat} (hi : i < bs.length) (h0 : bs[i].f0 ≤ s) (h1 : ∀ h : i + 1 < bs.length, s < bs[i + 1].f0) : bandIdx bs s = (i : Int) := by
  have h := takeWhile_len (p := fun b : S110 => decide (b.f0 ≤ s)) bs (i + 1) (by omega) (fun k hk hlt => by
    have : bs[k].f0 ≤ bs[i].f0 := by
      rcases Nat.lt_or_eq_of_le (Nat.lt_succ_iff.1 hlt) with h | h
      · have := good_sorted bs 0 hg k i hi h; omega
      · subst h; exact Int.le_refl _
    simp only [decide_eq_true_eq]; omega) (fun h => by simp only [decide_eq_false_iff_not]; have := h1 h; omega)
  unfold bandIdx
  rw [h]
  omega
theorem band_start {bs : List S110} {s : Int} {i : Nat} (hi : i < bs.length) (hb : bandIdx bs s = (i : Int)) : bs[i].f0 ≤ s := by
  have hq : (bs.takeWhile fun b => decide (b.f0 ≤ s)).length = i + 1 := by unfold bandIdx at hb; omega
  have hlt : i < (bs.takeWhile fun b => decide (b.f0 ≤ s)).length := by omega
  have hm := List.getElem_mem hlt
  have hp := List.all_eq_true.1 (List.all_takeWhile (p := fun b : S110 => decide (b.f0 ≤ s)) (l := bs)) _ hm
  have he : (bs.takeWhile fun b => decide (b.f0 ≤ s))[i] = bs[i] := by
    have := (List.takeWhile_prefix (p := fun b : S110 => decide (b.f0 ≤ s)) (l := bs)).getElem hlt
    exact this
  rw [he] at hp
  simpa using hp
/-- The second of a day's band. -/
theorem rt_seg {bs : List S110} (hc : chkB bs = 0) {day u : Int} {i : Nat} (hi : i < bs.length) (hd : day % 86400 = 0) (h0 : day + bs[i].f0 ≤ u) (h1 : u < day + 86400) (h2 : ∀ h : i + 1 < bs.length, u < day + bs[i + 1].f0) : rtB bs u = bs[i].f1 := by
  obtain ⟨g1, g2, g3, g4⟩ := good_of_chk hc
  have hb := good_at bs 0 g4 i hi
  have hs : secOf u = u - day := by unfold secOf; omega
  have hband := band_at g4 hi (s := secOf u) (by rw [hs]; omega) (fun h => by rw [hs]; have := h2 h; omega)
  unfold rtB
  rw [hband, rd_at hi]
theorem nxL_const {bs : List S110} (hc : chkB bs = 0) (rate : Int) : ∀ (s i : Nat) (day : Int), (hi : i < bs.length) → day % 86400 = 0 → bs[i].f1 = rate → ∀ u, day + bs[i].f0 ≤ u → u < nxL bs rate s i day → 0 ≤ day → (∃ j, j < s ∧ (rd_T110 bs (((i + 1 + j) % bs.length : Nat) : Int)).f1 ≠ rate) → rtB bs u = rate
  | 0, i, day, hi, hd, hr, u, h0, h1, hday, hw => by obtain ⟨j, hj, _⟩ := hw; omega
  | s + 1, i, day, hi, hd, hr, u, h0, h1, hday, hw => by
    obtain ⟨g1, g2, g3, g4⟩ := good_of_chk hc
    obtain ⟨j, hj, hne⟩ := hw
    unfold nxL at h1
    have hb := good_at bs 0 g4 i hi
    by_cases hwrap : i + 1 = bs.length
    · rw [if_pos hwrap] at h1
      have e0 : rd_T110 bs 0 = bs[0]'(by omega) := rd_at (i := 0) (by omega)
      by_cases hu : u < day + 86400
      · rw [← hr]; exact rt_seg hc hi hd h0 hu (fun h => by omega)
      · by_cases hr2 : (rd_T110 bs 0).f1 = rate
        · rw [if_pos hr2] at h1
          refine nxL_const hc rate s 0 (day + 86400) (by omega) (by omega) (by rw [← e0]; exact hr2) u (by rw [← e0, g3]; omega) h1 (by omega) ?_
          cases j with
          | zero => rw [Nat.add_zero, hwrap, Nat.mod_self] at hne; exact absurd hr2 hne
          | succ j => exact ⟨j, by omega, by rw [show i + 1 + (j + 1) = (0 + 1 + j) + bs.length from by omega, Nat.add_mod_right] at hne; exact hne⟩
        · rw [if_neg hr2, g3] at h1; omega
    · rw [if_neg hwrap] at h1
      have hi1 : i + 1 < bs.length := by omega
      have e1 : rd_T110 bs ((i + 1 : Nat) : Int) = bs[i + 1] := rd_at hi1
      have hb1 := good_at bs 0 g4 (i + 1) hi1
      by_cases hu : u < day + bs[i + 1].f0
      · rw [← hr]; exact rt_seg hc hi hd h0 (by omega) (fun _ => hu)
      · by_cases hr2 : (rd_T110 bs ((i + 1 : Nat) : Int)).f1 = rate
        · rw [if_pos hr2] at h1
          refine nxL_const hc rate s (i + 1) day hi1 hd (by rw [← e1]; exact hr2) u (by omega) h1 hday ?_
          cases j with
          | zero => rw [Nat.add_zero, Nat.mod_eq_of_lt (by omega)] at hne; exact absurd hr2 hne
          | succ j => exact ⟨j, by omega, by rw [show i + 1 + (j + 1) = i + 1 + 1 + j from by omega] at hne; exact hne⟩
        · rw [if_neg hr2, e1] at h1; omega
/-- The rate is constant up to the next change. -/
theorem rt_const {bs : List S110} (hc : chkB bs = 0) (hf : flatB bs = false) {t u : Int} (h0 : 0 ≤ t) (h1 : t ≤ u) (h2 : u < nxB bs t) : rtB bs u = rtB bs t := by
  obtain ⟨g1, g2, g3, g4⟩ := good_of_chk hc
  obtain ⟨s0, s1⟩ := sec_range t
  obtain ⟨b0, b1⟩ := band_range g1 g3 s0
  obtain ⟨i, hi⟩ : ∃ i : Nat, bandIdx bs (secOf t) = (i : Int) := ⟨(bandIdx bs (secOf t)).toNat, by omega⟩
  have hin : (bandIdx bs (secOf t)).toNat = i := by omega
  have hlt : i < bs.length := by omega
  have hst := band_start hlt hi
  unfold nxB at h2
  rw [hin] at h2
  refine nxL_const hc (rtB bs t) bs.length i (t - secOf t) hlt (by unfold secOf; omega) ?_ u (by omega) h2 (by unfold secOf; omega) (meets hf g1 (rtB bs t) i)
  unfold rtB
  rw [hi, rd_at hlt]
theorem rt_flat {bs : List S110} (hc : chkB bs = 0) (hf : flatB bs = true) (t u : Int) : rtB bs u = rtB bs t := by
  obtain ⟨g1, g2, g3, g4⟩ := good_of_chk hc
  have h : ∀ t, rtB bs t = (rd_T110 bs 0).f1 := fun t => by
    obtain ⟨s0, s1⟩ := sec_range t
    obtain ⟨b0, b1⟩ := band_range g1 g3 s0
    obtain ⟨i, hi⟩ : ∃ i : Nat, bandIdx bs (secOf t) = (i : Int) := ⟨(bandIdx bs (secOf t)).toNat, by omega⟩
    unfold rtB
    rw [hi, rd_at (by omega)]
    unfold flatB at hf
    simp only [Bool.not_eq_true', List.any_eq_false] at hf
    have := hf bs[i] (List.getElem_mem (by omega))
    simpa [rateNe] using this
  rw [h u, h t]
end Go.Proofs.Ytbfhohpbldadbaa.P

namespace Go.Proofs.Ytbfhohpbldadbaa.P
open Go Go.RowKit Go.Proofs.YtbfhohpbldadbaaW.PrintWords Go.Proofs.YtbfhohpbldadbaaW.PrintLast Go.Proofs.YtbfhohpbldadbaaW.PrintMore
set_option linter.unusedVariables false
set_option linter.unusedSimpArgs false
def meter_Start.f (l0 : List (S33)) (a1_0 : Int) (a1_1 : Int) (a1_2 : Int) (a1_3 : ByteArray) (a1_4 : Int) : Option ((List (S33)) × Int) := some (startF l0 ⟨a1_0, a1_1, a1_2, a1_3, a1_4⟩)
theorem meter_Start.calls (A0 : Option Addr) (c0 : Nat) (l0 : List (S33)) (a1_0 : Int) (a1_1 : Int) (a1_2 : Int) (a1_3 : ByteArray) (a1_4 : Int) (r1 : List (S33)) (r2 : Int) (w : World) (hr0 : Kd.C k33 w A0 l0.length l0) (hc0 : l0.length ≤ c0) (h : meter_Start.f l0 a1_0 a1_1 a1_2 a1_3 a1_4 = some (r1, r2)) :
    Calls Try.prog 23 #[.slice A0 l0.length c0, .agg #[.int .i64 a1_0, .int .i64 a1_1, .int .i64 a1_2, .string a1_3, .int .i64 a1_4]] w fun e w' => ∃ v0_ : Value, e = .returned (.tuple #[v0_, .int .i64 r2]) ∧ Kd.V k33 33 w' w.heap.size (fun k_ => (w.heap.size ≤ k_)) v0_ r1 ∧ Below w.heap.size w w' := by
  have h' : startF l0 ⟨a1_0, a1_1, a1_2, a1_3, a1_4⟩ = (r1, r2) := Option.some.inj h
  refine (start_calls A0 c0 l0 ⟨a1_0, a1_1, a1_2, a1_3, a1_4⟩ w hr0).mono ?_
  rw [h']
  rintro e w' ⟨v, he, hR, hb⟩
  exact ⟨v, he, Kd.R_V (Kd.R_mono (Kd.R_bound hR) (fun kk hk => hk.2.1)), hb⟩
def meter_Advance.f (l0 : List (S33)) (l1_0 : List (S110)) (a2 : Int) : Option ((List (S33)) × (List (S39)) × Int) := if l0.length ≤ 1000000 then some (advanceF l0 l1_0 (nxB l1_0) (rtB l1_0) a2 (chkB l1_0)) else none
theorem meter_Advance.calls (A0 : Option Addr) (c0 : Nat) (l0 : List (S33)) (A1_0 : Option Addr) (c1_0 : Nat) (l1_0 : List (S110)) (a2 : Int) (r1 : List (S33)) (r2 : List (S39)) (r3 : Int) (w : World) (hr0 : Kd.C k33 w A0 l0.length l0) (hc0 : l0.length ≤ c0) (hr1_0 : Kd.C k110 w A1_0 l1_0.length l1_0) (hc1_0 : l1_0.length ≤ c1_0) (h : meter_Advance.f l0 l1_0 a2 = some (r1, r2, r3)) :
    Calls Try.prog 25 #[.slice A0 l0.length c0, .agg #[.slice A1_0 l1_0.length c1_0], .int .i64 a2] w fun e w' => ∃ v0_ v1_ : Value, e = .returned (.tuple #[v0_, v1_, .int .i64 r3]) ∧ Kd.V k33 33 w' w.heap.size (fun k_ => (w.heap.size ≤ k_)) v0_ r1 ∧ Kd.V k39 39 w' w.heap.size (fun k_ => (w.heap.size ≤ k_)) v1_ r2 ∧ Below w.heap.size w w' := by
  unfold meter_Advance.f at h
  split at h
  · next hl =>
    have h' := Option.some.inj h
    have hc := Advance_calls A0 c0 l0 A1_0 c1_0 l1_0 (nxB l1_0) (rtB l1_0) a2 (chkB l1_0) 30 w hr0 hr1_0 hc1_0 (check_eq l1_0 30 (by omega)) (fun hz => tar_of hz (by omega)) hl
    rw [h'] at hc
    exact hc
  · cases h
def meter_Stop.f (l0 : List (S33)) (l1_0 : List (S110)) (a2 : Int) (a3 : Int) : Option ((List (S33)) × (List (S39)) × Int) := if l0.length ≤ 1000000 then some (stopF l0 l1_0 (nxB l1_0) (rtB l1_0) a2 a3 (chkB l1_0)) else none
theorem meter_Stop.calls (A0 : Option Addr) (c0 : Nat) (l0 : List (S33)) (A1_0 : Option Addr) (c1_0 : Nat) (l1_0 : List (S110)) (a2 : Int) (a3 : Int) (r1 : List (S33)) (r2 : List (S39)) (r3 : Int) (w : World) (hr0 : Kd.C k33 w A0 l0.length l0) (hc0 : l0.length ≤ c0) (hr1_0 : Kd.C k110 w A1_0 l1_0.length l1_0) (hc1_0 : l1_0.length ≤ c1_0) (h : meter_Stop.f l0 l1_0 a2 a3 = some (r1, r2, r3)) :
    Calls Try.prog 19 #[.slice A0 l0.length c0, .agg #[.slice A1_0 l1_0.length c1_0], .int .i64 a2, .int .i64 a3] w fun e w' => ∃ v0_ v1_ : Value, e = .returned (.tuple #[v0_, v1_, .int .i64 r3]) ∧ Kd.V k33 33 w' w.heap.size (fun k_ => (w.heap.size ≤ k_)) v0_ r1 ∧ Kd.V k39 39 w' w.heap.size (fun k_ => (w.heap.size ≤ k_)) v1_ r2 ∧ Below w.heap.size w w' := by
  unfold meter_Stop.f at h
  split at h
  · next hl =>
    have h' := Option.some.inj h
    have hc := Stop_calls A0 c0 l0 A1_0 c1_0 l1_0 (nxB l1_0) (rtB l1_0) a2 a3 (chkB l1_0) 30 w hr0 hr1_0 hc1_0 (check_eq l1_0 30 (by omega)) (fun hz => tar_of hz (by omega)) hl
    rw [h'] at hc
    exact hc
  · cases h
end Go.Proofs.Ytbfhohpbldadbaa.P

namespace Go.Proofs.Ytbfhohpbldadbaa.P
open Go Go.RowKit Go.Proofs.YtbfhohpbldadbaaW.PrintWords Go.Proofs.YtbfhohpbldadbaaW.PrintLast Go.Proofs.YtbfhohpbldadbaaW.PrintMore
set_option linter.unusedVariables false
set_option linter.unusedSimpArgs false
theorem at33 {bs : List S33} {i : Nat} (h : i < bs.length) : rd_T33 bs (i : Int) = bs[i] := by
  unfold rd_T33
  rw [Int.toNat_natCast]
  exact getD_at h z33
theorem inc {i : Nat} (h : i ≤ 1000000) : wrap64 ((i : Int) + 1) = ((i + 1 : Nat) : Int) := by
  rw [wr (by omega) (by omega)]; omega
theorem has_l0 (l : List S33) (hl : l.length ≤ 1000000) (m : S33) : ∀ (d i k : Nat), i + d = l.length → d < k → crossbarref27_has.l0 k l (i : Int) m.f0 m.f1 m.f2 m.f3 m.f4 = some ((l.drop i).any (sameM m))
  | 0, i, k + 1, hi, hk => by
    unfold crossbarref27_has.l0
    rw [if_neg (by omega), List.drop_of_length_le (by omega)]
    rfl
  | d + 1, i, k + 1, hi, hk => by
    have hlt : i < l.length := by omega
    have ih := has_l0 l hl m d (i + 1) k (by omega) (by omega)
    unfold crossbarref27_has.l0
    rw [if_pos (by omega), if_pos (by omega), at33 hlt, inc (by omega), ih, List.drop_eq_getElem_cons hlt]
    simp only [List.any_cons, sameM]
    by_cases h0 : l[i].f0 = m.f0
    · by_cases h1 : l[i].f1 = m.f1
      · rw [if_pos h0, if_pos h1]; simp [h0, h1]
      · rw [if_pos h0, if_neg h1]; simp [h1, sameM]
    · rw [if_neg h0]; simp [h0, sameM]
theorem has_eq (l : List S33) (hl : l.length ≤ 1000000) (m : S33) {k : Nat} (hk : l.length < k) : crossbarref27_has.f k l m.f0 m.f1 m.f2 m.f3 m.f4 = some (l.any (sameM m)) := by
  unfold crossbarref27_has.f
  have h := has_l0 l hl m l.length 0 k (by omega) hk
  simpa using h
theorem time27_eq (a : Int) : crossbarref27_time.f a = some (!oddT a) := by
  unfold crossbarref27_time.f oddT
  by_cases h : a ≥ 0
  · rw [if_pos h]
    simp only [Option.some.injEq]
    rw [Bool.eq_iff_iff]
    simp
    omega
  · rw [if_neg h]
    simp
    omega
theorem only_l0 (s : ByteArray) (hl : s.size ≤ 1000000) : ∀ (d i k : Nat), i + d = s.size → d < k → crossbarref06_Only.l0 k s (i : Int) = some ((List.range' i d).all (dgB s))
  | 0, i, k + 1, hi, hk => by
    unfold crossbarref06_Only.l0
    rw [if_neg (by omega)]
    rfl
  | d + 1, i, k + 1, hi, hk => by
    have ih := only_l0 s hl d (i + 1) k (by omega) (by omega)
    unfold crossbarref06_Only.l0
    rw [if_pos (by omega), if_pos (by omega), inc (by omega), ih, List.range'_succ]
    simp only [List.all_cons, dgB]
    show (if bt s ((i : Int)).toNat < 48 then _ else _) = _
    rw [Int.toNat_natCast]
    by_cases h0 : bt s i < 48
    · rw [if_pos h0]
      have : ¬ 48 ≤ bt s i := by omega
      simp [this]
    · rw [if_neg h0]
      by_cases h1 : bt s i > 57
      · rw [if_pos h1]
        have : ¬ bt s i ≤ 57 := by omega
        simp [this]
      · rw [if_neg h1]
        have h3 : 48 ≤ bt s i := by omega
        have h4 : bt s i ≤ 57 := by omega
        simp [h3, h4, dgB]
theorem loop_len (s : ByteArray) : ∀ (d i : Nat) (r : List UInt8), i + d = s.size → (ByteArray.toList.loop s i r).length = r.length + d
  | 0, i, r, h => by
    rw [ByteArray.toList.loop, if_neg (by omega), List.length_reverse]
    rfl
  | d + 1, i, r, h => by
    rw [ByteArray.toList.loop, if_pos (by omega), loop_len s d (i + 1) _ (by omega), List.length_cons]
    omega
theorem toList_len (s : ByteArray) : s.toList.length = s.size := by
  have h := loop_len s s.size 0 [] (by omega)
  rw [List.length_nil, Nat.zero_add] at h
  exact h
theorem only_eq (s : ByteArray) {k : Nat} (hk : 20 ≤ k) : crossbarref06_Only.f k s 0 15 = some (s.toList.isEmpty || numB s) := by
  obtain ⟨k, rfl⟩ : ∃ j, k = j + 1 := ⟨k - 1, by omega⟩
  have he : s.toList.isEmpty = decide (s.size = 0) := by
    have := toList_len s
    cases hx : s.toList with
    | nil => rw [hx] at this; simp at this; simp [← this]
    | cons a b => rw [hx, List.length_cons] at this; rw [List.isEmpty_cons, decide_eq_false (show ¬ s.size = 0 by omega)]
  unfold crossbarref06_Only.f
  rw [if_neg (by omega), crossbarref06_Only.j0]
  by_cases h : s.size ≤ 15
  · have hd : decide ((s.size : Int) > 15) = false := by simp; omega
    rw [hd, if_neg (by simp), show (0 : Int) = ((0 : Nat) : Int) from rfl, only_l0 s (by omega) s.size 0 k (by omega) (by omega), he]
    unfold numB digB
    rw [List.range_eq_range']
    by_cases hz : s.size = 0
    · simp [hz]
    · have : 1 ≤ s.size := by omega
      simp [h, hz, this]
  · have hd : decide ((s.size : Int) > 15) = true := by simp; omega
    rw [hd, if_pos rfl, he]
    unfold numB
    have : ¬ s.size = 0 := by omega
    simp [h, this]
theorem hasK_any (m : S33) (l : List S33) : hasK (kM m) (l.map kM) = l.any (sameM m) := by
  induction l with
  | nil => rfl
  | cons a l ih =>
    have e : hasK (kM m) ((a :: l).map kM) = (((kM m).1 == (kM a).1 && (kM m).2 == (kM a).2) || hasK (kM m) (l.map kM)) := by simp [hasK]
    rw [e, ih, List.any_cons]
    congr 1
    show (m.f0 == a.f0 && m.f1 == a.f1) = (a.f0 == m.f0 && a.f1 == m.f1)
    rw [BEq.comm (a := m.f0), BEq.comm (a := m.f1)]
theorem valid_l0 (l : List S33) (hl : l.length ≤ 1000) : ∀ (d i k : Nat), i + d = l.length → 2 * d + 1100 < k → crossbarref27_Valid.l0 k l (i : Int) = some (validFrom ((l.take i).map kM) (l.drop i))
  | 0, i, k + 1, hi, hk => by
    unfold crossbarref27_Valid.l0
    rw [if_neg (by omega), List.drop_of_length_le (by omega)]
    rfl
  | d + 1, i, k + 2, hi, hk => by
    have hlt : i < l.length := by omega
    have ih := valid_l0 l hl d (i + 1) k (by omega) (by omega)
    have hj : ∀ b, crossbarref27_Valid.j1 (k + 1) l (i : Int) b l[i].f0 l[i].f1 l[i].f2 l[i].f3 l[i].f4 = some (!b && (!hasK (kM l[i]) ((l.take i).map kM) && validFrom ((l.take (i + 1)).map kM) (l.drop (i + 1)))) := by
      intro b
      unfold crossbarref27_Valid.j1
      cases b
      · rw [if_neg (by simp), if_pos (by omega), if_pos (by omega), Int.toNat_natCast, has_eq _ (by rw [List.length_take]; omega) l[i] (by rw [List.length_take]; omega), Option.bind_some, inc (by omega), ih, hasK_any]
        cases (l.take i).any (sameM l[i]) <;> simp
      · rw [if_pos rfl]; rfl
    unfold crossbarref27_Valid.l0
    rw [if_pos (by omega), if_pos (by omega), at33 hlt, List.drop_eq_getElem_cons hlt]
    simp only [hj, time27_eq, Option.bind_some, only_eq l[i].f3 (show 20 ≤ k + 1 by omega), validFrom, take_keys hlt, okOne]
    generalize validFrom _ _ = V
    generalize hasK _ _ = H
    generalize (l[i].f3.toList.isEmpty || numB l[i].f3) = P
    generalize oddT l[i].f0 = o0
    generalize oddT l[i].f4 = o4
    generalize l[i].f1 = r
    generalize l[i].f2 = p
    by_cases c1 : r < 1
    · cases o0 <;> cases o4 <;> simp [c1]
    · by_cases c2 : r > 3
      · have c2' : 3 < r := c2
        cases o0 <;> cases o4 <;> simp [c1, c2']
      · have c2' : ¬ 3 < r := c2
        by_cases c3 : p < 0
        · cases o0 <;> cases o4 <;> simp [c1, c2', c3]
        · by_cases c4 : p ≥ 6
          · have c4' : 6 ≤ p := c4
            cases o0 <;> cases o4 <;> simp [c1, c2', c3, c4']
          · have c4' : ¬ 6 ≤ p := c4
            have c5 : ¬ p ≥ 6 := c4
            cases o0 <;> cases o4 <;> cases P <;> simp [c1, c2', c3, c4', c5, if_neg c4]
theorem valid27_eq (l : List S33) (hl : l.length ≤ 1000) {k : Nat} (hk : 3200 ≤ k) : crossbarref27_Valid.f k l = some (validB l) := by
  unfold crossbarref27_Valid.f validB
  have h := valid_l0 l hl l.length 0 k (by omega) (by omega)
  simpa using h
theorem start27_eq (l : List S33) (hl : l.length ≤ 1000) (m : S33) {k : Nat} (hk : 3300 ≤ k) : crossbarref27_Start.f k l m.f0 m.f1 m.f2 m.f3 m.f4 = some (startF l m) := by
  obtain ⟨k, rfl⟩ : ∃ j, k = j + 1 := ⟨k - 1, by omega⟩
  unfold crossbarref27_Start.f startF
  have hj : ∀ b, crossbarref27_Start.j0 (k + 1) l b m.f0 m.f1 m.f2 m.f3 m.f4 = some (if b = true then ([], 1) else if l.any (sameM m) = true then ([], 270) else if decide ((1024 : Int) ≤ l.length) = true then ([], 2) else (l ++ [m], 0)) := by
    intro b
    rw [crossbarref27_Start.j0]
    cases b
    · rw [if_neg (by simp), has_eq l (by omega) m (by omega), Option.bind_some]
      cases l.any (sameM m)
      · rw [if_neg (by simp)]
        by_cases h : (1024 : Int) ≤ l.length
        · rw [if_pos h]; simp [h]
        · rw [if_neg (by omega), Option.bind_some, if_pos (by simp; omega), Option.bind_some, if_pos (by simp; omega)]
          simp [h]
      · rw [if_pos rfl]; simp
    · rw [if_pos rfl]; simp
  simp only [hj, valid27_eq l hl (show 3200 ≤ k + 1 by omega), valid27_eq [m] (by simp) (show 3200 ≤ k + 1 by omega), Option.bind_some]
  cases validB l <;> cases validB [m] <;> simp
end Go.Proofs.Ytbfhohpbldadbaa.P

