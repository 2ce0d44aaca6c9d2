import Derived.Test.YtbfhohpbldadbaaDaS1
import Derived.Below
import Derived.Deep.Draws
import Derived.Deep.AppendLies
import Derived.Maps.AppendAt
import Derived.OwnWalk
import Derived.Laws.BytesArg
import Derived.Laws.MakeOwn
import Derived.Laws.OwnMore
import Derived.Deep.OwnRows
import Derived.Tactics
import Derived.Lib.ConvBytes
import Derived.Laws.Slices
import Derived.WalkKit
import Derived.KernelRfl
import Derived.RowKit3
import Derived.Deep.LoopGhost
import Derived.Deep.QuietTactic
import Derived.BigQuiet
import Derived.WideLaws
import Derived.Deep.DeepCutAuto
import Derived.Deep.CutBlock
import Derived.Deep.RegionHeld3
import Derived.Laws.Rows
import Derived.Lib.AppendStr
import Derived.ArgAppend
import Derived.Laws.IdiomCopy
import Derived.RowKit
import Derived.Laws.StructEq
import Derived.Test.YtbfhohpbldadbaaProg
import Derived.OrdersHeld
import Derived.Laws.BitsLemmas
import Derived.Lib.Hide
import Derived.WalkSpells
import Derived.Lib.OthersKept
import Derived.Lib.TrimU
import Derived.Laws.RangeAny
import Derived.Maps.Keyed
import Derived.WideKeyRuns
import Derived.Lib.SliceRun
import Derived.Deep.RegionWith
import Derived.ProofKit
import Derived.OpenShut
import Derived.ChangeOld
import Derived.SizedLaws
import Derived.Deep.Slices
import Derived.Lib.SmallJoins
import Derived.Test.YtbfhohpbldadbaaDa3
namespace Go.Proofs.Ytbfhohpbldadbaa.P
open Go Go.RowKit Go.Proofs.YtbfhohpbldadbaaW.PrintWords Go.Proofs.YtbfhohpbldadbaaW.PrintLast Go.Proofs.YtbfhohpbldadbaaW.PrintMore
set_option linter.unusedVariables false
set_option linter.unusedSimpArgs false
theorem pre_calls (A0 : Option Addr) (c0 : Nat) (a : List S39) (A1 : Option Addr) (c1 : Nat) (b : List S39) (w : World) (hr0 : Kd.C k39 w A0 a.length a) (hc0 : a.length ≤ c0) (hr1 : Kd.C k39 w A1 b.length b) (hc1 : b.length ≤ c1) (ha : a.length ≤ 6000) (h : ∃ t, b = a ++ t) :
    Calls Try.prog 40 #[.slice A0 a.length c0, .slice A1 b.length c1] w fun e w' => e = .returned (.bool true) ∧ Below w.heap.size w w' := by
  obtain ⟨t, ht⟩ := h
  refine (crossbarlaw30_prefix.calls 10000 A0 c0 a A1 c1 b true w hr0 hc0 hr1 hc1 (by rw [ht]; exact prefix_ok a t ha 10000 (Nat.le_refl _))).mono ?_
  rintro e w' ⟨h, hd⟩
  exact ⟨h, hd.below⟩
theorem ChInv.low {w W : World} {g n : Nat} (h : ChInv w W g n) : Below w.heap.size w W := by
  obtain ⟨_, _, _, _, _, _, _, _, _, _, _, _, _, _, _, hC, _⟩ := h
  exact hC.low
set_option maxHeartbeats 16000000 in
set_option maxRecDepth 100000 in
theorem law12_walk (A0 : Option Addr) (c0 : Nat) (l : List SOp) (w : World) (hr : Kd.C kOp w A0 l.length l) :
    Calls Try.prog 12 #[.slice A0 l.length c0] w (fun e w' => e = .returned (.bool true) ∧ Below w.heap.size w w') := by
  have HR := Lib.hid hr
  clear hr
  go_enter Try.func12, Try.ntmps12
  go_wp2_with fail
  refine (sane30_calls w).mono ?_
  rintro e w1 ⟨rfl, hb⟩
  have B := Lib.hid hb
  clear hb
  by_cases hlen : (200 : Int) < l.length
  · go_wp2_with fail
    go_ret
    exact ⟨rfl, B.out⟩
  · have HLEN := Lib.hid (show l.length ≤ 200 by omega)
    go_wp2_with fail
    refine (start_calls_ w1).mono ?_
    rintro e w2 ⟨g, rfl, hC⟩
    have CI := Lib.hid (show ChInv w1 w2 g 0 from ⟨_, _, _, _, _, _, _, _, _, _, _, _, _, _, _, hC, Inv.start, by simp, by simp⟩)
    clear hC hlen
    go_wp2_with fail
    go_loopw [4] (fun v4 Wc => ∃ j : Nat, v4 = .int .i64 (j : Int) ∧ j ≤ l.length ∧ ChInv w1 Wc g j) (fun i _ => l.length - (intOf i).toNat)
    case atStart => exact ⟨0, rfl, Nat.zero_le _, CI.out⟩
    case round =>
      obtain ⟨j, rfl, hj, hI⟩ := hrel
      have HJ := Lib.hid hj
      replace CI := Lib.hid hI
      clear hj hI
      by_cases hlt : j < l.length
      · have HLT := Lib.hid hlt
        have hjl : (j : Int) < (l.length : Int) := by omega
        have hj0 : (0 : Int) ≤ (j : Int) := by omega
        obtain ⟨ad, hA, hat⟩ := O_cell (Kd.C_below (Kd.C_below HR.out B.out) CI.out.low) j hlt hlt
        subst hA
        obtain ⟨o, ho⟩ : ∃ o, o = l[j]'hlt := ⟨_, rfl⟩
        rw [← ho] at hat
        have o0 := hat.c0; have o1 := hat.c1; have o2 := hat.c2; have o3 := hat.c3; have o4 := hat.c4
        clear hat ho hlt
        go_wp2_with fail
        refine (stepCh w1 wr g j (by have := HJ.out; have := HLEN.out; omega) CI.out o.f0 o.f1 o.f2 o.f3 o.f4).mono ?_
        rintro e w4 ⟨rfl, vo0, vi0, x0, vo1, vi1, x1, v0, v1, l0, l1, p0, p1, r0, r1, now, hC, hI, hl0, hl1⟩
        obtain ⟨AO0, cO0, hvo0⟩ := Kd.V_slice hC.o0
        obtain ⟨AO1, cO1, hvo1⟩ := Kd.V_slice hC.o1
        subst hvo0 hvo1
        have C := Lib.hid hC; have I := Lib.hid hI; have L0 := Lib.hid hl0; have L1 := Lib.hid hl1
        clear hC hI hl0 hl1 o0 o1 o2 o3 o4 CI
        have d0 := C.out.blk.c0; have d1 := C.out.blk.c1; have d2 := C.out.blk.c2; have d3 := C.out.blk.c3; have d4 := C.out.blk.c4; have d5 := C.out.blk.c5
        have hk0 := I.out.chk (by have := HJ.out; have := HLEN.out; omega)
        have hk1 := I.out.swap.chk (by have := HJ.out; have := HLEN.out; omega)
        have K0 := Lib.hid hk0; have K1 := Lib.hid hk1
        clear hk0 hk1
        go_wp2_with fail
        refine (clCheck_calls AO0 cO0 x0.f0 x0.f1 x0.f2 vi0 x0.f4 x0.f5 w4 (Kd.V_reads' C.out.o0).2.2).mono ?_
        rw [K0.out]
        rintro e w5 ⟨rfl, hb⟩
        replace C := Lib.hid (C.out.below hb)
        clear hb d0 d1 d2 d3 d4 d5
        have d0 := C.out.blk.c6; have d1 := C.out.blk.c7; have d2 := C.out.blk.c8; have d3 := C.out.blk.c9; have d4 := C.out.blk.c10; have d5 := C.out.blk.c11
        go_wp2_with fail
        refine (clCheck_calls AO1 cO1 x1.f0 x1.f1 x1.f2 vi1 x1.f4 x1.f5 w5 (Kd.V_reads' C.out.o1).2.2).mono ?_
        rw [K1.out]
        rintro e w6 ⟨rfl, hb⟩
        replace C := Lib.hid (C.out.below hb)
        clear hb d0 d1 d2 d3 d4 d5 K0 K1
        obtain ⟨AI0, cI0, hvi0⟩ := Kd.V_slice C.out.i0
        obtain ⟨AI1, cI1, hvi1⟩ := Kd.V_slice C.out.i1
        obtain ⟨AP0, cP0, hp0⟩ := Kd.R_slice C.out.pp0
        obtain ⟨AP1, cP1, hp1⟩ := Kd.R_slice C.out.pp1
        subst hvi0 hvi1 hp0 hp1
        obtain ⟨B0, F0, E0, dd0, hB0⟩ := I.out.d0
        obtain ⟨B1, F1, E1, dd1, hB1⟩ := I.out.d1
        have P1 := Lib.hid (show x1.f3.length ≤ 6000 ∧ ∃ t, r0 = x1.f3 ++ t from ⟨by have := (dd0.small hB0).1; have := HJ.out; have := HLEN.out; omega, dd0.pre⟩)
        have P0 := Lib.hid (show x0.f3.length ≤ 6000 ∧ ∃ t, r1 = x0.f3 ++ t from ⟨by have := (dd1.small hB1).1; have := HJ.out; have := HLEN.out; omega, dd1.pre⟩)
        clear dd0 dd1 hB0 hB1 B0 F0 E0 B1 F1 E1
        go_wp2_with fail
        replace C := Lib.hid (C.out.below (below_drew (Below.refl _ _)))
        refine start_ (n := 13) (S := fun w' => w'.cell? ⟨g, 9, none⟩ = some (.slice AI1 x1.f3.length cI1) ∧ w'.cell? ⟨g, 14, none⟩ = some (.slice AP0 r0.length cP0)) (ds := []) #[false, false, false, false, false, false, false, false, false, false, false, false, false] (by kernel_rfl) rfl rfl ⟨C.out.blk.c9, C.out.blk.c14⟩ (fun hHeld => ?_)
        generalize w6.drew = w6d at C hHeld ⊢
        refine pure_ (i := 0) (N := some 44) (v := ?_) (a' := ?_) #[true, false, false, false, false, false, false, false, false, false, false, false, false] rfl rfl (by kernel_rfl) (fun _ _ _ h => h) (Or.inl ⟨by rfl, ?_⟩) ?_ ?_
        rotate_left
        · intro w'
          go_simp
          with_reducible rfl
        rotate_left
        · simp only [Act.put, List.setIfInBounds_toArray, List.set_cons_zero, List.set_cons_succ, i64_w, i32_w]
          rfl
        refine pure_ (i := 1) (N := some 45) (v := ?_) (a' := ?_) #[true, true, false, false, false, false, false, false, false, false, false, false, false] rfl rfl (by kernel_rfl) (fun _ _ _ h => h) (Or.inl ⟨by rfl, ?_⟩) ?_ ?_
        rotate_left
        · intro w'
          go_simp
          with_reducible rfl
        rotate_left
        · simp only [Act.put, List.setIfInBounds_toArray, List.set_cons_zero, List.set_cons_succ, i64_w, i32_w]
          rfl
        refine pure_ (i := 2) (N := some 46) (v := ?_) (a' := ?_) #[true, true, true, false, false, false, false, false, false, false, false, false, false] rfl rfl (by kernel_rfl) (fun _ _ _ h => h) (Or.inl ⟨by rfl, ?_⟩) ?_ ?_
        rotate_left
        · intro w'
          go_simp
          with_reducible rfl
        rotate_left
        · simp only [Act.put, List.setIfInBounds_toArray, List.set_cons_zero, List.set_cons_succ, i64_w, i32_w]
          rfl
        refine pure_ (i := 3) (N := some 47) (v := ?_) (a' := ?_) #[true, true, true, true, false, false, false, false, false, false, false, false, false] rfl rfl (by kernel_rfl) (fun _ _ _ h => h) (Or.inl ⟨by rfl, ?_⟩) ?_ ?_
        rotate_left
        · intro w'
          go_simp
          with_reducible rfl
        rotate_left
        · simp only [Act.put, List.setIfInBounds_toArray, List.set_cons_zero, List.set_cons_succ, i64_w, i32_w]
          rfl
        refine pure_ (i := 4) (N := some 48) (v := ?_) (a' := ?_) #[true, true, true, true, true, false, false, false, false, false, false, false, false] rfl rfl (by kernel_rfl) (fun _ _ _ h => h) (Or.inl ⟨by rfl, ?_⟩) ?_ ?_
        rotate_left
        · intro w'
          go_simp
          with_reducible rfl
        rotate_left
        · simp only [Act.put, List.setIfInBounds_toArray, List.set_cons_zero, List.set_cons_succ, i64_w, i32_w]
          rfl
        refine pure_ (i := 6) (N := some 50) (v := ?_) (a' := ?_) #[true, true, true, true, true, false, true, false, false, false, false, false, false] rfl rfl (by kernel_rfl) (fun _ _ _ h => h) (Or.inl ⟨by rfl, ?_⟩) ?_ ?_
        rotate_left
        · intro w'
          go_simp
          with_reducible rfl
        rotate_left
        · simp only [Act.put, List.setIfInBounds_toArray, List.set_cons_zero, List.set_cons_succ, i64_w, i32_w]
          rfl
        refine pure_ (i := 7) (N := some 51) (v := ?_) (a' := ?_) #[true, true, true, true, true, false, true, true, false, false, false, false, false] rfl rfl (by kernel_rfl) (fun _ _ _ h => h) (Or.inl ⟨by rfl, ?_⟩) ?_ ?_
        rotate_left
        · intro w'
          go_simp
          with_reducible rfl
        rotate_left
        · simp only [Act.put, List.setIfInBounds_toArray, List.set_cons_zero, List.set_cons_succ, i64_w, i32_w]
          rfl
        refine pure_ (i := 8) (N := some 52) (v := ?_) (a' := ?_) #[true, true, true, true, true, false, true, true, true, false, false, false, false] rfl rfl (by kernel_rfl) (fun _ _ _ h => h) (Or.inl ⟨by rfl, ?_⟩) ?_ ?_
        rotate_left
        · intro w'
          go_simp
          with_reducible rfl
        rotate_left
        · simp only [Act.put, List.setIfInBounds_toArray, List.set_cons_zero, List.set_cons_succ, i64_w, i32_w]
          rfl
        refine pure_ (i := 9) (N := some 53) (v := ?_) (a' := ?_) #[true, true, true, true, true, false, true, true, true, true, false, false, false] rfl rfl (by kernel_rfl) (fun _ _ _ h => h) (Or.inl ⟨by rfl, ?_⟩) ?_ ?_
        rotate_left
        · intro w'
          go_simp
          with_reducible rfl
        rotate_left
        · simp only [Act.put, List.setIfInBounds_toArray, List.set_cons_zero, List.set_cons_succ, i64_w, i32_w]
          rfl
        refine take_ (i := 5) (N := some 49) (v := ?_) (a' := ?_) #[true, true, true, true, true, true, true, true, true, true, false, false, false] rfl rfl (by kernel_rfl) (fun _ _ _ h => h) (Or.inl ⟨by rfl, ?_⟩) hHeld ?_ ?_
        rotate_left
        · rintro w' ⟨s0, s1⟩
          go_simp
          with_reducible rfl
        rotate_left
        · simp only [Act.put, List.setIfInBounds_toArray, List.set_cons_zero, List.set_cons_succ, i64_w, i32_w]
          rfl
        refine take_ (i := 10) (N := some 54) (v := ?_) (a' := ?_) #[true, true, true, true, true, true, true, true, true, true, true, false, false] rfl rfl (by kernel_rfl) (fun _ _ _ h => h) (Or.inl ⟨by rfl, ?_⟩) hHeld ?_ ?_
        rotate_left
        · rintro w' ⟨s0, s1⟩
          go_simp
          with_reducible rfl
        rotate_left
        · simp only [Act.put, List.setIfInBounds_toArray, List.set_cons_zero, List.set_cons_succ, i64_w, i32_w]
          rfl
        refine one_ (i := 11) (N := some 55) #[true, true, true, true, true, true, true, true, true, true, true, true, false] rfl rfl (by kernel_rfl) (by decide) (fun K hK => ?_)
        refine goes_ Try.func40 (by kernel_rfl) rfl #[.slice AI1 x1.f3.length cI1, .slice AP0 r0.length cP0] (by rfl) rfl rfl (by simp only [List.map_toArray, List.map_cons, List.map_nil]; rfl) ?_
        with_reducible refine (pre_calls AI1 cI1 x1.f3 AP0 cP0 r0 _ (Kd.V_reads' C.out.i1).2.2 (Kd.V_reads' C.out.i1).2.1 (Kd.R_reads' C.out.pp0).2.2 (Kd.R_reads' C.out.pp0).2.1 P1.out.1 P1.out.2).mono ?_
        rintro e w7 ⟨rfl, hb⟩
        refine ⟨_, rfl, ?_⟩
        replace C := Lib.hid (C.out.below hb)
        clear hb
        refine hK.out _ _ ⟨C.out.blk.c9, C.out.blk.c14⟩ (fun hHeld => ?_)
        clear hK K
        refine norm_ (a' := ?_) ?_ ?_
        rotate_left
        · show Act.put _ (some 55) _ = _
          simp only [Act.put, List.setIfInBounds_toArray, List.set_cons_zero, List.set_cons_succ, i64_w, i32_w]
          rfl
        refine pure_ (i := 12) (N := some 5) (v := ?_) (a' := ?_) #[true, true, true, true, true, true, true, true, true, true, true, true, true] rfl rfl (by kernel_rfl) (fun _ _ _ h => h) (Or.inl ⟨by rfl, ?_⟩) ?_ ?_
        rotate_left
        · intro w'
          go_simp
          with_reducible rfl
        rotate_left
        · simp only [Act.put, List.setIfInBounds_toArray, List.set_cons_zero, List.set_cons_succ, i64_w, i32_w]
          rfl
        refine done_ (by kernel_rfl) ?_

        clear hHeld
        go_wp2_with fail
        replace C := Lib.hid (C.out.below (below_drew (Below.refl _ _)))
        refine start_ (n := 13) (S := fun w' => w'.cell? ⟨g, 3, none⟩ = some (.slice AI0 x0.f3.length cI0) ∧ w'.cell? ⟨g, 15, none⟩ = some (.slice AP1 r1.length cP1)) (ds := []) #[false, false, false, false, false, false, false, false, false, false, false, false, false] (by kernel_rfl) rfl rfl ⟨C.out.blk.c3, C.out.blk.c15⟩ (fun hHeld => ?_)
        generalize w7.drew = w7d at C hHeld ⊢
        refine pure_ (i := 0) (N := some 56) (v := ?_) (a' := ?_) #[true, false, false, false, false, false, false, false, false, false, false, false, false] rfl rfl (by kernel_rfl) (fun _ _ _ h => h) (Or.inl ⟨by rfl, ?_⟩) ?_ ?_
        rotate_left
        · intro w'
          go_simp
          with_reducible rfl
        rotate_left
        · simp only [Act.put, List.setIfInBounds_toArray, List.set_cons_zero, List.set_cons_succ, i64_w, i32_w]
          rfl
        refine pure_ (i := 1) (N := some 57) (v := ?_) (a' := ?_) #[true, true, false, false, false, false, false, false, false, false, false, false, false] rfl rfl (by kernel_rfl) (fun _ _ _ h => h) (Or.inl ⟨by rfl, ?_⟩) ?_ ?_
        rotate_left
        · intro w'
          go_simp
          with_reducible rfl
        rotate_left
        · simp only [Act.put, List.setIfInBounds_toArray, List.set_cons_zero, List.set_cons_succ, i64_w, i32_w]
          rfl
        refine pure_ (i := 2) (N := some 58) (v := ?_) (a' := ?_) #[true, true, true, false, false, false, false, false, false, false, false, false, false] rfl rfl (by kernel_rfl) (fun _ _ _ h => h) (Or.inl ⟨by rfl, ?_⟩) ?_ ?_
        rotate_left
        · intro w'
          go_simp
          with_reducible rfl
        rotate_left
        · simp only [Act.put, List.setIfInBounds_toArray, List.set_cons_zero, List.set_cons_succ, i64_w, i32_w]
          rfl
        refine pure_ (i := 3) (N := some 59) (v := ?_) (a' := ?_) #[true, true, true, true, false, false, false, false, false, false, false, false, false] rfl rfl (by kernel_rfl) (fun _ _ _ h => h) (Or.inl ⟨by rfl, ?_⟩) ?_ ?_
        rotate_left
        · intro w'
          go_simp
          with_reducible rfl
        rotate_left
        · simp only [Act.put, List.setIfInBounds_toArray, List.set_cons_zero, List.set_cons_succ, i64_w, i32_w]
          rfl
        refine pure_ (i := 4) (N := some 60) (v := ?_) (a' := ?_) #[true, true, true, true, true, false, false, false, false, false, false, false, false] rfl rfl (by kernel_rfl) (fun _ _ _ h => h) (Or.inl ⟨by rfl, ?_⟩) ?_ ?_
        rotate_left
        · intro w'
          go_simp
          with_reducible rfl
        rotate_left
        · simp only [Act.put, List.setIfInBounds_toArray, List.set_cons_zero, List.set_cons_succ, i64_w, i32_w]
          rfl
        refine pure_ (i := 6) (N := some 62) (v := ?_) (a' := ?_) #[true, true, true, true, true, false, true, false, false, false, false, false, false] rfl rfl (by kernel_rfl) (fun _ _ _ h => h) (Or.inl ⟨by rfl, ?_⟩) ?_ ?_
        rotate_left
        · intro w'
          go_simp
          with_reducible rfl
        rotate_left
        · simp only [Act.put, List.setIfInBounds_toArray, List.set_cons_zero, List.set_cons_succ, i64_w, i32_w]
          rfl
        refine pure_ (i := 7) (N := some 63) (v := ?_) (a' := ?_) #[true, true, true, true, true, false, true, true, false, false, false, false, false] rfl rfl (by kernel_rfl) (fun _ _ _ h => h) (Or.inl ⟨by rfl, ?_⟩) ?_ ?_
        rotate_left
        · intro w'
          go_simp
          with_reducible rfl
        rotate_left
        · simp only [Act.put, List.setIfInBounds_toArray, List.set_cons_zero, List.set_cons_succ, i64_w, i32_w]
          rfl
        refine pure_ (i := 8) (N := some 64) (v := ?_) (a' := ?_) #[true, true, true, true, true, false, true, true, true, false, false, false, false] rfl rfl (by kernel_rfl) (fun _ _ _ h => h) (Or.inl ⟨by rfl, ?_⟩) ?_ ?_
        rotate_left
        · intro w'
          go_simp
          with_reducible rfl
        rotate_left
        · simp only [Act.put, List.setIfInBounds_toArray, List.set_cons_zero, List.set_cons_succ, i64_w, i32_w]
          rfl
        refine pure_ (i := 9) (N := some 65) (v := ?_) (a' := ?_) #[true, true, true, true, true, false, true, true, true, true, false, false, false] rfl rfl (by kernel_rfl) (fun _ _ _ h => h) (Or.inl ⟨by rfl, ?_⟩) ?_ ?_
        rotate_left
        · intro w'
          go_simp
          with_reducible rfl
        rotate_left
        · simp only [Act.put, List.setIfInBounds_toArray, List.set_cons_zero, List.set_cons_succ, i64_w, i32_w]
          rfl
        refine take_ (i := 5) (N := some 61) (v := ?_) (a' := ?_) #[true, true, true, true, true, true, true, true, true, true, false, false, false] rfl rfl (by kernel_rfl) (fun _ _ _ h => h) (Or.inl ⟨by rfl, ?_⟩) hHeld ?_ ?_
        rotate_left
        · rintro w' ⟨s0, s1⟩
          go_simp
          with_reducible rfl
        rotate_left
        · simp only [Act.put, List.setIfInBounds_toArray, List.set_cons_zero, List.set_cons_succ, i64_w, i32_w]
          rfl
        refine take_ (i := 10) (N := some 66) (v := ?_) (a' := ?_) #[true, true, true, true, true, true, true, true, true, true, true, false, false] rfl rfl (by kernel_rfl) (fun _ _ _ h => h) (Or.inl ⟨by rfl, ?_⟩) hHeld ?_ ?_
        rotate_left
        · rintro w' ⟨s0, s1⟩
          go_simp
          with_reducible rfl
        rotate_left
        · simp only [Act.put, List.setIfInBounds_toArray, List.set_cons_zero, List.set_cons_succ, i64_w, i32_w]
          rfl
        refine one_ (i := 11) (N := some 67) #[true, true, true, true, true, true, true, true, true, true, true, true, false] rfl rfl (by kernel_rfl) (by decide) (fun K hK => ?_)
        refine goes_ Try.func40 (by kernel_rfl) rfl #[.slice AI0 x0.f3.length cI0, .slice AP1 r1.length cP1] (by rfl) rfl rfl (by simp only [List.map_toArray, List.map_cons, List.map_nil]; rfl) ?_
        with_reducible refine (pre_calls AI0 cI0 x0.f3 AP1 cP1 r1 _ (Kd.V_reads' C.out.i0).2.2 (Kd.V_reads' C.out.i0).2.1 (Kd.R_reads' C.out.pp1).2.2 (Kd.R_reads' C.out.pp1).2.1 P0.out.1 P0.out.2).mono ?_
        rintro e w8 ⟨rfl, hb⟩
        refine ⟨_, rfl, ?_⟩
        replace C := Lib.hid (C.out.below hb)
        clear hb
        refine hK.out _ _ ⟨C.out.blk.c3, C.out.blk.c15⟩ (fun hHeld => ?_)
        clear hK K
        refine norm_ (a' := ?_) ?_ ?_
        rotate_left
        · show Act.put _ (some 67) _ = _
          simp only [Act.put, List.setIfInBounds_toArray, List.set_cons_zero, List.set_cons_succ, i64_w, i32_w]
          rfl
        refine pure_ (i := 12) (N := some 6) (v := ?_) (a' := ?_) #[true, true, true, true, true, true, true, true, true, true, true, true, true] rfl rfl (by kernel_rfl) (fun _ _ _ h => h) (Or.inl ⟨by rfl, ?_⟩) ?_ ?_
        rotate_left
        · intro w'
          go_simp
          with_reducible rfl
        rotate_left
        · simp only [Act.put, List.setIfInBounds_toArray, List.set_cons_zero, List.set_cons_succ, i64_w, i32_w]
          rfl
        refine done_ (by kernel_rfl) ?_

        clear hHeld
        go_wp2_with fail
        go_roundw
        case rel =>
          exact ⟨j + 1, rfl, HLT.out, ⟨_, _, _, _, _, _, _, _, _, _, _, _, _, _, _, C.out, I.out, L0.out, L1.out⟩⟩
        case measure =>
          have := HLT.out
          simp only [intOf]
          omega
      · have hjl : ¬ ((j : Int) < (l.length : Int)) := by omega
        go_wp2_with fail
        go_ret
        exact ⟨rfl, bb B.out CI.out.low⟩
end Go.Proofs.Ytbfhohpbldadbaa.P

