import Derived.Test.YtbfhohpbldadbaaExtG
import Derived.Deep.RegionWith
import Derived.Deep.RegionHeld3
namespace Go.Proofs.Ytbfhohpbldadbaa.P
open Go.RowKit Go.Proofs.YtbfhohpbldadbaaW.PrintWords Go.Proofs.YtbfhohpbldadbaaW.PrintLast Go.Proofs.YtbfhohpbldadbaaW.PrintMore
set_option linter.unusedVariables false
set_option linter.unusedSimpArgs false
def sameM (m x : S33) : Bool := x.f0 == m.f0 && x.f1 == m.f1
theorem enters58 : Enters 58 := fun _ _ => by kernel_rfl
set_option maxHeartbeats 1000000 in
set_option maxRecDepth 100000 in
theorem start1_calls (g : Nat) (m x : S33) (W : World) (hm : MBlk W g m) :
    Calls Try.prog 58 (#[.agg #[.int .i64 x.f0, .int .i64 x.f1, .int .i64 x.f2, .string x.f3, .int .i64 x.f4]] ++ #[.pointer (some ⟨g, 0, none⟩)]) W fun e W' => e = .returned (.bool (sameM m x)) ∧ Below W.heap.size W W' := by
  have c0 := fun o => (hm.alloc o).c0; have c1 := fun o => (hm.alloc o).c1
  have HM := Lib.hid hm
  clear hm
  go_enter Try.func58, Try.ntmps58
  cases h0 : (x.f0 == m.f0)
  · go_wp2_with fail
    go_ret
    exact ⟨by simp [sameM, h0], below_one _ _⟩
  · go_wp2_with fail
    go_ret
    exact ⟨by simp [sameM, h0], below_one _ _⟩

theorem C1M (W : World) (m : S33) : Kd.C k33 (W.alloc (.cells #[.int .i64 m.f0, .int .i64 m.f1, .int .i64 m.f2, .string m.f3, .int .i64 m.f4] 33)) (some ⟨W.heap.size, 0, none⟩) [m].length [m] := by
  have h := MBlk.new W m
  refine ⟨rfl, by simp, fun _ => ⟨_, rfl, fun j p hj => ?_⟩⟩
  match j, hj with
  | 0, hj =>
    obtain rfl : m = p := by simpa using hj
    refine ⟨[.int .i64 m.f0, .int .i64 m.f1, .int .i64 m.f2, .string m.f3, .int .i64 m.f4], rfl, ⟨_, _, rfl, rfl, ⟨_, _, rfl, rfl, ⟨_, _, rfl, rfl, ⟨_, _, rfl, rfl, rfl⟩⟩⟩⟩, fun i u hi => ?_⟩
    match i, hi with
    | 0, hi =>
      obtain rfl := (by simpa using hi)
      exact h.c0
    | 1, hi =>
      obtain rfl := (by simpa using hi)
      exact h.c1
    | 2, hi =>
      obtain rfl := (by simpa using hi)
      exact h.c2
    | 3, hi =>
      obtain rfl := (by simpa using hi)
      exact h.c3
    | 4, hi =>
      obtain rfl := (by simpa using hi)
      exact h.c4
    | (n + 5), hi => simp at hi
  | (n + 1), hj => simp at hj
theorem MBlk.cs {w : World} {g : Nat} {m : S33} (h : MBlk w g m) : w.cell? ⟨g, 0, none⟩ = some (.int .i64 m.f0) ∧ w.cell? ⟨g, 1, none⟩ = some (.int .i64 m.f1) ∧ w.cell? ⟨g, 2, none⟩ = some (.int .i64 m.f2) ∧ w.cell? ⟨g, 3, none⟩ = some (.string m.f3) ∧ w.cell? ⟨g, 4, none⟩ = some (.int .i64 m.f4) := ⟨h.c0, h.c1, h.c2, h.c3, h.c4⟩
theorem MBlk.grown {w w1 : World} {g : Nat} {m : S33} {row : Option Nat} (h : MBlk w g m) (hg : w.grownBy w1 row) (hne : some g ≠ row) : MBlk w1 g m := blk_grown h hg hne
/-- append(s, x...) of meters, in a region that branches: the row of the call's own grows by what x reads. -/
theorem app33 {ops : Array Oper} {o : Oper} {a : Act} {Q : Exit → Act → World → Prop} {Kc : Act → World → Prop} {w W : World} (hw : Region.wanted o (yielded ops a.tmps) = true) (s x : Operand)
    (ho : o.op = .call { callee := .builtin .append, args := #[s, x], argTypes := #[22, 22] })
    (v : Value) (xs ys : List S33) (A : Option Addr) (m c : Nat) (hs : a.eval s = v) (hx : a.eval x = .slice A m c)
    (HO : k33.R 33 W w.heap.size (fun _ => True) v xs) (HR : Kd.C k33 W A m ys) (HB : Below w.heap.size w W) (hl : (xs.length + m) * 48 ≤ 140737488355328)
    (h : ∀ v1 w1, k33.R 33 w1 w.heap.size (fun _ => True) v1 (xs ++ ys) → Below w.heap.size w w1 → W.grownBy w1 v.ownBlock → (v1.ownBlock = v.ownBlock ∨ ∃ b, v1.ownBlock = some b ∧ W.heap.size ≤ b) → Kc (a.put o.dst v1) w1) :
    if Region.wanted o (yielded ops a.tmps) = true then Oper.wp Try.prog o a W Kc Q else Kc (a.put o.dst undef) W :=
  Kd.R_append_rows_step (Rr := k33.K W) k33 (w0 := w) w.heap.size hw s x 22 33 (.agg #[(.int .i64 0), (.int .i64 0), (.int .i64 0), (.string ⟨#[]⟩), (.int .i64 0)]) 48 ho Try.underlying22 info33 rfl (by decide) (by decide) v xs ys A m c (fun _ => True) (fun _ => False) hs hx HO HR (fun y cs h => k33_open h ▸ k33_mkM _ _ _ y) (fun _ h => h.elim) (fun _ _ => trivial) HB HB.size hl h
def startF (xs : List S33) (m : S33) : List S33 × Int :=
  if validB xs && validB [m] then (if xs.any (sameM m) then ([], 270) else if decide ((1024 : Int) ≤ xs.length) then ([], 2) else (xs ++ [m], 0)) else ([], 1)
def StartPost (r1 : List S33) (r2 : Int) (w : World) (e : Ending) (w' : World) : Prop := ∃ v0_ : Value, e = .returned (.tuple #[v0_, .int .i64 r2]) ∧ Kd.R k33 33 w' w.heap.size (fun _ => True) v0_ r1 ∧ Below w.heap.size w w'
set_option maxHeartbeats 4000000 in
set_option maxRecDepth 100000 in
theorem start_calls (A : Option Addr) (c : Nat) (xs : List S33) (m : S33) (w : World) (hr : Kd.C k33 w A xs.length xs) :
    Calls Try.prog 23 #[.slice A xs.length c, .agg #[.int .i64 m.f0, .int .i64 m.f1, .int .i64 m.f2, .string m.f3, .int .i64 m.f4]] w (StartPost (startF xs m).1 (startF xs m).2 w) := by
  have hmf : ∀ (fn : Fn) (first cap : Array Value) (w : World), (Instr.makeFunc fn first cap).run Try.prog w = .ok (.func fn first cap) w := fun _ _ _ _ => rfl
  have HR := Lib.hid hr
  clear hr
  obtain ⟨r1, hr1⟩ : ∃ r1, r1 = (startF xs m).1 := ⟨_, rfl⟩
  obtain ⟨r2, hr2⟩ : ∃ r2, r2 = (startF xs m).2 := ⟨_, rfl⟩
  rw [← hr1, ← hr2]
  have HR1 := Lib.hid hr1; have HR2 := Lib.hid hr2
  clear hr1 hr2
  go_enter Try.func23, Try.ntmps23
  go_wp2_with fail
  refine (valid_calls A c xs _ (Kd.C_below HR.out (below_one _ _))).mono ?_
  rintro e w1 ⟨rfl, hb⟩
  have HX := Lib.hid ((MBlk.new w m).below hb)
  have HB := Lib.hid (bb (below_one _ _) hb)
  clear hb
  cases hv : validB xs
  · go_wp2_with fail
    go_ret2
    obtain rfl : r1 = [] := by rw [HR1.out]; simp [startF, hv]
    obtain rfl : r2 = 1 := by rw [HR2.out]; simp [startF, hv]
    exact ⟨_, rfl, Kd.R_nil _ _ _ _ _, HB.out⟩
  · have x0 := HX.out.c0; have x1 := HX.out.c1; have x2 := HX.out.c2; have x3 := HX.out.c3; have x4 := HX.out.c4
    go_wp2_with fail
    refine (valid_calls (some ⟨w1.heap.size, 0, none⟩) 1 [m] _ (C1M w1 m)).mono ?_
    rintro e w2 ⟨rfl, hb⟩
    clear x0 x1 x2 x3 x4
    replace HX := Lib.hid (HX.out.below (bb (below_one _ _) hb))
    replace HB := Lib.hid (bb HB.out (bb (below_one _ _) hb))
    clear hb
    cases hv2 : validB [m]
    · go_wp2_with fail
      go_ret2
      obtain rfl : r1 = [] := by rw [HR1.out]; simp [startF, hv, hv2]
      obtain rfl : r2 = 1 := by rw [HR2.out]; simp [startF, hv, hv2]
      exact ⟨_, rfl, Kd.R_nil _ _ _ _ _, HB.out⟩
    · go_wp2_with fail
      refine (containsM 58 #[.pointer (some ⟨w.heap.size, 0, none⟩)] enters58 A c xs (sameM m) _ (Kd.C_below HR.out HB.out) (fun x _ W hW => start1_calls w.heap.size m x W (HX.out.below hW))).mono ?_
      rintro e w3 ⟨rfl, hb⟩
      replace HX := Lib.hid (HX.out.below hb)
      replace HB := Lib.hid (bb HB.out hb)
      clear hb
      cases ha : xs.any (sameM m)
      · cases hl : decide ((1024 : Int) ≤ xs.length)
        · have hl' : xs.length * 48 ≤ 140737488355328 := by have := of_decide_eq_false hl; omega
          have x0 := HX.out.c0; have x1 := HX.out.c1; have x2 := HX.out.c2; have x3 := HX.out.c3; have x4 := HX.out.c4
          have HL := Lib.hid hl'
          clear hl'
          go_wp2_with fail
          go_region_held3 (fun w' => w'.cell? ⟨w.heap.size, 0, none⟩ = some (.int .i64 m.f0) ∧ w'.cell? ⟨w.heap.size, 1, none⟩ = some (.int .i64 m.f1) ∧ w'.cell? ⟨w.heap.size, 2, none⟩ = some (.int .i64 m.f2) ∧ w'.cell? ⟨w.heap.size, 3, none⟩ = some (.string m.f3) ∧ w'.cell? ⟨w.heap.size, 4, none⟩ = some (.int .i64 m.f4) )
            (first
              | go_keep
              | exact (HX.out.below hb').cs
              | exact (MBlk.grown (by first | exact HX.out.below hb' | exact (HX.out.below hb').alloc _ | exact MBlk.alloc (MBlk.below HX.out hb') _) hg5 (fun e => by have h1 := ((Kd.R_bound ho).1 _ e.symm).2.1; have h2 := heap_lt HX.out; simp at h1; omega)).cs)
            (first
              | (go_at_call 59; refine (cloneM A c xs _ (Kd.C_below HR.out (bb HB.out (by first | exact Below.refl _ _ | exact below_drew (Below.refl _ _) | exact pw_below_drewN (Below.refl _ _) _ | exact below_drew (below_one _ _) | exact pw_below_drewN (below_one _ _) _ | exact below_one _ _))) HL.out).mono ?_; rintro e w4 ⟨v', rfl, ho, hb⟩; have hb' : Below w3.heap.size w3 w4 := bb (by first | exact Below.refl _ _ | exact below_drew (Below.refl _ _) | exact pw_below_drewN (Below.refl _ _) _ | exact below_drew (below_one _ _) | exact pw_below_drewN (below_one _ _) _ | exact below_one _ _) hb)
              | ((first | (refine app33 (w := w) ?_ (.tmp 25) (.tmp 27) ?_ v' xs [m] (some ⟨w4.heap.size, 0, none⟩) 1 1 ?_ ?_ ?_ ?_ ?_ ?_ ?_; (focus rfl); (focus rfl); (focus rfl); (focus rfl)) | (refine app33 (w := w) ?_ (.tmp 25) (.tmp 27) ?_ v' xs [m] (some ⟨w3.heap.size, 0, none⟩) 1 1 ?_ ?_ ?_ ?_ ?_ ?_ ?_; (focus rfl); (focus rfl); (focus rfl); (focus rfl)) | fail "inner")
                 focus (exact Kd.R_lower (by first | exact ho | exact Kd.R_drew ho | exact Kd.R_alloc (Kd.R_drew ho) _ | exact Kd.R_alloc ho _ | exact Kd.R_drew (Kd.R_alloc ho _)) (by have h0 := HB.out.size; first | exact h0 | exact Nat.le_trans h0 (below_one _ _).size))
                 focus (first | exact C1M _ m | exact Kd.C_below (C1M _ m) hb | exact Kd.C_below (Kd.C_drew (C1M w3 m)) hb | exact Kd.C_drew (C1M _ m))
                 focus (exact bb (bb HB.out hb') (by (first | exact Below.refl _ _ | exact below_drew (Below.refl _ _) | exact pw_below_drewN (Below.refl _ _) _ | exact below_drew (below_one _ _) | exact pw_below_drewN (below_one _ _) _ | exact below_one _ _)))
                 focus ((have := of_decide_eq_false hl; omega))
                 intro v2 w5 ho5 hb5 hg5 hat5)
              | fail "no arm")
          all_goals go_wp2_with fail
          all_goals go_ret2
          all_goals
            obtain rfl : r1 = xs ++ [m] := by rw [HR1.out]; simp only [startF, hv, hv2, ha, hl]; rfl
            obtain rfl : r2 = 0 := by rw [HR2.out]; simp only [startF, hv, hv2, ha, hl]; rfl
            exact ⟨_, rfl, ho5, hb5⟩
        · go_wp2_with fail
          go_ret2
          obtain rfl : r1 = [] := by rw [HR1.out]; simp [startF, hv, hv2, ha, hl]
          obtain rfl : r2 = 2 := by rw [HR2.out]; simp [startF, hv, hv2, ha, hl]
          exact ⟨_, rfl, Kd.R_nil _ _ _ _ _, HB.out⟩
      · go_wp2_with fail
        go_ret2
        obtain rfl : r1 = [] := by rw [HR1.out]; simp [startF, hv, hv2, ha]
        obtain rfl : r2 = 270 := by rw [HR2.out]; simp [startF, hv, hv2, ha]
        exact ⟨_, rfl, Kd.R_nil _ _ _ _ _, HB.out⟩
end Go.Proofs.Ytbfhohpbldadbaa.P
