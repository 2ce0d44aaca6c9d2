import Derived.Test.YtbfhohpbldadbaaCl2
namespace Go.Proofs.Ytbfhohpbldadbaa.P
open Go Go.RowKit Go.Proofs.YtbfhohpbldadbaaW.PrintWords Go.Proofs.YtbfhohpbldadbaaW.PrintLast Go.Proofs.YtbfhohpbldadbaaW.PrintMore
set_option linter.unusedVariables false
set_option linter.unusedSimpArgs false

/-- An end under modification, of the call's own. -/
structure EdW (w W : World) (g : Nat) (vo : Value) (o : List (List S39)) (f1 f2 : Int) (vi : Value) (inn : List S39) (f4 : Bool) (f5 : Int) : Prop where
  low : Below w.heap.size w W
  ge : w.heap.size ≤ g
  blk : EBlk W g 117 vo f1 f2 vi f4 f5
  out : Kd.R kL 28 W w.heap.size (fun k => True ∧ some k ≠ vi.ownBlock) vo o
  inn : Kd.R k39 39 W w.heap.size (fun _ => True) vi inn
theorem EdW.below {w W W' : World} {g : Nat} {vo vi : Value} {o : List (List S39)} {inn : List S39} {f1 f2 f5 : Int} {f4 : Bool} (h : EdW w W g vo o f1 f2 vi inn f4 f5) (hb : Below W.heap.size W W') : EdW w W' g vo o f1 f2 vi inn f4 f5 :=
  ⟨bb h.low hb, h.ge, h.blk.below hb, Kd.R_below h.out hb, Kd.R_below h.inn hb⟩
def EditPost (o : List (List S39)) (f1 f2 : Int) (inn : List S39) (f4 : Bool) (f5 : Int) (w : World) (e : Ending) (w' : World) : Prop :=
  (clCheck o f1 f2 f5 ≠ 0 ∧ e = .returned (.tuple #[.pointer none, .int .i64 (clCheck o f1 f2 f5)]) ∧ Below w.heap.size w w') ∨ (clCheck o f1 f2 f5 = 0 ∧ ∃ g vo vi, e = .returned (.tuple #[.pointer (some ⟨g, 0, none⟩), .int .i64 0]) ∧ EdW w w' g vo o f1 f2 vi inn f4 f5)
theorem check_sized {o : List (List S39)} {f1 f2 f5 : Int} (h : clCheck o f1 f2 f5 = 0) : o.length ≤ 64 ∧ (∀ l ∈ o, 1 ≤ l.length ∧ l.length ≤ 1024) ∧ 0 ≤ f1 ∧ f1 ≤ 1099511627776 ∧ 0 ≤ f2 ∧ f2 ≤ 1099511627776 ∧ (f5 = -1 ∨ (0 < o.length ∧ 0 ≤ f5 ∧ f5 ≤ 1099511627779)) := by
  unfold clCheck at h
  split at h
  · cases h
  · next h1 =>
    split at h
    · cases h
    · next h2 =>
      split at h
      · cases h
      · next h3 =>
        simp only [Bool.or_eq_true, not_or, Bool.not_eq_true, oddT, Bool.or_eq_false_iff, decide_eq_false_iff_not, List.any_eq_false, sizedB, Bool.not_eq_eq_eq_not, Bool.not_true, Bool.and_eq_true, decide_eq_true_eq] at h1
        simp only [decide_eq_true_eq] at h3
        simp only [runB, Bool.and_eq_true, bne_iff_ne, ne_eq, Bool.not_eq_true', Bool.and_eq_false_iff, decide_eq_false_iff_not] at h2
        obtain ⟨⟨h11, h12⟩, h13⟩ := h1
        refine ⟨by omega, fun l hl => ?_, by omega, by omega, by omega, by omega, by omega⟩
        have := h13 l hl
        simp only [Bool.and_eq_false_iff, decide_eq_false_iff_not, not_or, Decidable.not_not] at this
        omega
set_option maxHeartbeats 8000000 in
set_option maxRecDepth 100000 in
theorem edit_calls (A0 : Option Addr) (c0 : Nat) (o : List (List S39)) (f1 f2 : Int) (A3 : Option Addr) (c3 : Nat) (inn : List S39) (f4 : Bool) (f5 : Int) (w : World) (hr : Kd.C kL w A0 o.length o) (hr3 : Kd.C k39 w A3 inn.length inn) (hl : inn.length ≤ 1000000) :
    Calls Try.prog 70 #[.agg #[.slice A0 o.length c0, .int .i64 f1, .int .i64 f2, .slice A3 inn.length c3, .bool f4, .int .i64 f5]] w (EditPost o f1 f2 inn f4 f5 w) := by
  have HR := Lib.hid hr; have HR3 := Lib.hid hr3; have HL := Lib.hid hl
  clear hr hr3 hl
  go_enter Try.func70, Try.ntmps70
  go_wp2_with fail
  obtain ⟨w1, hw1⟩ : ∃ w1, w1 = w.alloc (.cells #[.slice A0 o.length c0, .int .i64 f1, .int .i64 f2, .slice A3 inn.length c3, .bool f4, .int .i64 f5] 61) := ⟨_, rfl⟩
  rw [← hw1]
  have E0 := Lib.hid (show EBlk w1 w.heap.size 61 (.slice A0 o.length c0) f1 f2 (.slice A3 inn.length c3) f4 f5 by rw [hw1]; exact EBlk.new w 61 _ _ _ _ _ _)
  have B0 := Lib.hid (show Below w.heap.size w w1 by rw [hw1]; exact below_one _ _)
  clear hw1
  refine (clCheck_calls A0 c0 o f1 f2 (.slice A3 inn.length c3) f4 f5 w1 (Kd.C_below HR.out B0.out)).mono ?_
  rintro e w2 ⟨rfl, hb⟩
  replace E0 := Lib.hid (E0.out.below hb)
  replace B0 := Lib.hid (bb B0.out hb)
  clear hb
  cases hc : (clCheck o f1 f2 f5 != 0)
  · have hz : clCheck o f1 f2 f5 = 0 := by simpa using hc
    have HZ := Lib.hid hz
    rw [hz] at hc ⊢
    have hsz := check_sized hz
    have SZ := Lib.hid hsz
    clear hz hsz
    go_wp2_with fail
    refine start_ (n := 10) (S := fun w' => w'.cell? ⟨w.heap.size, 0, none⟩ = some (.slice A0 o.length c0) ∧ w'.cell? ⟨w.heap.size, 3, none⟩ = some (.slice A3 inn.length c3)) (ds := [7, 9]) #[false, false, false, false, false, false, false, false, false, false] (by kernel_rfl) rfl rfl ⟨E0.out.c0, E0.out.c3⟩ (fun hHeld => ?_)
    refine pure_ (i := 0) (N := some 10) (v := ?_) (a' := ?_) #[true, false, false, false, false, false, false, false, false, false] rfl rfl (by kernel_rfl) (fun _ _ _ h => h) (Or.inl ⟨by rfl, ?_⟩) ?_ ?_
    rotate_left
    · intro w'
      go_simp
      with_reducible rfl
    rotate_left
    · simp only [Act.put, List.setIfInBounds_toArray, List.set_cons_zero, List.set_cons_succ, i64_w, i32_w]
      rfl
    refine pure_ (i := 3) (N := some 13) (v := ?_) (a' := ?_) #[true, false, false, true, false, false, false, false, false, false] rfl rfl (by kernel_rfl) (fun _ _ _ h => h) (Or.inl ⟨by rfl, ?_⟩) ?_ ?_
    rotate_left
    · intro w'
      go_simp
      with_reducible rfl
    rotate_left
    · simp only [Act.put, List.setIfInBounds_toArray, List.set_cons_zero, List.set_cons_succ, i64_w, i32_w]
      rfl
    refine take_ (i := 1) (N := some 11) (v := ?_) (a' := ?_) #[true, true, false, true, false, false, false, false, false, false] rfl rfl (by kernel_rfl) (fun _ _ _ h => h) (Or.inl ⟨by rfl, ?_⟩) hHeld ?_ ?_
    rotate_left
    · rintro w' ⟨s0, s1⟩
      go_simp
      with_reducible rfl
    rotate_left
    · simp only [Act.put, List.setIfInBounds_toArray, List.set_cons_zero, List.set_cons_succ, i64_w, i32_w]
      rfl
    refine take_ (i := 4) (N := some 14) (v := ?_) (a' := ?_) #[true, true, false, true, true, false, false, false, false, false] rfl rfl (by kernel_rfl) (fun _ _ _ h => h) (Or.inl ⟨by rfl, ?_⟩) hHeld ?_ ?_
    rotate_left
    · rintro w' ⟨s0, s1⟩
      go_simp
      with_reducible rfl
    rotate_left
    · simp only [Act.put, List.setIfInBounds_toArray, List.set_cons_zero, List.set_cons_succ, i64_w, i32_w]
      rfl
    refine one_ (i := 2) (N := some 12) #[true, true, true, true, true, false, false, false, false, false] rfl rfl (by kernel_rfl) (by decide) (fun K hK => ?_)
    refine goes_ Try.func90 (by kernel_rfl) rfl #[.slice A0 o.length c0] (by rfl) rfl rfl (by simp only [List.map_toArray, List.map_cons, List.map_nil]; rfl) ?_
    with_reducible refine (clones_calls A0 c0 o _ (Kd.C_drew (Kd.C_below HR.out B0.out)) (by have := SZ.out.1; omega) (fun l hl => (SZ.out.2.1 l hl).2)).mono ?_
    rintro e w3 ⟨vo, rfl, hO, hb⟩
    refine ⟨_, rfl, ?_⟩
    have B3 := Lib.hid (bb (below_drew B0.out) hb)
    have E3 := Lib.hid (EBlk.below (w := w2) E0.out (bb (below_drew (Below.refl _ _)) hb))
    obtain ⟨Ao, ko, rfl⟩ := Kd.R_slice hO
    have HO := Lib.hid hO
    clear hO hb
    refine hK.out _ _ ⟨E3.out.c0, E3.out.c3⟩ (fun hHeld => ?_)
    clear hK K
    refine norm_ (a' := ?_) ?_ ?_
    rotate_left
    · show Act.put _ (some 12) _ = _
      simp only [Act.put, List.setIfInBounds_toArray, List.set_cons_zero, List.set_cons_succ, i64_w, i32_w]
      rfl
    refine pure_ (i := 6) (N := some 16) (v := ?_) (a' := ?_) #[true, true, true, true, true, false, true, false, false, false] rfl rfl (by kernel_rfl) (fun _ _ _ h => h) (Or.inl ⟨by rfl, ?_⟩) ?_ ?_
    rotate_left
    · intro w'
      go_simp
      with_reducible rfl
    rotate_left
    · simp only [Act.put, List.setIfInBounds_toArray, List.set_cons_zero, List.set_cons_succ, i64_w, i32_w]
      rfl
    refine one_ (i := 5) (N := some 15) #[true, true, true, true, true, true, true, false, false, false] rfl rfl (by kernel_rfl) (by decide) (fun K hK => ?_)
    refine goes_ Try.func72 (by kernel_rfl) rfl #[.slice A3 inn.length c3] (by rfl) rfl rfl (by simp only [List.map_toArray, List.map_cons, List.map_nil]; rfl) ?_
    with_reducible refine (cloneR A3 c3 inn w3 (Kd.C_below HR3.out B3.out) (by have := HL.out; omega)).mono ?_
    rintro e w4 ⟨vi, rfl, hI, hb⟩
    refine ⟨_, rfl, ?_⟩
    obtain ⟨Ai, ki, rfl⟩ := Kd.R_slice hI
    have B4 := Lib.hid (bb B3.out hb)
    have E4 := Lib.hid (E3.out.below hb)
    have HO4 := Lib.hid (Kd.R_elder HO.out hI hb)
    have HI4 := Lib.hid hI
    clear hI hb
    refine hK.out _ _ ⟨E4.out.c0, E4.out.c3⟩ (fun hHeld => ?_)
    clear hK K
    refine norm_ (a' := ?_) ?_ ?_
    rotate_left
    · show Act.put _ (some 15) _ = _
      simp only [Act.put, List.setIfInBounds_toArray, List.set_cons_zero, List.set_cons_succ, i64_w, i32_w]
      rfl
    refine last_ (i := 7) (N := none) #[true, true, true, true, true, true, true, true, false, false] rfl rfl (by kernel_rfl) (by decide) (fun K hK => ?_)
    have q1 := E4.out.c0; have q2 := blk_frozen E4.out 0
    refine skip_ (w1 := ?_) (by rfl) rfl ?_ ?_
    rotate_left
    · go_simp
      rfl
    have E5 := Lib.hid (show EBlk (w4.setCell ⟨w.heap.size, 0, none⟩ (.slice Ao o.length ko)) w.heap.size 61 (.slice Ao o.length ko) f1 f2 (.slice A3 inn.length c3) f4 f5 from blk_put E4.out 0 _ rfl)
    clear q1 q2
    generalize hw5 : w4.setCell ⟨w.heap.size, 0, none⟩ (.slice Ao o.length ko) = w5 at E5 ⊢
    have HW5 := Lib.hid hw5
    clear hw5
    refine hK.out _ _ ?_
    clear hK K
    refine pure_ (i := 8) (N := some 17) (v := ?_) (a' := ?_) #[true, true, true, true, true, true, true, true, true, false] rfl rfl (by kernel_rfl) (fun _ _ _ h => h) (Or.inl ⟨by rfl, ?_⟩) ?_ ?_
    rotate_left
    · intro w'
      go_simp
      with_reducible rfl
    rotate_left
    · simp only [Act.put, List.setIfInBounds_toArray, List.set_cons_zero, List.set_cons_succ, i64_w, i32_w]
      rfl
    refine last_ (i := 9) (N := none) #[true, true, true, true, true, true, true, true, true, true] rfl rfl (by kernel_rfl) (by decide) (fun K hK => ?_)
    have q1 := E5.out.c3; have q2 := blk_frozen E5.out 3
    refine skip_ (w1 := ?_) (by rfl) rfl ?_ ?_
    rotate_left
    · go_simp
      rfl
    refine hK.out _ _ ?_
    clear hK K
    refine done_ (by kernel_rfl) ?_

    obtain ⟨w6, hw6⟩ : ∃ w6, w6 = w5.setCell ⟨w.heap.size, 3, none⟩ (.slice Ai inn.length ki) := ⟨_, rfl⟩
    rw [← hw6]
    have E6 := Lib.hid (show EBlk w6 w.heap.size 61 (.slice Ao o.length ko) f1 f2 (.slice Ai inn.length ki) f4 f5 by rw [hw6]; exact blk_put E5.out 3 _ rfl)
    have HO6 := Lib.hid (show Kd.R kL 28 w6 w.heap.size (fun k => True ∧ some k ≠ (Value.slice Ai inn.length ki).ownBlock) (.slice Ao o.length ko) o by
      rw [hw6]; refine Kd.R_set (Kd.R_lower ?_ B0.out.size) E5.out (by decide) 3 _
      rw [← HW5.out]; exact Kd.R_set HO4.out E4.out (by decide) 0 _)
    have HI6 := Lib.hid (show Kd.R k39 39 w6 w.heap.size (fun _ => True) (.slice Ai inn.length ki) inn by
      rw [hw6]; refine Kd.R_set (Kd.R_lower ?_ B3.out.size) E5.out (by decide) 3 _
      rw [← HW5.out]; exact Kd.R_set HI4.out E4.out (by decide) 0 _)
    have B6 := Lib.hid (show Below w.heap.size w w6 by
      rw [hw6]
      refine Fr.below (Fr.set w5 w.heap.size 3 _) ?_ (Nat.le_refl _) (fun k hk => by omega)
      rw [← HW5.out]
      exact Fr.below (Fr.set w4 w.heap.size 0 _) B4.out (Nat.le_refl _) (fun k hk => by omega))
    clear hw6
    have x0 := E6.out.c0; have x1 := E6.out.c1; have x2 := E6.out.c2; have x3 := E6.out.c3; have x4 := E6.out.c4; have x5 := E6.out.c5
    go_wp2_with fail
    go_ret2
    refine Or.inr ⟨HZ.out, w6.heap.size, _, _, rfl, al B6.out _, B6.out.size, EBlk.new w6 117 _ _ _ _ _ _, Kd.R_alloc HO6.out _, Kd.R_alloc HI6.out _⟩
  · obtain ⟨r, hr'⟩ : ∃ r, r = clCheck o f1 f2 f5 := ⟨_, rfl⟩
    rw [← hr'] at hc ⊢
    have R := Lib.hid hr'
    have HC := Lib.hid (show r ≠ 0 by simpa using hc)
    clear hr'
    go_wp2_with fail
    go_ret2
    exact Or.inl ⟨by rw [← R.out]; exact HC.out, by rw [← R.out]; rfl, B0.out⟩
end Go.Proofs.Ytbfhohpbldadbaa.P
