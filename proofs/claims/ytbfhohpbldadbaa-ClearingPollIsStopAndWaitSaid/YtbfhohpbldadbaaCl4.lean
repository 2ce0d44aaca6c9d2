import Derived.Test.YtbfhohpbldadbaaCl3
namespace Go.Proofs.Ytbfhohpbldadbaa.P
open Go Go.RowKit Go.Proofs.YtbfhohpbldadbaaW.PrintWords Go.Proofs.YtbfhohpbldadbaaW.PrintLast Go.Proofs.YtbfhohpbldadbaaW.PrintMore
set_option linter.unusedVariables false
set_option linter.unusedSimpArgs false
/-- The cells of a batch. -/
def BBlk (w : World) (g : Nat) (no : Int) (ack : Bool) (v : Value) : Prop := w.heap[g]? = some (.cells #[.int .i64 no, .bool ack, v] 83 (0, 0))
section
variable {w w' : World} {g : Nat} {no : Int} {ack : Bool} {v : Value}
theorem BBlk.c0 (h : BBlk w g no ack v) : w.cell? ⟨g, 0, none⟩ = some (.int .i64 no) := (cell_of_row w g 0 _ 83 (0, 0) h).trans rfl
theorem BBlk.c1 (h : BBlk w g no ack v) : w.cell? ⟨g, 1, none⟩ = some (.bool ack) := (cell_of_row w g 1 _ 83 (0, 0) h).trans rfl
theorem BBlk.c2 (h : BBlk w g no ack v) : w.cell? ⟨g, 2, none⟩ = some v := (cell_of_row w g 2 _ 83 (0, 0) h).trans rfl
theorem BBlk.below (h : BBlk w g no ack v) (hb : Below w.heap.size w w') : BBlk w' g no ack v := (hb.block g (heap_lt h)).trans h
theorem BBlk.new (w : World) (no : Int) (ack : Bool) (v : Value) : BBlk (w.alloc (.cells #[.int .i64 no, .bool ack, v] 83)) w.heap.size no ack v := heap_alloc_new w _
end
/-- An end under modification, as it will be read. -/
structure EdV (w W : World) (g : Nat) (vo : Value) (o : List (List S39)) (f1 f2 : Int) (vi : Value) (inn : List S39) (f4 : Bool) (f5 : Int) : Prop where
  low : Below w.heap.size w W
  blk : EBlk W g 117 vo f1 f2 vi f4 f5
  out : Kd.V kL 28 W w.heap.size (fun k => w.heap.size ≤ k) vo o
  inn : Kd.V k39 39 W w.heap.size (fun k => w.heap.size ≤ k) vi inn
theorem EdW.v {w W : World} {g : Nat} {vo vi : Value} {o : List (List S39)} {inn : List S39} {f1 f2 f5 : Int} {f4 : Bool} (h : EdW w W g vo o f1 f2 vi inn f4 f5) : EdV w W g vo o f1 f2 vi inn f4 f5 :=
  ⟨h.low, h.blk, Kd.R_V (Kd.R_mono (Kd.R_bound h.out) (fun _ hk => hk.2.1)), Kd.R_V (Kd.R_mono (Kd.R_bound h.inn) (fun _ hk => hk.2.1))⟩
theorem below_set {B : Nat} {w W : World} (h : Below B w W) (hB : B ≤ w.heap.size) {g : Nat} (hg : B ≤ g) (j : Nat) (u : Value) : Below B w (W.setCell ⟨g, j, none⟩ u) :=
  Fr.below (Fr.set W g j u) h hB (fun k hk => by omega)
theorem EdW.set {w W : World} {g : Nat} {vo vi : Value} {o : List (List S39)} {inn : List S39} {f1 f2 f5 : Int} {f4 : Bool} (h : EdW w W g vo o f1 f2 vi inn f4 f5) {f1' f2' f5' : Int} {f4' : Bool} (j : Nat) (u : Value)
    (hu : (#[vo, .int .i64 f1, .int .i64 f2, vi, .bool f4, .int .i64 f5] : Array Value).setIfInBounds j u = #[vo, .int .i64 f1', .int .i64 f2', vi, .bool f4', .int .i64 f5']) : EdW w (W.setCell ⟨g, j, none⟩ u) g vo o f1' f2' vi inn f4' f5' :=
  ⟨below_set h.low (Nat.le_refl _) h.ge j u, h.ge, blk_put h.blk j u hu, Kd.R_set h.out h.blk (by decide) j u, Kd.R_set h.inn h.blk (by decide) j u⟩
def AccPost (o : List (List S39)) (f1 f2 : Int) (inn : List S39) (f4 : Bool) (f5 : Int) (no : Int) (recs : List S39) (w : World) (g : Nat) (vo vi : Value) (e : Ending) (W' : World) : Prop :=
  (f2 < no ∧ e = .returned (.int .i64 300) ∧ Below w.heap.size w W') ∨ (no = f2 ∧ e = .returned (.int .i64 0) ∧ ∃ vi', EdW w W' g vo o f1 (f2 + 1) vi' (inn ++ recs) true f5) ∨ (no < f2 ∧ e = .returned (.int .i64 0) ∧ EdW w W' g vo o f1 f2 vi inn true f5)

set_option maxHeartbeats 8000000 in
set_option maxRecDepth 100000 in
theorem accept_calls (w : World) (g : Nat) (vo vi : Value) (o : List (List S39)) (f1 f2 : Int) (inn : List S39) (f4 : Bool) (f5 no : Int) (ack : Bool) (A2 : Option Addr) (c2 : Nat) (recs : List S39) (W : World) (hE : EdW w W g vo o f1 f2 vi inn f4 f5) (hr : Kd.C k39 W A2 recs.length recs) (hn0 : 0 ≤ f2) (hn1 : f2 ≤ 1099511627776) (hl : inn.length ≤ 1000000) (hl2 : recs.length ≤ 1024) :
    Calls Try.prog 76 #[.pointer (some ⟨g, 0, none⟩), .agg #[.int .i64 no, .bool ack, .slice A2 recs.length c2]] W (AccPost o f1 f2 inn f4 f5 no recs w g vo vi) := by
  have HE := Lib.hid hE; have HR := Lib.hid hr; have HN0 := Lib.hid hn0; have HN1 := Lib.hid hn1; have HL := Lib.hid hl; have HL2 := Lib.hid hl2
  clear hE hr hn0 hn1 hl hl2
  go_enter Try.func76, Try.ntmps76
  go_wp2_with fail
  obtain ⟨w1, hw1⟩ : ∃ w1, w1 = W.alloc (.cells #[.int .i64 no, .bool ack, .slice A2 recs.length c2] 83) := ⟨_, rfl⟩
  rw [← hw1]
  have X0 := Lib.hid (show BBlk w1 W.heap.size no ack (.slice A2 recs.length c2) by rw [hw1]; exact BBlk.new W _ _ _)
  have E0 := Lib.hid (show EdW w w1 g vo o f1 f2 vi inn f4 f5 by rw [hw1]; exact HE.out.below (below_one _ _))
  have C0 := Lib.hid (show Kd.C k39 w1 A2 recs.length recs by rw [hw1]; exact Kd.C_below HR.out (below_one _ _))
  clear hw1 HE HR
  generalize W.heap.size = gb at X0 ⊢
  have X := Lib.hid (show BBlk w1.drew gb no ack (.slice A2 recs.length c2) from X0.out.below (below_drew (Below.refl _ _)))
  have E := Lib.hid (show EdW w w1.drew g vo o f1 f2 vi inn f4 f5 from E0.out.below (below_drew (Below.refl _ _)))
  have C := Lib.hid (show Kd.C k39 w1.drew A2 recs.length recs from Kd.C_drew C0.out)
  clear X0 E0 C0
  refine start_ (n := 8) (S := fun w' => w'.cell? ⟨gb, 0, none⟩ = some (.int .i64 no) ∧ w'.cell? ⟨g, 2, none⟩ = some (.int .i64 f2)) (ds := []) #[false, false, false, false, false, false, false, false] (by kernel_rfl) rfl rfl ⟨X.out.c0, E.out.blk.c2⟩ (fun hHeld => ?_)
  generalize w1.drew = w2 at X E C hHeld ⊢
  refine pure_ (i := 0) (N := some 5) (v := ?_) (a' := ?_) #[true, false, false, false, false, false, false, false] rfl rfl (by kernel_rfl) (fun _ _ _ h => h) (Or.inl ⟨by rfl, ?_⟩) ?_ ?_
  rotate_left
  · intro w'
    go_simp
    with_reducible rfl
  rotate_left
  · simp only [Act.put, List.setIfInBounds_toArray, List.set_cons_zero, List.set_cons_succ, i64_w, i32_w]
    rfl
  refine pure_ (i := 2) (N := some 7) (v := ?_) (a' := ?_) #[true, false, true, false, false, false, false, false] rfl rfl (by kernel_rfl) (fun _ _ _ h => h) (Or.inl ⟨by rfl, ?_⟩) ?_ ?_
  rotate_left
  · intro w'
    go_simp
    with_reducible rfl
  rotate_left
  · simp only [Act.put, List.setIfInBounds_toArray, List.set_cons_zero, List.set_cons_succ, i64_w, i32_w]
    rfl
  refine pure_ (i := 3) (N := some 8) (v := ?_) (a' := ?_) #[true, false, true, true, false, false, false, false] rfl rfl (by kernel_rfl) (fun _ _ _ h => h) (Or.inl ⟨by rfl, ?_⟩) ?_ ?_
  rotate_left
  · intro w'
    go_simp
    with_reducible rfl
  rotate_left
  · simp only [Act.put, List.setIfInBounds_toArray, List.set_cons_zero, List.set_cons_succ, i64_w, i32_w]
    rfl
  refine pure_ (i := 4) (N := some 9) (v := ?_) (a' := ?_) #[true, false, true, true, true, false, false, false] rfl rfl (by kernel_rfl) (fun _ _ _ h => h) (Or.inl ⟨by rfl, ?_⟩) ?_ ?_
  rotate_left
  · intro w'
    go_simp
    with_reducible rfl
  rotate_left
  · simp only [Act.put, List.setIfInBounds_toArray, List.set_cons_zero, List.set_cons_succ, i64_w, i32_w]
    rfl
  refine pure_ (i := 5) (N := some 10) (v := ?_) (a' := ?_) #[true, false, true, true, true, true, false, false] rfl rfl (by kernel_rfl) (fun _ _ _ h => h) (Or.inl ⟨by rfl, ?_⟩) ?_ ?_
  rotate_left
  · intro w'
    go_simp
    with_reducible rfl
  rotate_left
  · simp only [Act.put, List.setIfInBounds_toArray, List.set_cons_zero, List.set_cons_succ, i64_w, i32_w]
    rfl
  refine take_ (i := 1) (N := some 6) (v := ?_) (a' := ?_) #[true, true, true, true, true, true, false, false] rfl rfl (by kernel_rfl) (fun _ _ _ h => h) (Or.inl ⟨by rfl, ?_⟩) hHeld ?_ ?_
  rotate_left
  · rintro w' ⟨s0, s1⟩
    go_simp
    with_reducible rfl
  rotate_left
  · simp only [Act.put, List.setIfInBounds_toArray, List.set_cons_zero, List.set_cons_succ, i64_w, i32_w]
    rfl
  refine take_ (i := 6) (N := some 11) (v := ?_) (a' := ?_) #[true, true, true, true, true, true, true, false] rfl rfl (by kernel_rfl) (fun _ _ _ h => h) (Or.inl ⟨by rfl, ?_⟩) hHeld ?_ ?_
  rotate_left
  · rintro w' ⟨s0, s1⟩
    go_simp
    with_reducible rfl
  rotate_left
  · simp only [Act.put, List.setIfInBounds_toArray, List.set_cons_zero, List.set_cons_succ, i64_w, i32_w]
    rfl
  refine pure_ (i := 7) (N := some 12) (v := ?_) (a' := ?_) #[true, true, true, true, true, true, true, true] rfl rfl (by kernel_rfl) (fun _ _ _ h => h) (Or.inl ⟨by rfl, ?_⟩) ?_ ?_
  rotate_left
  · intro w'
    go_simp
    with_reducible rfl
  rotate_left
  · simp only [Act.put, List.setIfInBounds_toArray, List.set_cons_zero, List.set_cons_succ, i64_w, i32_w]
    rfl
  refine done_ (by kernel_rfl) ?_

  by_cases h1 : f2 < no
  · go_wp2_with fail
    go_ret
    exact Or.inl ⟨h1, rfl, E.out.low⟩
  · go_wp2_with fail
    have H1 := Lib.hid h1
    replace X := Lib.hid (show BBlk w2.drew gb no ack (.slice A2 recs.length c2) from X.out.below (below_drew (Below.refl _ _)))
    replace E := Lib.hid (show EdW w w2.drew g vo o f1 f2 vi inn f4 f5 from E.out.below (below_drew (Below.refl _ _)))
    replace C := Lib.hid (show Kd.C k39 w2.drew A2 recs.length recs from Kd.C_drew C.out)
    clear hHeld
    refine start_ (n := 8) (S := fun w' => w'.cell? ⟨gb, 0, none⟩ = some (.int .i64 no) ∧ w'.cell? ⟨g, 2, none⟩ = some (.int .i64 f2)) (ds := []) #[false, false, false, false, false, false, false, false] (by kernel_rfl) rfl rfl ⟨X.out.c0, E.out.blk.c2⟩ (fun hHeld => ?_)
    generalize w2.drew = w3 at X E C hHeld ⊢
    refine pure_ (i := 0) (N := some 13) (v := ?_) (a' := ?_) #[true, false, false, false, false, false, false, false] rfl rfl (by kernel_rfl) (fun _ _ _ h => h) (Or.inl ⟨by rfl, ?_⟩) ?_ ?_
    rotate_left
    · intro w'
      go_simp
      with_reducible rfl
    rotate_left
    · simp only [Act.put, List.setIfInBounds_toArray, List.set_cons_zero, List.set_cons_succ, i64_w, i32_w]
      rfl
    refine pure_ (i := 2) (N := some 15) (v := ?_) (a' := ?_) #[true, false, true, false, false, false, false, false] rfl rfl (by kernel_rfl) (fun _ _ _ h => h) (Or.inl ⟨by rfl, ?_⟩) ?_ ?_
    rotate_left
    · intro w'
      go_simp
      with_reducible rfl
    rotate_left
    · simp only [Act.put, List.setIfInBounds_toArray, List.set_cons_zero, List.set_cons_succ, i64_w, i32_w]
      rfl
    refine pure_ (i := 3) (N := some 16) (v := ?_) (a' := ?_) #[true, false, true, true, false, false, false, false] rfl rfl (by kernel_rfl) (fun _ _ _ h => h) (Or.inl ⟨by rfl, ?_⟩) ?_ ?_
    rotate_left
    · intro w'
      go_simp
      with_reducible rfl
    rotate_left
    · simp only [Act.put, List.setIfInBounds_toArray, List.set_cons_zero, List.set_cons_succ, i64_w, i32_w]
      rfl
    refine pure_ (i := 4) (N := some 17) (v := ?_) (a' := ?_) #[true, false, true, true, true, false, false, false] rfl rfl (by kernel_rfl) (fun _ _ _ h => h) (Or.inl ⟨by rfl, ?_⟩) ?_ ?_
    rotate_left
    · intro w'
      go_simp
      with_reducible rfl
    rotate_left
    · simp only [Act.put, List.setIfInBounds_toArray, List.set_cons_zero, List.set_cons_succ, i64_w, i32_w]
      rfl
    refine pure_ (i := 5) (N := some 18) (v := ?_) (a' := ?_) #[true, false, true, true, true, true, false, false] rfl rfl (by kernel_rfl) (fun _ _ _ h => h) (Or.inl ⟨by rfl, ?_⟩) ?_ ?_
    rotate_left
    · intro w'
      go_simp
      with_reducible rfl
    rotate_left
    · simp only [Act.put, List.setIfInBounds_toArray, List.set_cons_zero, List.set_cons_succ, i64_w, i32_w]
      rfl
    refine take_ (i := 1) (N := some 14) (v := ?_) (a' := ?_) #[true, true, true, true, true, true, false, false] rfl rfl (by kernel_rfl) (fun _ _ _ h => h) (Or.inl ⟨by rfl, ?_⟩) hHeld ?_ ?_
    rotate_left
    · rintro w' ⟨s0, s1⟩
      go_simp
      with_reducible rfl
    rotate_left
    · simp only [Act.put, List.setIfInBounds_toArray, List.set_cons_zero, List.set_cons_succ, i64_w, i32_w]
      rfl
    refine take_ (i := 6) (N := some 19) (v := ?_) (a' := ?_) #[true, true, true, true, true, true, true, false] rfl rfl (by kernel_rfl) (fun _ _ _ h => h) (Or.inl ⟨by rfl, ?_⟩) hHeld ?_ ?_
    rotate_left
    · rintro w' ⟨s0, s1⟩
      go_simp
      with_reducible rfl
    rotate_left
    · simp only [Act.put, List.setIfInBounds_toArray, List.set_cons_zero, List.set_cons_succ, i64_w, i32_w]
      rfl
    refine pure_ (i := 7) (N := some 20) (v := ?_) (a' := ?_) #[true, true, true, true, true, true, true, true] rfl rfl (by kernel_rfl) (fun _ _ _ h => h) (Or.inl ⟨by rfl, ?_⟩) ?_ ?_
    rotate_left
    · intro w'
      go_simp
      with_reducible rfl
    rotate_left
    · simp only [Act.put, List.setIfInBounds_toArray, List.set_cons_zero, List.set_cons_succ, i64_w, i32_w]
      rfl
    refine done_ (by kernel_rfl) ?_

    by_cases h2 : no = f2
    · subst h2
      go_wp2_with fail
      replace X := Lib.hid (show BBlk w3.drew gb no ack (.slice A2 recs.length c2) from X.out.below (below_drew (Below.refl _ _)))
      replace E := Lib.hid (show EdW w w3.drew g vo o f1 no vi inn f4 f5 from E.out.below (below_drew (Below.refl _ _)))
      replace C := Lib.hid (show Kd.C k39 w3.drew A2 recs.length recs from Kd.C_drew C.out)
      obtain ⟨Ai, ki, rfl⟩ := Kd.R_slice E.out.inn
      clear hHeld
      refine start_ (n := 13) (S := fun w' => w'.cell? ⟨g, 3, none⟩ = some (.slice Ai inn.length ki) ∧ w'.cell? ⟨gb, 2, none⟩ = some (.slice A2 recs.length c2)) (ds := [12]) #[false, false, false, false, false, false, false, false, false, false, false, false, false] (by kernel_rfl) rfl rfl ⟨E.out.blk.c3, X.out.c2⟩ (fun hHeld => ?_)
      generalize w3.drew = w4 at X E C hHeld ⊢
      refine pure_ (i := 0) (N := some 21) (v := ?_) (a' := ?_) #[true, false, false, false, false, false, false, false, false, false, false, false, false] rfl rfl (by kernel_rfl) (fun _ _ _ h => h) (Or.inl ⟨by rfl, ?_⟩) ?_ ?_
      rotate_left
      · intro w'
        go_simp
        with_reducible rfl
      rotate_left
      · simp only [Act.put, List.setIfInBounds_toArray, List.set_cons_zero, List.set_cons_succ, i64_w, i32_w]
        rfl
      refine pure_ (i := 1) (N := some 22) (v := ?_) (a' := ?_) #[true, true, false, false, false, false, false, false, false, false, false, false, false] rfl rfl (by kernel_rfl) (fun _ _ _ h => h) (Or.inl ⟨by rfl, ?_⟩) ?_ ?_
      rotate_left
      · intro w'
        go_simp
        with_reducible rfl
      rotate_left
      · simp only [Act.put, List.setIfInBounds_toArray, List.set_cons_zero, List.set_cons_succ, i64_w, i32_w]
        rfl
      refine pure_ (i := 2) (N := some 23) (v := ?_) (a' := ?_) #[true, true, true, false, false, false, false, false, false, false, false, false, false] rfl rfl (by kernel_rfl) (fun _ _ _ h => h) (Or.inl ⟨by rfl, ?_⟩) ?_ ?_
      rotate_left
      · intro w'
        go_simp
        with_reducible rfl
      rotate_left
      · simp only [Act.put, List.setIfInBounds_toArray, List.set_cons_zero, List.set_cons_succ, i64_w, i32_w]
        rfl
      refine pure_ (i := 3) (N := some 24) (v := ?_) (a' := ?_) #[true, true, true, true, false, false, false, false, false, false, false, false, false] rfl rfl (by kernel_rfl) (fun _ _ _ h => h) (Or.inl ⟨by rfl, ?_⟩) ?_ ?_
      rotate_left
      · intro w'
        go_simp
        with_reducible rfl
      rotate_left
      · simp only [Act.put, List.setIfInBounds_toArray, List.set_cons_zero, List.set_cons_succ, i64_w, i32_w]
        rfl
      refine pure_ (i := 4) (N := some 25) (v := ?_) (a' := ?_) #[true, true, true, true, true, false, false, false, false, false, false, false, false] rfl rfl (by kernel_rfl) (fun _ _ _ h => h) (Or.inl ⟨by rfl, ?_⟩) ?_ ?_
      rotate_left
      · intro w'
        go_simp
        with_reducible rfl
      rotate_left
      · simp only [Act.put, List.setIfInBounds_toArray, List.set_cons_zero, List.set_cons_succ, i64_w, i32_w]
        rfl
      refine pure_ (i := 6) (N := some 27) (v := ?_) (a' := ?_) #[true, true, true, true, true, false, true, false, false, false, false, false, false] rfl rfl (by kernel_rfl) (fun _ _ _ h => h) (Or.inl ⟨by rfl, ?_⟩) ?_ ?_
      rotate_left
      · intro w'
        go_simp
        with_reducible rfl
      rotate_left
      · simp only [Act.put, List.setIfInBounds_toArray, List.set_cons_zero, List.set_cons_succ, i64_w, i32_w]
        rfl
      refine take_ (i := 5) (N := some 26) (v := ?_) (a' := ?_) #[true, true, true, true, true, true, true, false, false, false, false, false, false] rfl rfl (by kernel_rfl) (fun _ _ _ h => h) (Or.inl ⟨by rfl, ?_⟩) hHeld ?_ ?_
      rotate_left
      · rintro w' ⟨s0, s1⟩
        go_simp
        with_reducible rfl
      rotate_left
      · simp only [Act.put, List.setIfInBounds_toArray, List.set_cons_zero, List.set_cons_succ, i64_w, i32_w]
        rfl
      refine take_ (i := 7) (N := some 28) (v := ?_) (a' := ?_) #[true, true, true, true, true, true, true, true, false, false, false, false, false] rfl rfl (by kernel_rfl) (fun _ _ _ h => h) (Or.inl ⟨by rfl, ?_⟩) hHeld ?_ ?_
      rotate_left
      · rintro w' ⟨s0, s1⟩
        go_simp
        with_reducible rfl
      rotate_left
      · simp only [Act.put, List.setIfInBounds_toArray, List.set_cons_zero, List.set_cons_succ, i64_w, i32_w]
        rfl
      refine one_ (i := 8) (N := some 29) #[true, true, true, true, true, true, true, true, true, false, false, false, false] rfl rfl (by kernel_rfl) (by decide) (fun K hK => ?_)
      refine app39 w.heap.size (by rfl) (.tmp 26) (.tmp 28) (by rfl) (.slice Ai inn.length ki) inn recs A2 recs.length c2 (by rfl) (by rfl) E.out.inn C.out E.out.low.size (by have := HL.out; have := HL2.out; omega) ?_
      intro v3 w5 hR3 hg3 hat3
      obtain ⟨A5, k5, rfl⟩ := Kd.R_slice hR3
      have hlen : (inn ++ recs).length = inn.length + recs.length := List.length_append
      simp only [hlen] at hR3 hat3 hg3 ⊢
      clear hlen
      have E5 := Lib.hid (show EBlk w5 g 117 vo f1 no (.slice Ai inn.length ki) f4 f5 from blk_grown E.out.blk hg3 (Kd.R_ne E.out.inn E.out.blk (by decide)))
      have X5 := Lib.hid (show BBlk w5 gb no ack (.slice A2 recs.length c2) from blk_grown X.out hg3 (Kd.R_ne E.out.inn X.out (by decide)))
      have O5 := Lib.hid (Kd.R_after E.out.out hg3 hat3)
      have I5 := Lib.hid hR3
      have B5 := Lib.hid (Fr.below (Fr.of_grown hg3) E.out.low (Nat.le_refl _) (fun k hk => Kd.R_base E.out.inn k hk.symm))
      clear hR3 hg3 hat3
      refine hK.out _ _ ⟨E5.out.c3, X5.out.c2⟩ (fun hHeld => ?_)
      clear hK K
      refine norm_ (a' := ?_) ?_ ?_
      rotate_left
      · show Act.put _ (some 29) _ = _
        simp only [Act.put, List.setIfInBounds_toArray, List.set_cons_zero, List.set_cons_succ, i64_w, i32_w]
        rfl
      refine pure_ (i := 9) (N := some 30) (v := ?_) (a' := ?_) #[true, true, true, true, true, true, true, true, true, true, false, false, false] rfl rfl (by kernel_rfl) (fun _ _ _ h => h) (Or.inl ⟨by rfl, ?_⟩) ?_ ?_
      rotate_left
      · intro w'
        go_simp
        with_reducible rfl
      rotate_left
      · simp only [Act.put, List.setIfInBounds_toArray, List.set_cons_zero, List.set_cons_succ, i64_w, i32_w]
        rfl
      refine pure_ (i := 10) (N := some 31) (v := ?_) (a' := ?_) #[true, true, true, true, true, true, true, true, true, true, true, false, false] rfl rfl (by kernel_rfl) (fun _ _ _ h => h) (Or.inl ⟨by rfl, ?_⟩) ?_ ?_
      rotate_left
      · intro w'
        go_simp
        with_reducible rfl
      rotate_left
      · simp only [Act.put, List.setIfInBounds_toArray, List.set_cons_zero, List.set_cons_succ, i64_w, i32_w]
        rfl
      refine pure_ (i := 11) (N := some 32) (v := ?_) (a' := ?_) #[true, true, true, true, true, true, true, true, true, true, true, true, false] rfl rfl (by kernel_rfl) (fun _ _ _ h => h) (Or.inl ⟨by rfl, ?_⟩) ?_ ?_
      rotate_left
      · intro w'
        go_simp
        with_reducible rfl
      rotate_left
      · simp only [Act.put, List.setIfInBounds_toArray, List.set_cons_zero, List.set_cons_succ, i64_w, i32_w]
        rfl
      refine last_ (i := 12) (N := none) #[true, true, true, true, true, true, true, true, true, true, true, true, true] rfl rfl (by kernel_rfl) (by decide) (fun K hK => ?_)
      have q1 := E5.out.c3; have q2 := blk_frozen E5.out 3
      refine skip_ (w1 := ?_) (by rfl) rfl ?_ ?_
      rotate_left
      · go_simp
        rfl
      refine hK.out _ _ ?_
      clear hK K
      refine done_ (by kernel_rfl) ?_

      obtain ⟨w6, hw6⟩ : ∃ w6, w6 = w5.setCell ⟨g, 3, none⟩ (.slice A5 (inn.length + recs.length) k5) := ⟨_, rfl⟩
      rw [← hw6]
      have E6 := Lib.hid (show EdW w w6 g vo o f1 no (.slice A5 (inn.length + recs.length) k5) (inn ++ recs) f4 f5 by
        rw [hw6]
        exact ⟨below_set B5.out (Nat.le_refl _) E.out.ge 3 _, E.out.ge, blk_put E5.out 3 _ rfl, Kd.R_set O5.out E5.out (by decide) 3 _, Kd.R_set I5.out E5.out (by decide) 3 _⟩)
      clear hw6 E5 X5 O5 I5 B5
      have x2 := E6.out.blk.c2; have z2 := blk_frozen E6.out.blk 2; have x4 := E6.out.blk.c4; have z4 := blk_frozen E6.out.blk 4
      go_wp2_with fail
      go_ret
      have hw := wid (n := no + 1) (by have := HN0.out; omega) (by have := HN1.out; omega)
      refine Or.inr (Or.inl ⟨rfl, rfl, .slice A5 (inn.length + recs.length) k5, ?_⟩)
      exact EdW.set (EdW.set (f2' := no + 1) (f1' := f1) (f5' := f5) (f4' := f4) E6.out 2 (.int .i64 (wrap64 (no + 1))) (by rw [hw]; rfl)) 4 (.bool true) rfl
    · have H2 := Lib.hid h2
      have x4 := E.out.blk.c4; have z4 := blk_frozen E.out.blk 4
      go_wp2_with fail
      go_ret
      exact Or.inr (Or.inr ⟨by have := H1.out; omega, rfl, EdW.set E.out 4 _ rfl⟩)

theorem EBlk.as1 {w : World} {g t : Nat} {v0 v3 : Value} {f1 f1' f2 f5 : Int} {f4 : Bool} (h : EBlk w g t v0 f1 f2 v3 f4 f5) (e : f1 = f1') : EBlk w g t v0 f1' f2 v3 f4 f5 := e ▸ h
def AckPost (o : List (List S39)) (f1 f2 : Int) (inn : List S39) (f4 : Bool) (f5 : Int) (no : Int) (w : World) (g : Nat) (vo vi : Value) (e : Ending) (W' : World) : Prop :=
  (no ≤ f1 ∧ e = .returned (.int .i64 0) ∧ EdW w W' g vo o f1 f2 vi inn f4 f5) ∨ ((f1 < no ∧ (f1 + 1 < no ∨ f5 = -1)) ∧ e = .returned (.int .i64 300) ∧ Below w.heap.size w W') ∨ ((no = f1 + 1 ∧ f5 ≠ -1) ∧ e = .returned (.int .i64 0) ∧ ∃ vo', EdV w W' g vo' (o.drop 1) (f1 + 1) f2 vi inn f4 (-1))
set_option maxHeartbeats 8000000 in
set_option maxRecDepth 100000 in
theorem ack_calls (w : World) (g : Nat) (vo vi : Value) (o : List (List S39)) (f1 f2 : Int) (inn : List S39) (f4 : Bool) (f5 no : Int) (ack : Bool) (v2 : Value) (W : World) (hE : EdW w W g vo o f1 f2 vi inn f4 f5) (hn0 : 0 ≤ f1) (hn1 : f1 ≤ 1099511627776) (hd : f5 ≠ -1 → 0 < o.length) (hv2 : ∃ A n c, v2 = .slice A n c) :
    Calls Try.prog 77 #[.pointer (some ⟨g, 0, none⟩), .agg #[.int .i64 no, .bool ack, v2]] W (AckPost o f1 f2 inn f4 f5 no w g vo vi) := by
  obtain ⟨A2, n2, c2, rfl⟩ := hv2
  have HE := Lib.hid hE; have HN0 := Lib.hid hn0; have HN1 := Lib.hid hn1; have HD := Lib.hid hd
  have hw := wid (n := f1 + 1) (by omega) (by omega)
  obtain ⟨f1s, hf1s⟩ : ∃ f1s, f1s = wrap64 (f1 + 1) := ⟨_, rfl⟩
  have HF1 := Lib.hid (show f1s = f1 + 1 by rw [hf1s]; exact hw)
  have HW := Lib.hid hf1s
  clear hE hn0 hn1 hd hw hf1s
  go_enter Try.func77, Try.ntmps77
  go_wp2_with fail
  obtain ⟨w1, hw1⟩ : ∃ w1, w1 = W.alloc (.cells #[.int .i64 no, .bool ack, .slice A2 n2 c2] 83) := ⟨_, rfl⟩
  rw [← hw1]
  have X0 := Lib.hid (show BBlk w1 W.heap.size no ack (.slice A2 n2 c2) by rw [hw1]; exact BBlk.new W _ _ _)
  have E0 := Lib.hid (show EdW w w1 g vo o f1 f2 vi inn f4 f5 by rw [hw1]; exact HE.out.below (below_one _ _))
  clear hw1 HE
  generalize W.heap.size = gb at X0 ⊢
  have X := Lib.hid (show BBlk w1.drew gb no ack (.slice A2 n2 c2) from X0.out.below (below_drew (Below.refl _ _)))
  have E := Lib.hid (show EdW w w1.drew g vo o f1 f2 vi inn f4 f5 from E0.out.below (below_drew (Below.refl _ _)))
  clear X0 E0
  refine start_ (n := 9) (S := fun w' => w'.cell? ⟨gb, 0, none⟩ = some (.int .i64 no) ∧ w'.cell? ⟨g, 1, none⟩ = some (.int .i64 f1)) (ds := []) #[false, false, false, false, false, false, false, false, false] (by kernel_rfl) rfl rfl ⟨X.out.c0, E.out.blk.c1⟩ (fun hHeld => ?_)
  generalize w1.drew = w2 at X E hHeld ⊢
  refine pure_ (i := 0) (N := some 6) (v := ?_) (a' := ?_) #[true, false, false, false, false, false, false, false, false] rfl rfl (by kernel_rfl) (fun _ _ _ h => h) (Or.inl ⟨by rfl, ?_⟩) ?_ ?_
  rotate_left
  · intro w'
    go_simp
    with_reducible rfl
  rotate_left
  · simp only [Act.put, List.setIfInBounds_toArray, List.set_cons_zero, List.set_cons_succ, i64_w, i32_w]
    rfl
  refine pure_ (i := 2) (N := some 8) (v := ?_) (a' := ?_) #[true, false, true, false, false, false, false, false, false] rfl rfl (by kernel_rfl) (fun _ _ _ h => h) (Or.inl ⟨by rfl, ?_⟩) ?_ ?_
  rotate_left
  · intro w'
    go_simp
    with_reducible rfl
  rotate_left
  · simp only [Act.put, List.setIfInBounds_toArray, List.set_cons_zero, List.set_cons_succ, i64_w, i32_w]
    rfl
  refine pure_ (i := 3) (N := some 9) (v := ?_) (a' := ?_) #[true, false, true, true, false, false, false, false, false] rfl rfl (by kernel_rfl) (fun _ _ _ h => h) (Or.inl ⟨by rfl, ?_⟩) ?_ ?_
  rotate_left
  · intro w'
    go_simp
    with_reducible rfl
  rotate_left
  · simp only [Act.put, List.setIfInBounds_toArray, List.set_cons_zero, List.set_cons_succ, i64_w, i32_w]
    rfl
  refine pure_ (i := 4) (N := some 10) (v := ?_) (a' := ?_) #[true, false, true, true, true, false, false, false, false] rfl rfl (by kernel_rfl) (fun _ _ _ h => h) (Or.inl ⟨by rfl, ?_⟩) ?_ ?_
  rotate_left
  · intro w'
    go_simp
    with_reducible rfl
  rotate_left
  · simp only [Act.put, List.setIfInBounds_toArray, List.set_cons_zero, List.set_cons_succ, i64_w, i32_w]
    rfl
  refine pure_ (i := 5) (N := some 11) (v := ?_) (a' := ?_) #[true, false, true, true, true, true, false, false, false] rfl rfl (by kernel_rfl) (fun _ _ _ h => h) (Or.inl ⟨by rfl, ?_⟩) ?_ ?_
  rotate_left
  · intro w'
    go_simp
    with_reducible rfl
  rotate_left
  · simp only [Act.put, List.setIfInBounds_toArray, List.set_cons_zero, List.set_cons_succ, i64_w, i32_w]
    rfl
  refine take_ (i := 1) (N := some 7) (v := ?_) (a' := ?_) #[true, true, true, true, true, true, false, false, false] rfl rfl (by kernel_rfl) (fun _ _ _ h => h) (Or.inl ⟨by rfl, ?_⟩) hHeld ?_ ?_
  rotate_left
  · rintro w' ⟨s0, s1⟩
    go_simp
    with_reducible rfl
  rotate_left
  · simp only [Act.put, List.setIfInBounds_toArray, List.set_cons_zero, List.set_cons_succ, i64_w, i32_w]
    rfl
  refine take_ (i := 6) (N := some 12) (v := ?_) (a' := ?_) #[true, true, true, true, true, true, true, false, false] rfl rfl (by kernel_rfl) (fun _ _ _ h => h) (Or.inl ⟨by rfl, ?_⟩) hHeld ?_ ?_
  rotate_left
  · rintro w' ⟨s0, s1⟩
    go_simp
    with_reducible rfl
  rotate_left
  · simp only [Act.put, List.setIfInBounds_toArray, List.set_cons_zero, List.set_cons_succ, i64_w, i32_w]
    rfl
  refine pure_ (i := 7) (N := some 13) (v := ?_) (a' := ?_) #[true, true, true, true, true, true, true, true, false] rfl rfl (by kernel_rfl) (fun _ _ _ h => h) (Or.inl ⟨by rfl, ?_⟩) ?_ ?_
  rotate_left
  · intro w'
    go_simp
    with_reducible rfl
  rotate_left
  · simp only [Act.put, List.setIfInBounds_toArray, List.set_cons_zero, List.set_cons_succ, i64_w, i32_w]
    rfl
  refine pure_ (i := 8) (N := some 5) (v := ?_) (a' := ?_) #[true, true, true, true, true, true, true, true, true] rfl rfl (by kernel_rfl) (fun _ _ _ h => h) (Or.inl ⟨by rfl, ?_⟩) ?_ ?_
  rotate_left
  · intro w'
    go_simp
    with_reducible rfl
  rotate_left
  · simp only [Act.put, List.setIfInBounds_toArray, List.set_cons_zero, List.set_cons_succ, i64_w, i32_w]
    rfl
  refine done_ (by kernel_rfl) ?_

  by_cases h1 : no ≤ f1
  · go_wp2_with fail
    go_ret
    exact Or.inl ⟨h1, rfl, E.out⟩
  · go_wp2_with fail
    have H1 := Lib.hid h1
    replace X := Lib.hid (show BBlk w2.drew gb no ack (.slice A2 n2 c2) from X.out.below (below_drew (Below.refl _ _)))
    replace E := Lib.hid (show EdW w w2.drew g vo o f1 f2 vi inn f4 f5 from E.out.below (below_drew (Below.refl _ _)))
    clear hHeld
    cases h2 : decide (wrap64 (f1 + 1) < no)
    · skip
      refine start_ (n := 18) (S := fun w' => w'.cell? ⟨gb, 0, none⟩ = some (.int .i64 no) ∧ w'.cell? ⟨g, 1, none⟩ = some (.int .i64 f1) ∧ w'.cell? ⟨g, 5, none⟩ = some (.int .i64 f5)) (ds := []) #[false, false, false, false, false, false, false, false, false, false, false, false, false, false, false, false, false, false] (by kernel_rfl) rfl rfl ⟨X.out.c0, E.out.blk.c1, E.out.blk.c5⟩ (fun hHeld => ?_)
      generalize w2.drew = w3 at X E hHeld ⊢
      refine pure_ (i := 0) (N := some 15) (v := ?_) (a' := ?_) #[true, false, false, false, false, false, false, false, false, false, false, false, false, false, false, false, false, false] rfl rfl (by kernel_rfl) (fun _ _ _ h => h) (Or.inl ⟨by rfl, ?_⟩) ?_ ?_
      rotate_left
      · intro w'
        go_simp
        with_reducible rfl
      rotate_left
      · simp only [Act.put, List.setIfInBounds_toArray, List.set_cons_zero, List.set_cons_succ, i64_w, i32_w]
        rfl
      refine pure_ (i := 2) (N := some 17) (v := ?_) (a' := ?_) #[true, false, true, false, false, false, false, false, false, false, false, false, false, false, false, false, false, false] rfl rfl (by kernel_rfl) (fun _ _ _ h => h) (Or.inl ⟨by rfl, ?_⟩) ?_ ?_
      rotate_left
      · intro w'
        go_simp
        with_reducible rfl
      rotate_left
      · simp only [Act.put, List.setIfInBounds_toArray, List.set_cons_zero, List.set_cons_succ, i64_w, i32_w]
        rfl
      refine pure_ (i := 3) (N := some 18) (v := ?_) (a' := ?_) #[true, false, true, true, false, false, false, false, false, false, false, false, false, false, false, false, false, false] rfl rfl (by kernel_rfl) (fun _ _ _ h => h) (Or.inl ⟨by rfl, ?_⟩) ?_ ?_
      rotate_left
      · intro w'
        go_simp
        with_reducible rfl
      rotate_left
      · simp only [Act.put, List.setIfInBounds_toArray, List.set_cons_zero, List.set_cons_succ, i64_w, i32_w]
        rfl
      refine pure_ (i := 4) (N := some 19) (v := ?_) (a' := ?_) #[true, false, true, true, true, false, false, false, false, false, false, false, false, false, false, false, false, false] rfl rfl (by kernel_rfl) (fun _ _ _ h => h) (Or.inl ⟨by rfl, ?_⟩) ?_ ?_
      rotate_left
      · intro w'
        go_simp
        with_reducible rfl
      rotate_left
      · simp only [Act.put, List.setIfInBounds_toArray, List.set_cons_zero, List.set_cons_succ, i64_w, i32_w]
        rfl
      refine pure_ (i := 5) (N := some 20) (v := ?_) (a' := ?_) #[true, false, true, true, true, true, false, false, false, false, false, false, false, false, false, false, false, false] rfl rfl (by kernel_rfl) (fun _ _ _ h => h) (Or.inl ⟨by rfl, ?_⟩) ?_ ?_
      rotate_left
      · intro w'
        go_simp
        with_reducible rfl
      rotate_left
      · simp only [Act.put, List.setIfInBounds_toArray, List.set_cons_zero, List.set_cons_succ, i64_w, i32_w]
        rfl
      refine take_ (i := 1) (N := some 16) (v := ?_) (a' := ?_) #[true, true, true, true, true, true, false, false, false, false, false, false, false, false, false, false, false, false] rfl rfl (by kernel_rfl) (fun _ _ _ h => h) (Or.inl ⟨by rfl, ?_⟩) hHeld ?_ ?_
      rotate_left
      · rintro w' ⟨s0, s1, s2⟩
        go_simp
        with_reducible rfl
      rotate_left
      · simp only [Act.put, List.setIfInBounds_toArray, List.set_cons_zero, List.set_cons_succ, i64_w, i32_w]
        rfl
      refine take_ (i := 6) (N := some 21) (v := ?_) (a' := ?_) #[true, true, true, true, true, true, true, false, false, false, false, false, false, false, false, false, false, false] rfl rfl (by kernel_rfl) (fun _ _ _ h => h) (Or.inl ⟨by rfl, ?_⟩) hHeld ?_ ?_
      rotate_left
      · rintro w' ⟨s0, s1, s2⟩
        go_simp
        with_reducible rfl
      rotate_left
      · simp only [Act.put, List.setIfInBounds_toArray, List.set_cons_zero, List.set_cons_succ, i64_w, i32_w]
        rfl
      refine pure_ (i := 7) (N := some 22) (v := ?_) (a' := ?_) #[true, true, true, true, true, true, true, true, false, false, false, false, false, false, false, false, false, false] rfl rfl (by kernel_rfl) (fun _ _ _ h => h) (Or.inl ⟨by rfl, ?_⟩) ?_ ?_
      rotate_left
      · intro w'
        go_simp
        with_reducible rfl
      rotate_left
      · simp only [Act.put, List.setIfInBounds_toArray, List.set_cons_zero, List.set_cons_succ, i64_w, i32_w]
        rfl
      refine pure_ (i := 8) (N := some 23) (v := ?_) (a' := ?_) #[true, true, true, true, true, true, true, true, true, false, false, false, false, false, false, false, false, false] rfl rfl (by kernel_rfl) (fun _ _ _ h => h) (Or.inl ⟨by rfl, ?_⟩) ?_ ?_
      rotate_left
      · intro w'
        go_simp
        with_reducible rfl
      rotate_left
      · simp only [Act.put, List.setIfInBounds_toArray, List.set_cons_zero, List.set_cons_succ, i64_w, i32_w]
        rfl
      refine pure_ (i := 9) (N := some 24) (v := ?_) (a' := ?_) #[true, true, true, true, true, true, true, true, true, true, false, false, false, false, false, false, false, false] rfl rfl (by kernel_rfl) (fun _ _ _ h => h) (Or.inl ⟨by rfl, ?_⟩) ?_ ?_
      rotate_left
      · intro w'
        go_simp
        with_reducible rfl
      rotate_left
      · simp only [Act.put, List.setIfInBounds_toArray, List.set_cons_zero, List.set_cons_succ, i64_w, i32_w]
        rfl
      refine pure_ (i := 10) (N := some 25) (v := ?_) (a' := ?_) #[true, true, true, true, true, true, true, true, true, true, true, false, false, false, false, false, false, false] rfl rfl (by kernel_rfl) (fun _ _ _ h => h) (Or.inl ⟨by rfl, ?_⟩) ?_ ?_
      rotate_left
      · intro w'
        go_simp
        with_reducible rfl
      rotate_left
      · simp only [Act.put, List.setIfInBounds_toArray, List.set_cons_zero, List.set_cons_succ, i64_w, i32_w]
        rfl
      refine pure_ (i := 11) (N := some 26) (v := ?_) (a' := ?_) #[true, true, true, true, true, true, true, true, true, true, true, true, false, false, false, false, false, false] rfl rfl (by kernel_rfl) (fun _ _ _ h => h) (Or.inl ⟨by rfl, ?_⟩) ?_ ?_
      rotate_left
      · intro w'
        go_simp
        with_reducible rfl
      rotate_left
      · simp only [Act.put, List.setIfInBounds_toArray, List.set_cons_zero, List.set_cons_succ, i64_w, i32_w]
        rfl
      refine pure_ (i := 12) (N := some 27) (v := ?_) (a' := ?_) #[true, true, true, true, true, true, true, true, true, true, true, true, true, false, false, false, false, false] rfl rfl (by kernel_rfl) (fun _ _ _ h => h) (Or.inl ⟨by rfl, ?_⟩) ?_ ?_
      rotate_left
      · intro w'
        go_simp
        with_reducible rfl
      rotate_left
      · simp only [Act.put, List.setIfInBounds_toArray, List.set_cons_zero, List.set_cons_succ, i64_w, i32_w]
        rfl
      refine pure_ (i := 13) (N := some 28) (v := ?_) (a' := ?_) #[true, true, true, true, true, true, true, true, true, true, true, true, true, true, false, false, false, false] rfl rfl (by kernel_rfl) (fun _ _ _ h => h) (Or.inl ⟨by rfl, ?_⟩) ?_ ?_
      rotate_left
      · intro w'
        go_simp
        with_reducible rfl
      rotate_left
      · simp only [Act.put, List.setIfInBounds_toArray, List.set_cons_zero, List.set_cons_succ, i64_w, i32_w]
        rfl
      refine take_ (i := 14) (N := some 29) (v := ?_) (a' := ?_) #[true, true, true, true, true, true, true, true, true, true, true, true, true, true, true, false, false, false] rfl rfl (by kernel_rfl) (fun _ _ _ h => h) (Or.inl ⟨by rfl, ?_⟩) hHeld ?_ ?_
      rotate_left
      · rintro w' ⟨s0, s1, s2⟩
        go_simp
        with_reducible rfl
      rotate_left
      · simp only [Act.put, List.setIfInBounds_toArray, List.set_cons_zero, List.set_cons_succ, i64_w, i32_w]
        rfl
      refine pure_ (i := 15) (N := some 30) (v := ?_) (a' := ?_) #[true, true, true, true, true, true, true, true, true, true, true, true, true, true, true, true, false, false] rfl rfl (by kernel_rfl) (fun _ _ _ h => h) (Or.inl ⟨by rfl, ?_⟩) ?_ ?_
      rotate_left
      · intro w'
        go_simp
        with_reducible rfl
      rotate_left
      · simp only [Act.put, List.setIfInBounds_toArray, List.set_cons_zero, List.set_cons_succ, i64_w, i32_w]
        rfl
      refine pure_ (i := 16) (N := some 31) (v := ?_) (a' := ?_) #[true, true, true, true, true, true, true, true, true, true, true, true, true, true, true, true, true, false] rfl rfl (by kernel_rfl) (fun _ _ _ h => h) (Or.inl ⟨by rfl, ?_⟩) ?_ ?_
      rotate_left
      · intro w'
        go_simp
        with_reducible rfl
      rotate_left
      · simp only [Act.put, List.setIfInBounds_toArray, List.set_cons_zero, List.set_cons_succ, i64_w, i32_w]
        rfl
      refine pure_ (i := 17) (N := some 14) (v := ?_) (a' := ?_) #[true, true, true, true, true, true, true, true, true, true, true, true, true, true, true, true, true, true] rfl rfl (by kernel_rfl) (fun _ _ _ h => h) (Or.inl ⟨by rfl, ?_⟩) ?_ ?_
      rotate_left
      · intro w'
        go_simp
        with_reducible rfl
      rotate_left
      · simp only [Act.put, List.setIfInBounds_toArray, List.set_cons_zero, List.set_cons_succ, i64_w, i32_w]
        rfl
      refine done_ (by kernel_rfl) ?_

      have H2 := Lib.hid (show ¬ f1 + 1 < no by have h := of_decide_eq_false h2; rwa [← HW.out, HF1.out] at h)
      clear h2
      by_cases h3 : f5 = -1
      · have H3 := Lib.hid h3
        subst h3
        go_wp2_with fail
        go_ret
        exact Or.inr (Or.inl ⟨⟨by have := H1.out; omega, Or.inr rfl⟩, rfl, E.out.low⟩)
      · have H3 := Lib.hid h3
        obtain ⟨go, ko, rfl, _, _, _⟩ := Kd.R_form E.out.out (HD.out h3)
        have hd := HD.out h3
        have HRO := Lib.hid (Kd.R_reads' E.out.out)
        have hko := HRO.out.2.1
        have x0 := E.out.blk.c0; have z0 := blk_frozen E.out.blk 0
        have h3b : (f5 == -1) = false := by simpa using h3
        have HDD := Lib.hid hd
        clear hHeld h3
        by_cases hk : ko = 1
        · subst hk
          have hol : o.length = 1 := by omega
          have E1 := Lib.hid (show EBlk (w3.setCell ⟨g, 0, none⟩ (.slice (some ⟨go, 0, none⟩) 0 0)) g 117 (.slice (some ⟨go, 0, none⟩) 0 0) f1 f2 vi f4 f5 from blk_put E.out.blk 0 _ rfl)
          have E2 := Lib.hid (show EBlk ((w3.setCell ⟨g, 0, none⟩ (.slice (some ⟨go, 0, none⟩) 0 0)).setCell ⟨g, 1, none⟩ (.int .i64 (wrap64 (f1 + 1)))) g 117 (.slice (some ⟨go, 0, none⟩) 0 0) (wrap64 (f1 + 1)) f2 vi f4 f5 from blk_put E1.out 1 _ rfl)
          have x1 := E1.out.c1; have z1 := blk_frozen E1.out 1; have x5 := E2.out.c5; have z5 := blk_frozen E2.out 5
          go_wp2_with fail
          go_ret
          have hw := wid (n := f1 + 1) (by have := HN0.out; omega) (by have := HN1.out; omega)
          refine Or.inr (Or.inr ⟨⟨by have := H1.out; have := H2.out; omega, H3.out⟩, rfl, (.slice (some ⟨go, 0, none⟩) 0 0), below_set (below_set (below_set E.out.low (Nat.le_refl _) E.out.ge 0 _) (Nat.le_refl _) E.out.ge 1 _) (Nat.le_refl _) E.out.ge 5 (.int .i64 (-1)), EBlk.as1 (blk_put E2.out 5 (.int .i64 (-1)) rfl) hw, ?_, Kd.R_V (Kd.R_mono (Kd.R_bound (Kd.R_set (Kd.R_set (Kd.R_set E.out.inn E.out.blk (by decide) 0 _) E1.out (by decide) 1 _) E2.out (by decide) 5 _)) (fun _ hk => hk.2.1))⟩)
          have hV := Kd.R_V (base' := w.heap.size) (Kd.R_mono (Kd.R_bound (Kd.R_set (Kd.R_set (Kd.R_set E.out.out E.out.blk (by decide) 0 (.slice (some ⟨go, 0, none⟩) 0 0)) E1.out (by decide) 1 (.int .i64 (wrap64 (f1 + 1)))) E2.out (by decide) 5 (.int .i64 (-1)))) (fun _ hk => hk.2.1))
          have hF := Kd.F_cut (m := 1) (Kd.V_at hV).2.2 (by have := HDD.out; omega) (Kd.V_at hV).2.1
          have hM := Kd.V_mk (e := 28) (base := w.heap.size) (c := 0) (by rw [List.length_drop]; omega) hF
          rw [List.length_drop, hol] at hM
          exact hM
        · have E1 := Lib.hid (show EBlk (w3.setCell ⟨g, 0, none⟩ (.slice (some ⟨go, 1, none⟩) (o.length - 1) (ko - 1))) g 117 (.slice (some ⟨go, 1, none⟩) (o.length - 1) (ko - 1)) f1 f2 vi f4 f5 from blk_put E.out.blk 0 _ rfl)
          have E2 := Lib.hid (show EBlk ((w3.setCell ⟨g, 0, none⟩ (.slice (some ⟨go, 1, none⟩) (o.length - 1) (ko - 1))).setCell ⟨g, 1, none⟩ (.int .i64 (wrap64 (f1 + 1)))) g 117 (.slice (some ⟨go, 1, none⟩) (o.length - 1) (ko - 1)) (wrap64 (f1 + 1)) f2 vi f4 f5 from blk_put E1.out 1 _ rfl)
          have x1 := E1.out.c1; have z1 := blk_frozen E1.out 1; have x5 := E2.out.c5; have z5 := blk_frozen E2.out 5
          go_wp2_with fail
          go_ret
          have hw := wid (n := f1 + 1) (by have := HN0.out; omega) (by have := HN1.out; omega)
          refine Or.inr (Or.inr ⟨⟨by have := H1.out; have := H2.out; omega, H3.out⟩, rfl, (.slice (some ⟨go, 1, none⟩) (o.length - 1) (ko - 1)), below_set (below_set (below_set E.out.low (Nat.le_refl _) E.out.ge 0 _) (Nat.le_refl _) E.out.ge 1 _) (Nat.le_refl _) E.out.ge 5 (.int .i64 (-1)), EBlk.as1 (blk_put E2.out 5 (.int .i64 (-1)) rfl) hw, ?_, Kd.R_V (Kd.R_mono (Kd.R_bound (Kd.R_set (Kd.R_set (Kd.R_set E.out.inn E.out.blk (by decide) 0 _) E1.out (by decide) 1 _) E2.out (by decide) 5 _)) (fun _ hk => hk.2.1))⟩)
          have hV := Kd.R_V (base' := w.heap.size) (Kd.R_mono (Kd.R_bound (Kd.R_set (Kd.R_set (Kd.R_set E.out.out E.out.blk (by decide) 0 (.slice (some ⟨go, 1, none⟩) (o.length - 1) (ko - 1))) E1.out (by decide) 1 (.int .i64 (wrap64 (f1 + 1)))) E2.out (by decide) 5 (.int .i64 (-1)))) (fun _ hk => hk.2.1))
          have hF := Kd.F_cut (m := 1) (Kd.V_at hV).2.2 (by have := HDD.out; omega) (Kd.V_at hV).2.1
          have hM := Kd.V_mk (e := 28) (base := w.heap.size) (c := ko - 1) (by rw [List.length_drop]; omega) hF
          rw [List.length_drop] at hM
          rw [if_neg hk] at hM
          exact hM
    · skip
      refine start_ (n := 18) (S := fun w' => w'.cell? ⟨gb, 0, none⟩ = some (.int .i64 no) ∧ w'.cell? ⟨g, 1, none⟩ = some (.int .i64 f1) ∧ w'.cell? ⟨g, 5, none⟩ = some (.int .i64 f5)) (ds := []) #[false, false, false, false, false, false, false, false, false, false, false, false, false, false, false, false, false, false] (by kernel_rfl) rfl rfl ⟨X.out.c0, E.out.blk.c1, E.out.blk.c5⟩ (fun hHeld => ?_)
      generalize w2.drew = w3 at X E hHeld ⊢
      refine pure_ (i := 0) (N := some 15) (v := ?_) (a' := ?_) #[true, false, false, false, false, false, false, false, false, false, false, false, false, false, false, false, false, false] rfl rfl (by kernel_rfl) (fun _ _ _ h => h) (Or.inl ⟨by rfl, ?_⟩) ?_ ?_
      rotate_left
      · intro w'
        go_simp
        with_reducible rfl
      rotate_left
      · simp only [Act.put, List.setIfInBounds_toArray, List.set_cons_zero, List.set_cons_succ, i64_w, i32_w]
        rfl
      refine pure_ (i := 2) (N := some 17) (v := ?_) (a' := ?_) #[true, false, true, false, false, false, false, false, false, false, false, false, false, false, false, false, false, false] rfl rfl (by kernel_rfl) (fun _ _ _ h => h) (Or.inl ⟨by rfl, ?_⟩) ?_ ?_
      rotate_left
      · intro w'
        go_simp
        with_reducible rfl
      rotate_left
      · simp only [Act.put, List.setIfInBounds_toArray, List.set_cons_zero, List.set_cons_succ, i64_w, i32_w]
        rfl
      refine pure_ (i := 3) (N := some 18) (v := ?_) (a' := ?_) #[true, false, true, true, false, false, false, false, false, false, false, false, false, false, false, false, false, false] rfl rfl (by kernel_rfl) (fun _ _ _ h => h) (Or.inl ⟨by rfl, ?_⟩) ?_ ?_
      rotate_left
      · intro w'
        go_simp
        with_reducible rfl
      rotate_left
      · simp only [Act.put, List.setIfInBounds_toArray, List.set_cons_zero, List.set_cons_succ, i64_w, i32_w]
        rfl
      refine pure_ (i := 4) (N := some 19) (v := ?_) (a' := ?_) #[true, false, true, true, true, false, false, false, false, false, false, false, false, false, false, false, false, false] rfl rfl (by kernel_rfl) (fun _ _ _ h => h) (Or.inl ⟨by rfl, ?_⟩) ?_ ?_
      rotate_left
      · intro w'
        go_simp
        with_reducible rfl
      rotate_left
      · simp only [Act.put, List.setIfInBounds_toArray, List.set_cons_zero, List.set_cons_succ, i64_w, i32_w]
        rfl
      refine pure_ (i := 5) (N := some 20) (v := ?_) (a' := ?_) #[true, false, true, true, true, true, false, false, false, false, false, false, false, false, false, false, false, false] rfl rfl (by kernel_rfl) (fun _ _ _ h => h) (Or.inl ⟨by rfl, ?_⟩) ?_ ?_
      rotate_left
      · intro w'
        go_simp
        with_reducible rfl
      rotate_left
      · simp only [Act.put, List.setIfInBounds_toArray, List.set_cons_zero, List.set_cons_succ, i64_w, i32_w]
        rfl
      refine take_ (i := 1) (N := some 16) (v := ?_) (a' := ?_) #[true, true, true, true, true, true, false, false, false, false, false, false, false, false, false, false, false, false] rfl rfl (by kernel_rfl) (fun _ _ _ h => h) (Or.inl ⟨by rfl, ?_⟩) hHeld ?_ ?_
      rotate_left
      · rintro w' ⟨s0, s1, s2⟩
        go_simp
        with_reducible rfl
      rotate_left
      · simp only [Act.put, List.setIfInBounds_toArray, List.set_cons_zero, List.set_cons_succ, i64_w, i32_w]
        rfl
      refine take_ (i := 6) (N := some 21) (v := ?_) (a' := ?_) #[true, true, true, true, true, true, true, false, false, false, false, false, false, false, false, false, false, false] rfl rfl (by kernel_rfl) (fun _ _ _ h => h) (Or.inl ⟨by rfl, ?_⟩) hHeld ?_ ?_
      rotate_left
      · rintro w' ⟨s0, s1, s2⟩
        go_simp
        with_reducible rfl
      rotate_left
      · simp only [Act.put, List.setIfInBounds_toArray, List.set_cons_zero, List.set_cons_succ, i64_w, i32_w]
        rfl
      refine pure_ (i := 7) (N := some 22) (v := ?_) (a' := ?_) #[true, true, true, true, true, true, true, true, false, false, false, false, false, false, false, false, false, false] rfl rfl (by kernel_rfl) (fun _ _ _ h => h) (Or.inl ⟨by rfl, ?_⟩) ?_ ?_
      rotate_left
      · intro w'
        go_simp
        with_reducible rfl
      rotate_left
      · simp only [Act.put, List.setIfInBounds_toArray, List.set_cons_zero, List.set_cons_succ, i64_w, i32_w]
        rfl
      refine pure_ (i := 8) (N := some 23) (v := ?_) (a' := ?_) #[true, true, true, true, true, true, true, true, true, false, false, false, false, false, false, false, false, false] rfl rfl (by kernel_rfl) (fun _ _ _ h => h) (Or.inl ⟨by rfl, ?_⟩) ?_ ?_
      rotate_left
      · intro w'
        go_simp
        with_reducible rfl
      rotate_left
      · simp only [Act.put, List.setIfInBounds_toArray, List.set_cons_zero, List.set_cons_succ, i64_w, i32_w]
        rfl
      refine pure_ (i := 9) (N := some 24) (v := ?_) (a' := ?_) #[true, true, true, true, true, true, true, true, true, true, false, false, false, false, false, false, false, false] rfl rfl (by kernel_rfl) (fun _ _ _ h => h) (Or.inl ⟨by rfl, ?_⟩) ?_ ?_
      rotate_left
      · intro w'
        go_simp
        with_reducible rfl
      rotate_left
      · simp only [Act.put, List.setIfInBounds_toArray, List.set_cons_zero, List.set_cons_succ, i64_w, i32_w]
        rfl
      refine pure_ (i := 10) (N := some 25) (v := undef) (a' := ?_) #[true, true, true, true, true, true, true, true, true, true, true, false, false, false, false, false, false, false] rfl rfl (by kernel_rfl) (fun _ _ _ h => h) (Or.inr ⟨by rfl, rfl⟩) ?_ ?_
      rotate_left
      · simp only [Act.put, List.setIfInBounds_toArray, List.set_cons_zero, List.set_cons_succ, i64_w, i32_w]
        rfl
      refine pure_ (i := 11) (N := some 26) (v := undef) (a' := ?_) #[true, true, true, true, true, true, true, true, true, true, true, true, false, false, false, false, false, false] rfl rfl (by kernel_rfl) (fun _ _ _ h => h) (Or.inr ⟨by rfl, rfl⟩) ?_ ?_
      rotate_left
      · simp only [Act.put, List.setIfInBounds_toArray, List.set_cons_zero, List.set_cons_succ, i64_w, i32_w]
        rfl
      refine pure_ (i := 12) (N := some 27) (v := undef) (a' := ?_) #[true, true, true, true, true, true, true, true, true, true, true, true, true, false, false, false, false, false] rfl rfl (by kernel_rfl) (fun _ _ _ h => h) (Or.inr ⟨by rfl, rfl⟩) ?_ ?_
      rotate_left
      · simp only [Act.put, List.setIfInBounds_toArray, List.set_cons_zero, List.set_cons_succ, i64_w, i32_w]
        rfl
      refine pure_ (i := 13) (N := some 28) (v := undef) (a' := ?_) #[true, true, true, true, true, true, true, true, true, true, true, true, true, true, false, false, false, false] rfl rfl (by kernel_rfl) (fun _ _ _ h => h) (Or.inr ⟨by rfl, rfl⟩) ?_ ?_
      rotate_left
      · simp only [Act.put, List.setIfInBounds_toArray, List.set_cons_zero, List.set_cons_succ, i64_w, i32_w]
        rfl
      refine pure_ (i := 14) (N := some 29) (v := undef) (a' := ?_) #[true, true, true, true, true, true, true, true, true, true, true, true, true, true, true, false, false, false] rfl rfl (by kernel_rfl) (fun _ _ _ h => h) (Or.inr ⟨by rfl, rfl⟩) ?_ ?_
      rotate_left
      · simp only [Act.put, List.setIfInBounds_toArray, List.set_cons_zero, List.set_cons_succ, i64_w, i32_w]
        rfl
      refine pure_ (i := 15) (N := some 30) (v := undef) (a' := ?_) #[true, true, true, true, true, true, true, true, true, true, true, true, true, true, true, true, false, false] rfl rfl (by kernel_rfl) (fun _ _ _ h => h) (Or.inr ⟨by rfl, rfl⟩) ?_ ?_
      rotate_left
      · simp only [Act.put, List.setIfInBounds_toArray, List.set_cons_zero, List.set_cons_succ, i64_w, i32_w]
        rfl
      refine pure_ (i := 16) (N := some 31) (v := ?_) (a' := ?_) #[true, true, true, true, true, true, true, true, true, true, true, true, true, true, true, true, true, false] rfl rfl (by kernel_rfl) (fun _ _ _ h => h) (Or.inl ⟨by rfl, ?_⟩) ?_ ?_
      rotate_left
      · intro w'
        go_simp
        with_reducible rfl
      rotate_left
      · simp only [Act.put, List.setIfInBounds_toArray, List.set_cons_zero, List.set_cons_succ, i64_w, i32_w]
        rfl
      refine pure_ (i := 17) (N := some 14) (v := ?_) (a' := ?_) #[true, true, true, true, true, true, true, true, true, true, true, true, true, true, true, true, true, true] rfl rfl (by kernel_rfl) (fun _ _ _ h => h) (Or.inl ⟨by rfl, ?_⟩) ?_ ?_
      rotate_left
      · intro w'
        go_simp
        with_reducible rfl
      rotate_left
      · simp only [Act.put, List.setIfInBounds_toArray, List.set_cons_zero, List.set_cons_succ, i64_w, i32_w]
        rfl
      refine done_ (by kernel_rfl) ?_

      have H2 := Lib.hid (show f1 + 1 < no by have h := of_decide_eq_true h2; rwa [← HW.out, HF1.out] at h)
      clear h2
      go_wp2_with fail
      go_ret
      exact Or.inr (Or.inl ⟨⟨by have := H1.out; omega, Or.inl H2.out⟩, rfl, E.out.low⟩)
end Go.Proofs.Ytbfhohpbldadbaa.P
