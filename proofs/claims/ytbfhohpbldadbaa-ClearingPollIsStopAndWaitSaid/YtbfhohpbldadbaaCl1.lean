import Derived.Test.YtbfhohpbldadbaaExtK
namespace Go.Proofs.Ytbfhohpbldadbaa.P
open Go Go.RowKit Go.Proofs.YtbfhohpbldadbaaW.PrintWords Go.Proofs.YtbfhohpbldadbaaW.PrintLast Go.Proofs.YtbfhohpbldadbaaW.PrintMore
set_option linter.unusedVariables false
set_option linter.unusedSimpArgs false
/-- clearing.sized. -/
def sizedB (n : Nat) : Bool := decide ((1 : Int) ≤ n) && decide ((n : Int) ≤ 1024)
theorem sized_calls (A : Option Addr) (n c : Nat) (w : World) : Calls Try.prog 71 #[.slice A n c] w fun e w' => e = .returned (.bool (sizedB n)) ∧ Below w.heap.size w w' := by
  go_enter Try.func71, Try.ntmps71
  cases h : decide ((1 : Int) ≤ n)
  · go_wp2_with fail
    go_ret
    exact ⟨by simp [sizedB, h], Below.refl _ _⟩
  · go_wp2_with fail
    go_ret
    exact ⟨by simp [sizedB, h], Below.refl _ _⟩
theorem enters73 : Enters 73 := fun _ _ => by kernel_rfl
theorem odd_calls (A : Option Addr) (n c : Nat) (w : World) : Calls Try.prog 73 (#[.slice A n c] ++ #[]) w fun e w' => e = .returned (.bool (!sizedB n)) ∧ Below w.heap.size w w' := by
  go_enter Try.func73, Try.ntmps73
  go_wp2_with (go_at_call 71; refine (sized_calls A n c w).mono ?_; rintro e w' ⟨rfl, hb⟩; have HB := Lib.hid hb; clear hb)
  go_ret
  exact ⟨rfl, HB.out⟩
theorem in74_calls (n : Int) (w : World) : Calls Try.prog 74 #[.int .i64 n] w fun e w' => e = .returned (.bool (!oddT n)) ∧ Below w.heap.size w w' := by
  by_cases h : 0 ≤ n
  · by_cases h2 : n ≤ 1099511627776
    · have hh : oddT n = false := by simp [oddT]; omega
      rw [hh]
      go_enter Try.func74, Try.ntmps74
      go_wp2
      go_ret
      exact ⟨rfl, Below.refl _ _⟩
    · have hh : oddT n = true := by simp [oddT]; omega
      rw [hh]
      go_enter Try.func74, Try.ntmps74
      go_wp2
      go_ret
      exact ⟨rfl, Below.refl _ _⟩
  · have hh : oddT n = true := by simp [oddT]; omega
    rw [hh]
    go_enter Try.func74, Try.ntmps74
    go_wp2
    go_ret
    exact ⟨rfl, Below.refl _ _⟩
/-- The cells of an end (of type t: 61, or 117 for the editor). -/
def EBlk (w : World) (g t : Nat) (v0 : Value) (f1 f2 : Int) (v3 : Value) (f4 : Bool) (f5 : Int) : Prop := w.heap[g]? = some (.cells #[v0, .int .i64 f1, .int .i64 f2, v3, .bool f4, .int .i64 f5] t (0, 0))
section
variable {w w' : World} {g t : Nat} {v0 v3 : Value} {f1 f2 f5 : Int} {f4 : Bool}
theorem EBlk.c0 (h : EBlk w g t v0 f1 f2 v3 f4 f5) : w.cell? ⟨g, 0, none⟩ = some v0 := (cell_of_row w g 0 _ t (0, 0) h).trans rfl
theorem EBlk.c1 (h : EBlk w g t v0 f1 f2 v3 f4 f5) : w.cell? ⟨g, 1, none⟩ = some (.int .i64 f1) := (cell_of_row w g 1 _ t (0, 0) h).trans rfl
theorem EBlk.c2 (h : EBlk w g t v0 f1 f2 v3 f4 f5) : w.cell? ⟨g, 2, none⟩ = some (.int .i64 f2) := (cell_of_row w g 2 _ t (0, 0) h).trans rfl
theorem EBlk.c3 (h : EBlk w g t v0 f1 f2 v3 f4 f5) : w.cell? ⟨g, 3, none⟩ = some v3 := (cell_of_row w g 3 _ t (0, 0) h).trans rfl
theorem EBlk.c4 (h : EBlk w g t v0 f1 f2 v3 f4 f5) : w.cell? ⟨g, 4, none⟩ = some (.bool f4) := (cell_of_row w g 4 _ t (0, 0) h).trans rfl
theorem EBlk.c5 (h : EBlk w g t v0 f1 f2 v3 f4 f5) : w.cell? ⟨g, 5, none⟩ = some (.int .i64 f5) := (cell_of_row w g 5 _ t (0, 0) h).trans rfl
theorem EBlk.below (h : EBlk w g t v0 f1 f2 v3 f4 f5) (hb : Below w.heap.size w w') : EBlk w' g t v0 f1 f2 v3 f4 f5 := (hb.block g (heap_lt h)).trans h
theorem EBlk.new (w : World) (t : Nat) (v0 v3 : Value) (f1 f2 f5 : Int) (f4 : Bool) : EBlk (w.alloc (.cells #[v0, .int .i64 f1, .int .i64 f2, v3, .bool f4, .int .i64 f5] t)) w.heap.size t v0 f1 f2 v3 f4 f5 := heap_alloc_new w _
end
def runB (n : Nat) (d : Int) : Bool := decide ((0 : Int) < n) && (decide (0 ≤ d) && decide (d ≤ 1099511627779))
/-- clearing.Check. -/
def clCheck (o : List (List S39)) (f1 f2 f5 : Int) : Int :=
  if oddT f1 || oddT f2 || o.any (fun l => !sizedB l.length) then 1 else if (f5 != -1) && !runB o.length f5 then 1 else if decide ((64 : Int) < o.length) then 2 else 0
set_option maxHeartbeats 4000000 in
set_option maxRecDepth 100000 in
theorem clCheck_calls (A0 : Option Addr) (c0 : Nat) (o : List (List S39)) (f1 f2 : Int) (v3 : Value) (f4 : Bool) (f5 : Int) (w : World) (hr : Kd.C (Kd.slice 39 k39) w A0 o.length o) :
    Calls Try.prog 39 #[.agg #[.slice A0 o.length c0, .int .i64 f1, .int .i64 f2, v3, .bool f4, .int .i64 f5]] w fun e w' => e = .returned (.int .i64 (clCheck o f1 f2 f5)) ∧ Below w.heap.size w w' := by
  have HR := Lib.hid hr
  obtain ⟨r, hr'⟩ : ∃ r, r = clCheck o f1 f2 f5 := ⟨_, rfl⟩
  rw [← hr']
  have R := Lib.hid hr'
  clear hr hr'
  go_enter Try.func39, Try.ntmps39
  by_cases hd0 : 0 < o.length
  · by_cases hd1 : 0 ≤ f5
    · by_cases hd2 : f5 ≤ 1099511627779
      · have hrun : runB o.length f5 = true := by unfold runB; rw [decide_eq_true (show (0 : Int) < o.length by omega), decide_eq_true hd1, decide_eq_true hd2]; rfl
        have HRUN := Lib.hid hrun
        clear hrun
        go_wp2_with fail
        obtain ⟨w1, hw1⟩ : ∃ w1, w1 = w.alloc (.cells #[.slice A0 o.length c0, .int .i64 f1, .int .i64 f2, v3, .bool f4, .int .i64 f5] 61) := ⟨_, rfl⟩
        rw [← hw1]
        have E0 := Lib.hid (show EBlk w1 w.heap.size 61 (.slice A0 o.length c0) f1 f2 v3 f4 f5 by rw [hw1]; exact EBlk.new w 61 _ _ _ _ _ _)
        have B0 := Lib.hid (show Below w.heap.size w w1 by rw [hw1]; exact below_one _ _)
        clear hw1
        refine (in74_calls f1 w1).mono ?_
        rintro e w2 ⟨rfl, hb⟩
        replace E0 := Lib.hid (E0.out.below hb)
        replace B0 := Lib.hid (bb B0.out hb)
        clear hb
        cases h1 : oddT f1
        · have x2 := E0.out.c2
          go_wp2_with fail
          refine (in74_calls f2 w2).mono ?_
          rintro e w3 ⟨rfl, hb⟩
          replace E0 := Lib.hid (E0.out.below hb)
          replace B0 := Lib.hid (bb B0.out hb)
          clear hb x2
          cases h2 : oddT f2
          · have x0 := E0.out.c0
            go_wp2_with fail
            refine (containsL 73 #[] enters73 A0 c0 o (fun l => !sizedB l.length) _ (Kd.C_below HR.out B0.out) (fun m _ W _ A c hm hc => odd_calls A m.length c W)).mono ?_
            rintro e w4 ⟨rfl, hb⟩
            replace E0 := Lib.hid (E0.out.below hb)
            replace B0 := Lib.hid (bb B0.out hb)
            clear hb x0
            cases h3 : o.any (fun l => !sizedB l.length)
            · have x5 := E0.out.c5
              have x0 := E0.out.c0
              by_cases h4 : f5 = -1
              · exfalso; omega
              · have h4' : (f5 != -1) = true := by simp [h4]
                have H4 := Lib.hid h4'
                clear h4'
                by_cases h5 : (64 : Int) < o.length
                · have H5 := Lib.hid h5
                  go_wp2_with fail
                  go_ret
                  obtain rfl : r = 2 := by rw [R.out]; unfold clCheck; rw [h1, h2, h3, H4.out, HRUN.out, decide_eq_true H5.out]; rfl
                  exact ⟨rfl, B0.out⟩
                · have H5 := Lib.hid h5
                  go_wp2_with fail
                  go_ret
                  obtain rfl : r = 0 := by rw [R.out]; unfold clCheck; rw [h1, h2, h3, H4.out, HRUN.out, decide_eq_false (show ¬ (64 : Int) < o.length by have := H5.out; omega)]; rfl
                  exact ⟨rfl, B0.out⟩
            · go_wp2_with fail
              go_ret
              obtain rfl : r = 1 := by rw [R.out]; unfold clCheck; rw [h1, h2, h3]; rfl
              exact ⟨rfl, B0.out⟩
          · go_wp2_with fail
            go_ret
            obtain rfl : r = 1 := by rw [R.out]; unfold clCheck; rw [h1, h2]; rfl
            exact ⟨rfl, B0.out⟩
        · go_wp2_with fail
          go_ret
          obtain rfl : r = 1 := by rw [R.out]; unfold clCheck; rw [h1]; rfl
          exact ⟨rfl, B0.out⟩
      · have hrun : runB o.length f5 = false := by unfold runB; rw [decide_eq_false hd2, Bool.and_false, Bool.and_false]
        have HRUN := Lib.hid hrun
        clear hrun
        go_wp2_with fail
        obtain ⟨w1, hw1⟩ : ∃ w1, w1 = w.alloc (.cells #[.slice A0 o.length c0, .int .i64 f1, .int .i64 f2, v3, .bool f4, .int .i64 f5] 61) := ⟨_, rfl⟩
        rw [← hw1]
        have E0 := Lib.hid (show EBlk w1 w.heap.size 61 (.slice A0 o.length c0) f1 f2 v3 f4 f5 by rw [hw1]; exact EBlk.new w 61 _ _ _ _ _ _)
        have B0 := Lib.hid (show Below w.heap.size w w1 by rw [hw1]; exact below_one _ _)
        clear hw1
        refine (in74_calls f1 w1).mono ?_
        rintro e w2 ⟨rfl, hb⟩
        replace E0 := Lib.hid (E0.out.below hb)
        replace B0 := Lib.hid (bb B0.out hb)
        clear hb
        cases h1 : oddT f1
        · have x2 := E0.out.c2
          go_wp2_with fail
          refine (in74_calls f2 w2).mono ?_
          rintro e w3 ⟨rfl, hb⟩
          replace E0 := Lib.hid (E0.out.below hb)
          replace B0 := Lib.hid (bb B0.out hb)
          clear hb x2
          cases h2 : oddT f2
          · have x0 := E0.out.c0
            go_wp2_with fail
            refine (containsL 73 #[] enters73 A0 c0 o (fun l => !sizedB l.length) _ (Kd.C_below HR.out B0.out) (fun m _ W _ A c hm hc => odd_calls A m.length c W)).mono ?_
            rintro e w4 ⟨rfl, hb⟩
            replace E0 := Lib.hid (E0.out.below hb)
            replace B0 := Lib.hid (bb B0.out hb)
            clear hb x0
            cases h3 : o.any (fun l => !sizedB l.length)
            · have x5 := E0.out.c5
              have x0 := E0.out.c0
              by_cases h4 : f5 = -1
              · exfalso; omega
              · have h4' : (f5 != -1) = true := by simp [h4]
                have H4 := Lib.hid h4'
                clear h4'
                go_wp2_with fail
                go_ret
                obtain rfl : r = 1 := by rw [R.out]; unfold clCheck; rw [h1, h2, h3, H4.out, HRUN.out]; rfl
                exact ⟨rfl, B0.out⟩
            · go_wp2_with fail
              go_ret
              obtain rfl : r = 1 := by rw [R.out]; unfold clCheck; rw [h1, h2, h3]; rfl
              exact ⟨rfl, B0.out⟩
          · go_wp2_with fail
            go_ret
            obtain rfl : r = 1 := by rw [R.out]; unfold clCheck; rw [h1, h2]; rfl
            exact ⟨rfl, B0.out⟩
        · go_wp2_with fail
          go_ret
          obtain rfl : r = 1 := by rw [R.out]; unfold clCheck; rw [h1]; rfl
          exact ⟨rfl, B0.out⟩
    · have hrun : runB o.length f5 = false := by unfold runB; rw [decide_eq_false hd1, Bool.false_and, Bool.and_false]
      have HRUN := Lib.hid hrun
      clear hrun
      go_wp2_with fail
      obtain ⟨w1, hw1⟩ : ∃ w1, w1 = w.alloc (.cells #[.slice A0 o.length c0, .int .i64 f1, .int .i64 f2, v3, .bool f4, .int .i64 f5] 61) := ⟨_, rfl⟩
      rw [← hw1]
      have E0 := Lib.hid (show EBlk w1 w.heap.size 61 (.slice A0 o.length c0) f1 f2 v3 f4 f5 by rw [hw1]; exact EBlk.new w 61 _ _ _ _ _ _)
      have B0 := Lib.hid (show Below w.heap.size w w1 by rw [hw1]; exact below_one _ _)
      clear hw1
      refine (in74_calls f1 w1).mono ?_
      rintro e w2 ⟨rfl, hb⟩
      replace E0 := Lib.hid (E0.out.below hb)
      replace B0 := Lib.hid (bb B0.out hb)
      clear hb
      cases h1 : oddT f1
      · have x2 := E0.out.c2
        go_wp2_with fail
        refine (in74_calls f2 w2).mono ?_
        rintro e w3 ⟨rfl, hb⟩
        replace E0 := Lib.hid (E0.out.below hb)
        replace B0 := Lib.hid (bb B0.out hb)
        clear hb x2
        cases h2 : oddT f2
        · have x0 := E0.out.c0
          go_wp2_with fail
          refine (containsL 73 #[] enters73 A0 c0 o (fun l => !sizedB l.length) _ (Kd.C_below HR.out B0.out) (fun m _ W _ A c hm hc => odd_calls A m.length c W)).mono ?_
          rintro e w4 ⟨rfl, hb⟩
          replace E0 := Lib.hid (E0.out.below hb)
          replace B0 := Lib.hid (bb B0.out hb)
          clear hb x0
          cases h3 : o.any (fun l => !sizedB l.length)
          · have x5 := E0.out.c5
            have x0 := E0.out.c0
            by_cases h4 : f5 = -1
            · subst h4
              have h4' : ((-1 : Int) != -1) = false := rfl
              have H4 := Lib.hid h4'
              clear h4'
              by_cases h5 : (64 : Int) < o.length
              · have H5 := Lib.hid h5
                go_wp2_with fail
                go_ret
                obtain rfl : r = 2 := by rw [R.out]; unfold clCheck; rw [h1, h2, h3, H4.out, decide_eq_true H5.out]; rfl
                exact ⟨rfl, B0.out⟩
              · have H5 := Lib.hid h5
                go_wp2_with fail
                go_ret
                obtain rfl : r = 0 := by rw [R.out]; unfold clCheck; rw [h1, h2, h3, H4.out, decide_eq_false (show ¬ (64 : Int) < o.length by have := H5.out; omega)]; rfl
                exact ⟨rfl, B0.out⟩
            · have h4' : (f5 != -1) = true := by simp [h4]
              have H4 := Lib.hid h4'
              clear h4'
              go_wp2_with fail
              go_ret
              obtain rfl : r = 1 := by rw [R.out]; unfold clCheck; rw [h1, h2, h3, H4.out, HRUN.out]; rfl
              exact ⟨rfl, B0.out⟩
          · go_wp2_with fail
            go_ret
            obtain rfl : r = 1 := by rw [R.out]; unfold clCheck; rw [h1, h2, h3]; rfl
            exact ⟨rfl, B0.out⟩
        · go_wp2_with fail
          go_ret
          obtain rfl : r = 1 := by rw [R.out]; unfold clCheck; rw [h1, h2]; rfl
          exact ⟨rfl, B0.out⟩
      · go_wp2_with fail
        go_ret
        obtain rfl : r = 1 := by rw [R.out]; unfold clCheck; rw [h1]; rfl
        exact ⟨rfl, B0.out⟩
  · have hrun : runB o.length f5 = false := by unfold runB; rw [decide_eq_false (show ¬ (0 : Int) < o.length by omega), Bool.false_and]
    have HRUN := Lib.hid hrun
    clear hrun
    go_wp2_with fail
    obtain ⟨w1, hw1⟩ : ∃ w1, w1 = w.alloc (.cells #[.slice A0 o.length c0, .int .i64 f1, .int .i64 f2, v3, .bool f4, .int .i64 f5] 61) := ⟨_, rfl⟩
    rw [← hw1]
    have E0 := Lib.hid (show EBlk w1 w.heap.size 61 (.slice A0 o.length c0) f1 f2 v3 f4 f5 by rw [hw1]; exact EBlk.new w 61 _ _ _ _ _ _)
    have B0 := Lib.hid (show Below w.heap.size w w1 by rw [hw1]; exact below_one _ _)
    clear hw1
    refine (in74_calls f1 w1).mono ?_
    rintro e w2 ⟨rfl, hb⟩
    replace E0 := Lib.hid (E0.out.below hb)
    replace B0 := Lib.hid (bb B0.out hb)
    clear hb
    cases h1 : oddT f1
    · have x2 := E0.out.c2
      go_wp2_with fail
      refine (in74_calls f2 w2).mono ?_
      rintro e w3 ⟨rfl, hb⟩
      replace E0 := Lib.hid (E0.out.below hb)
      replace B0 := Lib.hid (bb B0.out hb)
      clear hb x2
      cases h2 : oddT f2
      · have x0 := E0.out.c0
        go_wp2_with fail
        refine (containsL 73 #[] enters73 A0 c0 o (fun l => !sizedB l.length) _ (Kd.C_below HR.out B0.out) (fun m _ W _ A c hm hc => odd_calls A m.length c W)).mono ?_
        rintro e w4 ⟨rfl, hb⟩
        replace E0 := Lib.hid (E0.out.below hb)
        replace B0 := Lib.hid (bb B0.out hb)
        clear hb x0
        cases h3 : o.any (fun l => !sizedB l.length)
        · have x5 := E0.out.c5
          have x0 := E0.out.c0
          by_cases h4 : f5 = -1
          · subst h4
            have h4' : ((-1 : Int) != -1) = false := rfl
            have H4 := Lib.hid h4'
            clear h4'
            by_cases h5 : (64 : Int) < o.length
            · exfalso; omega
            · have H5 := Lib.hid h5
              go_wp2_with fail
              go_ret
              obtain rfl : r = 0 := by rw [R.out]; unfold clCheck; rw [h1, h2, h3, H4.out, decide_eq_false (show ¬ (64 : Int) < o.length by have := H5.out; omega)]; rfl
              exact ⟨rfl, B0.out⟩
          · have h4' : (f5 != -1) = true := by simp [h4]
            have H4 := Lib.hid h4'
            clear h4'
            go_wp2_with fail
            go_ret
            obtain rfl : r = 1 := by rw [R.out]; unfold clCheck; rw [h1, h2, h3, H4.out, HRUN.out]; rfl
            exact ⟨rfl, B0.out⟩
        · go_wp2_with fail
          go_ret
          obtain rfl : r = 1 := by rw [R.out]; unfold clCheck; rw [h1, h2, h3]; rfl
          exact ⟨rfl, B0.out⟩
      · go_wp2_with fail
        go_ret
        obtain rfl : r = 1 := by rw [R.out]; unfold clCheck; rw [h1, h2]; rfl
        exact ⟨rfl, B0.out⟩
    · go_wp2_with fail
      go_ret
      obtain rfl : r = 1 := by rw [R.out]; unfold clCheck; rw [h1]; rfl
      exact ⟨rfl, B0.out⟩
end Go.Proofs.Ytbfhohpbldadbaa.P
