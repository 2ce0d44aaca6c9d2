import Derived.Test.YtbfhohpbldadbaaExtE
namespace Go.Proofs.Ytbfhohpbldadbaa.P
open Go.RowKit Go.Proofs.YtbfhohpbldadbaaW.PrintWords Go.Proofs.YtbfhohpbldadbaaW.PrintLast Go.Proofs.YtbfhohpbldadbaaW.PrintMore
set_option linter.unusedVariables false
set_option linter.unusedSimpArgs false
theorem makeMap_run (W : World) : (Instr.makeMap 128 none).run Try.prog W = .ok (.map (some W.heap.size)) (W.alloc (.map #[] 0)) := by kernel_rfl
theorem below_setObj {B : Nat} {w0 W : World} (h : Below B w0 W) {g : Nat} (hg : B ≤ g) (o : Obj) : Below B w0 { W with heap := W.heap.setIfInBounds g o } :=
  h.trans ⟨rfl, rfl, rfl, by simp, fun k hk => by simp [Array.getElem?_setIfInBounds, show ¬ g = k by omega]⟩
theorem MapOf.lt {W : World} {g : Nat} {ks : List (Int × Int)} (h : MapOf W g ks) : g < W.heap.size := by
  obtain ⟨es, c, hb, _⟩ := h
  exact (Array.getElem?_eq_some_iff.1 hb).1
theorem MapOf.below {W W' : World} {g : Nat} {ks : List (Int × Int)} (h : MapOf W g ks) (hb : Below W.heap.size W W') : MapOf W' g ks := by
  have hl := h.lt
  obtain ⟨es, c, h1, h2⟩ := h
  exact ⟨es, c, (hb.block g hl).trans h1, h2⟩
def MBlk (w : World) (g : Nat) (m : S33) : Prop := w.heap[g]? = some (.cells #[.int .i64 m.f0, .int .i64 m.f1, .int .i64 m.f2, .string m.f3, .int .i64 m.f4] 33 (0, 0))
def KBlk (w : World) (g : Nat) (a b : Int) : Prop := w.heap[g]? = some (.cells #[.int .i64 a, .int .i64 b] 130 (0, 0))
section
variable {w w' : World} {g : Nat} {m : S33} {a b : Int}
theorem heap_lt {o : Obj} (h : w.heap[g]? = some o) : g < w.heap.size := (Array.getElem?_eq_some_iff.1 h).1
theorem MBlk.c0 (h : MBlk w g m) : w.cell? ⟨g, 0, none⟩ = some (.int .i64 m.f0) := (cell_of_row w g 0 _ 33 (0, 0) h).trans rfl
theorem MBlk.c1 (h : MBlk w g m) : w.cell? ⟨g, 1, none⟩ = some (.int .i64 m.f1) := (cell_of_row w g 1 _ 33 (0, 0) h).trans rfl
theorem MBlk.c2 (h : MBlk w g m) : w.cell? ⟨g, 2, none⟩ = some (.int .i64 m.f2) := (cell_of_row w g 2 _ 33 (0, 0) h).trans rfl
theorem MBlk.c3 (h : MBlk w g m) : w.cell? ⟨g, 3, none⟩ = some (.string m.f3) := (cell_of_row w g 3 _ 33 (0, 0) h).trans rfl
theorem MBlk.c4 (h : MBlk w g m) : w.cell? ⟨g, 4, none⟩ = some (.int .i64 m.f4) := (cell_of_row w g 4 _ 33 (0, 0) h).trans rfl
theorem MBlk.below (h : MBlk w g m) (hb : Below w.heap.size w w') : MBlk w' g m := (hb.block g (heap_lt h)).trans h
theorem MBlk.alloc (h : MBlk w g m) (o : Obj) : MBlk (w.alloc o) g m := h.below (below_one _ _)
theorem MBlk.new (w : World) (m : S33) : MBlk (w.alloc (.cells #[.int .i64 m.f0, .int .i64 m.f1, .int .i64 m.f2, .string m.f3, .int .i64 m.f4] 33)) w.heap.size m := heap_alloc_new w _
theorem KBlk.c0 (h : KBlk w g a b) : w.cell? ⟨g, 0, none⟩ = some (.int .i64 a) := (cell_of_row w g 0 _ 130 (0, 0) h).trans rfl
theorem KBlk.c1 (h : KBlk w g a b) : w.cell? ⟨g, 1, none⟩ = some (.int .i64 b) := (cell_of_row w g 1 _ 130 (0, 0) h).trans rfl
theorem KBlk.below (h : KBlk w g a b) (hb : Below w.heap.size w w') : KBlk w' g a b := (hb.block g (heap_lt h)).trans h
theorem KBlk.new (w : World) (a b : Int) : KBlk (w.alloc (.cells #[.int .i64 a, .int .i64 b] 130)) w.heap.size a b := heap_alloc_new w _
end
theorem C2 (W : World) (x y : Int) : Kd.C (Kd.int .i64) (W.alloc (.cells #[.int .i64 x, .int .i64 y] 3)) (some ⟨W.heap.size, 0, none⟩) [x, y].length [x, y] := by
  refine ⟨rfl, by simp, fun _ => ⟨_, rfl, fun j p hj => ?_⟩⟩
  have h0 := heap_alloc_new W (.cells #[.int .i64 x, .int .i64 y] 3)
  match j, hj with
  | 0, hj => 
    obtain rfl : x = p := by simpa using hj
    refine ⟨[.int .i64 x], rfl, rfl, fun i u hi => ?_⟩
    match i, hi with
    | 0, hi => 
      obtain rfl : Value.int .i64 x = u := by simpa using hi
      exact (cell_of_row _ _ 0 _ 3 (0, 0) h0).trans rfl
    | (n + 1), hi => simp at hi
  | 1, hj =>
    obtain rfl : y = p := by simpa using hj
    refine ⟨[.int .i64 y], rfl, rfl, fun i u hi => ?_⟩
    match i, hi with
    | 0, hi =>
      obtain rfl : Value.int .i64 y = u := by simpa using hi
      exact (cell_of_row _ _ 1 _ 3 (0, 0) h0).trans rfl
    | (n + 1), hi => simp at hi
  | (n + 2), hj => simp at hj
def okOne (m : S33) : Bool := !(oddT m.f0 || oddT m.f4) && !decide (m.f1 < 1) && !decide (3 < m.f1) && !decide (m.f2 < 0) && !decide (6 ≤ m.f2) && (m.f3.toList.isEmpty || numB m.f3)
def kM (m : S33) : Int × Int := (m.f0, m.f1)
def validFrom : List (Int × Int) → List S33 → Bool
  | _, [] => true
  | ks, m :: ms => okOne m && !hasK (kM m) ks && validFrom (ks ++ [kM m]) ms
theorem odd_one {m : S33} (h : [m.f0, m.f4].any oddT = true) : okOne m = false := by
  simp at h
  rcases h with h | h <;> simp [okOne, h]
theorem odd_not {m : S33} (h : [m.f0, m.f4].any oddT = false) : (oddT m.f0 || oddT m.f4) = false := by
  simpa using h
theorem bad_one {b t : Bool} {m : S33} {ks : List (Int × Int)} (h : b = (okOne m && !hasK (kM m) ks && t)) (ho : okOne m = false) : b = false := by
  rw [h, ho]; rfl
theorem take_keys {xs : List S33} {k : Nat} (h : k < xs.length) : (xs.take (k + 1)).map kM = (xs.take k).map kM ++ [kM xs[k]] := by
  rw [List.take_succ_eq_append_getElem h, List.map_append]; rfl
def validB (xs : List S33) : Bool := validFrom [] xs
theorem MapOf.new (w : World) : MapOf (w.alloc (.map #[] 0)) w.heap.size [] := ⟨#[], 0, heap_alloc_new w _, rfl⟩
set_option maxHeartbeats 4000000 in
set_option maxRecDepth 100000 in
theorem valid_calls (A : Option Addr) (c : Nat) (xs : List S33) (w : World) (hr : Kd.C k33 w A xs.length xs) :
    Calls Try.prog 57 #[.slice A xs.length c] w fun e w' => e = .returned (.bool (validB xs)) ∧ Below w.heap.size w w' := by
  have hm : xs.length ≤ 9223372036854775807 := by
    have := hr.2.1; omega
  have HR := Lib.hid hr
  clear hr
  have hmk := makeMap_run
  go_enter Try.func57, Try.ntmps57
  go_wp2_with fail
  go_loopw [11] (fun i W => ∃ k : Nat, k ≤ xs.length ∧ i = .int .i64 k ∧ validB xs = validFrom ((xs.take k).map kM) (xs.drop k) ∧ MapOf W w.heap.size ((xs.take k).map kM) ∧ Below w.heap.size w W) (fun i _ => xs.length - (intOf i).toNat)
  case atStart => exact ⟨0, Nat.zero_le _, rfl, rfl, MapOf.new w, below_one _ _⟩
  case round =>
    obtain ⟨k, hk, rfl, hv, hmap, hb⟩ := hrel
    have HV := Lib.hid hv
    have HM := Lib.hid hmap
    have HB := Lib.hid hb
    clear hv hmap hb hmk
    by_cases hlt : k < xs.length
    · obtain ⟨ad, rfl, hat⟩ := M_cell (Kd.C_below HR.out HB.out) k hlt hlt
      obtain ⟨m, hm⟩ : ∃ m, m = xs[k] := ⟨_, rfl⟩
      rw [← hm] at hat
      have HMK := Lib.hid hm
      have c0 := hat.c0; have c1 := hat.c1; have c2 := hat.c2; have c3 := hat.c3; have c4 := hat.c4
      clear hm hat
      obtain ⟨W0, hW0⟩ : ∃ W0, W0 = (wr.alloc (.cells #[.int .i64 m.f0, .int .i64 m.f1, .int .i64 m.f2, .string m.f3, .int .i64 m.f4] 33)).alloc (.cells #[.int .i64 m.f0, .int .i64 m.f1] 130) := ⟨_, rfl⟩
      have B0 : Below wr.heap.size wr W0 := by rw [hW0]; exact below_alloc (below_one _ _) _
      have X0 : MBlk W0 wr.heap.size m := by
        rw [hW0]; exact MBlk.alloc (MBlk.new wr m) _
      have K0 : KBlk W0 (wr.heap.size + 1) m.f0 m.f1 := by
        rw [hW0]
        have h := KBlk.new (wr.alloc (.cells #[.int .i64 m.f0, .int .i64 m.f1, .int .i64 m.f2, .string m.f3, .int .i64 m.f4] 33)) m.f0 m.f1
        rw [show (wr.alloc (.cells #[.int .i64 m.f0, .int .i64 m.f1, .int .i64 m.f2, .string m.f3, .int .i64 m.f4] 33)).heap.size = wr.heap.size + 1 by simp] at h
        exact h
      have HV2 := Lib.hid (show validB xs = (okOne m && !hasK (kM m) ((xs.take k).map kM) && validFrom ((xs.take k).map kM ++ [kM m]) (xs.drop (k + 1))) by
        rw [HV.out, List.drop_eq_getElem_cons hlt, ← HMK.out]; rfl)
      have HW := Lib.hid hW0
      have HB0 := Lib.hid B0; have HX := Lib.hid X0; have HK := Lib.hid K0
      clear hW0 B0 X0 K0
      cases hp : m.f3.toList.isEmpty
      · go_wp2_with fail
        rw [← HW.out]
        refine (dvalid_calls m.f3 _).mono ?_
        rintro e W1 ⟨rfl, hb⟩
        have HX1 := Lib.hid (HX.out.below hb); have HK1 := Lib.hid (HK.out.below hb); have HM1 := Lib.hid (HM.out.below (bb HB0.out hb))
        have HB1 := Lib.hid (bb HB0.out hb)
        clear hb
        have x0 := HX1.out.c0; have x1 := HX1.out.c1; have x2 := HX1.out.c2; have x4 := HX1.out.c4
        go_wp2_with fail
        clear x0 x1 x2 x4
        refine (inTime_calls (some ⟨W1.heap.size, 0, none⟩) 2 [m.f0, m.f4] _ (C2 W1 m.f0 m.f4)).mono ?_
        rintro e W2 ⟨rfl, hb⟩
        have hc := bb (below_one _ _) hb
        have HX2 := Lib.hid (HX1.out.below hc); have HK2 := Lib.hid (HK1.out.below hc); have HM2 := Lib.hid (HM1.out.below hc); have HB2 := Lib.hid (bb HB1.out hc)
        clear hb hc
        have x1 := HX2.out.c1; have x2 := HX2.out.c2
        have k0 := HK2.out.c0; have k1 := HK2.out.c1
        have hlk : (Instr.lookup 128 (.map (some w.heap.size)) (.agg #[.int .i64 m.f0, .int .i64 m.f1]) false).run Try.prog W2 = .ok (.bool (hasK (kM m) ((xs.take k).map kM))) W2 := lookup_run HM2.out (kM m)
        generalize hT : [m.f0, m.f4].any oddT = bT
        have HT := Lib.hid hT
        clear hT
        cases bT
        · cases h1 : decide (m.f1 < 1)
          · cases h2 : decide (3 < m.f1)
            · cases h3 : decide (m.f2 < 0)
              · cases h4 : decide (6 ≤ m.f2)
                · cases h5 : numB m.f3
                  · go_wp2_with fail
                    go_ret
                    exact ⟨by rw [bad_one HV2.out (by simp [okOne, hp, h5])]; rfl, bb HB.out HB2.out⟩
                  · cases hs : hasK (kM m) ((xs.take k).map kM)
                    · obtain ⟨ob, hup, hm2⟩ := update_run HM2.out (kM m) hs
                      rw [hs] at hlk
                      have hup' : (Instr.mapUpdate 128 (.map (some w.heap.size)) (.agg #[.int .i64 m.f0, .int .i64 m.f1]) (.bool true)).run Try.prog W2 = .ok () { W2 with heap := W2.heap.setIfInBounds w.heap.size ob } := hup
                      have HS := Lib.hid hs; have HM3 := Lib.hid hm2
                      have HOK := Lib.hid (show okOne m = true by simp [okOne, h1, h2, h3, h4, hp, h5, odd_not HT.out])
                      clear hup hm2 hs
                      go_wp2_with fail
                      go_roundw
                      case rel => exact ⟨k + 1, by omega, by go_num, by rw [HV2.out, HOK.out, HS.out, take_keys hlt, ← HMK.out]; simp, by rw [take_keys hlt, ← HMK.out]; exact HM3.out, below_setObj (bb HB.out HB2.out) (Nat.le_refl _) _⟩
                      case measure => simp [intOf]; omega
                    · rw [hs] at hlk
                      have HS := Lib.hid hs
                      clear hs
                      go_wp2_with fail
                      go_ret
                      exact ⟨by rw [HV2.out, HS.out, Bool.not_true, Bool.and_false, Bool.false_and]; rfl, bb HB.out HB2.out⟩
                · go_wp2_with fail
                  go_ret
                  exact ⟨by rw [bad_one HV2.out (by simp [okOne, h4])]; rfl, bb HB.out HB2.out⟩
              · go_wp2_with fail
                go_ret
                exact ⟨by rw [bad_one HV2.out (by simp [okOne, h3])]; rfl, bb HB.out HB2.out⟩
            · go_wp2_with fail
              go_ret
              exact ⟨by rw [bad_one HV2.out (by simp [okOne, h2])]; rfl, bb HB.out HB2.out⟩
          · go_wp2_with fail
            go_ret
            exact ⟨by rw [bad_one HV2.out (by simp [okOne, h1])]; rfl, bb HB.out HB2.out⟩
        · go_wp2_with fail
          go_ret
          exact ⟨by rw [bad_one HV2.out (odd_one HT.out)]; rfl, bb HB.out HB2.out⟩
      · obtain ⟨W1, hW1⟩ : ∃ W1, W1 = W0 := ⟨_, rfl⟩
        have HX1 := Lib.hid HX.out; have HK1 := Lib.hid HK.out; have HM1 := Lib.hid (HM.out.below HB0.out)
        have HB1 := Lib.hid HB0.out
        rw [← hW1] at HX1 HK1 HM1 HB1
        have hWW := HW.out
        rw [← hW1] at hWW
        have HWW := Lib.hid hWW
        have HSZ := Lib.hid (show wr.heap.size + 1 + 1 = W1.heap.size by rw [hWW]; simp)
        clear hWW hW1
        go_wp2_with fail
        rw [← HWW.out, HSZ.out]
        refine (inTime_calls (some ⟨W1.heap.size, 0, none⟩) 2 [m.f0, m.f4] _ (C2 W1 m.f0 m.f4)).mono ?_
        rintro e W2 ⟨rfl, hb⟩
        have hc := bb (below_one _ _) hb
        have HX2 := Lib.hid (HX1.out.below hc); have HK2 := Lib.hid (HK1.out.below hc); have HM2 := Lib.hid (HM1.out.below hc); have HB2 := Lib.hid (bb HB1.out hc)
        clear hb hc
        have x1 := HX2.out.c1; have x2 := HX2.out.c2
        have k0 := HK2.out.c0; have k1 := HK2.out.c1
        have hlk : (Instr.lookup 128 (.map (some w.heap.size)) (.agg #[.int .i64 m.f0, .int .i64 m.f1]) false).run Try.prog W2 = .ok (.bool (hasK (kM m) ((xs.take k).map kM))) W2 := lookup_run HM2.out (kM m)
        generalize hT : [m.f0, m.f4].any oddT = bT
        have HT := Lib.hid hT
        clear hT
        cases bT
        · cases h1 : decide (m.f1 < 1)
          · cases h2 : decide (3 < m.f1)
            · cases h3 : decide (m.f2 < 0)
              · cases h4 : decide (6 ≤ m.f2)
                · cases hs : hasK (kM m) ((xs.take k).map kM)
                  · obtain ⟨ob, hup, hm2⟩ := update_run HM2.out (kM m) hs
                    rw [hs] at hlk
                    have hup' : (Instr.mapUpdate 128 (.map (some w.heap.size)) (.agg #[.int .i64 m.f0, .int .i64 m.f1]) (.bool true)).run Try.prog W2 = .ok () { W2 with heap := W2.heap.setIfInBounds w.heap.size ob } := hup
                    have HS := Lib.hid hs; have HM3 := Lib.hid hm2
                    have HOK := Lib.hid (show okOne m = true by simp [okOne, h1, h2, h3, h4, hp, odd_not HT.out])
                    clear hup hm2 hs
                    go_wp2_with fail
                    go_roundw
                    case rel => exact ⟨k + 1, by omega, by go_num, by rw [HV2.out, HOK.out, HS.out, take_keys hlt, ← HMK.out]; simp, by rw [take_keys hlt, ← HMK.out]; exact HM3.out, below_setObj (bb HB.out HB2.out) (Nat.le_refl _) _⟩
                    case measure => simp [intOf]; omega
                  · rw [hs] at hlk
                    have HS := Lib.hid hs
                    clear hs
                    go_wp2_with fail
                    go_ret
                    exact ⟨by rw [HV2.out, HS.out, Bool.not_true, Bool.and_false, Bool.false_and]; rfl, bb HB.out HB2.out⟩
                · go_wp2_with fail
                  go_ret
                  exact ⟨by rw [bad_one HV2.out (by simp [okOne, h4])]; rfl, bb HB.out HB2.out⟩
              · go_wp2_with fail
                go_ret
                exact ⟨by rw [bad_one HV2.out (by simp [okOne, h3])]; rfl, bb HB.out HB2.out⟩
            · go_wp2_with fail
              go_ret
              exact ⟨by rw [bad_one HV2.out (by simp [okOne, h2])]; rfl, bb HB.out HB2.out⟩
          · go_wp2_with fail
            go_ret
            exact ⟨by rw [bad_one HV2.out (by simp [okOne, h1])]; rfl, bb HB.out HB2.out⟩
        · go_wp2_with fail
          go_ret
          exact ⟨by rw [bad_one HV2.out (odd_one HT.out)]; rfl, bb HB.out HB2.out⟩
    · have hv := HV.out
      rw [List.drop_of_length_le (by omega)] at hv
      have HV3 := Lib.hid hv
      clear hv
      go_wp2
      go_ret
      exact ⟨by rw [HV3.out]; rfl, HB.out⟩
end Go.Proofs.Ytbfhohpbldadbaa.P
