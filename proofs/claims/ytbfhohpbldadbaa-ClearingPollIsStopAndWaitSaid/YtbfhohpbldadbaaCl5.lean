import Derived.Test.YtbfhohpbldadbaaCl4
namespace Go.Proofs.Ytbfhohpbldadbaa.P
open Go Go.RowKit Go.Proofs.YtbfhohpbldadbaaW.PrintWords Go.Proofs.YtbfhohpbldadbaaW.PrintLast Go.Proofs.YtbfhohpbldadbaaW.PrintMore
set_option linter.unusedVariables false
set_option linter.unusedSimpArgs false
/-- An end as a value, made from block B on. -/
def EndV (w : World) (B : Nat) (v : Value) (x : S61) : Prop := ∃ vo vi, v = .agg #[vo, .int .i64 x.f1, .int .i64 x.f2, vi, .bool x.f4, .int .i64 x.f5] ∧ Kd.V kL 28 w B (fun k => B ≤ k) vo x.f0 ∧ Kd.V k39 39 w B (fun k => B ≤ k) vi x.f3
/-- The value of an end that came in. -/
def vE (A0 : Option Addr) (c0 : Nat) (A3 : Option Addr) (c3 : Nat) (x : S61) : Value := .agg #[.slice A0 x.f0.length c0, .int .i64 x.f1, .int .i64 x.f2, .slice A3 x.f3.length c3, .bool x.f4, .int .i64 x.f5]
def offF (c : S61) (recs : List S39) : S61 × Int :=
  if clCheck c.f0 c.f1 c.f2 c.f5 ≠ 0 then (z61, clCheck c.f0 c.f1 c.f2 c.f5) else if recs.length = 0 then (z61, 1) else if sizedB recs.length = false ∨ c.f0.length = 64 then (z61, 2) else (⟨c.f0 ++ [recs], c.f1, c.f2, c.f3, c.f4, c.f5⟩, 0)
def Off2 (x : S61) (r : Int) (w : World) (e : Ending) (w' : World) : Prop := ∃ v, e = .returned (.tuple #[v, .int .i64 r]) ∧ EndV w' w.heap.size v x ∧ Below w.heap.size w w'
theorem EndV.zero (w : World) (B : Nat) : EndV w B (.agg #[.slice none 0 0, .int .i64 0, .int .i64 0, .slice none 0 0, .bool false, .int .i64 0]) z61 := ⟨_, _, rfl, Kd.V_nil _ _ _ _ _, Kd.V_nil _ _ _ _ _⟩
theorem six {W : World} {g t : Nat} {a0 a3 : Value} {a1 a2 a5 : Int} {a4 : Bool} (h : EBlk W g t a0 a1 a2 a3 a4 a5) (v0 : Value) (f1 f2 : Int) (v3 : Value) (f4 : Bool) (f5 : Int) :
    ∃ W', W' = (((((W.setCell ⟨g, 0, none⟩ v0).setCell ⟨g, 1, none⟩ (.int .i64 f1)).setCell ⟨g, 2, none⟩ (.int .i64 f2)).setCell ⟨g, 3, none⟩ v3).setCell ⟨g, 4, none⟩ (.bool f4)).setCell ⟨g, 5, none⟩ (.int .i64 f5) ∧ EBlk W' g t v0 f1 f2 v3 f4 f5 ∧ Fr (fun k => k = g) W W' := by
  refine ⟨_, rfl, ?_, ?_⟩
  · exact blk_put (blk_put (blk_put (blk_put (blk_put (blk_put h 0 _ rfl) 1 _ rfl) 2 _ rfl) 3 _ rfl) 4 _ rfl) 5 _ rfl
  · have tr : ∀ {A B C : World}, Fr (fun k => k = g) A B → Fr (fun k => k = g) B C → Fr (fun k => k = g) A C := fun h k => Fr.trans h k (fun _ _ h => h)
    exact tr (tr (tr (tr (tr (Fr.set W g 0 _) (Fr.set _ g 1 _)) (Fr.set _ g 2 _)) (Fr.set _ g 3 _)) (Fr.set _ g 4 _)) (Fr.set _ g 5 _)
theorem V_fr {α : Type} {d : Kd α} {e B B' : Nat} {W W' : World} {v : Value} {xs : List α} {bad : Nat → Prop} (h : Kd.V d e W B (fun k => B ≤ k) v xs) (hf : Fr bad W W') (hb : ∀ k, bad k → k < B) (hB : B' ≤ B) : Kd.V d e W' B' (fun k => B' ≤ k) v xs :=
  Kd.V_mono (Kd.V_step h (fun k hk hlt => hf.same k hlt (fun hx => by have := hb k hx; omega))) (fun k hk => Nat.le_trans hB hk)
set_option maxHeartbeats 8000000 in
set_option maxRecDepth 100000 in
theorem offer_calls (A0 : Option Addr) (c0 : Nat) (A3 : Option Addr) (c3 : Nat) (c : S61) (Ar : Option Addr) (cr : Nat) (recs : List S39) (w : World) (hr : Kd.C kL w A0 c.f0.length c.f0) (hr3 : Kd.C k39 w A3 c.f3.length c.f3) (hl : c.f3.length ≤ 1000000) (hrr : Kd.C k39 w Ar recs.length recs) :
    Calls Try.prog 35 #[vE A0 c0 A3 c3 c, .slice Ar recs.length cr] w (Off2 (offF c recs).1 (offF c recs).2 w) := by
  obtain ⟨o, f1, f2, inn, f4, f5⟩ := c
  simp only at hr hr3 hl
  unfold vE
  simp only
  obtain ⟨x, hx⟩ : ∃ x, x = (offF ⟨o, f1, f2, inn, f4, f5⟩ recs).1 := ⟨_, rfl⟩
  obtain ⟨r, hr'⟩ : ∃ r, r = (offF ⟨o, f1, f2, inn, f4, f5⟩ recs).2 := ⟨_, rfl⟩
  rw [← hx, ← hr']
  have PX := Lib.hid hx; have PR := Lib.hid hr'
  have HR := Lib.hid hr; have HR3 := Lib.hid hr3; have HL := Lib.hid hl; have HRR := Lib.hid hrr
  clear hr hr3 hl hrr hx hr'
  go_enter Try.func35, Try.ntmps35
  go_wp2_with fail
  obtain ⟨w1, hw1⟩ : ∃ w1, w1 = (w.alloc (.cells #[.slice A0 o.length c0, .int .i64 f1, .int .i64 f2, .slice A3 inn.length c3, .bool f4, .int .i64 f5] 61)).alloc (.cells #[.slice none 0 0, .int .i64 0, .int .i64 0, .slice none 0 0, .bool false, .int .i64 0] 61) := ⟨_, rfl⟩
  rw [← hw1]
  have Z := Lib.hid (show EBlk w1 (w.heap.size + 1) 61 (.slice none 0 0) 0 0 (.slice none 0 0) false 0 by rw [hw1]; have h := EBlk.new (w.alloc (.cells #[.slice A0 o.length c0, .int .i64 f1, .int .i64 f2, .slice A3 inn.length c3, .bool f4, .int .i64 f5] 61)) 61 (.slice none 0 0) (.slice none 0 0) 0 0 0 false; rwa [World.size_alloc] at h)
  have B0 := Lib.hid (show Below w.heap.size w w1 by rw [hw1]; exact al (below_one _ _) _)
  have BW := Lib.hid B0.out
  have N1 := Lib.hid (show w1.heap.size = w.heap.size + 2 by rw [hw1]; simp)
  clear hw1
  refine (edit_calls A0 c0 o f1 f2 A3 c3 inn f4 f5 w1 (Kd.C_below HR.out B0.out) (Kd.C_below HR3.out B0.out) HL.out).mono ?_
  rintro e w2 (⟨hne, rfl, hb⟩ | ⟨h0, g, vo, vi, rfl, hE⟩)
  · replace Z := Lib.hid (Z.out.below hb)
    replace B0 := Lib.hid (bb B0.out hb)
    clear hb
    have hz : (clCheck o f1 f2 f5 != 0) = true := by simpa using hne
    obtain ⟨err, herr⟩ : ∃ err, err = clCheck o f1 f2 f5 := ⟨_, rfl⟩
    rw [← herr] at hz hne ⊢
    have HE := Lib.hid herr; have HNE := Lib.hid hne
    clear herr hne
    have z0 := Z.out.c0; have z1 := Z.out.c1; have z2 := Z.out.c2; have z3 := Z.out.c3; have z4 := Z.out.c4; have z5 := Z.out.c5
    have y := blk_frozen Z.out
    go_wp2_with fail
    obtain ⟨w9, hw9, Z9, F9⟩ := six Z.out (.slice none 0 0) (0) (0) (.slice none 0 0) (false) (0)
    rw [← hw9]
    clear hw9
    obtain rfl : err = r := by rw [PR.out]; unfold offF; simp only; rw [if_pos (by rw [← HE.out]; exact HNE.out)]; exact HE.out
    obtain rfl : x = z61 := by rw [PX.out]; unfold offF; simp only; rw [if_pos (by rw [← HE.out]; exact HNE.out)]
    refine bodyPost_ret (v := .tuple #[.agg #[.slice none 0 0, .int .i64 (0), .int .i64 (0), .slice none 0 0, .bool false, .int .i64 (0)], .int .i64 (err)]) (by simp [results, Try.results35, go_sem, Z9.c0, Z9.c1, Z9.c2, Z9.c3, Z9.c4, Z9.c5]) rfl ⟨_, rfl, EndV.zero _ _, Fr.below F9 B0.out (Nat.le_refl _) (fun k hk => by omega)⟩
  · have HZ := Lib.hid h0
    have EE := Lib.hid hE
    replace Z := Lib.hid (Z.out.below hE.low)
    have B1 := Lib.hid (bb B0.out hE.low)
    replace B0 := B1
    clear h0 hE B1
    have z0 := Z.out.c0; have z1 := Z.out.c1; have z2 := Z.out.c2; have z3 := Z.out.c3; have z4 := Z.out.c4; have z5 := Z.out.c5
    have y := blk_frozen Z.out
    by_cases h1 : recs.length = 0
    · have H1 := Lib.hid h1
      go_wp2_with fail
      obtain ⟨w9, hw9, Z9, F9⟩ := six Z.out (.slice none 0 0) (0) (0) (.slice none 0 0) (false) (0)
      rw [← hw9]
      clear hw9
      obtain rfl : r = 1 := by rw [PR.out]; unfold offF; simp only; rw [if_neg (by rw [HZ.out]; simp), if_pos H1.out]
      obtain rfl : x = z61 := by rw [PX.out]; unfold offF; simp only; rw [if_neg (by rw [HZ.out]; simp), if_pos H1.out]
      refine bodyPost_ret (v := .tuple #[.agg #[.slice none 0 0, .int .i64 (0), .int .i64 (0), .slice none 0 0, .bool false, .int .i64 (0)], .int .i64 (1)]) (by simp [results, Try.results35, go_sem, Z9.c0, Z9.c1, Z9.c2, Z9.c3, Z9.c4, Z9.c5]) rfl ⟨_, rfl, EndV.zero _ _, Fr.below F9 B0.out (Nat.le_refl _) (fun k hk => by omega)⟩
    · have H1 := Lib.hid h1
      have h1b : 0 < recs.length := by omega
      clear h1
      go_wp2_with fail
      refine (sized_calls Ar recs.length cr w2).mono ?_
      rintro e w3 ⟨rfl, hb⟩
      replace EE := Lib.hid (EE.out.below hb)
      replace Z := Lib.hid (Z.out.below hb)
      replace B0 := Lib.hid (bb B0.out hb)
      clear hb z0 z1 z2 z3 z4 z5 y
      have z0 := Z.out.c0; have z1 := Z.out.c1; have z2 := Z.out.c2; have z3 := Z.out.c3; have z4 := Z.out.c4; have z5 := Z.out.c5
      have y := blk_frozen Z.out
      cases hs : sizedB recs.length
      · have HS := Lib.hid hs
        go_wp2_with fail
        obtain ⟨w9, hw9, Z9, F9⟩ := six Z.out (.slice none 0 0) (0) (0) (.slice none 0 0) (false) (0)
        rw [← hw9]
        clear hw9
        obtain rfl : r = 2 := by rw [PR.out]; unfold offF; simp only; rw [if_neg (by rw [HZ.out]; simp), if_neg H1.out, if_pos (Or.inl HS.out)]
        obtain rfl : x = z61 := by rw [PX.out]; unfold offF; simp only; rw [if_neg (by rw [HZ.out]; simp), if_neg H1.out, if_pos (Or.inl HS.out)]
        refine bodyPost_ret (v := .tuple #[.agg #[.slice none 0 0, .int .i64 (0), .int .i64 (0), .slice none 0 0, .bool false, .int .i64 (0)], .int .i64 (2)]) (by simp [results, Try.results35, go_sem, Z9.c0, Z9.c1, Z9.c2, Z9.c3, Z9.c4, Z9.c5]) rfl ⟨_, rfl, EndV.zero _ _, Fr.below F9 B0.out (Nat.le_refl _) (fun k hk => by omega)⟩
      · have HS := Lib.hid hs
        obtain ⟨Ao, ko, rfl⟩ := Kd.R_slice EE.out.out
        obtain ⟨Ai, ki, rfl⟩ := Kd.R_slice EE.out.inn
        have x0 := EE.out.blk.c0
        by_cases h6 : (o.length : Int) = 64
        · have H6 := Lib.hid h6
          go_wp2_with fail
          obtain ⟨w9, hw9, Z9, F9⟩ := six Z.out (.slice none 0 0) (0) (0) (.slice none 0 0) (false) (0)
          rw [← hw9]
          clear hw9
          obtain rfl : r = 2 := by rw [PR.out]; unfold offF; simp only; rw [if_neg (by rw [HZ.out]; simp), if_neg H1.out, if_pos (Or.inr (by have := H6.out; omega))]
          obtain rfl : x = z61 := by rw [PX.out]; unfold offF; simp only; rw [if_neg (by rw [HZ.out]; simp), if_neg H1.out, if_pos (Or.inr (by have := H6.out; omega))]
          refine bodyPost_ret (v := .tuple #[.agg #[.slice none 0 0, .int .i64 (0), .int .i64 (0), .slice none 0 0, .bool false, .int .i64 (0)], .int .i64 (2)]) (by simp [results, Try.results35, go_sem, Z9.c0, Z9.c1, Z9.c2, Z9.c3, Z9.c4, Z9.c5]) rfl ⟨_, rfl, EndV.zero _ _, Fr.below F9 B0.out (Nat.le_refl _) (fun k hk => by omega)⟩
        · have H6 := Lib.hid h6
          go_wp2_with fail
          have SZ := Lib.hid (check_sized HZ.out)
          have HSR := Lib.hid (show recs.length ≤ 1024 by have h := HS.out; unfold sizedB at h; simp only [Bool.and_eq_true, decide_eq_true_eq] at h; omega)
          replace EE := Lib.hid (show EdW w1 w3.drew g (.slice Ao o.length ko) o f1 f2 (.slice Ai inn.length ki) inn f4 f5 from EE.out.below (below_drew (Below.refl _ _)))
          replace Z := Lib.hid (show EBlk w3.drew (w.heap.size + 1) 61 (.slice none 0 0) 0 0 (.slice none 0 0) false 0 from Z.out.below (below_drew (Below.refl _ _)))
          have RR := Lib.hid (show Kd.C k39 w3.drew Ar recs.length recs from Kd.C_drew (Kd.C_below HRR.out B0.out))
          clear z0 z1 z2 z3 z4 z5 y x0 B0 h6 hs
          refine start_ (n := 14) (S := fun w' => w'.cell? ⟨g, 0, none⟩ = some (.slice Ao o.length ko)) (ds := [13]) #[false, false, false, false, false, false, false, false, false, false, false, false, false, false] (by kernel_rfl) rfl rfl (EE.out.blk.c0) (fun hHeld => ?_)
          generalize w3.drew = w4 at EE Z RR hHeld ⊢
          refine pure_ (i := 0) (N := some 37) (v := ?_) (a' := ?_) #[true, false, false, false, false, false, false, false, false, false, false, false, false, false] rfl rfl (by kernel_rfl) (fun _ _ _ h => h) (Or.inl ⟨by rfl, ?_⟩) ?_ ?_
          rotate_left
          · intro w'
            go_simp
            with_reducible rfl
          rotate_left
          · simp only [Act.put, List.setIfInBounds_toArray, List.set_cons_zero, List.set_cons_succ, i64_w, i32_w]
            rfl
          refine pure_ (i := 1) (N := some 38) (v := ?_) (a' := ?_) #[true, true, false, false, false, false, false, false, false, false, false, false, false, false] rfl rfl (by kernel_rfl) (fun _ _ _ h => h) (Or.inl ⟨by rfl, ?_⟩) ?_ ?_
          rotate_left
          · intro w'
            go_simp
            with_reducible rfl
          rotate_left
          · simp only [Act.put, List.setIfInBounds_toArray, List.set_cons_zero, List.set_cons_succ, i64_w, i32_w]
            rfl
          refine pure_ (i := 2) (N := some 39) (v := ?_) (a' := ?_) #[true, true, true, false, false, false, false, false, false, false, false, false, false, false] rfl rfl (by kernel_rfl) (fun _ _ _ h => h) (Or.inl ⟨by rfl, ?_⟩) ?_ ?_
          rotate_left
          · intro w'
            go_simp
            with_reducible rfl
          rotate_left
          · simp only [Act.put, List.setIfInBounds_toArray, List.set_cons_zero, List.set_cons_succ, i64_w, i32_w]
            rfl
          refine pure_ (i := 3) (N := some 40) (v := ?_) (a' := ?_) #[true, true, true, true, false, false, false, false, false, false, false, false, false, false] rfl rfl (by kernel_rfl) (fun _ _ _ h => h) (Or.inl ⟨by rfl, ?_⟩) ?_ ?_
          rotate_left
          · intro w'
            go_simp
            with_reducible rfl
          rotate_left
          · simp only [Act.put, List.setIfInBounds_toArray, List.set_cons_zero, List.set_cons_succ, i64_w, i32_w]
            rfl
          refine pure_ (i := 4) (N := some 41) (v := ?_) (a' := ?_) #[true, true, true, true, true, false, false, false, false, false, false, false, false, false] rfl rfl (by kernel_rfl) (fun _ _ _ h => h) (Or.inl ⟨by rfl, ?_⟩) ?_ ?_
          rotate_left
          · intro w'
            go_simp
            with_reducible rfl
          rotate_left
          · simp only [Act.put, List.setIfInBounds_toArray, List.set_cons_zero, List.set_cons_succ, i64_w, i32_w]
            rfl
          refine pure_ (i := 6) (N := some 43) (v := ?_) (a' := ?_) #[true, true, true, true, true, false, true, false, false, false, false, false, false, false] rfl rfl (by kernel_rfl) (fun _ _ _ h => h) (Or.inl ⟨by rfl, ?_⟩) ?_ ?_
          rotate_left
          · intro w'
            go_simp
            with_reducible rfl
          rotate_left
          · simp only [Act.put, List.setIfInBounds_toArray, List.set_cons_zero, List.set_cons_succ, i64_w, i32_w]
            rfl
          refine take_ (i := 5) (N := some 42) (v := ?_) (a' := ?_) #[true, true, true, true, true, true, true, false, false, false, false, false, false, false] rfl rfl (by kernel_rfl) (fun _ _ _ h => h) (Or.inl ⟨by rfl, ?_⟩) hHeld ?_ ?_
          rotate_left
          · intro w' s0
            go_simp
            with_reducible rfl
          rotate_left
          · simp only [Act.put, List.setIfInBounds_toArray, List.set_cons_zero, List.set_cons_succ, i64_w, i32_w]
            rfl
          refine one_ (i := 7) (N := some 44) #[true, true, true, true, true, true, true, true, false, false, false, false, false, false] rfl rfl (by kernel_rfl) (by decide) (fun K hK => ?_)
          refine goes_ Try.func72 (by kernel_rfl) rfl #[.slice Ar recs.length cr] (by rfl) rfl rfl (by simp only [List.map_toArray, List.map_cons, List.map_nil]; rfl) ?_
          with_reducible refine (cloneR Ar cr recs w4 RR.out (by have := HSR.out; omega)).mono ?_
          rintro e w5 ⟨v5, rfl, ho, hb⟩
          refine ⟨_, rfl, ?_⟩
          obtain ⟨Ac, kc, rfl⟩ := Kd.R_slice ho
          have E5 := Lib.hid (EE.out.below hb)
          have Z5 := Lib.hid (Z.out.below hb)
          have HC := Lib.hid (Kd.R_mono (Kd.R_newR ho EE.out.out) (ok' := fun k => some k ≠ (Value.slice Ao o.length ko).ownBlock) (fun _ h => h.2))
          clear ho hb
          refine hK.out _ _ (E5.out.blk.c0) (fun hHeld => ?_)
          clear hK K
          refine norm_ (a' := ?_) ?_ ?_
          rotate_left
          · show Act.put _ (some 44) _ = _
            simp only [Act.put, List.setIfInBounds_toArray, List.set_cons_zero, List.set_cons_succ, i64_w, i32_w]
            rfl
          refine one_ (i := 8) (N := some 45) #[true, true, true, true, true, true, true, true, true, false, false, false, false, false] rfl rfl (by kernel_rfl) (by decide) (fun K hK => ?_)
          refine value_ (w1 := ?_) (v := ?_) (by rfl) rfl ?_ ?_
          rotate_left 2
          · go_simp
            constructor
            · rfl
            · rfl
          refine hK.out _ _ ((E5.out.blk.below (below_one _ _)).c0) (fun hHeld => ?_)
          clear hK K
          refine norm_ (a' := ?_) ?_ ?_
          rotate_left
          · show Act.put _ (some 45) _ = _
            simp only [Act.put, List.setIfInBounds_toArray, List.set_cons_zero, List.set_cons_succ, i64_w, i32_w]
            rfl
          refine one_ (i := 9) (N := some 46) #[true, true, true, true, true, true, true, true, true, true, false, false, false, false] rfl rfl (by kernel_rfl) (by decide) (fun K hK => ?_)
          refine Kd.R_append_step kL (w0 := w1) (W := w5) w1.heap.size (by rfl) (.tmp 42) (.tmp 45) 59 28 (.slice none 0 0) 24 (by rfl) Try.underlying59 info28 rfl (by decide) (by decide) (.slice Ao o.length ko) o recs [.slice Ac recs.length kc] (fun _ => True) (fun k => some k ≠ (Value.slice Ao o.length ko).ownBlock) (by rfl) (by rfl) ⟨_, rfl, Kd.R_lower HC.out EE.out.low.size⟩ (fun _ h => ⟨trivial, h⟩) (fun _ _ => trivial) (Kd.R_mono E5.out.out (fun _ _ => trivial)) E5.out.low E5.out.low.size (by have := SZ.out.1; omega) ?_
          intro v6 w6 hR6 hb6 hg6 hat6
          obtain ⟨A6, k6, rfl⟩ := Kd.R_slice hR6
          have hlen : (o ++ [recs]).length = o.length + 1 := by rw [List.length_append]; rfl
          simp only [hlen] at hR6 hat6 hg6 ⊢
          clear hlen
          have E6 := Lib.hid (show EBlk w6 g 117 (.slice Ao o.length ko) f1 f2 (.slice Ai inn.length ki) f4 f5 from blk_grown E5.out.blk hg6 (Kd.R_ne E5.out.out E5.out.blk (by decide)))
          have Z6 := Lib.hid (show EBlk w6 (w.heap.size + 1) 61 (.slice none 0 0) 0 0 (.slice none 0 0) false 0 from blk_grown Z5.out hg6 (Kd.R_ne E5.out.out Z5.out (by decide)))
          have I6 := Lib.hid (Kd.R_over E5.out.inn E5.out.out (by decide) hg6)
          have O6 := Lib.hid hR6
          have B6 := Lib.hid hb6
          clear hR6 hb6 hg6 hat6
          refine hK.out _ _ (E6.out.c0) (fun hHeld => ?_)
          clear hK K
          refine norm_ (a' := ?_) ?_ ?_
          rotate_left
          · show Act.put _ (some 46) _ = _
            simp only [Act.put, List.setIfInBounds_toArray, List.set_cons_zero, List.set_cons_succ, i64_w, i32_w]
            rfl
          refine pure_ (i := 10) (N := some 47) (v := ?_) (a' := ?_) #[true, true, true, true, true, true, true, true, true, true, true, false, false, false] rfl rfl (by kernel_rfl) (fun _ _ _ h => h) (Or.inl ⟨by rfl, ?_⟩) ?_ ?_
          rotate_left
          · intro w'
            go_simp
            with_reducible rfl
          rotate_left
          · simp only [Act.put, List.setIfInBounds_toArray, List.set_cons_zero, List.set_cons_succ, i64_w, i32_w]
            rfl
          refine pure_ (i := 11) (N := some 48) (v := ?_) (a' := ?_) #[true, true, true, true, true, true, true, true, true, true, true, true, false, false] rfl rfl (by kernel_rfl) (fun _ _ _ h => h) (Or.inl ⟨by rfl, ?_⟩) ?_ ?_
          rotate_left
          · intro w'
            go_simp
            with_reducible rfl
          rotate_left
          · simp only [Act.put, List.setIfInBounds_toArray, List.set_cons_zero, List.set_cons_succ, i64_w, i32_w]
            rfl
          refine pure_ (i := 12) (N := some 49) (v := ?_) (a' := ?_) #[true, true, true, true, true, true, true, true, true, true, true, true, true, false] rfl rfl (by kernel_rfl) (fun _ _ _ h => h) (Or.inl ⟨by rfl, ?_⟩) ?_ ?_
          rotate_left
          · intro w'
            go_simp
            with_reducible rfl
          rotate_left
          · simp only [Act.put, List.setIfInBounds_toArray, List.set_cons_zero, List.set_cons_succ, i64_w, i32_w]
            rfl
          refine last_ (i := 13) (N := none) #[true, true, true, true, true, true, true, true, true, true, true, true, true, true] rfl rfl (by kernel_rfl) (by decide) (fun K hK => ?_)
          have q1 := E6.out.c0; have q2 := blk_frozen E6.out 0
          refine skip_ (w1 := ?_) (by rfl) rfl ?_ ?_
          rotate_left
          · go_simp
            rfl
          refine hK.out _ _ ?_
          clear hK K
          refine done_ (by kernel_rfl) ?_

          have E7 := Lib.hid (show EBlk (w6.setCell ⟨g, 0, none⟩ (.slice A6 (o.length + 1) k6)) g 117 (.slice A6 (o.length + 1) k6) f1 f2 (.slice Ai inn.length ki) f4 f5 from blk_put E6.out 0 _ rfl)
          have O7 := Lib.hid (Kd.R_set O6.out E6.out (by decide) 0 (.slice A6 (o.length + 1) k6))
          have I7 := Lib.hid (Kd.R_set I6.out E6.out (by decide) 0 (.slice A6 (o.length + 1) k6))
          have hgn : w.heap.size + 1 ≠ g := by have := EE.out.ge; have := N1.out; omega
          replace Z := Lib.hid (show EBlk (w6.setCell ⟨g, 0, none⟩ (.slice A6 (o.length + 1) k6)) (w.heap.size + 1) 61 (.slice none 0 0) 0 0 (.slice none 0 0) false 0 from blk_far Z6.out hgn (.slice A6 (o.length + 1) k6))
          have B7 := Lib.hid (below_set B6.out (Nat.le_refl _) EE.out.ge 0 (.slice A6 (o.length + 1) k6))
          have B0 := Lib.hid (bb BW.out B7.out)
          clear E6 O6 I6 Z6 B6 hgn
          generalize w6.setCell ⟨g, 0, none⟩ (.slice A6 (o.length + 1) k6) = w7 at E7 O7 I7 Z B7 B0 ⊢
          have x0 := E7.out.c0; have x1 := E7.out.c1; have x2 := E7.out.c2; have x3 := E7.out.c3; have x4 := E7.out.c4; have x5 := E7.out.c5
          have z0 := Z.out.c0; have z1 := Z.out.c1; have z2 := Z.out.c2; have z3 := Z.out.c3; have z4 := Z.out.c4; have z5 := Z.out.c5
          have y := blk_frozen Z.out
          go_wp2_with fail
          obtain ⟨w9, hw9, Z9, F9⟩ := six Z.out (.slice A6 (o.length + 1) k6) (f1) (f2) (.slice Ai inn.length ki) (f4) (f5)
          rw [← hw9]
          clear hw9
          obtain rfl : r = 0 := by rw [PR.out]; unfold offF; simp only; rw [if_neg (by rw [HZ.out]; simp), if_neg H1.out, if_neg (by rw [HS.out]; have := H6.out; simp; omega)]
          obtain rfl : x = ⟨o ++ [recs], f1, f2, inn, f4, f5⟩ := by rw [PX.out]; unfold offF; simp only; rw [if_neg (by rw [HZ.out]; simp), if_neg H1.out, if_neg (by rw [HS.out]; have := H6.out; simp; omega)]
          refine bodyPost_ret (v := .tuple #[.agg #[.slice A6 (o.length + 1) k6, .int .i64 (f1), .int .i64 (f2), .slice Ai inn.length ki, .bool f4, .int .i64 (f5)], .int .i64 (0)]) (by simp [results, Try.results35, go_sem, Z9.c0, Z9.c1, Z9.c2, Z9.c3, Z9.c4, Z9.c5]) rfl ⟨_, rfl, ⟨_, _, rfl, V_fr (Kd.R_V (base' := w1.heap.size) (Kd.R_mono (Kd.R_bound O7.out) (fun _ hk => hk.2.1))) F9 (fun k hk => by have := N1.out; omega) BW.out.size, V_fr (Kd.R_V (base' := w1.heap.size) (Kd.R_mono (Kd.R_bound I7.out) (fun _ hk => hk.2.1))) F9 (fun k hk => by have := N1.out; omega) BW.out.size⟩, Fr.below F9 B0.out (Nat.le_refl _) (fun k hk => by omega)⟩
end Go.Proofs.Ytbfhohpbldadbaa.P
