import Derived.Test.YtbfhohpbldadbaaCl5
namespace Go.Proofs.Ytbfhohpbldadbaa.P
open Go Go.RowKit Go.Proofs.YtbfhohpbldadbaaW.PrintWords Go.Proofs.YtbfhohpbldadbaaW.PrintLast Go.Proofs.YtbfhohpbldadbaaW.PrintMore
set_option linter.unusedVariables false
set_option linter.unusedSimpArgs false
theorem info83 : (Try.prog.info? 83).map (fun i => (i.zero, i.size, i.bytes)) = some (some (.agg #[.int .i64 0, .bool false, .slice none 0 0]), 3, 40) := by kernel_rfl
def sendB (o : List (List S39)) (f5 now : Int) : Bool := decide (0 < o.length) && (decide (f5 = -1) || decide (f5 ≤ now))
def pollL (o : List (List S39)) (f1 f2 : Int) (f4 : Bool) (f5 now : Int) : List S83 :=
  (if sendB o f5 now = true then [⟨f1, false, o.headD []⟩] else []) ++ (if f4 = true then [⟨f2, true, []⟩] else [])
def pollF (c : S61) (now : Int) : S61 × List S83 × Int :=
  if clCheck c.f0 c.f1 c.f2 c.f5 ≠ 0 then (z61, [], clCheck c.f0 c.f1 c.f2 c.f5) else if oddT now = true then (z61, [], 1) else (⟨c.f0, c.f1, c.f2, c.f3, false, if sendB c.f0 c.f5 now = true then now + 3 else c.f5⟩, pollL c.f0 c.f1 c.f2 c.f4 c.f5 now, 0)
def Poll3 (x : S61) (l : List S83) (r : Int) (w : World) (e : Ending) (w' : World) : Prop := ∃ v vl, e = .returned (.tuple #[v, vl, .int .i64 r]) ∧ EndV w' w.heap.size v x ∧ Kd.R k83 83 w' w.heap.size (fun _ => True) vl l ∧ Below w.heap.size w w'
theorem R_fr {α : Type} {d : Kd α} {e B B' : Nat} {ok : Nat → Prop} {W W' : World} {v : Value} {xs : List α} {bad : Nat → Prop} (h : Kd.R d e W B ok v xs) (hf : Fr bad W W') (hb : ∀ k, bad k → k < B) (hB : B' ≤ B) : Kd.R d e W' B' ok v xs :=
  Kd.R_lower (Kd.R_mono (Kd.R_step (Kd.R_bound h) (fun k hk hlt => hf.same k hlt (fun hx => by have := hb k hx; have := hk.2.1; omega))) (fun _ hk => hk.1)) hB
theorem EdW.grown {w W W' : World} {g : Nat} {vo vi v : Value} {o : List (List S39)} {inn : List S39} {f1 f2 f5 : Int} {f4 : Bool} (h : EdW w W g vo o f1 f2 vi inn f4 f5) (hg : W.grownBy W' v.ownBlock) (hty : ∀ k, v.ownBlock = some k → ∃ cells, W.heap[k]? = some (.cells cells 83 (0, 0))) (hb : Below w.heap.size w W') : EdW w W' g vo o f1 f2 vi inn f4 f5 :=
  ⟨hb, h.ge, blk_grown h.blk hg (fun e => by obtain ⟨c, hc⟩ := hty g e.symm; exact absurd rfl (blk_ne hc h.blk (by decide))), Kd.R_over' h.out hty (by decide) hg, Kd.R_over' h.inn hty (by decide) hg⟩
theorem sized_le {o : List (List S39)} {f1 f2 f5 : Int} (h : clCheck o f1 f2 f5 = 0) : (o.headD []).length ≤ 1024 := by
  cases o with
  | nil => exact Nat.zero_le _
  | cons a o => exact ((check_sized h).2.1 a (by simp)).2
theorem cell_keep {W W' : World} {a : Addr} {v : Value} (h : W.cell? a = some v) (hb : Below W.heap.size W W') : W'.cell? a = some v := (hb.cell (World.block_lt_of_cell? W a h)).trans h
set_option maxHeartbeats 16000000 in
set_option maxRecDepth 100000 in
theorem poll_calls (A0 : Option Addr) (c0 : Nat) (A3 : Option Addr) (c3 : Nat) (c : S61) (now : Int) (w : World) (hr : Kd.C kL w A0 c.f0.length c.f0) (hr3 : Kd.C k39 w A3 c.f3.length c.f3) (hl : c.f3.length ≤ 1000000) :
    Calls Try.prog 44 #[vE A0 c0 A3 c3 c, .int .i64 now] w (Poll3 (pollF c now).1 (pollF c now).2.1 (pollF c now).2.2 w) := by
  obtain ⟨o, f1, f2, inn, f4, f5⟩ := c
  simp only at hr hr3 hl
  unfold vE
  simp only
  obtain ⟨x, hx⟩ : ∃ x, x = (pollF ⟨o, f1, f2, inn, f4, f5⟩ now).1 := ⟨_, rfl⟩
  obtain ⟨l, hl'⟩ : ∃ l, l = (pollF ⟨o, f1, f2, inn, f4, f5⟩ now).2.1 := ⟨_, rfl⟩
  obtain ⟨r, hr'⟩ : ∃ r, r = (pollF ⟨o, f1, f2, inn, f4, f5⟩ now).2.2 := ⟨_, rfl⟩
  rw [← hx, ← hl', ← hr']
  have PX := Lib.hid hx; have PL := Lib.hid hl'; have PR := Lib.hid hr'
  have HR := Lib.hid hr; have HR3 := Lib.hid hr3; have HL := Lib.hid hl
  clear hr hr3 hl hx hl' hr'
  go_enter Try.func44, Try.ntmps44
  go_wp2_with fail
  obtain ⟨w1, hw1⟩ : ∃ w1, w1 = (w.alloc (.cells #[.slice A0 o.length c0, .int .i64 f1, .int .i64 f2, .slice A3 inn.length c3, .bool f4, .int .i64 f5] 61)).alloc (.cells #[.slice none 0 0, .int .i64 0, .int .i64 0, .slice none 0 0, .bool false, .int .i64 0] 61) := ⟨_, rfl⟩
  rw [← hw1]
  have Z := Lib.hid (show EBlk w1 (w.heap.size + 1) 61 (.slice none 0 0) 0 0 (.slice none 0 0) false 0 by rw [hw1]; have h := EBlk.new (w.alloc (.cells #[.slice A0 o.length c0, .int .i64 f1, .int .i64 f2, .slice A3 inn.length c3, .bool f4, .int .i64 f5] 61)) 61 (.slice none 0 0) (.slice none 0 0) 0 0 0 false; rwa [World.size_alloc] at h)
  have B0 := Lib.hid (show Below w.heap.size w w1 by rw [hw1]; exact al (below_one _ _) _)
  have BW := Lib.hid B0.out
  have N1 := Lib.hid (show w1.heap.size = w.heap.size + 2 by rw [hw1]; simp)
  clear hw1
  refine (edit_calls A0 c0 o f1 f2 A3 c3 inn f4 f5 w1 (Kd.C_below HR.out B0.out) (Kd.C_below HR3.out B0.out) HL.out).mono ?_
  rintro e w2 (⟨hne, rfl, hb⟩ | ⟨h0, g, vo, vi, rfl, hE⟩)
  · replace Z := Lib.hid (Z.out.below hb)
    replace B0 := Lib.hid (bb B0.out hb)
    clear hb
    have hz : (clCheck o f1 f2 f5 != 0) = true := by simpa using hne
    obtain ⟨err, herr⟩ : ∃ err, err = clCheck o f1 f2 f5 := ⟨_, rfl⟩
    rw [← herr] at hz hne ⊢
    have HE := Lib.hid herr; have HNE := Lib.hid hne
    clear herr hne
    have z0 := Z.out.c0; have z1 := Z.out.c1; have z2 := Z.out.c2; have z3 := Z.out.c3; have z4 := Z.out.c4; have z5 := Z.out.c5
    have y := blk_frozen Z.out
    go_wp2_with fail
    obtain ⟨w9, hw9, Z9, F9⟩ := six Z.out (.slice none 0 0) (0) (0) (.slice none 0 0) (false) (0)
    rw [← hw9]
    clear hw9
    obtain rfl : err = r := by rw [PR.out]; unfold pollF; simp only; rw [if_pos (by rw [← HE.out]; exact HNE.out)]; exact HE.out
    obtain rfl : x = z61 := by rw [PX.out]; unfold pollF; simp only; rw [if_pos (by rw [← HE.out]; exact HNE.out)]
    obtain rfl : l = [] := by rw [PL.out]; unfold pollF; simp only; rw [if_pos (by rw [← HE.out]; exact HNE.out)]
    refine bodyPost_ret (v := .tuple #[.agg #[.slice none 0 0, .int .i64 (0), .int .i64 (0), .slice none 0 0, .bool false, .int .i64 (0)], .slice none 0 0, .int .i64 (err)]) (by simp [results, Try.results44, go_sem, Z9.c0, Z9.c1, Z9.c2, Z9.c3, Z9.c4, Z9.c5]) rfl ⟨_, _, rfl, EndV.zero _ _, Kd.R_nil _ _ _ _ _, Fr.below F9 B0.out (Nat.le_refl _) (fun k hk => by omega)⟩
  · have HZ := Lib.hid h0
    have EE := Lib.hid hE
    replace Z := Lib.hid (Z.out.below hE.low)
    replace B0 := Lib.hid (bb B0.out hE.low)
    clear h0 hE
    obtain ⟨Ai, ki, rfl⟩ := Kd.R_slice EE.out.inn
    go_wp2_with fail
    refine (in74_calls now w2).mono ?_
    rintro e w3 ⟨rfl, hb⟩
    replace EE := Lib.hid (EE.out.below hb)
    replace Z := Lib.hid (Z.out.below hb)
    replace B0 := Lib.hid (bb B0.out hb)
    clear hb
    have z0 := Z.out.c0; have z1 := Z.out.c1; have z2 := Z.out.c2; have z3 := Z.out.c3; have z4 := Z.out.c4; have z5 := Z.out.c5
    have y := blk_frozen Z.out
    cases ht : oddT now
    · have HT := Lib.hid ht
      clear ht
      obtain ⟨Ao, ko, rfl⟩ := Kd.R_slice EE.out.out
      have x0 := EE.out.blk.c0
      have x5 := EE.out.blk.c5
      have x4 := EE.out.blk.c4
      by_cases ha : 0 < o.length
      · have HA := Lib.hid ha
        by_cases hb : f5 = -1
        · have HSB := Lib.hid (show sendB o f5 now = true by unfold sendB; rw [decide_eq_true ha, decide_eq_true hb]; rfl)
          subst hb
          have SZL := Lib.hid (sized_le HZ.out)
          obtain ⟨go, ko2, hgo, _, _, _⟩ := Kd.R_form EE.out.out HA.out
          obtain ⟨ad, Ah, kh, hA, hat⟩ := L_cell (Kd.R_reads' EE.out.out).2.2 0 HA.out HA.out
          obtain ⟨hd, hhd⟩ : ∃ hd, hd = o.headD [] := ⟨_, rfl⟩
          have hd0 : o[0]'HA.out = hd := by rw [hhd]; cases o with | nil => exact absurd HA.out (Nat.lt_irrefl _) | cons a o => rfl
          have HHD := Lib.hid hhd
          injection hgo with hg1 _ hg3
          subst hg1; subst hg3
          injection hA with hA
          subst hA
          have hat2 : AtL w3 ((⟨go, 0, none⟩ : Addr).add 0) Ah kh hd := by rw [← hd0]; exact hat
          have q00 : w3.cell? ⟨go, 0, none⟩ = some (.slice Ah hd.length kh) := by have h := hat2.c0; simpa [Addr.add] using h
          have HHL := Lib.hid (show hd.length ≤ 1024 by rw [hhd]; exact SZL.out)
          have QA := Lib.hid (show w3.drew.cell? ⟨go, 0, none⟩ = some (.slice Ah hd.length kh) from cell_keep q00 (below_drew (Below.refl _ _)))
          have CH := Lib.hid (show Kd.C k39 w3.drew Ah hd.length hd from Kd.C_drew hat2.cc)
          clear hat hat2 hd0 hhd q00 z0 z1 z2 z3 z4 z5 y
          go_wp2_with fail
          replace EE := Lib.hid (show EdW w1 w3.drew g (.slice (some ⟨go, 0, none⟩) o.length ko) o f1 f2 (.slice Ai inn.length ki) inn f4 (-1) from EE.out.below (below_drew (Below.refl _ _)))
          replace Z := Lib.hid (show EBlk w3.drew (w.heap.size + 1) 61 (.slice none 0 0) 0 0 (.slice none 0 0) false 0 from Z.out.below (below_drew (Below.refl _ _)))
          clear x0 x4 x5
          refine start_ (n := 18) (S := fun w' => w'.cell? ⟨g, 1, none⟩ = some (.int .i64 f1) ∧ w'.cell? ⟨g, 0, none⟩ = some (.slice (some ⟨go, 0, none⟩) o.length ko) ∧ w'.cell? ⟨go, 0, none⟩ = some (.slice Ah hd.length kh)) (ds := []) #[false, false, false, false, false, false, false, false, false, false, false, false, false, false, false, false, false, false] (by kernel_rfl) rfl rfl ⟨EE.out.blk.c1, EE.out.blk.c0, QA.out⟩ (fun hHeld => ?_)
          generalize w3.drew = w4 at EE Z QA CH hHeld ⊢
          refine pure_ (i := 0) (N := some 47) (v := ?_) (a' := ?_) #[true, false, false, false, false, false, false, false, false, false, false, false, false, false, false, false, false, false] rfl rfl (by kernel_rfl) (fun _ _ _ h => h) (Or.inl ⟨by rfl, ?_⟩) ?_ ?_
          rotate_left
          · intro w'
            go_simp
            with_reducible rfl
          rotate_left
          · simp only [Act.put, List.setIfInBounds_toArray, List.set_cons_zero, List.set_cons_succ, i64_w, i32_w]
            rfl
          refine pure_ (i := 1) (N := some 48) (v := ?_) (a' := ?_) #[true, true, false, false, false, false, false, false, false, false, false, false, false, false, false, false, false, false] rfl rfl (by kernel_rfl) (fun _ _ _ h => h) (Or.inl ⟨by rfl, ?_⟩) ?_ ?_
          rotate_left
          · intro w'
            go_simp
            with_reducible rfl
          rotate_left
          · simp only [Act.put, List.setIfInBounds_toArray, List.set_cons_zero, List.set_cons_succ, i64_w, i32_w]
            rfl
          refine pure_ (i := 2) (N := some 49) (v := ?_) (a' := ?_) #[true, true, true, false, false, false, false, false, false, false, false, false, false, false, false, false, false, false] rfl rfl (by kernel_rfl) (fun _ _ _ h => h) (Or.inl ⟨by rfl, ?_⟩) ?_ ?_
          rotate_left
          · intro w'
            go_simp
            with_reducible rfl
          rotate_left
          · simp only [Act.put, List.setIfInBounds_toArray, List.set_cons_zero, List.set_cons_succ, i64_w, i32_w]
            rfl
          refine pure_ (i := 3) (N := some 50) (v := ?_) (a' := ?_) #[true, true, true, true, false, false, false, false, false, false, false, false, false, false, false, false, false, false] rfl rfl (by kernel_rfl) (fun _ _ _ h => h) (Or.inl ⟨by rfl, ?_⟩) ?_ ?_
          rotate_left
          · intro w'
            go_simp
            with_reducible rfl
          rotate_left
          · simp only [Act.put, List.setIfInBounds_toArray, List.set_cons_zero, List.set_cons_succ, i64_w, i32_w]
            rfl
          refine pure_ (i := 4) (N := some 51) (v := ?_) (a' := ?_) #[true, true, true, true, true, false, false, false, false, false, false, false, false, false, false, false, false, false] rfl rfl (by kernel_rfl) (fun _ _ _ h => h) (Or.inl ⟨by rfl, ?_⟩) ?_ ?_
          rotate_left
          · intro w'
            go_simp
            with_reducible rfl
          rotate_left
          · simp only [Act.put, List.setIfInBounds_toArray, List.set_cons_zero, List.set_cons_succ, i64_w, i32_w]
            rfl
          refine pure_ (i := 6) (N := some 53) (v := ?_) (a' := ?_) #[true, true, true, true, true, false, true, false, false, false, false, false, false, false, false, false, false, false] rfl rfl (by kernel_rfl) (fun _ _ _ h => h) (Or.inl ⟨by rfl, ?_⟩) ?_ ?_
          rotate_left
          · intro w'
            go_simp
            with_reducible rfl
          rotate_left
          · simp only [Act.put, List.setIfInBounds_toArray, List.set_cons_zero, List.set_cons_succ, i64_w, i32_w]
            rfl
          refine pure_ (i := 7) (N := some 54) (v := ?_) (a' := ?_) #[true, true, true, true, true, false, true, true, false, false, false, false, false, false, false, false, false, false] rfl rfl (by kernel_rfl) (fun _ _ _ h => h) (Or.inl ⟨by rfl, ?_⟩) ?_ ?_
          rotate_left
          · intro w'
            go_simp
            with_reducible rfl
          rotate_left
          · simp only [Act.put, List.setIfInBounds_toArray, List.set_cons_zero, List.set_cons_succ, i64_w, i32_w]
            rfl
          refine pure_ (i := 8) (N := some 55) (v := ?_) (a' := ?_) #[true, true, true, true, true, false, true, true, true, false, false, false, false, false, false, false, false, false] rfl rfl (by kernel_rfl) (fun _ _ _ h => h) (Or.inl ⟨by rfl, ?_⟩) ?_ ?_
          rotate_left
          · intro w'
            go_simp
            with_reducible rfl
          rotate_left
          · simp only [Act.put, List.setIfInBounds_toArray, List.set_cons_zero, List.set_cons_succ, i64_w, i32_w]
            rfl
          refine pure_ (i := 9) (N := some 56) (v := ?_) (a' := ?_) #[true, true, true, true, true, false, true, true, true, true, false, false, false, false, false, false, false, false] rfl rfl (by kernel_rfl) (fun _ _ _ h => h) (Or.inl ⟨by rfl, ?_⟩) ?_ ?_
          rotate_left
          · intro w'
            go_simp
            with_reducible rfl
          rotate_left
          · simp only [Act.put, List.setIfInBounds_toArray, List.set_cons_zero, List.set_cons_succ, i64_w, i32_w]
            rfl
          refine take_ (i := 5) (N := some 52) (v := ?_) (a' := ?_) #[true, true, true, true, true, true, true, true, true, true, false, false, false, false, false, false, false, false] rfl rfl (by kernel_rfl) (fun _ _ _ h => h) (Or.inl ⟨by rfl, ?_⟩) hHeld ?_ ?_
          rotate_left
          · rintro w' ⟨s0, s1, s2⟩
            go_simp
            with_reducible rfl
          rotate_left
          · simp only [Act.put, List.setIfInBounds_toArray, List.set_cons_zero, List.set_cons_succ, i64_w, i32_w]
            rfl
          refine take_ (i := 10) (N := some 57) (v := ?_) (a' := ?_) #[true, true, true, true, true, true, true, true, true, true, true, false, false, false, false, false, false, false] rfl rfl (by kernel_rfl) (fun _ _ _ h => h) (Or.inl ⟨by rfl, ?_⟩) hHeld ?_ ?_
          rotate_left
          · rintro w' ⟨s0, s1, s2⟩
            go_simp
            with_reducible rfl
          rotate_left
          · simp only [Act.put, List.setIfInBounds_toArray, List.set_cons_zero, List.set_cons_succ, i64_w, i32_w]
            rfl
          refine pure_ (i := 11) (N := some 58) (v := ?_) (a' := ?_) #[true, true, true, true, true, true, true, true, true, true, true, true, false, false, false, false, false, false] rfl rfl (by kernel_rfl) (fun _ _ _ h => h) (Or.inl ⟨by rfl, ?_⟩) ?_ ?_
          rotate_left
          · intro w'
            go_simp
            with_reducible rfl
          rotate_left
          · simp only [Act.put, List.setIfInBounds_toArray, List.set_cons_zero, List.set_cons_succ, i64_w, i32_w]
            rfl
          refine take_ (i := 12) (N := some 59) (v := ?_) (a' := ?_) #[true, true, true, true, true, true, true, true, true, true, true, true, true, false, false, false, false, false] rfl rfl (by kernel_rfl) (fun _ _ _ h => h) (Or.inl ⟨by rfl, ?_⟩) hHeld ?_ ?_
          rotate_left
          · rintro w' ⟨s0, s1, s2⟩
            go_simp
            with_reducible rfl
          rotate_left
          · simp only [Act.put, List.setIfInBounds_toArray, List.set_cons_zero, List.set_cons_succ, i64_w, i32_w]
            rfl
          refine one_ (i := 13) (N := some 60) #[true, true, true, true, true, true, true, true, true, true, true, true, true, true, false, false, false, false] rfl rfl (by kernel_rfl) (by decide) (fun K hK => ?_)
          refine goes_ Try.func72 (by kernel_rfl) rfl #[.slice Ah hd.length kh] (by rfl) rfl rfl (by simp only [List.map_toArray, List.map_cons, List.map_nil]; rfl) ?_
          with_reducible refine (cloneR Ah kh hd w4 CH.out (by have := HHL.out; omega)).mono ?_
          rintro e w5 ⟨v5, rfl, ho, hb⟩
          refine ⟨_, rfl, ?_⟩
          obtain ⟨Ac, kc, rfl⟩ := Kd.R_slice ho
          have E5 := Lib.hid (EE.out.below hb)
          have Z5 := Lib.hid (Z.out.below hb)
          have Q5 := Lib.hid (cell_keep QA.out hb)
          have HC := Lib.hid (Kd.R_lower ho EE.out.low.size)
          clear ho hb
          refine hK.out _ _ ⟨E5.out.blk.c1, E5.out.blk.c0, Q5.out⟩ (fun hHeld => ?_)
          clear hK K
          refine norm_ (a' := ?_) ?_ ?_
          rotate_left
          · show Act.put _ (some 60) _ = _
            simp only [Act.put, List.setIfInBounds_toArray, List.set_cons_zero, List.set_cons_succ, i64_w, i32_w]
            rfl
          refine pure_ (i := 14) (N := some 61) (v := ?_) (a' := ?_) #[true, true, true, true, true, true, true, true, true, true, true, true, true, true, true, false, false, false] rfl rfl (by kernel_rfl) (fun _ _ _ h => h) (Or.inl ⟨by rfl, ?_⟩) ?_ ?_
          rotate_left
          · intro w'
            go_simp
            with_reducible rfl
          rotate_left
          · simp only [Act.put, List.setIfInBounds_toArray, List.set_cons_zero, List.set_cons_succ, i64_w, i32_w]
            rfl
          refine one_ (i := 15) (N := some 62) #[true, true, true, true, true, true, true, true, true, true, true, true, true, true, true, true, false, false] rfl rfl (by kernel_rfl) (by decide) (fun K hK => ?_)
          refine value_ (w1 := ?_) (v := ?_) (by rfl) rfl ?_ ?_
          rotate_left 2
          · go_simp
            constructor
            · rfl
            · rfl
          refine hK.out _ _ ⟨(E5.out.blk.below (below_one _ _)).c1, (E5.out.blk.below (below_one _ _)).c0, cell_keep Q5.out (below_one _ _)⟩ (fun hHeld => ?_)
          clear hK K
          refine norm_ (a' := ?_) ?_ ?_
          rotate_left
          · show Act.put _ (some 62) _ = _
            simp only [Act.put, List.setIfInBounds_toArray, List.set_cons_zero, List.set_cons_succ, i64_w, i32_w]
            rfl
          refine one_ (i := 16) (N := some 63) #[true, true, true, true, true, true, true, true, true, true, true, true, true, true, true, true, true, false] rfl rfl (by kernel_rfl) (by decide) (fun K hK => ?_)
          refine Kd.R_append_step k83 (w0 := w1) (W := w5) w1.heap.size (by rfl) (.tmp 47) (.tmp 62) 65 83 (.agg #[.int .i64 0, .bool false, .slice none 0 0]) 40 (by rfl) Try.underlying65 info83 rfl (by decide) (by decide) (.slice none 0 0) [] ⟨f1, false, hd⟩ [.int .i64 f1, .bool false, .slice Ac hd.length kc] (fun _ => True) (fun _ => True) (by rfl) (by rfl) (k83_mkM _ _ _ ⟨f1, false, hd⟩ HC.out) (fun k _ => ⟨trivial, by simp [Value.ownBlock]⟩) (fun _ _ => trivial) (Kd.R_nil _ _ _ _ _) E5.out.low E5.out.low.size (by simp) ?_
          intro v6 w6 hR6 hb6 hg6 hat6
          simp only [List.nil_append] at hR6
          have E6 := Lib.hid (EdW.grown E5.out hg6 (fun k hk => by simp [Value.ownBlock] at hk) hb6)
          have Z6 := Lib.hid (show EBlk w6 (w.heap.size + 1) 61 (.slice none 0 0) 0 0 (.slice none 0 0) false 0 from blk_grown Z5.out hg6 (by simp [Value.ownBlock]))
          have L6 := Lib.hid hR6
          have Q6 := Lib.hid (cell_grown hg6 Q5.out (by simp [Value.ownBlock]))
          clear hR6 hb6 hg6 hat6
          refine hK.out _ _ ⟨E6.out.blk.c1, E6.out.blk.c0, Q6.out⟩ (fun hHeld => ?_)
          clear hK K
          refine norm_ (a' := ?_) ?_ ?_
          rotate_left
          · show Act.put _ (some 63) _ = _
            simp only [Act.put, List.setIfInBounds_toArray, List.set_cons_zero, List.set_cons_succ, i64_w, i32_w]
            rfl
          refine pure_ (i := 17) (N := some 9) (v := ?_) (a' := ?_) #[true, true, true, true, true, true, true, true, true, true, true, true, true, true, true, true, true, true] rfl rfl (by kernel_rfl) (fun _ _ _ h => h) (Or.inl ⟨by rfl, ?_⟩) ?_ ?_
          rotate_left
          · intro w'
            go_simp
            with_reducible rfl
          rotate_left
          · simp only [Act.put, List.setIfInBounds_toArray, List.set_cons_zero, List.set_cons_succ, i64_w, i32_w]
            rfl
          refine done_ (by kernel_rfl) ?_

          have x5 := E6.out.blk.c5; have z5 := blk_frozen E6.out.blk 5
          have E7 := Lib.hid (show EdW w1 (w6.setCell ⟨g, 5, none⟩ (.int .i64 (wrap64 (now + 3)))) g (.slice (some ⟨go, 0, none⟩) o.length ko) o f1 f2 (.slice Ai inn.length ki) inn f4 (wrap64 (now + 3)) from EdW.set E6.out 5 (.int .i64 (wrap64 (now + 3))) rfl)
          have Z7 := Lib.hid (show EBlk (w6.setCell ⟨g, 5, none⟩ (.int .i64 (wrap64 (now + 3)))) (w.heap.size + 1) 61 (.slice none 0 0) 0 0 (.slice none 0 0) false 0 from blk_far Z6.out (show w.heap.size + 1 ≠ g by have := E6.out.ge; have := N1.out; omega) _)
          have L7 := Lib.hid (Kd.R_set L6.out E6.out.blk (by decide) 5 (.int .i64 (wrap64 (now + 3))))
          have B7 := Lib.hid (bb BW.out E7.out.low)
          clear hHeld QA CH EE
          cases f4
          · have x0 := E7.out.blk.c0; have x1 := E7.out.blk.c1; have x2 := E7.out.blk.c2; have x3 := E7.out.blk.c3; have x4 := E7.out.blk.c4; have x5 := E7.out.blk.c5; have z0 := Z7.out.c0; have z1 := Z7.out.c1; have z2 := Z7.out.c2; have z3 := Z7.out.c3; have z4 := Z7.out.c4; have z5 := Z7.out.c5; have y := blk_frozen Z7.out
            go_wp2_with fail
            replace Z := Z7; replace B0 := B7
            obtain ⟨w9, hw9, Z9, F9⟩ := six Z.out (.slice (some ⟨go, 0, none⟩) o.length ko) (f1) (f2) (.slice Ai inn.length ki) (false) (wrap64 (now + 3))
            rw [← hw9]
            clear hw9
            obtain rfl : r = 0 := by rw [PR.out]; unfold pollF; simp only; rw [if_neg (by rw [HZ.out]; simp), if_neg (by rw [HT.out]; simp)]
            obtain rfl : x = ⟨o, f1, f2, inn, false, wrap64 (now + 3)⟩ := by rw [PX.out]; unfold pollF; simp only; rw [if_neg (by rw [HZ.out]; simp), if_neg (by rw [HT.out]; simp), if_pos HSB.out, wid (n := now + 3) (by have h := HT.out; unfold oddT at h; simp at h; omega) (by have h := HT.out; unfold oddT at h; simp at h; omega)]
            obtain rfl : l = [⟨f1, false, hd⟩] := by rw [PL.out]; unfold pollF; simp only; rw [if_neg (by rw [HZ.out]; simp), if_neg (by rw [HT.out]; simp)]; show pollL _ _ _ _ _ _ = _; unfold pollL; rw [if_pos HSB.out, ← HHD.out, if_neg (by simp)] <;> rfl
            refine bodyPost_ret (v := .tuple #[.agg #[.slice (some ⟨go, 0, none⟩) o.length ko, .int .i64 (f1), .int .i64 (f2), .slice Ai inn.length ki, .bool false, .int .i64 (wrap64 (now + 3))], v6, .int .i64 (0)]) (by simp [results, Try.results44, go_sem, Z9.c0, Z9.c1, Z9.c2, Z9.c3, Z9.c4, Z9.c5]) rfl ⟨_, _, rfl, ⟨_, _, rfl, V_fr (Kd.R_V (base' := w1.heap.size) (Kd.R_mono (Kd.R_bound E7.out.out) (fun _ hk => hk.2.1))) F9 (fun k hk => by have := N1.out; omega) BW.out.size, V_fr (Kd.R_V (base' := w1.heap.size) (Kd.R_mono (Kd.R_bound E7.out.inn) (fun _ hk => hk.2.1))) F9 (fun k hk => by have := N1.out; omega) BW.out.size⟩, R_fr L7.out F9 (fun k hk => by have := N1.out; omega) BW.out.size, Fr.below F9 B0.out (Nat.le_refl _) (fun k hk => by omega)⟩
          · have x0 := E7.out.blk.c0; have x2 := E7.out.blk.c2; have x4 := E7.out.blk.c4; have x5 := E7.out.blk.c5
            go_wp2_with ((with_reducible refine gate_builtin (b := .append) (xs := #[.tmp 75, .tmp 82]) rfl ?_); at_builtin; refine Kd.R_append k83 (w0 := w1) w1.heap.size rfl (.tmp 75) (.tmp 82) 65 83 (.agg #[.int .i64 0, .bool false, .slice none 0 0]) 40 rfl Try.underlying65 info83 rfl (by decide) (by decide) (v6) [⟨f1, false, hd⟩] ⟨f2, true, []⟩ [.int .i64 f2, .bool true, .slice none 0 0] (fun _ => True) (fun _ => False) rfl (by first | rfl | (simp [go_sem]; done)) (k83_mkM _ _ _ ⟨f2, true, []⟩ (Kd.R_nil _ _ _ _ _)) (fun _ h => h.elim) (fun _ _ => trivial) L7.out E7.out.low E7.out.low.size (by simp) ?_; intro v8 w8 hR8 hb8 hg8 hat8; have E8 := Lib.hid (EdW.grown E7.out hg8 (Kd.R_typed L7.out) hb8); have Z8 := Lib.hid (show EBlk w8 (w.heap.size + 1) 61 (.slice none 0 0) 0 0 (.slice none 0 0) false 0 from blk_grown Z7.out hg8 (Kd.R_ne L7.out Z7.out (by decide))); have L8 := Lib.hid hR8; clear hR8 hb8 hg8 hat8 x0 x2 x4 x5; have x4 := E8.out.blk.c4; have w4z := blk_frozen E8.out.blk 4; have E9 := Lib.hid (show EdW w1 (w8.setCell ⟨g, 4, none⟩ (.bool false)) g (.slice (some ⟨go, 0, none⟩) o.length ko) o f1 f2 (.slice Ai inn.length ki) inn false (wrap64 (now + 3)) from EdW.set E8.out 4 (.bool false) rfl); have Z9' := Lib.hid (show EBlk (w8.setCell ⟨g, 4, none⟩ (.bool false)) (w.heap.size + 1) 61 (.slice none 0 0) 0 0 (.slice none 0 0) false 0 from blk_far Z8.out (show w.heap.size + 1 ≠ g by have := E8.out.ge; have := N1.out; omega) (.bool false)); have q4 := E9.out.blk.c4; have x0 := E9.out.blk.c0; have x1 := E9.out.blk.c1; have x2 := E9.out.blk.c2; have x3 := E9.out.blk.c3; have x5 := E9.out.blk.c5; have z0 := Z9'.out.c0; have z1 := Z9'.out.c1; have z2 := Z9'.out.c2; have z3 := Z9'.out.c3; have z4 := Z9'.out.c4; have z5 := Z9'.out.c5; have y := blk_frozen Z9'.out)
            have L9 := Lib.hid (Kd.R_set L8.out E8.out.blk (by decide) 4 (.bool false))
            replace Z := Z9'; replace B0 := Lib.hid (bb BW.out E9.out.low)
            obtain ⟨w9, hw9, Z9, F9⟩ := six Z.out (.slice (some ⟨go, 0, none⟩) o.length ko) (f1) (f2) (.slice Ai inn.length ki) (false) (wrap64 (now + 3))
            rw [← hw9]
            clear hw9
            obtain rfl : r = 0 := by rw [PR.out]; unfold pollF; simp only; rw [if_neg (by rw [HZ.out]; simp), if_neg (by rw [HT.out]; simp)]
            obtain rfl : x = ⟨o, f1, f2, inn, false, wrap64 (now + 3)⟩ := by rw [PX.out]; unfold pollF; simp only; rw [if_neg (by rw [HZ.out]; simp), if_neg (by rw [HT.out]; simp), if_pos HSB.out, wid (n := now + 3) (by have h := HT.out; unfold oddT at h; simp at h; omega) (by have h := HT.out; unfold oddT at h; simp at h; omega)]
            obtain rfl : l = ([⟨f1, false, hd⟩] ++ [⟨f2, true, []⟩]) := by rw [PL.out]; unfold pollF; simp only; rw [if_neg (by rw [HZ.out]; simp), if_neg (by rw [HT.out]; simp)]; show pollL _ _ _ _ _ _ = _; unfold pollL; rw [if_pos HSB.out, ← HHD.out, if_pos rfl] <;> rfl
            refine bodyPost_ret (v := .tuple #[.agg #[.slice (some ⟨go, 0, none⟩) o.length ko, .int .i64 (f1), .int .i64 (f2), .slice Ai inn.length ki, .bool false, .int .i64 (wrap64 (now + 3))], v8, .int .i64 (0)]) (by simp [results, Try.results44, go_sem, Z9.c0, Z9.c1, Z9.c2, Z9.c3, Z9.c4, Z9.c5]) rfl ⟨_, _, rfl, ⟨_, _, rfl, V_fr (Kd.R_V (base' := w1.heap.size) (Kd.R_mono (Kd.R_bound E9.out.out) (fun _ hk => hk.2.1))) F9 (fun k hk => by have := N1.out; omega) BW.out.size, V_fr (Kd.R_V (base' := w1.heap.size) (Kd.R_mono (Kd.R_bound E9.out.inn) (fun _ hk => hk.2.1))) F9 (fun k hk => by have := N1.out; omega) BW.out.size⟩, R_fr L9.out F9 (fun k hk => by have := N1.out; omega) BW.out.size, Fr.below F9 B0.out (Nat.le_refl _) (fun k hk => by omega)⟩
        · have hb' : (f5 == -1) = false := by simpa using hb
          by_cases hc : f5 ≤ now
          · have HSB := Lib.hid (show sendB o f5 now = true by unfold sendB; rw [decide_eq_true ha, decide_eq_true hc]; simp)
            clear hb
            have SZL := Lib.hid (sized_le HZ.out)
            obtain ⟨go, ko2, hgo, _, _, _⟩ := Kd.R_form EE.out.out HA.out
            obtain ⟨ad, Ah, kh, hA, hat⟩ := L_cell (Kd.R_reads' EE.out.out).2.2 0 HA.out HA.out
            obtain ⟨hd, hhd⟩ : ∃ hd, hd = o.headD [] := ⟨_, rfl⟩
            have hd0 : o[0]'HA.out = hd := by rw [hhd]; cases o with | nil => exact absurd HA.out (Nat.lt_irrefl _) | cons a o => rfl
            have HHD := Lib.hid hhd
            injection hgo with hg1 _ hg3
            subst hg1; subst hg3
            injection hA with hA
            subst hA
            have hat2 : AtL w3 ((⟨go, 0, none⟩ : Addr).add 0) Ah kh hd := by rw [← hd0]; exact hat
            have q00 : w3.cell? ⟨go, 0, none⟩ = some (.slice Ah hd.length kh) := by have h := hat2.c0; simpa [Addr.add] using h
            have HHL := Lib.hid (show hd.length ≤ 1024 by rw [hhd]; exact SZL.out)
            have QA := Lib.hid (show w3.drew.cell? ⟨go, 0, none⟩ = some (.slice Ah hd.length kh) from cell_keep q00 (below_drew (Below.refl _ _)))
            have CH := Lib.hid (show Kd.C k39 w3.drew Ah hd.length hd from Kd.C_drew hat2.cc)
            clear hat hat2 hd0 hhd q00 z0 z1 z2 z3 z4 z5 y
            go_wp2_with fail
            replace EE := Lib.hid (show EdW w1 w3.drew g (.slice (some ⟨go, 0, none⟩) o.length ko) o f1 f2 (.slice Ai inn.length ki) inn f4 (f5) from EE.out.below (below_drew (Below.refl _ _)))
            replace Z := Lib.hid (show EBlk w3.drew (w.heap.size + 1) 61 (.slice none 0 0) 0 0 (.slice none 0 0) false 0 from Z.out.below (below_drew (Below.refl _ _)))
            clear x0 x4 x5
            refine start_ (n := 18) (S := fun w' => w'.cell? ⟨g, 1, none⟩ = some (.int .i64 f1) ∧ w'.cell? ⟨g, 0, none⟩ = some (.slice (some ⟨go, 0, none⟩) o.length ko) ∧ w'.cell? ⟨go, 0, none⟩ = some (.slice Ah hd.length kh)) (ds := []) #[false, false, false, false, false, false, false, false, false, false, false, false, false, false, false, false, false, false] (by kernel_rfl) rfl rfl ⟨EE.out.blk.c1, EE.out.blk.c0, QA.out⟩ (fun hHeld => ?_)
            generalize w3.drew = w4 at EE Z QA CH hHeld ⊢
            refine pure_ (i := 0) (N := some 47) (v := ?_) (a' := ?_) #[true, false, false, false, false, false, false, false, false, false, false, false, false, false, false, false, false, false] rfl rfl (by kernel_rfl) (fun _ _ _ h => h) (Or.inl ⟨by rfl, ?_⟩) ?_ ?_
            rotate_left
            · intro w'
              go_simp
              with_reducible rfl
            rotate_left
            · simp only [Act.put, List.setIfInBounds_toArray, List.set_cons_zero, List.set_cons_succ, i64_w, i32_w]
              rfl
            refine pure_ (i := 1) (N := some 48) (v := ?_) (a' := ?_) #[true, true, false, false, false, false, false, false, false, false, false, false, false, false, false, false, false, false] rfl rfl (by kernel_rfl) (fun _ _ _ h => h) (Or.inl ⟨by rfl, ?_⟩) ?_ ?_
            rotate_left
            · intro w'
              go_simp
              with_reducible rfl
            rotate_left
            · simp only [Act.put, List.setIfInBounds_toArray, List.set_cons_zero, List.set_cons_succ, i64_w, i32_w]
              rfl
            refine pure_ (i := 2) (N := some 49) (v := ?_) (a' := ?_) #[true, true, true, false, false, false, false, false, false, false, false, false, false, false, false, false, false, false] rfl rfl (by kernel_rfl) (fun _ _ _ h => h) (Or.inl ⟨by rfl, ?_⟩) ?_ ?_
            rotate_left
            · intro w'
              go_simp
              with_reducible rfl
            rotate_left
            · simp only [Act.put, List.setIfInBounds_toArray, List.set_cons_zero, List.set_cons_succ, i64_w, i32_w]
              rfl
            refine pure_ (i := 3) (N := some 50) (v := ?_) (a' := ?_) #[true, true, true, true, false, false, false, false, false, false, false, false, false, false, false, false, false, false] rfl rfl (by kernel_rfl) (fun _ _ _ h => h) (Or.inl ⟨by rfl, ?_⟩) ?_ ?_
            rotate_left
            · intro w'
              go_simp
              with_reducible rfl
            rotate_left
            · simp only [Act.put, List.setIfInBounds_toArray, List.set_cons_zero, List.set_cons_succ, i64_w, i32_w]
              rfl
            refine pure_ (i := 4) (N := some 51) (v := ?_) (a' := ?_) #[true, true, true, true, true, false, false, false, false, false, false, false, false, false, false, false, false, false] rfl rfl (by kernel_rfl) (fun _ _ _ h => h) (Or.inl ⟨by rfl, ?_⟩) ?_ ?_
            rotate_left
            · intro w'
              go_simp
              with_reducible rfl
            rotate_left
            · simp only [Act.put, List.setIfInBounds_toArray, List.set_cons_zero, List.set_cons_succ, i64_w, i32_w]
              rfl
            refine pure_ (i := 6) (N := some 53) (v := ?_) (a' := ?_) #[true, true, true, true, true, false, true, false, false, false, false, false, false, false, false, false, false, false] rfl rfl (by kernel_rfl) (fun _ _ _ h => h) (Or.inl ⟨by rfl, ?_⟩) ?_ ?_
            rotate_left
            · intro w'
              go_simp
              with_reducible rfl
            rotate_left
            · simp only [Act.put, List.setIfInBounds_toArray, List.set_cons_zero, List.set_cons_succ, i64_w, i32_w]
              rfl
            refine pure_ (i := 7) (N := some 54) (v := ?_) (a' := ?_) #[true, true, true, true, true, false, true, true, false, false, false, false, false, false, false, false, false, false] rfl rfl (by kernel_rfl) (fun _ _ _ h => h) (Or.inl ⟨by rfl, ?_⟩) ?_ ?_
            rotate_left
            · intro w'
              go_simp
              with_reducible rfl
            rotate_left
            · simp only [Act.put, List.setIfInBounds_toArray, List.set_cons_zero, List.set_cons_succ, i64_w, i32_w]
              rfl
            refine pure_ (i := 8) (N := some 55) (v := ?_) (a' := ?_) #[true, true, true, true, true, false, true, true, true, false, false, false, false, false, false, false, false, false] rfl rfl (by kernel_rfl) (fun _ _ _ h => h) (Or.inl ⟨by rfl, ?_⟩) ?_ ?_
            rotate_left
            · intro w'
              go_simp
              with_reducible rfl
            rotate_left
            · simp only [Act.put, List.setIfInBounds_toArray, List.set_cons_zero, List.set_cons_succ, i64_w, i32_w]
              rfl
            refine pure_ (i := 9) (N := some 56) (v := ?_) (a' := ?_) #[true, true, true, true, true, false, true, true, true, true, false, false, false, false, false, false, false, false] rfl rfl (by kernel_rfl) (fun _ _ _ h => h) (Or.inl ⟨by rfl, ?_⟩) ?_ ?_
            rotate_left
            · intro w'
              go_simp
              with_reducible rfl
            rotate_left
            · simp only [Act.put, List.setIfInBounds_toArray, List.set_cons_zero, List.set_cons_succ, i64_w, i32_w]
              rfl
            refine take_ (i := 5) (N := some 52) (v := ?_) (a' := ?_) #[true, true, true, true, true, true, true, true, true, true, false, false, false, false, false, false, false, false] rfl rfl (by kernel_rfl) (fun _ _ _ h => h) (Or.inl ⟨by rfl, ?_⟩) hHeld ?_ ?_
            rotate_left
            · rintro w' ⟨s0, s1, s2⟩
              go_simp
              with_reducible rfl
            rotate_left
            · simp only [Act.put, List.setIfInBounds_toArray, List.set_cons_zero, List.set_cons_succ, i64_w, i32_w]
              rfl
            refine take_ (i := 10) (N := some 57) (v := ?_) (a' := ?_) #[true, true, true, true, true, true, true, true, true, true, true, false, false, false, false, false, false, false] rfl rfl (by kernel_rfl) (fun _ _ _ h => h) (Or.inl ⟨by rfl, ?_⟩) hHeld ?_ ?_
            rotate_left
            · rintro w' ⟨s0, s1, s2⟩
              go_simp
              with_reducible rfl
            rotate_left
            · simp only [Act.put, List.setIfInBounds_toArray, List.set_cons_zero, List.set_cons_succ, i64_w, i32_w]
              rfl
            refine pure_ (i := 11) (N := some 58) (v := ?_) (a' := ?_) #[true, true, true, true, true, true, true, true, true, true, true, true, false, false, false, false, false, false] rfl rfl (by kernel_rfl) (fun _ _ _ h => h) (Or.inl ⟨by rfl, ?_⟩) ?_ ?_
            rotate_left
            · intro w'
              go_simp
              with_reducible rfl
            rotate_left
            · simp only [Act.put, List.setIfInBounds_toArray, List.set_cons_zero, List.set_cons_succ, i64_w, i32_w]
              rfl
            refine take_ (i := 12) (N := some 59) (v := ?_) (a' := ?_) #[true, true, true, true, true, true, true, true, true, true, true, true, true, false, false, false, false, false] rfl rfl (by kernel_rfl) (fun _ _ _ h => h) (Or.inl ⟨by rfl, ?_⟩) hHeld ?_ ?_
            rotate_left
            · rintro w' ⟨s0, s1, s2⟩
              go_simp
              with_reducible rfl
            rotate_left
            · simp only [Act.put, List.setIfInBounds_toArray, List.set_cons_zero, List.set_cons_succ, i64_w, i32_w]
              rfl
            refine one_ (i := 13) (N := some 60) #[true, true, true, true, true, true, true, true, true, true, true, true, true, true, false, false, false, false] rfl rfl (by kernel_rfl) (by decide) (fun K hK => ?_)
            refine goes_ Try.func72 (by kernel_rfl) rfl #[.slice Ah hd.length kh] (by rfl) rfl rfl (by simp only [List.map_toArray, List.map_cons, List.map_nil]; rfl) ?_
            with_reducible refine (cloneR Ah kh hd w4 CH.out (by have := HHL.out; omega)).mono ?_
            rintro e w5 ⟨v5, rfl, ho, hb⟩
            refine ⟨_, rfl, ?_⟩
            obtain ⟨Ac, kc, rfl⟩ := Kd.R_slice ho
            have E5 := Lib.hid (EE.out.below hb)
            have Z5 := Lib.hid (Z.out.below hb)
            have Q5 := Lib.hid (cell_keep QA.out hb)
            have HC := Lib.hid (Kd.R_lower ho EE.out.low.size)
            clear ho hb
            refine hK.out _ _ ⟨E5.out.blk.c1, E5.out.blk.c0, Q5.out⟩ (fun hHeld => ?_)
            clear hK K
            refine norm_ (a' := ?_) ?_ ?_
            rotate_left
            · show Act.put _ (some 60) _ = _
              simp only [Act.put, List.setIfInBounds_toArray, List.set_cons_zero, List.set_cons_succ, i64_w, i32_w]
              rfl
            refine pure_ (i := 14) (N := some 61) (v := ?_) (a' := ?_) #[true, true, true, true, true, true, true, true, true, true, true, true, true, true, true, false, false, false] rfl rfl (by kernel_rfl) (fun _ _ _ h => h) (Or.inl ⟨by rfl, ?_⟩) ?_ ?_
            rotate_left
            · intro w'
              go_simp
              with_reducible rfl
            rotate_left
            · simp only [Act.put, List.setIfInBounds_toArray, List.set_cons_zero, List.set_cons_succ, i64_w, i32_w]
              rfl
            refine one_ (i := 15) (N := some 62) #[true, true, true, true, true, true, true, true, true, true, true, true, true, true, true, true, false, false] rfl rfl (by kernel_rfl) (by decide) (fun K hK => ?_)
            refine value_ (w1 := ?_) (v := ?_) (by rfl) rfl ?_ ?_
            rotate_left 2
            · go_simp
              constructor
              · rfl
              · rfl
            refine hK.out _ _ ⟨(E5.out.blk.below (below_one _ _)).c1, (E5.out.blk.below (below_one _ _)).c0, cell_keep Q5.out (below_one _ _)⟩ (fun hHeld => ?_)
            clear hK K
            refine norm_ (a' := ?_) ?_ ?_
            rotate_left
            · show Act.put _ (some 62) _ = _
              simp only [Act.put, List.setIfInBounds_toArray, List.set_cons_zero, List.set_cons_succ, i64_w, i32_w]
              rfl
            refine one_ (i := 16) (N := some 63) #[true, true, true, true, true, true, true, true, true, true, true, true, true, true, true, true, true, false] rfl rfl (by kernel_rfl) (by decide) (fun K hK => ?_)
            refine Kd.R_append_step k83 (w0 := w1) (W := w5) w1.heap.size (by rfl) (.tmp 47) (.tmp 62) 65 83 (.agg #[.int .i64 0, .bool false, .slice none 0 0]) 40 (by rfl) Try.underlying65 info83 rfl (by decide) (by decide) (.slice none 0 0) [] ⟨f1, false, hd⟩ [.int .i64 f1, .bool false, .slice Ac hd.length kc] (fun _ => True) (fun _ => True) (by rfl) (by rfl) (k83_mkM _ _ _ ⟨f1, false, hd⟩ HC.out) (fun k _ => ⟨trivial, by simp [Value.ownBlock]⟩) (fun _ _ => trivial) (Kd.R_nil _ _ _ _ _) E5.out.low E5.out.low.size (by simp) ?_
            intro v6 w6 hR6 hb6 hg6 hat6
            simp only [List.nil_append] at hR6
            have E6 := Lib.hid (EdW.grown E5.out hg6 (fun k hk => by simp [Value.ownBlock] at hk) hb6)
            have Z6 := Lib.hid (show EBlk w6 (w.heap.size + 1) 61 (.slice none 0 0) 0 0 (.slice none 0 0) false 0 from blk_grown Z5.out hg6 (by simp [Value.ownBlock]))
            have L6 := Lib.hid hR6
            have Q6 := Lib.hid (cell_grown hg6 Q5.out (by simp [Value.ownBlock]))
            clear hR6 hb6 hg6 hat6
            refine hK.out _ _ ⟨E6.out.blk.c1, E6.out.blk.c0, Q6.out⟩ (fun hHeld => ?_)
            clear hK K
            refine norm_ (a' := ?_) ?_ ?_
            rotate_left
            · show Act.put _ (some 63) _ = _
              simp only [Act.put, List.setIfInBounds_toArray, List.set_cons_zero, List.set_cons_succ, i64_w, i32_w]
              rfl
            refine pure_ (i := 17) (N := some 9) (v := ?_) (a' := ?_) #[true, true, true, true, true, true, true, true, true, true, true, true, true, true, true, true, true, true] rfl rfl (by kernel_rfl) (fun _ _ _ h => h) (Or.inl ⟨by rfl, ?_⟩) ?_ ?_
            rotate_left
            · intro w'
              go_simp
              with_reducible rfl
            rotate_left
            · simp only [Act.put, List.setIfInBounds_toArray, List.set_cons_zero, List.set_cons_succ, i64_w, i32_w]
              rfl
            refine done_ (by kernel_rfl) ?_

            have x5 := E6.out.blk.c5; have z5 := blk_frozen E6.out.blk 5
            have E7 := Lib.hid (show EdW w1 (w6.setCell ⟨g, 5, none⟩ (.int .i64 (wrap64 (now + 3)))) g (.slice (some ⟨go, 0, none⟩) o.length ko) o f1 f2 (.slice Ai inn.length ki) inn f4 (wrap64 (now + 3)) from EdW.set E6.out 5 (.int .i64 (wrap64 (now + 3))) rfl)
            have Z7 := Lib.hid (show EBlk (w6.setCell ⟨g, 5, none⟩ (.int .i64 (wrap64 (now + 3)))) (w.heap.size + 1) 61 (.slice none 0 0) 0 0 (.slice none 0 0) false 0 from blk_far Z6.out (show w.heap.size + 1 ≠ g by have := E6.out.ge; have := N1.out; omega) _)
            have L7 := Lib.hid (Kd.R_set L6.out E6.out.blk (by decide) 5 (.int .i64 (wrap64 (now + 3))))
            have B7 := Lib.hid (bb BW.out E7.out.low)
            clear hHeld QA CH EE
            cases f4
            · have x0 := E7.out.blk.c0; have x1 := E7.out.blk.c1; have x2 := E7.out.blk.c2; have x3 := E7.out.blk.c3; have x4 := E7.out.blk.c4; have x5 := E7.out.blk.c5; have z0 := Z7.out.c0; have z1 := Z7.out.c1; have z2 := Z7.out.c2; have z3 := Z7.out.c3; have z4 := Z7.out.c4; have z5 := Z7.out.c5; have y := blk_frozen Z7.out
              go_wp2_with fail
              replace Z := Z7; replace B0 := B7
              obtain ⟨w9, hw9, Z9, F9⟩ := six Z.out (.slice (some ⟨go, 0, none⟩) o.length ko) (f1) (f2) (.slice Ai inn.length ki) (false) (wrap64 (now + 3))
              rw [← hw9]
              clear hw9
              obtain rfl : r = 0 := by rw [PR.out]; unfold pollF; simp only; rw [if_neg (by rw [HZ.out]; simp), if_neg (by rw [HT.out]; simp)]
              obtain rfl : x = ⟨o, f1, f2, inn, false, wrap64 (now + 3)⟩ := by rw [PX.out]; unfold pollF; simp only; rw [if_neg (by rw [HZ.out]; simp), if_neg (by rw [HT.out]; simp), if_pos HSB.out, wid (n := now + 3) (by have h := HT.out; unfold oddT at h; simp at h; omega) (by have h := HT.out; unfold oddT at h; simp at h; omega)]
              obtain rfl : l = [⟨f1, false, hd⟩] := by rw [PL.out]; unfold pollF; simp only; rw [if_neg (by rw [HZ.out]; simp), if_neg (by rw [HT.out]; simp)]; show pollL _ _ _ _ _ _ = _; unfold pollL; rw [if_pos HSB.out, ← HHD.out, if_neg (by simp)] <;> rfl
              refine bodyPost_ret (v := .tuple #[.agg #[.slice (some ⟨go, 0, none⟩) o.length ko, .int .i64 (f1), .int .i64 (f2), .slice Ai inn.length ki, .bool false, .int .i64 (wrap64 (now + 3))], v6, .int .i64 (0)]) (by simp [results, Try.results44, go_sem, Z9.c0, Z9.c1, Z9.c2, Z9.c3, Z9.c4, Z9.c5]) rfl ⟨_, _, rfl, ⟨_, _, rfl, V_fr (Kd.R_V (base' := w1.heap.size) (Kd.R_mono (Kd.R_bound E7.out.out) (fun _ hk => hk.2.1))) F9 (fun k hk => by have := N1.out; omega) BW.out.size, V_fr (Kd.R_V (base' := w1.heap.size) (Kd.R_mono (Kd.R_bound E7.out.inn) (fun _ hk => hk.2.1))) F9 (fun k hk => by have := N1.out; omega) BW.out.size⟩, R_fr L7.out F9 (fun k hk => by have := N1.out; omega) BW.out.size, Fr.below F9 B0.out (Nat.le_refl _) (fun k hk => by omega)⟩
            · have x0 := E7.out.blk.c0; have x2 := E7.out.blk.c2; have x4 := E7.out.blk.c4; have x5 := E7.out.blk.c5
              go_wp2_with ((with_reducible refine gate_builtin (b := .append) (xs := #[.tmp 75, .tmp 82]) rfl ?_); at_builtin; refine Kd.R_append k83 (w0 := w1) w1.heap.size rfl (.tmp 75) (.tmp 82) 65 83 (.agg #[.int .i64 0, .bool false, .slice none 0 0]) 40 rfl Try.underlying65 info83 rfl (by decide) (by decide) (v6) [⟨f1, false, hd⟩] ⟨f2, true, []⟩ [.int .i64 f2, .bool true, .slice none 0 0] (fun _ => True) (fun _ => False) rfl (by first | rfl | (simp [go_sem]; done)) (k83_mkM _ _ _ ⟨f2, true, []⟩ (Kd.R_nil _ _ _ _ _)) (fun _ h => h.elim) (fun _ _ => trivial) L7.out E7.out.low E7.out.low.size (by simp) ?_; intro v8 w8 hR8 hb8 hg8 hat8; have E8 := Lib.hid (EdW.grown E7.out hg8 (Kd.R_typed L7.out) hb8); have Z8 := Lib.hid (show EBlk w8 (w.heap.size + 1) 61 (.slice none 0 0) 0 0 (.slice none 0 0) false 0 from blk_grown Z7.out hg8 (Kd.R_ne L7.out Z7.out (by decide))); have L8 := Lib.hid hR8; clear hR8 hb8 hg8 hat8 x0 x2 x4 x5; have x4 := E8.out.blk.c4; have w4z := blk_frozen E8.out.blk 4; have E9 := Lib.hid (show EdW w1 (w8.setCell ⟨g, 4, none⟩ (.bool false)) g (.slice (some ⟨go, 0, none⟩) o.length ko) o f1 f2 (.slice Ai inn.length ki) inn false (wrap64 (now + 3)) from EdW.set E8.out 4 (.bool false) rfl); have Z9' := Lib.hid (show EBlk (w8.setCell ⟨g, 4, none⟩ (.bool false)) (w.heap.size + 1) 61 (.slice none 0 0) 0 0 (.slice none 0 0) false 0 from blk_far Z8.out (show w.heap.size + 1 ≠ g by have := E8.out.ge; have := N1.out; omega) (.bool false)); have q4 := E9.out.blk.c4; have x0 := E9.out.blk.c0; have x1 := E9.out.blk.c1; have x2 := E9.out.blk.c2; have x3 := E9.out.blk.c3; have x5 := E9.out.blk.c5; have z0 := Z9'.out.c0; have z1 := Z9'.out.c1; have z2 := Z9'.out.c2; have z3 := Z9'.out.c3; have z4 := Z9'.out.c4; have z5 := Z9'.out.c5; have y := blk_frozen Z9'.out)
              have L9 := Lib.hid (Kd.R_set L8.out E8.out.blk (by decide) 4 (.bool false))
              replace Z := Z9'; replace B0 := Lib.hid (bb BW.out E9.out.low)
              obtain ⟨w9, hw9, Z9, F9⟩ := six Z.out (.slice (some ⟨go, 0, none⟩) o.length ko) (f1) (f2) (.slice Ai inn.length ki) (false) (wrap64 (now + 3))
              rw [← hw9]
              clear hw9
              obtain rfl : r = 0 := by rw [PR.out]; unfold pollF; simp only; rw [if_neg (by rw [HZ.out]; simp), if_neg (by rw [HT.out]; simp)]
              obtain rfl : x = ⟨o, f1, f2, inn, false, wrap64 (now + 3)⟩ := by rw [PX.out]; unfold pollF; simp only; rw [if_neg (by rw [HZ.out]; simp), if_neg (by rw [HT.out]; simp), if_pos HSB.out, wid (n := now + 3) (by have h := HT.out; unfold oddT at h; simp at h; omega) (by have h := HT.out; unfold oddT at h; simp at h; omega)]
              obtain rfl : l = ([⟨f1, false, hd⟩] ++ [⟨f2, true, []⟩]) := by rw [PL.out]; unfold pollF; simp only; rw [if_neg (by rw [HZ.out]; simp), if_neg (by rw [HT.out]; simp)]; show pollL _ _ _ _ _ _ = _; unfold pollL; rw [if_pos HSB.out, ← HHD.out, if_pos rfl] <;> rfl
              refine bodyPost_ret (v := .tuple #[.agg #[.slice (some ⟨go, 0, none⟩) o.length ko, .int .i64 (f1), .int .i64 (f2), .slice Ai inn.length ki, .bool false, .int .i64 (wrap64 (now + 3))], v8, .int .i64 (0)]) (by simp [results, Try.results44, go_sem, Z9.c0, Z9.c1, Z9.c2, Z9.c3, Z9.c4, Z9.c5]) rfl ⟨_, _, rfl, ⟨_, _, rfl, V_fr (Kd.R_V (base' := w1.heap.size) (Kd.R_mono (Kd.R_bound E9.out.out) (fun _ hk => hk.2.1))) F9 (fun k hk => by have := N1.out; omega) BW.out.size, V_fr (Kd.R_V (base' := w1.heap.size) (Kd.R_mono (Kd.R_bound E9.out.inn) (fun _ hk => hk.2.1))) F9 (fun k hk => by have := N1.out; omega) BW.out.size⟩, R_fr L9.out F9 (fun k hk => by have := N1.out; omega) BW.out.size, Fr.below F9 B0.out (Nat.le_refl _) (fun k hk => by omega)⟩
          · have HSB := Lib.hid (show sendB o f5 now = false by unfold sendB; rw [decide_eq_false hb, decide_eq_false hc]; simp)
            clear hb
            have L0 := Lib.hid (Kd.R_nil k83 83 w3 w1.heap.size (fun _ => True))
            clear x0 x4 z0 z1 z2 z3 z4 z5 y
            cases f4
            · have x0 := EE.out.blk.c0; have x1 := EE.out.blk.c1; have x2 := EE.out.blk.c2; have x3 := EE.out.blk.c3; have x4 := EE.out.blk.c4; have x5 := EE.out.blk.c5; have z0 := Z.out.c0; have z1 := Z.out.c1; have z2 := Z.out.c2; have z3 := Z.out.c3; have z4 := Z.out.c4; have z5 := Z.out.c5; have y := blk_frozen Z.out
              go_wp2_with fail
              obtain ⟨w9, hw9, Z9, F9⟩ := six Z.out (.slice Ao o.length ko) (f1) (f2) (.slice Ai inn.length ki) (false) (f5)
              rw [← hw9]
              clear hw9
              obtain rfl : r = 0 := by rw [PR.out]; unfold pollF; simp only; rw [if_neg (by rw [HZ.out]; simp), if_neg (by rw [HT.out]; simp)]
              obtain rfl : x = ⟨o, f1, f2, inn, false, f5⟩ := by rw [PX.out]; unfold pollF; simp only; rw [if_neg (by rw [HZ.out]; simp), if_neg (by rw [HT.out]; simp), if_neg (by rw [HSB.out]; simp)]
              obtain rfl : l = [] := by rw [PL.out]; unfold pollF; simp only; rw [if_neg (by rw [HZ.out]; simp), if_neg (by rw [HT.out]; simp)]; show pollL _ _ _ _ _ _ = _; unfold pollL; rw [if_neg (by rw [HSB.out]; simp), if_neg (by simp)] <;> rfl
              refine bodyPost_ret (v := .tuple #[.agg #[.slice Ao o.length ko, .int .i64 (f1), .int .i64 (f2), .slice Ai inn.length ki, .bool false, .int .i64 (f5)], .slice none 0 0, .int .i64 (0)]) (by simp [results, Try.results44, go_sem, Z9.c0, Z9.c1, Z9.c2, Z9.c3, Z9.c4, Z9.c5]) rfl ⟨_, _, rfl, ⟨_, _, rfl, V_fr (Kd.R_V (base' := w1.heap.size) (Kd.R_mono (Kd.R_bound EE.out.out) (fun _ hk => hk.2.1))) F9 (fun k hk => by have := N1.out; omega) BW.out.size, V_fr (Kd.R_V (base' := w1.heap.size) (Kd.R_mono (Kd.R_bound EE.out.inn) (fun _ hk => hk.2.1))) F9 (fun k hk => by have := N1.out; omega) BW.out.size⟩, R_fr L0.out F9 (fun k hk => by have := N1.out; omega) BW.out.size, Fr.below F9 B0.out (Nat.le_refl _) (fun k hk => by omega)⟩
            · have x0 := EE.out.blk.c0; have x2 := EE.out.blk.c2; have x4 := EE.out.blk.c4; have x5 := EE.out.blk.c5
              go_wp2_with ((with_reducible refine gate_builtin (b := .append) (xs := #[.tmp 75, .tmp 82]) rfl ?_); at_builtin; refine Kd.R_append k83 (w0 := w1) w1.heap.size rfl (.tmp 75) (.tmp 82) 65 83 (.agg #[.int .i64 0, .bool false, .slice none 0 0]) 40 rfl Try.underlying65 info83 rfl (by decide) (by decide) (.slice none 0 0) [] ⟨f2, true, []⟩ [.int .i64 f2, .bool true, .slice none 0 0] (fun _ => True) (fun _ => False) rfl (by first | rfl | (simp [go_sem]; done)) (k83_mkM _ _ _ ⟨f2, true, []⟩ (Kd.R_nil _ _ _ _ _)) (fun _ h => h.elim) (fun _ _ => trivial) L0.out EE.out.low EE.out.low.size (by simp) ?_; intro v8 w8 hR8 hb8 hg8 hat8; have E8 := Lib.hid (EdW.grown EE.out hg8 (Kd.R_typed L0.out) hb8); have Z8 := Lib.hid (show EBlk w8 (w.heap.size + 1) 61 (.slice none 0 0) 0 0 (.slice none 0 0) false 0 from blk_grown Z.out hg8 (Kd.R_ne L0.out Z.out (by decide))); have L8 := Lib.hid hR8; clear hR8 hb8 hg8 hat8 x0 x2 x4 x5; have x4 := E8.out.blk.c4; have w4z := blk_frozen E8.out.blk 4; have E9 := Lib.hid (show EdW w1 (w8.setCell ⟨g, 4, none⟩ (.bool false)) g (.slice Ao o.length ko) o f1 f2 (.slice Ai inn.length ki) inn false (f5) from EdW.set E8.out 4 (.bool false) rfl); have Z9' := Lib.hid (show EBlk (w8.setCell ⟨g, 4, none⟩ (.bool false)) (w.heap.size + 1) 61 (.slice none 0 0) 0 0 (.slice none 0 0) false 0 from blk_far Z8.out (show w.heap.size + 1 ≠ g by have := E8.out.ge; have := N1.out; omega) (.bool false)); have q4 := E9.out.blk.c4; have x0 := E9.out.blk.c0; have x1 := E9.out.blk.c1; have x2 := E9.out.blk.c2; have x3 := E9.out.blk.c3; have x5 := E9.out.blk.c5; have z0 := Z9'.out.c0; have z1 := Z9'.out.c1; have z2 := Z9'.out.c2; have z3 := Z9'.out.c3; have z4 := Z9'.out.c4; have z5 := Z9'.out.c5; have y := blk_frozen Z9'.out)
              have L9 := Lib.hid (Kd.R_set L8.out E8.out.blk (by decide) 4 (.bool false))
              replace Z := Z9'; replace B0 := Lib.hid (bb BW.out E9.out.low)
              obtain ⟨w9, hw9, Z9, F9⟩ := six Z.out (.slice Ao o.length ko) (f1) (f2) (.slice Ai inn.length ki) (false) (f5)
              rw [← hw9]
              clear hw9
              obtain rfl : r = 0 := by rw [PR.out]; unfold pollF; simp only; rw [if_neg (by rw [HZ.out]; simp), if_neg (by rw [HT.out]; simp)]
              obtain rfl : x = ⟨o, f1, f2, inn, false, f5⟩ := by rw [PX.out]; unfold pollF; simp only; rw [if_neg (by rw [HZ.out]; simp), if_neg (by rw [HT.out]; simp), if_neg (by rw [HSB.out]; simp)]
              obtain rfl : l = ([] ++ [⟨f2, true, []⟩]) := by rw [PL.out]; unfold pollF; simp only; rw [if_neg (by rw [HZ.out]; simp), if_neg (by rw [HT.out]; simp)]; show pollL _ _ _ _ _ _ = _; unfold pollL; rw [if_neg (by rw [HSB.out]; simp), if_pos rfl] <;> rfl
              refine bodyPost_ret (v := .tuple #[.agg #[.slice Ao o.length ko, .int .i64 (f1), .int .i64 (f2), .slice Ai inn.length ki, .bool false, .int .i64 (f5)], v8, .int .i64 (0)]) (by simp [results, Try.results44, go_sem, Z9.c0, Z9.c1, Z9.c2, Z9.c3, Z9.c4, Z9.c5]) rfl ⟨_, _, rfl, ⟨_, _, rfl, V_fr (Kd.R_V (base' := w1.heap.size) (Kd.R_mono (Kd.R_bound E9.out.out) (fun _ hk => hk.2.1))) F9 (fun k hk => by have := N1.out; omega) BW.out.size, V_fr (Kd.R_V (base' := w1.heap.size) (Kd.R_mono (Kd.R_bound E9.out.inn) (fun _ hk => hk.2.1))) F9 (fun k hk => by have := N1.out; omega) BW.out.size⟩, R_fr L9.out F9 (fun k hk => by have := N1.out; omega) BW.out.size, Fr.below F9 B0.out (Nat.le_refl _) (fun k hk => by omega)⟩
      · have HSB := Lib.hid (show sendB o f5 now = false by unfold sendB; rw [decide_eq_false ha]; simp)
        have L0 := Lib.hid (Kd.R_nil k83 83 w3 w1.heap.size (fun _ => True))
        clear x0 x4 z0 z1 z2 z3 z4 z5 y
        cases f4
        · have x0 := EE.out.blk.c0; have x1 := EE.out.blk.c1; have x2 := EE.out.blk.c2; have x3 := EE.out.blk.c3; have x4 := EE.out.blk.c4; have x5 := EE.out.blk.c5; have z0 := Z.out.c0; have z1 := Z.out.c1; have z2 := Z.out.c2; have z3 := Z.out.c3; have z4 := Z.out.c4; have z5 := Z.out.c5; have y := blk_frozen Z.out
          go_wp2_with fail
          obtain ⟨w9, hw9, Z9, F9⟩ := six Z.out (.slice Ao o.length ko) (f1) (f2) (.slice Ai inn.length ki) (false) (f5)
          rw [← hw9]
          clear hw9
          obtain rfl : r = 0 := by rw [PR.out]; unfold pollF; simp only; rw [if_neg (by rw [HZ.out]; simp), if_neg (by rw [HT.out]; simp)]
          obtain rfl : x = ⟨o, f1, f2, inn, false, f5⟩ := by rw [PX.out]; unfold pollF; simp only; rw [if_neg (by rw [HZ.out]; simp), if_neg (by rw [HT.out]; simp), if_neg (by rw [HSB.out]; simp)]
          obtain rfl : l = [] := by rw [PL.out]; unfold pollF; simp only; rw [if_neg (by rw [HZ.out]; simp), if_neg (by rw [HT.out]; simp)]; show pollL _ _ _ _ _ _ = _; unfold pollL; rw [if_neg (by rw [HSB.out]; simp), if_neg (by simp)] <;> rfl
          refine bodyPost_ret (v := .tuple #[.agg #[.slice Ao o.length ko, .int .i64 (f1), .int .i64 (f2), .slice Ai inn.length ki, .bool false, .int .i64 (f5)], .slice none 0 0, .int .i64 (0)]) (by simp [results, Try.results44, go_sem, Z9.c0, Z9.c1, Z9.c2, Z9.c3, Z9.c4, Z9.c5]) rfl ⟨_, _, rfl, ⟨_, _, rfl, V_fr (Kd.R_V (base' := w1.heap.size) (Kd.R_mono (Kd.R_bound EE.out.out) (fun _ hk => hk.2.1))) F9 (fun k hk => by have := N1.out; omega) BW.out.size, V_fr (Kd.R_V (base' := w1.heap.size) (Kd.R_mono (Kd.R_bound EE.out.inn) (fun _ hk => hk.2.1))) F9 (fun k hk => by have := N1.out; omega) BW.out.size⟩, R_fr L0.out F9 (fun k hk => by have := N1.out; omega) BW.out.size, Fr.below F9 B0.out (Nat.le_refl _) (fun k hk => by omega)⟩
        · have x0 := EE.out.blk.c0; have x2 := EE.out.blk.c2; have x4 := EE.out.blk.c4; have x5 := EE.out.blk.c5
          go_wp2_with ((with_reducible refine gate_builtin (b := .append) (xs := #[.tmp 75, .tmp 82]) rfl ?_); at_builtin; refine Kd.R_append k83 (w0 := w1) w1.heap.size rfl (.tmp 75) (.tmp 82) 65 83 (.agg #[.int .i64 0, .bool false, .slice none 0 0]) 40 rfl Try.underlying65 info83 rfl (by decide) (by decide) (.slice none 0 0) [] ⟨f2, true, []⟩ [.int .i64 f2, .bool true, .slice none 0 0] (fun _ => True) (fun _ => False) rfl (by first | rfl | (simp [go_sem]; done)) (k83_mkM _ _ _ ⟨f2, true, []⟩ (Kd.R_nil _ _ _ _ _)) (fun _ h => h.elim) (fun _ _ => trivial) L0.out EE.out.low EE.out.low.size (by simp) ?_; intro v8 w8 hR8 hb8 hg8 hat8; have E8 := Lib.hid (EdW.grown EE.out hg8 (Kd.R_typed L0.out) hb8); have Z8 := Lib.hid (show EBlk w8 (w.heap.size + 1) 61 (.slice none 0 0) 0 0 (.slice none 0 0) false 0 from blk_grown Z.out hg8 (Kd.R_ne L0.out Z.out (by decide))); have L8 := Lib.hid hR8; clear hR8 hb8 hg8 hat8 x0 x2 x4 x5; have x4 := E8.out.blk.c4; have w4z := blk_frozen E8.out.blk 4; have E9 := Lib.hid (show EdW w1 (w8.setCell ⟨g, 4, none⟩ (.bool false)) g (.slice Ao o.length ko) o f1 f2 (.slice Ai inn.length ki) inn false (f5) from EdW.set E8.out 4 (.bool false) rfl); have Z9' := Lib.hid (show EBlk (w8.setCell ⟨g, 4, none⟩ (.bool false)) (w.heap.size + 1) 61 (.slice none 0 0) 0 0 (.slice none 0 0) false 0 from blk_far Z8.out (show w.heap.size + 1 ≠ g by have := E8.out.ge; have := N1.out; omega) (.bool false)); have q4 := E9.out.blk.c4; have x0 := E9.out.blk.c0; have x1 := E9.out.blk.c1; have x2 := E9.out.blk.c2; have x3 := E9.out.blk.c3; have x5 := E9.out.blk.c5; have z0 := Z9'.out.c0; have z1 := Z9'.out.c1; have z2 := Z9'.out.c2; have z3 := Z9'.out.c3; have z4 := Z9'.out.c4; have z5 := Z9'.out.c5; have y := blk_frozen Z9'.out)
          have L9 := Lib.hid (Kd.R_set L8.out E8.out.blk (by decide) 4 (.bool false))
          replace Z := Z9'; replace B0 := Lib.hid (bb BW.out E9.out.low)
          obtain ⟨w9, hw9, Z9, F9⟩ := six Z.out (.slice Ao o.length ko) (f1) (f2) (.slice Ai inn.length ki) (false) (f5)
          rw [← hw9]
          clear hw9
          obtain rfl : r = 0 := by rw [PR.out]; unfold pollF; simp only; rw [if_neg (by rw [HZ.out]; simp), if_neg (by rw [HT.out]; simp)]
          obtain rfl : x = ⟨o, f1, f2, inn, false, f5⟩ := by rw [PX.out]; unfold pollF; simp only; rw [if_neg (by rw [HZ.out]; simp), if_neg (by rw [HT.out]; simp), if_neg (by rw [HSB.out]; simp)]
          obtain rfl : l = ([] ++ [⟨f2, true, []⟩]) := by rw [PL.out]; unfold pollF; simp only; rw [if_neg (by rw [HZ.out]; simp), if_neg (by rw [HT.out]; simp)]; show pollL _ _ _ _ _ _ = _; unfold pollL; rw [if_neg (by rw [HSB.out]; simp), if_pos rfl] <;> rfl
          refine bodyPost_ret (v := .tuple #[.agg #[.slice Ao o.length ko, .int .i64 (f1), .int .i64 (f2), .slice Ai inn.length ki, .bool false, .int .i64 (f5)], v8, .int .i64 (0)]) (by simp [results, Try.results44, go_sem, Z9.c0, Z9.c1, Z9.c2, Z9.c3, Z9.c4, Z9.c5]) rfl ⟨_, _, rfl, ⟨_, _, rfl, V_fr (Kd.R_V (base' := w1.heap.size) (Kd.R_mono (Kd.R_bound E9.out.out) (fun _ hk => hk.2.1))) F9 (fun k hk => by have := N1.out; omega) BW.out.size, V_fr (Kd.R_V (base' := w1.heap.size) (Kd.R_mono (Kd.R_bound E9.out.inn) (fun _ hk => hk.2.1))) F9 (fun k hk => by have := N1.out; omega) BW.out.size⟩, R_fr L9.out F9 (fun k hk => by have := N1.out; omega) BW.out.size, Fr.below F9 B0.out (Nat.le_refl _) (fun k hk => by omega)⟩
    · have HT := Lib.hid ht
      go_wp2_with fail
      obtain ⟨w9, hw9, Z9, F9⟩ := six Z.out (.slice none 0 0) (0) (0) (.slice none 0 0) (false) (0)
      rw [← hw9]
      clear hw9
      obtain rfl : r = 1 := by rw [PR.out]; unfold pollF; simp only; rw [if_neg (by rw [HZ.out]; simp), if_pos HT.out]
      obtain rfl : x = z61 := by rw [PX.out]; unfold pollF; simp only; rw [if_neg (by rw [HZ.out]; simp), if_pos HT.out]
      obtain rfl : l = [] := by rw [PL.out]; unfold pollF; simp only; rw [if_neg (by rw [HZ.out]; simp), if_pos HT.out]
      refine bodyPost_ret (v := .tuple #[.agg #[.slice none 0 0, .int .i64 (0), .int .i64 (0), .slice none 0 0, .bool false, .int .i64 (0)], .slice none 0 0, .int .i64 (1)]) (by simp [results, Try.results44, go_sem, Z9.c0, Z9.c1, Z9.c2, Z9.c3, Z9.c4, Z9.c5]) rfl ⟨_, _, rfl, EndV.zero _ _, Kd.R_nil _ _ _ _ _, Fr.below F9 B0.out (Nat.le_refl _) (fun k hk => by omega)⟩
end Go.Proofs.Ytbfhohpbldadbaa.P
