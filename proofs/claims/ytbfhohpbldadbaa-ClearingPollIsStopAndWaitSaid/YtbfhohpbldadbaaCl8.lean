import Derived.Test.YtbfhohpbldadbaaCl7
namespace Go.Proofs.Ytbfhohpbldadbaa.P
open Go Go.RowKit Go.Proofs.YtbfhohpbldadbaaW.PrintWords Go.Proofs.YtbfhohpbldadbaaW.PrintLast Go.Proofs.YtbfhohpbldadbaaW.PrintMore
set_option linter.unusedVariables false
set_option linter.unusedSimpArgs false
def e0 : S61 := ⟨[], 0, 0, [], false, -1⟩
theorem new_calls (w : World) : Calls Try.prog 69 #[] w fun e w' => e = .returned (.agg #[.slice none 0 0, .int .i64 0, .int .i64 0, .slice none 0 0, .bool false, .int .i64 (-1)]) ∧ Below w.heap.size w w' := by
  go_enter Try.func69, Try.ntmps69
  have Z := EBlk.new w 61 (.slice none 0 0) (.slice none 0 0) 0 0 0 false
  have B := Lib.hid (below_one w (.cells #[.slice none 0 0, .int .i64 0, .int .i64 0, .slice none 0 0, .bool false, .int .i64 0] 61))
  go_wp2_with fail
  have Z9 := EBlk.new w 61 (.slice none 0 0) (.slice none 0 0) 0 0 (-1) false
  exact bodyPost_ret (v := .agg #[.slice none 0 0, .int .i64 0, .int .i64 0, .slice none 0 0, .bool false, .int .i64 (-1)]) (by simp [results, Try.results69, go_sem, Z9.c0, Z9.c1, Z9.c2, Z9.c3, Z9.c4, Z9.c5]) rfl ⟨rfl, below_one _ _⟩
theorem EndV.out {w : World} {B : Nat} {v : Value} {x : S61} (h : EndV w B v x) {n m : Nat} (hn : x.f0.length = n) (hm : x.f3.length = m) : ∃ A0 c0 A3 c3, v = .agg #[.slice A0 n c0, .int .i64 x.f1, .int .i64 x.f2, .slice A3 m c3, .bool x.f4, .int .i64 x.f5] ∧ Kd.C kL w A0 n x.f0 ∧ Kd.C k39 w A3 m x.f3 := by
  subst hn; subst hm
  obtain ⟨vo, vi, rfl, hO, hI⟩ := h
  obtain ⟨A0, c0, rfl⟩ := Kd.V_slice hO
  obtain ⟨A3, c3, rfl⟩ := Kd.V_slice hI
  exact ⟨A0, c0, A3, c3, rfl, (Kd.V_reads' hO).2.2, (Kd.V_reads' hI).2.2⟩
def rec9 : S39 := ⟨9, 0, 0, ⟨#[]⟩, 0, 0, 0, 4⟩
set_option maxRecDepth 100000 in
theorem sn1 : offF e0 [rec9] = (⟨[[rec9]], 0, 0, [], false, -1⟩, 0) := by rfl
set_option maxRecDepth 100000 in
theorem sn2 : pollF ⟨[[rec9]], 0, 0, [], false, -1⟩ 5 = (⟨[[rec9]], 0, 0, [], false, 8⟩, [⟨0, false, [rec9]⟩], 0) := by rfl
set_option maxRecDepth 100000 in
theorem sn3 : pollF ⟨[[rec9]], 0, 0, [], false, 8⟩ 6 = (⟨[[rec9]], 0, 0, [], false, 8⟩, [], 0) := by rfl
set_option maxRecDepth 100000 in
theorem sn4 : recvF ⟨[], 0, 0, [], false, -1⟩ ⟨0, false, [rec9]⟩ 6 = (⟨[], 0, 1, [rec9], true, -1⟩, 0) := by rfl
set_option maxRecDepth 100000 in
theorem sn5 : recvF ⟨[], 0, 1, [rec9], true, -1⟩ ⟨0, false, [rec9]⟩ 6 = (⟨[], 0, 1, [rec9], true, -1⟩, 0) := by rfl
set_option maxRecDepth 100000 in
theorem sn6 : pollF ⟨[], 0, 1, [rec9], true, -1⟩ 6 = (⟨[], 0, 1, [rec9], false, -1⟩, [⟨1, true, []⟩], 0) := by rfl
set_option maxRecDepth 100000 in
theorem sn7 : recvF ⟨[[rec9]], 0, 0, [], false, 8⟩ ⟨1, true, []⟩ 7 = (⟨[], 1, 0, [], false, -1⟩, 0) := by rfl
set_option maxRecDepth 100000 in
theorem sn8 : recvF ⟨[[rec9]], 0, 0, [], false, 8⟩ ⟨2, true, []⟩ 7 = (z61, 300) := by rfl
set_option maxRecDepth 100000 in
theorem sn9 : recvF ⟨[], 0, 1, [rec9], true, -1⟩ ⟨2, false, [rec9]⟩ 7 = (z61, 300) := by rfl
/-- A batch's cells in a row. -/
theorem B_cell83 {w : World} {g c n : Nat} {xs : List S83} {B : Nat} {ok : Nat → Prop} (h : Kd.R k83 83 w B ok (.slice (some ⟨g, 0, none⟩) n c) xs) (hl : 0 < xs.length) :
    ∃ A2 c2, w.cell? ⟨g, 0, none⟩ = some (.int .i64 (xs[0]'hl).f0) ∧ w.cell? ⟨g, 1, none⟩ = some (.bool (xs[0]'hl).f1) ∧ w.cell? ⟨g, 2, none⟩ = some (.slice A2 (xs[0]'hl).f2.length c2) ∧ Kd.C k39 w A2 (xs[0]'hl).f2.length (xs[0]'hl).f2 := by
  obtain ⟨ad, A2, c2, hA, h0, h1, h2, _, h4⟩ := at_T83 (Kd.R_reads' h).2.2 0 (by omega) (by omega)
  injection hA with hA
  subst hA
  have e : rd_T83 xs 0 = xs[0]'hl := getD_at hl z83
  rw [e] at h0 h1 h2 h4
  exact ⟨A2, c2, by simpa [Addr.add] using h0, by simpa [Addr.add] using h1, by simpa [Addr.add] using h2, h4⟩
structure HE (W : World) (t : Nat) (A0 : Option Addr) (n0 c0 : Nat) (A3 : Option Addr) (n3 c3 : Nat) (x : S61) : Prop where
  blk : EBlk W t 61 (.slice A0 n0 c0) x.f1 x.f2 (.slice A3 n3 c3) x.f4 x.f5
  o : Kd.C kL W A0 n0 x.f0
  i : Kd.C k39 W A3 n3 x.f3
theorem HE.below {W W' : World} {t : Nat} {A0 : Option Addr} {n0 c0 : Nat} {A3 : Option Addr} {n3 c3 : Nat} {x : S61} (h : HE W t A0 n0 c0 A3 n3 c3 x) (hb : Below W.heap.size W W') : HE W' t A0 n0 c0 A3 n3 c3 x :=
  ⟨h.blk.below hb, Kd.C_below h.o hb, Kd.C_below h.i hb⟩
theorem HE.ol {W : World} {t : Nat} {A0 : Option Addr} {n0 c0 : Nat} {A3 : Option Addr} {n3 c3 : Nat} {x : S61} (h : HE W t A0 n0 c0 A3 n3 c3 x) (hn : x.f0.length = n0) : Kd.C kL W A0 x.f0.length x.f0 := hn ▸ h.o
theorem HE.il {W : World} {t : Nat} {A0 : Option Addr} {n0 c0 : Nat} {A3 : Option Addr} {n3 c3 : Nat} {x : S61} (h : HE W t A0 n0 c0 A3 n3 c3 x) (hn : x.f3.length = n3) : Kd.C k39 W A3 x.f3.length x.f3 := hn ▸ h.i
structure HB (W : World) (g : Nat) (b : S83) (A2 : Option Addr) (n2 c2 : Nat) : Prop where
  c0 : W.cell? ⟨g, 0, none⟩ = some (.int .i64 b.f0)
  c1 : W.cell? ⟨g, 1, none⟩ = some (.bool b.f1)
  c2 : W.cell? ⟨g, 2, none⟩ = some (.slice A2 n2 c2)
  r : Kd.C k39 W A2 n2 b.f2
theorem HB.below {W W' : World} {g : Nat} {b : S83} {A2 : Option Addr} {n2 c2 : Nat} (h : HB W g b A2 n2 c2) (hb : Below W.heap.size W W') : HB W' g b A2 n2 c2 :=
  ⟨cell_keep h.c0 hb, cell_keep h.c1 hb, cell_keep h.c2 hb, Kd.C_below h.r hb⟩
theorem HB.rl {W : World} {g : Nat} {b : S83} {A2 : Option Addr} {n2 c2 : Nat} (h : HB W g b A2 n2 c2) (hn : b.f2.length = n2) : Kd.C k39 W A2 b.f2.length b.f2 := hn ▸ h.r
theorem recv_lit {c : S61} {b : S83} {now : Int} {x : S61} {r : Int} (h : recvF c b now = (x, r)) {A0 : Option Addr} {n0 c0 : Nat} {A3 : Option Addr} {n3 c3 : Nat} {A2 : Option Addr} {n2 c2 : Nat} (w : World) (hn0 : c.f0.length = n0) (hn3 : c.f3.length = n3) (hn2 : b.f2.length = n2)
    (hr : Kd.C kL w A0 n0 c.f0) (hr3 : Kd.C k39 w A3 n3 c.f3) (hl : n3 ≤ 1000000) (hr2 : Kd.C k39 w A2 n2 b.f2) :
    Calls Try.prog 46 #[.agg #[.slice A0 n0 c0, .int .i64 c.f1, .int .i64 c.f2, .slice A3 n3 c3, .bool c.f4, .int .i64 c.f5], .agg #[.int .i64 b.f0, .bool b.f1, .slice A2 n2 c2], .int .i64 now] w (Off2 x r w) := by
  subst hn0; subst hn3; subst hn2
  have hc := recv_calls A0 c0 A3 c3 c A2 c2 b now w hr hr3 hl hr2
  rw [h] at hc
  exact hc
set_option maxHeartbeats 16000000 in
set_option maxRecDepth 100000 in
theorem sane30_calls (w : World) : Calls Try.prog 33 #[] w fun e w' => e = .returned (.bool true) ∧ Below w.heap.size w w' := by
  go_enter Try.func33, Try.ntmps33
  go_wp2_with fail
  refine (new_calls w).mono ?_
  rintro e w1 ⟨rfl, hb⟩
  have B := Lib.hid hb
  clear hb
  go_wp2_with fail
  have hR := C1R w1 rec9
  refine (offer_calls none 0 none 0 e0 _ 1 [rec9] _ (Kd.C_nil _ _) (Kd.C_nil _ _) (Nat.zero_le _) hR).mono ?_
  rw [sn1]
  rintro e w2 ⟨v, rfl, hE, hb⟩
  obtain ⟨A1, c1, A2, c2, rfl, hO1, hI1⟩ := hE.out (n := 1) (m := 0) rfl rfl
  replace B := Lib.hid (bb B.out (bb (below_one _ _) hb))
  have O1 := Lib.hid hO1; have I1 := Lib.hid hI1
  clear hR hb hE hO1 hI1
  go_wp2_with fail
  obtain ⟨w2a, hwa⟩ : ∃ w2a, w2a = w2.alloc (.cells #[.slice A1 1 c1, .int .i64 (0), .int .i64 (0), .slice A2 0 c2, .bool false, .int .i64 (-1)] 61) := ⟨_, rfl⟩
  rw [← hwa]
  have hb : Below w2.heap.size w2 w2a := by rw [hwa]; exact below_one _ _
  obtain ⟨t1, ht1⟩ : ∃ t1, t1 = w2.heap.size := ⟨_, rfl⟩
  have H1 := Lib.hid (show HE w2a t1 A1 1 c1 A2 0 c2 ⟨[[rec9]], 0, 0, [], false, -1⟩ from ⟨by rw [hwa, ht1]; exact EBlk.new _ _ _ _ _ _ _ _, Kd.C_below O1.out hb, Kd.C_below I1.out hb⟩)
  rw [← ht1]
  replace B := Lib.hid (bb B.out hb)
  clear hb hwa ht1 O1 I1
  have h10 := H1.out.blk.c0; have h11 := H1.out.blk.c1; have h12 := H1.out.blk.c2; have h13 := H1.out.blk.c3; have h14 := H1.out.blk.c4; have h15 := H1.out.blk.c5
  refine (poll_calls A1 c1 A2 c2 ⟨[[rec9]], 0, 0, [], false, -1⟩ 5 _ H1.out.o H1.out.i (by decide)).mono ?_
  rw [sn2]
  rintro e w3 ⟨v, vl, rfl, hE, hL, hb⟩
  replace H1 := Lib.hid (H1.out.below hb)
  replace B := Lib.hid (bb B.out hb)
  obtain ⟨A3, c3, D3, d3, rfl, hO1, hI1⟩ := hE.out (n := 1) (m := 0) rfl rfl
  have O1 := Lib.hid hO1; have I1 := Lib.hid hI1
  obtain ⟨g3, k3, rfl, _, _, _⟩ := Kd.R_form hL (by decide)
  obtain ⟨AB3, cB3, hc0, hc1, hc2, hr2⟩ := B_cell83 hL (by decide)
  have S3 := Lib.hid (show HB w3 g3 ⟨0, false, [rec9]⟩ AB3 1 cB3 from ⟨hc0, hc1, hc2, hr2⟩)
  clear hc0 hc1 hc2 hr2
  clear hb hE hL hO1 hI1
  simp only [List.length_cons, List.length_nil, Nat.zero_add]
  clear h10 h11 h12 h13 h14 h15
  go_wp2_with fail
  obtain ⟨w3a, hwa⟩ : ∃ w3a, w3a = w3.alloc (.cells #[.slice A3 1 c3, .int .i64 (0), .int .i64 (0), .slice D3 0 d3, .bool false, .int .i64 (8)] 61) := ⟨_, rfl⟩
  rw [← hwa]
  have hb : Below w3.heap.size w3 w3a := by rw [hwa]; exact below_one _ _
  obtain ⟨t3, ht3⟩ : ∃ t3, t3 = w3.heap.size := ⟨_, rfl⟩
  have H3 := Lib.hid (show HE w3a t3 A3 1 c3 D3 0 d3 ⟨[[rec9]], 0, 0, [], false, 8⟩ from ⟨by rw [hwa, ht3]; exact EBlk.new _ _ _ _ _ _ _ _, Kd.C_below O1.out hb, Kd.C_below I1.out hb⟩)
  rw [← ht3]
  replace H1 := Lib.hid (H1.out.below hb)
  replace S3 := Lib.hid (S3.out.below hb)
  replace B := Lib.hid (bb B.out hb)
  clear hb hwa ht3 O1 I1
  refine (poll_calls A3 c3 D3 d3 ⟨[[rec9]], 0, 0, [], false, 8⟩ 6 _ H3.out.o H3.out.i (by decide)).mono ?_
  rw [sn3]
  rintro e w4 ⟨v, vl, rfl, hE, hL, hb⟩
  replace H1 := Lib.hid (H1.out.below hb)
  replace H3 := Lib.hid (H3.out.below hb)
  replace S3 := Lib.hid (S3.out.below hb)
  replace B := Lib.hid (bb B.out hb)
  obtain ⟨A4, c4, D4, d4, rfl, hO1, hI1⟩ := hE.out (n := 1) (m := 0) rfl rfl
  have O1 := Lib.hid hO1; have I1 := Lib.hid hI1
  obtain ⟨AN, cN, rfl⟩ := Kd.R_slice hL
  clear hb hE hL hO1 hI1
  simp only [List.length_nil]
  go_wp2_with fail
  obtain ⟨w4a, hwa⟩ : ∃ w4a, w4a = w4.alloc (.cells #[.slice A4 1 c4, .int .i64 (0), .int .i64 (0), .slice D4 0 d4, .bool false, .int .i64 (8)] 61) := ⟨_, rfl⟩
  rw [← hwa]
  have hb : Below w4.heap.size w4 w4a := by rw [hwa]; exact below_one _ _
  obtain ⟨t4, ht4⟩ : ∃ t4, t4 = w4.heap.size := ⟨_, rfl⟩
  have H4 := Lib.hid (show HE w4a t4 A4 1 c4 D4 0 d4 ⟨[[rec9]], 0, 0, [], false, 8⟩ from ⟨by rw [hwa, ht4]; exact EBlk.new _ _ _ _ _ _ _ _, Kd.C_below O1.out hb, Kd.C_below I1.out hb⟩)
  rw [← ht4]
  replace H1 := Lib.hid (H1.out.below hb)
  replace H3 := Lib.hid (H3.out.below hb)
  replace S3 := Lib.hid (S3.out.below hb)
  replace B := Lib.hid (bb B.out hb)
  clear hb hwa ht4 O1 I1
  replace H1 := Lib.hid (H1.out.below (below_drew (Below.refl _ _)))
  replace H3 := Lib.hid (H3.out.below (below_drew (Below.refl _ _)))
  replace H4 := Lib.hid (H4.out.below (below_drew (Below.refl _ _)))
  replace S3 := Lib.hid (S3.out.below (below_drew (Below.refl _ _)))
  replace B := Lib.hid (bb B.out (below_drew (Below.refl _ _)))
  refine start_ (n := 11) (S := fun w' => w'.cell? ⟨g3, 0, none⟩ = some (.int .i64 (0)) ∧ w'.cell? ⟨g3, 1, none⟩ = some (.bool false) ∧ w'.cell? ⟨g3, 2, none⟩ = some (.slice AB3 1 cB3)) (ds := [9]) #[false, false, false, false, false, false, false, false, false, false, false] (by kernel_rfl) rfl rfl ⟨(S3.out.below (Below.refl _ _)).c0, (S3.out.below (Below.refl _ _)).c1, (S3.out.below (Below.refl _ _)).c2⟩ (fun hHeld => ?_)
  generalize w4a.drew = wd9 at H1 H3 H4 S3 B hHeld ⊢
  refine pure_ (i := 1) (N := some 64) (v := ?_) (a' := ?_) #[false, true, false, false, false, false, false, false, false, false, false] rfl rfl (by kernel_rfl) (fun _ _ _ h => h) (Or.inl ⟨by rfl, ?_⟩) ?_ ?_
  rotate_left
  · intro w'
    go_simp
    with_reducible rfl
  rotate_left
  · simp only [Act.put, List.setIfInBounds_toArray, List.set_cons_zero, List.set_cons_succ, i64_w, i32_w]
    rfl
  refine pure_ (i := 2) (N := some 65) (v := ?_) (a' := ?_) #[false, true, true, false, false, false, false, false, false, false, false] rfl rfl (by kernel_rfl) (fun _ _ _ h => h) (Or.inl ⟨by rfl, ?_⟩) ?_ ?_
  rotate_left
  · intro w'
    go_simp
    with_reducible rfl
  rotate_left
  · simp only [Act.put, List.setIfInBounds_toArray, List.set_cons_zero, List.set_cons_succ, i64_w, i32_w]
    rfl
  refine take_ (i := 3) (N := some 66) (v := ?_) (a' := ?_) #[false, true, true, true, false, false, false, false, false, false, false] rfl rfl (by kernel_rfl) (fun _ _ _ h => h) (Or.inl ⟨by rfl, ?_⟩) hHeld ?_ ?_
  rotate_left
  · rintro w' ⟨s0, s1, s2⟩
    go_simp
    with_reducible rfl
  rotate_left
  · simp only [Act.put, List.setIfInBounds_toArray, List.set_cons_zero, List.set_cons_succ, i64_w, i32_w]
    rfl
  refine join_ (σ := Nat × Option Addr × Nat × Option Addr × Nat) 2 #[true, true, true, true, true, true, true, true, true, false, false] (fun s => [(63, .agg #[.slice none 0 0, .int .i64 0, .int .i64 0, .slice none 0 0, .bool false, .int .i64 (-1)]), (67, .tuple #[.agg #[.slice (s.2.1) 0 (s.2.2.1), .int .i64 (0), .int .i64 (1), .slice (s.2.2.2.1) 1 (s.2.2.2.2), .bool true, .int .i64 (-1)], .int .i64 0]), (9, .pointer (some ⟨s.1, 0, none⟩)), (62, .tuple #[.agg #[.slice (s.2.1) 0 (s.2.2.1), .int .i64 (0), .int .i64 (1), .slice (s.2.2.2.1) 1 (s.2.2.2.2), .bool true, .int .i64 (-1)], .int .i64 0]), (68, .agg #[.slice (s.2.1) 0 (s.2.2.1), .int .i64 (0), .int .i64 (1), .slice (s.2.2.2.1) 1 (s.2.2.2.2), .bool true, .int .i64 (-1)]), (69, .int .i64 0)]) (fun s w' => Below wd9.heap.size wd9 w' ∧ wd9.heap.size ≤ s.1 ∧ EBlk w' s.1 61 (.slice none 0 0) 0 0 (.slice none 0 0) false 0 ∧ Kd.V kL 28 w' 0 (fun k => k ≠ s.1) (.slice s.2.1 0 s.2.2.1) [] ∧ Kd.V k39 39 w' 0 (fun k => k ≠ s.1) (.slice s.2.2.2.1 1 s.2.2.2.2) [rec9]) ?_ ?_
  rotate_left
  · intro hCont
    refine two_ (i := 0) (j := 8) (Ni := some 63) (Nj := some 9) #[true, true, true, true, false, false, false, false, false, false, false] #[false, true, true, true, false, false, false, false, true, false, false] rfl rfl rfl rfl (by kernel_rfl) (by decide) (by decide) (fun K hK => ?_) (fun K hK => ?_)
    · skip
      refine goes_ Try.func69 (by kernel_rfl) rfl #[] (by rfl) rfl rfl (by simp only [List.map_toArray, List.map_cons, List.map_nil]) ?_
      with_reducible refine (new_calls wd9).mono ?_
      rintro e wx1 ⟨rfl, hb⟩
      refine ⟨_, rfl, ?_⟩
      have hB1 : Below wd9.heap.size wd9 wx1 := hb
      clear hb
      refine hK.out _ _ ⟨(S3.out.below hB1).c0, (S3.out.below hB1).c1, (S3.out.below hB1).c2⟩ (fun hHeld => ?_)
      clear hK K
      refine norm_ (a' := ?_) ?_ ?_
      rotate_left
      · show Act.put _ (some 63) _ = _
        simp only [Act.put, List.setIfInBounds_toArray, List.set_cons_zero, List.set_cons_succ, i64_w, i32_w]
        rfl
      refine two_ (i := 4) (j := 8) (Ni := some 67) (Nj := some 9) #[true, true, true, true, true, false, false, false, false, false, false] #[true, true, true, true, false, false, false, false, true, false, false] rfl rfl rfl rfl (by kernel_rfl) (by decide) (by decide) (fun K hK => ?_) (fun K hK => ?_)
      · skip
        refine goes_ Try.func46 (by kernel_rfl) rfl #[.agg #[.slice none 0 0, .int .i64 0, .int .i64 0, .slice none 0 0, .bool false, .int .i64 (-1)], .agg #[.int .i64 (0), .bool false, .slice AB3 1 cB3], .int .i64 6] (by rfl) rfl rfl (by simp only [List.map_toArray, List.map_cons, List.map_nil]; rfl) ?_
        with_reducible refine ((show Calls Try.prog 46 #[.agg #[.slice none 0 0, .int .i64 0, .int .i64 0, .slice none 0 0, .bool false, .int .i64 (-1)], .agg #[.int .i64 (0), .bool false, .slice AB3 1 cB3], .int .i64 6] wx1 (Off2 ⟨[], 0, 1, [rec9], true, -1⟩ 0 _) from recv_lit (c := ⟨[], 0, 0, [], false, -1⟩) (b := ⟨0, false, [rec9]⟩) sn4 wx1 rfl rfl rfl (Kd.C_nil _ _) (Kd.C_nil _ _) (Nat.zero_le _) (S3.out.below hB1).r)).mono ?_
        rintro e wx2 ⟨v, rfl, ⟨vo, vi, rfl, hO, hI⟩, hb⟩
        refine ⟨_, rfl, ?_⟩
        obtain ⟨A9, c9, rfl⟩ := Kd.V_slice hO
        obtain ⟨D9, d9, rfl⟩ := Kd.V_slice hI
        replace hO : Kd.V kL 28 wx2 0 (fun k => wx1.heap.size ≤ k) (.slice A9 0 c9) [] := hO
        replace hI : Kd.V k39 39 wx2 0 (fun k => wx1.heap.size ≤ k) (.slice D9 1 d9) [rec9] := hI
        have hB2 : Below wd9.heap.size wd9 wx2 := bb hB1 hb
        clear hb
        refine hK.out _ _ ⟨(S3.out.below hB2).c0, (S3.out.below hB2).c1, (S3.out.below hB2).c2⟩ (fun hHeld => ?_)
        clear hK K
        refine norm_ (a' := ?_) ?_ ?_
        rotate_left
        · show Act.put _ (some 67) _ = _
          simp only [Act.put, List.setIfInBounds_toArray, List.set_cons_zero, List.set_cons_succ, i64_w, i32_w]
          rfl
        refine pure_ (i := 5) (N := some 62) (v := ?_) (a' := ?_) #[true, true, true, true, true, true, false, false, false, false, false] rfl rfl (by kernel_rfl) (fun _ _ _ h => h) (Or.inl ⟨by rfl, ?_⟩) ?_ ?_
        rotate_left
        · intro w'
          go_simp
          with_reducible rfl
        rotate_left
        · simp only [Act.put, List.setIfInBounds_toArray, List.set_cons_zero, List.set_cons_succ, i64_w, i32_w]
          rfl
        refine pure_ (i := 6) (N := some 68) (v := ?_) (a' := ?_) #[true, true, true, true, true, true, true, false, false, false, false] rfl rfl (by kernel_rfl) (fun _ _ _ h => h) (Or.inl ⟨by rfl, ?_⟩) ?_ ?_
        rotate_left
        · intro w'
          go_simp
          with_reducible rfl
        rotate_left
        · simp only [Act.put, List.setIfInBounds_toArray, List.set_cons_zero, List.set_cons_succ, i64_w, i32_w]
          rfl
        refine pure_ (i := 7) (N := some 69) (v := ?_) (a' := ?_) #[true, true, true, true, true, true, true, true, false, false, false] rfl rfl (by kernel_rfl) (fun _ _ _ h => h) (Or.inl ⟨by rfl, ?_⟩) ?_ ?_
        rotate_left
        · intro w'
          go_simp
          with_reducible rfl
        rotate_left
        · simp only [Act.put, List.setIfInBounds_toArray, List.set_cons_zero, List.set_cons_succ, i64_w, i32_w]
          rfl
        refine one_ (i := 8) (N := some 9) #[true, true, true, true, true, true, true, true, true, false, false] rfl rfl (by kernel_rfl) (by decide) (fun K hK => ?_)
        refine value_ (w1 := ?_) (v := ?_) (by rfl) rfl ?_ ?_
        rotate_left 2
        · go_simp
          constructor
          all_goals rfl
        have hB3 : Below wd9.heap.size wd9 (wx2.alloc (.cells #[.slice none 0 0, .int .i64 0, .int .i64 0, .slice none 0 0, .bool false, .int .i64 0] 61)) := al hB2 _
        have hZ := EBlk.new wx2 61 (.slice none 0 0) (.slice none 0 0) 0 0 0 false
        have htle : wd9.heap.size ≤ wx2.heap.size := hB2.size
        replace hO := Kd.V_mono (Kd.V_alloc (Kd.V_bound hO) (.cells #[.slice none 0 0, .int .i64 0, .int .i64 0, .slice none 0 0, .bool false, .int .i64 0] 61)) (fun k hk => show k ≠ wx2.heap.size by have := hk.2; omega)
        replace hI := Kd.V_mono (Kd.V_alloc (Kd.V_bound hI) (.cells #[.slice none 0 0, .int .i64 0, .int .i64 0, .slice none 0 0, .bool false, .int .i64 0] 61)) (fun k hk => show k ≠ wx2.heap.size by have := hk.2; omega)
        generalize wx2.alloc (.cells #[.slice none 0 0, .int .i64 0, .int .i64 0, .slice none 0 0, .bool false, .int .i64 0] 61) = wx3 at hB3 hZ hO hI ⊢
        refine hK.out _ _ ⟨(S3.out.below hB3).c0, (S3.out.below hB3).c1, (S3.out.below hB3).c2⟩ (fun hHeld => ?_)
        clear hK K
        refine norm_ (a' := ?_) ?_ ?_
        rotate_left
        · show Act.put _ (some 9) _ = _
          simp only [Act.put, List.setIfInBounds_toArray, List.set_cons_zero, List.set_cons_succ, i64_w, i32_w]
          rfl
        exact norm_ (by simp only [putAll, Act.put, List.setIfInBounds_toArray, List.set_cons_zero, List.set_cons_succ] <;> rfl) (hCont (wx2.heap.size, A9, c9, D9, d9) _ ⟨hB3, htle, hZ, hO, hI⟩)
      · skip
        refine value_ (w1 := ?_) (v := ?_) (by rfl) rfl ?_ ?_
        rotate_left 2
        · go_simp
          constructor
          all_goals rfl
        have hB2 : Below wd9.heap.size wd9 (wx1.alloc (.cells #[.slice none 0 0, .int .i64 0, .int .i64 0, .slice none 0 0, .bool false, .int .i64 0] 61)) := al hB1 _
        have hZ := EBlk.new wx1 61 (.slice none 0 0) (.slice none 0 0) 0 0 0 false
        have htle : wd9.heap.size ≤ wx1.heap.size := hB1.size
        generalize wx1.alloc (.cells #[.slice none 0 0, .int .i64 0, .int .i64 0, .slice none 0 0, .bool false, .int .i64 0] 61) = wx2 at hB2 hZ ⊢
        refine hK.out _ _ ⟨(S3.out.below hB2).c0, (S3.out.below hB2).c1, (S3.out.below hB2).c2⟩ (fun hHeld => ?_)
        clear hK K
        refine norm_ (a' := ?_) ?_ ?_
        rotate_left
        · show Act.put _ (some 9) _ = _
          simp only [Act.put, List.setIfInBounds_toArray, List.set_cons_zero, List.set_cons_succ, i64_w, i32_w]
          rfl
        refine one_ (i := 4) (N := some 67) #[true, true, true, true, true, false, false, false, true, false, false] rfl rfl (by kernel_rfl) (by decide) (fun K hK => ?_)
        refine goes_ Try.func46 (by kernel_rfl) rfl #[.agg #[.slice none 0 0, .int .i64 0, .int .i64 0, .slice none 0 0, .bool false, .int .i64 (-1)], .agg #[.int .i64 (0), .bool false, .slice AB3 1 cB3], .int .i64 6] (by rfl) rfl rfl (by simp only [List.map_toArray, List.map_cons, List.map_nil]; rfl) ?_
        with_reducible refine ((show Calls Try.prog 46 #[.agg #[.slice none 0 0, .int .i64 0, .int .i64 0, .slice none 0 0, .bool false, .int .i64 (-1)], .agg #[.int .i64 (0), .bool false, .slice AB3 1 cB3], .int .i64 6] wx2 (Off2 ⟨[], 0, 1, [rec9], true, -1⟩ 0 _) from recv_lit (c := ⟨[], 0, 0, [], false, -1⟩) (b := ⟨0, false, [rec9]⟩) sn4 wx2 rfl rfl rfl (Kd.C_nil _ _) (Kd.C_nil _ _) (Nat.zero_le _) (S3.out.below hB2).r)).mono ?_
        rintro e wx3 ⟨v, rfl, ⟨vo, vi, rfl, hO, hI⟩, hb⟩
        refine ⟨_, rfl, ?_⟩
        obtain ⟨A9, c9, rfl⟩ := Kd.V_slice hO
        obtain ⟨D9, d9, rfl⟩ := Kd.V_slice hI
        replace hO : Kd.V kL 28 wx3 0 (fun k => wx2.heap.size ≤ k) (.slice A9 0 c9) [] := hO
        replace hI : Kd.V k39 39 wx3 0 (fun k => wx2.heap.size ≤ k) (.slice D9 1 d9) [rec9] := hI
        replace hO := Kd.V_mono hO (ok' := fun k => k ≠ wx1.heap.size) (fun k hk => show k ≠ wx1.heap.size by have := heap_lt hZ; omega)
        replace hI := Kd.V_mono hI (ok' := fun k => k ≠ wx1.heap.size) (fun k hk => show k ≠ wx1.heap.size by have := heap_lt hZ; omega)
        replace hZ := hZ.below hb
        have hB3 : Below wd9.heap.size wd9 wx3 := bb hB2 hb
        clear hb
        refine hK.out _ _ ⟨(S3.out.below hB3).c0, (S3.out.below hB3).c1, (S3.out.below hB3).c2⟩ (fun hHeld => ?_)
        clear hK K
        refine norm_ (a' := ?_) ?_ ?_
        rotate_left
        · show Act.put _ (some 67) _ = _
          simp only [Act.put, List.setIfInBounds_toArray, List.set_cons_zero, List.set_cons_succ, i64_w, i32_w]
          rfl
        refine pure_ (i := 5) (N := some 62) (v := ?_) (a' := ?_) #[true, true, true, true, true, true, false, false, true, false, false] rfl rfl (by kernel_rfl) (fun _ _ _ h => h) (Or.inl ⟨by rfl, ?_⟩) ?_ ?_
        rotate_left
        · intro w'
          go_simp
          with_reducible rfl
        rotate_left
        · simp only [Act.put, List.setIfInBounds_toArray, List.set_cons_zero, List.set_cons_succ, i64_w, i32_w]
          rfl
        refine pure_ (i := 6) (N := some 68) (v := ?_) (a' := ?_) #[true, true, true, true, true, true, true, false, true, false, false] rfl rfl (by kernel_rfl) (fun _ _ _ h => h) (Or.inl ⟨by rfl, ?_⟩) ?_ ?_
        rotate_left
        · intro w'
          go_simp
          with_reducible rfl
        rotate_left
        · simp only [Act.put, List.setIfInBounds_toArray, List.set_cons_zero, List.set_cons_succ, i64_w, i32_w]
          rfl
        refine pure_ (i := 7) (N := some 69) (v := ?_) (a' := ?_) #[true, true, true, true, true, true, true, true, true, false, false] rfl rfl (by kernel_rfl) (fun _ _ _ h => h) (Or.inl ⟨by rfl, ?_⟩) ?_ ?_
        rotate_left
        · intro w'
          go_simp
          with_reducible rfl
        rotate_left
        · simp only [Act.put, List.setIfInBounds_toArray, List.set_cons_zero, List.set_cons_succ, i64_w, i32_w]
          rfl
        exact norm_ (by simp only [putAll, Act.put, List.setIfInBounds_toArray, List.set_cons_zero, List.set_cons_succ] <;> rfl) (hCont (wx1.heap.size, A9, c9, D9, d9) _ ⟨hB3, htle, hZ, hO, hI⟩)
    · skip
      refine value_ (w1 := ?_) (v := ?_) (by rfl) rfl ?_ ?_
      rotate_left 2
      · go_simp
        constructor
        all_goals rfl
      have hB1 : Below wd9.heap.size wd9 (wd9.alloc (.cells #[.slice none 0 0, .int .i64 0, .int .i64 0, .slice none 0 0, .bool false, .int .i64 0] 61)) := below_one _ _
      have hZ := EBlk.new wd9 61 (.slice none 0 0) (.slice none 0 0) 0 0 0 false
      have htle : wd9.heap.size ≤ wd9.heap.size := Nat.le_refl _
      generalize wd9.alloc (.cells #[.slice none 0 0, .int .i64 0, .int .i64 0, .slice none 0 0, .bool false, .int .i64 0] 61) = wx1 at hB1 hZ ⊢
      refine hK.out _ _ ⟨(S3.out.below hB1).c0, (S3.out.below hB1).c1, (S3.out.below hB1).c2⟩ (fun hHeld => ?_)
      clear hK K
      refine norm_ (a' := ?_) ?_ ?_
      rotate_left
      · show Act.put _ (some 9) _ = _
        simp only [Act.put, List.setIfInBounds_toArray, List.set_cons_zero, List.set_cons_succ, i64_w, i32_w]
        rfl
      refine one_ (i := 0) (N := some 63) #[true, true, true, true, false, false, false, false, true, false, false] rfl rfl (by kernel_rfl) (by decide) (fun K hK => ?_)
      refine goes_ Try.func69 (by kernel_rfl) rfl #[] (by rfl) rfl rfl (by simp only [List.map_toArray, List.map_cons, List.map_nil]) ?_
      with_reducible refine (new_calls wx1).mono ?_
      rintro e wx2 ⟨rfl, hb⟩
      refine ⟨_, rfl, ?_⟩
      have hB2 : Below wd9.heap.size wd9 wx2 := bb hB1 hb
      replace hZ := hZ.below hb
      clear hb
      refine hK.out _ _ ⟨(S3.out.below hB2).c0, (S3.out.below hB2).c1, (S3.out.below hB2).c2⟩ (fun hHeld => ?_)
      clear hK K
      refine norm_ (a' := ?_) ?_ ?_
      rotate_left
      · show Act.put _ (some 63) _ = _
        simp only [Act.put, List.setIfInBounds_toArray, List.set_cons_zero, List.set_cons_succ, i64_w, i32_w]
        rfl
      refine one_ (i := 4) (N := some 67) #[true, true, true, true, true, false, false, false, true, false, false] rfl rfl (by kernel_rfl) (by decide) (fun K hK => ?_)
      refine goes_ Try.func46 (by kernel_rfl) rfl #[.agg #[.slice none 0 0, .int .i64 0, .int .i64 0, .slice none 0 0, .bool false, .int .i64 (-1)], .agg #[.int .i64 (0), .bool false, .slice AB3 1 cB3], .int .i64 6] (by rfl) rfl rfl (by simp only [List.map_toArray, List.map_cons, List.map_nil]; rfl) ?_
      with_reducible refine ((show Calls Try.prog 46 #[.agg #[.slice none 0 0, .int .i64 0, .int .i64 0, .slice none 0 0, .bool false, .int .i64 (-1)], .agg #[.int .i64 (0), .bool false, .slice AB3 1 cB3], .int .i64 6] wx2 (Off2 ⟨[], 0, 1, [rec9], true, -1⟩ 0 _) from recv_lit (c := ⟨[], 0, 0, [], false, -1⟩) (b := ⟨0, false, [rec9]⟩) sn4 wx2 rfl rfl rfl (Kd.C_nil _ _) (Kd.C_nil _ _) (Nat.zero_le _) (S3.out.below hB2).r)).mono ?_
      rintro e wx3 ⟨v, rfl, ⟨vo, vi, rfl, hO, hI⟩, hb⟩
      refine ⟨_, rfl, ?_⟩
      obtain ⟨A9, c9, rfl⟩ := Kd.V_slice hO
      obtain ⟨D9, d9, rfl⟩ := Kd.V_slice hI
      replace hO : Kd.V kL 28 wx3 0 (fun k => wx2.heap.size ≤ k) (.slice A9 0 c9) [] := hO
      replace hI : Kd.V k39 39 wx3 0 (fun k => wx2.heap.size ≤ k) (.slice D9 1 d9) [rec9] := hI
      replace hO := Kd.V_mono hO (ok' := fun k => k ≠ wd9.heap.size) (fun k hk => show k ≠ wd9.heap.size by have := heap_lt hZ; omega)
      replace hI := Kd.V_mono hI (ok' := fun k => k ≠ wd9.heap.size) (fun k hk => show k ≠ wd9.heap.size by have := heap_lt hZ; omega)
      replace hZ := hZ.below hb
      have hB3 : Below wd9.heap.size wd9 wx3 := bb hB2 hb
      clear hb
      refine hK.out _ _ ⟨(S3.out.below hB3).c0, (S3.out.below hB3).c1, (S3.out.below hB3).c2⟩ (fun hHeld => ?_)
      clear hK K
      refine norm_ (a' := ?_) ?_ ?_
      rotate_left
      · show Act.put _ (some 67) _ = _
        simp only [Act.put, List.setIfInBounds_toArray, List.set_cons_zero, List.set_cons_succ, i64_w, i32_w]
        rfl
      refine pure_ (i := 5) (N := some 62) (v := ?_) (a' := ?_) #[true, true, true, true, true, true, false, false, true, false, false] rfl rfl (by kernel_rfl) (fun _ _ _ h => h) (Or.inl ⟨by rfl, ?_⟩) ?_ ?_
      rotate_left
      · intro w'
        go_simp
        with_reducible rfl
      rotate_left
      · simp only [Act.put, List.setIfInBounds_toArray, List.set_cons_zero, List.set_cons_succ, i64_w, i32_w]
        rfl
      refine pure_ (i := 6) (N := some 68) (v := ?_) (a' := ?_) #[true, true, true, true, true, true, true, false, true, false, false] rfl rfl (by kernel_rfl) (fun _ _ _ h => h) (Or.inl ⟨by rfl, ?_⟩) ?_ ?_
      rotate_left
      · intro w'
        go_simp
        with_reducible rfl
      rotate_left
      · simp only [Act.put, List.setIfInBounds_toArray, List.set_cons_zero, List.set_cons_succ, i64_w, i32_w]
        rfl
      refine pure_ (i := 7) (N := some 69) (v := ?_) (a' := ?_) #[true, true, true, true, true, true, true, true, true, false, false] rfl rfl (by kernel_rfl) (fun _ _ _ h => h) (Or.inl ⟨by rfl, ?_⟩) ?_ ?_
      rotate_left
      · intro w'
        go_simp
        with_reducible rfl
      rotate_left
      · simp only [Act.put, List.setIfInBounds_toArray, List.set_cons_zero, List.set_cons_succ, i64_w, i32_w]
        rfl
      exact norm_ (by simp only [putAll, Act.put, List.setIfInBounds_toArray, List.set_cons_zero, List.set_cons_succ] <;> rfl) (hCont (wd9.heap.size, A9, c9, D9, d9) _ ⟨hB3, htle, hZ, hO, hI⟩)
  rintro ⟨t9, A9, c9, D9, d9⟩ w9 ⟨hB, htle, hZ, hO, hI⟩
  have hHeld : w9.cell? ⟨g3, 0, none⟩ = some (.int .i64 (0)) ∧ w9.cell? ⟨g3, 1, none⟩ = some (.bool false) ∧ w9.cell? ⟨g3, 2, none⟩ = some (.slice AB3 1 cB3) := ⟨(S3.out.below hB).c0, (S3.out.below hB).c1, (S3.out.below hB).c2⟩
  refine norm_ (a' := ?_) ?_ ?_
  rotate_left
  · simp only [putAll, Act.put, List.setIfInBounds_toArray, List.set_cons_zero, List.set_cons_succ]
    rfl
  refine last_ (i := 9) (N := none) #[true, true, true, true, true, true, true, true, true, true, false] rfl rfl (by kernel_rfl) (by decide) (fun K hK => ?_)
  have z0 := hZ.c0; have z1 := hZ.c1; have z2 := hZ.c2; have z3 := hZ.c3; have z4 := hZ.c4; have z5 := hZ.c5; have y := blk_frozen hZ
  refine skip_ (w1 := ?_) (by rfl) rfl ?_ ?_
  rotate_left
  · go_simp
    rfl
  obtain ⟨w99, hw9, Z9, F9⟩ := six hZ (.slice A9 0 c9) (0) (1) (.slice D9 1 d9) true (-1)
  rw [← hw9]
  clear hw9 z0 z1 z2 z3 z4 z5 y
  refine hK.out _ _ ?_
  clear hK K
  refine pure_ (i := 10) (N := some 10) (v := ?_) (a' := ?_) #[true, true, true, true, true, true, true, true, true, true, true] rfl rfl (by kernel_rfl) (fun _ _ _ h => h) (Or.inl ⟨by rfl, ?_⟩) ?_ ?_
  rotate_left
  · intro w'
    go_simp
    with_reducible rfl
  rotate_left
  · simp only [Act.put, List.setIfInBounds_toArray, List.set_cons_zero, List.set_cons_succ, i64_w, i32_w]
    rfl
  refine done_ (by kernel_rfl) ?_

  have hB9 : Below wd9.heap.size wd9 w99 := Fr.below F9 hB (Nat.le_refl _) (fun k hk => by omega)
  have H9 := Lib.hid (show HE w99 t9 A9 0 c9 D9 1 d9 ⟨[], 0, 1, [rec9], true, -1⟩ from ⟨Z9, (Kd.V_reads' (Kd.V_step hO (fun k hk hlt => F9.same k hlt hk))).2.2, (Kd.V_reads' (Kd.V_step hI (fun k hk hlt => F9.same k hlt hk))).2.2⟩)
  replace H1 := Lib.hid (H1.out.below hB9)
  replace H3 := Lib.hid (H3.out.below hB9)
  replace H4 := Lib.hid (H4.out.below hB9)
  replace S3 := Lib.hid (S3.out.below hB9)
  replace B := Lib.hid (bb B.out hB9)
  clear hB9 hB htle hZ hO hI Z9 F9 hHeld
  go_wp2_with fail
  replace H1 := Lib.hid (H1.out.below (below_drew (Below.refl _ _)))
  replace H3 := Lib.hid (H3.out.below (below_drew (Below.refl _ _)))
  replace H4 := Lib.hid (H4.out.below (below_drew (Below.refl _ _)))
  replace H9 := Lib.hid (H9.out.below (below_drew (Below.refl _ _)))
  replace S3 := Lib.hid (S3.out.below (below_drew (Below.refl _ _)))
  replace B := Lib.hid (bb B.out (below_drew (Below.refl _ _)))
  refine start_ (n := 11) (S := fun w' => w'.cell? ⟨t9, 0, none⟩ = some (.slice A9 0 c9) ∧ w'.cell? ⟨t9, 1, none⟩ = some (.int .i64 (0)) ∧ w'.cell? ⟨t9, 2, none⟩ = some (.int .i64 (1)) ∧ w'.cell? ⟨t9, 3, none⟩ = some (.slice D9 1 d9) ∧ w'.cell? ⟨t9, 4, none⟩ = some (.bool true) ∧ w'.cell? ⟨t9, 5, none⟩ = some (.int .i64 (-1)) ∧ w'.cell? ⟨g3, 0, none⟩ = some (.int .i64 (0)) ∧ w'.cell? ⟨g3, 1, none⟩ = some (.bool false) ∧ w'.cell? ⟨g3, 2, none⟩ = some (.slice AB3 1 cB3)) (ds := [9]) #[false, false, false, false, false, false, false, false, false, false, false] (by kernel_rfl) rfl rfl ⟨(H9.out.below (Below.refl _ _)).blk.c0, (H9.out.below (Below.refl _ _)).blk.c1, (H9.out.below (Below.refl _ _)).blk.c2, (H9.out.below (Below.refl _ _)).blk.c3, (H9.out.below (Below.refl _ _)).blk.c4, (H9.out.below (Below.refl _ _)).blk.c5, (S3.out.below (Below.refl _ _)).c0, (S3.out.below (Below.refl _ _)).c1, (S3.out.below (Below.refl _ _)).c2⟩ (fun hHeld => ?_)
  generalize w99.drew = wd11 at H1 H3 H4 H9 S3 B hHeld ⊢
  refine pure_ (i := 1) (N := some 72) (v := ?_) (a' := ?_) #[false, true, false, false, false, false, false, false, false, false, false] rfl rfl (by kernel_rfl) (fun _ _ _ h => h) (Or.inl ⟨by rfl, ?_⟩) ?_ ?_
  rotate_left
  · intro w'
    go_simp
    with_reducible rfl
  rotate_left
  · simp only [Act.put, List.setIfInBounds_toArray, List.set_cons_zero, List.set_cons_succ, i64_w, i32_w]
    rfl
  refine pure_ (i := 2) (N := some 73) (v := ?_) (a' := ?_) #[false, true, true, false, false, false, false, false, false, false, false] rfl rfl (by kernel_rfl) (fun _ _ _ h => h) (Or.inl ⟨by rfl, ?_⟩) ?_ ?_
  rotate_left
  · intro w'
    go_simp
    with_reducible rfl
  rotate_left
  · simp only [Act.put, List.setIfInBounds_toArray, List.set_cons_zero, List.set_cons_succ, i64_w, i32_w]
    rfl
  refine take_ (i := 0) (N := some 71) (v := ?_) (a' := ?_) #[true, true, true, false, false, false, false, false, false, false, false] rfl rfl (by kernel_rfl) (fun _ _ _ h => h) (Or.inl ⟨by rfl, ?_⟩) hHeld ?_ ?_
  rotate_left
  · rintro w' ⟨s0, s1, s2, s3, s4, s5, s6, s7, s8⟩
    go_simp
    with_reducible rfl
  rotate_left
  · simp only [Act.put, List.setIfInBounds_toArray, List.set_cons_zero, List.set_cons_succ, i64_w, i32_w]
    rfl
  refine take_ (i := 3) (N := some 74) (v := ?_) (a' := ?_) #[true, true, true, true, false, false, false, false, false, false, false] rfl rfl (by kernel_rfl) (fun _ _ _ h => h) (Or.inl ⟨by rfl, ?_⟩) hHeld ?_ ?_
  rotate_left
  · rintro w' ⟨s0, s1, s2, s3, s4, s5, s6, s7, s8⟩
    go_simp
    with_reducible rfl
  rotate_left
  · simp only [Act.put, List.setIfInBounds_toArray, List.set_cons_zero, List.set_cons_succ, i64_w, i32_w]
    rfl
  refine join_ (σ := Nat × Option Addr × Nat × Option Addr × Nat) 2 #[true, true, true, true, true, true, true, true, true, false, false] (fun s => [(75, .tuple #[.agg #[.slice (s.2.1) 0 (s.2.2.1), .int .i64 (0), .int .i64 (1), .slice (s.2.2.2.1) 1 (s.2.2.2.2), .bool true, .int .i64 (-1)], .int .i64 0]), (11, .pointer (some ⟨s.1, 0, none⟩)), (70, .tuple #[.agg #[.slice (s.2.1) 0 (s.2.2.1), .int .i64 (0), .int .i64 (1), .slice (s.2.2.2.1) 1 (s.2.2.2.2), .bool true, .int .i64 (-1)], .int .i64 0]), (76, .agg #[.slice (s.2.1) 0 (s.2.2.1), .int .i64 (0), .int .i64 (1), .slice (s.2.2.2.1) 1 (s.2.2.2.2), .bool true, .int .i64 (-1)]), (77, .int .i64 0)]) (fun s w' => Below wd11.heap.size wd11 w' ∧ wd11.heap.size ≤ s.1 ∧ EBlk w' s.1 61 (.slice none 0 0) 0 0 (.slice none 0 0) false 0 ∧ Kd.V kL 28 w' 0 (fun k => k ≠ s.1) (.slice s.2.1 0 s.2.2.1) [] ∧ Kd.V k39 39 w' 0 (fun k => k ≠ s.1) (.slice s.2.2.2.1 1 s.2.2.2.2) [rec9]) ?_ ?_
  rotate_left
  · intro hCont
    refine two_ (i := 4) (j := 8) (Ni := some 75) (Nj := some 11) #[true, true, true, true, true, false, false, false, false, false, false] #[true, true, true, true, false, false, false, false, true, false, false] rfl rfl rfl rfl (by kernel_rfl) (by decide) (by decide) (fun K hK => ?_) (fun K hK => ?_)
    · skip
      refine goes_ Try.func46 (by kernel_rfl) rfl #[.agg #[.slice A9 0 c9, .int .i64 (0), .int .i64 (1), .slice D9 1 d9, .bool true, .int .i64 (-1)], .agg #[.int .i64 (0), .bool false, .slice AB3 1 cB3], .int .i64 6] (by rfl) rfl rfl (by simp only [List.map_toArray, List.map_cons, List.map_nil]; rfl) ?_
      with_reducible refine ((show Calls Try.prog 46 #[.agg #[.slice A9 0 c9, .int .i64 (0), .int .i64 (1), .slice D9 1 d9, .bool true, .int .i64 (-1)], .agg #[.int .i64 (0), .bool false, .slice AB3 1 cB3], .int .i64 6] wd11 (Off2 ⟨[], 0, 1, [rec9], true, -1⟩ 0 _) from recv_lit (c := ⟨[], 0, 1, [rec9], true, -1⟩) (b := ⟨0, false, [rec9]⟩) sn5 wd11 rfl rfl rfl (H9.out.below (Below.refl _ _)).o (H9.out.below (Below.refl _ _)).i (by decide) (S3.out.below (Below.refl _ _)).r)).mono ?_
      rintro e wx1 ⟨v, rfl, ⟨vo, vi, rfl, hO, hI⟩, hb⟩
      refine ⟨_, rfl, ?_⟩
      obtain ⟨A11, c11, rfl⟩ := Kd.V_slice hO
      obtain ⟨D11, d11, rfl⟩ := Kd.V_slice hI
      replace hO : Kd.V kL 28 wx1 0 (fun k => wd11.heap.size ≤ k) (.slice A11 0 c11) [] := hO
      replace hI : Kd.V k39 39 wx1 0 (fun k => wd11.heap.size ≤ k) (.slice D11 1 d11) [rec9] := hI
      have hB1 : Below wd11.heap.size wd11 wx1 := hb
      clear hb
      refine hK.out _ _ ⟨(H9.out.below hB1).blk.c0, (H9.out.below hB1).blk.c1, (H9.out.below hB1).blk.c2, (H9.out.below hB1).blk.c3, (H9.out.below hB1).blk.c4, (H9.out.below hB1).blk.c5, (S3.out.below hB1).c0, (S3.out.below hB1).c1, (S3.out.below hB1).c2⟩ (fun hHeld => ?_)
      clear hK K
      refine norm_ (a' := ?_) ?_ ?_
      rotate_left
      · show Act.put _ (some 75) _ = _
        simp only [Act.put, List.setIfInBounds_toArray, List.set_cons_zero, List.set_cons_succ, i64_w, i32_w]
        rfl
      refine pure_ (i := 5) (N := some 70) (v := ?_) (a' := ?_) #[true, true, true, true, true, true, false, false, false, false, false] rfl rfl (by kernel_rfl) (fun _ _ _ h => h) (Or.inl ⟨by rfl, ?_⟩) ?_ ?_
      rotate_left
      · intro w'
        go_simp
        with_reducible rfl
      rotate_left
      · simp only [Act.put, List.setIfInBounds_toArray, List.set_cons_zero, List.set_cons_succ, i64_w, i32_w]
        rfl
      refine pure_ (i := 6) (N := some 76) (v := ?_) (a' := ?_) #[true, true, true, true, true, true, true, false, false, false, false] rfl rfl (by kernel_rfl) (fun _ _ _ h => h) (Or.inl ⟨by rfl, ?_⟩) ?_ ?_
      rotate_left
      · intro w'
        go_simp
        with_reducible rfl
      rotate_left
      · simp only [Act.put, List.setIfInBounds_toArray, List.set_cons_zero, List.set_cons_succ, i64_w, i32_w]
        rfl
      refine pure_ (i := 7) (N := some 77) (v := ?_) (a' := ?_) #[true, true, true, true, true, true, true, true, false, false, false] rfl rfl (by kernel_rfl) (fun _ _ _ h => h) (Or.inl ⟨by rfl, ?_⟩) ?_ ?_
      rotate_left
      · intro w'
        go_simp
        with_reducible rfl
      rotate_left
      · simp only [Act.put, List.setIfInBounds_toArray, List.set_cons_zero, List.set_cons_succ, i64_w, i32_w]
        rfl
      refine one_ (i := 8) (N := some 11) #[true, true, true, true, true, true, true, true, true, false, false] rfl rfl (by kernel_rfl) (by decide) (fun K hK => ?_)
      refine value_ (w1 := ?_) (v := ?_) (by rfl) rfl ?_ ?_
      rotate_left 2
      · go_simp
        constructor
        all_goals rfl
      have hB2 : Below wd11.heap.size wd11 (wx1.alloc (.cells #[.slice none 0 0, .int .i64 0, .int .i64 0, .slice none 0 0, .bool false, .int .i64 0] 61)) := al hB1 _
      have hZ := EBlk.new wx1 61 (.slice none 0 0) (.slice none 0 0) 0 0 0 false
      have htle : wd11.heap.size ≤ wx1.heap.size := hB1.size
      replace hO := Kd.V_mono (Kd.V_alloc (Kd.V_bound hO) (.cells #[.slice none 0 0, .int .i64 0, .int .i64 0, .slice none 0 0, .bool false, .int .i64 0] 61)) (fun k hk => show k ≠ wx1.heap.size by have := hk.2; omega)
      replace hI := Kd.V_mono (Kd.V_alloc (Kd.V_bound hI) (.cells #[.slice none 0 0, .int .i64 0, .int .i64 0, .slice none 0 0, .bool false, .int .i64 0] 61)) (fun k hk => show k ≠ wx1.heap.size by have := hk.2; omega)
      generalize wx1.alloc (.cells #[.slice none 0 0, .int .i64 0, .int .i64 0, .slice none 0 0, .bool false, .int .i64 0] 61) = wx2 at hB2 hZ hO hI ⊢
      refine hK.out _ _ ⟨(H9.out.below hB2).blk.c0, (H9.out.below hB2).blk.c1, (H9.out.below hB2).blk.c2, (H9.out.below hB2).blk.c3, (H9.out.below hB2).blk.c4, (H9.out.below hB2).blk.c5, (S3.out.below hB2).c0, (S3.out.below hB2).c1, (S3.out.below hB2).c2⟩ (fun hHeld => ?_)
      clear hK K
      refine norm_ (a' := ?_) ?_ ?_
      rotate_left
      · show Act.put _ (some 11) _ = _
        simp only [Act.put, List.setIfInBounds_toArray, List.set_cons_zero, List.set_cons_succ, i64_w, i32_w]
        rfl
      exact norm_ (by simp only [putAll, Act.put, List.setIfInBounds_toArray, List.set_cons_zero, List.set_cons_succ] <;> rfl) (hCont (wx1.heap.size, A11, c11, D11, d11) _ ⟨hB2, htle, hZ, hO, hI⟩)
    · skip
      refine value_ (w1 := ?_) (v := ?_) (by rfl) rfl ?_ ?_
      rotate_left 2
      · go_simp
        constructor
        all_goals rfl
      have hB1 : Below wd11.heap.size wd11 (wd11.alloc (.cells #[.slice none 0 0, .int .i64 0, .int .i64 0, .slice none 0 0, .bool false, .int .i64 0] 61)) := below_one _ _
      have hZ := EBlk.new wd11 61 (.slice none 0 0) (.slice none 0 0) 0 0 0 false
      have htle : wd11.heap.size ≤ wd11.heap.size := Nat.le_refl _
      generalize wd11.alloc (.cells #[.slice none 0 0, .int .i64 0, .int .i64 0, .slice none 0 0, .bool false, .int .i64 0] 61) = wx1 at hB1 hZ ⊢
      refine hK.out _ _ ⟨(H9.out.below hB1).blk.c0, (H9.out.below hB1).blk.c1, (H9.out.below hB1).blk.c2, (H9.out.below hB1).blk.c3, (H9.out.below hB1).blk.c4, (H9.out.below hB1).blk.c5, (S3.out.below hB1).c0, (S3.out.below hB1).c1, (S3.out.below hB1).c2⟩ (fun hHeld => ?_)
      clear hK K
      refine norm_ (a' := ?_) ?_ ?_
      rotate_left
      · show Act.put _ (some 11) _ = _
        simp only [Act.put, List.setIfInBounds_toArray, List.set_cons_zero, List.set_cons_succ, i64_w, i32_w]
        rfl
      refine one_ (i := 4) (N := some 75) #[true, true, true, true, true, false, false, false, true, false, false] rfl rfl (by kernel_rfl) (by decide) (fun K hK => ?_)
      refine goes_ Try.func46 (by kernel_rfl) rfl #[.agg #[.slice A9 0 c9, .int .i64 (0), .int .i64 (1), .slice D9 1 d9, .bool true, .int .i64 (-1)], .agg #[.int .i64 (0), .bool false, .slice AB3 1 cB3], .int .i64 6] (by rfl) rfl rfl (by simp only [List.map_toArray, List.map_cons, List.map_nil]; rfl) ?_
      with_reducible refine ((show Calls Try.prog 46 #[.agg #[.slice A9 0 c9, .int .i64 (0), .int .i64 (1), .slice D9 1 d9, .bool true, .int .i64 (-1)], .agg #[.int .i64 (0), .bool false, .slice AB3 1 cB3], .int .i64 6] wx1 (Off2 ⟨[], 0, 1, [rec9], true, -1⟩ 0 _) from recv_lit (c := ⟨[], 0, 1, [rec9], true, -1⟩) (b := ⟨0, false, [rec9]⟩) sn5 wx1 rfl rfl rfl (H9.out.below hB1).o (H9.out.below hB1).i (by decide) (S3.out.below hB1).r)).mono ?_
      rintro e wx2 ⟨v, rfl, ⟨vo, vi, rfl, hO, hI⟩, hb⟩
      refine ⟨_, rfl, ?_⟩
      obtain ⟨A11, c11, rfl⟩ := Kd.V_slice hO
      obtain ⟨D11, d11, rfl⟩ := Kd.V_slice hI
      replace hO : Kd.V kL 28 wx2 0 (fun k => wx1.heap.size ≤ k) (.slice A11 0 c11) [] := hO
      replace hI : Kd.V k39 39 wx2 0 (fun k => wx1.heap.size ≤ k) (.slice D11 1 d11) [rec9] := hI
      replace hO := Kd.V_mono hO (ok' := fun k => k ≠ wd11.heap.size) (fun k hk => show k ≠ wd11.heap.size by have := heap_lt hZ; omega)
      replace hI := Kd.V_mono hI (ok' := fun k => k ≠ wd11.heap.size) (fun k hk => show k ≠ wd11.heap.size by have := heap_lt hZ; omega)
      replace hZ := hZ.below hb
      have hB2 : Below wd11.heap.size wd11 wx2 := bb hB1 hb
      clear hb
      refine hK.out _ _ ⟨(H9.out.below hB2).blk.c0, (H9.out.below hB2).blk.c1, (H9.out.below hB2).blk.c2, (H9.out.below hB2).blk.c3, (H9.out.below hB2).blk.c4, (H9.out.below hB2).blk.c5, (S3.out.below hB2).c0, (S3.out.below hB2).c1, (S3.out.below hB2).c2⟩ (fun hHeld => ?_)
      clear hK K
      refine norm_ (a' := ?_) ?_ ?_
      rotate_left
      · show Act.put _ (some 75) _ = _
        simp only [Act.put, List.setIfInBounds_toArray, List.set_cons_zero, List.set_cons_succ, i64_w, i32_w]
        rfl
      refine pure_ (i := 5) (N := some 70) (v := ?_) (a' := ?_) #[true, true, true, true, true, true, false, false, true, false, false] rfl rfl (by kernel_rfl) (fun _ _ _ h => h) (Or.inl ⟨by rfl, ?_⟩) ?_ ?_
      rotate_left
      · intro w'
        go_simp
        with_reducible rfl
      rotate_left
      · simp only [Act.put, List.setIfInBounds_toArray, List.set_cons_zero, List.set_cons_succ, i64_w, i32_w]
        rfl
      refine pure_ (i := 6) (N := some 76) (v := ?_) (a' := ?_) #[true, true, true, true, true, true, true, false, true, false, false] rfl rfl (by kernel_rfl) (fun _ _ _ h => h) (Or.inl ⟨by rfl, ?_⟩) ?_ ?_
      rotate_left
      · intro w'
        go_simp
        with_reducible rfl
      rotate_left
      · simp only [Act.put, List.setIfInBounds_toArray, List.set_cons_zero, List.set_cons_succ, i64_w, i32_w]
        rfl
      refine pure_ (i := 7) (N := some 77) (v := ?_) (a' := ?_) #[true, true, true, true, true, true, true, true, true, false, false] rfl rfl (by kernel_rfl) (fun _ _ _ h => h) (Or.inl ⟨by rfl, ?_⟩) ?_ ?_
      rotate_left
      · intro w'
        go_simp
        with_reducible rfl
      rotate_left
      · simp only [Act.put, List.setIfInBounds_toArray, List.set_cons_zero, List.set_cons_succ, i64_w, i32_w]
        rfl
      exact norm_ (by simp only [putAll, Act.put, List.setIfInBounds_toArray, List.set_cons_zero, List.set_cons_succ] <;> rfl) (hCont (wd11.heap.size, A11, c11, D11, d11) _ ⟨hB2, htle, hZ, hO, hI⟩)
  rintro ⟨t11, A11, c11, D11, d11⟩ w11 ⟨hB, htle, hZ, hO, hI⟩
  have hHeld : w11.cell? ⟨t9, 0, none⟩ = some (.slice A9 0 c9) ∧ w11.cell? ⟨t9, 1, none⟩ = some (.int .i64 (0)) ∧ w11.cell? ⟨t9, 2, none⟩ = some (.int .i64 (1)) ∧ w11.cell? ⟨t9, 3, none⟩ = some (.slice D9 1 d9) ∧ w11.cell? ⟨t9, 4, none⟩ = some (.bool true) ∧ w11.cell? ⟨t9, 5, none⟩ = some (.int .i64 (-1)) ∧ w11.cell? ⟨g3, 0, none⟩ = some (.int .i64 (0)) ∧ w11.cell? ⟨g3, 1, none⟩ = some (.bool false) ∧ w11.cell? ⟨g3, 2, none⟩ = some (.slice AB3 1 cB3) := ⟨(H9.out.below hB).blk.c0, (H9.out.below hB).blk.c1, (H9.out.below hB).blk.c2, (H9.out.below hB).blk.c3, (H9.out.below hB).blk.c4, (H9.out.below hB).blk.c5, (S3.out.below hB).c0, (S3.out.below hB).c1, (S3.out.below hB).c2⟩
  refine norm_ (a' := ?_) ?_ ?_
  rotate_left
  · simp only [putAll, Act.put, List.setIfInBounds_toArray, List.set_cons_zero, List.set_cons_succ]
    rfl
  refine last_ (i := 9) (N := none) #[true, true, true, true, true, true, true, true, true, true, false] rfl rfl (by kernel_rfl) (by decide) (fun K hK => ?_)
  have z0 := hZ.c0; have z1 := hZ.c1; have z2 := hZ.c2; have z3 := hZ.c3; have z4 := hZ.c4; have z5 := hZ.c5; have y := blk_frozen hZ
  refine skip_ (w1 := ?_) (by rfl) rfl ?_ ?_
  rotate_left
  · go_simp
    rfl
  obtain ⟨w911, hw9, Z9, F9⟩ := six hZ (.slice A11 0 c11) (0) (1) (.slice D11 1 d11) true (-1)
  rw [← hw9]
  clear hw9 z0 z1 z2 z3 z4 z5 y
  refine hK.out _ _ ?_
  clear hK K
  refine pure_ (i := 10) (N := some 12) (v := ?_) (a' := ?_) #[true, true, true, true, true, true, true, true, true, true, true] rfl rfl (by kernel_rfl) (fun _ _ _ h => h) (Or.inl ⟨by rfl, ?_⟩) ?_ ?_
  rotate_left
  · intro w'
    go_simp
    with_reducible rfl
  rotate_left
  · simp only [Act.put, List.setIfInBounds_toArray, List.set_cons_zero, List.set_cons_succ, i64_w, i32_w]
    rfl
  refine done_ (by kernel_rfl) ?_

  have hB9 : Below wd11.heap.size wd11 w911 := Fr.below F9 hB (Nat.le_refl _) (fun k hk => by omega)
  have H11 := Lib.hid (show HE w911 t11 A11 0 c11 D11 1 d11 ⟨[], 0, 1, [rec9], true, -1⟩ from ⟨Z9, (Kd.V_reads' (Kd.V_step hO (fun k hk hlt => F9.same k hlt hk))).2.2, (Kd.V_reads' (Kd.V_step hI (fun k hk hlt => F9.same k hlt hk))).2.2⟩)
  replace H1 := Lib.hid (H1.out.below hB9)
  replace H3 := Lib.hid (H3.out.below hB9)
  replace H4 := Lib.hid (H4.out.below hB9)
  replace H9 := Lib.hid (H9.out.below hB9)
  replace S3 := Lib.hid (S3.out.below hB9)
  replace B := Lib.hid (bb B.out hB9)
  clear hB9 hB htle hZ hO hI Z9 F9 hHeld
  have h110 := H11.out.blk.c0; have h111 := H11.out.blk.c1; have h112 := H11.out.blk.c2; have h113 := H11.out.blk.c3; have h114 := H11.out.blk.c4; have h115 := H11.out.blk.c5
  go_wp2_with fail
  refine (poll_calls A11 c11 D11 d11 ⟨[], 0, 1, [rec9], true, -1⟩ 6 _ H11.out.o H11.out.i (by decide)).mono ?_
  rw [sn6]
  rintro e w13 ⟨v, vl, rfl, hE, hL, hb⟩
  replace H1 := Lib.hid (H1.out.below hb)
  replace H3 := Lib.hid (H3.out.below hb)
  replace H4 := Lib.hid (H4.out.below hb)
  replace H9 := Lib.hid (H9.out.below hb)
  replace H11 := Lib.hid (H11.out.below hb)
  replace S3 := Lib.hid (S3.out.below hb)
  replace B := Lib.hid (bb B.out hb)
  obtain ⟨A13, c13, D13, d13, rfl, hO1, hI1⟩ := hE.out (n := 0) (m := 1) rfl rfl
  have O1 := Lib.hid hO1; have I1 := Lib.hid hI1
  obtain ⟨g13, k13, rfl, _, _, _⟩ := Kd.R_form hL (by decide)
  obtain ⟨AB13, cB13, hc0, hc1, hc2, hr2⟩ := B_cell83 hL (by decide)
  have S13 := Lib.hid (show HB w13 g13 ⟨1, true, []⟩ AB13 0 cB13 from ⟨hc0, hc1, hc2, hr2⟩)
  clear hc0 hc1 hc2 hr2
  clear hb hE hL hO1 hI1
  simp only [List.length_cons, List.length_nil, Nat.zero_add]
  clear h110 h111 h112 h113 h114 h115
  go_wp2_with fail
  obtain ⟨w13a, hwa⟩ : ∃ w13a, w13a = w13.alloc (.cells #[.slice A13 0 c13, .int .i64 (0), .int .i64 (1), .slice D13 1 d13, .bool false, .int .i64 (-1)] 61) := ⟨_, rfl⟩
  rw [← hwa]
  have hb : Below w13.heap.size w13 w13a := by rw [hwa]; exact below_one _ _
  obtain ⟨t13, ht13⟩ : ∃ t13, t13 = w13.heap.size := ⟨_, rfl⟩
  have H13 := Lib.hid (show HE w13a t13 A13 0 c13 D13 1 d13 ⟨[], 0, 1, [rec9], false, -1⟩ from ⟨by rw [hwa, ht13]; exact EBlk.new _ _ _ _ _ _ _ _, Kd.C_below O1.out hb, Kd.C_below I1.out hb⟩)
  rw [← ht13]
  replace H1 := Lib.hid (H1.out.below hb)
  replace H3 := Lib.hid (H3.out.below hb)
  replace H4 := Lib.hid (H4.out.below hb)
  replace H9 := Lib.hid (H9.out.below hb)
  replace H11 := Lib.hid (H11.out.below hb)
  replace S3 := Lib.hid (S3.out.below hb)
  replace S13 := Lib.hid (S13.out.below hb)
  replace B := Lib.hid (bb B.out hb)
  clear hb hwa ht13 O1 I1
  replace H1 := Lib.hid (H1.out.below (below_drew (Below.refl _ _)))
  replace H3 := Lib.hid (H3.out.below (below_drew (Below.refl _ _)))
  replace H4 := Lib.hid (H4.out.below (below_drew (Below.refl _ _)))
  replace H9 := Lib.hid (H9.out.below (below_drew (Below.refl _ _)))
  replace H11 := Lib.hid (H11.out.below (below_drew (Below.refl _ _)))
  replace H13 := Lib.hid (H13.out.below (below_drew (Below.refl _ _)))
  replace S3 := Lib.hid (S3.out.below (below_drew (Below.refl _ _)))
  replace S13 := Lib.hid (S13.out.below (below_drew (Below.refl _ _)))
  replace B := Lib.hid (bb B.out (below_drew (Below.refl _ _)))
  refine start_ (n := 11) (S := fun w' => w'.cell? ⟨t4, 0, none⟩ = some (.slice A4 1 c4) ∧ w'.cell? ⟨t4, 1, none⟩ = some (.int .i64 (0)) ∧ w'.cell? ⟨t4, 2, none⟩ = some (.int .i64 (0)) ∧ w'.cell? ⟨t4, 3, none⟩ = some (.slice D4 0 d4) ∧ w'.cell? ⟨t4, 4, none⟩ = some (.bool false) ∧ w'.cell? ⟨t4, 5, none⟩ = some (.int .i64 (8)) ∧ w'.cell? ⟨g13, 0, none⟩ = some (.int .i64 (1)) ∧ w'.cell? ⟨g13, 1, none⟩ = some (.bool true) ∧ w'.cell? ⟨g13, 2, none⟩ = some (.slice AB13 0 cB13)) (ds := [9]) #[false, false, false, false, false, false, false, false, false, false, false] (by kernel_rfl) rfl rfl ⟨(H4.out.below (Below.refl _ _)).blk.c0, (H4.out.below (Below.refl _ _)).blk.c1, (H4.out.below (Below.refl _ _)).blk.c2, (H4.out.below (Below.refl _ _)).blk.c3, (H4.out.below (Below.refl _ _)).blk.c4, (H4.out.below (Below.refl _ _)).blk.c5, (S13.out.below (Below.refl _ _)).c0, (S13.out.below (Below.refl _ _)).c1, (S13.out.below (Below.refl _ _)).c2⟩ (fun hHeld => ?_)
  generalize w13a.drew = wd16 at H1 H3 H4 H9 H11 H13 S3 S13 B hHeld ⊢
  refine pure_ (i := 1) (N := some 101) (v := ?_) (a' := ?_) #[false, true, false, false, false, false, false, false, false, false, false] rfl rfl (by kernel_rfl) (fun _ _ _ h => h) (Or.inl ⟨by rfl, ?_⟩) ?_ ?_
  rotate_left
  · intro w'
    go_simp
    with_reducible rfl
  rotate_left
  · simp only [Act.put, List.setIfInBounds_toArray, List.set_cons_zero, List.set_cons_succ, i64_w, i32_w]
    rfl
  refine pure_ (i := 2) (N := some 102) (v := ?_) (a' := ?_) #[false, true, true, false, false, false, false, false, false, false, false] rfl rfl (by kernel_rfl) (fun _ _ _ h => h) (Or.inl ⟨by rfl, ?_⟩) ?_ ?_
  rotate_left
  · intro w'
    go_simp
    with_reducible rfl
  rotate_left
  · simp only [Act.put, List.setIfInBounds_toArray, List.set_cons_zero, List.set_cons_succ, i64_w, i32_w]
    rfl
  refine take_ (i := 0) (N := some 100) (v := ?_) (a' := ?_) #[true, true, true, false, false, false, false, false, false, false, false] rfl rfl (by kernel_rfl) (fun _ _ _ h => h) (Or.inl ⟨by rfl, ?_⟩) hHeld ?_ ?_
  rotate_left
  · rintro w' ⟨s0, s1, s2, s3, s4, s5, s6, s7, s8⟩
    go_simp
    with_reducible rfl
  rotate_left
  · simp only [Act.put, List.setIfInBounds_toArray, List.set_cons_zero, List.set_cons_succ, i64_w, i32_w]
    rfl
  refine take_ (i := 3) (N := some 103) (v := ?_) (a' := ?_) #[true, true, true, true, false, false, false, false, false, false, false] rfl rfl (by kernel_rfl) (fun _ _ _ h => h) (Or.inl ⟨by rfl, ?_⟩) hHeld ?_ ?_
  rotate_left
  · rintro w' ⟨s0, s1, s2, s3, s4, s5, s6, s7, s8⟩
    go_simp
    with_reducible rfl
  rotate_left
  · simp only [Act.put, List.setIfInBounds_toArray, List.set_cons_zero, List.set_cons_succ, i64_w, i32_w]
    rfl
  refine join_ (σ := Nat × Option Addr × Nat × Option Addr × Nat) 2 #[true, true, true, true, true, true, true, true, true, false, false] (fun s => [(104, .tuple #[.agg #[.slice (s.2.1) 0 (s.2.2.1), .int .i64 (1), .int .i64 (0), .slice (s.2.2.2.1) 0 (s.2.2.2.2), .bool false, .int .i64 (-1)], .int .i64 0]), (16, .pointer (some ⟨s.1, 0, none⟩)), (99, .tuple #[.agg #[.slice (s.2.1) 0 (s.2.2.1), .int .i64 (1), .int .i64 (0), .slice (s.2.2.2.1) 0 (s.2.2.2.2), .bool false, .int .i64 (-1)], .int .i64 0]), (105, .agg #[.slice (s.2.1) 0 (s.2.2.1), .int .i64 (1), .int .i64 (0), .slice (s.2.2.2.1) 0 (s.2.2.2.2), .bool false, .int .i64 (-1)]), (106, .int .i64 0)]) (fun s w' => Below wd16.heap.size wd16 w' ∧ wd16.heap.size ≤ s.1 ∧ EBlk w' s.1 61 (.slice none 0 0) 0 0 (.slice none 0 0) false 0 ∧ Kd.V kL 28 w' 0 (fun k => k ≠ s.1) (.slice s.2.1 0 s.2.2.1) [] ∧ Kd.V k39 39 w' 0 (fun k => k ≠ s.1) (.slice s.2.2.2.1 0 s.2.2.2.2) []) ?_ ?_
  rotate_left
  · intro hCont
    refine two_ (i := 4) (j := 8) (Ni := some 104) (Nj := some 16) #[true, true, true, true, true, false, false, false, false, false, false] #[true, true, true, true, false, false, false, false, true, false, false] rfl rfl rfl rfl (by kernel_rfl) (by decide) (by decide) (fun K hK => ?_) (fun K hK => ?_)
    · skip
      refine goes_ Try.func46 (by kernel_rfl) rfl #[.agg #[.slice A4 1 c4, .int .i64 (0), .int .i64 (0), .slice D4 0 d4, .bool false, .int .i64 (8)], .agg #[.int .i64 (1), .bool true, .slice AB13 0 cB13], .int .i64 7] (by rfl) rfl rfl (by simp only [List.map_toArray, List.map_cons, List.map_nil]; rfl) ?_
      with_reducible refine ((show Calls Try.prog 46 #[.agg #[.slice A4 1 c4, .int .i64 (0), .int .i64 (0), .slice D4 0 d4, .bool false, .int .i64 (8)], .agg #[.int .i64 (1), .bool true, .slice AB13 0 cB13], .int .i64 7] wd16 (Off2 ⟨[], 1, 0, [], false, -1⟩ 0 _) from recv_lit (c := ⟨[[rec9]], 0, 0, [], false, 8⟩) (b := ⟨1, true, []⟩) sn7 wd16 rfl rfl rfl (H4.out.below (Below.refl _ _)).o (H4.out.below (Below.refl _ _)).i (by decide) (S13.out.below (Below.refl _ _)).r)).mono ?_
      rintro e wx1 ⟨v, rfl, ⟨vo, vi, rfl, hO, hI⟩, hb⟩
      refine ⟨_, rfl, ?_⟩
      obtain ⟨A16, c16, rfl⟩ := Kd.V_slice hO
      obtain ⟨D16, d16, rfl⟩ := Kd.V_slice hI
      replace hO : Kd.V kL 28 wx1 0 (fun k => wd16.heap.size ≤ k) (.slice A16 0 c16) [] := hO
      replace hI : Kd.V k39 39 wx1 0 (fun k => wd16.heap.size ≤ k) (.slice D16 0 d16) [] := hI
      have hB1 : Below wd16.heap.size wd16 wx1 := hb
      clear hb
      refine hK.out _ _ ⟨(H4.out.below hB1).blk.c0, (H4.out.below hB1).blk.c1, (H4.out.below hB1).blk.c2, (H4.out.below hB1).blk.c3, (H4.out.below hB1).blk.c4, (H4.out.below hB1).blk.c5, (S13.out.below hB1).c0, (S13.out.below hB1).c1, (S13.out.below hB1).c2⟩ (fun hHeld => ?_)
      clear hK K
      refine norm_ (a' := ?_) ?_ ?_
      rotate_left
      · show Act.put _ (some 104) _ = _
        simp only [Act.put, List.setIfInBounds_toArray, List.set_cons_zero, List.set_cons_succ, i64_w, i32_w]
        rfl
      refine pure_ (i := 5) (N := some 99) (v := ?_) (a' := ?_) #[true, true, true, true, true, true, false, false, false, false, false] rfl rfl (by kernel_rfl) (fun _ _ _ h => h) (Or.inl ⟨by rfl, ?_⟩) ?_ ?_
      rotate_left
      · intro w'
        go_simp
        with_reducible rfl
      rotate_left
      · simp only [Act.put, List.setIfInBounds_toArray, List.set_cons_zero, List.set_cons_succ, i64_w, i32_w]
        rfl
      refine pure_ (i := 6) (N := some 105) (v := ?_) (a' := ?_) #[true, true, true, true, true, true, true, false, false, false, false] rfl rfl (by kernel_rfl) (fun _ _ _ h => h) (Or.inl ⟨by rfl, ?_⟩) ?_ ?_
      rotate_left
      · intro w'
        go_simp
        with_reducible rfl
      rotate_left
      · simp only [Act.put, List.setIfInBounds_toArray, List.set_cons_zero, List.set_cons_succ, i64_w, i32_w]
        rfl
      refine pure_ (i := 7) (N := some 106) (v := ?_) (a' := ?_) #[true, true, true, true, true, true, true, true, false, false, false] rfl rfl (by kernel_rfl) (fun _ _ _ h => h) (Or.inl ⟨by rfl, ?_⟩) ?_ ?_
      rotate_left
      · intro w'
        go_simp
        with_reducible rfl
      rotate_left
      · simp only [Act.put, List.setIfInBounds_toArray, List.set_cons_zero, List.set_cons_succ, i64_w, i32_w]
        rfl
      refine one_ (i := 8) (N := some 16) #[true, true, true, true, true, true, true, true, true, false, false] rfl rfl (by kernel_rfl) (by decide) (fun K hK => ?_)
      refine value_ (w1 := ?_) (v := ?_) (by rfl) rfl ?_ ?_
      rotate_left 2
      · go_simp
        constructor
        all_goals rfl
      have hB2 : Below wd16.heap.size wd16 (wx1.alloc (.cells #[.slice none 0 0, .int .i64 0, .int .i64 0, .slice none 0 0, .bool false, .int .i64 0] 61)) := al hB1 _
      have hZ := EBlk.new wx1 61 (.slice none 0 0) (.slice none 0 0) 0 0 0 false
      have htle : wd16.heap.size ≤ wx1.heap.size := hB1.size
      replace hO := Kd.V_mono (Kd.V_alloc (Kd.V_bound hO) (.cells #[.slice none 0 0, .int .i64 0, .int .i64 0, .slice none 0 0, .bool false, .int .i64 0] 61)) (fun k hk => show k ≠ wx1.heap.size by have := hk.2; omega)
      replace hI := Kd.V_mono (Kd.V_alloc (Kd.V_bound hI) (.cells #[.slice none 0 0, .int .i64 0, .int .i64 0, .slice none 0 0, .bool false, .int .i64 0] 61)) (fun k hk => show k ≠ wx1.heap.size by have := hk.2; omega)
      generalize wx1.alloc (.cells #[.slice none 0 0, .int .i64 0, .int .i64 0, .slice none 0 0, .bool false, .int .i64 0] 61) = wx2 at hB2 hZ hO hI ⊢
      refine hK.out _ _ ⟨(H4.out.below hB2).blk.c0, (H4.out.below hB2).blk.c1, (H4.out.below hB2).blk.c2, (H4.out.below hB2).blk.c3, (H4.out.below hB2).blk.c4, (H4.out.below hB2).blk.c5, (S13.out.below hB2).c0, (S13.out.below hB2).c1, (S13.out.below hB2).c2⟩ (fun hHeld => ?_)
      clear hK K
      refine norm_ (a' := ?_) ?_ ?_
      rotate_left
      · show Act.put _ (some 16) _ = _
        simp only [Act.put, List.setIfInBounds_toArray, List.set_cons_zero, List.set_cons_succ, i64_w, i32_w]
        rfl
      exact norm_ (by simp only [putAll, Act.put, List.setIfInBounds_toArray, List.set_cons_zero, List.set_cons_succ] <;> rfl) (hCont (wx1.heap.size, A16, c16, D16, d16) _ ⟨hB2, htle, hZ, hO, hI⟩)
    · skip
      refine value_ (w1 := ?_) (v := ?_) (by rfl) rfl ?_ ?_
      rotate_left 2
      · go_simp
        constructor
        all_goals rfl
      have hB1 : Below wd16.heap.size wd16 (wd16.alloc (.cells #[.slice none 0 0, .int .i64 0, .int .i64 0, .slice none 0 0, .bool false, .int .i64 0] 61)) := below_one _ _
      have hZ := EBlk.new wd16 61 (.slice none 0 0) (.slice none 0 0) 0 0 0 false
      have htle : wd16.heap.size ≤ wd16.heap.size := Nat.le_refl _
      generalize wd16.alloc (.cells #[.slice none 0 0, .int .i64 0, .int .i64 0, .slice none 0 0, .bool false, .int .i64 0] 61) = wx1 at hB1 hZ ⊢
      refine hK.out _ _ ⟨(H4.out.below hB1).blk.c0, (H4.out.below hB1).blk.c1, (H4.out.below hB1).blk.c2, (H4.out.below hB1).blk.c3, (H4.out.below hB1).blk.c4, (H4.out.below hB1).blk.c5, (S13.out.below hB1).c0, (S13.out.below hB1).c1, (S13.out.below hB1).c2⟩ (fun hHeld => ?_)
      clear hK K
      refine norm_ (a' := ?_) ?_ ?_
      rotate_left
      · show Act.put _ (some 16) _ = _
        simp only [Act.put, List.setIfInBounds_toArray, List.set_cons_zero, List.set_cons_succ, i64_w, i32_w]
        rfl
      refine one_ (i := 4) (N := some 104) #[true, true, true, true, true, false, false, false, true, false, false] rfl rfl (by kernel_rfl) (by decide) (fun K hK => ?_)
      refine goes_ Try.func46 (by kernel_rfl) rfl #[.agg #[.slice A4 1 c4, .int .i64 (0), .int .i64 (0), .slice D4 0 d4, .bool false, .int .i64 (8)], .agg #[.int .i64 (1), .bool true, .slice AB13 0 cB13], .int .i64 7] (by rfl) rfl rfl (by simp only [List.map_toArray, List.map_cons, List.map_nil]; rfl) ?_
      with_reducible refine ((show Calls Try.prog 46 #[.agg #[.slice A4 1 c4, .int .i64 (0), .int .i64 (0), .slice D4 0 d4, .bool false, .int .i64 (8)], .agg #[.int .i64 (1), .bool true, .slice AB13 0 cB13], .int .i64 7] wx1 (Off2 ⟨[], 1, 0, [], false, -1⟩ 0 _) from recv_lit (c := ⟨[[rec9]], 0, 0, [], false, 8⟩) (b := ⟨1, true, []⟩) sn7 wx1 rfl rfl rfl (H4.out.below hB1).o (H4.out.below hB1).i (by decide) (S13.out.below hB1).r)).mono ?_
      rintro e wx2 ⟨v, rfl, ⟨vo, vi, rfl, hO, hI⟩, hb⟩
      refine ⟨_, rfl, ?_⟩
      obtain ⟨A16, c16, rfl⟩ := Kd.V_slice hO
      obtain ⟨D16, d16, rfl⟩ := Kd.V_slice hI
      replace hO : Kd.V kL 28 wx2 0 (fun k => wx1.heap.size ≤ k) (.slice A16 0 c16) [] := hO
      replace hI : Kd.V k39 39 wx2 0 (fun k => wx1.heap.size ≤ k) (.slice D16 0 d16) [] := hI
      replace hO := Kd.V_mono hO (ok' := fun k => k ≠ wd16.heap.size) (fun k hk => show k ≠ wd16.heap.size by have := heap_lt hZ; omega)
      replace hI := Kd.V_mono hI (ok' := fun k => k ≠ wd16.heap.size) (fun k hk => show k ≠ wd16.heap.size by have := heap_lt hZ; omega)
      replace hZ := hZ.below hb
      have hB2 : Below wd16.heap.size wd16 wx2 := bb hB1 hb
      clear hb
      refine hK.out _ _ ⟨(H4.out.below hB2).blk.c0, (H4.out.below hB2).blk.c1, (H4.out.below hB2).blk.c2, (H4.out.below hB2).blk.c3, (H4.out.below hB2).blk.c4, (H4.out.below hB2).blk.c5, (S13.out.below hB2).c0, (S13.out.below hB2).c1, (S13.out.below hB2).c2⟩ (fun hHeld => ?_)
      clear hK K
      refine norm_ (a' := ?_) ?_ ?_
      rotate_left
      · show Act.put _ (some 104) _ = _
        simp only [Act.put, List.setIfInBounds_toArray, List.set_cons_zero, List.set_cons_succ, i64_w, i32_w]
        rfl
      refine pure_ (i := 5) (N := some 99) (v := ?_) (a' := ?_) #[true, true, true, true, true, true, false, false, true, false, false] rfl rfl (by kernel_rfl) (fun _ _ _ h => h) (Or.inl ⟨by rfl, ?_⟩) ?_ ?_
      rotate_left
      · intro w'
        go_simp
        with_reducible rfl
      rotate_left
      · simp only [Act.put, List.setIfInBounds_toArray, List.set_cons_zero, List.set_cons_succ, i64_w, i32_w]
        rfl
      refine pure_ (i := 6) (N := some 105) (v := ?_) (a' := ?_) #[true, true, true, true, true, true, true, false, true, false, false] rfl rfl (by kernel_rfl) (fun _ _ _ h => h) (Or.inl ⟨by rfl, ?_⟩) ?_ ?_
      rotate_left
      · intro w'
        go_simp
        with_reducible rfl
      rotate_left
      · simp only [Act.put, List.setIfInBounds_toArray, List.set_cons_zero, List.set_cons_succ, i64_w, i32_w]
        rfl
      refine pure_ (i := 7) (N := some 106) (v := ?_) (a' := ?_) #[true, true, true, true, true, true, true, true, true, false, false] rfl rfl (by kernel_rfl) (fun _ _ _ h => h) (Or.inl ⟨by rfl, ?_⟩) ?_ ?_
      rotate_left
      · intro w'
        go_simp
        with_reducible rfl
      rotate_left
      · simp only [Act.put, List.setIfInBounds_toArray, List.set_cons_zero, List.set_cons_succ, i64_w, i32_w]
        rfl
      exact norm_ (by simp only [putAll, Act.put, List.setIfInBounds_toArray, List.set_cons_zero, List.set_cons_succ] <;> rfl) (hCont (wd16.heap.size, A16, c16, D16, d16) _ ⟨hB2, htle, hZ, hO, hI⟩)
  rintro ⟨t16, A16, c16, D16, d16⟩ w16 ⟨hB, htle, hZ, hO, hI⟩
  have hHeld : w16.cell? ⟨t4, 0, none⟩ = some (.slice A4 1 c4) ∧ w16.cell? ⟨t4, 1, none⟩ = some (.int .i64 (0)) ∧ w16.cell? ⟨t4, 2, none⟩ = some (.int .i64 (0)) ∧ w16.cell? ⟨t4, 3, none⟩ = some (.slice D4 0 d4) ∧ w16.cell? ⟨t4, 4, none⟩ = some (.bool false) ∧ w16.cell? ⟨t4, 5, none⟩ = some (.int .i64 (8)) ∧ w16.cell? ⟨g13, 0, none⟩ = some (.int .i64 (1)) ∧ w16.cell? ⟨g13, 1, none⟩ = some (.bool true) ∧ w16.cell? ⟨g13, 2, none⟩ = some (.slice AB13 0 cB13) := ⟨(H4.out.below hB).blk.c0, (H4.out.below hB).blk.c1, (H4.out.below hB).blk.c2, (H4.out.below hB).blk.c3, (H4.out.below hB).blk.c4, (H4.out.below hB).blk.c5, (S13.out.below hB).c0, (S13.out.below hB).c1, (S13.out.below hB).c2⟩
  refine norm_ (a' := ?_) ?_ ?_
  rotate_left
  · simp only [putAll, Act.put, List.setIfInBounds_toArray, List.set_cons_zero, List.set_cons_succ]
    rfl
  refine last_ (i := 9) (N := none) #[true, true, true, true, true, true, true, true, true, true, false] rfl rfl (by kernel_rfl) (by decide) (fun K hK => ?_)
  have z0 := hZ.c0; have z1 := hZ.c1; have z2 := hZ.c2; have z3 := hZ.c3; have z4 := hZ.c4; have z5 := hZ.c5; have y := blk_frozen hZ
  refine skip_ (w1 := ?_) (by rfl) rfl ?_ ?_
  rotate_left
  · go_simp
    rfl
  obtain ⟨w916, hw9, Z9, F9⟩ := six hZ (.slice A16 0 c16) (1) (0) (.slice D16 0 d16) false (-1)
  rw [← hw9]
  clear hw9 z0 z1 z2 z3 z4 z5 y
  refine hK.out _ _ ?_
  clear hK K
  refine pure_ (i := 10) (N := some 17) (v := ?_) (a' := ?_) #[true, true, true, true, true, true, true, true, true, true, true] rfl rfl (by kernel_rfl) (fun _ _ _ h => h) (Or.inl ⟨by rfl, ?_⟩) ?_ ?_
  rotate_left
  · intro w'
    go_simp
    with_reducible rfl
  rotate_left
  · simp only [Act.put, List.setIfInBounds_toArray, List.set_cons_zero, List.set_cons_succ, i64_w, i32_w]
    rfl
  refine done_ (by kernel_rfl) ?_

  have hB9 : Below wd16.heap.size wd16 w916 := Fr.below F9 hB (Nat.le_refl _) (fun k hk => by omega)
  have H16 := Lib.hid (show HE w916 t16 A16 0 c16 D16 0 d16 ⟨[], 1, 0, [], false, -1⟩ from ⟨Z9, (Kd.V_reads' (Kd.V_step hO (fun k hk hlt => F9.same k hlt hk))).2.2, (Kd.V_reads' (Kd.V_step hI (fun k hk hlt => F9.same k hlt hk))).2.2⟩)
  replace H1 := Lib.hid (H1.out.below hB9)
  replace H3 := Lib.hid (H3.out.below hB9)
  replace H4 := Lib.hid (H4.out.below hB9)
  replace H9 := Lib.hid (H9.out.below hB9)
  replace H11 := Lib.hid (H11.out.below hB9)
  replace H13 := Lib.hid (H13.out.below hB9)
  replace S3 := Lib.hid (S3.out.below hB9)
  replace S13 := Lib.hid (S13.out.below hB9)
  replace B := Lib.hid (bb B.out hB9)
  clear hB9 hB htle hZ hO hI Z9 F9 hHeld
  have h40 := H4.out.blk.c0; have h41 := H4.out.blk.c1; have h42 := H4.out.blk.c2; have h43 := H4.out.blk.c3; have h44 := H4.out.blk.c4; have h45 := H4.out.blk.c5
  go_wp2_with fail
  refine (recv_lit (c := ⟨[[rec9]], 0, 0, [], false, 8⟩) (b := ⟨2, true, []⟩) sn8 _ rfl rfl rfl H4.out.o H4.out.i (by decide) (Kd.C_nil _ _)).mono ?_
  rintro e w18 ⟨v, rfl, hE, hb⟩
  replace H1 := Lib.hid (H1.out.below hb)
  replace H3 := Lib.hid (H3.out.below hb)
  replace H4 := Lib.hid (H4.out.below hb)
  replace H9 := Lib.hid (H9.out.below hb)
  replace H11 := Lib.hid (H11.out.below hb)
  replace H13 := Lib.hid (H13.out.below hb)
  replace H16 := Lib.hid (H16.out.below hb)
  replace S3 := Lib.hid (S3.out.below hb)
  replace S13 := Lib.hid (S13.out.below hb)
  replace B := Lib.hid (bb B.out hb)
  obtain ⟨A18, c18, D18, d18, rfl, hO1, hI1⟩ := hE.out (n := 0) (m := 0) rfl rfl
  have O1 := Lib.hid hO1; have I1 := Lib.hid hI1
  clear hb hE hO1 hI1 h40 h41 h42 h43 h44 h45
  simp only [z61]
  go_wp2_with fail
  obtain ⟨w18a, hwa⟩ : ∃ w18a, w18a = w18.alloc (.cells #[.slice A18 0 c18, .int .i64 (0), .int .i64 (0), .slice D18 0 d18, .bool false, .int .i64 (0)] 61) := ⟨_, rfl⟩
  rw [← hwa]
  have hb : Below w18.heap.size w18 w18a := by rw [hwa]; exact below_one _ _
  obtain ⟨t18, ht18⟩ : ∃ t18, t18 = w18.heap.size := ⟨_, rfl⟩
  have H18 := Lib.hid (show HE w18a t18 A18 0 c18 D18 0 d18 ⟨[], 0, 0, [], false, 0⟩ from ⟨by rw [hwa, ht18]; exact EBlk.new _ _ _ _ _ _ _ _, Kd.C_below O1.out hb, Kd.C_below I1.out hb⟩)
  rw [← ht18]
  replace H1 := Lib.hid (H1.out.below hb)
  replace H3 := Lib.hid (H3.out.below hb)
  replace H4 := Lib.hid (H4.out.below hb)
  replace H9 := Lib.hid (H9.out.below hb)
  replace H11 := Lib.hid (H11.out.below hb)
  replace H13 := Lib.hid (H13.out.below hb)
  replace H16 := Lib.hid (H16.out.below hb)
  replace S3 := Lib.hid (S3.out.below hb)
  replace S13 := Lib.hid (S13.out.below hb)
  replace B := Lib.hid (bb B.out hb)
  clear hb hwa ht18 O1 I1
  replace H1 := Lib.hid (H1.out.below (below_drew (Below.refl _ _)))
  replace H3 := Lib.hid (H3.out.below (below_drew (Below.refl _ _)))
  replace H4 := Lib.hid (H4.out.below (below_drew (Below.refl _ _)))
  replace H9 := Lib.hid (H9.out.below (below_drew (Below.refl _ _)))
  replace H11 := Lib.hid (H11.out.below (below_drew (Below.refl _ _)))
  replace H13 := Lib.hid (H13.out.below (below_drew (Below.refl _ _)))
  replace H16 := Lib.hid (H16.out.below (below_drew (Below.refl _ _)))
  replace H18 := Lib.hid (H18.out.below (below_drew (Below.refl _ _)))
  replace S3 := Lib.hid (S3.out.below (below_drew (Below.refl _ _)))
  replace S13 := Lib.hid (S13.out.below (below_drew (Below.refl _ _)))
  replace B := Lib.hid (bb B.out (below_drew (Below.refl _ _)))
  refine start_ (n := 13) (S := fun w' => w'.cell? ⟨t9, 0, none⟩ = some (.slice A9 0 c9) ∧ w'.cell? ⟨t9, 1, none⟩ = some (.int .i64 (0)) ∧ w'.cell? ⟨t9, 2, none⟩ = some (.int .i64 (1)) ∧ w'.cell? ⟨t9, 3, none⟩ = some (.slice D9 1 d9) ∧ w'.cell? ⟨t9, 4, none⟩ = some (.bool true) ∧ w'.cell? ⟨t9, 5, none⟩ = some (.int .i64 (-1)) ∧ w'.cell? ⟨g3, 2, none⟩ = some (.slice AB3 1 cB3)) (ds := [11]) #[false, false, false, false, false, false, false, false, false, false, false, false, false] (by kernel_rfl) rfl rfl ⟨(H9.out.below (Below.refl _ _)).blk.c0, (H9.out.below (Below.refl _ _)).blk.c1, (H9.out.below (Below.refl _ _)).blk.c2, (H9.out.below (Below.refl _ _)).blk.c3, (H9.out.below (Below.refl _ _)).blk.c4, (H9.out.below (Below.refl _ _)).blk.c5, (S3.out.below (Below.refl _ _)).c2⟩ (fun hHeld => ?_)
  generalize w18a.drew = wd20 at H1 H3 H4 H9 H11 H13 H16 H18 S3 S13 B hHeld ⊢
  refine pure_ (i := 1) (N := some 115) (v := ?_) (a' := ?_) #[false, true, false, false, false, false, false, false, false, false, false, false, false] rfl rfl (by kernel_rfl) (fun _ _ _ h => h) (Or.inl ⟨by rfl, ?_⟩) ?_ ?_
  rotate_left
  · intro w'
    go_simp
    with_reducible rfl
  rotate_left
  · simp only [Act.put, List.setIfInBounds_toArray, List.set_cons_zero, List.set_cons_succ, i64_w, i32_w]
    rfl
  refine pure_ (i := 2) (N := some 116) (v := ?_) (a' := ?_) #[false, true, true, false, false, false, false, false, false, false, false, false, false] rfl rfl (by kernel_rfl) (fun _ _ _ h => h) (Or.inl ⟨by rfl, ?_⟩) ?_ ?_
  rotate_left
  · intro w'
    go_simp
    with_reducible rfl
  rotate_left
  · simp only [Act.put, List.setIfInBounds_toArray, List.set_cons_zero, List.set_cons_succ, i64_w, i32_w]
    rfl
  refine pure_ (i := 3) (N := some 117) (v := ?_) (a' := ?_) #[false, true, true, true, false, false, false, false, false, false, false, false, false] rfl rfl (by kernel_rfl) (fun _ _ _ h => h) (Or.inl ⟨by rfl, ?_⟩) ?_ ?_
  rotate_left
  · intro w'
    go_simp
    with_reducible rfl
  rotate_left
  · simp only [Act.put, List.setIfInBounds_toArray, List.set_cons_zero, List.set_cons_succ, i64_w, i32_w]
    rfl
  refine take_ (i := 0) (N := some 114) (v := ?_) (a' := ?_) #[true, true, true, true, false, false, false, false, false, false, false, false, false] rfl rfl (by kernel_rfl) (fun _ _ _ h => h) (Or.inl ⟨by rfl, ?_⟩) hHeld ?_ ?_
  rotate_left
  · rintro w' ⟨s0, s1, s2, s3, s4, s5, s6⟩
    go_simp
    with_reducible rfl
  rotate_left
  · simp only [Act.put, List.setIfInBounds_toArray, List.set_cons_zero, List.set_cons_succ, i64_w, i32_w]
    rfl
  refine take_ (i := 4) (N := some 118) (v := ?_) (a' := ?_) #[true, true, true, true, true, false, false, false, false, false, false, false, false] rfl rfl (by kernel_rfl) (fun _ _ _ h => h) (Or.inl ⟨by rfl, ?_⟩) hHeld ?_ ?_
  rotate_left
  · rintro w' ⟨s0, s1, s2, s3, s4, s5, s6⟩
    go_simp
    with_reducible rfl
  rotate_left
  · simp only [Act.put, List.setIfInBounds_toArray, List.set_cons_zero, List.set_cons_succ, i64_w, i32_w]
    rfl
  refine pure_ (i := 5) (N := some 119) (v := ?_) (a' := ?_) #[true, true, true, true, true, true, false, false, false, false, false, false, false] rfl rfl (by kernel_rfl) (fun _ _ _ h => h) (Or.inl ⟨by rfl, ?_⟩) ?_ ?_
  rotate_left
  · intro w'
    go_simp
    with_reducible rfl
  rotate_left
  · simp only [Act.put, List.setIfInBounds_toArray, List.set_cons_zero, List.set_cons_succ, i64_w, i32_w]
    rfl
  refine join_ (σ := Nat × Option Addr × Nat × Option Addr × Nat) 2 #[true, true, true, true, true, true, true, true, true, true, true, false, false] (fun s => [(120, .tuple #[.agg #[.slice (s.2.1) 0 (s.2.2.1), .int .i64 (0), .int .i64 (0), .slice (s.2.2.2.1) 0 (s.2.2.2.2), .bool false, .int .i64 (0)], .int .i64 300]), (20, .pointer (some ⟨s.1, 0, none⟩)), (113, .tuple #[.agg #[.slice (s.2.1) 0 (s.2.2.1), .int .i64 (0), .int .i64 (0), .slice (s.2.2.2.1) 0 (s.2.2.2.2), .bool false, .int .i64 (0)], .int .i64 300]), (121, .agg #[.slice (s.2.1) 0 (s.2.2.1), .int .i64 (0), .int .i64 (0), .slice (s.2.2.2.1) 0 (s.2.2.2.2), .bool false, .int .i64 (0)]), (122, .int .i64 300)]) (fun s w' => Below wd20.heap.size wd20 w' ∧ wd20.heap.size ≤ s.1 ∧ EBlk w' s.1 61 (.slice none 0 0) 0 0 (.slice none 0 0) false 0 ∧ Kd.V kL 28 w' 0 (fun k => k ≠ s.1) (.slice s.2.1 0 s.2.2.1) [] ∧ Kd.V k39 39 w' 0 (fun k => k ≠ s.1) (.slice s.2.2.2.1 0 s.2.2.2.2) []) ?_ ?_
  rotate_left
  · intro hCont
    refine two_ (i := 6) (j := 10) (Ni := some 120) (Nj := some 20) #[true, true, true, true, true, true, true, false, false, false, false, false, false] #[true, true, true, true, true, true, false, false, false, false, true, false, false] rfl rfl rfl rfl (by kernel_rfl) (by decide) (by decide) (fun K hK => ?_) (fun K hK => ?_)
    · skip
      refine goes_ Try.func46 (by kernel_rfl) rfl #[.agg #[.slice A9 0 c9, .int .i64 (0), .int .i64 (1), .slice D9 1 d9, .bool true, .int .i64 (-1)], .agg #[.int .i64 2, .bool false, .slice AB3 1 cB3], .int .i64 7] (by rfl) rfl rfl (by simp only [List.map_toArray, List.map_cons, List.map_nil]; rfl) ?_
      with_reducible refine ((show Calls Try.prog 46 #[.agg #[.slice A9 0 c9, .int .i64 (0), .int .i64 (1), .slice D9 1 d9, .bool true, .int .i64 (-1)], .agg #[.int .i64 2, .bool false, .slice AB3 1 cB3], .int .i64 7] wd20 (Off2 ⟨[], 0, 0, [], false, 0⟩ 300 _) from recv_lit (c := ⟨[], 0, 1, [rec9], true, -1⟩) (b := ⟨2, false, [rec9]⟩) sn9 wd20 rfl rfl rfl (H9.out.below (Below.refl _ _)).o (H9.out.below (Below.refl _ _)).i (by decide) (S3.out.below (Below.refl _ _)).r)).mono ?_
      rintro e wx1 ⟨v, rfl, ⟨vo, vi, rfl, hO, hI⟩, hb⟩
      refine ⟨_, rfl, ?_⟩
      obtain ⟨A20, c20, rfl⟩ := Kd.V_slice hO
      obtain ⟨D20, d20, rfl⟩ := Kd.V_slice hI
      replace hO : Kd.V kL 28 wx1 0 (fun k => wd20.heap.size ≤ k) (.slice A20 0 c20) [] := hO
      replace hI : Kd.V k39 39 wx1 0 (fun k => wd20.heap.size ≤ k) (.slice D20 0 d20) [] := hI
      have hB1 : Below wd20.heap.size wd20 wx1 := hb
      clear hb
      refine hK.out _ _ ⟨(H9.out.below hB1).blk.c0, (H9.out.below hB1).blk.c1, (H9.out.below hB1).blk.c2, (H9.out.below hB1).blk.c3, (H9.out.below hB1).blk.c4, (H9.out.below hB1).blk.c5, (S3.out.below hB1).c2⟩ (fun hHeld => ?_)
      clear hK K
      refine norm_ (a' := ?_) ?_ ?_
      rotate_left
      · show Act.put _ (some 120) _ = _
        simp only [Act.put, List.setIfInBounds_toArray, List.set_cons_zero, List.set_cons_succ, i64_w, i32_w]
        rfl
      refine pure_ (i := 7) (N := some 113) (v := ?_) (a' := ?_) #[true, true, true, true, true, true, true, true, false, false, false, false, false] rfl rfl (by kernel_rfl) (fun _ _ _ h => h) (Or.inl ⟨by rfl, ?_⟩) ?_ ?_
      rotate_left
      · intro w'
        go_simp
        with_reducible rfl
      rotate_left
      · simp only [Act.put, List.setIfInBounds_toArray, List.set_cons_zero, List.set_cons_succ, i64_w, i32_w]
        rfl
      refine pure_ (i := 8) (N := some 121) (v := ?_) (a' := ?_) #[true, true, true, true, true, true, true, true, true, false, false, false, false] rfl rfl (by kernel_rfl) (fun _ _ _ h => h) (Or.inl ⟨by rfl, ?_⟩) ?_ ?_
      rotate_left
      · intro w'
        go_simp
        with_reducible rfl
      rotate_left
      · simp only [Act.put, List.setIfInBounds_toArray, List.set_cons_zero, List.set_cons_succ, i64_w, i32_w]
        rfl
      refine pure_ (i := 9) (N := some 122) (v := ?_) (a' := ?_) #[true, true, true, true, true, true, true, true, true, true, false, false, false] rfl rfl (by kernel_rfl) (fun _ _ _ h => h) (Or.inl ⟨by rfl, ?_⟩) ?_ ?_
      rotate_left
      · intro w'
        go_simp
        with_reducible rfl
      rotate_left
      · simp only [Act.put, List.setIfInBounds_toArray, List.set_cons_zero, List.set_cons_succ, i64_w, i32_w]
        rfl
      refine one_ (i := 10) (N := some 20) #[true, true, true, true, true, true, true, true, true, true, true, false, false] rfl rfl (by kernel_rfl) (by decide) (fun K hK => ?_)
      refine value_ (w1 := ?_) (v := ?_) (by rfl) rfl ?_ ?_
      rotate_left 2
      · go_simp
        constructor
        all_goals rfl
      have hB2 : Below wd20.heap.size wd20 (wx1.alloc (.cells #[.slice none 0 0, .int .i64 0, .int .i64 0, .slice none 0 0, .bool false, .int .i64 0] 61)) := al hB1 _
      have hZ := EBlk.new wx1 61 (.slice none 0 0) (.slice none 0 0) 0 0 0 false
      have htle : wd20.heap.size ≤ wx1.heap.size := hB1.size
      replace hO := Kd.V_mono (Kd.V_alloc (Kd.V_bound hO) (.cells #[.slice none 0 0, .int .i64 0, .int .i64 0, .slice none 0 0, .bool false, .int .i64 0] 61)) (fun k hk => show k ≠ wx1.heap.size by have := hk.2; omega)
      replace hI := Kd.V_mono (Kd.V_alloc (Kd.V_bound hI) (.cells #[.slice none 0 0, .int .i64 0, .int .i64 0, .slice none 0 0, .bool false, .int .i64 0] 61)) (fun k hk => show k ≠ wx1.heap.size by have := hk.2; omega)
      generalize wx1.alloc (.cells #[.slice none 0 0, .int .i64 0, .int .i64 0, .slice none 0 0, .bool false, .int .i64 0] 61) = wx2 at hB2 hZ hO hI ⊢
      refine hK.out _ _ ⟨(H9.out.below hB2).blk.c0, (H9.out.below hB2).blk.c1, (H9.out.below hB2).blk.c2, (H9.out.below hB2).blk.c3, (H9.out.below hB2).blk.c4, (H9.out.below hB2).blk.c5, (S3.out.below hB2).c2⟩ (fun hHeld => ?_)
      clear hK K
      refine norm_ (a' := ?_) ?_ ?_
      rotate_left
      · show Act.put _ (some 20) _ = _
        simp only [Act.put, List.setIfInBounds_toArray, List.set_cons_zero, List.set_cons_succ, i64_w, i32_w]
        rfl
      exact norm_ (by simp only [putAll, Act.put, List.setIfInBounds_toArray, List.set_cons_zero, List.set_cons_succ] <;> rfl) (hCont (wx1.heap.size, A20, c20, D20, d20) _ ⟨hB2, htle, hZ, hO, hI⟩)
    · skip
      refine value_ (w1 := ?_) (v := ?_) (by rfl) rfl ?_ ?_
      rotate_left 2
      · go_simp
        constructor
        all_goals rfl
      have hB1 : Below wd20.heap.size wd20 (wd20.alloc (.cells #[.slice none 0 0, .int .i64 0, .int .i64 0, .slice none 0 0, .bool false, .int .i64 0] 61)) := below_one _ _
      have hZ := EBlk.new wd20 61 (.slice none 0 0) (.slice none 0 0) 0 0 0 false
      have htle : wd20.heap.size ≤ wd20.heap.size := Nat.le_refl _
      generalize wd20.alloc (.cells #[.slice none 0 0, .int .i64 0, .int .i64 0, .slice none 0 0, .bool false, .int .i64 0] 61) = wx1 at hB1 hZ ⊢
      refine hK.out _ _ ⟨(H9.out.below hB1).blk.c0, (H9.out.below hB1).blk.c1, (H9.out.below hB1).blk.c2, (H9.out.below hB1).blk.c3, (H9.out.below hB1).blk.c4, (H9.out.below hB1).blk.c5, (S3.out.below hB1).c2⟩ (fun hHeld => ?_)
      clear hK K
      refine norm_ (a' := ?_) ?_ ?_
      rotate_left
      · show Act.put _ (some 20) _ = _
        simp only [Act.put, List.setIfInBounds_toArray, List.set_cons_zero, List.set_cons_succ, i64_w, i32_w]
        rfl
      refine one_ (i := 6) (N := some 120) #[true, true, true, true, true, true, true, false, false, false, true, false, false] rfl rfl (by kernel_rfl) (by decide) (fun K hK => ?_)
      refine goes_ Try.func46 (by kernel_rfl) rfl #[.agg #[.slice A9 0 c9, .int .i64 (0), .int .i64 (1), .slice D9 1 d9, .bool true, .int .i64 (-1)], .agg #[.int .i64 2, .bool false, .slice AB3 1 cB3], .int .i64 7] (by rfl) rfl rfl (by simp only [List.map_toArray, List.map_cons, List.map_nil]; rfl) ?_
      with_reducible refine ((show Calls Try.prog 46 #[.agg #[.slice A9 0 c9, .int .i64 (0), .int .i64 (1), .slice D9 1 d9, .bool true, .int .i64 (-1)], .agg #[.int .i64 2, .bool false, .slice AB3 1 cB3], .int .i64 7] wx1 (Off2 ⟨[], 0, 0, [], false, 0⟩ 300 _) from recv_lit (c := ⟨[], 0, 1, [rec9], true, -1⟩) (b := ⟨2, false, [rec9]⟩) sn9 wx1 rfl rfl rfl (H9.out.below hB1).o (H9.out.below hB1).i (by decide) (S3.out.below hB1).r)).mono ?_
      rintro e wx2 ⟨v, rfl, ⟨vo, vi, rfl, hO, hI⟩, hb⟩
      refine ⟨_, rfl, ?_⟩
      obtain ⟨A20, c20, rfl⟩ := Kd.V_slice hO
      obtain ⟨D20, d20, rfl⟩ := Kd.V_slice hI
      replace hO : Kd.V kL 28 wx2 0 (fun k => wx1.heap.size ≤ k) (.slice A20 0 c20) [] := hO
      replace hI : Kd.V k39 39 wx2 0 (fun k => wx1.heap.size ≤ k) (.slice D20 0 d20) [] := hI
      replace hO := Kd.V_mono hO (ok' := fun k => k ≠ wd20.heap.size) (fun k hk => show k ≠ wd20.heap.size by have := heap_lt hZ; omega)
      replace hI := Kd.V_mono hI (ok' := fun k => k ≠ wd20.heap.size) (fun k hk => show k ≠ wd20.heap.size by have := heap_lt hZ; omega)
      replace hZ := hZ.below hb
      have hB2 : Below wd20.heap.size wd20 wx2 := bb hB1 hb
      clear hb
      refine hK.out _ _ ⟨(H9.out.below hB2).blk.c0, (H9.out.below hB2).blk.c1, (H9.out.below hB2).blk.c2, (H9.out.below hB2).blk.c3, (H9.out.below hB2).blk.c4, (H9.out.below hB2).blk.c5, (S3.out.below hB2).c2⟩ (fun hHeld => ?_)
      clear hK K
      refine norm_ (a' := ?_) ?_ ?_
      rotate_left
      · show Act.put _ (some 120) _ = _
        simp only [Act.put, List.setIfInBounds_toArray, List.set_cons_zero, List.set_cons_succ, i64_w, i32_w]
        rfl
      refine pure_ (i := 7) (N := some 113) (v := ?_) (a' := ?_) #[true, true, true, true, true, true, true, true, false, false, true, false, false] rfl rfl (by kernel_rfl) (fun _ _ _ h => h) (Or.inl ⟨by rfl, ?_⟩) ?_ ?_
      rotate_left
      · intro w'
        go_simp
        with_reducible rfl
      rotate_left
      · simp only [Act.put, List.setIfInBounds_toArray, List.set_cons_zero, List.set_cons_succ, i64_w, i32_w]
        rfl
      refine pure_ (i := 8) (N := some 121) (v := ?_) (a' := ?_) #[true, true, true, true, true, true, true, true, true, false, true, false, false] rfl rfl (by kernel_rfl) (fun _ _ _ h => h) (Or.inl ⟨by rfl, ?_⟩) ?_ ?_
      rotate_left
      · intro w'
        go_simp
        with_reducible rfl
      rotate_left
      · simp only [Act.put, List.setIfInBounds_toArray, List.set_cons_zero, List.set_cons_succ, i64_w, i32_w]
        rfl
      refine pure_ (i := 9) (N := some 122) (v := ?_) (a' := ?_) #[true, true, true, true, true, true, true, true, true, true, true, false, false] rfl rfl (by kernel_rfl) (fun _ _ _ h => h) (Or.inl ⟨by rfl, ?_⟩) ?_ ?_
      rotate_left
      · intro w'
        go_simp
        with_reducible rfl
      rotate_left
      · simp only [Act.put, List.setIfInBounds_toArray, List.set_cons_zero, List.set_cons_succ, i64_w, i32_w]
        rfl
      exact norm_ (by simp only [putAll, Act.put, List.setIfInBounds_toArray, List.set_cons_zero, List.set_cons_succ] <;> rfl) (hCont (wd20.heap.size, A20, c20, D20, d20) _ ⟨hB2, htle, hZ, hO, hI⟩)
  rintro ⟨t20, A20, c20, D20, d20⟩ w20 ⟨hB, htle, hZ, hO, hI⟩
  have hHeld : w20.cell? ⟨t9, 0, none⟩ = some (.slice A9 0 c9) ∧ w20.cell? ⟨t9, 1, none⟩ = some (.int .i64 (0)) ∧ w20.cell? ⟨t9, 2, none⟩ = some (.int .i64 (1)) ∧ w20.cell? ⟨t9, 3, none⟩ = some (.slice D9 1 d9) ∧ w20.cell? ⟨t9, 4, none⟩ = some (.bool true) ∧ w20.cell? ⟨t9, 5, none⟩ = some (.int .i64 (-1)) ∧ w20.cell? ⟨g3, 2, none⟩ = some (.slice AB3 1 cB3) := ⟨(H9.out.below hB).blk.c0, (H9.out.below hB).blk.c1, (H9.out.below hB).blk.c2, (H9.out.below hB).blk.c3, (H9.out.below hB).blk.c4, (H9.out.below hB).blk.c5, (S3.out.below hB).c2⟩
  refine norm_ (a' := ?_) ?_ ?_
  rotate_left
  · simp only [putAll, Act.put, List.setIfInBounds_toArray, List.set_cons_zero, List.set_cons_succ]
    rfl
  refine last_ (i := 11) (N := none) #[true, true, true, true, true, true, true, true, true, true, true, true, false] rfl rfl (by kernel_rfl) (by decide) (fun K hK => ?_)
  have z0 := hZ.c0; have z1 := hZ.c1; have z2 := hZ.c2; have z3 := hZ.c3; have z4 := hZ.c4; have z5 := hZ.c5; have y := blk_frozen hZ
  refine skip_ (w1 := ?_) (by rfl) rfl ?_ ?_
  rotate_left
  · go_simp
    rfl
  obtain ⟨w920, hw9, Z9, F9⟩ := six hZ (.slice A20 0 c20) (0) (0) (.slice D20 0 d20) false (0)
  rw [← hw9]
  clear hw9 z0 z1 z2 z3 z4 z5 y
  refine hK.out _ _ ?_
  clear hK K
  refine pure_ (i := 12) (N := some 21) (v := ?_) (a' := ?_) #[true, true, true, true, true, true, true, true, true, true, true, true, true] rfl rfl (by kernel_rfl) (fun _ _ _ h => h) (Or.inl ⟨by rfl, ?_⟩) ?_ ?_
  rotate_left
  · intro w'
    go_simp
    with_reducible rfl
  rotate_left
  · simp only [Act.put, List.setIfInBounds_toArray, List.set_cons_zero, List.set_cons_succ, i64_w, i32_w]
    rfl
  refine done_ (by kernel_rfl) ?_

  have hB9 : Below wd20.heap.size wd20 w920 := Fr.below F9 hB (Nat.le_refl _) (fun k hk => by omega)
  have H20 := Lib.hid (show HE w920 t20 A20 0 c20 D20 0 d20 ⟨[], 0, 0, [], false, 0⟩ from ⟨Z9, (Kd.V_reads' (Kd.V_step hO (fun k hk hlt => F9.same k hlt hk))).2.2, (Kd.V_reads' (Kd.V_step hI (fun k hk hlt => F9.same k hlt hk))).2.2⟩)
  replace H1 := Lib.hid (H1.out.below hB9)
  replace H3 := Lib.hid (H3.out.below hB9)
  replace H4 := Lib.hid (H4.out.below hB9)
  replace H9 := Lib.hid (H9.out.below hB9)
  replace H11 := Lib.hid (H11.out.below hB9)
  replace H13 := Lib.hid (H13.out.below hB9)
  replace H16 := Lib.hid (H16.out.below hB9)
  replace H18 := Lib.hid (H18.out.below hB9)
  replace S3 := Lib.hid (S3.out.below hB9)
  replace S13 := Lib.hid (S13.out.below hB9)
  replace B := Lib.hid (bb B.out hB9)
  clear hB9 hB htle hZ hO hI Z9 F9 hHeld
  have h110 := H11.out.blk.c0; have h111 := H11.out.blk.c1; have h112 := H11.out.blk.c2; have h113 := H11.out.blk.c3; have h114 := H11.out.blk.c4; have h115 := H11.out.blk.c5
  have h160 := H16.out.blk.c0; have h161 := H16.out.blk.c1; have h162 := H16.out.blk.c2; have h163 := H16.out.blk.c3; have h164 := H16.out.blk.c4; have h165 := H16.out.blk.c5
  obtain ⟨ad, hA, r0, _, _, _, _, _, _, r7⟩ := at_T39 H11.out.i 0 (by omega) (by omega)
  subst hA
  rw [show rd_T39 [rec9] 0 = rec9 from rfl] at r0 r7
  replace r0 : w920.cell? ad = some (.int .i64 9) := by have h := r0; simpa [Addr.add, rec9] using h
  replace r7 : w920.cell? ⟨ad.block, ad.off + 7, none⟩ = some (.int .i64 4) := by have h := r7; simpa [Addr.add, rec9] using h
  have s30 := S3.out.c0; have s31 := S3.out.c1; have s130 := S13.out.c0; have s131 := S13.out.c1
  go_wp2_with fail
  refine (clCheck_calls A16 c16 [] 1 0 (.slice D16 0 d16) false (-1) _ H16.out.o).mono ?_
  rw [show clCheck [] 1 0 (-1) = 0 from rfl]
  rintro e w22 ⟨rfl, hb⟩
  replace B := Lib.hid (bb B.out hb)
  clear hb
  go_wp2_with fail
  go_ret
  exact ⟨rfl, B.out⟩
def crossbarlaw30_sane.f : Option (Bool) := some true
end Go.Proofs.Ytbfhohpbldadbaa.P
